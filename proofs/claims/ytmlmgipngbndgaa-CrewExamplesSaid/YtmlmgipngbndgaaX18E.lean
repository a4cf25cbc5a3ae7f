/- A part of the proof: rules for walks, and contracts of functions (5). -/
import Derived.Test.YtmlmgipngbndgaaX18D
import Derived.Test.YtmlmgipngbndgaaX18B
import Derived.Test.YtmlmgipngbndgaaX18C
set_option linter.unusedVariables false
set_option linter.unusedSimpArgs false
set_option maxRecDepth 100000
set_option maxHeartbeats 2000000
namespace Go.Proofs.Ytmlmgipngbndgaa
open Go.RowKit
attribute [local irreducible] OQ OS OX Rd T TL GX GL AL AI RV wpG SAny Calls
def FitAt (S : List Sh) (i : Nat) : Prop := ∀ x, S[i]? = some x → shOk x ∧ ∀ p, 0 < i → S[i - 1]? = some p → p.who = x.who → p.to ≤ x.fr
theorem fit_all {S : List Sh} : Fit S ↔ ∀ j, j < S.length → FitAt S j := by
 constructor
 ·intro h j _ x hx; exact h j x hx
 ·intro h i x hx; exact h i (List.getElem?_eq_some_iff.1 hx).1 x hx
theorem allFrom_one {lo hi z : Int} : allFrom lo hi [z] = true ↔ lo ≤ z ∧ z ≤ hi := by
 unfold allFrom; simp
theorem fitsR_calls (A : Option Addr) (n c : Nat) (l : List Sh) (w : World) (hr : RdS w 3 A n (l.map shCells)) (hA : A = none → n = 0 ∧ c = 0) (hn : n ≤ 1000000) :
  Calls Try.prog 84 #[.slice A n c] w fun e w' => e = .returned (.bool (decide (Ros l))) ∧ Ext w w' := by
 have hl := hr.len
 simp only [List.length_map] at hl
 obtain ⟨S, hS⟩ : ∃ S, srtS l = S := ⟨_, rfl⟩
 have hsl : S.length = n := by rw [← hS, srtS, srt_len, hl]
 have hfa : Ros l ↔ ∀ j, j < n → FitAt S j := by rw [← fitS_iff l, hS, fit_all, hsl]
 refine enterQ (c := cx w 63) Try.func84 rfl rfl rfl rfl ?_
 refine t_cut (ι := Unit) (fun _ => [(0, .slice A n c)]) (fun _ => []) (fun _ => True) ?_ ?_
 ·repeat' (first | (apply oq_fn; exact rfl; try first | exact trivial | (and_intros <;> omega)) | (with_reducible apply tl_nil) | ((with_reducible apply u_q); (iterate 4 exact rfl)) | (apply t_region; kernel_rfl))
  all_goals exact ⟨rfl, (), trivial, by (repeat (first | exact FrSub.nil | (apply FrSub.cons; exact rfl))), by (repeat (first | exact HpSub.refl _ | (apply HpSub.consE; (repeat (first | exact P0 | apply P1)); exact rfl) | exact HpSub.nil))⟩
 rintro ⟨⟩ -
 refine t_cut (ι := Option (Nat × Nat)) (fun x => [(0, .slice (clA x) n (clC x))]) (fun x => clH 101 3 (shB S) x) (fun x => x = none → n = 0) ?_ ?_
 ·repeat' (first | (apply oq_fn; exact rfl; try first | exact trivial | (and_intros <;> omega)) | (with_reducible apply tl_nil) | ((with_reducible apply u_s); (iterate 3 exact rfl); (with_reducible apply os_callF (PV := ArrO S) (k := 110) (hc := Try.call110)); exact rfl; exact rfl; exact fun D w1 hw1 => (by rw [← hS]; exact arranged_T A n c l w1 (hr.ext hw1.ext.ext) hA hn); rintro v H' ⟨x, hx, rfl, rfl⟩; (try simp only [List.append_nil])) | ((with_reducible apply u_q); (iterate 4 exact rfl)) | (apply t_region; kernel_rfl))
  all_goals (rw [hsl] at hx)
  all_goals exact ⟨by trivial, x, hx, by (rw [hsl]; (repeat (first | exact FrSub.nil | (apply FrSub.cons; exact rfl)))), by (repeat (first | exact HpSub.refl _ | apply HpSub.appC | exact HpSub.nil))⟩
 rintro x hx
 rcases x with _ | ⟨g, cp⟩
 ·obtain rfl := hx rfl
  simp only [clA, clC, clH]
  rw [decide_eq_true (hfa.2 fun j hj => by omega)]
  repeat' (first | (apply oq_fn; exact rfl; try first | exact trivial | (and_intros <;> omega)) | (with_reducible apply tl_nil) | ((with_reducible apply u_q); (iterate 4 exact rfl)) | (with_reducible apply t_seq) | (apply t_region; kernel_rfl) | (with_reducible apply t_block) | with_reducible apply q_thenN)
  apply t_loopK (ι := Unit) [0, 7, 8] (fun _ => [(9, .int .i64 0)]) (fun _ => []) (fun _ => True) (fun _ => 0) (())
  (repeat (first | exact KeepF.nil | (apply KeepF.cons; exact rfl) | apply KeepF.skip))
  (repeat (first | exact FrSub.nil | (apply FrSub.cons; exact rfl)))
  (repeat (first | exact HpSub.refl _ | (apply HpSub.consE; (repeat (first | exact P0 | apply P1)); exact rfl) | exact HpSub.nil))
  ·trivial
  rintro ⟨⟩ -
  repeat' (first | ((with_reducible apply oq_lssF); exact rfl; exact rfl; omega) | (apply oq_fn; exact rfl; try first | exact trivial | (and_intros <;> omega)) | (with_reducible apply tl_nil) | ((with_reducible apply u_q); (iterate 4 exact rfl)) | (with_reducible apply t_seq) | (apply t_region; kernel_rfl) | ((with_reducible apply t_condF); exact rfl) | (with_reducible apply t_ret) | (with_reducible apply t_exit) | with_reducible apply q_thenN | with_reducible apply q_thenE | ((with_reducible apply q_blockE); exact rfl) | (with_reducible apply end_ret) | exact rvs_nil | (with_reducible apply rvs_cons) | ((with_reducible apply rv_tmp); exact rfl))
  all_goals rfl
 ·simp only [clA, clC, clH]
  repeat' (first | (apply oq_fn; exact rfl; try first | exact trivial | (and_intros <;> omega)) | (with_reducible apply tl_nil) | ((with_reducible apply u_q); (iterate 4 exact rfl)) | (with_reducible apply t_seq) | (apply t_region; kernel_rfl) | (with_reducible apply t_block) | with_reducible apply q_thenN)
  apply t_loopK (ι := Nat) [0, 7, 8] (fun k => [(9, .int .i64 (k : Nat))]) (fun _ => [(g, shB S, some (101, 3, cp))]) (fun k => k ≤ n ∧ ∀ j, j < k → FitAt S j) (fun k => n - k) (0)
  (repeat (first | exact KeepF.nil | (apply KeepF.cons; exact rfl) | apply KeepF.skip))
  (repeat (first | exact FrSub.nil | (apply FrSub.cons; exact rfl)))
  (repeat (first | exact HpSub.refl _ | (apply HpSub.consE; (repeat (first | exact P0 | apply P1)); exact rfl) | exact HpSub.nil))
  ·exact ⟨Nat.zero_le _, fun j hj => by omega⟩
  rintro k ⟨hk, hok⟩
  try simp only [List.cons_append, List.nil_append]
  by_cases hlt : k < n
  ·obtain ⟨x, hx⟩ : ∃ x, S[k]? = some x := ⟨_, List.getElem?_eq_getElem (by omega)⟩
   obtain ⟨q0, q1, q2⟩ := sh_at hx
   obtain ⟨q, hq⟩ : ∃ q, allFrom 0 5 [x.who] = q := ⟨_, rfl⟩
   have hno : ¬ FitAt S k → decide (Ros l) = false := fun h => decide_eq_false fun hc => h (hfa.1 hc k hlt)
   cases q with
   | false =>
    have hw : ¬ (0 ≤ x.who ∧ x.who ≤ 5) := by rw [← allFrom_one, hq]; decide
    rw [hno fun h => hw (h x hx).1.1]
    repeat' (first | (focus ((with_reducible apply oq_indexAddrN); (iterate 4 exact rfl); omega)) | ((with_reducible apply oq_lssT); exact rfl; exact rfl; omega) | (apply oq_fn; exact rfl; try first | exact trivial | (and_intros <;> omega)) | ((with_reducible apply oq_load); exact rfl; exact rfl) | ((with_reducible apply oq_loadAgg); exact rfl; exact rfl) | ((with_reducible apply oq_call (k := 63) (hc := Try.call63)); exact rfl; exact rfl; exact fun D w1 hw1 => fromOne hq hw1 (by (repeat (first | exact P0 | apply P1)))) | (with_reducible apply tl_nil) | ((with_reducible apply u_q); (iterate 4 exact rfl)) | ((with_reducible apply u_s0); exact rfl; exact rfl) | ((with_reducible apply u_s); (iterate 3 exact rfl)) | (with_reducible apply v_nil) | ((with_reducible apply v_q); (iterate 3 exact rfl)) | ((with_reducible apply v_skip); (iterate 3 exact rfl)) | ((with_reducible apply os_x); exact rfl) | ((with_reducible apply os_storeAgg); (iterate 5 exact rfl)) | ((with_reducible apply ox_alloc); exact rfl; intro _) | ((with_reducible apply ox_buildSlice1); (iterate 6 exact rfl); intro _) | ((with_reducible apply ai_q); (iterate 5 exact rfl)) | ((with_reducible apply ai_x); (iterate 5 exact rfl)) | (apply Rd.own; (repeat (first | exact P0 | apply P1)); first | exact q0 | exact q1 | exact q2 | exact r0 | exact r1 | exact r2; done) | (apply Rd.own; (repeat (first | exact P0 | apply P1)); exact rfl; done) | (apply t_mix (id := 5) [0, 1] 46 #[false, false, false, false, false, false, false, false, false, false, false, false, false, false, false, false, false, false, false, false, false, false, false, false, false, false, false, false, false, false, false, false, false, false, false, false, false, false, false, false, false, false, false, false, false, false, false, false]; kernel_rfl; kernel_rfl; exact rfl) | (with_reducible apply t_seq) | (apply t_region; kernel_rfl) | ((with_reducible apply t_condT); exact rfl) | (with_reducible apply t_ret) | (with_reducible apply t_skip) | (with_reducible apply t_block) | with_reducible apply q_thenN | with_reducible apply q_thenR | with_reducible apply q_blockR | exact P0 | exact Rdn.zero | apply Rdn.succ | ((with_reducible apply Norm.nil); exact rfl) | ((with_reducible apply Norm.cons); exact rfl) | (with_reducible apply end_ret) | exact rvs_nil | (with_reducible apply rvs_cons) | ((with_reducible apply rv_tmp); exact rfl) | (apply al_more [4, 5, 6, 7, 8, 9, 10, 11, 12, 13, 14, 15, 16, 17, 18, 19, 20, 21, 22, 23, 24, 25, 26, 27, 28, 29, 30, 31, 32, 33, 34, 35, 36, 37, 38, 39, 40, 41, 42, 43, 44, 45, 46, 47] 0; decide +kernel; exact rfl; exact rfl; focus (repeat (first | exact HpSub.refl _ | (apply HpSub.cons; (repeat (first | exact P0 | apply P1))) | apply HpSub.skipX | exact HpSub.nil))) | (apply al_done; decide +kernel) | (apply al_one 2; decide +kernel) | (apply al_one 3; decide +kernel) | exact Nat.le_of_ble_eq_true rfl)
    all_goals rfl
   | true =>
    have hw : 0 ≤ x.who ∧ x.who ≤ 5 := allFrom_one.1 hq
    by_cases h1 : x.fr < 0
    ·rw [hno fun h => by have := (h x hx).1; unfold shOk at this; omega]
     repeat' (first | (focus ((with_reducible apply oq_indexAddrN); (iterate 4 exact rfl); omega)) | ((with_reducible apply oq_lssT); exact rfl; exact rfl; omega) | (apply oq_fn; exact rfl; try first | exact trivial | (and_intros <;> omega)) | ((with_reducible apply oq_load); exact rfl; exact rfl) | ((with_reducible apply oq_loadAgg); exact rfl; exact rfl) | ((with_reducible apply oq_call (k := 63) (hc := Try.call63)); exact rfl; exact rfl; exact fun D w1 hw1 => fromOne hq hw1 (by (repeat (first | exact P0 | apply P1)))) | (with_reducible apply tl_nil) | ((with_reducible apply u_q); (iterate 4 exact rfl)) | ((with_reducible apply u_s0); exact rfl; exact rfl) | ((with_reducible apply u_s); (iterate 3 exact rfl)) | (with_reducible apply v_nil) | ((with_reducible apply v_q); (iterate 3 exact rfl)) | ((with_reducible apply v_skip); (iterate 3 exact rfl)) | ((with_reducible apply os_x); exact rfl) | ((with_reducible apply os_storeAgg); (iterate 5 exact rfl)) | ((with_reducible apply ox_alloc); exact rfl; intro _) | ((with_reducible apply ox_buildSlice1); (iterate 6 exact rfl); intro _) | ((with_reducible apply ai_q); (iterate 5 exact rfl)) | ((with_reducible apply ai_x); (iterate 5 exact rfl)) | (apply Rd.own; (repeat (first | exact P0 | apply P1)); first | exact q0 | exact q1 | exact q2 | exact r0 | exact r1 | exact r2; done) | (apply Rd.own; (repeat (first | exact P0 | apply P1)); exact rfl; done) | (apply t_mix (id := 5) [0, 1] 46 #[false, false, false, false, false, false, false, false, false, false, false, false, false, false, false, false, false, false, false, false, false, false, false, false, false, false, false, false, false, false, false, false, false, false, false, false, false, false, false, false, false, false, false, false, false, false, false, false]; kernel_rfl; kernel_rfl; exact rfl) | (with_reducible apply t_seq) | (apply t_region; kernel_rfl) | ((with_reducible apply t_condT); exact rfl) | (with_reducible apply t_ret) | (with_reducible apply t_skip) | (with_reducible apply t_block) | with_reducible apply q_thenN | with_reducible apply q_thenR | with_reducible apply q_blockR | exact P0 | exact Rdn.zero | apply Rdn.succ | ((with_reducible apply Norm.nil); exact rfl) | ((with_reducible apply Norm.cons); exact rfl) | (with_reducible apply end_ret) | exact rvs_nil | (with_reducible apply rvs_cons) | ((with_reducible apply rv_tmp); exact rfl) | (apply al_more [4, 5, 6, 7, 8, 9, 10, 11, 12, 13, 14, 15, 16, 17, 18, 19, 20, 21, 22, 23, 24, 25, 26, 27, 28, 29, 30, 31, 32, 33, 34, 35, 36, 37, 38, 39, 40, 41, 42, 43, 44, 45, 46, 47] 0; decide +kernel; exact rfl; exact rfl; focus (repeat (first | exact HpSub.refl _ | (apply HpSub.cons; (repeat (first | exact P0 | apply P1))) | apply HpSub.skipX | exact HpSub.nil))) | (apply al_done; decide +kernel) | (apply al_one 2; decide +kernel) | (apply al_one 3; decide +kernel) | exact Nat.le_of_ble_eq_true rfl)
     all_goals rfl
    by_cases h2 : x.to ≤ x.fr
    ·rw [hno fun h => by have := (h x hx).1; unfold shOk at this; omega]
     repeat' (first | (focus ((with_reducible apply oq_indexAddrN); (iterate 4 exact rfl); omega)) | ((with_reducible apply oq_lssT); exact rfl; exact rfl; omega) | ((with_reducible apply oq_lssF); exact rfl; exact rfl; omega) | ((with_reducible apply oq_geqT); exact rfl; exact rfl; omega) | (apply oq_fn; exact rfl; try first | exact trivial | (and_intros <;> omega)) | ((with_reducible apply oq_load); exact rfl; exact rfl) | ((with_reducible apply oq_loadAgg); exact rfl; exact rfl) | ((with_reducible apply oq_call (k := 63) (hc := Try.call63)); exact rfl; exact rfl; exact fun D w1 hw1 => fromOne hq hw1 (by (repeat (first | exact P0 | apply P1)))) | (with_reducible apply tl_nil) | ((with_reducible apply u_q); (iterate 4 exact rfl)) | ((with_reducible apply u_s0); exact rfl; exact rfl) | ((with_reducible apply u_s); (iterate 3 exact rfl)) | (with_reducible apply v_nil) | ((with_reducible apply v_q); (iterate 3 exact rfl)) | ((with_reducible apply v_skip); (iterate 3 exact rfl)) | ((with_reducible apply os_x); exact rfl) | ((with_reducible apply os_storeAgg); (iterate 5 exact rfl)) | ((with_reducible apply ox_alloc); exact rfl; intro _) | ((with_reducible apply ox_buildSlice1); (iterate 6 exact rfl); intro _) | ((with_reducible apply ai_q); (iterate 5 exact rfl)) | ((with_reducible apply ai_x); (iterate 5 exact rfl)) | (apply Rd.own; (repeat (first | exact P0 | apply P1)); first | exact q0 | exact q1 | exact q2 | exact r0 | exact r1 | exact r2; done) | (apply Rd.own; (repeat (first | exact P0 | apply P1)); exact rfl; done) | (apply t_mix (id := 5) [0, 1] 46 #[false, false, false, false, false, false, false, false, false, false, false, false, false, false, false, false, false, false, false, false, false, false, false, false, false, false, false, false, false, false, false, false, false, false, false, false, false, false, false, false, false, false, false, false, false, false, false, false]; kernel_rfl; kernel_rfl; exact rfl) | (with_reducible apply t_seq) | (apply t_region; kernel_rfl) | ((with_reducible apply t_condT); exact rfl) | (with_reducible apply t_ret) | (with_reducible apply t_skip) | (with_reducible apply t_block) | with_reducible apply q_thenN | with_reducible apply q_thenR | with_reducible apply q_blockR | exact P0 | exact Rdn.zero | apply Rdn.succ | ((with_reducible apply Norm.nil); exact rfl) | ((with_reducible apply Norm.cons); exact rfl) | (with_reducible apply end_ret) | exact rvs_nil | (with_reducible apply rvs_cons) | ((with_reducible apply rv_tmp); exact rfl) | (apply al_more [4, 5, 6, 7, 8, 9, 10, 11, 12, 13, 14, 15, 16, 17, 18, 19, 20, 21, 22, 23, 24, 25, 26, 27, 28, 29, 30, 31, 32, 33, 34, 35, 36, 37, 38, 39, 40, 41, 42, 43, 44, 45, 46, 47] 0; decide +kernel; exact rfl; exact rfl; focus (repeat (first | exact HpSub.refl _ | (apply HpSub.cons; (repeat (first | exact P0 | apply P1))) | apply HpSub.skipX | exact HpSub.nil))) | (apply al_done; decide +kernel) | (apply al_one 2; decide +kernel) | (apply al_one 3; decide +kernel) | exact Nat.le_of_ble_eq_true rfl)
     all_goals rfl
    by_cases h3 : 1000000 < x.to
    ·rw [hno fun h => by have := (h x hx).1; unfold shOk at this; omega]
     repeat' (first | (focus ((with_reducible apply oq_indexAddrN); (iterate 4 exact rfl); omega)) | ((with_reducible apply oq_lssT); exact rfl; exact rfl; omega) | ((with_reducible apply oq_lssF); exact rfl; exact rfl; omega) | ((with_reducible apply oq_geqF); exact rfl; exact rfl; omega) | ((with_reducible apply oq_gtrT); exact rfl; exact rfl; omega) | (apply oq_fn; exact rfl; try first | exact trivial | (and_intros <;> omega)) | ((with_reducible apply oq_load); exact rfl; exact rfl) | ((with_reducible apply oq_loadAgg); exact rfl; exact rfl) | ((with_reducible apply oq_call (k := 63) (hc := Try.call63)); exact rfl; exact rfl; exact fun D w1 hw1 => fromOne hq hw1 (by (repeat (first | exact P0 | apply P1)))) | (with_reducible apply tl_nil) | ((with_reducible apply u_q); (iterate 4 exact rfl)) | ((with_reducible apply u_s0); exact rfl; exact rfl) | ((with_reducible apply u_s); (iterate 3 exact rfl)) | (with_reducible apply v_nil) | ((with_reducible apply v_q); (iterate 3 exact rfl)) | ((with_reducible apply v_skip); (iterate 3 exact rfl)) | ((with_reducible apply os_x); exact rfl) | ((with_reducible apply os_storeAgg); (iterate 5 exact rfl)) | ((with_reducible apply ox_alloc); exact rfl; intro _) | ((with_reducible apply ox_buildSlice1); (iterate 6 exact rfl); intro _) | ((with_reducible apply ai_q); (iterate 5 exact rfl)) | ((with_reducible apply ai_x); (iterate 5 exact rfl)) | (apply Rd.own; (repeat (first | exact P0 | apply P1)); first | exact q0 | exact q1 | exact q2 | exact r0 | exact r1 | exact r2; done) | (apply Rd.own; (repeat (first | exact P0 | apply P1)); exact rfl; done) | (apply t_mix (id := 5) [0, 1] 46 #[false, false, false, false, false, false, false, false, false, false, false, false, false, false, false, false, false, false, false, false, false, false, false, false, false, false, false, false, false, false, false, false, false, false, false, false, false, false, false, false, false, false, false, false, false, false, false, false]; kernel_rfl; kernel_rfl; exact rfl) | (with_reducible apply t_seq) | (apply t_region; kernel_rfl) | ((with_reducible apply t_condT); exact rfl) | (with_reducible apply t_ret) | (with_reducible apply t_skip) | (with_reducible apply t_block) | with_reducible apply q_thenN | with_reducible apply q_thenR | with_reducible apply q_blockR | exact P0 | exact Rdn.zero | apply Rdn.succ | ((with_reducible apply Norm.nil); exact rfl) | ((with_reducible apply Norm.cons); exact rfl) | (with_reducible apply end_ret) | exact rvs_nil | (with_reducible apply rvs_cons) | ((with_reducible apply rv_tmp); exact rfl) | (apply al_more [4, 5, 6, 7, 8, 9, 10, 11, 12, 13, 14, 15, 16, 17, 18, 19, 20, 21, 22, 23, 24, 25, 26, 27, 28, 29, 30, 31, 32, 33, 34, 35, 36, 37, 38, 39, 40, 41, 42, 43, 44, 45, 46, 47] 0; decide +kernel; exact rfl; exact rfl; focus (repeat (first | exact HpSub.refl _ | (apply HpSub.cons; (repeat (first | exact P0 | apply P1))) | apply HpSub.skipX | exact HpSub.nil))) | (apply al_done; decide +kernel) | (apply al_one 2; decide +kernel) | (apply al_one 3; decide +kernel) | exact Nat.le_of_ble_eq_true rfl)
     all_goals rfl
    have hxo : shOk x := ⟨hw, by omega, by omega, by omega⟩
    have hnext : FitAt S k → ∀ j, j < k + 1 → FitAt S j := fun h j hj => by
     by_cases hjk : j = k
     ·subst hjk; exact h
     ·exact hok j (by omega)
    by_cases h4 : k = 0
    ·subst h4
     repeat' (first | (focus ((with_reducible apply oq_indexAddrN); (iterate 4 exact rfl); omega)) | ((with_reducible apply oq_lssT); exact rfl; exact rfl; omega) | ((with_reducible apply oq_lssF); exact rfl; exact rfl; omega) | ((with_reducible apply oq_geqF); exact rfl; exact rfl; omega) | ((with_reducible apply oq_gtrF); exact rfl; exact rfl; omega) | (apply oq_fn; exact rfl; try first | exact trivial | (and_intros <;> omega)) | ((with_reducible apply oq_load); exact rfl; exact rfl) | ((with_reducible apply oq_loadAgg); exact rfl; exact rfl) | ((with_reducible apply oq_call (k := 63) (hc := Try.call63)); exact rfl; exact rfl; exact fun D w1 hw1 => fromOne hq hw1 (by (repeat (first | exact P0 | apply P1)))) | (with_reducible apply tl_nil) | ((with_reducible apply u_q); (iterate 4 exact rfl)) | ((with_reducible apply u_s0); exact rfl; exact rfl) | ((with_reducible apply u_s); (iterate 3 exact rfl)) | (with_reducible apply v_nil) | ((with_reducible apply v_q); (iterate 3 exact rfl)) | ((with_reducible apply v_skip); (iterate 3 exact rfl)) | ((with_reducible apply os_x); exact rfl) | ((with_reducible apply os_storeAgg); (iterate 5 exact rfl)) | ((with_reducible apply ox_alloc); exact rfl; intro _) | ((with_reducible apply ox_buildSlice1); (iterate 6 exact rfl); intro _) | ((with_reducible apply ai_q); (iterate 5 exact rfl)) | ((with_reducible apply ai_x); (iterate 5 exact rfl)) | (apply Rd.own; (repeat (first | exact P0 | apply P1)); first | exact q0 | exact q1 | exact q2 | exact r0 | exact r1 | exact r2; done) | (apply Rd.own; (repeat (first | exact P0 | apply P1)); exact rfl; done) | (apply t_mix (id := 5) [0, 1] 46 #[false, false, false, false, false, false, false, false, false, false, false, false, false, false, false, false, false, false, false, false, false, false, false, false, false, false, false, false, false, false, false, false, false, false, false, false, false, false, false, false, false, false, false, false, false, false, false, false]; kernel_rfl; kernel_rfl; exact rfl) | (with_reducible apply t_seq) | (apply t_region; kernel_rfl) | ((with_reducible apply t_condT); exact rfl) | ((with_reducible apply t_condF); exact rfl) | (with_reducible apply t_skip) | (with_reducible apply t_block) | with_reducible apply q_thenN | with_reducible apply q_blockN | exact P0 | exact Rdn.zero | apply Rdn.succ | ((with_reducible apply Norm.nil); exact rfl) | ((with_reducible apply Norm.cons); exact rfl) | (apply al_more [4, 5, 6, 7, 8, 9, 10, 11, 12, 13, 14, 15, 16, 17, 18, 19, 20, 21, 22, 23, 24, 25, 26, 27, 28, 29, 30, 31, 32, 33, 34, 35, 36, 37, 38, 39, 40, 41, 42, 43, 44, 45, 46, 47] 0; decide +kernel; exact rfl; exact rfl; focus (repeat (first | exact HpSub.refl _ | (apply HpSub.cons; (repeat (first | exact P0 | apply P1))) | apply HpSub.skipX | exact HpSub.nil))) | (apply al_done; decide +kernel) | (apply al_one 2; decide +kernel) | (apply al_one 3; decide +kernel) | exact Nat.le_of_ble_eq_true rfl)
     all_goals (refine ⟨1, ⟨by omega, hnext fun y hy => by rw [hx] at hy; cases hy; exact ⟨hxo, fun p hp => by omega⟩⟩, (by omega), ?_, ?_⟩ <;> (try simp only [List.cons_append, List.nil_append]) <;> (repeat' (first | exact FrSub.nil | (apply FrSub.cons; exact rfl) | (apply HpSub.consE; (repeat (first | exact P0 | apply P1)); exact rfl) | exact HpSub.nil)))
    obtain ⟨y, hy⟩ : ∃ y, S[k - 1]? = some y := ⟨_, List.getElem?_eq_getElem (by omega)⟩
    obtain ⟨r0, r1, r2⟩ := sh_at hy
    by_cases h5 : y.who = x.who
    ·by_cases h6 : y.to ≤ x.fr
     ·repeat' (first | (focus ((with_reducible apply oq_indexAddrN); (iterate 4 exact rfl); omega)) | ((with_reducible apply oq_subE (k := ((k - 1 : Nat) : Int))); exact rfl; exact rfl; omega) | ((with_reducible apply oq_lssT); exact rfl; exact rfl; omega) | ((with_reducible apply oq_lssF); exact rfl; exact rfl; omega) | ((with_reducible apply oq_geqF); exact rfl; exact rfl; omega) | ((with_reducible apply oq_gtrT); exact rfl; exact rfl; omega) | ((with_reducible apply oq_gtrF); exact rfl; exact rfl; omega) | ((with_reducible apply oq_eqlT); exact rfl; exact rfl; omega) | (apply oq_fn; exact rfl; try first | exact trivial | (and_intros <;> omega)) | ((with_reducible apply oq_load); exact rfl; exact rfl) | ((with_reducible apply oq_loadAgg); exact rfl; exact rfl) | ((with_reducible apply oq_call (k := 63) (hc := Try.call63)); exact rfl; exact rfl; exact fun D w1 hw1 => fromOne hq hw1 (by (repeat (first | exact P0 | apply P1)))) | (with_reducible apply tl_nil) | ((with_reducible apply u_q); (iterate 4 exact rfl)) | ((with_reducible apply u_s0); exact rfl; exact rfl) | ((with_reducible apply u_s); (iterate 3 exact rfl)) | (with_reducible apply v_nil) | ((with_reducible apply v_q); (iterate 3 exact rfl)) | ((with_reducible apply os_x); exact rfl) | ((with_reducible apply os_storeAgg); (iterate 5 exact rfl)) | ((with_reducible apply ox_alloc); exact rfl; intro _) | ((with_reducible apply ox_buildSlice1); (iterate 6 exact rfl); intro _) | ((with_reducible apply ai_q); (iterate 5 exact rfl)) | ((with_reducible apply ai_x); (iterate 5 exact rfl)) | (apply Rd.own; (repeat (first | exact P0 | apply P1)); first | exact q0 | exact q1 | exact q2 | exact r0 | exact r1 | exact r2; done) | (apply Rd.own; (repeat (first | exact P0 | apply P1)); exact rfl; done) | (apply t_mix (id := 5) [0, 1] 46 #[false, false, false, false, false, false, false, false, false, false, false, false, false, false, false, false, false, false, false, false, false, false, false, false, false, false, false, false, false, false, false, false, false, false, false, false, false, false, false, false, false, false, false, false, false, false, false, false]; kernel_rfl; kernel_rfl; exact rfl) | (with_reducible apply t_seq) | (apply t_region; kernel_rfl) | ((with_reducible apply t_condT); exact rfl) | ((with_reducible apply t_condF); exact rfl) | (with_reducible apply t_skip) | (with_reducible apply t_block) | with_reducible apply q_thenN | with_reducible apply q_blockN | exact P0 | exact Rdn.zero | apply Rdn.succ | ((with_reducible apply Norm.nil); exact rfl) | ((with_reducible apply Norm.cons); exact rfl) | (apply al_more [4, 5, 6, 7, 8, 9, 10, 11, 12, 13, 14, 15, 16, 17, 18, 19, 20, 21, 22, 23, 24, 25, 26, 27, 28, 29, 30, 31, 32, 33, 34, 35, 36, 37, 38, 39, 40, 41, 42, 43, 44, 45, 46, 47] 0; decide +kernel; exact rfl; exact rfl; focus (repeat (first | exact HpSub.refl _ | (apply HpSub.cons; (repeat (first | exact P0 | apply P1))) | apply HpSub.skipX | exact HpSub.nil))) | (apply al_done; decide +kernel) | (apply al_one 2; decide +kernel) | (apply al_one 3; decide +kernel) | exact Nat.le_of_ble_eq_true rfl)
      all_goals (refine ⟨(k + 1), ⟨by omega, hnext fun z hz => by rw [hx] at hz; cases hz; exact ⟨hxo, fun p _ hp _ => by rw [hy] at hp; cases hp; exact h6⟩⟩, (by omega), ?_, ?_⟩ <;> (try simp only [List.cons_append, List.nil_append]) <;> (repeat' (first | exact FrSub.nil | (apply FrSub.cons; exact rfl) | (apply HpSub.consE; (repeat (first | exact P0 | apply P1)); exact rfl) | exact HpSub.nil)))
     ·rw [hno fun h => h6 ((h x hx).2 y (by omega) hy h5)]
      repeat' (first | (focus ((with_reducible apply oq_indexAddrN); (iterate 4 exact rfl); omega)) | ((with_reducible apply oq_subE (k := ((k - 1 : Nat) : Int))); exact rfl; exact rfl; omega) | ((with_reducible apply oq_lssT); exact rfl; exact rfl; omega) | ((with_reducible apply oq_lssF); exact rfl; exact rfl; omega) | ((with_reducible apply oq_geqF); exact rfl; exact rfl; omega) | ((with_reducible apply oq_gtrT); exact rfl; exact rfl; omega) | ((with_reducible apply oq_gtrF); exact rfl; exact rfl; omega) | ((with_reducible apply oq_eqlT); exact rfl; exact rfl; omega) | (apply oq_fn; exact rfl; try first | exact trivial | (and_intros <;> omega)) | ((with_reducible apply oq_load); exact rfl; exact rfl) | ((with_reducible apply oq_loadAgg); exact rfl; exact rfl) | ((with_reducible apply oq_call (k := 63) (hc := Try.call63)); exact rfl; exact rfl; exact fun D w1 hw1 => fromOne hq hw1 (by (repeat (first | exact P0 | apply P1)))) | (with_reducible apply tl_nil) | ((with_reducible apply u_q); (iterate 4 exact rfl)) | ((with_reducible apply u_s0); exact rfl; exact rfl) | ((with_reducible apply u_s); (iterate 3 exact rfl)) | (with_reducible apply v_nil) | ((with_reducible apply v_q); (iterate 3 exact rfl)) | ((with_reducible apply os_x); exact rfl) | ((with_reducible apply os_storeAgg); (iterate 5 exact rfl)) | ((with_reducible apply ox_alloc); exact rfl; intro _) | ((with_reducible apply ox_buildSlice1); (iterate 6 exact rfl); intro _) | ((with_reducible apply ai_q); (iterate 5 exact rfl)) | ((with_reducible apply ai_x); (iterate 5 exact rfl)) | (apply Rd.own; (repeat (first | exact P0 | apply P1)); first | exact q0 | exact q1 | exact q2 | exact r0 | exact r1 | exact r2; done) | (apply Rd.own; (repeat (first | exact P0 | apply P1)); exact rfl; done) | (apply t_mix (id := 5) [0, 1] 46 #[false, false, false, false, false, false, false, false, false, false, false, false, false, false, false, false, false, false, false, false, false, false, false, false, false, false, false, false, false, false, false, false, false, false, false, false, false, false, false, false, false, false, false, false, false, false, false, false]; kernel_rfl; kernel_rfl; exact rfl) | (with_reducible apply t_seq) | (apply t_region; kernel_rfl) | ((with_reducible apply t_condT); exact rfl) | (with_reducible apply t_ret) | (with_reducible apply t_skip) | (with_reducible apply t_block) | with_reducible apply q_thenN | with_reducible apply q_thenR | with_reducible apply q_blockR | exact P0 | exact Rdn.zero | apply Rdn.succ | ((with_reducible apply Norm.nil); exact rfl) | ((with_reducible apply Norm.cons); exact rfl) | (with_reducible apply end_ret) | exact rvs_nil | (with_reducible apply rvs_cons) | ((with_reducible apply rv_tmp); exact rfl) | (apply al_more [4, 5, 6, 7, 8, 9, 10, 11, 12, 13, 14, 15, 16, 17, 18, 19, 20, 21, 22, 23, 24, 25, 26, 27, 28, 29, 30, 31, 32, 33, 34, 35, 36, 37, 38, 39, 40, 41, 42, 43, 44, 45, 46, 47] 0; decide +kernel; exact rfl; exact rfl; focus (repeat (first | exact HpSub.refl _ | (apply HpSub.cons; (repeat (first | exact P0 | apply P1))) | apply HpSub.skipX | exact HpSub.nil))) | (apply al_done; decide +kernel) | (apply al_one 2; decide +kernel) | (apply al_one 3; decide +kernel) | exact Nat.le_of_ble_eq_true rfl)
      all_goals rfl
    ·repeat' (first | (focus ((with_reducible apply oq_indexAddrN); (iterate 4 exact rfl); omega)) | ((with_reducible apply oq_subE (k := ((k - 1 : Nat) : Int))); exact rfl; exact rfl; omega) | ((with_reducible apply oq_lssT); exact rfl; exact rfl; omega) | ((with_reducible apply oq_lssF); exact rfl; exact rfl; omega) | ((with_reducible apply oq_geqF); exact rfl; exact rfl; omega) | ((with_reducible apply oq_gtrT); exact rfl; exact rfl; omega) | ((with_reducible apply oq_gtrF); exact rfl; exact rfl; omega) | ((with_reducible apply oq_eqlF); exact rfl; exact rfl; omega) | (apply oq_fn; exact rfl; try first | exact trivial | (and_intros <;> omega)) | ((with_reducible apply oq_load); exact rfl; exact rfl) | ((with_reducible apply oq_loadAgg); exact rfl; exact rfl) | ((with_reducible apply oq_call (k := 63) (hc := Try.call63)); exact rfl; exact rfl; exact fun D w1 hw1 => fromOne hq hw1 (by (repeat (first | exact P0 | apply P1)))) | (with_reducible apply tl_nil) | ((with_reducible apply u_q); (iterate 4 exact rfl)) | ((with_reducible apply u_s0); exact rfl; exact rfl) | ((with_reducible apply u_s); (iterate 3 exact rfl)) | (with_reducible apply v_nil) | ((with_reducible apply v_q); (iterate 3 exact rfl)) | ((with_reducible apply v_skip); (iterate 3 exact rfl)) | ((with_reducible apply os_x); exact rfl) | ((with_reducible apply os_storeAgg); (iterate 5 exact rfl)) | ((with_reducible apply ox_alloc); exact rfl; intro _) | ((with_reducible apply ox_buildSlice1); (iterate 6 exact rfl); intro _) | ((with_reducible apply ai_q); (iterate 5 exact rfl)) | ((with_reducible apply ai_x); (iterate 5 exact rfl)) | (apply Rd.own; (repeat (first | exact P0 | apply P1)); first | exact q0 | exact q1 | exact q2 | exact r0 | exact r1 | exact r2; done) | (apply Rd.own; (repeat (first | exact P0 | apply P1)); exact rfl; done) | (apply t_mix (id := 5) [0, 1] 46 #[false, false, false, false, false, false, false, false, false, false, false, false, false, false, false, false, false, false, false, false, false, false, false, false, false, false, false, false, false, false, false, false, false, false, false, false, false, false, false, false, false, false, false, false, false, false, false, false]; kernel_rfl; kernel_rfl; exact rfl) | (with_reducible apply t_seq) | (apply t_region; kernel_rfl) | ((with_reducible apply t_condT); exact rfl) | ((with_reducible apply t_condF); exact rfl) | (with_reducible apply t_skip) | (with_reducible apply t_block) | with_reducible apply q_thenN | with_reducible apply q_blockN | exact P0 | exact Rdn.zero | apply Rdn.succ | ((with_reducible apply Norm.nil); exact rfl) | ((with_reducible apply Norm.cons); exact rfl) | (apply al_more [4, 5, 6, 7, 8, 9, 10, 11, 12, 13, 14, 15, 16, 17, 18, 19, 20, 21, 22, 23, 24, 25, 26, 27, 28, 29, 30, 31, 32, 33, 34, 35, 36, 37, 38, 39, 40, 41, 42, 43, 44, 45, 46, 47] 0; decide +kernel; exact rfl; exact rfl; focus (repeat (first | exact HpSub.refl _ | (apply HpSub.cons; (repeat (first | exact P0 | apply P1))) | apply HpSub.skipX | exact HpSub.nil))) | (apply al_done; decide +kernel) | (apply al_one 2; decide +kernel) | (apply al_one 3; decide +kernel) | exact Nat.le_of_ble_eq_true rfl)
     all_goals (refine ⟨(k + 1), ⟨by omega, hnext fun z hz => by rw [hx] at hz; cases hz; exact ⟨hxo, fun p _ hp hpw => by rw [hy] at hp; cases hp; exact absurd hpw h5⟩⟩, (by omega), ?_, ?_⟩ <;> (try simp only [List.cons_append, List.nil_append]) <;> (repeat' (first | exact FrSub.nil | (apply FrSub.cons; exact rfl) | (apply HpSub.consE; (repeat (first | exact P0 | apply P1)); exact rfl) | exact HpSub.nil)))
  ·rw [decide_eq_true (hfa.2 fun j hj => hok j (by omega))]
   repeat' (first | ((with_reducible apply oq_lssF); exact rfl; exact rfl; omega) | (apply oq_fn; exact rfl; try first | exact trivial | (and_intros <;> omega)) | (with_reducible apply tl_nil) | ((with_reducible apply u_q); (iterate 4 exact rfl)) | (with_reducible apply t_seq) | (apply t_region; kernel_rfl) | ((with_reducible apply t_condF); exact rfl) | (with_reducible apply t_ret) | (with_reducible apply t_exit) | with_reducible apply q_thenN | with_reducible apply q_thenE | ((with_reducible apply q_blockE); exact rfl) | (with_reducible apply end_ret) | exact rvs_nil | (with_reducible apply rvs_cons) | ((with_reducible apply rv_tmp); exact rfl))
   all_goals rfl
theorem rosR_calls (A : Option Addr) (n c : Nat) (l : List Sh) (w : World) (hr : RdS w 3 A n (l.map shCells)) (hA : A = none → n = 0 ∧ c = 0) (hn : n ≤ 1000000) :
  Calls Try.prog 46 #[.slice A n c] w fun e w' => e = .returned (.int .i64 (rosE l)) ∧ Ext w w' := by
 have hl := hr.len
 simp only [List.length_map] at hl
 unfold rosE
 by_cases h1 : 40 < l.length
 ·rw [if_pos h1]
  refine enterQ (c := cx w 11) Try.func46 rfl rfl rfl rfl ?_
  repeat' (first | ((with_reducible apply oq_gtrT); exact rfl; exact rfl; omega) | (apply oq_fn; exact rfl; try first | exact trivial | (and_intros <;> omega)) | (with_reducible apply tl_nil) | ((with_reducible apply u_q); (iterate 4 exact rfl)) | (with_reducible apply t_seq) | (apply t_region; kernel_rfl) | ((with_reducible apply t_condT); exact rfl) | (with_reducible apply t_ret) | (with_reducible apply t_block) | with_reducible apply q_thenN | with_reducible apply q_thenR | with_reducible apply q_blockR | (with_reducible apply end_ret) | exact rvs_nil | (with_reducible apply rvs_cons) | ((with_reducible apply rv_tmp); exact rfl))
  all_goals rfl
 ·rw [if_neg h1]
  have HF := fun w1 h => fitsR_calls A n c l w1 h hA hn
  by_cases h2 : Ros l
  ·rw [if_pos h2]
   rw [decide_eq_true h2] at HF
   refine enterQ (c := cx w 11) Try.func46 rfl rfl rfl rfl ?_
   repeat' (first | ((with_reducible apply oq_gtrF); exact rfl; exact rfl; omega) | (apply oq_fn; exact rfl; try first | exact trivial | (and_intros <;> omega)) | ((with_reducible apply oq_call (k := 84) (hc := Try.call84)); exact rfl; exact rfl; exact fun D w1 hw1 => HF w1 (hr.ext hw1.ext.ext)) | (with_reducible apply tl_nil) | ((with_reducible apply u_q); (iterate 4 exact rfl)) | (with_reducible apply t_seq) | (apply t_region; kernel_rfl) | ((with_reducible apply t_condF); exact rfl) | (with_reducible apply t_ret) | (with_reducible apply t_skip) | (with_reducible apply t_block) | with_reducible apply q_thenN | with_reducible apply q_blockN | (with_reducible apply end_ret) | exact rvs_nil | (with_reducible apply rvs_cons) | ((with_reducible apply rv_tmp); exact rfl))
   all_goals rfl
  ·rw [if_neg h2]
   rw [decide_eq_false h2] at HF
   refine enterQ (c := cx w 11) Try.func46 rfl rfl rfl rfl ?_
   repeat' (first | ((with_reducible apply oq_gtrF); exact rfl; exact rfl; omega) | (apply oq_fn; exact rfl; try first | exact trivial | (and_intros <;> omega)) | ((with_reducible apply oq_call (k := 84) (hc := Try.call84)); exact rfl; exact rfl; exact fun D w1 hw1 => HF w1 (hr.ext hw1.ext.ext)) | (with_reducible apply tl_nil) | ((with_reducible apply u_q); (iterate 4 exact rfl)) | (with_reducible apply t_seq) | (apply t_region; kernel_rfl) | ((with_reducible apply t_condT); exact rfl) | ((with_reducible apply t_condF); exact rfl) | (with_reducible apply t_ret) | (with_reducible apply t_block) | with_reducible apply q_thenN | with_reducible apply q_thenR | with_reducible apply q_blockR | (with_reducible apply end_ret) | exact rvs_nil | (with_reducible apply rvs_cons) | ((with_reducible apply rv_tmp); exact rfl))
   all_goals rfl
end Go.Proofs.Ytmlmgipngbndgaa
namespace Go.Proofs.Ytmlmgipngbndgaa
theorem minS_nonneg (who fr to : Int) (y : Sh) : 0 ≤ minS who fr to y := by unfold minS; split <;> omega
theorem sum_nonneg {α : Type} {f : α → Int} : ∀ {l : List α}, (∀ x ∈ l, 0 ≤ f x) → 0 ≤ (l.map f).sum
 | [], _ => Int.le_refl _
 | a :: l, h => by
  rw [List.map_cons, List.sum_cons]
  have := h a List.mem_cons_self
  have := sum_nonneg fun x hx => h x (List.mem_cons_of_mem _ hx)
  omega
theorem sum_perm {α : Type} (f : α → Int) {l m : List α} (h : l.Perm m) : (l.map f).sum = (m.map f).sum := by
 induction h with
 | nil => rfl
 | cons x _ ih => rw [List.map_cons, List.sum_cons, List.map_cons, List.sum_cons, ih]
 | swap x y l => simp only [List.map_cons, List.sum_cons]; omega
 | trans _ _ h1 h2 => rw [h1, h2]
theorem work_perm {l m : List Sh} (h : l.Perm m) (who fr to : Int) : workV l who fr to = workV m who fr to := sum_perm _ h
theorem work_nonneg (l : List Sh) (who fr to : Int) : 0 ≤ workV l who fr to := sum_nonneg fun y _ => minS_nonneg _ _ _ y
theorem work_app (l m : List Sh) (who fr to : Int) : workV (l ++ m) who fr to = workV l who fr to + workV m who fr to := by
 unfold workV; rw [List.map_append, List.sum_append]
/-- A case, told without an order. -/
def Cas (d : Du) (l : List Sh) (y : Ti) : Prop := ∃ x ∈ l, y.who = x.who ∧ y.at_ = x.fr ∧
 ((y.kind = 1 ∧ x.to - x.fr > d.most) ∨ (y.kind = 2 ∧ ∃ p ∈ l, p.who = x.who ∧ p.to ≤ x.fr ∧ x.fr - p.to < d.rest) ∨ (y.kind = 3 ∧ workV l x.who x.fr (x.fr + d.win) > d.sum))
theorem Cas.perm {d : Du} {l m : List Sh} (h : l.Perm m) {y : Ti} (hc : Cas d l y) : Cas d m y := by
 obtain ⟨x, hx, h1, h2, h3⟩ := hc
 refine ⟨x, h.mem_iff.1 hx, h1, h2, ?_⟩
 rcases h3 with h3 | ⟨h3, p, hp, h4⟩ | ⟨h3, h4⟩
 ·exact .inl h3
 ·exact .inr (.inl ⟨h3, p, h.mem_iff.1 hp, h4⟩)
 ·exact .inr (.inr ⟨h3, by rw [← work_perm h]; exact h4⟩)
/-! The order of shifts does not matter -/
theorem Ros.perm {l m : List Sh} (h : l.Perm m) (hr : Ros l) : Ros m := ⟨fun x hx => hr.1 x (h.mem_iff.2 hx), (h.pairwise_iff (R := fun x y => ¬ lap x y) (fun {x y} h1 h2 => h1 (lap_symm h2))).1 hr.2⟩
theorem Ros.sub {l m : List Sh} (h : Ros (l ++ m)) : Ros l := ⟨fun x hx => h.1 x (List.mem_append_left _ hx), (List.pairwise_append.1 h.2).1⟩
/-- One more shift takes no case away. -/
theorem Cas.more {d : Du} {l : List Sh} {y : Ti} (hc : Cas d l y) (m : List Sh) : Cas d (l ++ m) y := by
 obtain ⟨x, hx, h1, h2, h3⟩ := hc
 refine ⟨x, List.mem_append_left _ hx, h1, h2, ?_⟩
 rcases h3 with h3 | ⟨h3, p, hp, h4⟩ | ⟨h3, h4⟩
 ·exact .inl h3
 ·exact .inr (.inl ⟨h3, p, List.mem_append_left _ hp, h4⟩)
 ·refine .inr (.inr ⟨h3, ?_⟩)
  rw [work_app]
  have := work_nonneg m x.who x.fr (x.fr + d.win)
  omega
/-! Windows -/
end Go.Proofs.Ytmlmgipngbndgaa
namespace Go.Proofs.Ytmlmgipngbndgaa
open Go.RowKit
attribute [local irreducible] TR OQ OS OX Rd T TL GX GL AL AI RV wpG SAny Calls
theorem duty_T (w : World) : Calls Try.prog 44 #[.agg #[.int .i64 600, .int .i64 500, .int .i64 2000, .int .i64 1000]] w fun e w' => e = .returned (.int .i64 0) ∧ Ext w w' := by
 have hq1 : allFrom 1 100000 [600, 2000] = true := by decide
 have hq2 : allFrom 0 100000 [500] = true := by decide
 have hq3 : allFrom 0 2000 [1000] = true := by decide
 refine enterQ (c := cx w 26) Try.func44 rfl rfl rfl rfl ?_
 repeat' (first | (apply oq_fn; exact rfl; try first | exact trivial | (and_intros <;> omega)) | ((with_reducible apply oq_load); exact rfl; exact rfl) | ((with_reducible apply oq_call (k := 63) (hc := Try.call63)); exact rfl; exact rfl; exact fun D w1 hw1 => fromTwo hq1 hw1 (by (repeat (first | exact P0 | apply P1)))) | ((with_reducible apply oq_call (k := 63) (hc := Try.call63)); exact rfl; exact rfl; exact fun D w1 hw1 => fromOne hq2 hw1 (by (repeat (first | exact P0 | apply P1)))) | ((with_reducible apply oq_call (k := 63) (hc := Try.call63)); exact rfl; exact rfl; exact fun D w1 hw1 => fromOne hq3 hw1 (by (repeat (first | exact P0 | apply P1)))) | (with_reducible apply tl_nil) | ((with_reducible apply u_q); (iterate 4 exact rfl)) | ((with_reducible apply u_s); (iterate 3 exact rfl)) | ((with_reducible apply os_x); exact rfl) | ((with_reducible apply ox_boxAgg); exact rfl; intro _) | ((with_reducible apply ox_buildSlice1); (iterate 6 exact rfl); intro _) | (apply Rd.own; (repeat (first | exact P0 | apply P1)); exact rfl; done) | (with_reducible apply t_seq) | (apply t_region; kernel_rfl) | ((with_reducible apply t_condF); exact rfl) | (with_reducible apply t_ret) | (with_reducible apply t_skip) | with_reducible apply q_thenN | (with_reducible apply end_ret) | exact rvs_nil | (with_reducible apply rvs_cons) | ((with_reducible apply rv_tmp); exact rfl))
 all_goals rfl
theorem ros_T (A : Option Addr) (c : Nat) (w : World) (hr : RdS w 3 A 3 (roV.map shCells)) (hA : A = none → (3 : Nat) = 0 ∧ c = 0) : Calls Try.prog 46 #[.slice A 3 c] w fun e w' => e = .returned (.int .i64 0) ∧ Ext w w' := by
 refine enterQ (c := cx w 11) Try.func46 rfl rfl rfl rfl ?_
 repeat' (first | ((with_reducible apply oq_gtrF); exact rfl; exact rfl; omega) | (apply oq_fn; exact rfl; try first | exact trivial | (and_intros <;> omega)) | ((with_reducible apply oq_call (k := 84) (hc := Try.call84)); exact rfl; exact rfl; exact fun D w1 hw1 => fits_T A c w1 (hr.ext hw1.ext.ext) hA) | (with_reducible apply tl_nil) | ((with_reducible apply u_q); (iterate 4 exact rfl)) | (with_reducible apply t_seq) | (apply t_region; kernel_rfl) | ((with_reducible apply t_condF); exact rfl) | (with_reducible apply t_ret) | (with_reducible apply t_skip) | (with_reducible apply t_block) | with_reducible apply q_thenN | with_reducible apply q_blockN | (with_reducible apply end_ret) | exact rvs_nil | (with_reducible apply rvs_cons) | ((with_reducible apply rv_tmp); exact rfl))
 all_goals rfl
def tiS (g cp : Nat) : Nat → Value
 | 0 => .slice none 0 0
 | 1 => .slice (some ⟨g, 0, none⟩) 1 cp
 | _ => .slice (some ⟨g, 0, none⟩) 2 cp
def tiC : Nat → List Value
 | 0 => []
 | 1 => [.int .i64 3, .int .i64 0, .int .i64 0]
 | _ => [.int .i64 3, .int .i64 0, .int .i64 0, .int .i64 2, .int .i64 0, .int .i64 1000]
def tiH (g cp : Nat) : Nat → Hp
 | 0 => []
 | 1 => [(g, tiC 1, some (99, 3, cp))]
 | _ => [(g, tiC 2, some (99, 3, cp))]
def TiV (v : Value) (H : Hp) : Prop := ∃ g cp, v = .slice (some ⟨g, 0, none⟩) 2 cp ∧ H = [(g, tiC 2, some (99, 3, cp))]
theorem Has.capge {w0 : World} {M : Ms} {H H' : Hp} {w : World} {b e s cap : Nat} {C : List Value} (h : Has w0 M H w) (p : Pick H b C (some (e, s, cap)) H') : C.length ≤ cap * s := by
 obtain ⟨c, t, h1, h2, h3⟩ := (h.blk _ p.mem).2
 simp only [TgOk] at h3
 rw [← h3.2.1]
 by_cases hl : C.length = 0
 ·omega
 ·have hx : C[C.length - 1]? = some C[C.length - 1] := List.getElem?_eq_getElem (by omega)
  have := (Array.getElem?_eq_some_iff.1 (h2 _ _ hx)).1
  omega
def ArrW (v : Value) (H : Hp) : Prop := ∃ b cp, 3 ≤ cp ∧ v = .slice (some ⟨b, 0, none⟩) 3 cp ∧ H = [(b, roC, some (101, 3, cp))]
theorem arrW_T (A : Option Addr) (c : Nat) (w : World) (hr : RdS w 3 A 3 (roV.map shCells)) (hA : A = none → (3 : Nat) = 0 ∧ c = 0) : Calls Try.prog 110 #[.slice A 3 c, .func (.func 111) #[] #[]] w fun e w' => ∃ v H', e = .returned v ∧ ArrW v H' ∧ Has w ⟨[], []⟩ H' w' :=
 (arr_T A c w hr hA).mono fun e w' ⟨v, H', h1, ⟨b, cp, h2, h3⟩, h4⟩ => ⟨v, H', h1, ⟨b, cp, by
  subst h3
  have := h4.capge P0
  simp only [roC, List.length_cons, List.length_nil] at this
  omega, h2, h3⟩, h4⟩
theorem tired_T (A : Option Addr) (c : Nat) (w : World) (hr : RdS w 3 A 3 (roV.map shCells)) (hA : A = none → (3 : Nat) = 0 ∧ c = 0) : Calls Try.prog 82 #[.agg #[.int .i64 600, .int .i64 500, .int .i64 2000, .int .i64 1000], .slice A 3 c] w fun e w' => ∃ v H', e = .returned v ∧ TiV v H' ∧ Has w ⟨[], []⟩ H' w' := by
 refine enterF (c := cx w 114) Try.func82 rfl rfl rfl rfl ?_
 repeat' (first | (apply oq_fn; exact rfl; try first | exact trivial | (and_intros <;> omega)) | (with_reducible apply tl_nil) | ((with_reducible apply u_s); (iterate 3 exact rfl); (with_reducible apply os_callF (PV := ArrW) (k := 110) (hc := Try.call110)); exact rfl; exact rfl; exact fun D w1 hw1 => arrW_T A c w1 (hr.ext hw1.ext.ext) hA; rintro v H' ⟨b, cp, hcp, rfl, rfl⟩; (unfold roC; simp only [List.cons_append, List.nil_append])) | ((with_reducible apply u_q); (iterate 4 exact rfl)) | ((with_reducible apply u_s); (iterate 3 exact rfl)) | ((with_reducible apply os_x); exact rfl) | ((with_reducible apply ox_boxAgg); exact rfl; intro _) | (with_reducible apply t_seq) | (apply t_region; kernel_rfl) | (with_reducible apply t_block) | with_reducible apply q_thenN)
 apply t_loopK (ι := Nat × Nat × Nat) [1, 2, 4, 16, 17, 113] (fun z => [(18, .int .i64 (z.1 : Nat)), (5, tiS z.2.1 z.2.2 z.1)]) (fun z => tiH z.2.1 z.2.2 z.1) (fun z => z.1 ≤ 3) (fun z => 3 - z.1) ((0, 0, 0))
 (repeat (first | exact KeepF.nil | (apply KeepF.cons; exact rfl) | apply KeepF.skip))
 (repeat (first | exact FrSub.nil | (apply FrSub.cons; exact rfl)))
 (repeat (first | exact HpSub.refl _ | (apply HpSub.consE; (repeat (first | exact P0 | apply P1)); exact rfl) | exact HpSub.nil))
 ·exact Nat.zero_le _
 rintro ⟨k, g, cp'⟩ hk
 simp only at hk
 try simp only [List.cons_append, List.nil_append]
 rcases (show k = 0 ∨ k = 1 ∨ k = 2 ∨ k = 3 by omega) with rfl | rfl | rfl | rfl
 ·simp only [tiS, tiH, tiC, List.cons_append, List.nil_append]
  repeat' (first | ((with_reducible apply oq_lssT); exact rfl; exact rfl; omega) | ((with_reducible apply oq_lssF); exact rfl; exact rfl; omega) | ((with_reducible apply oq_gtrT); exact rfl; exact rfl; omega) | ((with_reducible apply oq_gtrF); exact rfl; exact rfl; omega) | ((with_reducible apply oq_eqlT); exact rfl; exact rfl; omega) | (focus ((with_reducible apply oq_sliceL (l := 0)); (iterate 4 exact rfl); omega; omega; omega)) | (focus ((with_reducible apply oq_indexAddrN); (iterate 4 exact rfl); omega)) | (apply oq_fn; exact rfl; try first | exact trivial | (and_intros <;> omega)) | ((with_reducible apply oq_load); exact rfl; exact rfl) | ((with_reducible apply oq_loadAgg); exact rfl; exact rfl) | ((with_reducible apply oq_build); (iterate 3 exact rfl)) | ((with_reducible apply oq_buildA); (iterate 4 exact rfl)) | ((with_reducible apply oq_indexAgg); (iterate 4 exact rfl)) | (with_reducible apply tl_nil) | ((with_reducible apply u_q); (iterate 4 exact rfl)) | ((with_reducible apply u_s0); exact rfl; exact rfl) | ((with_reducible apply u_s); (iterate 3 exact rfl)) | (with_reducible apply v_nil) | ((with_reducible apply v_q); (iterate 3 exact rfl)) | ((with_reducible apply v_skip); (iterate 3 exact rfl)) | ((with_reducible apply os_x); exact rfl) | ((with_reducible apply os_storeAgg); (iterate 5 exact rfl)) | ((with_reducible apply os_appendNil (hk := app_ok77)); exact rfl; exact rfl) | ((with_reducible apply ox_alloc); exact rfl; intro _) | ((with_reducible apply ox_buildSlice); (iterate 4 exact rfl)) | (apply Rd.own; (repeat (first | exact P0 | apply P1)); exact rfl; done) | (apply t_mix (id := 13) [0, 1, 2, 3, 4, 5, 6, 7, 8, 9, 10, 11, 12, 13, 14, 15, 16, 17, 18, 19, 20, 21, 22, 23, 24, 25, 26, 27] 0 #[false, false, false, false, false, false, false, false, false, false, false, false, false, false, false, false, false, false, false, false, false, false, false, false, false, false, false, false]; kernel_rfl; kernel_rfl; exact rfl) | (with_reducible apply t_seq) | (apply t_region; kernel_rfl) | ((with_reducible apply t_condT); exact rfl) | ((with_reducible apply t_condF); exact rfl) | (with_reducible apply t_skip) | (with_reducible apply t_exit) | (with_reducible apply t_block) | (apply t_rounds 8) | with_reducible apply q_thenN | with_reducible apply q_blockN | with_reducible apply q_thenE | ((with_reducible apply q_blockE); exact rfl) | exact P0 | exact Rdn.zero | apply Rdn.succ | ((with_reducible apply Norm.nil); exact rfl) | ((with_reducible apply Norm.cons); exact rfl) | (apply al_done; decide +kernel) | ((with_reducible apply tr_id); apply tr_succ) | (intro gN cN; with_reducible apply tl_id) | exact Nat.le_of_ble_eq_true rfl | exact (rfl : (_ : Bool) = true) | omega | (intro _; with_reducible apply tl_id))
  all_goals (refine ⟨(1, gN, cN), (by simp only; omega), (by simp only; omega), ?_, ?_⟩ <;> (simp only [tiS, tiH, tiC, List.cons_append, List.nil_append]) <;> (repeat' (first | exact FrSub.nil | (apply FrSub.cons; exact rfl) | (apply HpSub.consE; (repeat (first | exact P0 | apply P1)); exact rfl) | exact HpSub.nil)))
 ·simp only [tiS, tiH, tiC, List.cons_append, List.nil_append]
  repeat' (first | ((with_reducible apply oq_lssT); exact rfl; exact rfl; omega) | ((with_reducible apply oq_lssF); exact rfl; exact rfl; omega) | ((with_reducible apply oq_gtrF); exact rfl; exact rfl; omega) | ((with_reducible apply oq_geqF); exact rfl; exact rfl; omega) | ((with_reducible apply oq_eqlT); exact rfl; exact rfl; omega) | ((with_reducible apply oq_eqlF); exact rfl; exact rfl; omega) | ((with_reducible apply oq_neqF); exact rfl; exact rfl; omega) | (focus ((with_reducible apply oq_sliceL (l := 1)); (iterate 4 exact rfl); omega; omega; omega)) | (focus ((with_reducible apply oq_indexAddrN); (iterate 4 exact rfl); omega)) | (apply oq_fn; exact rfl; try first | exact trivial | (and_intros <;> omega)) | ((with_reducible apply oq_load); exact rfl; exact rfl) | ((with_reducible apply oq_loadAgg); exact rfl; exact rfl) | ((with_reducible apply oq_build); (iterate 3 exact rfl)) | ((with_reducible apply oq_buildA); (iterate 4 exact rfl)) | ((with_reducible apply oq_indexAgg); (iterate 4 exact rfl)) | (with_reducible apply tl_nil) | ((with_reducible apply u_q); (iterate 4 exact rfl)) | ((with_reducible apply u_s0); exact rfl; exact rfl) | ((with_reducible apply u_s); (iterate 3 exact rfl)) | (with_reducible apply v_nil) | ((with_reducible apply v_q); (iterate 3 exact rfl)) | ((with_reducible apply os_x); exact rfl) | ((with_reducible apply os_storeAgg); (iterate 5 exact rfl)) | ((with_reducible apply os_append (hk := app_ok77)); exact rfl; exact rfl; (repeat (first | exact P0 | apply P1))) | ((with_reducible apply ox_alloc); exact rfl; intro _) | ((with_reducible apply ox_buildSlice); (iterate 4 exact rfl)) | (apply Rd.own; (repeat (first | exact P0 | apply P1)); exact rfl; done) | (apply t_mix (id := 13) [0, 1, 2, 3, 4, 5, 6, 7, 8, 9, 10, 11, 12, 13, 14, 15, 16, 17, 18, 19, 20, 21, 22, 23, 24, 25, 26, 27] 0 #[false, false, false, false, false, false, false, false, false, false, false, false, false, false, false, false, false, false, false, false, false, false, false, false, false, false, false, false]; kernel_rfl; kernel_rfl; exact rfl) | (with_reducible apply t_seq) | (apply t_region; kernel_rfl) | ((with_reducible apply t_condT); exact rfl) | ((with_reducible apply t_condF); exact rfl) | (with_reducible apply t_skip) | (with_reducible apply t_exit) | (with_reducible apply t_block) | (apply t_rounds 8) | with_reducible apply q_thenN | with_reducible apply q_blockN | with_reducible apply q_thenE | ((with_reducible apply q_blockE); exact rfl) | exact P0 | exact Rdn.zero | apply Rdn.succ | ((with_reducible apply Norm.nil); exact rfl) | ((with_reducible apply Norm.cons); exact rfl) | (apply al_done; decide +kernel) | ((with_reducible apply tr_id); apply tr_succ) | (intro gN cN; with_reducible apply tl_id) | exact (rfl : List.length _ = _) | exact Nat.le_of_ble_eq_true rfl | exact (rfl : (_ : Bool) = true) | omega | (intro _; with_reducible apply tl_id))
  all_goals (refine ⟨(2, gN, cN), (by simp only; omega), (by simp only; omega), ?_, ?_⟩ <;> (simp only [tiS, tiH, tiC, List.cons_append, List.nil_append]) <;> (repeat' (first | exact FrSub.nil | (apply FrSub.cons; exact rfl) | (apply HpSub.consE; (repeat (first | exact P0 | apply P1)); exact rfl) | exact HpSub.nil)))
 ·simp only [tiS, tiH, tiC, List.cons_append, List.nil_append]
  repeat' (first | ((with_reducible apply oq_lssT); exact rfl; exact rfl; omega) | ((with_reducible apply oq_lssF); exact rfl; exact rfl; omega) | ((with_reducible apply oq_gtrF); exact rfl; exact rfl; omega) | ((with_reducible apply oq_geqT); exact rfl; exact rfl; omega) | ((with_reducible apply oq_eqlT); exact rfl; exact rfl; omega) | ((with_reducible apply oq_eqlF); exact rfl; exact rfl; omega) | ((with_reducible apply oq_neqF); exact rfl; exact rfl; omega) | (focus ((with_reducible apply oq_sliceL (l := 2)); (iterate 4 exact rfl); omega; omega; omega)) | (focus ((with_reducible apply oq_indexAddrN); (iterate 4 exact rfl); omega)) | (apply oq_fn; exact rfl; try first | exact trivial | (and_intros <;> omega)) | ((with_reducible apply oq_load); exact rfl; exact rfl) | ((with_reducible apply oq_loadAgg); exact rfl; exact rfl) | ((with_reducible apply oq_build); (iterate 3 exact rfl)) | ((with_reducible apply oq_buildA); (iterate 4 exact rfl)) | ((with_reducible apply oq_indexAgg); (iterate 4 exact rfl)) | (with_reducible apply tl_nil) | ((with_reducible apply u_q); (iterate 4 exact rfl)) | ((with_reducible apply u_s0); exact rfl; exact rfl) | ((with_reducible apply u_s); (iterate 3 exact rfl)) | (with_reducible apply v_nil) | ((with_reducible apply v_q); (iterate 3 exact rfl)) | ((with_reducible apply os_x); exact rfl) | ((with_reducible apply os_storeAgg); (iterate 5 exact rfl)) | ((with_reducible apply ox_alloc); exact rfl; intro _) | (apply Rd.own; (repeat (first | exact P0 | apply P1)); exact rfl; done) | (apply t_mix (id := 13) [0, 1, 2, 3, 4, 5, 6, 7, 8, 9, 10, 11, 12, 13, 14, 15, 16, 17, 18, 19, 20, 21, 22, 23, 24, 25, 26, 27] 0 #[false, false, false, false, false, false, false, false, false, false, false, false, false, false, false, false, false, false, false, false, false, false, false, false, false, false, false, false]; kernel_rfl; kernel_rfl; exact rfl) | (with_reducible apply t_seq) | (apply t_region; kernel_rfl) | ((with_reducible apply t_condT); exact rfl) | ((with_reducible apply t_condF); exact rfl) | (with_reducible apply t_skip) | (with_reducible apply t_exit) | (with_reducible apply t_block) | (apply t_rounds 8) | with_reducible apply q_thenN | with_reducible apply q_blockN | with_reducible apply q_thenE | ((with_reducible apply q_blockE); exact rfl) | exact P0 | exact Rdn.zero | apply Rdn.succ | ((with_reducible apply Norm.nil); exact rfl) | ((with_reducible apply Norm.cons); exact rfl) | (apply al_done; decide +kernel) | ((with_reducible apply tr_id); apply tr_succ) | exact Nat.le_of_ble_eq_true rfl | omega)
  all_goals (refine ⟨(3, g, cp'), (by simp only; omega), (by simp only; omega), ?_, ?_⟩ <;> (simp only [tiS, tiH, tiC, List.cons_append, List.nil_append]) <;> (repeat' (first | exact FrSub.nil | (apply FrSub.cons; exact rfl) | (apply HpSub.consE; (repeat (first | exact P0 | apply P1)); exact rfl) | exact HpSub.nil)))
 ·simp only [tiS, tiH, tiC, List.cons_append, List.nil_append]
  repeat' (first | ((with_reducible apply oq_lssF); exact rfl; exact rfl; omega) | (apply oq_fn; exact rfl; try first | exact trivial | (and_intros <;> omega)) | (with_reducible apply tl_nil) | ((with_reducible apply u_q); (iterate 4 exact rfl)) | (with_reducible apply t_seq) | (apply t_region; kernel_rfl) | ((with_reducible apply t_condF); exact rfl) | (with_reducible apply t_ret) | (with_reducible apply t_exit) | with_reducible apply q_thenN | with_reducible apply q_thenE | ((with_reducible apply q_blockE); exact rfl) | (with_reducible apply end_ret) | exact rvs_nil | (with_reducible apply rvs_cons) | ((with_reducible apply rv_tmp); exact rfl))
  all_goals (refine ⟨_, ⟨g, cp', rfl, rfl⟩, ?_⟩; unfold tiC; (repeat (first | exact HpSub.refl _ | (apply HpSub.consE; (repeat (first | exact P0 | apply P1)); exact rfl) | apply HpSub.skipX | exact HpSub.nil)))
theorem tiredT_T (A : Option Addr) (c : Nat) (w : World) (hr : RdS w 3 A 3 (roV.map shCells)) (hA : A = none → (3 : Nat) = 0 ∧ c = 0) : Calls Try.prog 42 #[.agg #[.int .i64 600, .int .i64 500, .int .i64 2000, .int .i64 1000], .slice A 3 c] w fun e w' => ∃ v H', e = .returned v ∧ (∃ u, TiV u H' ∧ v = .tuple #[u, .int .i64 0]) ∧ Has w ⟨[], []⟩ H' w' := by
 refine enterF (c := cx w 19) Try.func42 rfl rfl rfl rfl ?_
 repeat' (first | ((with_reducible apply oq_neqF); exact rfl; exact rfl; omega) | (apply oq_fn; exact rfl; try first | exact trivial | (and_intros <;> omega)) | ((with_reducible apply oq_loadAgg); exact rfl; exact rfl) | ((with_reducible apply oq_call (k := 44) (hc := Try.call44)); exact rfl; exact rfl; exact fun D w1 hw1 => duty_T w1) | ((with_reducible apply oq_call (k := 46) (hc := Try.call46)); exact rfl; exact rfl; exact fun D w1 hw1 => ros_T A c w1 (hr.ext hw1.ext.ext) hA) | ((with_reducible apply oq_call (k := 81) (hc := Try.call81)); exact rfl; exact rfl; exact fun D w1 hw1 => orE_calls _ _ _ _ w1 (hw1.cellAt (by (repeat (first | exact P0 | apply P1))) rfl) (hw1.cellAt (by (repeat (first | exact P0 | apply P1))) rfl)) | (with_reducible apply tl_nil) | ((with_reducible apply u_s); (iterate 3 exact rfl); (with_reducible apply os_callF (PV := TiV) (k := 82) (hc := Try.call82)); exact rfl; exact rfl; exact fun D w1 hw1 => tired_T A c w1 (hr.ext hw1.ext.ext) hA; rintro v H' ⟨g, cp, rfl, rfl⟩; (simp only [List.cons_append, List.nil_append])) | ((with_reducible apply u_q); (iterate 4 exact rfl)) | ((with_reducible apply u_s); (iterate 3 exact rfl)) | ((with_reducible apply os_x); exact rfl) | ((with_reducible apply ox_boxAgg); exact rfl; intro _) | ((with_reducible apply ox_buildSlice1); (iterate 6 exact rfl); intro _) | (apply Rd.own; (repeat (first | exact P0 | apply P1)); exact rfl; done) | (with_reducible apply t_seq) | (apply t_region; kernel_rfl) | ((with_reducible apply t_condF); exact rfl) | (with_reducible apply t_ret) | (with_reducible apply t_skip) | with_reducible apply q_thenN | exact Rdn.zero | apply Rdn.succ | (with_reducible apply end_ret) | exact rvs_nil | (with_reducible apply rvs_cons) | ((with_reducible apply rv_tmp); exact rfl))
 all_goals exact ⟨_, ⟨_, ⟨g, cp, rfl, rfl⟩, rfl⟩, by ((repeat (first | exact HpSub.refl _ | (apply HpSub.consE; (repeat (first | exact P0 | apply P1)); exact rfl) | apply HpSub.skipX | exact HpSub.nil)))⟩
end Go.Proofs.Ytmlmgipngbndgaa
namespace Go.Proofs.Ytmlmgipngbndgaa
open Go.RowKit
attribute [local irreducible] OQ OS OX Rd T TL GX GL AL AI RV wpG SAny Calls
theorem hp_left {G R : Hp} : HpSub (G ++ R) G := by
 induction G with
 | nil => exact HpSub.nil
 | cons x G ih => obtain ⟨b, C, g⟩ := x; exact HpSub.cons P0 ih
def tiB (l : List Ti) : List Value := (l.map tiCells).flatten
theorem tiB_len (l : List Ti) : (tiB l).length = l.length * 3 := flat_len (s := 3) (fun _ => rfl) l
theorem tiB_app (l m : List Ti) : tiB (l ++ m) = tiB l ++ tiB m := by unfold tiB; rw [List.map_append, List.flatten_append]
/-- What tired hands out. -/
def TiO (T : List Ti) (v : Value) (H : Hp) : Prop := ∃ x, (x = none → T.length = 0) ∧ v = .slice (clA x) T.length (clC x) ∧ H = clH 99 3 (tiB T) x
def ArrP (S : List Sh) (v : Value) (H : Hp) : Prop := ∃ x, (x = none → S.length = 0) ∧ S.length ≤ clC x ∧ v = .slice (clA x) S.length (clC x) ∧ H = clH 101 3 (shB S) x
theorem arrangedP_T (A : Option Addr) (n c : Nat) (l : List Sh) (w : World) (hr : RdS w 3 A n (l.map shCells)) (hA : A = none → n = 0 ∧ c = 0) (hn : n ≤ 1000000) :
  Calls Try.prog 110 #[.slice A n c, .func (.func 111) #[] #[]] w fun e w' => ∃ v H', e = .returned v ∧ ArrP (srtS l) v H' ∧ Has w ⟨[], []⟩ H' w' :=
 (arranged_T A n c l w hr hA hn).mono fun e w' ⟨v, H', h1, ⟨x, h2, h3, h4⟩, h5⟩ => ⟨v, H', h1, ⟨x, h2, by
  rcases x with _ | ⟨g, cp⟩
  ·rw [h2 rfl]; exact Nat.zero_le _
  ·subst h4
   have := h5.capge P0
   rw [sh_flat_len] at this
   simp only [clC]
   omega, h3, h4⟩, h5⟩
/-- The minutes so far. -/
def wkJ (S : List Sh) (i : Nat) (x : Sh) (win : Int) (j : Nat) : Int := (((S.drop i).take j).map (minT x win)).sum
theorem wkJ_succ {S : List Sh} {i j : Nat} {x y : Sh} {win : Int} (h : S[i + j]? = some y) : wkJ S i x win (j + 1) = wkJ S i x win j + minT x win y := by
 unfold wkJ
 rw [List.take_add_one, List.getElem?_drop, h]
 simp
theorem wkJ_all {S : List Sh} {i : Nat} {x : Sh} {win : Int} {j : Nat} (h : S.length ≤ i + j) : wkJ S i x win j = workT S i x win := by
 unfold wkJ workT
 rw [List.take_of_length_le (by simp; omega)]
theorem wkJ_in {S : List Sh} (hS : ∀ y ∈ S, shOk y) {i : Nat} {x : Sh} {win : Int} : ∀ {j : Nat}, i + j ≤ S.length → 0 ≤ wkJ S i x win j ∧ wkJ S i x win j ≤ (j : Int) * 1000000
 | 0, _ => by simp [wkJ]
 | j + 1, h => by
  obtain ⟨y, hy⟩ : ∃ y, S[i + j]? = some y := ⟨_, List.getElem?_eq_getElem (by omega)⟩
  have ih := wkJ_in hS (i := i) (x := x) (win := win) (show i + j ≤ S.length by omega)
  have ho := hS y (List.mem_of_getElem? hy)
  unfold shOk at ho
  rw [wkJ_succ hy]
  have : 0 ≤ minT x win y ∧ minT x win y ≤ 1000000 := by unfold minT; split <;> omega
  rw [show ((j + 1 : Nat) : Int) * 1000000 = (j : Int) * 1000000 + 1000000 by omega]
  omega
/-- The first k kinds of cases of a shift. -/
def casK (a b c : Bool) (x : Sh) : Nat → List Ti
 | 0 => []
 | 1 => (if a then [⟨1, x.who, x.fr⟩] else [])
 | 2 => (if a then [⟨1, x.who, x.fr⟩] else []) ++ (if b then [⟨2, x.who, x.fr⟩] else [])
 | _ => (if a then [⟨1, x.who, x.fr⟩] else []) ++ ((if b then [⟨2, x.who, x.fr⟩] else []) ++ (if c then [⟨3, x.who, x.fr⟩] else []))
theorem casK_all {d : Du} {S : List Sh} {i : Nat} {x : Sh} {a b c : Bool} (ha : a = decide (x.to - x.fr > d.most)) (hb : b = restB d S i x) (hc : c = decide (workV S x.who x.fr (x.fr + d.win) > d.sum)) : casK a b c x 3 = casV d S i x := by
 subst ha hb hc
 unfold casK casV
 simp only [decide_eq_true_eq]
theorem casK_len (a b c : Bool) (x : Sh) (k : Nat) : (casK a b c x k).length ≤ 3 := by
 rcases k with _ | _ | _ | k <;> cases a <;> cases b <;> cases c <;> simp [casK]
theorem tiTo_len (d : Du) (S : List Sh) : ∀ k, (tiTo d S k).length ≤ 3 * k
 | 0 => Nat.le_refl _
 | k + 1 => by
  show (tiTo d S k ++ casAt d S k).length ≤ _
  rw [List.length_append]
  have := tiTo_len d S k
  have : (casAt d S k).length ≤ 3 := by
   unfold casAt
   split
   ·rename_i x _
    rw [← casK_all (d := d) (S := S) (i := k) (x := x) rfl rfl rfl]
    exact casK_len _ _ _ _ _
   ·exact Nat.zero_le _
  omega
theorem tiredR_T (d : Du) (hd : duB d) (A : Option Addr) (n c : Nat) (l : List Sh) (w : World) (hr : RdS w 3 A n (l.map shCells)) (hA : A = none → n = 0 ∧ c = 0) (hn : n ≤ 1000) (hRos : Ros l) :
  Calls Try.prog 82 #[.agg #[.int .i64 d.most, .int .i64 d.rest, .int .i64 d.win, .int .i64 d.sum], .slice A n c] w fun e w' => ∃ v H', e = .returned v ∧ TiO (tiV d l) v H' ∧ Has w ⟨[], []⟩ H' w' := by
 have hl := hr.len
 simp only [List.length_map] at hl
 obtain ⟨S, hS⟩ : ∃ S, srtS l = S := ⟨_, rfl⟩
 have hsl : S.length = n := by rw [← hS, srtS, srt_len, hl]
 have hfit : Fit S := by rw [← hS]; exact (fitS_iff l).2 hRos
 have hsrt : Srt ltS S := by rw [← hS]; exact srt_srt woS l
 have hall : ∀ y ∈ S, shOk y := fun y hy => hRos.1 y ((srt_perm l).mem_iff.1 (by rw [← hS] at hy; exact hy))
 have hti : tiV d l = tiTo d S n := by unfold tiV; rw [hS, hl]
 obtain ⟨⟨dm1, dm2⟩, ⟨dr1, dr2⟩, ⟨dw1, dw2⟩, ds1, ds2⟩ := hd
 refine enterF (c := cx w 114) Try.func82 rfl rfl rfl rfl ?_
 refine t_cut (ι := Nat) (fun b2 => [(1, .slice A n c), (2, .pointer (some ⟨b2, 0, none⟩))]) (fun b2 => [(b2, [.int .i64 d.most, .int .i64 d.rest, .int .i64 d.win, .int .i64 d.sum], some (74, 4, 1))]) (fun _ => True) ?_ ?_
 ·repeat' (first | (apply oq_fn; exact rfl; try first | exact trivial | (and_intros <;> omega)) | (with_reducible apply tl_nil) | ((with_reducible apply u_q); (iterate 4 exact rfl)) | ((with_reducible apply u_s); (iterate 3 exact rfl)) | ((with_reducible apply os_x); exact rfl) | ((with_reducible apply ox_boxAgg); exact rfl; intro _) | (apply t_region; kernel_rfl))
  all_goals exact ⟨rfl, _, trivial, by (repeat (first | exact FrSub.nil | (apply FrSub.cons; exact rfl))), by (repeat (first | exact HpSub.refl _ | (apply HpSub.consE; (repeat (first | exact P0 | apply P1 | apply PA)); exact rfl) | exact HpSub.nil))⟩
 rintro b2 -
 refine t_cut (ι := Unit) (fun _ => [(1, .slice A n c), (2, .pointer (some ⟨b2, 0, none⟩)), (5, .slice none 0 0)]) (fun _ => [(b2, [.int .i64 d.most, .int .i64 d.rest, .int .i64 d.win, .int .i64 d.sum], some (74, 4, 1))]) (fun _ => True) ?_ ?_
 ·repeat' (first | (apply oq_fn; exact rfl; try first | exact trivial | (and_intros <;> omega)) | (with_reducible apply tl_nil) | ((with_reducible apply u_q); (iterate 4 exact rfl)) | (apply t_region; kernel_rfl))
  all_goals exact ⟨rfl, (), trivial, by (repeat (first | exact FrSub.nil | (apply FrSub.cons; exact rfl))), by (repeat (first | exact HpSub.refl _ | (apply HpSub.consE; (repeat (first | exact P0 | apply P1 | apply PA)); exact rfl) | exact HpSub.nil))⟩
 rintro ⟨⟩ -
 refine t_cut (ι := Option (Nat × Nat)) (fun x => [(1, .slice (clA x) n (clC x)), (2, .pointer (some ⟨b2, 0, none⟩)), (5, .slice none 0 0)]) (fun x => clH 101 3 (shB S) x ++ [(b2, [.int .i64 d.most, .int .i64 d.rest, .int .i64 d.win, .int .i64 d.sum], some (74, 4, 1))]) (fun x => (x = none → n = 0) ∧ n ≤ clC x) ?_ ?_
 ·repeat' (first | (apply oq_fn; exact rfl; try first | exact trivial | (and_intros <;> omega)) | (with_reducible apply tl_nil) | ((with_reducible apply u_s); (iterate 3 exact rfl); (with_reducible apply os_callF (PV := ArrP S) (k := 110) (hc := Try.call110)); exact rfl; exact rfl; exact fun D w1 hw1 => (by rw [← hS]; exact arrangedP_T A n c l w1 (hr.ext hw1.ext.ext) hA (by omega)); rintro v H' ⟨x, hx, hcx, rfl, rfl⟩; (try simp only [List.append_nil])) | ((with_reducible apply u_q); (iterate 4 exact rfl)) | (apply t_region; kernel_rfl))
  all_goals (rw [hsl] at hx hcx)
  all_goals exact ⟨by trivial, x, ⟨hx, hcx⟩, by (rw [hsl]; (repeat (first | exact FrSub.nil | (apply FrSub.cons; exact rfl)))), by (repeat (first | exact HpSub.refl _ | (apply HpSub.consE; (repeat (first | exact P0 | apply P1 | apply PA)); exact rfl) | apply HpSub.appC | apply HpSub.skipX | apply HpSub.skip | apply HpSub.skipApp | exact HpSub.nil))⟩
 rintro x ⟨hx, hcx⟩
 rcases x with _ | ⟨g, cp⟩
 ·obtain rfl := hx rfl
  simp only [clA, clC, clH, List.nil_append]
  rw [hti]
  repeat' (first | (apply oq_fn; exact rfl; try first | exact trivial | (and_intros <;> omega)) | (with_reducible apply tl_nil) | ((with_reducible apply u_q); (iterate 4 exact rfl)) | (with_reducible apply t_seq) | (apply t_region; kernel_rfl) | (with_reducible apply t_block) | with_reducible apply q_thenN)
  apply t_loopK (ι := Unit) [1, 2, 16, 17] (fun _ => [(18, .int .i64 0), (5, .slice none 0 0)]) (fun _ => []) (fun _ => True) (fun _ => 0) (())
  (repeat (first | exact KeepF.nil | (apply KeepF.cons; exact rfl) | apply KeepF.skip))
  (repeat (first | exact FrSub.nil | (apply FrSub.cons; exact rfl)))
  (repeat (first | exact HpSub.refl _ | (apply HpSub.consE; (repeat (first | exact P0 | apply P1 | apply PA)); exact rfl) | exact HpSub.nil))
  ·trivial
  rintro ⟨⟩ -
  repeat' (first | ((with_reducible apply oq_lssF); exact rfl; exact rfl; omega) | (apply oq_fn; exact rfl; try first | exact trivial | (and_intros <;> omega)) | (with_reducible apply tl_nil) | ((with_reducible apply u_q); (iterate 4 exact rfl)) | (with_reducible apply t_seq) | (apply t_region; kernel_rfl) | ((with_reducible apply t_condF); exact rfl) | (with_reducible apply t_ret) | (with_reducible apply t_exit) | with_reducible apply q_thenN | with_reducible apply q_thenE | ((with_reducible apply q_blockE); exact rfl) | (with_reducible apply end_ret) | exact rvs_nil | (with_reducible apply rvs_cons) | ((with_reducible apply rv_tmp); exact rfl))
  all_goals exact ⟨_, ⟨none, fun _ => rfl, rfl, rfl⟩, HpSub.nil⟩
 simp only [clA, clC, clH, List.cons_append, List.nil_append] at hcx ⊢
 repeat' (first | (apply oq_fn; exact rfl; try first | exact trivial | (and_intros <;> omega)) | (with_reducible apply tl_nil) | ((with_reducible apply u_q); (iterate 4 exact rfl)) | (with_reducible apply t_seq) | (apply t_region; kernel_rfl) | (with_reducible apply t_block) | with_reducible apply q_thenN)
 apply t_loopK (GH := []) (ι := Nat × Option (Nat × Nat)) [1, 2, 16, 17] (fun z => [(18, .int .i64 (z.1 : Nat)), (5, .slice (clA z.2) (tiTo d S z.1).length (clC z.2))]) (fun z => clH 99 3 (tiB (tiTo d S z.1)) z.2 ++ [(g, shB S, some (101, 3, cp)), (b2, [.int .i64 d.most, .int .i64 d.rest, .int .i64 d.win, .int .i64 d.sum], some (74, 4, 1))]) (fun z => z.1 ≤ n ∧ (z.2 = none → (tiTo d S z.1).length = 0)) (fun z => n - z.1) ((0, none))
 (repeat (first | exact KeepF.nil | (apply KeepF.cons; exact rfl) | apply KeepF.skip))
 (repeat (first | exact FrSub.nil | (apply FrSub.cons; exact rfl) | (apply FrSub.consE; exact rfl; (congr 1))))
 ((try simp only [List.append_nil]); (repeat (first | exact HpSub.refl _ | (apply HpSub.consE; (repeat (first | exact P0 | apply P1 | apply PA)); exact rfl) | apply HpSub.appC | apply HpSub.skipX | apply HpSub.skip | apply HpSub.skipApp | exact HpSub.nil)))
 ·exact ⟨Nat.zero_le _, fun _ => rfl⟩
 rintro ⟨i, o⟩ ⟨hi, ho⟩
 simp only at hi ho
 simp only [List.append_nil]
 have htl := tiTo_len d S i
 by_cases hlt : i < n
 ·obtain ⟨x, hx⟩ : ∃ x, S[i]? = some x := ⟨_, List.getElem?_eq_getElem (by omega)⟩
  have hxo := hall x (List.mem_of_getElem? hx)
  have hxo' := hxo
  unfold shOk at hxo'
  obtain ⟨q0, q1, q2⟩ := sh_at hx
  refine t_cut (ι := Unit) (fun _ => [(1, .slice (some ⟨g, 0, none⟩) n cp), (2, .pointer (some ⟨b2, 0, none⟩)), (16, .slice (some ⟨g, 0, none⟩) n cp), (17, .int .i64 (n : Nat)), (18, .int .i64 (i : Nat)), (5, .slice (clA o) (tiTo d S i).length (clC o)), (19, .bool true)]) (fun _ => clH 99 3 (tiB (tiTo d S i)) o ++ [(g, shB S, some (101, 3, cp)), (b2, [.int .i64 d.most, .int .i64 d.rest, .int .i64 d.win, .int .i64 d.sum], some (74, 4, 1))]) (fun _ => True) ?_ ?_
  ·repeat' (first | ((with_reducible apply oq_lssT); exact rfl; exact rfl; omega) | (with_reducible apply tl_nil) | ((with_reducible apply u_q); (iterate 4 exact rfl)) | (apply t_region; kernel_rfl))
   all_goals exact ⟨rfl, (), trivial, by (repeat (first | exact FrSub.nil | (apply FrSub.cons; exact rfl))), by (repeat (first | exact HpSub.refl _ | (apply HpSub.consE; (repeat (first | exact P0 | apply P1 | apply PA)); exact rfl) | apply HpSub.skipX | apply HpSub.skip | exact HpSub.nil))⟩
  rintro ⟨⟩ -
  refine t_cut (ι := Unit) (fun _ => [(1, .slice (some ⟨g, 0, none⟩) n cp), (2, .pointer (some ⟨b2, 0, none⟩)), (16, .slice (some ⟨g, 0, none⟩) n cp), (17, .int .i64 (n : Nat)), (18, .int .i64 (i : Nat)), (5, .slice (clA o) (tiTo d S i).length (clC o))]) (fun _ => clH 99 3 (tiB (tiTo d S i)) o ++ [(g, shB S, some (101, 3, cp)), (b2, [.int .i64 d.most, .int .i64 d.rest, .int .i64 d.win, .int .i64 d.sum], some (74, 4, 1))]) (fun _ => True) ?_ ?_
  ·repeat' (first | ((with_reducible apply t_condT); exact rfl) | (with_reducible apply t_skip))
   all_goals exact ⟨rfl, (), trivial, by (repeat (first | exact FrSub.nil | (apply FrSub.cons; exact rfl))), by (repeat (first | exact HpSub.refl _ | (apply HpSub.consE; (repeat (first | exact P0 | apply P1 | apply PA)); exact rfl) | apply HpSub.skipX | apply HpSub.skip | exact HpSub.nil))⟩
  rintro ⟨⟩ -
  refine t_cut (ι := Option (Nat × Nat)) (fun o => [(1, .slice (some ⟨g, 0, none⟩) n cp), (2, .pointer (some ⟨b2, 0, none⟩)), (16, .slice (some ⟨g, 0, none⟩) n cp), (17, .int .i64 (n : Nat)), (18, .int .i64 (i : Nat)), (5, .slice (clA o) (tiTo d S (i + 1)).length (clC o))]) (fun o => clH 99 3 (tiB (tiTo d S (i + 1))) o ++ [(g, shB S, some (101, 3, cp)), (b2, [.int .i64 d.most, .int .i64 d.rest, .int .i64 d.win, .int .i64 d.sum], some (74, 4, 1))]) (fun o => o = none → (tiTo d S (i + 1)).length = 0) ?_ ?_
  ·refine t_block ?_
   refine t_cut (ι := Nat) (fun b7 => [(1, .slice (some ⟨g, 0, none⟩) n cp), (2, .pointer (some ⟨b2, 0, none⟩)), (16, .slice (some ⟨g, 0, none⟩) n cp), (17, .int .i64 (n : Nat)), (18, .int .i64 (i : Nat)), (5, .slice (clA o) (tiTo d S i).length (clC o)), (6, .int .i64 (i : Nat)), (7, .pointer (some ⟨b7, 0, none⟩))]) (fun b7 => (b7, [.int .i64 x.who, .int .i64 x.fr, .int .i64 x.to], some (101, 3, 1)) :: (clH 99 3 (tiB (tiTo d S i)) o ++ [(g, shB S, some (101, 3, cp)), (b2, [.int .i64 d.most, .int .i64 d.rest, .int .i64 d.win, .int .i64 d.sum], some (74, 4, 1))])) (fun _ => True) ?_ ?_
   ·repeat' (first | (focus ((with_reducible apply oq_indexAddrN); (iterate 4 exact rfl); omega)) | (apply oq_fn; exact rfl; try first | exact trivial | (and_intros <;> omega)) | ((with_reducible apply oq_loadAgg); exact rfl; exact rfl) | (with_reducible apply tl_nil) | ((with_reducible apply u_q); (iterate 4 exact rfl)) | ((with_reducible apply u_s0); exact rfl; exact rfl) | ((with_reducible apply u_s); (iterate 3 exact rfl)) | ((with_reducible apply os_x); exact rfl) | ((with_reducible apply os_storeAgg); (iterate 5 exact rfl)) | ((with_reducible apply ox_alloc); exact rfl; intro _) | (apply Rd.own; (repeat (first | exact P0 | apply P1 | apply PA)); first | exact q0 | exact q1 | exact q2 | exact r0 | exact r1 | exact r2; done) | (apply t_region; kernel_rfl) | exact P0 | exact Rdn.zero | apply Rdn.succ | ((with_reducible apply Norm.nil); exact rfl) | ((with_reducible apply Norm.cons); exact rfl) | exact Nat.le_of_ble_eq_true rfl)
    all_goals exact ⟨rfl, _, trivial, by (repeat (first | exact FrSub.nil | (apply FrSub.cons; exact rfl))), by (repeat (first | exact HpSub.refl _ | (apply HpSub.consE; (repeat (first | exact P0 | apply P1 | apply PA)); exact rfl) | apply HpSub.appC | apply HpSub.skipX | apply HpSub.skip | apply HpSub.skipApp | exact HpSub.nil))⟩
   rintro b7 -
   refine t_cut (ι := Unit) (fun _ => [(1, .slice (some ⟨g, 0, none⟩) n cp), (2, .pointer (some ⟨b2, 0, none⟩)), (16, .slice (some ⟨g, 0, none⟩) n cp), (17, .int .i64 (n : Nat)), (18, .int .i64 (i : Nat)), (5, .slice (clA o) (tiTo d S i).length (clC o)), (6, .int .i64 (i : Nat)), (7, .pointer (some ⟨b7, 0, none⟩)), (8, .int .i64 0)]) (fun _ => (b7, [.int .i64 x.who, .int .i64 x.fr, .int .i64 x.to], some (101, 3, 1)) :: (clH 99 3 (tiB (tiTo d S i)) o ++ [(g, shB S, some (101, 3, cp)), (b2, [.int .i64 d.most, .int .i64 d.rest, .int .i64 d.win, .int .i64 d.sum], some (74, 4, 1))])) (fun _ => True) ?_ ?_
   ·repeat' (first | (apply oq_fn; exact rfl; try first | exact trivial | (and_intros <;> omega)) | (with_reducible apply tl_nil) | ((with_reducible apply u_q); (iterate 4 exact rfl)) | (apply t_region; kernel_rfl))
    all_goals exact ⟨rfl, (), trivial, by (repeat (first | exact FrSub.nil | (apply FrSub.cons; exact rfl))), by (repeat (first | exact HpSub.refl _ | (apply HpSub.consE; (repeat (first | exact P0 | apply P1 | apply PA)); exact rfl) | apply HpSub.skipX | apply HpSub.skip | exact HpSub.nil))⟩
   rintro ⟨⟩ -
   refine t_cut (ι := Unit) (fun _ => [(1, .slice (some ⟨g, 0, none⟩) n cp), (2, .pointer (some ⟨b2, 0, none⟩)), (16, .slice (some ⟨g, 0, none⟩) n cp), (17, .int .i64 (n : Nat)), (18, .int .i64 (i : Nat)), (5, .slice (clA o) (tiTo d S i).length (clC o)), (6, .int .i64 (i : Nat)), (7, .pointer (some ⟨b7, 0, none⟩)), (8, .int .i64 (workT S i x d.win))]) (fun _ => (b7, [.int .i64 x.who, .int .i64 x.fr, .int .i64 x.to], some (101, 3, 1)) :: (clH 99 3 (tiB (tiTo d S i)) o ++ [(g, shB S, some (101, 3, cp)), (b2, [.int .i64 d.most, .int .i64 d.rest, .int .i64 d.win, .int .i64 d.sum], some (74, 4, 1))])) (fun _ => True) ?_ ?_
   ·repeat' (first | (focus ((with_reducible apply oq_sliceL (l := i)); (iterate 4 exact rfl); omega; omega; omega)) | (apply oq_fn; exact rfl; try first | exact trivial | (and_intros <;> omega)) | (with_reducible apply tl_nil) | ((with_reducible apply u_q); (iterate 4 exact rfl)) | (with_reducible apply t_seq) | (apply t_region; kernel_rfl) | (with_reducible apply t_block) | with_reducible apply q_thenN)
    apply t_loopK (GH := []) (ι := Nat) [1, 2, 5, 6, 7, 16, 17, 18, 25, 26] (fun j => [(27, .int .i64 (j : Nat)), (8, .int .i64 (wkJ S i x d.win j))]) (fun _ => (b7, [.int .i64 x.who, .int .i64 x.fr, .int .i64 x.to], some (101, 3, 1)) :: (clH 99 3 (tiB (tiTo d S i)) o ++ [(g, shB S, some (101, 3, cp)), (b2, [.int .i64 d.most, .int .i64 d.rest, .int .i64 d.win, .int .i64 d.sum], some (74, 4, 1))])) (fun j => j ≤ n - i) (fun j => n - i - j) (0)
    (repeat (first | exact KeepF.nil | (apply KeepF.cons; exact rfl) | apply KeepF.skip))
    (repeat (first | exact FrSub.nil | (apply FrSub.cons; exact rfl)))
    ((try simp only [List.append_nil]); (repeat (first | exact HpSub.refl _ | (apply HpSub.consE; (repeat (first | exact P0 | apply P1 | apply PA)); exact rfl) | apply HpSub.appC | apply HpSub.skipX | apply HpSub.skip | apply HpSub.skipApp | exact HpSub.nil)))
    ·exact Nat.zero_le _
    rintro j hj
    try simp only [List.cons_append, List.nil_append]
    simp only [List.append_nil]
    have hwin := wkJ_in hall (i := i) (x := x) (win := d.win) (j := j) (by omega)
    by_cases hjl : j < n - i
    ·obtain ⟨y, hy⟩ : ∃ y, S[i + j]? = some y := ⟨_, List.getElem?_eq_getElem (by omega)⟩
     have hyo := hall y (List.mem_of_getElem? hy)
     unfold shOk at hyo
     have hsu := wkJ_succ (x := x) (win := d.win) hy
     obtain ⟨r0, r1, r2⟩ := sh_at hy
     rw [show 0 + (i + j) * 3 = 0 + i * 3 + j * 3 by omega] at r0 r1 r2
     unfold minT at hsu
     by_cases hyw : y.who = x.who
     ·rw [if_pos hyw] at hsu
      repeat' (first | (focus ((with_reducible apply oq_indexAddrN); (iterate 4 exact rfl); omega)) | ((with_reducible apply oq_addE (k := wkJ S i x d.win (j + 1))); exact rfl; exact rfl; omega) | ((with_reducible apply oq_lssT); exact rfl; exact rfl; omega) | ((with_reducible apply oq_eqlT); exact rfl; exact rfl; omega) | (apply oq_fn; exact rfl; try first | exact trivial | (and_intros <;> omega)) | ((with_reducible apply oq_load); exact rfl; exact rfl) | ((with_reducible apply oq_loadAgg); exact rfl; exact rfl) | (with_reducible apply tl_nil) | ((with_reducible apply u_q); (iterate 4 exact rfl)) | ((with_reducible apply u_s0); exact rfl; exact rfl) | ((with_reducible apply u_s); (iterate 3 exact rfl)) | ((with_reducible apply os_x); exact rfl) | ((with_reducible apply os_storeAgg); (iterate 5 exact rfl)) | ((with_reducible apply ox_alloc); exact rfl; intro _) | (apply Rd.own; (repeat (first | exact P0 | apply P1 | apply PA)); first | exact q0 | exact q1 | exact q2 | exact r0 | exact r1 | exact r2; done) | (apply Rd.own; (repeat (first | exact P0 | apply P1 | apply PA)); exact rfl; done) | (with_reducible apply t_seq) | (apply t_region; kernel_rfl) | ((with_reducible apply t_condT); exact rfl) | (with_reducible apply t_skip) | (with_reducible apply t_block) | with_reducible apply q_thenN | with_reducible apply q_blockN | exact P0 | exact Rdn.zero | apply Rdn.succ | ((with_reducible apply Norm.nil); exact rfl) | ((with_reducible apply Norm.cons); exact rfl) | exact Nat.le_of_ble_eq_true rfl)
      all_goals (refine ⟨j + 1, (by omega), (by omega), ?_, ?_⟩)
      all_goals first
       | ((try simp only [List.cons_append, List.nil_append]); (repeat (first | exact FrSub.nil | (apply FrSub.cons; exact rfl))); done)
       | ((try simp only [List.cons_append, List.nil_append]); (repeat (first | exact HpSub.refl _ | (apply HpSub.consE; (repeat (first | exact P0 | apply P1 | apply PA)); exact rfl) | apply HpSub.appC | apply HpSub.skipX | apply HpSub.skip | apply HpSub.skipApp | exact HpSub.nil)); done)
     ·rw [if_neg hyw, Int.add_zero] at hsu
      rw [← hsu]
      repeat' (first | (focus ((with_reducible apply oq_indexAddrN); (iterate 4 exact rfl); omega)) | ((with_reducible apply oq_lssT); exact rfl; exact rfl; omega) | ((with_reducible apply oq_eqlF); exact rfl; exact rfl; omega) | (apply oq_fn; exact rfl; try first | exact trivial | (and_intros <;> omega)) | ((with_reducible apply oq_load); exact rfl; exact rfl) | ((with_reducible apply oq_loadAgg); exact rfl; exact rfl) | (with_reducible apply tl_nil) | ((with_reducible apply u_q); (iterate 4 exact rfl)) | ((with_reducible apply u_s0); exact rfl; exact rfl) | ((with_reducible apply u_s); (iterate 3 exact rfl)) | ((with_reducible apply os_x); exact rfl) | ((with_reducible apply os_storeAgg); (iterate 5 exact rfl)) | ((with_reducible apply ox_alloc); exact rfl; intro _) | (apply Rd.own; (repeat (first | exact P0 | apply P1 | apply PA)); first | exact q0 | exact q1 | exact q2 | exact r0 | exact r1 | exact r2; done) | (apply Rd.own; (repeat (first | exact P0 | apply P1 | apply PA)); exact rfl; done) | (with_reducible apply t_seq) | (apply t_region; kernel_rfl) | ((with_reducible apply t_condT); exact rfl) | ((with_reducible apply t_condF); exact rfl) | (with_reducible apply t_skip) | (with_reducible apply t_block) | with_reducible apply q_thenN | with_reducible apply q_blockN | exact P0 | exact Rdn.zero | apply Rdn.succ | ((with_reducible apply Norm.nil); exact rfl) | ((with_reducible apply Norm.cons); exact rfl) | exact Nat.le_of_ble_eq_true rfl)
      all_goals (refine ⟨j + 1, (by omega), (by omega), ?_, ?_⟩)
      all_goals first
       | ((try simp only [List.cons_append, List.nil_append]); (repeat (first | exact FrSub.nil | (apply FrSub.cons; exact rfl))); done)
       | ((try simp only [List.cons_append, List.nil_append]); (repeat (first | exact HpSub.refl _ | (apply HpSub.consE; (repeat (first | exact P0 | apply P1 | apply PA)); exact rfl) | apply HpSub.appC | apply HpSub.skipX | apply HpSub.skip | apply HpSub.skipApp | exact HpSub.nil)); done)
    ·have hwa := wkJ_all (S := S) (i := i) (x := x) (win := d.win) (j := j) (by omega)
     rw [hwa]
     repeat' (first | ((with_reducible apply oq_lssF); exact rfl; exact rfl; omega) | (with_reducible apply tl_nil) | ((with_reducible apply u_q); (iterate 4 exact rfl)) | (with_reducible apply t_seq) | (apply t_region; kernel_rfl) | ((with_reducible apply t_condF); exact rfl) | (with_reducible apply t_exit) | with_reducible apply q_thenN | with_reducible apply q_thenE | ((with_reducible apply q_blockE); exact rfl))
     all_goals exact ⟨rfl, (), trivial, by (repeat (first | exact FrSub.nil | (apply FrSub.cons; exact rfl))), by (repeat (first | exact HpSub.refl _ | (apply HpSub.consE; (repeat (first | exact P0 | apply P1 | apply PA)); exact rfl) | apply HpSub.appC | apply HpSub.skipX | apply HpSub.skip | apply HpSub.skipApp | exact HpSub.nil))⟩
   rintro ⟨⟩ -
   have hwk := work_eq hsrt hfit hx (w := d.win) (by omega)
   have hwb : 0 ≤ workT S i x d.win ∧ workT S i x d.win ≤ 1000000000 := by
    have h1 := wkJ_all (S := S) (i := i) (x := x) (win := d.win) (j := n - i) (by omega)
    have h2 := wkJ_in hall (i := i) (x := x) (win := d.win) (j := n - i) (by omega)
    rw [h1] at h2
    omega
   obtain ⟨bB, hbB⟩ : ∃ b, restB d S i x = b := ⟨_, rfl⟩
   refine t_cut (ι := Unit) (fun _ => [(1, .slice (some ⟨g, 0, none⟩) n cp), (2, .pointer (some ⟨b2, 0, none⟩)), (16, .slice (some ⟨g, 0, none⟩) n cp), (17, .int .i64 (n : Nat)), (18, .int .i64 (i : Nat)), (5, .slice (clA o) (tiTo d S i).length (clC o)), (6, .int .i64 (i : Nat)), (7, .pointer (some ⟨b7, 0, none⟩)), (8, .int .i64 (workT S i x d.win)), (11, .bool (!bB))]) (fun _ => (b7, [.int .i64 x.who, .int .i64 x.fr, .int .i64 x.to], some (101, 3, 1)) :: (clH 99 3 (tiB (tiTo d S i)) o ++ [(g, shB S, some (101, 3, cp)), (b2, [.int .i64 d.most, .int .i64 d.rest, .int .i64 d.win, .int .i64 d.sum], some (74, 4, 1))])) (fun _ => True) ?_ ?_
   ·by_cases h4 : i = 0
    ·subst h4
     obtain rfl : bB = false := by rw [← hbB]; rfl
     repeat' (first | ((with_reducible apply oq_eqlT); exact rfl; exact rfl; omega) | (apply oq_fn; exact rfl; try first | exact trivial | (and_intros <;> omega)) | (with_reducible apply v_nil) | ((with_reducible apply v_q); (iterate 3 exact rfl)) | ((with_reducible apply v_skip); (iterate 3 exact rfl)) | (apply t_mix (id := 13) [0, 1, 2, 3, 4, 5, 6, 7, 8, 9, 10, 11, 12, 13, 14, 15, 16, 17, 18, 19, 20, 21, 22, 23, 24, 25, 26, 27] 0 #[false, false, false, false, false, false, false, false, false, false, false, false, false, false, false, false, false, false, false, false, false, false, false, false, false, false, false, false]; kernel_rfl; kernel_rfl; exact rfl) | (apply al_done; decide +kernel))
     all_goals exact ⟨rfl, (), trivial, by (repeat (first | exact FrSub.nil | (apply FrSub.cons; exact rfl))), by (repeat (first | exact HpSub.refl _ | (apply HpSub.consE; (repeat (first | exact P0 | apply P1 | apply PA)); exact rfl) | apply HpSub.appC | apply HpSub.skipX | apply HpSub.skip | apply HpSub.skipApp | exact HpSub.nil))⟩
    obtain ⟨y, hy⟩ : ∃ y, S[i - 1]? = some y := ⟨_, List.getElem?_eq_getElem (by omega)⟩
    obtain ⟨r0, r1, r2⟩ := sh_at hy
    have hyo := hall y (List.mem_of_getElem? hy)
    unfold shOk at hyo
    unfold restB at hbB
    rw [hy, show decide (0 < i) = true by simp; omega, Bool.true_and] at hbB
    by_cases h5 : y.who = x.who
    ·have hyx := (hfit i x hx).2 y (by omega) hy h5
     by_cases h6 : x.fr - y.to < d.rest
     ·obtain rfl : bB = true := by rw [← hbB]; simp [h5, h6]
      repeat' (first | (focus ((with_reducible apply oq_indexAddrN); (iterate 4 exact rfl); omega)) | ((with_reducible apply oq_subE (k := ((i - 1 : Nat) : Int))); exact rfl; exact rfl; omega) | ((with_reducible apply oq_eqlF); exact rfl; exact rfl; omega) | ((with_reducible apply oq_neqF); exact rfl; exact rfl; omega) | ((with_reducible apply oq_geqF); exact rfl; exact rfl; omega) | (apply oq_fn; exact rfl; try first | exact trivial | (and_intros <;> omega)) | ((with_reducible apply oq_load); exact rfl; exact rfl) | (with_reducible apply v_nil) | ((with_reducible apply v_q); (iterate 3 exact rfl)) | (apply Rd.own; (repeat (first | exact P0 | apply P1 | apply PA)); first | exact q0 | exact q1 | exact q2 | exact r0 | exact r1 | exact r2; done) | (apply Rd.own; (repeat (first | exact P0 | apply P1 | apply PA)); exact rfl; done) | (apply t_mix (id := 13) [0, 1, 2, 3, 4, 5, 6, 7, 8, 9, 10, 11, 12, 13, 14, 15, 16, 17, 18, 19, 20, 21, 22, 23, 24, 25, 26, 27] 0 #[false, false, false, false, false, false, false, false, false, false, false, false, false, false, false, false, false, false, false, false, false, false, false, false, false, false, false, false]; kernel_rfl; kernel_rfl; exact rfl) | (apply al_done; decide +kernel))
      all_goals exact ⟨rfl, (), trivial, by (repeat (first | exact FrSub.nil | (apply FrSub.cons; exact rfl))), by (repeat (first | exact HpSub.refl _ | (apply HpSub.consE; (repeat (first | exact P0 | apply P1 | apply PA)); exact rfl) | apply HpSub.appC | apply HpSub.skipX | apply HpSub.skip | apply HpSub.skipApp | exact HpSub.nil))⟩
     ·obtain rfl : bB = false := by rw [← hbB]; simp [h5, h6]
      repeat' (first | (focus ((with_reducible apply oq_indexAddrN); (iterate 4 exact rfl); omega)) | ((with_reducible apply oq_subE (k := ((i - 1 : Nat) : Int))); exact rfl; exact rfl; omega) | ((with_reducible apply oq_eqlF); exact rfl; exact rfl; omega) | ((with_reducible apply oq_neqF); exact rfl; exact rfl; omega) | ((with_reducible apply oq_geqT); exact rfl; exact rfl; omega) | (apply oq_fn; exact rfl; try first | exact trivial | (and_intros <;> omega)) | ((with_reducible apply oq_load); exact rfl; exact rfl) | (with_reducible apply v_nil) | ((with_reducible apply v_q); (iterate 3 exact rfl)) | (apply Rd.own; (repeat (first | exact P0 | apply P1 | apply PA)); first | exact q0 | exact q1 | exact q2 | exact r0 | exact r1 | exact r2; done) | (apply Rd.own; (repeat (first | exact P0 | apply P1 | apply PA)); exact rfl; done) | (apply t_mix (id := 13) [0, 1, 2, 3, 4, 5, 6, 7, 8, 9, 10, 11, 12, 13, 14, 15, 16, 17, 18, 19, 20, 21, 22, 23, 24, 25, 26, 27] 0 #[false, false, false, false, false, false, false, false, false, false, false, false, false, false, false, false, false, false, false, false, false, false, false, false, false, false, false, false]; kernel_rfl; kernel_rfl; exact rfl) | (apply al_done; decide +kernel))
      all_goals exact ⟨rfl, (), trivial, by (repeat (first | exact FrSub.nil | (apply FrSub.cons; exact rfl))), by (repeat (first | exact HpSub.refl _ | (apply HpSub.consE; (repeat (first | exact P0 | apply P1 | apply PA)); exact rfl) | apply HpSub.appC | apply HpSub.skipX | apply HpSub.skip | apply HpSub.skipApp | exact HpSub.nil))⟩
    ·obtain rfl : bB = false := by rw [← hbB]; simp [h5]
     repeat' (first | (focus ((with_reducible apply oq_indexAddrN); (iterate 4 exact rfl); omega)) | ((with_reducible apply oq_subE (k := ((i - 1 : Nat) : Int))); exact rfl; exact rfl; omega) | ((with_reducible apply oq_eqlF); exact rfl; exact rfl; omega) | ((with_reducible apply oq_neqT); exact rfl; exact rfl; omega) | (apply oq_fn; exact rfl; try first | exact trivial | (and_intros <;> omega)) | ((with_reducible apply oq_load); exact rfl; exact rfl) | (with_reducible apply v_nil) | ((with_reducible apply v_q); (iterate 3 exact rfl)) | ((with_reducible apply v_skip); (iterate 3 exact rfl)) | (apply Rd.own; (repeat (first | exact P0 | apply P1 | apply PA)); first | exact q0 | exact q1 | exact q2 | exact r0 | exact r1 | exact r2; done) | (apply Rd.own; (repeat (first | exact P0 | apply P1 | apply PA)); exact rfl; done) | (apply t_mix (id := 13) [0, 1, 2, 3, 4, 5, 6, 7, 8, 9, 10, 11, 12, 13, 14, 15, 16, 17, 18, 19, 20, 21, 22, 23, 24, 25, 26, 27] 0 #[false, false, false, false, false, false, false, false, false, false, false, false, false, false, false, false, false, false, false, false, false, false, false, false, false, false, false, false]; kernel_rfl; kernel_rfl; exact rfl) | (apply al_done; decide +kernel))
     all_goals exact ⟨rfl, (), trivial, by (repeat (first | exact FrSub.nil | (apply FrSub.cons; exact rfl))), by (repeat (first | exact HpSub.refl _ | (apply HpSub.consE; (repeat (first | exact P0 | apply P1 | apply PA)); exact rfl) | apply HpSub.appC | apply HpSub.skipX | apply HpSub.skip | apply HpSub.skipApp | exact HpSub.nil))⟩
   rintro ⟨⟩ -
   obtain ⟨bA, hbA⟩ : ∃ b, decide (x.to - x.fr > d.most) = b := ⟨_, rfl⟩
   obtain ⟨bC, hbC⟩ : ∃ b, decide (workV S x.who x.fr (x.fr + d.win) > d.sum) = b := ⟨_, rfl⟩
   rw [← hwk] at hbC
   refine t_cut (ι := Unit) (fun _ => [(1, .slice (some ⟨g, 0, none⟩) n cp), (2, .pointer (some ⟨b2, 0, none⟩)), (16, .slice (some ⟨g, 0, none⟩) n cp), (17, .int .i64 (n : Nat)), (18, .int .i64 (i : Nat)), (5, .slice (clA o) (tiTo d S i).length (clC o)), (6, .int .i64 (i : Nat)), (7, .pointer (some ⟨b7, 0, none⟩)), (95, .agg #[.int .i64 1, .bool bA, .int .i64 2, .bool bB, .int .i64 3, .bool bC]), (96, .int .i64 0)]) (fun _ => (b7, [.int .i64 x.who, .int .i64 x.fr, .int .i64 x.to], some (101, 3, 1)) :: (clH 99 3 (tiB (tiTo d S i)) o ++ [(g, shB S, some (101, 3, cp)), (b2, [.int .i64 d.most, .int .i64 d.rest, .int .i64 d.win, .int .i64 d.sum], some (74, 4, 1))])) (fun _ => True) ?_ ?_
   ·cases bA <;> cases bB <;> cases bC
    all_goals (simp only [decide_eq_true_eq, decide_eq_false_iff_not, gt_iff_lt] at hbA hbC)
    all_goals (repeat' (first | ((with_reducible apply oq_gtrT); exact rfl; exact rfl; omega) | ((with_reducible apply oq_gtrF); exact rfl; exact rfl; omega) | (apply oq_fn; exact rfl; try first | exact trivial | (and_intros <;> omega)) | ((with_reducible apply oq_load); exact rfl; exact rfl) | ((with_reducible apply oq_build); (iterate 3 exact rfl)) | ((with_reducible apply oq_buildA); (iterate 4 exact rfl)) | (with_reducible apply tl_nil) | ((with_reducible apply u_q); (iterate 4 exact rfl)) | (apply Rd.own; (repeat (first | exact P0 | apply P1 | apply PA)); exact rfl; done) | (apply t_region; kernel_rfl) | ((with_reducible apply Norm.nil); exact rfl) | ((with_reducible apply Norm.cons); exact rfl)))
    all_goals exact ⟨rfl, (), trivial, by (repeat (first | exact FrSub.nil | (apply FrSub.cons; exact rfl))), by (repeat (first | exact HpSub.refl _ | (apply HpSub.consE; (repeat (first | exact P0 | apply P1 | apply PA)); exact rfl) | apply HpSub.appC | apply HpSub.skipX | apply HpSub.skip | apply HpSub.skipApp | exact HpSub.nil))⟩
   rintro ⟨⟩ -
   have hT0 : tiTo d S i ++ casK bA bB bC x 0 = tiTo d S i := List.append_nil _
   have hT3 : tiTo d S i ++ casK bA bB bC x 3 = tiTo d S (i + 1) := by
    rw [tiTo_succ hx, casK_all hbA.symm hbB.symm (by rw [← hwk]; exact hbC.symm)]
   repeat' (first | (with_reducible apply t_block))
   apply t_loopK (GH := []) (ι := Nat × Option (Nat × Nat)) [1, 2, 6, 7, 16, 17, 18, 95] (fun z => [(96, .int .i64 (z.1 : Nat)), (5, .slice (clA z.2) (tiTo d S i ++ casK bA bB bC x z.1).length (clC z.2))]) (fun z => (b7, [.int .i64 x.who, .int .i64 x.fr, .int .i64 x.to], some (101, 3, 1)) :: (clH 99 3 (tiB (tiTo d S i ++ casK bA bB bC x z.1)) z.2 ++ [(g, shB S, some (101, 3, cp)), (b2, [.int .i64 d.most, .int .i64 d.rest, .int .i64 d.win, .int .i64 d.sum], some (74, 4, 1))])) (fun z => z.1 ≤ 3 ∧ (z.2 = none → (tiTo d S i ++ casK bA bB bC x z.1).length = 0)) (fun z => 3 - z.1) ((0, o))
   (repeat (first | exact KeepF.nil | (apply KeepF.cons; exact rfl) | apply KeepF.skip))
   (repeat (first | exact FrSub.nil | (apply FrSub.cons; exact rfl) | (apply FrSub.consE; exact rfl; (simp only [hT0]))))
   ((try simp only [List.append_nil, hT0]); (repeat (first | exact HpSub.refl _ | (apply HpSub.consE; (repeat (first | exact P0 | apply P1 | apply PA)); exact rfl) | apply HpSub.appC | apply HpSub.skipX | apply HpSub.skip | apply HpSub.skipApp | exact HpSub.nil)))
   ·exact ⟨Nat.zero_le _, by (simp only [hT0]; exact ho)⟩
   rintro ⟨k, o2⟩ ⟨hk, ho2⟩
   simp only at hk ho2
   simp only [List.append_nil]
   have hkl : (tiTo d S i ++ casK bA bB bC x k).length ≤ 3 * i + 3 := by
    rw [List.length_append]
    have := casK_len bA bB bC x k
    omega
   rcases (show k = 0 ∨ k = 1 ∨ k = 2 ∨ k = 3 by omega) with rfl | rfl | rfl | rfl
   ·obtain ⟨T0, hT⟩ : ∃ T, tiTo d S i ++ casK bA bB bC x 0 = T := ⟨_, rfl⟩
    rw [hT] at hkl ho2 ⊢
    cases bA with
    | false =>
     have e1 : tiTo d S i ++ casK false bB bC x 1 = T0 := by rw [← hT]; simp [casK]
     repeat' (first | ((with_reducible apply oq_lssT); exact rfl; exact rfl; omega) | (apply oq_fn; exact rfl; try first | exact trivial | (and_intros <;> omega)) | ((with_reducible apply oq_load); exact rfl; exact rfl) | ((with_reducible apply oq_indexAgg); (iterate 4 exact rfl)) | (with_reducible apply tl_nil) | ((with_reducible apply u_q); (iterate 4 exact rfl)) | ((with_reducible apply u_s0); exact rfl; exact rfl) | ((with_reducible apply u_s); (iterate 3 exact rfl)) | ((with_reducible apply os_x); exact rfl) | ((with_reducible apply os_storeAgg); (iterate 5 exact rfl)) | ((with_reducible apply ox_alloc); exact rfl; intro _) | (apply Rd.own; (repeat (first | exact P0 | apply P1 | apply PA)); exact rfl; done) | (with_reducible apply t_seq) | (apply t_region; kernel_rfl) | ((with_reducible apply t_condT); exact rfl) | ((with_reducible apply t_condF); exact rfl) | (with_reducible apply t_skip) | (with_reducible apply t_block) | with_reducible apply q_thenN | with_reducible apply q_blockN | exact P0 | ((with_reducible apply Norm.nil); exact rfl) | ((with_reducible apply Norm.cons); exact rfl) | exact Nat.le_of_ble_eq_true rfl | omega)
     all_goals (refine ⟨(1, o2), ⟨(by simp only; omega), (by simp only [e1]; exact ho2)⟩, (by simp only; omega), ?_, ?_⟩)
     all_goals (simp only [e1])
     all_goals first
      | ((try simp only [List.cons_append, List.nil_append]); (repeat (first | exact FrSub.nil | (apply FrSub.cons; exact rfl))); done)
      | ((try simp only [List.cons_append, List.nil_append]); (repeat (first | exact HpSub.refl _ | (apply HpSub.consE; (repeat (first | exact P0 | apply P1 | apply PA)); exact rfl) | apply HpSub.appC | apply HpSub.skipX | apply HpSub.skip | apply HpSub.skipApp | exact HpSub.nil)); done)
    | true =>
     have e1 : tiTo d S i ++ casK true bB bC x 1 = T0 ++ [⟨1, x.who, x.fr⟩] := by rw [← hT]; simp [casK]
     rcases o2 with _ | ⟨go, co⟩
     ·have h0 := ho2 rfl
      obtain rfl := List.length_eq_zero_iff.1 h0
      simp only [clA, clC, clH, List.nil_append, List.length_nil]
      repeat' (first | ((with_reducible apply oq_lssT); exact rfl; exact rfl; omega) | (apply oq_fn; exact rfl; try first | exact trivial | (and_intros <;> omega)) | ((with_reducible apply oq_load); exact rfl; exact rfl) | ((with_reducible apply oq_build); (iterate 3 exact rfl)) | ((with_reducible apply oq_indexAgg); (iterate 4 exact rfl)) | (with_reducible apply tl_nil) | ((with_reducible apply u_q); (iterate 4 exact rfl)) | ((with_reducible apply u_s0); exact rfl; exact rfl) | ((with_reducible apply u_s); (iterate 3 exact rfl)) | ((with_reducible apply os_x); exact rfl) | ((with_reducible apply os_storeAgg); (iterate 5 exact rfl)) | ((with_reducible apply os_appendNil (hk := app_ok77)); exact rfl; exact rfl) | ((with_reducible apply ox_alloc); exact rfl; intro _) | ((with_reducible apply ox_buildSlice); (iterate 4 exact rfl)) | (apply Rd.own; (repeat (first | exact P0 | apply P1 | apply PA)); exact rfl; done) | (with_reducible apply t_seq) | (apply t_region; kernel_rfl) | ((with_reducible apply t_condT); exact rfl) | (with_reducible apply t_skip) | (with_reducible apply t_block) | with_reducible apply q_thenN | with_reducible apply q_blockN | exact P0 | exact Rdn.zero | apply Rdn.succ | ((with_reducible apply Norm.nil); exact rfl) | ((with_reducible apply Norm.cons); exact rfl) | (intro gN cN; with_reducible apply tl_id) | exact Nat.le_of_ble_eq_true rfl | exact (rfl : (_ : Bool) = true) | omega | (intro _; with_reducible apply tl_id))
      all_goals (refine ⟨(1, some (gN, cN)), ⟨(by simp only; omega), fun h => by cases h⟩, (by simp only; omega), ?_, ?_⟩)
      all_goals (simp only [e1])
      all_goals first
       | ((try simp only [List.cons_append, List.nil_append]); (repeat (first | exact FrSub.nil | (apply FrSub.cons; exact rfl) | (apply FrSub.consE; exact rfl; (focus (simp; done))))); done)
       | ((try simp only [List.cons_append, List.nil_append]); (repeat (first | exact HpSub.refl _ | (apply HpSub.consE; (repeat (first | exact P0 | apply P1 | apply PA)); first | exact rfl | (focus (simp [tiB_app, tiB, tiCells]; done))) | apply HpSub.appC | apply HpSub.skipX | apply HpSub.skip | apply HpSub.skipApp | exact HpSub.nil)); done)
     ·simp only [clA, clC, clH, List.cons_append, List.nil_append]
      repeat' (first | ((with_reducible apply oq_lssT); exact rfl; exact rfl; omega) | (apply oq_fn; exact rfl; try first | exact trivial | (and_intros <;> omega)) | ((with_reducible apply oq_load); exact rfl; exact rfl) | ((with_reducible apply oq_build); (iterate 3 exact rfl)) | ((with_reducible apply oq_indexAgg); (iterate 4 exact rfl)) | (with_reducible apply tl_nil) | ((with_reducible apply u_q); (iterate 4 exact rfl)) | ((with_reducible apply u_s0); exact rfl; exact rfl) | ((with_reducible apply u_s); (iterate 3 exact rfl)) | ((with_reducible apply os_x); exact rfl) | ((with_reducible apply os_storeAgg); (iterate 5 exact rfl)) | ((with_reducible apply os_append (hk := app_ok77)); exact rfl; exact rfl; (repeat (first | exact P0 | apply P1 | apply PA))) | ((with_reducible apply ox_alloc); exact rfl; intro _) | ((with_reducible apply ox_buildSlice); (iterate 4 exact rfl)) | (apply Rd.own; (repeat (first | exact P0 | apply P1 | apply PA)); exact rfl; done) | (with_reducible apply t_seq) | (apply t_region; kernel_rfl) | ((with_reducible apply t_condT); exact rfl) | (with_reducible apply t_skip) | (with_reducible apply t_block) | with_reducible apply q_thenN | with_reducible apply q_blockN | exact P0 | exact Rdn.zero | apply Rdn.succ | ((with_reducible apply Norm.nil); exact rfl) | ((with_reducible apply Norm.cons); exact rfl) | exact tiB_len _ | (intro gN cN; with_reducible apply tl_id) | exact Nat.le_of_ble_eq_true rfl | exact (rfl : (_ : Bool) = true) | omega | (intro _; with_reducible apply tl_id))
      all_goals (refine ⟨(1, some (gN, cN)), ⟨(by simp only; omega), fun h => by cases h⟩, (by simp only; omega), ?_, ?_⟩)
      all_goals (simp only [e1])
      all_goals first
       | ((try simp only [List.cons_append, List.nil_append]); (repeat (first | exact FrSub.nil | (apply FrSub.cons; exact rfl) | (apply FrSub.consE; exact rfl; (focus (simp; done))))); done)
       | ((try simp only [List.cons_append, List.nil_append]); (repeat (first | exact HpSub.refl _ | (apply HpSub.consE; (repeat (first | exact P0 | apply P1 | apply PA)); first | exact rfl | (focus (simp [tiB_app, tiB, tiCells]; done))) | apply HpSub.appC | apply HpSub.skipX | apply HpSub.skip | apply HpSub.skipApp | exact HpSub.nil)); done)
   ·obtain ⟨T0, hT⟩ : ∃ T, tiTo d S i ++ casK bA bB bC x 1 = T := ⟨_, rfl⟩
    rw [hT] at hkl ho2 ⊢
    cases bB with
    | false =>
     have e1 : tiTo d S i ++ casK bA false bC x 2 = T0 := by rw [← hT]; simp [casK]
     repeat' (first | ((with_reducible apply oq_lssT); exact rfl; exact rfl; omega) | (apply oq_fn; exact rfl; try first | exact trivial | (and_intros <;> omega)) | ((with_reducible apply oq_load); exact rfl; exact rfl) | ((with_reducible apply oq_indexAgg); (iterate 4 exact rfl)) | (with_reducible apply tl_nil) | ((with_reducible apply u_q); (iterate 4 exact rfl)) | ((with_reducible apply u_s0); exact rfl; exact rfl) | ((with_reducible apply u_s); (iterate 3 exact rfl)) | ((with_reducible apply os_x); exact rfl) | ((with_reducible apply os_storeAgg); (iterate 5 exact rfl)) | ((with_reducible apply ox_alloc); exact rfl; intro _) | (apply Rd.own; (repeat (first | exact P0 | apply P1 | apply PA)); exact rfl; done) | (with_reducible apply t_seq) | (apply t_region; kernel_rfl) | ((with_reducible apply t_condT); exact rfl) | ((with_reducible apply t_condF); exact rfl) | (with_reducible apply t_skip) | (with_reducible apply t_block) | with_reducible apply q_thenN | with_reducible apply q_blockN | exact P0 | ((with_reducible apply Norm.nil); exact rfl) | ((with_reducible apply Norm.cons); exact rfl) | exact Nat.le_of_ble_eq_true rfl | omega)
     all_goals (refine ⟨(2, o2), ⟨(by simp only; omega), (by simp only [e1]; exact ho2)⟩, (by simp only; omega), ?_, ?_⟩)
     all_goals (simp only [e1])
     all_goals first
      | ((try simp only [List.cons_append, List.nil_append]); (repeat (first | exact FrSub.nil | (apply FrSub.cons; exact rfl))); done)
      | ((try simp only [List.cons_append, List.nil_append]); (repeat (first | exact HpSub.refl _ | (apply HpSub.consE; (repeat (first | exact P0 | apply P1 | apply PA)); exact rfl) | apply HpSub.appC | apply HpSub.skipX | apply HpSub.skip | apply HpSub.skipApp | exact HpSub.nil)); done)
    | true =>
     have e1 : tiTo d S i ++ casK bA true bC x 2 = T0 ++ [⟨2, x.who, x.fr⟩] := by rw [← hT]; simp [casK]
     rcases o2 with _ | ⟨go, co⟩
     ·have h0 := ho2 rfl
      obtain rfl := List.length_eq_zero_iff.1 h0
      simp only [clA, clC, clH, List.nil_append, List.length_nil]
      repeat' (first | ((with_reducible apply oq_lssT); exact rfl; exact rfl; omega) | (apply oq_fn; exact rfl; try first | exact trivial | (and_intros <;> omega)) | ((with_reducible apply oq_load); exact rfl; exact rfl) | ((with_reducible apply oq_build); (iterate 3 exact rfl)) | ((with_reducible apply oq_indexAgg); (iterate 4 exact rfl)) | (with_reducible apply tl_nil) | ((with_reducible apply u_q); (iterate 4 exact rfl)) | ((with_reducible apply u_s0); exact rfl; exact rfl) | ((with_reducible apply u_s); (iterate 3 exact rfl)) | ((with_reducible apply os_x); exact rfl) | ((with_reducible apply os_storeAgg); (iterate 5 exact rfl)) | ((with_reducible apply os_appendNil (hk := app_ok77)); exact rfl; exact rfl) | ((with_reducible apply ox_alloc); exact rfl; intro _) | ((with_reducible apply ox_buildSlice); (iterate 4 exact rfl)) | (apply Rd.own; (repeat (first | exact P0 | apply P1 | apply PA)); exact rfl; done) | (with_reducible apply t_seq) | (apply t_region; kernel_rfl) | ((with_reducible apply t_condT); exact rfl) | (with_reducible apply t_skip) | (with_reducible apply t_block) | with_reducible apply q_thenN | with_reducible apply q_blockN | exact P0 | exact Rdn.zero | apply Rdn.succ | ((with_reducible apply Norm.nil); exact rfl) | ((with_reducible apply Norm.cons); exact rfl) | (intro gN cN; with_reducible apply tl_id) | exact Nat.le_of_ble_eq_true rfl | exact (rfl : (_ : Bool) = true) | omega | (intro _; with_reducible apply tl_id))
      all_goals (refine ⟨(2, some (gN, cN)), ⟨(by simp only; omega), fun h => by cases h⟩, (by simp only; omega), ?_, ?_⟩)
      all_goals (simp only [e1])
      all_goals first
       | ((try simp only [List.cons_append, List.nil_append]); (repeat (first | exact FrSub.nil | (apply FrSub.cons; exact rfl) | (apply FrSub.consE; exact rfl; (focus (simp; done))))); done)
       | ((try simp only [List.cons_append, List.nil_append]); (repeat (first | exact HpSub.refl _ | (apply HpSub.consE; (repeat (first | exact P0 | apply P1 | apply PA)); first | exact rfl | (focus (simp [tiB_app, tiB, tiCells]; done))) | apply HpSub.appC | apply HpSub.skipX | apply HpSub.skip | apply HpSub.skipApp | exact HpSub.nil)); done)
     ·simp only [clA, clC, clH, List.cons_append, List.nil_append]
      repeat' (first | ((with_reducible apply oq_lssT); exact rfl; exact rfl; omega) | (apply oq_fn; exact rfl; try first | exact trivial | (and_intros <;> omega)) | ((with_reducible apply oq_load); exact rfl; exact rfl) | ((with_reducible apply oq_build); (iterate 3 exact rfl)) | ((with_reducible apply oq_indexAgg); (iterate 4 exact rfl)) | (with_reducible apply tl_nil) | ((with_reducible apply u_q); (iterate 4 exact rfl)) | ((with_reducible apply u_s0); exact rfl; exact rfl) | ((with_reducible apply u_s); (iterate 3 exact rfl)) | ((with_reducible apply os_x); exact rfl) | ((with_reducible apply os_storeAgg); (iterate 5 exact rfl)) | ((with_reducible apply os_append (hk := app_ok77)); exact rfl; exact rfl; (repeat (first | exact P0 | apply P1 | apply PA))) | ((with_reducible apply ox_alloc); exact rfl; intro _) | ((with_reducible apply ox_buildSlice); (iterate 4 exact rfl)) | (apply Rd.own; (repeat (first | exact P0 | apply P1 | apply PA)); exact rfl; done) | (with_reducible apply t_seq) | (apply t_region; kernel_rfl) | ((with_reducible apply t_condT); exact rfl) | (with_reducible apply t_skip) | (with_reducible apply t_block) | with_reducible apply q_thenN | with_reducible apply q_blockN | exact P0 | exact Rdn.zero | apply Rdn.succ | ((with_reducible apply Norm.nil); exact rfl) | ((with_reducible apply Norm.cons); exact rfl) | exact tiB_len _ | (intro gN cN; with_reducible apply tl_id) | exact Nat.le_of_ble_eq_true rfl | exact (rfl : (_ : Bool) = true) | omega | (intro _; with_reducible apply tl_id))
      all_goals (refine ⟨(2, some (gN, cN)), ⟨(by simp only; omega), fun h => by cases h⟩, (by simp only; omega), ?_, ?_⟩)
      all_goals (simp only [e1])
      all_goals first
       | ((try simp only [List.cons_append, List.nil_append]); (repeat (first | exact FrSub.nil | (apply FrSub.cons; exact rfl) | (apply FrSub.consE; exact rfl; (focus (simp; done))))); done)
       | ((try simp only [List.cons_append, List.nil_append]); (repeat (first | exact HpSub.refl _ | (apply HpSub.consE; (repeat (first | exact P0 | apply P1 | apply PA)); first | exact rfl | (focus (simp [tiB_app, tiB, tiCells]; done))) | apply HpSub.appC | apply HpSub.skipX | apply HpSub.skip | apply HpSub.skipApp | exact HpSub.nil)); done)
   ·obtain ⟨T0, hT⟩ : ∃ T, tiTo d S i ++ casK bA bB bC x 2 = T := ⟨_, rfl⟩
    rw [hT] at hkl ho2 ⊢
    cases bC with
    | false =>
     have e1 : tiTo d S i ++ casK bA bB false x 3 = T0 := by rw [← hT]; simp [casK]
     repeat' (first | ((with_reducible apply oq_lssT); exact rfl; exact rfl; omega) | (apply oq_fn; exact rfl; try first | exact trivial | (and_intros <;> omega)) | ((with_reducible apply oq_load); exact rfl; exact rfl) | ((with_reducible apply oq_indexAgg); (iterate 4 exact rfl)) | (with_reducible apply tl_nil) | ((with_reducible apply u_q); (iterate 4 exact rfl)) | ((with_reducible apply u_s0); exact rfl; exact rfl) | ((with_reducible apply u_s); (iterate 3 exact rfl)) | ((with_reducible apply os_x); exact rfl) | ((with_reducible apply os_storeAgg); (iterate 5 exact rfl)) | ((with_reducible apply ox_alloc); exact rfl; intro _) | (apply Rd.own; (repeat (first | exact P0 | apply P1 | apply PA)); exact rfl; done) | (with_reducible apply t_seq) | (apply t_region; kernel_rfl) | ((with_reducible apply t_condT); exact rfl) | ((with_reducible apply t_condF); exact rfl) | (with_reducible apply t_skip) | (with_reducible apply t_block) | with_reducible apply q_thenN | with_reducible apply q_blockN | exact P0 | ((with_reducible apply Norm.nil); exact rfl) | ((with_reducible apply Norm.cons); exact rfl) | exact Nat.le_of_ble_eq_true rfl | omega)
     all_goals (refine ⟨(3, o2), ⟨(by simp only; omega), (by simp only [e1]; exact ho2)⟩, (by simp only; omega), ?_, ?_⟩)
     all_goals (simp only [e1])
     all_goals first
      | ((try simp only [List.cons_append, List.nil_append]); (repeat (first | exact FrSub.nil | (apply FrSub.cons; exact rfl))); done)
      | ((try simp only [List.cons_append, List.nil_append]); (repeat (first | exact HpSub.refl _ | (apply HpSub.consE; (repeat (first | exact P0 | apply P1 | apply PA)); exact rfl) | apply HpSub.appC | apply HpSub.skipX | apply HpSub.skip | apply HpSub.skipApp | exact HpSub.nil)); done)
    | true =>
     have e1 : tiTo d S i ++ casK bA bB true x 3 = T0 ++ [⟨3, x.who, x.fr⟩] := by rw [← hT]; simp [casK]
     rcases o2 with _ | ⟨go, co⟩
     ·have h0 := ho2 rfl
      obtain rfl := List.length_eq_zero_iff.1 h0
      simp only [clA, clC, clH, List.nil_append, List.length_nil]
      repeat' (first | ((with_reducible apply oq_lssT); exact rfl; exact rfl; omega) | (apply oq_fn; exact rfl; try first | exact trivial | (and_intros <;> omega)) | ((with_reducible apply oq_load); exact rfl; exact rfl) | ((with_reducible apply oq_build); (iterate 3 exact rfl)) | ((with_reducible apply oq_indexAgg); (iterate 4 exact rfl)) | (with_reducible apply tl_nil) | ((with_reducible apply u_q); (iterate 4 exact rfl)) | ((with_reducible apply u_s0); exact rfl; exact rfl) | ((with_reducible apply u_s); (iterate 3 exact rfl)) | ((with_reducible apply os_x); exact rfl) | ((with_reducible apply os_storeAgg); (iterate 5 exact rfl)) | ((with_reducible apply os_appendNil (hk := app_ok77)); exact rfl; exact rfl) | ((with_reducible apply ox_alloc); exact rfl; intro _) | ((with_reducible apply ox_buildSlice); (iterate 4 exact rfl)) | (apply Rd.own; (repeat (first | exact P0 | apply P1 | apply PA)); exact rfl; done) | (with_reducible apply t_seq) | (apply t_region; kernel_rfl) | ((with_reducible apply t_condT); exact rfl) | (with_reducible apply t_skip) | (with_reducible apply t_block) | with_reducible apply q_thenN | with_reducible apply q_blockN | exact P0 | exact Rdn.zero | apply Rdn.succ | ((with_reducible apply Norm.nil); exact rfl) | ((with_reducible apply Norm.cons); exact rfl) | (intro gN cN; with_reducible apply tl_id) | exact Nat.le_of_ble_eq_true rfl | exact (rfl : (_ : Bool) = true) | omega | (intro _; with_reducible apply tl_id))
      all_goals (refine ⟨(3, some (gN, cN)), ⟨(by simp only; omega), fun h => by cases h⟩, (by simp only; omega), ?_, ?_⟩)
      all_goals (simp only [e1])
      all_goals first
       | ((try simp only [List.cons_append, List.nil_append]); (repeat (first | exact FrSub.nil | (apply FrSub.cons; exact rfl) | (apply FrSub.consE; exact rfl; (focus (simp; done))))); done)
       | ((try simp only [List.cons_append, List.nil_append]); (repeat (first | exact HpSub.refl _ | (apply HpSub.consE; (repeat (first | exact P0 | apply P1 | apply PA)); first | exact rfl | (focus (simp [tiB_app, tiB, tiCells]; done))) | apply HpSub.appC | apply HpSub.skipX | apply HpSub.skip | apply HpSub.skipApp | exact HpSub.nil)); done)
     ·simp only [clA, clC, clH, List.cons_append, List.nil_append]
      repeat' (first | ((with_reducible apply oq_lssT); exact rfl; exact rfl; omega) | (apply oq_fn; exact rfl; try first | exact trivial | (and_intros <;> omega)) | ((with_reducible apply oq_load); exact rfl; exact rfl) | ((with_reducible apply oq_build); (iterate 3 exact rfl)) | ((with_reducible apply oq_indexAgg); (iterate 4 exact rfl)) | (with_reducible apply tl_nil) | ((with_reducible apply u_q); (iterate 4 exact rfl)) | ((with_reducible apply u_s0); exact rfl; exact rfl) | ((with_reducible apply u_s); (iterate 3 exact rfl)) | ((with_reducible apply os_x); exact rfl) | ((with_reducible apply os_storeAgg); (iterate 5 exact rfl)) | ((with_reducible apply os_append (hk := app_ok77)); exact rfl; exact rfl; (repeat (first | exact P0 | apply P1 | apply PA))) | ((with_reducible apply ox_alloc); exact rfl; intro _) | ((with_reducible apply ox_buildSlice); (iterate 4 exact rfl)) | (apply Rd.own; (repeat (first | exact P0 | apply P1 | apply PA)); exact rfl; done) | (with_reducible apply t_seq) | (apply t_region; kernel_rfl) | ((with_reducible apply t_condT); exact rfl) | (with_reducible apply t_skip) | (with_reducible apply t_block) | with_reducible apply q_thenN | with_reducible apply q_blockN | exact P0 | exact Rdn.zero | apply Rdn.succ | ((with_reducible apply Norm.nil); exact rfl) | ((with_reducible apply Norm.cons); exact rfl) | exact tiB_len _ | (intro gN cN; with_reducible apply tl_id) | exact Nat.le_of_ble_eq_true rfl | exact (rfl : (_ : Bool) = true) | omega | (intro _; with_reducible apply tl_id))
      all_goals (refine ⟨(3, some (gN, cN)), ⟨(by simp only; omega), fun h => by cases h⟩, (by simp only; omega), ?_, ?_⟩)
      all_goals (simp only [e1])
      all_goals first
       | ((try simp only [List.cons_append, List.nil_append]); (repeat (first | exact FrSub.nil | (apply FrSub.cons; exact rfl) | (apply FrSub.consE; exact rfl; (focus (simp; done))))); done)
       | ((try simp only [List.cons_append, List.nil_append]); (repeat (first | exact HpSub.refl _ | (apply HpSub.consE; (repeat (first | exact P0 | apply P1 | apply PA)); first | exact rfl | (focus (simp [tiB_app, tiB, tiCells]; done))) | apply HpSub.appC | apply HpSub.skipX | apply HpSub.skip | apply HpSub.skipApp | exact HpSub.nil)); done)
   ·rw [hT3] at ho2 ⊢
    repeat' (first | ((with_reducible apply oq_lssF); exact rfl; exact rfl; omega) | (with_reducible apply tl_nil) | ((with_reducible apply u_q); (iterate 4 exact rfl)) | (with_reducible apply t_seq) | (apply t_region; kernel_rfl) | ((with_reducible apply t_condF); exact rfl) | (with_reducible apply t_exit) | with_reducible apply q_thenN | with_reducible apply q_blockN | with_reducible apply q_thenE | ((with_reducible apply q_blockE); exact rfl))
    all_goals exact ⟨rfl, o2, ho2, by (repeat (first | exact FrSub.nil | (apply FrSub.cons; exact rfl))), by (repeat (first | exact HpSub.refl _ | (apply HpSub.consE; (repeat (first | exact P0 | apply P1 | apply PA)); exact rfl) | apply HpSub.appC | apply HpSub.skipX | apply HpSub.skip | apply HpSub.skipApp | exact HpSub.nil))⟩
  ·rintro o2 ho2
   repeat' (first | (apply oq_fn; exact rfl; try first | exact trivial | (and_intros <;> omega)) | (with_reducible apply tl_nil) | ((with_reducible apply u_q); (iterate 4 exact rfl)) | (apply t_region; kernel_rfl) | with_reducible apply q_thenN)
   all_goals (refine ⟨(i + 1, o2), ⟨(by simp only; omega), ho2⟩, (by simp only; omega), ?_, ?_⟩)
   all_goals first
    | ((try simp only [List.cons_append, List.nil_append]); (repeat (first | exact FrSub.nil | (apply FrSub.cons; exact rfl))); done)
    | ((try simp only [List.cons_append, List.nil_append]); (repeat (first | exact HpSub.refl _ | (apply HpSub.consE; (repeat (first | exact P0 | apply P1 | apply PA)); exact rfl) | apply HpSub.appC | apply HpSub.skipX | apply HpSub.skip | apply HpSub.skipApp | exact HpSub.nil)); done)
 ·obtain rfl : i = n := by omega
  rw [hti]
  repeat' (first | ((with_reducible apply oq_lssF); exact rfl; exact rfl; omega) | (apply oq_fn; exact rfl; try first | exact trivial | (and_intros <;> omega)) | (with_reducible apply tl_nil) | ((with_reducible apply u_q); (iterate 4 exact rfl)) | (with_reducible apply t_seq) | (apply t_region; kernel_rfl) | ((with_reducible apply t_condF); exact rfl) | (with_reducible apply t_ret) | (with_reducible apply t_exit) | with_reducible apply q_thenN | with_reducible apply q_thenE | ((with_reducible apply q_blockE); exact rfl) | (with_reducible apply end_ret) | exact rvs_nil | (with_reducible apply rvs_cons) | ((with_reducible apply rv_tmp); exact rfl))
  all_goals exact ⟨_, ⟨o, ho, rfl, rfl⟩, hp_left⟩
theorem dutyR_calls (d : Du) (w : World) : Calls Try.prog 44 #[.agg #[.int .i64 d.most, .int .i64 d.rest, .int .i64 d.win, .int .i64 d.sum]] w fun e w' => e = .returned (.int .i64 (duE d)) ∧ Ext w w' := by
 obtain ⟨q1, hq1⟩ : ∃ q, allFrom 1 100000 [d.most, d.win] = q := ⟨_, rfl⟩
 obtain ⟨q2, hq2⟩ : ∃ q, allFrom 0 100000 [d.rest] = q := ⟨_, rfl⟩
 obtain ⟨q3, hq3⟩ : ∃ q, allFrom 0 d.win [d.sum] = q := ⟨_, rfl⟩
 have e1 : q1 = true ↔ (1 ≤ d.most ∧ d.most ≤ 100000) ∧ 1 ≤ d.win ∧ d.win ≤ 100000 := by rw [← hq1]; unfold allFrom; simp
 have e2 : q2 = true ↔ 0 ≤ d.rest ∧ d.rest ≤ 100000 := by rw [← hq2]; exact allFrom_one
 have e3 : q3 = true ↔ 0 ≤ d.sum ∧ d.sum ≤ d.win := by rw [← hq3]; exact allFrom_one
 have hdu : duB d ↔ q1 = true ∧ q2 = true ∧ q3 = true := by rw [e1, e2, e3]; unfold duB; omega
 unfold duE
 cases q1 with
 | false =>
  rw [if_neg (fun h => by have := (hdu.1 h).1; cases this)]
  refine enterQ (c := cx w 26) Try.func44 rfl rfl rfl rfl ?_
  repeat' (first | (apply oq_fn; exact rfl; try first | exact trivial | (and_intros <;> omega)) | ((with_reducible apply oq_load); exact rfl; exact rfl) | ((with_reducible apply oq_call (k := 63) (hc := Try.call63)); exact rfl; exact rfl; exact fun D w1 hw1 => fromTwo hq1 hw1 (by (repeat (first | exact P0 | apply P1)))) | (with_reducible apply tl_nil) | ((with_reducible apply u_q); (iterate 4 exact rfl)) | ((with_reducible apply u_s); (iterate 3 exact rfl)) | ((with_reducible apply u_skip); (iterate 3 exact rfl)) | ((with_reducible apply os_x); exact rfl) | ((with_reducible apply ox_boxAgg); exact rfl; intro _) | ((with_reducible apply ox_buildSlice1); (iterate 6 exact rfl); intro _) | (apply Rd.own; (repeat (first | exact P0 | apply P1)); exact rfl; done) | (with_reducible apply t_seq) | (apply t_region; kernel_rfl) | ((with_reducible apply t_condT); exact rfl) | (with_reducible apply t_ret) | with_reducible apply q_thenN | with_reducible apply q_thenR | (with_reducible apply end_ret) | exact rvs_nil | (with_reducible apply rvs_cons) | ((with_reducible apply rv_tmp); exact rfl))
  all_goals rfl
 | true =>
  cases q2 with
  | false =>
   rw [if_neg (fun h => by have := (hdu.1 h).2.1; cases this)]
   refine enterQ (c := cx w 26) Try.func44 rfl rfl rfl rfl ?_
   repeat' (first | (apply oq_fn; exact rfl; try first | exact trivial | (and_intros <;> omega)) | ((with_reducible apply oq_load); exact rfl; exact rfl) | ((with_reducible apply oq_call (k := 63) (hc := Try.call63)); exact rfl; exact rfl; exact fun D w1 hw1 => fromTwo hq1 hw1 (by (repeat (first | exact P0 | apply P1)))) | ((with_reducible apply oq_call (k := 63) (hc := Try.call63)); exact rfl; exact rfl; exact fun D w1 hw1 => fromOne hq2 hw1 (by (repeat (first | exact P0 | apply P1)))) | (with_reducible apply tl_nil) | ((with_reducible apply u_q); (iterate 4 exact rfl)) | ((with_reducible apply u_s); (iterate 3 exact rfl)) | ((with_reducible apply u_skip); (iterate 3 exact rfl)) | ((with_reducible apply os_x); exact rfl) | ((with_reducible apply ox_boxAgg); exact rfl; intro _) | ((with_reducible apply ox_buildSlice1); (iterate 6 exact rfl); intro _) | (apply Rd.own; (repeat (first | exact P0 | apply P1)); exact rfl; done) | (with_reducible apply t_seq) | (apply t_region; kernel_rfl) | ((with_reducible apply t_condT); exact rfl) | (with_reducible apply t_ret) | with_reducible apply q_thenN | with_reducible apply q_thenR | (with_reducible apply end_ret) | exact rvs_nil | (with_reducible apply rvs_cons) | ((with_reducible apply rv_tmp); exact rfl))
   all_goals rfl
  | true =>
   cases q3 with
   | false =>
    rw [if_neg (fun h => by have := (hdu.1 h).2.2; cases this)]
    refine enterQ (c := cx w 26) Try.func44 rfl rfl rfl rfl ?_
    repeat' (first | (apply oq_fn; exact rfl; try first | exact trivial | (and_intros <;> omega)) | ((with_reducible apply oq_load); exact rfl; exact rfl) | ((with_reducible apply oq_call (k := 63) (hc := Try.call63)); exact rfl; exact rfl; exact fun D w1 hw1 => fromTwo hq1 hw1 (by (repeat (first | exact P0 | apply P1)))) | ((with_reducible apply oq_call (k := 63) (hc := Try.call63)); exact rfl; exact rfl; exact fun D w1 hw1 => fromOne hq2 hw1 (by (repeat (first | exact P0 | apply P1)))) | ((with_reducible apply oq_call (k := 63) (hc := Try.call63)); exact rfl; exact rfl; exact fun D w1 hw1 => fromOne hq3 hw1 (by (repeat (first | exact P0 | apply P1)))) | (with_reducible apply tl_nil) | ((with_reducible apply u_q); (iterate 4 exact rfl)) | ((with_reducible apply u_s); (iterate 3 exact rfl)) | ((with_reducible apply os_x); exact rfl) | ((with_reducible apply ox_boxAgg); exact rfl; intro _) | ((with_reducible apply ox_buildSlice1); (iterate 6 exact rfl); intro _) | (apply Rd.own; (repeat (first | exact P0 | apply P1)); exact rfl; done) | (with_reducible apply t_seq) | (apply t_region; kernel_rfl) | ((with_reducible apply t_condT); exact rfl) | (with_reducible apply t_ret) | with_reducible apply q_thenN | with_reducible apply q_thenR | (with_reducible apply end_ret) | exact rvs_nil | (with_reducible apply rvs_cons) | ((with_reducible apply rv_tmp); exact rfl))
    all_goals rfl
   | true =>
    rw [if_pos (hdu.2 ⟨rfl, rfl, rfl⟩)]
    refine enterQ (c := cx w 26) Try.func44 rfl rfl rfl rfl ?_
    repeat' (first | (apply oq_fn; exact rfl; try first | exact trivial | (and_intros <;> omega)) | ((with_reducible apply oq_load); exact rfl; exact rfl) | ((with_reducible apply oq_call (k := 63) (hc := Try.call63)); exact rfl; exact rfl; exact fun D w1 hw1 => fromTwo hq1 hw1 (by (repeat (first | exact P0 | apply P1)))) | ((with_reducible apply oq_call (k := 63) (hc := Try.call63)); exact rfl; exact rfl; exact fun D w1 hw1 => fromOne hq2 hw1 (by (repeat (first | exact P0 | apply P1)))) | ((with_reducible apply oq_call (k := 63) (hc := Try.call63)); exact rfl; exact rfl; exact fun D w1 hw1 => fromOne hq3 hw1 (by (repeat (first | exact P0 | apply P1)))) | (with_reducible apply tl_nil) | ((with_reducible apply u_q); (iterate 4 exact rfl)) | ((with_reducible apply u_s); (iterate 3 exact rfl)) | ((with_reducible apply os_x); exact rfl) | ((with_reducible apply ox_boxAgg); exact rfl; intro _) | ((with_reducible apply ox_buildSlice1); (iterate 6 exact rfl); intro _) | (apply Rd.own; (repeat (first | exact P0 | apply P1)); exact rfl; done) | (with_reducible apply t_seq) | (apply t_region; kernel_rfl) | ((with_reducible apply t_condF); exact rfl) | (with_reducible apply t_ret) | (with_reducible apply t_skip) | with_reducible apply q_thenN | (with_reducible apply end_ret) | exact rvs_nil | (with_reducible apply rvs_cons) | ((with_reducible apply rv_tmp); exact rfl))
    all_goals rfl
theorem tiE_ok {d : Du} {l : List Sh} (h : tiE d l = 0) : duB d ∧ l.length ≤ 40 ∧ Ros l := by
 unfold tiE duE rosE at h
 by_cases h1 : duB d
 ·rw [if_pos h1] at h
  by_cases h2 : 40 < l.length
  ·rw [if_pos h2] at h; simp at h
  ·rw [if_neg h2] at h
   by_cases h3 : Ros l
   ·exact ⟨h1, by omega, h3⟩
   ·rw [if_neg h3] at h; simp at h
 ·rw [if_neg h1] at h; simp at h
theorem tiE_eq {d : Du} {l : List Sh} : (if duE d = 0 then rosE l else duE d) = tiE d l := rfl
end Go.Proofs.Ytmlmgipngbndgaa
namespace Go.Proofs.Ytmlmgipngbndgaa
structure Tr where
 fr : Int
 to : Int
 crew : Int
def trCells (x : Tr) : List Value := [.int .i64 x.fr, .int .i64 x.to, .int .i64 x.crew]
/-- A roster that is valid, but for its number, in which nobody is tired. -/
def okB (d : Du) (l : List Sh) : Bool := decide (Ros l) && (tiV d l).isEmpty
/-- The first way to man trips, from a state of the first one on. -/
def tryF (d : Du) (mem : Nat) : Nat → List Tr → List Int → Nat → List Sh → Option (List (List Int))
 | 0, _, _, _, _ => none
 | f + 1, ts, cur, who, l => if okB d l = true then (match ts with
   | [] => some []
   | x :: ts' => if (cur.length : Int) = x.crew then (tryF d mem f ts' [] 0 l).map (cur :: ·)
     else (List.range' who (mem - who)).findSome? fun k : Nat => tryF d mem f (x :: ts') (cur ++ [(k : Int)]) (k + 1) (l ++ [⟨(k : Int), x.fr, x.to⟩]))
  else none
/-- How deep it goes. -/
def dep : List Tr → Nat
 | [] => 1
 | x :: ts => x.crew.toNat + 1 + dep ts
def trOk (x : Tr) : Prop := 0 ≤ x.fr ∧ x.fr < x.to ∧ x.to ≤ 1000000 ∧ 0 ≤ x.crew ∧ x.crew ≤ 2
instance (x : Tr) : Decidable (trOk x) := by unfold trOk; infer_instance
theorem tryF_bad {d : Du} {mem f : Nat} {ts : List Tr} {cur : List Int} {who : Nat} {l : List Sh} (h : okB d l = false) : tryF d mem f ts cur who l = none := by
 cases f with
 | zero => rfl
 | succ f => unfold tryF; rw [if_neg (by rw [h]; decide)]
theorem tryF_end {d : Du} {mem f : Nat} {cur : List Int} {who : Nat} {l : List Sh} (h : okB d l = true) : tryF d mem (f + 1) [] cur who l = some [] := by
 unfold tryF; rw [if_pos h]
theorem tryF_full {d : Du} {mem f : Nat} {x : Tr} {ts : List Tr} {cur : List Int} {who : Nat} {l : List Sh} (h : okB d l = true) (hc : (cur.length : Int) = x.crew) : tryF d mem (f + 1) (x :: ts) cur who l = (tryF d mem f ts [] 0 l).map (cur :: ·) := by
 rw [tryF, if_pos h]; simp only [if_pos hc]
theorem tryF_loop {d : Du} {mem f : Nat} {x : Tr} {ts : List Tr} {cur : List Int} {who : Nat} {l : List Sh} (h : okB d l = true) (hc : ¬ (cur.length : Int) = x.crew) : tryF d mem (f + 1) (x :: ts) cur who l =
  (List.range' who (mem - who)).findSome? fun k : Nat => tryF d mem f (x :: ts) (cur ++ [(k : Int)]) (k + 1) (l ++ [⟨(k : Int), x.fr, x.to⟩]) := by
 rw [tryF, if_pos h]; simp only [if_neg hc]
theorem some_go {β : Type} {F : Nat → Option β} {who mem : Nat} (h : who < mem) (hn : F who = none) : (List.range' who (mem - who)).findSome? F = (List.range' (who + 1) (mem - (who + 1))).findSome? F := by
 rw [show mem - who = (mem - (who + 1)) + 1 by omega, List.range'_succ, List.findSome?_cons, hn]
theorem some_hit {β : Type} {F : Nat → Option β} {who mem : Nat} (h : who < mem) {r : β} (hn : F who = some r) : (List.range' who (mem - who)).findSome? F = some r := by
 rw [show mem - who = (mem - (who + 1)) + 1 by omega, List.range'_succ, List.findSome?_cons, hn]
theorem some_end {β : Type} {F : Nat → Option β} {who mem : Nat} (h : mem ≤ who) : (List.range' who (mem - who)).findSome? F = none := by
 rw [show mem - who = 0 by omega]; rfl
theorem tryF_len {d : Du} {mem : Nat} : ∀ {f : Nat} {ts : List Tr} {cur : List Int} {who : Nat} {l : List Sh} {r : List (List Int)}, tryF d mem f ts cur who l = some r → r.length = ts.length
 | 0, ts, cur, who, l, r, h => by unfold tryF at h; cases h
 | f + 1, ts, cur, who, l, r, h => by
  cases ho : okB d l with
  | false => rw [tryF_bad ho] at h; cases h
  | true =>
   cases ts with
   | nil => rw [tryF_end ho] at h; cases h; rfl
   | cons x ts =>
    by_cases hc : (cur.length : Int) = x.crew
    ·rw [tryF_full ho hc] at h
     obtain ⟨r', h1, rfl⟩ := Option.map_eq_some_iff.1 h
     rw [List.length_cons, List.length_cons, tryF_len h1]
    ·rw [tryF_loop ho hc] at h
     obtain ⟨k, _, h1⟩ := List.exists_of_findSome?_eq_some h
     exact tryF_len h1
end Go.Proofs.Ytmlmgipngbndgaa
namespace Go.Proofs.Ytmlmgipngbndgaa
open Go.RowKit
theorem hp_perm : ∀ {G H : Hp}, H.Perm G → HpSub H G
 | [], H, _ => HpSub.nil
 | (b, C, g) :: G, H, h => by
  have hm : (b, C, g) ∈ H := h.mem_iff.2 (List.mem_cons_self ..)
  obtain ⟨H', hp⟩ : ∃ H', Pick H b C g H' := by
   clear h
   induction H with
   | nil => cases hm
   | cons x H ih =>
    rcases List.mem_cons.1 hm with rfl | hm
    ·exact ⟨H, Pick.head _ _ _ _⟩
    ·obtain ⟨H', hp⟩ := ih hm
     exact ⟨x :: H', hp.tail⟩
  exact HpSub.cons hp (hp_perm ((hp.perm.symm.trans h).cons_inv))
theorem hp_comm (A B : Hp) : HpSub (A ++ B) (B ++ A) := hp_perm List.perm_append_comm
/-- What holds of the blocks H holds of the blocks G. -/
def HpW (H G : Hp) : Prop := ∀ w0 M w, Has w0 M H w → Has w0 M G w
theorem HpSub.w {H G : Hp} (h : HpSub H G) : HpW H G := fun _ _ _ hw => hw.sub h
theorem HpW.refl (H : Hp) : HpW H H := fun _ _ _ h => h
theorem HpW.trans {H G K : Hp} (h : HpW H G) (k : HpW G K) : HpW H K := fun _ _ _ hw => k _ _ _ (h _ _ _ hw)
theorem HpW.pre {b : Nat} {C D : List Value} {tg : Tg} {H : Hp} : HpW ((b, C ++ D, tg) :: H) ((b, C, tg) :: H) := fun w0 M w h => by
 refine ⟨h.ext, fun x hx => ?_, h.nodup, h.marks⟩
 rcases List.mem_cons.1 hx with rfl | hx
 ·have h1 := h.blk _ (List.mem_cons_self ..)
  refine ⟨h1.1, ?_⟩
  obtain ⟨c, t, e1, e2, e3⟩ := h1.2
  exact ⟨c, t, e1, fun o v ho => e2 o v (by
   have := (List.getElem?_eq_some_iff.1 ho).1
   rw [List.getElem?_append_left this]; exact ho), e3⟩
 ·exact h.blk _ (List.mem_cons_of_mem _ hx)
section
variable {c : Cx} {S : WS c.P} {Q : QS} {F : Fr} {H G : Hp} {x y : Code}
theorem t_subW (hH : HpW H G) (h : T c S x Q F G) : T c S x Q F H := fun D a w ha hw => h D a w ha (hH _ _ _ hw)
theorem t_fact {P : Prop} (hf : ∀ M w, Has c.w0 M H w → P) (h : P → T c S x Q F H) : T c S x Q F H := fun D a w ha hw => h (hf _ _ hw) D a w ha hw
/-- The end of a piece of code, told more weakly. -/
theorem t_endW (h1 : T c S x (fun e F' H' => e = .normal ∧ ∃ F2 H2, FrSub F' F2 ∧ HpW H' H2 ∧ Q .normal F2 H2) F H) : T c S x Q F H := fun D a w ha hw =>
 S.mono (h1 D a w ha hw) fun e a' w' he => by
  obtain ⟨D', F', H', ⟨rfl, F2, H2, hF, hH, hq⟩, h3, h4⟩ := he
  exact ⟨D', F2, H2, hq, h3.sub hF, hH _ _ _ h4⟩
end
/-! Rows -/
abbrev Row := List Int × Option (Nat × Nat)
def rwV (r : Row) : Value := .slice (clA r.2) r.1.length (clC r.2)
def rowH (r : Row) : Hp := clH 3 1 (r.1.map iv) r.2
def rwsH : List Row → Hp
 | [] => []
 | r :: R => rowH r ++ rwsH R
theorem rwsH_app : ∀ (R R' : List Row), rwsH (R ++ R') = rwsH R ++ rwsH R'
 | [], _ => rfl
 | r :: R, R' => by show rowH r ++ rwsH (R ++ R') = (rowH r ++ rwsH R) ++ rwsH R'; rw [rwsH_app R R', List.append_assoc]
def LrOk (r : Row) : Prop := (r.2 = none → r.1.length = 0) ∧ r.1.length ≤ clC r.2
def outH (g m : Nat) (R : List Row) : Hp := (g, R.map rwV, some (41, 1, m)) :: rwsH R
/-- The row that is worked at, ahead of the others. -/
def outR (g m : Nat) (R1 : List Row) (r : Row) (R2 : List Row) : Hp := rowH r ++ ((g, R1.map rwV ++ rwV r :: R2.map rwV, some (41, 1, m)) :: (rwsH R1 ++ rwsH R2))
theorem out_to (g m : Nat) (R1 : List Row) (r : Row) (R2 : List Row) (X : Hp) : HpSub (outH g m (R1 ++ r :: R2) ++ X) (outR g m R1 r R2 ++ X) := by
 refine hp_perm (List.Perm.append_right X ?_)
 unfold outH outR
 rw [rwsH_app, List.map_append, List.map_cons]
 show List.Perm (_ :: (rwsH R1 ++ (rowH r ++ rwsH R2))) _
 refine List.Perm.trans ?_ List.perm_middle.symm
 refine List.Perm.cons _ ?_
 rw [← List.append_assoc, ← List.append_assoc]
 exact List.Perm.append_right _ List.perm_append_comm
theorem out_of (g m : Nat) (R1 : List Row) (r : Row) (R2 : List Row) (X : Hp) : HpSub (outR g m R1 r R2 ++ X) (outH g m (R1 ++ r :: R2) ++ X) := by
 refine hp_perm (List.Perm.append_right X ?_)
 unfold outH outR
 rw [rwsH_app, List.map_append, List.map_cons]
 show List.Perm _ (_ :: (rwsH R1 ++ (rowH r ++ rwsH R2)))
 refine List.perm_middle.trans ?_
 refine List.Perm.cons _ ?_
 rw [← List.append_assoc, ← List.append_assoc]
 exact List.Perm.append_right _ List.perm_append_comm
theorem out_to0 (g m : Nat) (R1 : List Row) (r : Row) (R2 : List Row) : HpSub (outH g m (R1 ++ r :: R2)) (outR g m R1 r R2) := by
 have := out_to g m R1 r R2 []
 rwa [List.append_nil, List.append_nil] at this
theorem out_of0 (g m : Nat) (R1 : List Row) (r : Row) (R2 : List Row) : HpSub (outR g m R1 r R2) (outH g m (R1 ++ r :: R2)) := by
 have := out_of g m R1 r R2 []
 rwa [List.append_nil, List.append_nil] at this
theorem HpSub.front {x : Nat × List Value × Tg} {H G : Hp} (h : HpSub H G) : HpSub (x :: H) (x :: G) := by
 obtain ⟨b, C, g⟩ := x; exact HpSub.cons P0 h
theorem Has.off2 {w0 : World} {M : Ms} {X K : Hp} {w : World} (h : Has w0 M (X ++ K) w) {b : Nat} (hb : b ∈ X.map Prod.fst) : b ∉ K.map Prod.fst := fun hm => by
 have := h.nodup
 rw [List.map_append, List.nodup_append] at this
 exact this.2.2 _ hb _ hm rfl
theorem mem_fst {X K : Hp} {b : Nat} (h : b ∈ K.map Prod.fst) : b ∈ (X ++ K).map Prod.fst := by
 rw [List.map_append]; exact List.mem_append_right _ h
theorem rwV_at {A B : List Value} {v : Value} {k : Nat} (h : A.length = k) : (A ++ v :: B)[0 + k * 1]? = some v := by
 rw [Nat.zero_add, Nat.mul_one, ← h]; simp
section
variable {c : Cx} {F : Fr} {H H' : Hp} {K : Value → Hp → Prop} {d : Option Tmp} {ty t : TypeId} {pos : String} {af : Array Edge} {gd : Option (Nat × Bool)} {x y : Operand} {a0 : Bool} {z0 : List Value} {k0 : TyK} {g k : Nat} {tg : Tg} {A B : List Value} {u v : Value}
theorem os_storeV (h : A.length = k) (ht : tyAt c.tys t = some ⟨a0, 1, z0, k0⟩) (hx : ev F x = some (.pointer (some ⟨g, 0 + k * 1, none⟩))) (hy : ev F y = some u) (hu : u.oneCell' = true) (hp : Pick H g (A ++ v :: B) tg H')
  (kk : K undef ((g, A ++ u :: B, tg) :: H')) : OS c ⟨d, .store t x y, ty, pos, af, gd⟩ F H K :=
 store_gen (vs := [u]) ht hx hy (by cases u <;> first | rfl | (simp [Value.oneCell'] at hu)) rfl (by simpa using hu) hp (by simp; omega) (by
  have e : setL (A ++ v :: B) (0 + k * 1) [u] = A ++ u :: B := by
   simp only [setL]
   rw [Nat.zero_add, Nat.mul_one, ← h, List.set_append_right _ _ (Nat.le_refl _)]
   simp
  rw [e]; exact kk)
end
theorem old_off {w w1 : World} {D : List Nat} {X G : Hp} {k n : Nat} {A : Option Addr} {rows : List (List Value)} (h : Has w ⟨[], D⟩ (X ++ G) w1) (hr : RdS w k A n rows) : 0 < n → ∀ b o, A = some ⟨b, o, none⟩ → b ∉ G.map Prod.fst := fun hn b o hA hb => by
 obtain ⟨b', o', hA', hb', _⟩ := hr.at_ hn
 rw [hA] at hA'
 cases hA'
 exact h.oldoff hb' List.not_mem_nil (mem_fst hb)
/-- What try may read. -/
structure TryW (d : Du) (mem m : Nat) (ts : List Tr) (bD bT bO bF bM g : Nat) (AT : Option Addr) (cT : Nat) (w : World) (M : List Nat) : Prop where
 d0 : w.cell? ⟨bD, 0, none⟩ = some (.int .i64 d.most)
 d1 : w.cell? ⟨bD, 1, none⟩ = some (.int .i64 d.rest)
 d2 : w.cell? ⟨bD, 2, none⟩ = some (.int .i64 d.win)
 d3 : w.cell? ⟨bD, 3, none⟩ = some (.int .i64 d.sum)
 t0 : w.cell? ⟨bT, 0, none⟩ = some (.slice AT m cT)
 o0 : w.cell? ⟨bO, 0, none⟩ = some (.slice (some ⟨g, 0, none⟩) m m)
 f0 : w.cell? ⟨bF, 0, none⟩ = some (.func (.func 88) #[] #[.pointer (some ⟨bD, 0, none⟩), .pointer (some ⟨bT, 0, none⟩), .pointer (some ⟨bO, 0, none⟩), .pointer (some ⟨bF, 0, none⟩), .pointer (some ⟨bM, 0, none⟩)])
 m0 : w.cell? ⟨bM, 0, none⟩ = some (.int .i64 (mem : Nat))
 ts_ : RdS w 3 AT m (ts.map trCells)
 nD : bD ∉ M
 nT : bT ∉ M
 nO : bO ∉ M
 nF : bF ∉ M
 nM : bM ∉ M
 nA : 0 < m → ∀ b o, AT = some ⟨b, o, none⟩ → b ∉ M
theorem TryW.next {d : Du} {mem m : Nat} {ts : List Tr} {bD bT bO bF bM g : Nat} {AT : Option Addr} {cT : Nat} {w w1 : World} {M D : List Nat} {H G : Hp} (h : TryW d mem m ts bD bT bO bF bM g AT cT w M) (hm : 0 < m) (hw : Has w ⟨M, D⟩ H w1) (hG : ∀ b ∈ G.map Prod.fst, b ∈ H.map Prod.fst) :
  TryW d mem m ts bD bT bO bF bM g AT cT w1 (G.map Prod.fst) := by
 have hlt : ∀ {b o : Nat} {v : Value}, w.cell? ⟨b, o, none⟩ = some v → b < w.heap.size := fun hc => cell_lt hc
 refine ⟨hw.oldc h.d0 h.nD, hw.oldc h.d1 h.nD, hw.oldc h.d2 h.nD, hw.oldc h.d3 h.nD, hw.oldc h.t0 h.nT, hw.oldc h.o0 h.nO, hw.oldc h.f0 h.nF, hw.oldc h.m0 h.nM, h.ts_.extM hw.ext h.nA, fun hb => ?_, fun hb => ?_, fun hb => ?_, fun hb => ?_, fun hb => ?_, fun _ b o hA hb => ?_⟩
 ·exact hw.oldoff (hlt h.d0) h.nD (hG _ hb)
 ·exact hw.oldoff (hlt h.t0) h.nT (hG _ hb)
 ·exact hw.oldoff (hlt h.o0) h.nO (hG _ hb)
 ·exact hw.oldoff (hlt h.f0) h.nF (hG _ hb)
 ·exact hw.oldoff (hlt h.m0) h.nM (hG _ hb)
 ·obtain ⟨b', o', hA', hb', _⟩ := h.ts_.at_ hm
  rw [hA] at hA'
  cases hA'
  exact hw.oldoff hb' (h.nA hm _ _ hA) (hG _ hb)
end Go.Proofs.Ytmlmgipngbndgaa
namespace Go.Proofs.Ytmlmgipngbndgaa
theorem giveL_length (f : Int) : ∀ (n : Int) (l : List Bk), (giveL f n l).length = l.length
 | _, [] => rfl
 | n, x :: l => by
  unfold giveL
  split <;> simp [giveL_length f _ l]
theorem giveL_le {f : Int} : ∀ {n : Int} {l : List Bk}, n ≤ 0 → giveL f n l = l
 | _, [], _ => rfl
 | n, x :: l, h => by
  unfold giveL
  rw [if_neg (fun hh => by omega), giveL_le h]
theorem mt_isB (f s : Int) (x : Bk) : mtB f [s] x = isB f s x := by
 unfold mtB isB
 simp
theorem take_one {C : List Bk} {p : Nat} {y : Bk} (h : C[p]? = some y) : C.take (p + 1) = C.take p ++ [y] := by rw [List.take_add_one, h]; rfl
theorem drop_one {C : List Bk} {p : Nat} {y : Bk} (h : C[p]? = some y) : C.drop p = y :: C.drop (p + 1) := by
 obtain ⟨h1, h2⟩ := List.getElem?_eq_some_iff.1 h
 rw [List.drop_eq_getElem_cons h1, h2]
theorem take_set {C : List Bk} {p : Nat} {y z : Bk} (h : C[p]? = some y) : (C.set p z).take (p + 1) = C.take p ++ [z] := by
 have hl := (List.getElem?_eq_some_iff.1 h).1
 rw [take_one (y := z) (by simp [hl]), List.take_set_of_le (Nat.le_refl p)]
theorem drop_set {C : List Bk} {p : Nat} {z : Bk} : (C.set p z).drop (p + 1) = C.drop (p + 1) := List.drop_set_of_lt (Nat.lt_succ_self p)
theorem giv_gap {f n : Int} {C final : List Bk} {p : Nat} : ∀ {q : Nat}, p ≤ q → (∀ j y, p ≤ j → j < q → C[j]? = some y → isB f 2 y = false) → final = C.take p ++ giveL f n (C.drop p) → final = C.take q ++ giveL f n (C.drop q) := by
 intro q
 induction q with
 | zero =>
  intro hp _ h; obtain rfl : p = 0 := by omega
  exact h
 | succ q ih =>
  intro hp hno h
  by_cases e : p = q + 1
  ·rw [← e]; exact h
  ·have h1 := ih (by omega) (fun j y a b => hno j y a (by omega)) h
   cases hy : C[q]? with
   | none =>
    have hl := List.getElem?_eq_none_iff.1 hy
    rw [List.take_of_length_le hl, List.drop_eq_nil_of_le hl] at h1
    rw [List.take_of_length_le (by omega), List.drop_eq_nil_of_le (by omega)]
    exact h1
   | some y =>
    have hb := hno q y (by omega) (by omega) hy
    rw [drop_one hy] at h1
    unfold giveL at h1
    rw [if_neg (fun hh => by rw [hb] at hh; cases hh.1)] at h1
    rw [h1, take_one hy, List.append_assoc]
    rfl
theorem giv_end {f n : Int} {C final : List Bk} {p : Nat} (hno : ∀ j y, p ≤ j → C[j]? = some y → isB f 2 y = false) (h : final = C.take p ++ giveL f n (C.drop p)) : final = C := by
 by_cases hp : p ≤ C.length
 ·have h1 := giv_gap (q := C.length) hp (fun j y a _ => hno j y a) h
  rw [h1]; simp [giveL]
 ·rw [h, List.take_of_length_le (by omega), List.drop_eq_nil_of_le (by omega)]
  simp [giveL]
theorem giv_hit {f n : Int} {C final : List Bk} {p : Nat} {y : Bk} (hy : C[p]? = some y) (hb : isB f 2 y = true) (hn : 0 < n) (h : final = C.take p ++ giveL f n (C.drop p)) :
  final = (C.set p ⟨y.flight, 1, y.kept⟩).take (p + 1) ++ giveL f (n - 1) ((C.set p ⟨y.flight, 1, y.kept⟩).drop (p + 1)) := by
 rw [drop_one hy] at h
 unfold giveL at h
 rw [if_pos ⟨hb, hn⟩] at h
 rw [h, take_set hy, drop_set, List.append_assoc]
 rfl
theorem giv_stop {f n : Int} {C final : List Bk} {p : Nat} (hn : n ≤ 0) (h : final = C.take p ++ giveL f n (C.drop p)) : final = C := by
 rw [h, giveL_le hn, List.take_append_drop]
theorem offCells_len {o o' : Off} (h1 : o'.now = o.now) (h2 : o'.notice = o.notice) (h3 : o'.fee = o.fee) (h4 : o'.inn = o.inn) (h5 : o'.out = o.out) (h6 : o'.fl.length = o.fl.length) (h7 : o'.bk.length = o.bk.length) (A : Option Addr) (cf : Nat) (B : Option Addr) (cb : Nat) : offCells o' A cf B cb = offCells o A cf B cb := by
 unfold offCells
 rw [h1, h2, h3, h4, h5, h6, h7]
/-- Give, under way. -/
def GivR (o : Off) (f n0 : Int) (p : Nat) (n : Int) (C : List Bk) : Prop := C.length = o.bk.length ∧ giveL f n0 o.bk = C.take p ++ giveL f n (C.drop p) ∧ -1000000 ≤ n ∧ n ≤ 1000000
structure OkO (o : Off) : Prop where
 now : 0 ≤ o.now ∧ o.now ≤ 1000000
 notice : 0 ≤ o.notice ∧ o.notice ≤ 1000000
 fee : 0 ≤ o.fee ∧ o.fee ≤ 100
 nf : o.fl.length ≤ 10
 nb : o.bk.length ≤ 120
 deps : DepsOk o.fl
 bks : BksOk o.fl o.bk
 fit : o.bk.all (bookedB o.fl o.fee) = true
 seats : (List.range o.fl.length).all (seatB o.fl o.bk) = true
 money : moneyB o = true
 inn : -1000000000 ≤ o.inn ∧ o.inn ≤ 1000000000
 out : -1000000000 ≤ o.out ∧ o.out ≤ 1000000000
theorem okO {o : Off} (hu : ∀ d ∈ o.fl, 0 ≤ d.state) (h : officeB o = true) : OkO o := by
 obtain ⟨h1, hd, hb, hba, hse, hmo⟩ := officeB_in hu h
 have hi := headB_in h1
 have hs := sums_in hd hb (Nat.le_refl o.bk.length)
 rw [sums_all (Nat.le_refl _)] at hs
 have hmo' := hmo
 unfold moneyB at hmo'
 simp only [Bool.and_eq_true, decide_eq_true_eq] at hmo'
 unfold Small at hs
 exact ⟨⟨hi.1, hi.2.1⟩, ⟨hi.2.2.1, hi.2.2.2.1⟩, ⟨hi.2.2.2.2.1, hi.2.2.2.2.2.1⟩, hi.2.2.2.2.2.2.1, hi.2.2.2.2.2.2.2, hd, hb, hba, hse, hmo, by omega, by omega⟩
theorem OkO.dep {o : Off} (h : OkO o) {i : Nat} {d : Dep} (hi : o.fl[i]? = some d) : 0 ≤ d.seats ∧ d.seats ≤ 50 ∧ 0 ≤ d.price ∧ d.price ≤ 1000000 ∧ 0 ≤ d.leaves ∧ d.leaves ≤ 1000000 ∧ d.state ≤ 2 := depOk_in (h.deps d (List.mem_of_getElem? hi)).1
/-- What a deal leaves. -/
def DV (bd : Nat) (o : Off) (v : Value) (H : Hp) : Prop := v = .tuple #[] ∧ ∃ x y, (x = none → o.fl.length = 0) ∧ (y = none → o.bk.length = 0) ∧ H = deskH bd o x y
def DS (bd : Nat) (o : Off) (v : Value) (H : Hp) : Prop := v = .tuple #[] ∧ ∃ x y, (x = none → o.fl.length = 0) ∧ (y = none → o.bk.length = 0) ∧ HpSub H (deskH bd o x y)
theorem ds_dv {k : Nat} {args : Array Value} {bd : Nat} {o : Off} {M : Ms} {w : World} (h : Calls Try.prog k args w fun e w' => ∃ v H', e = .returned v ∧ DS bd o v H' ∧ Has w M H' w') : Calls Try.prog k args w fun e w' => ∃ v H', e = .returned v ∧ DV bd o v H' ∧ Has w M H' w' :=
 h.mono fun e w' ⟨v, H', h1, ⟨h2, x, y, h3, h4, h5⟩, h6⟩ => ⟨v, _, h1, ⟨h2, x, y, h3, h4, rfl⟩, h6.sub h5⟩
theorem many_zero_of {bk : List Bk} {f s : Int} (h : ∀ x ∈ bk, isB f s x = false) : manyV bk f s = 0 := by
 unfold manyV
 rw [List.filter_eq_nil_iff.2 (fun x hx => by rw [h x hx]; simp)]
 rfl
/-- A departure that is open has no bookings that are flown. -/
theorem OkO.noflown {o : Off} (hv : OkO o) {i : Nat} {d : Dep} (hi : o.fl[i]? = some d) (h0 : d.state = 0) : manyV o.bk i 3 = 0 := by
 refine many_zero_of fun x hx => ?_
 cases hb : isB (i : Int) 3 x with
 | false => rfl
 | true =>
  unfold isB at hb
  simp only [Bool.and_eq_true, decide_eq_true_eq] at hb
  have hf := List.all_eq_true.1 hv.fit x hx
  have hk := hv.bks x hx
  unfold bookedB at hf
  rw [if_pos ⟨hk.1, hk.2.1⟩, hb.1, Int.toNat_natCast, hi] at hf
  simp only at hf
  rw [if_neg (by omega)] at hf
  simp only [Bool.and_eq_true, decide_eq_true_eq, fitB, h0, hb.2] at hf
  simp at hf
theorem OkO.seat {o : Off} (hv : OkO o) {i : Nat} {d : Dep} (hi : o.fl[i]? = some d) : manyV o.bk i 1 + manyV o.bk i 3 ≤ d.seats ∧ (manyV o.bk i 1 + manyV o.bk i 3 = d.seats ∨ manyV o.bk i 2 ≤ 0) := by
 have hl := (List.getElem?_eq_some_iff.1 hi).1
 have h := List.all_eq_true.1 hv.seats i (List.mem_range.2 hl)
 unfold seatB at h
 rw [hi] at h
 simp only [Bool.and_eq_true, Bool.or_eq_true, decide_eq_true_eq] at h
 exact h
theorem many_add (bk : List Bk) (x : Bk) (f s : Int) : manyV (bk ++ [x]) f s = manyV bk f s + (if isB f s x = true then 1 else 0) := by
 unfold manyV
 rw [List.filter_append, List.length_append]
 by_cases h : isB f s x = true
 ·simp [h]
 ·simp [h]
def midS (f to : Int) (bk : List Bk) (p : Nat) : List Bk := (bk.take p).map (shutB f to) ++ bk.drop p
def paidTo (bk : List Bk) (f to price : Int) (p : Nat) : Int := paidV (bk.take p) f to price
theorem mt_is2 (f : Int) (x : Bk) : mtB f [1, 2] x = (isB f 1 x || isB f 2 x) := by
 unfold mtB isB
 by_cases h1 : x.flight = f <;> simp [h1]
theorem shut_no {f to : Int} {x : Bk} (h : mtB f [1, 2] x = false) : shutB f to x = x ∧ backB f to x = false := by
 rw [mt_is2] at h
 simp only [Bool.or_eq_false_iff] at h
 unfold shutB backB
 rw [h.1, h.2]
 exact ⟨rfl, rfl⟩
theorem midS_len (f to : Int) (bk : List Bk) (p : Nat) : (midS f to bk p).length = bk.length := by
 unfold midS
 simp only [List.length_append, List.length_map, List.length_take, List.length_drop]
 omega
theorem midS_at {f to : Int} {bk : List Bk} {p j : Nat} (h : p ≤ j) : (midS f to bk p)[j]? = bk[j]? := by
 unfold midS
 by_cases hp : p ≤ bk.length
 ·rw [List.getElem?_append_right (by simp; omega)]
  simp only [List.length_map, List.length_take, List.getElem?_drop]
  congr 1
  omega
 ·rw [List.take_of_length_le (by omega), List.drop_eq_nil_of_le (by omega), List.append_nil]
  rw [List.getElem?_eq_none (by simp; omega), List.getElem?_eq_none (by omega)]
theorem midS_zero (f to : Int) (bk : List Bk) : midS f to bk 0 = bk := by simp [midS]
theorem midS_all {f to : Int} {bk : List Bk} {p : Nat} (h : bk.length ≤ p) : midS f to bk p = bk.map (shutB f to) := by
 unfold midS
 rw [List.take_of_length_le h, List.drop_eq_nil_of_le h, List.append_nil]
theorem midS_step {f to : Int} {bk : List Bk} {p : Nat} {y : Bk} (h : bk[p]? = some y) : midS f to bk (p + 1) = (midS f to bk p).set p (shutB f to y) := by
 have hl := (List.getElem?_eq_some_iff.1 h).1
 unfold midS
 rw [take_one h, drop_one h, List.map_append, List.set_append_right _ _ (by simp; omega)]
 simp only [List.length_map, List.length_take, List.map_cons, List.map_nil, List.append_assoc, List.cons_append, List.nil_append]
 rw [show p - min p bk.length = 0 by omega]
 rfl
theorem paid_step {bk : List Bk} {f to price : Int} {p : Nat} {y : Bk} (h : bk[p]? = some y) : paidTo bk f to price (p + 1) = paidTo bk f to price p + (if backB f to y = true then price else 0) := by
 unfold paidTo paidV
 rw [take_one h, List.filter_append, List.length_append]
 by_cases hb : backB f to y = true
 ·simp [hb, Int.add_mul]
 ·simp [hb]
theorem paid_all {bk : List Bk} {f to price : Int} {p : Nat} (h : bk.length ≤ p) : paidTo bk f to price p = paidV bk f to price := by
 unfold paidTo
 rw [List.take_of_length_le h]
theorem paid_in {bk : List Bk} {f to price : Int} (hp : 0 ≤ price ∧ price ≤ 1000000) (hn : bk.length ≤ 120) (p : Nat) : 0 ≤ paidTo bk f to price p ∧ paidTo bk f to price p ≤ 120000000 := by
 unfold paidTo paidV
 have h1 := List.length_filter_le (backB f to) (bk.take p)
 have h2 := List.length_take_le' p bk
 obtain ⟨q, hq⟩ : ∃ q, ((bk.take p).filter (backB f to)).length = q := ⟨_, rfl⟩
 rw [hq] at h1 ⊢
 have h3 : (q : Int) ≤ 120 := by omega
 have a := Int.mul_nonneg (Int.natCast_nonneg q) hp.1
 have b := Int.mul_le_mul h3 hp.2 hp.1 (by omega)
 omega
theorem midS_gap {f to price : Int} {bk : List Bk} {p : Nat} : ∀ {q : Nat}, p ≤ q → (∀ j y, p ≤ j → j < q → bk[j]? = some y → mtB f [1, 2] y = false) → midS f to bk q = midS f to bk p ∧ paidTo bk f to price q = paidTo bk f to price p := by
 intro q
 induction q with
 | zero =>
  intro hp _; obtain rfl : p = 0 := by omega
  exact ⟨rfl, rfl⟩
 | succ q ih =>
  intro hp hno
  by_cases e : p = q + 1
  ·rw [e]; exact ⟨rfl, rfl⟩
  ·obtain ⟨h1, h2⟩ := ih (by omega) (fun j y a b => hno j y a (by omega))
   cases hy : bk[q]? with
   | none =>
    have hl := List.getElem?_eq_none_iff.1 hy
    refine ⟨?_, ?_⟩
    ·rw [← h1, midS_all hl, midS_all (by omega)]
    ·rw [← h2, paid_all hl, paid_all (by omega)]
   | some y =>
    have hb := shut_no (to := to) (hno q y (by omega) (by omega) hy)
    refine ⟨?_, ?_⟩
    ·rw [midS_step hy, hb.1, ← h1]
     refine List.ext_getElem? fun j => ?_
     by_cases hj : q = j
     ·subst hj
      have hl := (List.getElem?_eq_some_iff.1 hy).1
      rw [List.getElem?_set_self (by rw [midS_len]; exact hl), midS_at (Nat.le_refl _), hy]
     ·rw [List.getElem?_set_ne hj]
    ·rw [paid_step hy, hb.2, ← h2]; simp
theorem midS_end {f to price : Int} {bk : List Bk} {p : Nat} (hno : ∀ j y, p ≤ j → bk[j]? = some y → mtB f [1, 2] y = false) : midS f to bk p = bk.map (shutB f to) ∧ paidTo bk f to price p = paidV bk f to price := by
 by_cases hp : p ≤ bk.length
 ·obtain ⟨h1, h2⟩ := midS_gap (to := to) (price := price) hp (fun j y a _ => hno j y a)
  rw [← h1, ← h2, midS_all (Nat.le_refl _), paid_all (Nat.le_refl _)]
  exact ⟨rfl, rfl⟩
 ·rw [midS_all (by omega), paid_all (by omega)]
  exact ⟨rfl, rfl⟩
/-- Of a booking that has a seat or waits nothing is kept. -/
theorem OkO.kept0 {o : Off} (h : OkO o) {x : Bk} (hx : x ∈ o.bk) (hs : x.state = 1 ∨ x.state = 2) : x.kept = 0 := by
 have hb := List.all_eq_true.1 h.fit x hx
 have hk := h.bks x hx
 unfold bookedB at hb
 rw [if_pos ⟨hk.1, hk.2.1⟩] at hb
 split at hb
 ·cases hb
 ·rw [if_neg (by omega)] at hb
  simp only [Bool.and_eq_true, decide_eq_true_eq] at hb
  exact hb.2
theorem Has.old {w0 : World} {M : Ms} {H : Hp} {w : World} (h : Has w0 M H w) {b o : Nat} {v : Value} (hc : w0.cell? ⟨b, o, none⟩ = some v) (hm : b ∉ M.wr) : w.cell? ⟨b, o, none⟩ = some v := by
 rw [World.cell?_of_block (w := w0) (a := ⟨b, o, none⟩) (h.ext.block b (cell_lt hc) hm)]
 exact hc
/-! Sums -/
def cH (fl : List Dep) (x : Bk) : Int := if x.state = 1 ∨ x.state = 2 then prc fl x else 0
def cE (fl : List Dep) (x : Bk) : Int := if x.state = 3 then prc fl x else 0
def cK (fl : List Dep) (x : Bk) : Int := if x.state = 4 then x.kept else 0
def cB (fl : List Dep) (x : Bk) : Int := if x.state = 4 then prc fl x - x.kept else 0
def sm (f : Bk → Int) : List Bk → Int
 | [] => 0
 | x :: l => f x + sm f l
theorem sums_gen (fl : List Dep) : ∀ (bk : List Bk) (p : Sum4), bk.foldl (addB fl) p = ⟨p.held + sm (cH fl) bk, p.earned + sm (cE fl) bk, p.kept + sm (cK fl) bk, p.back + sm (cB fl) bk⟩
 | [], p => by simp [sm]
 | x :: l, p => by
  rw [List.foldl_cons, sums_gen fl l]
  have h : addB fl p x = ⟨p.held + cH fl x, p.earned + cE fl x, p.kept + cK fl x, p.back + cB fl x⟩ := by
   unfold addB cH cE cK cB
   by_cases h1 : x.state = 1 ∨ x.state = 2
   ·rw [if_pos h1, if_pos h1, if_neg (by omega), if_neg (by omega), if_neg (by omega)]
    simp
   ·rw [if_neg h1, if_neg h1]
    by_cases h3 : x.state = 3
    ·rw [if_pos h3, if_pos h3, if_neg (by omega), if_neg (by omega)]; simp
    ·rw [if_neg h3, if_neg h3]
     by_cases h4 : x.state = 4
     ·rw [if_pos h4, if_pos h4, if_pos h4]; simp
     ·rw [if_neg h4, if_neg h4, if_neg h4]; simp
  rw [h]
  simp only [sm, Int.add_assoc]
theorem sums_sm (fl : List Dep) (bk : List Bk) : sumsV fl bk = ⟨sm (cH fl) bk, sm (cE fl) bk, sm (cK fl) bk, sm (cB fl) bk⟩ := by
 unfold sumsV
 rw [sums_gen]
 simp
theorem sm_congr {f g : Bk → Int} : ∀ {l : List Bk}, (∀ x ∈ l, f x = g x) → sm f l = sm g l
 | [], _ => rfl
 | x :: l, h => by
  simp only [sm]
  rw [h x (List.mem_cons_self ..), sm_congr (fun y hy => h y (List.mem_cons_of_mem _ hy))]
theorem sm_append {f : Bk → Int} (r : List Bk) : ∀ (l : List Bk), sm f (l ++ r) = sm f l + sm f r
 | [] => by simp [sm]
 | x :: l => by simp only [List.cons_append, sm, sm_append r l, Int.add_assoc]
theorem sm_set {f : Bk → Int} {y : Bk} : ∀ {l : List Bk} {i : Nat} {x : Bk}, l[i]? = some x → sm f (l.set i y) = sm f l - f x + f y
 | [], i, x, h => by simp at h
 | a :: l, 0, x, h => by
  obtain rfl : a = x := by simpa using h
  simp only [List.set_cons_zero, sm]; omega
 | a :: l, i + 1, x, h => by
  simp only [List.set_cons_succ, sm]
  rw [sm_set (l := l) (i := i) (x := x) (by simpa using h)]; omega
theorem sm_give {g : Bk → Int} {f : Int} (hg : ∀ x, isB f 2 x = true → g ⟨x.flight, 1, x.kept⟩ = g x) : ∀ {n : Int} {l : List Bk}, sm g (giveL f n l) = sm g l
 | n, [] => rfl
 | n, x :: l => by
  unfold giveL
  split
  ·rename_i h
   simp only [sm]
   rw [hg x h.1, sm_give hg]
  ·simp only [sm]
   rw [sm_give hg]
theorem sm_map {g : Bk → Int} {h : Bk → Bk} : ∀ {l : List Bk}, sm g (l.map h) = sm (fun x => g (h x)) l
 | [] => rfl
 | x :: l => by simp only [List.map_cons, sm]; rw [sm_map]
theorem sm_add {f g : Bk → Int} : ∀ {l : List Bk}, sm (fun x => f x + g x) l = sm f l + sm g l
 | [] => rfl
 | x :: l => by simp only [sm]; rw [sm_add]; omega
/-! Counts -/
def cN (f s : Int) (x : Bk) : Int := if isB f s x = true then 1 else 0
theorem many_sm (f s : Int) : ∀ (l : List Bk), manyV l f s = sm (cN f s) l
 | [] => rfl
 | x :: l => by
  unfold manyV
  simp only [sm, cN]
  rw [← many_sm f s l]
  unfold manyV
  by_cases h : isB f s x = true
  ·rw [List.filter_cons_of_pos h, if_pos h]; simp; omega
  ·rw [List.filter_cons_of_neg h, if_neg h]; simp
theorem many_pos (l : List Bk) (f s : Int) : 0 ≤ manyV l f s := by unfold manyV; omega
theorem isB_ne {f g s t : Int} {x : Bk} (h : isB f s x = true) (hg : g ≠ f) : isB g t x = false := by
 unfold isB at *
 simp only [Bool.and_eq_true, decide_eq_true_eq] at h
 have : ¬ x.flight = g := fun e => hg (by rw [← e]; exact h.1)
 simp [this]
/-- How many get a seat. -/
theorem many_give (f : Int) : ∀ (n : Int) (l : List Bk), ∃ g : Int, 0 ≤ g ∧ manyV (giveL f n l) f 1 = manyV l f 1 + g ∧ manyV (giveL f n l) f 2 = manyV l f 2 - g ∧ (n ≤ g ∨ manyV (giveL f n l) f 2 = 0) ∧ (g ≤ n ∨ g = 0)
 | n, [] => ⟨0, by omega, rfl, rfl, .inr rfl, .inr rfl⟩
 | n, x :: l => by
  unfold giveL
  split
  ·rename_i h
   obtain ⟨g, h0, h1, h2, h3, h4⟩ := many_give f (n - 1) l
   have e1 : isB f 1 ⟨x.flight, 1, x.kept⟩ = true := by
    have := h.1; unfold isB at this ⊢; simp only [Bool.and_eq_true, decide_eq_true_eq] at this ⊢; exact ⟨this.1, trivial⟩
   have e2 : isB f 2 ⟨x.flight, 1, x.kept⟩ = false := by unfold isB; simp
   have e3 : isB f 1 x = false := by
    have := h.1; unfold isB at this ⊢; simp only [Bool.and_eq_true, decide_eq_true_eq] at this; simp [this.2]
   refine ⟨g + 1, by omega, ?_, ?_, ?_, ?_⟩
   ·simp only [many_sm, sm, cN, e1, e3, if_true, if_false, Bool.false_eq_true] at h1 ⊢; omega
   ·simp only [many_sm, sm, cN, e2, h.1, if_true, if_false, Bool.false_eq_true] at h2 ⊢; omega
   ·rcases h3 with h3 | h3
    ·exact .inl (by omega)
    ·refine .inr ?_
     simp only [many_sm, sm, cN, e2, if_false, Bool.false_eq_true] at h3 ⊢; omega
   ·rcases h4 with h4 | h4
    ·exact .inl (by omega)
    ·exact .inl (by omega)
  ·rename_i h
   obtain ⟨g, h0, h1, h2, h3, h4⟩ := many_give f n l
   refine ⟨g, h0, ?_, ?_, ?_, h4⟩
   ·simp only [many_sm, sm] at h1 ⊢; omega
   ·simp only [many_sm, sm] at h2 ⊢; omega
   ·rcases h3 with h3 | h3
    ·exact .inl h3
    ·by_cases hb : isB f 2 x = true
     ·have hn : ¬ 0 < n := fun hn => h ⟨hb, hn⟩
      exact .inl (by omega)
     ·refine .inr ?_
      simp only [many_sm, sm, cN, hb, if_false, Bool.false_eq_true] at h3 ⊢; omega
theorem many_give_ne {f g s : Int} (h : g ≠ f ∨ (s ≠ 1 ∧ s ≠ 2)) (n : Int) (l : List Bk) : manyV (giveL f n l) g s = manyV l g s := by
 rw [many_sm, many_sm]
 refine sm_give fun x hx => ?_
 unfold cN
 rcases h with h | h
 ·rw [isB_ne hx h]
  have : isB f 1 ⟨x.flight, 1, x.kept⟩ = true := by
   unfold isB at hx ⊢; simp only [Bool.and_eq_true, decide_eq_true_eq] at hx ⊢; exact ⟨hx.1, trivial⟩
  rw [isB_ne this h]
 ·have e1 : isB g s ⟨x.flight, 1, x.kept⟩ = false := by unfold isB; simp; intro _ e; exact h.1 e.symm
  have e2 : isB g s x = false := by
   unfold isB at hx ⊢; simp only [Bool.and_eq_true, decide_eq_true_eq] at hx; simp [hx.2]; intro _ e; exact h.2 e.symm
  rw [e1, e2]
/-- A booking that is valid. -/
def BkOk (fl : List Dep) (fee : Int) (x : Bk) : Prop := ∃ (i : Nat) (d : Dep), x.flight = (i : Int) ∧ fl[i]? = some d ∧ ((x.state = 4 ∧ 0 ≤ x.kept ∧ x.kept ≤ feeV d.price fee) ∨ (¬ x.state = 4 ∧ fitB d.state x.state = true ∧ x.kept = 0))
theorem booked_iff {fl : List Dep} {fee : Int} {x : Bk} : bookedB fl fee x = true ↔ BkOk fl fee x := by
 unfold bookedB BkOk
 constructor
 ·intro h
  split at h
  ·rename_i hin
   obtain ⟨d, hd⟩ : ∃ d, fl[x.flight.toNat]? = some d := ⟨_, List.getElem?_eq_getElem (by omega)⟩
   rw [hd] at h
   refine ⟨x.flight.toNat, d, by omega, hd, ?_⟩
   by_cases h4 : x.state = 4
   ·simp only [h4, if_true, Bool.and_eq_true, decide_eq_true_eq] at h
    exact .inl ⟨h4, h.1, h.2⟩
   ·simp only [h4, if_false, Bool.and_eq_true, decide_eq_true_eq] at h
    exact .inr ⟨h4, h.1, h.2⟩
  ·cases h
 ·rintro ⟨i, d, hf, hd, h⟩
  have hl := (List.getElem?_eq_some_iff.1 hd).1
  rw [if_pos (by omega), hf, Int.toNat_natCast, hd]
  simp only
  rcases h with ⟨h4, h1, h2⟩ | ⟨h4, h1, h2⟩
  ·rw [if_pos h4]; simp [h1, h2]
  ·rw [if_neg h4]; simp [h1, h2]
/-- What is asked of a valid office, but for the seats of departure i. -/
structure Semi (o : Off) (i : Nat) : Prop where
 now : 0 ≤ o.now ∧ o.now ≤ 1000000
 notice : 0 ≤ o.notice ∧ o.notice ≤ 1000000
 fee : 0 ≤ o.fee ∧ o.fee ≤ 100
 nf : o.fl.length ≤ 10
 nb : o.bk.length ≤ 120
 deps : DepsOk o.fl
 bks : ∀ x ∈ o.bk, BkOk o.fl o.fee x
 seat : ∀ (j : Nat) (d : Dep), j ≠ i → o.fl[j]? = some d → manyV o.bk j 1 + manyV o.bk j 3 ≤ d.seats ∧ (manyV o.bk j 1 + manyV o.bk j 3 = d.seats ∨ manyV o.bk j 2 ≤ 0)
 inn : o.inn = sm (cH o.fl) o.bk + sm (cE o.fl) o.bk + sm (cK o.fl) o.bk + sm (cB o.fl) o.bk
 out : o.out = sm (cB o.fl) o.bk
theorem Semi.valid {o : Off} {i : Nat} (h : Semi o i) (hs : ∀ d, o.fl[i]? = some d → manyV o.bk i 1 + manyV o.bk i 3 ≤ d.seats ∧ (manyV o.bk i 1 + manyV o.bk i 3 = d.seats ∨ manyV o.bk i 2 ≤ 0)) : officeB o = true := by
 unfold officeB headB moneyB
 rw [sums_sm]
 simp only [Bool.and_eq_true, decide_eq_true_eq, List.all_eq_true]
 refine ⟨⟨h.now.1, h.now.2, h.notice.1, h.notice.2, h.fee.1, h.fee.2, h.nf, h.nb⟩, fun d hd => (h.deps d hd).1, fun x hx => booked_iff.2 (h.bks x hx), fun j hj => ?_, h.inn, h.out⟩
 have hl := List.mem_range.1 hj
 obtain ⟨d, hd⟩ : ∃ d, o.fl[j]? = some d := ⟨_, List.getElem?_eq_getElem hl⟩
 unfold seatB
 rw [hd]
 simp only [Bool.and_eq_true, Bool.or_eq_true, decide_eq_true_eq]
 by_cases hji : j = i
 ·subst hji; exact hs d hd
 ·exact h.seat j d hji hd
theorem OkO.semi {o : Off} (hv : OkO o) (i : Nat) : Semi o i := by
 have hm := hv.money
 unfold moneyB at hm
 rw [sums_sm] at hm
 simp only [Bool.and_eq_true, decide_eq_true_eq] at hm
 exact ⟨hv.now, hv.notice, hv.fee, hv.nf, hv.nb, hv.deps, fun x hx => booked_iff.1 (List.all_eq_true.1 hv.fit x hx), fun j d _ hd => hv.seat hd, hm.1, hm.2⟩
theorem OkO.bkok {o : Off} (hv : OkO o) {x : Bk} (hx : x ∈ o.bk) : BkOk o.fl o.fee x := booked_iff.1 (List.all_eq_true.1 hv.fit x hx)
theorem mem_give {f : Int} : ∀ {n : Int} {l : List Bk} {y : Bk}, y ∈ giveL f n l → y ∈ l ∨ ∃ x ∈ l, isB f 2 x = true ∧ y = ⟨x.flight, 1, x.kept⟩
 | n, [], y, h => by cases h
 | n, x :: l, y, h => by
  unfold giveL at h
  split at h
  ·rename_i hc
   rcases List.mem_cons.1 h with rfl | h
   ·exact .inr ⟨x, List.mem_cons_self .., hc.1, rfl⟩
   ·rcases mem_give h with h | ⟨z, hz, h1, h2⟩
    ·exact .inl (List.mem_cons_of_mem _ h)
    ·exact .inr ⟨z, List.mem_cons_of_mem _ hz, h1, h2⟩
  ·rcases List.mem_cons.1 h with rfl | h
   ·exact .inl (List.mem_cons_self ..)
   ·rcases mem_give h with h | ⟨z, hz, h1, h2⟩
    ·exact .inl (List.mem_cons_of_mem _ h)
    ·exact .inr ⟨z, List.mem_cons_of_mem _ hz, h1, h2⟩
theorem isB_st {f s : Int} {x : Bk} (h : isB f s x = true) : x.flight = f ∧ x.state = s := by
 unfold isB at h
 simpa using h
theorem give_sums {fl : List Dep} {f n : Int} {l : List Bk} : sm (cH fl) (giveL f n l) = sm (cH fl) l ∧ sm (cE fl) (giveL f n l) = sm (cE fl) l ∧ sm (cK fl) (giveL f n l) = sm (cK fl) l ∧ sm (cB fl) (giveL f n l) = sm (cB fl) l := by
 refine ⟨sm_give fun x hx => ?_, sm_give fun x hx => ?_, sm_give fun x hx => ?_, sm_give fun x hx => ?_⟩
 ·unfold cH prc; simp [(isB_st hx).2]
 ·unfold cE; simp [(isB_st hx).2]
 ·unfold cK; simp [(isB_st hx).2]
 ·unfold cB; simp [(isB_st hx).2]
theorem Semi.given {o : Off} {i : Nat} (h : Semi o i) {d : Dep} (hi : o.fl[i]? = some d) (h0 : d.state = 0) (h1 : manyV o.bk i 1 ≤ d.seats) (h3 : manyV o.bk i 3 = 0) : officeB (givenV o i) = true := by
 have hf : freeV o i = d.seats - manyV o.bk i 1 := by unfold freeV; rw [hi]
 obtain ⟨s1, s2, s3, s4⟩ := give_sums (fl := o.fl) (f := (i : Int)) (n := freeV o i) (l := o.bk)
 have hS : Semi (givenV o i) i := by
  refine ⟨h.now, h.notice, h.fee, h.nf, by unfold givenV; simp only [giveL_length]; exact h.nb, h.deps, fun y hy => ?_, fun j e hj he => ?_, ?_, ?_⟩
  ·rcases mem_give hy with hy | ⟨x, hx, hb, rfl⟩
   ·exact h.bks y hy
   ·obtain ⟨k, e, hk, he, hc⟩ := h.bks x hx
    obtain ⟨b1, b2⟩ := isB_st hb
    have hki : k = i := by have := hk.symm.trans b1; omega
    subst hki
    obtain rfl : e = d := by have := he.symm.trans hi; exact Option.some.inj this
    refine ⟨k, e, hk, hi, .inr ⟨by simp, by unfold fitB; simp [h0], ?_⟩⟩
    rcases hc with hc | hc
    ·omega
    ·exact hc.2.2
  ·have hne : ((j : Int)) ≠ (i : Int) := by omega
   have := h.seat j e hj he
   unfold givenV
   simp only
   rw [many_give_ne (.inl hne), many_give_ne (.inl hne), many_give_ne (.inl hne)]
   exact this
  ·unfold givenV; simp only; rw [s1, s2, s3, s4]; exact h.inn
  ·unfold givenV; simp only; rw [s4]; exact h.out
 refine hS.valid fun e he => ?_
 obtain rfl : e = d := by have := he.symm.trans hi; exact Option.some.inj this
 obtain ⟨g, g0, g1, g2, g3, g4⟩ := many_give (i : Int) (freeV o i) o.bk
 have g5 := many_give_ne (f := (i : Int)) (g := (i : Int)) (s := 3) (.inr ⟨by decide, by decide⟩) (freeV o i) o.bk
 unfold givenV
 simp only
 rw [hf] at *
 omega
/-- A departure that is open: how its bookings are. -/
theorem OkO.open_st {o : Off} (hv : OkO o) {i : Nat} {d : Dep} (hi : o.fl[i]? = some d) (h0 : d.state = 0) {x : Bk} (hx : x ∈ o.bk) (hf : x.flight = (i : Int)) : x.state = 1 ∨ x.state = 2 ∨ x.state = 4 := by
 obtain ⟨k, e, hk, he, hc⟩ := hv.bkok hx
 have hki : k = i := by have := hk.symm.trans hf; omega
 subst hki
 obtain rfl : e = d := by have := he.symm.trans hi; exact Option.some.inj this
 rcases hc with hc | hc
 ·exact .inr (.inr hc.1)
 ·have := hc.2.1
  unfold fitB at this
  simp [h0] at this
  rcases this with h | h
  ·exact .inl h
  ·exact .inr (.inl h)
theorem OkO.st_open {o : Off} (hv : OkO o) {x : Bk} (hx : x ∈ o.bk) (hs : x.state = 1 ∨ x.state = 2) {i : Nat} {d : Dep} (hf : x.flight = (i : Int)) (hi : o.fl[i]? = some d) : d.state = 0 := by
 obtain ⟨k, e, hk, he, hc⟩ := hv.bkok hx
 have hki : k = i := by have := hk.symm.trans hf; omega
 subst hki
 obtain rfl : e = d := by have := he.symm.trans hi; exact Option.some.inj this
 rcases hc with hc | hc
 ·omega
 ·have := hc.2.1
  unfold fitB at this
  simp at this
  omega
theorem add_valid {o : Off} (hv : OkO o) {z : Dep} (hz : depOk z = true) (hz0 : z.state = 0) (hl : o.fl.length < 10) : officeB { o with fl := o.fl ++ [z] } = true := by
 have h := hv.semi o.fl.length
 have hat : ∀ (i : Nat) (d : Dep), o.fl[i]? = some d → (o.fl ++ [z])[i]? = some d := fun i d hd => by
  rw [List.getElem?_append_left (List.getElem?_eq_some_iff.1 hd).1]; exact hd
 have hprc : ∀ x ∈ o.bk, prc (o.fl ++ [z]) x = prc o.fl x := fun x hx => by
  obtain ⟨k, e, hk, he, _⟩ := hv.bkok hx
  rw [prc_at hk he, prc_at hk (hat k e he)]
 have hno : ∀ s, manyV o.bk (o.fl.length : Nat) s = 0 := fun s => many_zero_of fun x hx => by
  obtain ⟨k, e, hk, he, _⟩ := hv.bkok hx
  have := (List.getElem?_eq_some_iff.1 he).1
  unfold isB
  have : ¬ x.flight = ((o.fl.length : Nat) : Int) := by omega
  simp [this]
 have hs1 : sm (cH (o.fl ++ [z])) o.bk = sm (cH o.fl) o.bk := sm_congr fun x hx => by unfold cH; rw [hprc x hx]
 have hs2 : sm (cE (o.fl ++ [z])) o.bk = sm (cE o.fl) o.bk := sm_congr fun x hx => by unfold cE; rw [hprc x hx]
 have hs3 : sm (cK (o.fl ++ [z])) o.bk = sm (cK o.fl) o.bk := sm_congr fun x hx => rfl
 have hs4 : sm (cB (o.fl ++ [z])) o.bk = sm (cB o.fl) o.bk := sm_congr fun x hx => by unfold cB; rw [hprc x hx]
 have hS : Semi { o with fl := o.fl ++ [z] } o.fl.length := by
  refine ⟨h.now, h.notice, h.fee, by simp; omega, h.nb, fun d hd => ?_, fun x hx => ?_, fun j d hj hd => ?_, ?_, ?_⟩
  ·rcases List.mem_append.1 hd with hd | hd
   ·exact h.deps d hd
   ·rw [List.mem_singleton.1 hd]; exact ⟨hz, by omega⟩
  ·obtain ⟨k, e, hk, he, hc⟩ := h.bks x hx
   exact ⟨k, e, hk, hat k e he, hc⟩
  ·have hlt := (List.getElem?_eq_some_iff.1 hd).1
   simp only [List.length_append, List.length_singleton] at hlt
   have hjl : j < o.fl.length := by omega
   simp only at hd
   rw [List.getElem?_append_left hjl] at hd
   exact hv.seat hd
  ·simp only; rw [hs1, hs2, hs3, hs4]; exact h.inn
  ·simp only; rw [hs4]; exact h.out
 refine hS.valid fun d hd => ?_
 simp only at hd ⊢
 rw [List.getElem?_append_right (Nat.le_refl _)] at hd
 simp at hd
 subst hd
 rw [hno, hno, hno]
 have := depOk_in hz
 omega
theorem tick_valid {o : Off} (hv : OkO o) {n : Int} (h1 : 0 ≤ n ∧ n ≤ 1000000) : officeB { o with now := n } = true := by
 have h := hv.semi 0
 exact Semi.valid (o := { o with now := n }) (i := 0) ⟨h1, h.notice, h.fee, h.nf, h.nb, h.deps, h.bks, h.seat, h.inn, h.out⟩ fun d hd => hv.seat hd
theorem sell_valid {o : Off} (hv : OkO o) {i : Nat} {d : Dep} (hi : o.fl[i]? = some d) (h0 : d.state = 0) (hb : o.bk.length < 120) : officeB (sellV o (i : Int)) = true := by
 have h := hv.semi i
 have hdep : depAt o (i : Int) = d := by unfold depAt; rw [Int.toNat_natCast, hi]
 have hdd := hv.dep hi
 have hmi : ∀ s, s ≠ 2 → manyV (o.bk ++ [⟨(i : Int), 2, 0⟩]) i s = manyV o.bk i s := fun s hs => by
  rw [many_add, if_neg (by unfold isB; simp; exact fun e => hs e.symm)]; omega
 have hmj : ∀ (j : Nat) s, j ≠ i → manyV (o.bk ++ [⟨(i : Int), 2, 0⟩]) j s = manyV o.bk j s := fun j s hj => by
  rw [many_add, if_neg (by unfold isB; simp; intro e; omega)]; omega
 have hp : prc o.fl ⟨(i : Int), 2, 0⟩ = d.price := prc_at rfl hi
 unfold sellV
 rw [hdep, Int.toNat_natCast]
 refine Semi.given (o := { o with bk := o.bk ++ [⟨(i : Int), 2, 0⟩], inn := o.inn + d.price }) (i := i) ⟨h.now, h.notice, h.fee, h.nf, by simp; omega, h.deps, fun x hx => ?_, fun j e hj he => ?_, ?_, ?_⟩ hi h0 ?_ ?_
 ·rcases List.mem_append.1 hx with hx | hx
  ·exact h.bks x hx
  ·rw [List.mem_singleton.1 hx]
   exact ⟨i, d, rfl, hi, .inr ⟨by simp, by unfold fitB; simp [h0], rfl⟩⟩
 ·simp only
  rw [hmj j _ hj, hmj j _ hj, hmj j _ hj]
  exact h.seat j e hj he
 ·simp only [sm_append, sm]
  have := h.inn
  have c1 : cH o.fl ⟨(i : Int), 2, 0⟩ = d.price := by unfold cH; simp [hp]
  have c2 : cE o.fl ⟨(i : Int), 2, 0⟩ = 0 := by unfold cE; simp
  have c3 : cK o.fl ⟨(i : Int), 2, 0⟩ = 0 := by unfold cK; simp
  have c4 : cB o.fl ⟨(i : Int), 2, 0⟩ = 0 := by unfold cB; simp
  rw [c1, c2, c3, c4]
  omega
 ·simp only [sm_append, sm]
  have := h.out
  have c4 : cB o.fl ⟨(i : Int), 2, 0⟩ = 0 := by unfold cB; simp
  rw [c4]; omega
 ·simp only
  rw [hmi 1 (by decide)]
  have := hv.seat hi
  have := many_pos o.bk (i : Int) 3
  omega
 ·simp only
  rw [hmi 3 (by decide)]
  exact hv.noflown hi h0
end Go.Proofs.Ytmlmgipngbndgaa
