/- A part of the proof: rules for walks, and contracts of functions (10). -/
import Derived.Test.YtmlmgipngbndgaaX16I
import Derived.Test.YtmlmgipngbndgaaX16A
import Derived.Test.YtmlmgipngbndgaaChecked
import Derived.Test.YtmlmgipngbndgaaRows
import Derived.ProofKit
import Derived.Lib.SmallJoins
import Derived.Carry
set_option linter.unusedVariables false
set_option linter.unusedSimpArgs false
set_option maxRecDepth 100000
set_option maxHeartbeats 2000000
namespace Go.Proofs.Ytmlmgipngbndgaa
open Go.RowKit
attribute [local irreducible] OQ OS OX Rd T TL GX GL AL AI RV wpG SAny Calls
theorem asgV_err {E : Int} {L : List (List Int)} {v : Value} {H : Hp} (h : E ≠ 0) (hV : AsgV E L v H) : v = .tuple #[.slice none 0 0, .int .i64 E] ∧ H = [] := by
  rcases hV with ⟨_, h1, h2⟩ | ⟨h1, _⟩
  · exact ⟨h1, h2⟩
  · exact absurd h1 h
theorem asgV_ok {E : Int} {L : List (List Int)} {v : Value} {H : Hp} (h : E = 0) (hV : AsgV E L v H) : ∃ g R, ((∀ r ∈ R, LrOk r) ∧ R.map Prod.fst = L) ∧ v = .tuple #[.slice (some ⟨g, 0, none⟩) L.length L.length, .int .i64 0] ∧ H = outH g L.length R := by
  rcases hV with ⟨h1, _⟩ | ⟨_, g, R, a, b, c, e⟩
  · exact absurd h h1
  · exact ⟨g, R, ⟨a, b⟩, c, e⟩
theorem hp_mid (A : Hp) (b : Nat × List Value × Tg) (C : Hp) : HpSub (A ++ b :: C) (A ++ C) := hp_appC (HpSub.skipX (HpSub.refl _))
theorem crewRested_T (d : Du) (A : Option Addr) (n c : Nat) (l : List Sh) (mem : Int) (AT : Option Addr) (m cT : Nat) (ts : List Tr) (w : World) (hr : RdS w 3 A n (l.map shCells)) (hA : A = none → n = 0 ∧ c = 0) (hrT : RdS w 3 AT m (ts.map trCells)) : Calls Try.prog 16 #[.agg #[.int .i64 d.most, .int .i64 d.rest, .int .i64 d.win, .int .i64 d.sum], .slice A n c, .int .i64 mem, .slice AT m cT] w fun e w' => e = .returned (.bool true) ∧ Ext w w' := by
  have hl := hr.len
  simp only [List.length_map] at hl
  have hlT := hrT.len
  simp only [List.length_map] at hlT
  refine enterQ (c := cx w 244) Try.func16 rfl rfl rfl rfl ?_
  refine t_cut (ι := Nat) (fun z => [(1, .slice A n c), (2, .int .i64 mem), (3, .slice AT m cT), (4, .pointer (some ⟨z, 0, none⟩)), (8, .bool false)]) (fun z => [(z, [.int .i64 d.most, .int .i64 d.rest, .int .i64 d.win, .int .i64 d.sum], some (74, 4, 1))]) (fun _ => True) ?_ ?_
  · repeat' (first | ((with_reducible apply oq_id); first | (apply oq_fn; exact rfl; try first | exact trivial | (and_intros <;> omega))) | ((with_reducible apply tl_id); first | (with_reducible apply tl_nil) | ((with_reducible apply u_q); (iterate 4 exact rfl)) | ((with_reducible apply u_s); (iterate 3 exact rfl))) | ((with_reducible apply os_x); exact rfl) | ((with_reducible apply ox_boxAgg); exact rfl; intro _) | ((with_reducible apply t_id); first | (apply t_region; kernel_rfl)))
    all_goals exact ⟨rfl, _, trivial, by (repeat (first | exact FrSub.nil | (apply FrSub.cons; exact rfl))), by (repeat (first | exact HpSub.refl _ | (apply HpSub.consE; (repeat (first | exact P0 | apply P1 | apply PA)); exact rfl) | apply hp_appC | apply HpSub.skipX | exact hp_left | apply hp_skipApp | exact HpSub.nil))⟩
  rintro b4 -
  try dsimp only
  refine t_cut (ι := Unit) (fun _ => [(1, .slice A n c), (2, .int .i64 mem), (3, .slice AT m cT), (4, .pointer (some ⟨b4, 0, none⟩)), (8, .bool false), (9, .bool true)]) (fun _ => [(b4, [.int .i64 d.most, .int .i64 d.rest, .int .i64 d.win, .int .i64 d.sum], some (74, 4, 1))]) (fun _ => True) ?_ ?_
  · repeat' (first | ((with_reducible apply oq_id); first | (apply oq_fn; exact rfl; try first | exact trivial | (and_intros <;> omega)) | ((with_reducible apply oq_call (k := 53) (hc := Try.call53)); exact rfl; exact rfl; exact fun D w1 hw1 => alive_calls w1)) | ((with_reducible apply tl_id); first | (with_reducible apply tl_nil) | ((with_reducible apply u_q); (iterate 4 exact rfl))) | ((with_reducible apply t_id); first | (apply t_region; kernel_rfl)))
    all_goals exact ⟨rfl, (), trivial, by (repeat (first | exact FrSub.nil | (apply FrSub.cons; exact rfl))), by (repeat (first | exact HpSub.refl _ | (apply HpSub.consE; (repeat (first | exact P0 | apply P1 | apply PA)); exact rfl) | apply hp_appC | apply HpSub.skipX | exact hp_left | apply hp_skipApp | exact HpSub.nil))⟩
  rintro ⟨⟩ -
  by_cases hg : 30 < n ∨ 4 < m
  · by_cases hg1 : 30 < n
    · repeat' (first | ((with_reducible apply oq_id); first | ((with_reducible apply oq_gtrT); exact rfl; exact rfl; omega) | (apply oq_fn; exact rfl; try first | exact trivial | (and_intros <;> omega))) | ((with_reducible apply tl_id); first | (with_reducible apply tl_nil) | ((with_reducible apply u_q); (iterate 4 exact rfl)) | ((with_reducible apply u_skip); (iterate 3 exact rfl))) | ((with_reducible apply t_id); first | (with_reducible apply t_seq) | (apply t_region; kernel_rfl) | ((with_reducible apply t_condT); exact rfl) | (with_reducible apply t_ret)) | with_reducible apply q_thenN | with_reducible apply q_thenR | (with_reducible apply end_ret) | exact rvs_nil | (with_reducible apply rvs_cons) | ((with_reducible apply rv_tmp); exact rfl))
      all_goals rfl
    · repeat' (first | ((with_reducible apply oq_id); first | ((with_reducible apply oq_gtrT); exact rfl; exact rfl; omega) | ((with_reducible apply oq_gtrF); exact rfl; exact rfl; omega) | (apply oq_fn; exact rfl; try first | exact trivial | (and_intros <;> omega))) | ((with_reducible apply tl_id); first | (with_reducible apply tl_nil) | ((with_reducible apply u_q); (iterate 4 exact rfl)) | ((with_reducible apply u_skip); (iterate 3 exact rfl))) | ((with_reducible apply t_id); first | (with_reducible apply t_seq) | (apply t_region; kernel_rfl) | ((with_reducible apply t_condT); exact rfl) | (with_reducible apply t_ret)) | with_reducible apply q_thenN | with_reducible apply q_thenR | (with_reducible apply end_ret) | exact rvs_nil | (with_reducible apply rvs_cons) | ((with_reducible apply rv_tmp); exact rfl))
      all_goals rfl
  refine t_cut (ι := Unit) (fun _ => [(1, .slice A n c), (2, .int .i64 mem), (3, .slice AT m cT), (4, .pointer (some ⟨b4, 0, none⟩)), (8, .bool false), (9, .bool true)]) (fun _ => [(b4, [.int .i64 d.most, .int .i64 d.rest, .int .i64 d.win, .int .i64 d.sum], some (74, 4, 1))]) (fun _ => True) ?_ ?_
  · repeat' (first | ((with_reducible apply oq_id); first | ((with_reducible apply oq_gtrF); exact rfl; exact rfl; omega) | (apply oq_fn; exact rfl; try first | exact trivial | (and_intros <;> omega))) | ((with_reducible apply tl_id); first | (with_reducible apply tl_nil) | ((with_reducible apply u_q); (iterate 4 exact rfl))) | ((with_reducible apply t_id); first | (with_reducible apply t_seq) | (apply t_region; kernel_rfl) | ((with_reducible apply t_condF); exact rfl) | (with_reducible apply t_skip)) | with_reducible apply q_thenN)
    all_goals exact ⟨rfl, (), trivial, by (repeat (first | exact FrSub.nil | (apply FrSub.cons; exact rfl))), by (repeat (first | exact HpSub.refl _ | (apply HpSub.consE; (repeat (first | exact P0 | apply P1 | apply PA)); exact rfl) | apply hp_appC | apply HpSub.skipX | exact hp_left | apply hp_skipApp | exact HpSub.nil))⟩
  rintro ⟨⟩ -
  obtain ⟨E, hE⟩ : ∃ E, asgE d l mem ts = E := ⟨_, rfl⟩
  obtain ⟨L, hL⟩ : ∃ L, asgL d l mem ts = L := ⟨_, rfl⟩
  obtain ⟨E1, hE1⟩ : ∃ E, tiE d l = E := ⟨_, rfl⟩
  obtain ⟨T1, hT1⟩ : ∃ T, tiL d l = T := ⟨_, rfl⟩
  by_cases h0 : E = 0
  rotate_left
  · have hbad := rst_err (d := d) (l := l) (mem := mem) (ts := ts) (by rw [hE]; exact h0)
    rw [hE, hE1] at hbad
    refine t_cut (ι := Unit) (fun _ => [(1, .slice A n c), (2, .int .i64 mem), (3, .slice AT m cT), (4, .pointer (some ⟨b4, 0, none⟩)), (8, .bool false), (9, .bool true), (10, .slice none 0 0), (11, .int .i64 E)]) (fun _ => [(b4, [.int .i64 d.most, .int .i64 d.rest, .int .i64 d.win, .int .i64 d.sum], some (74, 4, 1))]) (fun _ => True) ?_ ?_
    · repeat' (first | ((with_reducible apply oq_id); first | (apply oq_fn; exact rfl; try first | exact trivial | (and_intros <;> omega)) | ((with_reducible apply oq_loadAgg); exact rfl; exact rfl)) | ((with_reducible apply tl_id); first | (with_reducible apply tl_nil) | ((with_reducible apply u_s); (iterate 3 exact rfl); (with_reducible apply os_callF (PV := AsgV E L) (k := 50) (hc := Try.call50)); exact rfl; exact rfl; exact fun D w1 hw1 => (by rw [← hE, ← hL]; exact assign_T d A n c l mem AT m cT ts w1 (hr.ext hw1.ext.ext) hA (hrT.ext hw1.ext.ext) (by omega) (by omega)); rintro v H' hV; obtain ⟨rfl, rfl⟩ := asgV_err h0 hV; (try simp only [List.nil_append])) | ((with_reducible apply u_q); (iterate 4 exact rfl))) | ((with_reducible apply rd_id); first | (apply Rd.own; (repeat (first | exact P0 | apply P1 | apply PA)); exact rfl; done)) | ((with_reducible apply t_id); first | (apply t_region; kernel_rfl)) | exact Rdn.zero | apply Rdn.succ)
      all_goals exact ⟨by trivial, (), trivial, by (repeat (first | exact FrSub.nil | (apply FrSub.cons; exact rfl))), by (repeat (first | exact HpSub.refl _ | (apply HpSub.consE; (repeat (first | exact P0 | apply P1 | apply PA)); exact rfl) | apply hp_appC | apply HpSub.skipX | exact hp_left | apply hp_skipApp | exact HpSub.nil))⟩
    rintro ⟨⟩ -
    refine t_cut (ι := Unit) (fun _ => [(1, .slice A n c), (2, .int .i64 mem), (3, .slice AT m cT), (4, .pointer (some ⟨b4, 0, none⟩)), (8, .bool false), (9, .bool true), (10, .slice none 0 0), (11, .int .i64 E), (13, .int .i64 E1)]) (fun _ => [(b4, [.int .i64 d.most, .int .i64 d.rest, .int .i64 d.win, .int .i64 d.sum], some (74, 4, 1))]) (fun _ => True) ?_ ?_
    · repeat' (first | ((with_reducible apply oq_id); first | (apply oq_fn; exact rfl; try first | exact trivial | (and_intros <;> omega)) | ((with_reducible apply oq_loadAgg); exact rfl; exact rfl)) | ((with_reducible apply tl_id); first | (with_reducible apply tl_nil) | ((with_reducible apply u_s); (iterate 3 exact rfl); (with_reducible apply os_callF (PV := TiE E1 T1) (k := 42) (hc := Try.call42)); exact rfl; exact rfl; exact fun D w1 hw1 => (by rw [← hE1, ← hT1]; exact tiredE_T d A n c l w1 (hr.ext hw1.ext.ext) hA (by omega)); rintro v H' ⟨x0, hx0, rfl, rfl⟩; (try simp only [List.append_nil])) | ((with_reducible apply u_q); (iterate 4 exact rfl))) | ((with_reducible apply rd_id); first | (apply Rd.own; (repeat (first | exact P0 | apply P1 | apply PA)); exact rfl; done)) | ((with_reducible apply t_id); first | (apply t_region; kernel_rfl)) | exact Rdn.zero | apply Rdn.succ)
      all_goals exact ⟨by trivial, (), trivial, by (repeat (first | exact FrSub.nil | (apply FrSub.cons; exact rfl))), by (repeat (first | exact HpSub.refl _ | (apply HpSub.consE; (repeat (first | exact P0 | apply P1 | apply PA)); exact rfl) | apply hp_appC | apply HpSub.skipX | exact hp_left | apply hp_skipApp | exact HpSub.nil))⟩
    rintro ⟨⟩ -
    by_cases e1 : E = 6
    · repeat' (first | ((with_reducible apply oq_id); first | ((with_reducible apply oq_neqT); exact rfl; exact rfl; omega) | ((with_reducible apply oq_eqlT); exact rfl; exact rfl; omega) | (apply oq_fn; exact rfl; try first | exact trivial | (and_intros <;> omega))) | ((with_reducible apply tl_id); first | (with_reducible apply tl_nil) | ((with_reducible apply u_q); (iterate 4 exact rfl)) | ((with_reducible apply u_skip); (iterate 3 exact rfl))) | ((with_reducible apply t_id); first | (with_reducible apply t_seq) | (apply t_region; kernel_rfl) | ((with_reducible apply t_condT); exact rfl) | (with_reducible apply t_ret)) | with_reducible apply q_thenN | with_reducible apply q_thenR | (with_reducible apply end_ret) | exact rvs_nil | (with_reducible apply rvs_cons) | ((with_reducible apply rv_tmp); exact rfl))
      all_goals rfl
    · by_cases e2 : E1 = E
      · repeat' (first | ((with_reducible apply oq_id); first | ((with_reducible apply oq_neqT); exact rfl; exact rfl; omega) | ((with_reducible apply oq_eqlT); exact rfl; exact rfl; omega) | ((with_reducible apply oq_eqlF); exact rfl; exact rfl; omega) | (apply oq_fn; exact rfl; try first | exact trivial | (and_intros <;> omega))) | ((with_reducible apply tl_id); first | (with_reducible apply tl_nil) | ((with_reducible apply u_q); (iterate 4 exact rfl)) | ((with_reducible apply u_skip); (iterate 3 exact rfl))) | ((with_reducible apply t_id); first | (with_reducible apply t_seq) | (apply t_region; kernel_rfl) | ((with_reducible apply t_condT); exact rfl) | (with_reducible apply t_ret)) | with_reducible apply q_thenN | with_reducible apply q_thenR | (with_reducible apply end_ret) | exact rvs_nil | (with_reducible apply rvs_cons) | ((with_reducible apply rv_tmp); exact rfl))
        all_goals rfl
      · repeat' (first | ((with_reducible apply oq_id); first | ((with_reducible apply oq_neqT); exact rfl; exact rfl; omega) | ((with_reducible apply oq_eqlT); exact rfl; exact rfl; omega) | ((with_reducible apply oq_eqlF); exact rfl; exact rfl; omega) | (apply oq_fn; exact rfl; try first | exact trivial | (and_intros <;> omega))) | ((with_reducible apply tl_id); first | (with_reducible apply tl_nil) | ((with_reducible apply u_q); (iterate 4 exact rfl))) | ((with_reducible apply t_id); first | (with_reducible apply t_seq) | (apply t_region; kernel_rfl) | ((with_reducible apply t_condT); exact rfl) | (with_reducible apply t_ret)) | with_reducible apply q_thenN | with_reducible apply q_thenR | (with_reducible apply end_ret) | exact rvs_nil | (with_reducible apply rvs_cons) | ((with_reducible apply rv_tmp); exact rfl))
        all_goals rfl
  obtain ⟨a0, ⟨a1, a1'⟩, a2, a3, a4⟩ := asgE_ok (hE.trans h0)
  obtain ⟨b1, b2, b3, b5, b6, b7⟩ := rst_law (by omega) (hE.trans h0)
  rw [hL] at b2 b3 b5 b6 b7
  rw [hT1] at b1
  rw [hE1] at a0
  have hLm : L.length = m := by omega
  refine t_cut (ι := Nat × List Row) (fun z => [(1, .slice A n c), (2, .int .i64 mem), (3, .slice AT m cT), (4, .pointer (some ⟨b4, 0, none⟩)), (8, .bool false), (9, .bool true), (10, .slice (some ⟨z.1, 0, none⟩) m m), (11, .int .i64 0)]) (fun z => (b4, [.int .i64 d.most, .int .i64 d.rest, .int .i64 d.win, .int .i64 d.sum], some (74, 4, 1)) :: outH z.1 m z.2) (fun z => (∀ r ∈ z.2, LrOk r) ∧ z.2.map Prod.fst = L) ?_ ?_
  · repeat' (first | ((with_reducible apply oq_id); first | (apply oq_fn; exact rfl; try first | exact trivial | (and_intros <;> omega)) | ((with_reducible apply oq_loadAgg); exact rfl; exact rfl)) | ((with_reducible apply tl_id); first | (with_reducible apply tl_nil) | ((with_reducible apply u_s); (iterate 3 exact rfl); (with_reducible apply os_callF (PV := AsgV E L) (k := 50) (hc := Try.call50)); exact rfl; exact rfl; exact fun D w1 hw1 => (by rw [← hE, ← hL]; exact assign_T d A n c l mem AT m cT ts w1 (hr.ext hw1.ext.ext) hA (hrT.ext hw1.ext.ext) (by omega) (by omega)); rintro v H' hV; obtain ⟨g, R, hRR, rfl, rfl⟩ := asgV_ok h0 hV; (rw [hLm])) | ((with_reducible apply u_q); (iterate 4 exact rfl))) | ((with_reducible apply rd_id); first | (apply Rd.own; (repeat (first | exact P0 | apply P1 | apply PA)); exact rfl; done)) | ((with_reducible apply t_id); first | (apply t_region; kernel_rfl)) | exact Rdn.zero | apply Rdn.succ)
    all_goals exact ⟨by trivial, (g, R), hRR, by (repeat (first | exact FrSub.nil | (apply FrSub.cons; exact rfl))), by (first | exact hp_comm [_] _ | exact hp_comm _ [_] | (repeat (first | exact HpSub.refl _ | (apply HpSub.consE; (repeat (first | exact P0 | apply P1 | apply PA)); exact rfl) | apply hp_appC | apply HpSub.skipX | exact hp_left | apply hp_skipApp | exact HpSub.nil)))⟩
  rintro ⟨g, R⟩ ⟨hRk, hRL⟩
  simp only at hRk hRL ⊢
  refine t_cut (ι := Option (Nat × Nat)) (fun x1 => [(1, .slice A n c), (2, .int .i64 mem), (3, .slice AT m cT), (4, .pointer (some ⟨b4, 0, none⟩)), (8, .bool false), (9, .bool true), (10, .slice (some ⟨g, 0, none⟩) m m), (11, .int .i64 0), (12, .slice (clA x1) T1.length (clC x1)), (13, .int .i64 E1)]) (fun _ => (b4, [.int .i64 d.most, .int .i64 d.rest, .int .i64 d.win, .int .i64 d.sum], some (74, 4, 1)) :: outH g m R) (fun x1 => x1 = none → T1.length = 0) ?_ ?_
  · repeat' (first | ((with_reducible apply oq_id); first | (apply oq_fn; exact rfl; try first | exact trivial | (and_intros <;> omega)) | ((with_reducible apply oq_loadAgg); exact rfl; exact rfl)) | ((with_reducible apply tl_id); first | (with_reducible apply tl_nil) | ((with_reducible apply u_s); (iterate 3 exact rfl); (with_reducible apply os_callF (PV := TiE E1 T1) (k := 42) (hc := Try.call42)); exact rfl; exact rfl; exact fun D w1 hw1 => (by rw [← hE1, ← hT1]; exact tiredE_T d A n c l w1 (hr.ext hw1.ext.ext) hA (by omega)); rintro v H' ⟨x0, hx0, rfl, rfl⟩; (try simp only [List.append_nil])) | ((with_reducible apply u_q); (iterate 4 exact rfl))) | ((with_reducible apply rd_id); first | (apply Rd.own; (repeat (first | exact P0 | apply P1 | apply PA)); exact rfl; done)) | ((with_reducible apply t_id); first | (apply t_region; kernel_rfl)) | exact Rdn.zero | apply Rdn.succ)
    all_goals exact ⟨by trivial, x0, hx0, by (repeat (first | exact FrSub.nil | (apply FrSub.cons; exact rfl))), by (repeat (first | exact HpSub.refl _ | (apply HpSub.consE; (repeat (first | exact P0 | apply P1 | apply PA)); exact rfl) | apply hp_appC | apply HpSub.skipX | exact hp_left | apply hp_skipApp | exact HpSub.nil))⟩
  rintro x1 hx1
  try dsimp only
  have hT1l : T1.length = 0 := by rw [b1]; rfl
  subst a0
  refine t_cut (ι := Unit) (fun _ => [(1, .slice A n c), (2, .int .i64 mem), (3, .slice AT m cT), (4, .pointer (some ⟨b4, 0, none⟩)), (8, .bool false), (9, .bool true), (10, .slice (some ⟨g, 0, none⟩) m m), (12, .slice (clA x1) T1.length (clC x1)), (13, .int .i64 0)]) (fun _ => (b4, [.int .i64 d.most, .int .i64 d.rest, .int .i64 d.win, .int .i64 d.sum], some (74, 4, 1)) :: outH g m R) (fun _ => True) ?_ ?_
  · repeat' (first | ((with_reducible apply oq_id); first | ((with_reducible apply oq_neqF); exact rfl; exact rfl; omega) | (apply oq_fn; exact rfl; try first | exact trivial | (and_intros <;> omega))) | ((with_reducible apply tl_id); first | (with_reducible apply tl_nil) | ((with_reducible apply u_q); (iterate 4 exact rfl))) | ((with_reducible apply t_id); first | (with_reducible apply t_seq) | (apply t_region; kernel_rfl) | ((with_reducible apply t_condF); exact rfl) | (with_reducible apply t_skip)) | with_reducible apply q_thenN)
    all_goals exact ⟨rfl, (), trivial, by (repeat (first | exact FrSub.nil | (apply FrSub.cons; exact rfl))), by (repeat (first | exact HpSub.refl _ | (apply HpSub.consE; (repeat (first | exact P0 | apply P1 | apply PA)); exact rfl) | apply hp_appC | apply HpSub.skipX | exact hp_left | apply hp_skipApp | exact HpSub.nil))⟩
  rintro ⟨⟩ -
  refine t_cut (ι := Unit) (fun _ => [(1, .slice A n c), (2, .int .i64 mem), (3, .slice AT m cT), (4, .pointer (some ⟨b4, 0, none⟩)), (8, .bool false), (9, .bool true), (10, .slice (some ⟨g, 0, none⟩) m m)]) (fun _ => (b4, [.int .i64 d.most, .int .i64 d.rest, .int .i64 d.win, .int .i64 d.sum], some (74, 4, 1)) :: outH g m R) (fun _ => True) ?_ ?_
  · repeat' (first | ((with_reducible apply oq_id); first | ((with_reducible apply oq_neqF); exact rfl; exact rfl; omega) | (apply oq_fn; exact rfl; try first | exact trivial | (and_intros <;> omega))) | ((with_reducible apply tl_id); first | (with_reducible apply tl_nil) | ((with_reducible apply u_q); (iterate 4 exact rfl))) | ((with_reducible apply t_id); first | (with_reducible apply t_seq) | (apply t_region; kernel_rfl) | ((with_reducible apply t_condF); exact rfl) | (with_reducible apply t_skip)) | with_reducible apply q_thenN)
    all_goals exact ⟨rfl, (), trivial, by (repeat (first | exact FrSub.nil | (apply FrSub.cons; exact rfl))), by (repeat (first | exact HpSub.refl _ | (apply HpSub.consE; (repeat (first | exact P0 | apply P1 | apply PA)); exact rfl) | apply hp_appC | apply HpSub.skipX | exact hp_left | apply hp_skipApp | exact HpSub.nil))⟩
  rintro ⟨⟩ -
  refine t_cut (ι := Nat × Nat) (fun z => [(1, .slice A n c), (2, .int .i64 mem), (3, .slice AT m cT), (4, .pointer (some ⟨b4, 0, none⟩)), (8, .bool false), (9, .bool true), (10, .slice (some ⟨g, 0, none⟩) m m), (14, .slice (some ⟨z.1, 0, none⟩) (l ++ addF (ts.take 0) (L.take 0)).length z.2)]) (fun z => (z.1, shB (l ++ addF (ts.take 0) (L.take 0)), some (101, 3, z.2)) :: (b4, [.int .i64 d.most, .int .i64 d.rest, .int .i64 d.win, .int .i64 d.sum], some (74, 4, 1)) :: outH g m R) (fun _ => True) ?_ ?_
  · repeat' (first | ((with_reducible apply oq_id); first | (apply oq_fn; exact rfl; try first | exact trivial | (and_intros <;> omega))) | ((with_reducible apply tl_id); first | (with_reducible apply tl_nil) | ((with_reducible apply u_s); (iterate 3 exact rfl); (with_reducible apply os_appendRows (hk := app_ok75) (rows := l.map shCells) (hr := fun D w1 hw1 => hr.ext hw1.ext.ext)); exact rfl; exact rfl; (repeat (first | exact P0 | apply P1 | apply PA)); exact sh_len l; exact rfl; exact sh_one l; exact Nat.le_refl _; omega; omega; intro gN cN; (simp only [Nat.zero_add, List.nil_append])) | ((with_reducible apply u_q); (iterate 4 exact rfl)) | ((with_reducible apply u_s); (iterate 3 exact rfl))) | ((with_reducible apply os_x); exact rfl) | ((with_reducible apply ox_buildSlice); (iterate 4 exact rfl)) | ((with_reducible apply t_id); first | (apply t_region; kernel_rfl)) | ((with_reducible apply Norm.nil); exact rfl) | exact (rfl : (_ : Bool) = true) | (intro _; with_reducible apply tl_id))
    all_goals refine ⟨by trivial, (gN, cN), trivial, ?_, ?_⟩
    all_goals first
      | ((repeat (first | exact FrSub.nil | (apply FrSub.cons; exact rfl) | (apply FrSub.consE; exact rfl; (focus (simp [addF, hl]; done))))); done)
      | ((repeat (first | exact HpSub.refl _ | (apply HpSub.consE; (repeat (first | exact P0 | apply P1 | apply PA)); first | exact rfl | (focus (simp [shB, addF]; done))) | apply hp_appC | apply HpSub.skipX | exact hp_left | apply hp_skipApp | exact HpSub.nil)); done)
  rintro ⟨gB, cB⟩ -
  try dsimp only
  have hadd : ∀ i, (addF (ts.take i) (L.take i)).length ≤ 8 := fun i => by
    have := addF_len (k := 2) (ts := ts.take i) (R := L.take i) fun k x r hx hq => by
      by_cases hk : k < i
      · rw [List.getElem?_take_of_lt hk] at hx hq
        have e1 := (b3 k x r hx hq).1
        have e2 := a3 x (List.mem_of_getElem? hx)
        unfold trOk at e2; omega
      · rw [List.getElem?_eq_none (by simp; omega)] at hx; cases hx
    simp only [List.length_take] at this
    omega
  refine t_cut (ι := Nat × Nat) (fun z => [(1, .slice A n c), (2, .int .i64 mem), (3, .slice AT m cT), (4, .pointer (some ⟨b4, 0, none⟩)), (8, .bool false), (9, .bool true), (10, .slice (some ⟨g, 0, none⟩) m m), (14, .slice (some ⟨z.1, 0, none⟩) (l ++ addF ts L).length z.2)]) (fun z => (z.1, shB (l ++ addF ts L), some (101, 3, z.2)) :: (b4, [.int .i64 d.most, .int .i64 d.rest, .int .i64 d.win, .int .i64 d.sum], some (74, 4, 1)) :: outH g m R) (fun _ => True) ?_ ?_
  · repeat' (first | ((with_reducible apply oq_id); first | (apply oq_fn; exact rfl; try first | exact trivial | (and_intros <;> omega))) | ((with_reducible apply tl_id); first | (with_reducible apply tl_nil) | ((with_reducible apply u_q); (iterate 4 exact rfl))) | ((with_reducible apply t_id); first | (with_reducible apply t_seq) | (apply t_region; kernel_rfl) | (with_reducible apply t_block)) | with_reducible apply q_thenN)
    apply t_loopK (GH := []) (ι := Nat × Nat × Nat) [1, 2, 3, 4, 8, 9, 10, 91, 92] (fun z => [(93, .int .i64 (z.1 : Nat)), (14, .slice (some ⟨z.2.1, 0, none⟩) (l ++ addF (ts.take z.1) (L.take z.1)).length z.2.2)]) (fun z => (z.2.1, shB (l ++ addF (ts.take z.1) (L.take z.1)), some (101, 3, z.2.2)) :: (b4, [.int .i64 d.most, .int .i64 d.rest, .int .i64 d.win, .int .i64 d.sum], some (74, 4, 1)) :: outH g m R) (fun z => z.1 ≤ m) (fun z => m - z.1) ((0, gB, cB))
    (repeat (first | exact KeepF.nil | (apply KeepF.cons; exact rfl) | apply KeepF.skip))
    (repeat (first | exact FrSub.nil | (apply FrSub.cons; exact rfl)))
    ((try simp only [List.append_nil]); (repeat (first | exact HpSub.refl _ | (apply HpSub.consE; (repeat (first | exact P0 | apply P1 | apply PA)); exact rfl) | apply hp_appC | apply HpSub.skipX | exact hp_left | apply hp_skipApp | exact HpSub.nil)))
    · exact Nat.zero_le _
    rintro ⟨i, gB, cB⟩ hi
    simp only at hi
    try simp only [List.cons_append, List.nil_append]
    simp only [List.append_nil]
    by_cases hlt : i < m
    · obtain ⟨b, o', x, hAe, _, hx, c0, c1, c2⟩ := tr_read hrT hlt
      obtain ⟨xs, hxs⟩ : ∃ xs, L[i]? = some xs := ⟨_, List.getElem?_eq_getElem (by omega)⟩
      obtain ⟨ro, hRi⟩ := row_of hRL hxs
      obtain ⟨hxl, hinc, hbd⟩ := b3 i x xs hx hxs
      have hsn := addF_snoc hx hxs
      have hx2 := a3 x (List.mem_of_getElem? hx)
      unfold trOk at hx2
      have hB8 := hadd i
      obtain ⟨B, hB⟩ : ∃ B, (l ++ addF (ts.take i) (L.take i)) = B := ⟨_, rfl⟩
      have hBn : l ++ addF (ts.take (i + 1)) (L.take (i + 1)) = B ++ shR x xs := by rw [hsn, ← hB, List.append_assoc]
      have hBl : B.length ≤ 38 := by rw [← hB, List.length_append]; omega
      rw [hB]
      rw [show B = B ++ shR x (xs.take 0) by simp [shR]]
      subst hAe
      repeat' (first | ((with_reducible apply oq_id); first | (focus ((with_reducible apply oq_indexAddrN); (iterate 4 exact rfl); omega)) | ((with_reducible apply oq_lssT); exact rfl; exact rfl; omega) | ((with_reducible apply oq_neqF); exact rfl; exact rfl; omega) | (apply oq_fn; exact rfl; try first | exact trivial | (and_intros <;> omega)) | ((with_reducible apply oq_load); exact rfl; exact rfl) | ((with_reducible apply oq_loadAgg); exact rfl; exact rfl)) | ((with_reducible apply tl_id); first | (with_reducible apply tl_nil) | ((with_reducible apply u_q); (iterate 4 exact rfl)) | ((with_reducible apply u_s0); exact rfl; exact rfl) | ((with_reducible apply u_s); (iterate 3 exact rfl))) | ((with_reducible apply gx_id); first | (with_reducible apply v_nil) | ((with_reducible apply v_q); (iterate 3 exact rfl))) | ((with_reducible apply os_id); first | ((with_reducible apply os_x); exact rfl) | ((with_reducible apply os_storeAgg); (iterate 5 exact rfl))) | ((with_reducible apply ox_alloc); exact rfl; intro _) | ((with_reducible apply rd_id); first | (apply Rd.old; (first | exact c0 | exact c1 | exact c2); exact List.not_mem_nil) | (focus ((apply (rd_out hRi)); (repeat (first | exact HpSub.refl _ | apply HpSub.skipX | exact hp_leftX _ _ | apply hp_skipApp)))) | (apply Rd.own; (repeat (first | exact P0 | apply P1 | apply PA)); exact rfl; done)) | ((with_reducible apply t_id); first | (with_reducible apply t_seq) | (apply t_region; kernel_rfl) | (apply t_drawn; kernel_rfl; decide +kernel; try simp only [List.append_eq, List.cons_append, List.nil_append]) | ((with_reducible apply t_condT); exact rfl) | ((with_reducible apply t_condF); exact rfl) | (with_reducible apply t_skip) | (with_reducible apply t_block)) | with_reducible apply q_thenN | exact P0 | exact Rdn.zero | apply Rdn.succ | ((with_reducible apply Norm.nil); exact rfl) | ((with_reducible apply Norm.cons); exact rfl) | exact Nat.le_of_ble_eq_true rfl)
      rename_i b16
      apply t_loopK (GH := []) (ι := Nat × Nat × Nat) [1, 2, 3, 4, 8, 9, 10, 15, 16, 91, 92, 93, 109, 110] (fun z => [(111, .int .i64 (z.1 : Nat)), (14, .slice (some ⟨z.2.1, 0, none⟩) (B ++ shR x (xs.take z.1)).length z.2.2)]) (fun z => (z.2.1, shB (B ++ shR x (xs.take z.1)), some (101, 3, z.2.2)) :: (b16, [.int .i64 x.fr, .int .i64 x.to, .int .i64 x.crew], some (114, 3, 1)) :: (b4, [.int .i64 d.most, .int .i64 d.rest, .int .i64 d.win, .int .i64 d.sum], some (74, 4, 1)) :: outH g m R) (fun z => z.1 ≤ xs.length) (fun z => xs.length - z.1) ((0, gB, cB))
      (repeat (first | exact KeepF.nil | (apply KeepF.cons; exact rfl) | apply KeepF.skip))
      (repeat (first | exact FrSub.nil | (apply FrSub.cons; exact rfl)))
      ((try simp only [List.append_nil]); (repeat (first | exact HpSub.refl _ | (apply HpSub.consE; (repeat (first | exact P0 | apply P1 | apply PA)); exact rfl) | apply hp_appC | apply HpSub.skipX | exact hp_left | apply hp_skipApp | exact HpSub.nil)))
      · exact Nat.zero_le _
      rintro ⟨j, gC, cC⟩ hj
      simp only at hj
      try simp only [List.cons_append, List.nil_append]
      try simp only [List.append_nil]
      by_cases hjl : j < xs.length
      · obtain ⟨p, hp⟩ : ∃ p, xs[j]? = some p := ⟨_, List.getElem?_eq_getElem hjl⟩
        obtain ⟨rg, rc, rfl⟩ := row_nn hRk hRi (by omega)
        have hpb := hbd p (List.mem_of_getElem? hp)
        have hst : B ++ shR x (xs.take (j + 1)) = (B ++ shR x (xs.take j)) ++ [⟨p, x.fr, x.to⟩] := by rw [List.take_add_one, hp]; simp [shR]
        have hQl : (B ++ shR x (xs.take j)).length ≤ 60 := by rw [List.length_append, shR_len, List.length_take]; omega
        obtain ⟨Q, hQ⟩ : ∃ Q, B ++ shR x (xs.take j) = Q := ⟨_, rfl⟩
        rw [hQ] at hst hQl ⊢
        have hfl : (shB Q).length = Q.length * 3 := sh_flat_len Q
        simp only [clA, clC]
        by_cases hj0 : j = 0
        · subst hj0
          repeat' (first | ((with_reducible apply oq_id); first | (focus ((with_reducible apply oq_indexAddrN); (iterate 4 exact rfl); omega)) | ((with_reducible apply oq_lssT); exact rfl; exact rfl; omega) | ((with_reducible apply oq_lssF); exact rfl; exact rfl; omega) | ((with_reducible apply oq_geqF); exact rfl; exact rfl; omega) | ((with_reducible apply oq_gtrF); exact rfl; exact rfl; omega) | (apply oq_fn; exact rfl; try first | exact trivial | (and_intros <;> omega)) | ((with_reducible apply oq_load); exact rfl; exact rfl) | ((with_reducible apply oq_build); (iterate 3 exact rfl))) | ((with_reducible apply tl_id); first | (with_reducible apply tl_nil) | ((with_reducible apply u_q); (iterate 4 exact rfl)) | ((with_reducible apply u_s); (iterate 3 exact rfl)) | ((with_reducible apply u_skip); (iterate 3 exact rfl))) | ((with_reducible apply os_id); first | ((with_reducible apply os_x); exact rfl) | ((with_reducible apply os_append (hk := app_ok75)); exact rfl; exact rfl; (repeat (first | exact P0 | apply P1 | apply PA)))) | ((with_reducible apply ox_buildSlice); (iterate 4 exact rfl)) | ((with_reducible apply rd_id); first | (focus ((apply (rd_row hRi hp)); (repeat (first | exact HpSub.refl _ | apply HpSub.skipX | exact hp_leftX _ _ | apply hp_skipApp)))) | (apply Rd.own; (repeat (first | exact P0 | apply P1 | apply PA)); exact rfl; done)) | ((with_reducible apply t_id); first | (with_reducible apply t_seq) | (apply t_region; kernel_rfl) | ((with_reducible apply t_condT); exact rfl) | ((with_reducible apply t_condF); exact rfl) | (with_reducible apply t_skip) | (with_reducible apply t_block)) | with_reducible apply q_thenN | with_reducible apply q_blockN | exact Rdn.zero | apply Rdn.succ | ((with_reducible apply Norm.nil); exact rfl) | ((with_reducible apply Norm.cons); exact rfl) | exact hfl | (intro gN cN; with_reducible apply tl_id) | exact Nat.le_of_ble_eq_true rfl | exact (rfl : (_ : Bool) = true) | omega | (intro _; with_reducible apply tl_id))
          all_goals (refine ⟨(1, gN, cN), (by simp only; omega), (by simp only; omega), ?_, ?_⟩)
          all_goals (simp only [Nat.zero_add] at hst)
          all_goals (simp only [hst])
          all_goals first
            | ((try simp only [List.cons_append, List.nil_append]); (repeat (first | exact FrSub.nil | (apply FrSub.cons; exact rfl) | (apply FrSub.consE; exact rfl; (focus (simp; done))))); done)
            | ((try simp only [List.cons_append, List.nil_append]); (repeat (first | exact HpSub.refl _ | (apply HpSub.consE; (repeat (first | exact P0 | apply P1 | apply PA)); first | exact rfl | (focus (simp [shB, shCells]; done))) | apply hp_appC | apply HpSub.skipX | exact hp_left | apply hp_skipApp | exact HpSub.nil)); done)
        · obtain ⟨q, hq⟩ : ∃ q, xs[j - 1]? = some q := ⟨_, List.getElem?_eq_getElem (by omega)⟩
          have hqp : q < p := by
            obtain ⟨h1, rfl⟩ := List.getElem?_eq_some_iff.1 hp
            obtain ⟨h2, rfl⟩ := List.getElem?_eq_some_iff.1 hq
            exact List.pairwise_iff_getElem.1 hinc (j - 1) j h2 h1 (by omega)
          repeat' (first | ((with_reducible apply oq_id); first | ((with_reducible apply oq_subE (k := ((j - 1 : Nat) : Int))); exact rfl; exact rfl; omega) | (focus ((with_reducible apply oq_indexAddrN); (iterate 4 exact rfl); omega)) | ((with_reducible apply oq_lssT); exact rfl; exact rfl; omega) | ((with_reducible apply oq_lssF); exact rfl; exact rfl; omega) | ((with_reducible apply oq_geqF); exact rfl; exact rfl; omega) | ((with_reducible apply oq_gtrT); exact rfl; exact rfl; omega) | ((with_reducible apply oq_leqF); exact rfl; exact rfl; omega) | (apply oq_fn; exact rfl; try first | exact trivial | (and_intros <;> omega)) | ((with_reducible apply oq_load); exact rfl; exact rfl) | ((with_reducible apply oq_build); (iterate 3 exact rfl))) | ((with_reducible apply tl_id); first | (with_reducible apply tl_nil) | ((with_reducible apply u_q); (iterate 4 exact rfl)) | ((with_reducible apply u_s); (iterate 3 exact rfl))) | ((with_reducible apply os_id); first | ((with_reducible apply os_x); exact rfl) | ((with_reducible apply os_append (hk := app_ok75)); exact rfl; exact rfl; (repeat (first | exact P0 | apply P1 | apply PA)))) | ((with_reducible apply ox_buildSlice); (iterate 4 exact rfl)) | ((with_reducible apply rd_id); first | (focus ((apply (rd_out hRi)); (repeat (first | exact HpSub.refl _ | apply HpSub.skipX | exact hp_leftX _ _ | apply hp_skipApp)))) | (focus ((apply (rd_row hRi hp)); (repeat (first | exact HpSub.refl _ | apply HpSub.skipX | exact hp_leftX _ _ | apply hp_skipApp)))) | (focus ((apply (rd_row hRi hq)); (repeat (first | exact HpSub.refl _ | apply HpSub.skipX | exact hp_leftX _ _ | apply hp_skipApp)))) | (apply Rd.own; (repeat (first | exact P0 | apply P1 | apply PA)); exact rfl; done)) | ((with_reducible apply t_id); first | (with_reducible apply t_seq) | (apply t_region; kernel_rfl) | ((with_reducible apply t_condT); exact rfl) | ((with_reducible apply t_condF); exact rfl) | (with_reducible apply t_skip) | (with_reducible apply t_block)) | with_reducible apply q_thenN | with_reducible apply q_blockN | exact Rdn.zero | apply Rdn.succ | ((with_reducible apply Norm.nil); exact rfl) | ((with_reducible apply Norm.cons); exact rfl) | exact hfl | (intro gN cN; with_reducible apply tl_id) | exact Nat.le_of_ble_eq_true rfl | exact (rfl : (_ : Bool) = true) | omega | (intro _; with_reducible apply tl_id))
          all_goals (refine ⟨(j + 1, gN, cN), (by simp only; omega), (by simp only; omega), ?_, ?_⟩)
          all_goals (simp only [hst])
          all_goals first
            | ((try simp only [List.cons_append, List.nil_append]); (repeat (first | exact FrSub.nil | (apply FrSub.cons; exact rfl) | (apply FrSub.consE; exact rfl; (focus (simp; done))))); done)
            | ((try simp only [List.cons_append, List.nil_append]); (repeat (first | exact HpSub.refl _ | (apply HpSub.consE; (repeat (first | exact P0 | apply P1 | apply PA)); first | exact rfl | (focus (simp [shB, shCells]; done))) | apply hp_appC | apply HpSub.skipX | exact hp_left | apply hp_skipApp | exact HpSub.nil)); done)
      · obtain rfl : j = xs.length := by omega
        rw [List.take_length, ← hBn]
        repeat' (first | ((with_reducible apply oq_id); first | ((with_reducible apply oq_lssF); exact rfl; exact rfl; omega) | (apply oq_fn; exact rfl; try first | exact trivial | (and_intros <;> omega))) | ((with_reducible apply tl_id); first | (with_reducible apply tl_nil) | ((with_reducible apply u_q); (iterate 4 exact rfl))) | ((with_reducible apply t_id); first | (with_reducible apply t_seq) | (apply t_region; kernel_rfl) | ((with_reducible apply t_condF); exact rfl) | (with_reducible apply t_exit)) | with_reducible apply q_thenN | with_reducible apply q_blockN | with_reducible apply q_thenE | ((with_reducible apply q_blockE); exact rfl))
        all_goals (refine ⟨(i + 1, gC, cC), (by simp only; omega), (by simp only; omega), ?_, ?_⟩ <;> ((try simp only [List.cons_append, List.nil_append]) <;> first | ((repeat (first | exact FrSub.nil | (apply FrSub.cons; exact rfl))); done) | ((repeat (first | exact HpSub.refl _ | (apply HpSub.consE; (repeat (first | exact P0 | apply P1 | apply PA)); exact rfl) | apply hp_appC | apply HpSub.skipX | exact hp_left | apply hp_skipApp | exact HpSub.nil)); done)))
    · obtain rfl : i = m := by omega
      rw [List.take_of_length_le (show ts.length ≤ i by omega), List.take_of_length_le (show L.length ≤ i by omega)]
      repeat' (first | ((with_reducible apply oq_lssF); exact rfl; exact rfl; omega) | ((with_reducible apply tl_id); first | (with_reducible apply tl_nil) | ((with_reducible apply u_q); (iterate 4 exact rfl))) | ((with_reducible apply t_id); first | (with_reducible apply t_seq) | (apply t_region; kernel_rfl) | ((with_reducible apply t_condF); exact rfl) | (with_reducible apply t_exit)) | with_reducible apply q_thenN | with_reducible apply q_thenE | ((with_reducible apply q_blockE); exact rfl))
      all_goals exact ⟨rfl, (_, _), trivial, by (repeat (first | exact FrSub.nil | (apply FrSub.cons; exact rfl))), by (repeat (first | exact HpSub.refl _ | (apply HpSub.consE; (repeat (first | exact P0 | apply P1 | apply PA)); exact rfl) | apply hp_appC | apply HpSub.skipX | exact hp_left | apply hp_skipApp | exact HpSub.nil))⟩
  rintro ⟨gB, cB⟩ -
  try dsimp only
  obtain ⟨E3, hE3⟩ : ∃ E, tiE d (l ++ addF ts L) = E := ⟨_, rfl⟩
  obtain ⟨T3, hT3⟩ : ∃ T, tiL d (l ++ addF ts L) = T := ⟨_, rfl⟩
  have hBn : (l ++ addF ts L).length ≤ 1000000 := by rw [List.length_append]; omega
  refine t_cut (ι := Option (Nat × Nat)) (fun x1 => [(1, .slice A n c), (2, .int .i64 mem), (3, .slice AT m cT), (4, .pointer (some ⟨b4, 0, none⟩)), (8, .bool false), (9, .bool true), (10, .slice (some ⟨g, 0, none⟩) m m), (19, .slice (clA x1) T3.length (clC x1)), (20, .int .i64 E3)]) (fun _ => (b4, [.int .i64 d.most, .int .i64 d.rest, .int .i64 d.win, .int .i64 d.sum], some (74, 4, 1)) :: outH g m R) (fun x1 => x1 = none → T3.length = 0) ?_ ?_
  · repeat' (first | ((with_reducible apply oq_id); first | (apply oq_fn; exact rfl; try first | exact trivial | (and_intros <;> omega)) | ((with_reducible apply oq_loadAgg); exact rfl; exact rfl)) | ((with_reducible apply tl_id); first | (with_reducible apply tl_nil) | ((with_reducible apply u_s); (iterate 3 exact rfl); (with_reducible apply os_callF (PV := TiE E3 T3) (k := 42) (hc := Try.call42)); exact rfl; exact rfl; exact fun D w1 hw1 => (by rw [← hE3, ← hT3]; exact tiredE_T d _ _ _ (l ++ addF ts L) w1 (Blk.rows (rows := (l ++ addF ts L).map shCells) (hw1.blk _ (Pick.mem (by (repeat (first | exact P0 | apply P1 | apply PA))))).2 (by simp) (sh_len _)) (fun h => by cases h) (by omega)); rintro v H' ⟨x0, hx0, rfl, rfl⟩; (try simp only [List.append_nil])) | ((with_reducible apply u_q); (iterate 4 exact rfl))) | ((with_reducible apply rd_id); first | (apply Rd.own; (repeat (first | exact P0 | apply P1 | apply PA)); exact rfl; done)) | ((with_reducible apply t_id); first | (apply t_region; kernel_rfl)) | exact Rdn.zero | apply Rdn.succ)
    all_goals exact ⟨by trivial, x0, hx0, by (repeat (first | exact FrSub.nil | (apply FrSub.cons; exact rfl))), by (repeat (first | exact HpSub.refl _ | (apply HpSub.consE; (repeat (first | exact P0 | apply P1 | apply PA)); exact rfl) | apply hp_appC | apply HpSub.skipX | exact hp_left | apply hp_skipApp | exact HpSub.nil))⟩
  rintro x3 hx3
  try dsimp only
  rw [hT3] at b6
  have hT3l : T3.length = 0 := by rw [b6]; rfl
  obtain rfl : E3 = 0 := hE3.symm.trans b5
  refine t_cut (ι := Unit) (fun _ => [(1, .slice A n c), (2, .int .i64 mem), (3, .slice AT m cT), (4, .pointer (some ⟨b4, 0, none⟩)), (8, .bool false), (9, .bool true), (10, .slice (some ⟨g, 0, none⟩) m m)]) (fun _ => (b4, [.int .i64 d.most, .int .i64 d.rest, .int .i64 d.win, .int .i64 d.sum], some (74, 4, 1)) :: outH g m R) (fun _ => True) ?_ ?_
  · repeat' (first | ((with_reducible apply oq_id); first | ((with_reducible apply oq_neqF); exact rfl; exact rfl; omega) | (apply oq_fn; exact rfl; try first | exact trivial | (and_intros <;> omega))) | ((with_reducible apply tl_id); first | (with_reducible apply tl_nil) | ((with_reducible apply u_q); (iterate 4 exact rfl))) | ((with_reducible apply t_id); first | (with_reducible apply t_seq) | (apply t_region; kernel_rfl) | ((with_reducible apply t_condF); exact rfl) | (with_reducible apply t_skip)) | with_reducible apply q_thenN)
    all_goals exact ⟨rfl, (), trivial, by (repeat (first | exact FrSub.nil | (apply FrSub.cons; exact rfl))), by (repeat (first | exact HpSub.refl _ | (apply HpSub.consE; (repeat (first | exact P0 | apply P1 | apply PA)); exact rfl) | apply hp_appC | apply HpSub.skipX | exact hp_left | apply hp_skipApp | exact HpSub.nil))⟩
  rintro ⟨⟩ -
  obtain ⟨E2, hE2⟩ : ∃ E, asgE d l (mem + 1) ts = E := ⟨_, rfl⟩
  obtain ⟨L2, hL2⟩ : ∃ L, asgL d l (mem + 1) ts = L := ⟨_, rfl⟩
  by_cases h6 : mem = 6
  · have h62 := rst_six (hE.trans h0) h6
    obtain rfl : E2 = 2 := hE2.symm.trans h62
    have hne : (2 : Int) ≠ 0 := by decide
    refine t_cut (ι := Unit) (fun _ => [(1, .slice A n c), (2, .int .i64 mem), (3, .slice AT m cT), (4, .pointer (some ⟨b4, 0, none⟩)), (8, .bool false), (9, .bool true), (10, .slice (some ⟨g, 0, none⟩) m m), (21, .slice none 0 0), (22, .int .i64 2)]) (fun _ => (b4, [.int .i64 d.most, .int .i64 d.rest, .int .i64 d.win, .int .i64 d.sum], some (74, 4, 1)) :: outH g m R) (fun _ => True) ?_ ?_
    · repeat' (first | ((with_reducible apply oq_id); first | (apply oq_fn; exact rfl; try first | exact trivial | (and_intros <;> omega)) | ((with_reducible apply oq_loadAgg); exact rfl; exact rfl)) | ((with_reducible apply tl_id); first | (with_reducible apply tl_nil) | ((with_reducible apply u_s); (iterate 3 exact rfl); (with_reducible apply os_callF (PV := AsgV 2 L2) (k := 50) (hc := Try.call50)); exact rfl; exact rfl; exact fun D w1 hw1 => (by rw [← hE2, ← hL2]; exact assign_T d A n c l (mem + 1) AT m cT ts w1 (hr.ext hw1.ext.ext) hA (hrT.ext hw1.ext.ext) (by omega) (by omega)); rintro v H' hV; obtain ⟨rfl, rfl⟩ := asgV_err hne hV; (try simp only [List.nil_append])) | ((with_reducible apply u_q); (iterate 4 exact rfl))) | ((with_reducible apply rd_id); first | (apply Rd.own; (repeat (first | exact P0 | apply P1 | apply PA)); exact rfl; done)) | ((with_reducible apply t_id); first | (apply t_region; kernel_rfl)) | exact Rdn.zero | apply Rdn.succ)
      all_goals exact ⟨by trivial, (), trivial, by (repeat (first | exact FrSub.nil | (apply FrSub.cons; exact rfl))), by (repeat (first | exact HpSub.refl _ | (apply HpSub.consE; (repeat (first | exact P0 | apply P1 | apply PA)); exact rfl) | apply hp_appC | apply HpSub.skipX | exact hp_left | apply hp_skipApp | exact HpSub.nil))⟩
    rintro ⟨⟩ -
    repeat' (first | ((with_reducible apply oq_id); first | ((with_reducible apply oq_eqlT); exact rfl; exact rfl; omega) | (apply oq_fn; exact rfl; try first | exact trivial | (and_intros <;> omega))) | ((with_reducible apply tl_id); first | (with_reducible apply tl_nil) | ((with_reducible apply u_q); (iterate 4 exact rfl))) | ((with_reducible apply t_id); first | (with_reducible apply t_seq) | (apply t_region; kernel_rfl) | ((with_reducible apply t_condT); exact rfl) | (with_reducible apply t_ret)) | with_reducible apply q_thenN | with_reducible apply q_thenR | (with_reducible apply end_ret) | exact rvs_nil | (with_reducible apply rvs_cons) | ((with_reducible apply rv_tmp); exact rfl))
    all_goals rfl
  obtain ⟨h20, hlex⟩ := rst_more (hE.trans h0) h6
  rw [hL, hL2] at hlex
  obtain ⟨_, d2, d3, _⟩ := rst_law (by omega) h20
  rw [hL2] at d2 d3
  have h2e : E2 = 0 := hE2.symm.trans h20
  have hL2m : L2.length = m := by omega
  refine t_cut (ι := Nat × List Row) (fun z => [(1, .slice A n c), (2, .int .i64 mem), (3, .slice AT m cT), (4, .pointer (some ⟨b4, 0, none⟩)), (8, .bool false), (9, .bool true), (10, .slice (some ⟨g, 0, none⟩) m m), (21, .slice (some ⟨z.1, 0, none⟩) m m), (22, .int .i64 0)]) (fun z => outH z.1 m z.2 ++ outH g m R) (fun z => (∀ r ∈ z.2, LrOk r) ∧ z.2.map Prod.fst = L2) ?_ ?_
  · repeat' (first | ((with_reducible apply oq_id); first | (apply oq_fn; exact rfl; try first | exact trivial | (and_intros <;> omega)) | ((with_reducible apply oq_loadAgg); exact rfl; exact rfl)) | ((with_reducible apply tl_id); first | (with_reducible apply tl_nil) | ((with_reducible apply u_s); (iterate 3 exact rfl); (with_reducible apply os_callF (PV := AsgV E2 L2) (k := 50) (hc := Try.call50)); exact rfl; exact rfl; exact fun D w1 hw1 => (by rw [← hE2, ← hL2]; exact assign_T d A n c l (mem + 1) AT m cT ts w1 (hr.ext hw1.ext.ext) hA (hrT.ext hw1.ext.ext) (by omega) (by omega)); rintro v H' hV; obtain ⟨g2, R2, hRR, rfl, rfl⟩ := asgV_ok h2e hV; (rw [hL2m])) | ((with_reducible apply u_q); (iterate 4 exact rfl))) | ((with_reducible apply rd_id); first | (apply Rd.own; (repeat (first | exact P0 | apply P1 | apply PA)); exact rfl; done)) | ((with_reducible apply t_id); first | (apply t_region; kernel_rfl)) | exact Rdn.zero | apply Rdn.succ)
    all_goals exact ⟨by trivial, (g2, R2), hRR, by (repeat (first | exact FrSub.nil | (apply FrSub.cons; exact rfl))), by exact hp_mid _ _ _⟩
  rintro ⟨g2, R2⟩ ⟨hSk, hSL⟩
  simp only at hSk hSL ⊢
  have hs1 : HpSub (outH g2 m R2 ++ outH g m R) (outH g m R) := hp_skipApp (HpSub.refl _)
  have hs2 : HpSub (outH g2 m R2 ++ outH g m R) (outH g2 m R2) := hp_leftX _ _
  obtain ⟨HH, hHH⟩ : ∃ H, outH g2 m R2 ++ outH g m R = H := ⟨_, rfl⟩
  rw [hHH] at hs1 hs2 ⊢
  refine t_cut (ι := Unit) (fun _ => [(8, .bool false), (9, .bool true), (10, .slice (some ⟨g, 0, none⟩) m m), (21, .slice (some ⟨g2, 0, none⟩) m m), (22, .int .i64 0)]) (fun _ => HH) (fun _ => True) ?_ ?_
  · repeat' (first | ((with_reducible apply oq_id); first | ((with_reducible apply oq_eqlF); exact rfl; exact rfl; omega) | (apply oq_fn; exact rfl; try first | exact trivial | (and_intros <;> omega))) | ((with_reducible apply tl_id); first | (with_reducible apply tl_nil) | ((with_reducible apply u_q); (iterate 4 exact rfl))) | ((with_reducible apply t_id); first | (with_reducible apply t_seq) | (apply t_region; kernel_rfl) | ((with_reducible apply t_condF); exact rfl) | (with_reducible apply t_skip)) | with_reducible apply q_thenN)
    all_goals exact ⟨rfl, (), trivial, by (repeat (first | exact FrSub.nil | (apply FrSub.cons; exact rfl))), by (repeat (first | exact HpSub.refl _ | (apply HpSub.consE; (repeat (first | exact P0 | apply P1 | apply PA)); exact rfl) | apply hp_appC | apply HpSub.skipX | exact hp_left | apply hp_skipApp | exact HpSub.nil))⟩
  rintro ⟨⟩ -
  refine t_cut (ι := Unit) (fun _ => [(8, .bool false), (9, .bool true), (10, .slice (some ⟨g, 0, none⟩) m m), (21, .slice (some ⟨g2, 0, none⟩) m m)]) (fun _ => HH) (fun _ => True) ?_ ?_
  · repeat' (first | ((with_reducible apply oq_id); first | ((with_reducible apply oq_neqF); exact rfl; exact rfl; omega) | (apply oq_fn; exact rfl; try first | exact trivial | (and_intros <;> omega))) | ((with_reducible apply tl_id); first | (with_reducible apply tl_nil) | ((with_reducible apply u_q); (iterate 4 exact rfl))) | ((with_reducible apply t_id); first | (with_reducible apply t_seq) | (apply t_region; kernel_rfl) | ((with_reducible apply t_condF); exact rfl) | (with_reducible apply t_skip)) | with_reducible apply q_thenN)
    all_goals exact ⟨rfl, (), trivial, by (repeat (first | exact FrSub.nil | (apply FrSub.cons; exact rfl))), by (repeat (first | exact HpSub.refl _ | (apply HpSub.consE; (repeat (first | exact P0 | apply P1 | apply PA)); exact rfl) | apply hp_appC | apply HpSub.skipX | exact hp_left | apply hp_skipApp | exact HpSub.nil))⟩
  rintro ⟨⟩ -
  repeat' (first | ((with_reducible apply oq_id); first | (apply oq_fn; exact rfl; try first | exact trivial | (and_intros <;> omega))) | ((with_reducible apply tl_id); first | (with_reducible apply tl_nil) | ((with_reducible apply u_q); (iterate 4 exact rfl))) | ((with_reducible apply t_id); first | (with_reducible apply t_seq) | (apply t_region; kernel_rfl) | (with_reducible apply t_block)) | with_reducible apply q_thenN)
  apply t_loopK (GH := []) (ι := Nat) [8, 9, 10, 21, 189] (fun i => [(190, .int .i64 (i : Nat))]) (fun _ => HH) (fun i => i ≤ m ∧ L2.take i = L.take i) (fun i => m - i) (0)
  (repeat (first | exact KeepF.nil | (apply KeepF.cons; exact rfl) | apply KeepF.skip))
  (repeat (first | exact FrSub.nil | (apply FrSub.cons; exact rfl)))
  ((try simp only [List.append_nil]); (repeat (first | exact HpSub.refl _ | (apply HpSub.consE; (repeat (first | exact P0 | apply P1 | apply PA)); exact rfl) | apply hp_appC | apply HpSub.skipX | exact hp_left | apply hp_skipApp | exact HpSub.nil)))
  · exact ⟨Nat.zero_le _, rfl⟩
  rintro i ⟨hi, heq⟩
  try simp only [List.cons_append, List.nil_append]
  simp only [List.append_nil]
  by_cases hlt : i < m
  · obtain ⟨xs, hxs⟩ : ∃ xs, L[i]? = some xs := ⟨_, List.getElem?_eq_getElem (by omega)⟩
    obtain ⟨ys, hys⟩ : ∃ ys, L2[i]? = some ys := ⟨_, List.getElem?_eq_getElem (by omega)⟩
    obtain ⟨x, hx⟩ : ∃ x, ts[i]? = some x := ⟨_, List.getElem?_eq_getElem (by omega)⟩
    obtain ⟨ro, hRi⟩ := row_of hRL hxs
    obtain ⟨so, hSi⟩ := row_of hSL hys
    have hxl := (b3 i x xs hx hxs).1
    have hyl := (d3 i x ys hx hys).1
    have hx2 := a3 x (List.mem_of_getElem? hx)
    unfold trOk at hx2
    repeat' (first | ((with_reducible apply oq_id); first | (focus ((with_reducible apply oq_indexAddrN); (iterate 4 exact rfl); omega)) | ((with_reducible apply oq_lssT); exact rfl; exact rfl; omega) | (apply oq_fn; exact rfl; try first | exact trivial | (and_intros <;> omega)) | ((with_reducible apply oq_load); exact rfl; exact rfl)) | ((with_reducible apply tl_id); first | (with_reducible apply tl_nil) | ((with_reducible apply u_q); (iterate 4 exact rfl))) | ((with_reducible apply rd_id); first | (focus ((apply (rd_out hRi)); exact hs1))) | ((with_reducible apply t_id); first | (with_reducible apply t_seq) | (apply t_region; kernel_rfl) | ((with_reducible apply t_condT); exact rfl) | (with_reducible apply t_skip) | (with_reducible apply t_block)) | with_reducible apply q_thenN)
    apply t_loopK (GH := []) (ι := Nat) [8, 9, 10, 21, 23, 189, 190, 196, 197] (fun i => [(198, .int .i64 (i : Nat))]) (fun _ => HH) (fun j => j ≤ xs.length ∧ ys.take j = xs.take j) (fun j => xs.length - j) (0)
    (repeat (first | exact KeepF.nil | (apply KeepF.cons; exact rfl) | apply KeepF.skip))
    (repeat (first | exact FrSub.nil | (apply FrSub.cons; exact rfl)))
    ((try simp only [List.append_nil]); (repeat (first | exact HpSub.refl _ | (apply HpSub.consE; (repeat (first | exact P0 | apply P1 | apply PA)); exact rfl) | apply hp_appC | apply HpSub.skipX | exact hp_left | apply hp_skipApp | exact HpSub.nil)))
    · exact ⟨Nat.zero_le _, rfl⟩
    rintro j ⟨hj, hje⟩
    try simp only [List.cons_append, List.nil_append]
    try simp only [List.append_nil]
    by_cases hjl : j < xs.length
    · obtain ⟨p, hp⟩ : ∃ p, xs[j]? = some p := ⟨_, List.getElem?_eq_getElem hjl⟩
      obtain ⟨q, hq, hqp⟩ := hlex.at heq hys hxs hje hp
      obtain ⟨rg, rc, rfl⟩ := row_nn hRk hRi (by omega)
      obtain ⟨sg, sc, rfl⟩ := row_nn hSk hSi (by omega)
      simp only [clA, clC]
      by_cases hlt2 : q < p
      · repeat' (first | ((with_reducible apply oq_id); first | (focus ((with_reducible apply oq_indexAddrN); (iterate 4 exact rfl); omega)) | ((with_reducible apply oq_lssT); exact rfl; exact rfl; omega) | ((with_reducible apply oq_geqF); exact rfl; exact rfl; omega) | ((with_reducible apply oq_gtrF); exact rfl; exact rfl; omega) | (apply oq_fn; exact rfl; try first | exact trivial | (and_intros <;> omega)) | ((with_reducible apply oq_load); exact rfl; exact rfl)) | ((with_reducible apply tl_id); first | (with_reducible apply tl_nil) | ((with_reducible apply u_q); (iterate 4 exact rfl))) | ((with_reducible apply gx_id); first | (with_reducible apply v_nil) | ((with_reducible apply v_q); (iterate 3 exact rfl))) | ((with_reducible apply rd_id); first | (focus ((apply (rd_out hRi)); exact hs1)) | (focus ((apply (rd_out hSi)); exact hs2)) | (focus ((apply (rd_row hRi hp)); exact hs1)) | (focus ((apply (rd_row hSi hq)); exact hs2))) | ((with_reducible apply t_id); first | (with_reducible apply t_seq) | (apply t_region; kernel_rfl) | (apply t_drawn; kernel_rfl; decide +kernel; try simp only [List.append_eq, List.cons_append, List.nil_append]) | ((with_reducible apply t_condT); exact rfl) | ((with_reducible apply t_condF); exact rfl) | (with_reducible apply t_ret) | (with_reducible apply t_skip) | (with_reducible apply t_block)) | with_reducible apply q_thenN | with_reducible apply q_thenR | with_reducible apply q_blockR | (with_reducible apply end_ret) | exact rvs_nil | (with_reducible apply rvs_cons) | ((with_reducible apply rv_tmp); exact rfl))
        all_goals rfl
      · have hte : ys.take (j + 1) = xs.take (j + 1) := by
          rw [List.take_add_one, List.take_add_one, hp, hq, hje, show q = p by omega]
        repeat' (first | ((with_reducible apply oq_id); first | (focus ((with_reducible apply oq_indexAddrN); (iterate 4 exact rfl); omega)) | ((with_reducible apply oq_lssT); exact rfl; exact rfl; omega) | ((with_reducible apply oq_lssF); exact rfl; exact rfl; omega) | ((with_reducible apply oq_geqF); exact rfl; exact rfl; omega) | ((with_reducible apply oq_gtrF); exact rfl; exact rfl; omega) | (apply oq_fn; exact rfl; try first | exact trivial | (and_intros <;> omega)) | ((with_reducible apply oq_load); exact rfl; exact rfl)) | ((with_reducible apply tl_id); first | (with_reducible apply tl_nil) | ((with_reducible apply u_q); (iterate 4 exact rfl))) | ((with_reducible apply gx_id); first | (with_reducible apply v_nil) | ((with_reducible apply v_q); (iterate 3 exact rfl))) | ((with_reducible apply rd_id); first | (focus ((apply (rd_out hRi)); exact hs1)) | (focus ((apply (rd_out hSi)); exact hs2)) | (focus ((apply (rd_row hRi hp)); exact hs1)) | (focus ((apply (rd_row hSi hq)); exact hs2))) | ((with_reducible apply t_id); first | (with_reducible apply t_seq) | (apply t_region; kernel_rfl) | (apply t_drawn; kernel_rfl; decide +kernel; try simp only [List.append_eq, List.cons_append, List.nil_append]) | ((with_reducible apply t_condT); exact rfl) | ((with_reducible apply t_condF); exact rfl) | (with_reducible apply t_skip) | (with_reducible apply t_block)) | with_reducible apply q_thenN | with_reducible apply q_blockN)
        all_goals (refine ⟨j + 1, ⟨(by omega), hte⟩, (by omega), ?_, ?_⟩ <;> ((try simp only [List.cons_append, List.nil_append]) <;> first | ((repeat (first | exact FrSub.nil | (apply FrSub.cons; exact rfl))); done) | ((repeat (first | exact HpSub.refl _ | (apply HpSub.consE; (repeat (first | exact P0 | apply P1 | apply PA)); exact rfl) | apply hp_appC | apply HpSub.skipX | exact hp_left | apply hp_skipApp | exact HpSub.nil)); done)))
    · obtain rfl : j = xs.length := by omega
      have hyx : ys = xs := by
        rw [List.take_length, List.take_of_length_le (by omega)] at hje
        exact hje
      have hte : L2.take (i + 1) = L.take (i + 1) := by rw [List.take_add_one, List.take_add_one, hxs, hys, heq, hyx]
      repeat' (first | ((with_reducible apply oq_id); first | ((with_reducible apply oq_lssF); exact rfl; exact rfl; omega) | (apply oq_fn; exact rfl; try first | exact trivial | (and_intros <;> omega))) | ((with_reducible apply tl_id); first | (with_reducible apply tl_nil) | ((with_reducible apply u_q); (iterate 4 exact rfl))) | ((with_reducible apply t_id); first | (with_reducible apply t_seq) | (apply t_region; kernel_rfl) | ((with_reducible apply t_condF); exact rfl) | (with_reducible apply t_exit)) | with_reducible apply q_thenN | with_reducible apply q_blockN | with_reducible apply q_thenE | ((with_reducible apply q_blockE); exact rfl))
      all_goals (refine ⟨i + 1, ⟨(by omega), hte⟩, (by omega), ?_, ?_⟩ <;> ((try simp only [List.cons_append, List.nil_append]) <;> first | ((repeat (first | exact FrSub.nil | (apply FrSub.cons; exact rfl))); done) | ((repeat (first | exact HpSub.refl _ | (apply HpSub.consE; (repeat (first | exact P0 | apply P1 | apply PA)); exact rfl) | apply hp_appC | apply HpSub.skipX | exact hp_left | apply hp_skipApp | exact HpSub.nil)); done)))
  · repeat' (first | ((with_reducible apply oq_id); first | ((with_reducible apply oq_lssF); exact rfl; exact rfl; omega) | (apply oq_fn; exact rfl; try first | exact trivial | (and_intros <;> omega))) | ((with_reducible apply tl_id); first | (with_reducible apply tl_nil) | ((with_reducible apply u_q); (iterate 4 exact rfl))) | ((with_reducible apply t_id); first | (with_reducible apply t_seq) | (apply t_region; kernel_rfl) | ((with_reducible apply t_condF); exact rfl) | (with_reducible apply t_ret) | (with_reducible apply t_exit)) | with_reducible apply q_thenN | with_reducible apply q_thenE | ((with_reducible apply q_blockE); exact rfl) | (with_reducible apply end_ret) | exact rvs_nil | (with_reducible apply rvs_cons) | ((with_reducible apply rv_tmp); exact rfl))
    all_goals rfl
end Go.Proofs.Ytmlmgipngbndgaa
namespace Go.Proofs.Ytmlmgipngbndgaa
open Go.ChangeShapes Go.WideShapes Go.ChangeAt Go.RowKit
theorem Try.own : ownKnob Try.prog.godebug = none := by kernel_rfl
theorem Try.laidOut : laidOutB Try.prog = true := by kernel_rfl
section
variable {H : Type} {enc : TypeId × Value → H} {P : Program}
theorem trodAll_ext (hl : laidOutB P = true) {W W' : World} (hb : Ext W W') : ∀ {ts : List TypeId} {vs : List Value} {ds : List (DataW H)} {p : List MemPlace}, (ts.all fun t => P.readableRec t && decide (t < P.types.size)) = true →
    DataW.TrodAll enc P W 0 (fun _ => true) true ts vs ds p → (∀ x ∈ p, x.block < W.heap.size) → DataW.TrodAll enc P W' 0 (fun b => decide (b < W.heap.size)) true ts vs ds p
  | [], vs, ds, p, _, h, _ => by
    obtain ⟨rfl, rfl, rfl⟩ := trodAll_nil h
    exact trodAll_mk0
  | t :: ts, vs, ds, p, ht, h, hlt => by
    obtain ⟨v, vs', d, ds', p0, q0, rfl, rfl, rfl, h1, h2⟩ := trodAll_cons h
    simp only [List.all_cons, Bool.and_eq_true, decide_eq_true_eq] at ht
    exact ⟨p0, q0, Below.trod hl ht.1.1 ht.1.2 h1 hb (fun x hx => hlt x (List.mem_append_left _ hx)), trodAll_ext hl hb ht.2 h2 (fun x hx => hlt x (List.mem_append_right _ hx)), rfl⟩
end
end Go.Proofs.Ytmlmgipngbndgaa
