/- Small functions of the statements; the air between heights, told plainly. -/
import Derived.Test.YtalidommelefaaaPkD
import Derived.Test.YtalidommelefaaaPkC
import Derived.Test.YtalidommelefaaaPkH
import Derived.Test.YtalidommelefaaaPkE
import Derived.Test.YtalidommelefaaaPkJ
/- The reference's check of a sounding. -/
namespace Go.Proofs.Ytalidommelefaaa
open Go.RowKit
attribute [local irreducible] OQ OS OX Rd T TL GX GL AL AI RV wpG SAny Calls
set_option maxRecDepth 100000
set_option maxHeartbeats 2000000
set_option linter.unusedVariables false
set_option linter.unusedSimpArgs false
theorem sound9B_no {l : List Lv} {k : Nat} {x : Lv} (hx : l[k]? = some x) (h : (stepOk (l.map Lv.h) k && lvOk x) = false) : soundB l = false := by
  have hk := (List.getElem?_eq_some_iff.1 hx).1
  unfold soundB climbsV
  cases h1 : stepOk (l.map Lv.h) k with
  | false => rw [all_range_no (by simpa using hk) h1]; rfl
  | true =>
    rw [h1, Bool.true_and] at h
    have : l.all lvOk = false := by
      rw [Bool.eq_false_iff, Ne, List.all_eq_true]
      intro h2
      have := h2 x (List.mem_of_getElem? hx)
      rw [h] at this; cases this
    rw [this, Bool.and_false]
theorem sound9B_yes {l : List Lv} {n : Nat} (hl : l.length = n) (h2 : 2 ≤ n ∧ n ≤ 16) (h : ∀ j, j < n → stepOk (l.map Lv.h) j = true ∧ ∀ x, l[j]? = some x → lvOk x = true) : soundB l = true := by
  unfold soundB
  rw [climbs_yes hl (fun j hj => (h j hj).1), Bool.and_eq_true, decide_eq_true_eq]
  refine ⟨by omega, List.all_eq_true.2 fun x hx => ?_⟩
  obtain ⟨i, hi, rfl⟩ := List.getElem_of_mem hx
  exact (h i (by omega)).2 _ (List.getElem?_eq_getElem hi)
theorem sound9ing_calls (A : Option Addr) (n c : Nat) (l : List Lv) (w : World) (hr : RdS w 5 A n (l.map lvCells)) (hn : n ≤ 1000000) :
    Calls Try.prog 94 #[.slice A n c] w fun e w' => e = .returned (.bool (soundB l)) ∧ Ext w w' := by
  have hl := hr.len
  simp only [List.length_map] at hl
  obtain ⟨q0, h0⟩ : ∃ q, decide (2 ≤ (n : Int) ∧ (n : Int) ≤ 16) = q := ⟨_, rfl⟩
  have W0 := fun w1 => within_q _ _ _ h0 w1
  cases q0 with
  | false =>
    have hs : soundB l = false := by
      unfold soundB climbsV
      have : decide (2 ≤ (l.map Lv.h).length ∧ (l.map Lv.h).length ≤ 16) = false := by simp [hl] at h0 ⊢; omega
      rw [this, Bool.and_false, Bool.false_and]
    rw [hs]
    refine enterQ (c := cx w 52) Try.func94 rfl rfl rfl rfl ?_
    repeat' (first | ((with_reducible apply oq_id); first | (apply oq_fn; exact rfl; first | exact trivial | (refine ⟨?_, ?_⟩ <;> omega) | (refine ⟨?_, ?_, ?_⟩ <;> omega) | omega | skip) | ((with_reducible apply oq_call (k := 73) (hc := Try.call73)); exact rfl; exact rfl; exact fun D w1 hw1 => W0 w1)) | ((with_reducible apply tl_id); first | ((with_reducible apply tl_nil)) | ((with_reducible apply u_q); exact rfl; exact rfl; exact rfl; exact rfl)) | ((with_reducible apply t_id); first | ((with_reducible apply t_seq)) | (apply t_region; kernel_rfl) | ((with_reducible apply t_condT); exact rfl) | ((with_reducible apply t_ret))) | with_reducible apply q_thenN | with_reducible apply q_thenR | ((with_reducible apply end_ret)) | exact rvs_nil | ((with_reducible apply rvs_cons)) | ((with_reducible apply rv_tmp); exact rfl))
    all_goals rfl
  | true =>
  have hn2 : 2 ≤ n ∧ n ≤ 16 := by simp at h0; omega
  refine enterQ (c := cx w 52) Try.func94 rfl rfl rfl rfl ?_
  repeat' (first | ((with_reducible apply oq_id); first | (apply oq_fn; exact rfl; first | exact trivial | (refine ⟨?_, ?_⟩ <;> omega) | (refine ⟨?_, ?_, ?_⟩ <;> omega) | omega | skip) | ((with_reducible apply oq_call (k := 73) (hc := Try.call73)); exact rfl; exact rfl; exact fun D w1 hw1 => W0 w1)) | ((with_reducible apply tl_id); first | ((with_reducible apply tl_nil)) | ((with_reducible apply u_q); exact rfl; exact rfl; exact rfl; exact rfl)) | ((with_reducible apply t_id); first | ((with_reducible apply t_seq)) | (apply t_region; kernel_rfl) | ((with_reducible apply t_condF); exact rfl) | ((with_reducible apply t_skip)) | ((with_reducible apply t_block))) | with_reducible apply q_thenN)
  apply t_loopK (ι := Nat) [0] (fun k => [(3, .int .i64 (k : Int))]) (fun _ => []) (fun k => k ≤ n ∧ ∀ j, j < k → stepOk (l.map Lv.h) j = true ∧ ∀ x, l[j]? = some x → lvOk x = true) (fun k => n - k) (0)
  (repeat (first | exact KeepF.nil | (apply KeepF.cons; exact rfl) | apply KeepF.skip))
  (repeat (first | exact FrSub.nil | (apply FrSub.cons; exact rfl)))
  (repeat (first | exact HpSub.refl _ | (apply HpSub.consE; (repeat (first | exact P0 | apply P1)); exact rfl) | exact HpSub.nil))
  · exact ⟨by omega, fun j hj => by omega⟩
  rintro k ⟨hk, hkp⟩
  try simp only [List.cons_append, List.nil_append]
  by_cases hlt : k < n
  · obtain ⟨b, o, x, rfl, _, hx, c0, c1, c2, c3, c4⟩ := lv_read hr hlt
    obtain ⟨q1, h1⟩ : ∃ q, decide (-500 ≤ x.h ∧ x.h ≤ 9000) = q := ⟨_, rfl⟩
    obtain ⟨q3, h3⟩ : ∃ q, decide (x.plo ≤ x.phi ∧ 1000 ≤ x.plo ∧ x.phi ≤ 12000) = q := ⟨_, rfl⟩
    obtain ⟨q4, h4⟩ : ∃ q, decide (x.tlo ≤ x.thi ∧ 1500 ≤ x.tlo ∧ x.thi ≤ 3500) = q := ⟨_, rfl⟩
    have W1 := fun w1 => within_q _ _ _ h1 w1
    have I1 := fun w1 => in_q _ _ _ _ h3 w1
    have I2 := fun w1 => in_q _ _ _ _ h4 w1
    have hlv : lvOk x = (q3 && q4) := by unfold lvOk; rw [h3, h4]
    cases k with
    | zero =>
      have hst : stepOk (l.map Lv.h) 0 = q1 := by rw [stepOk_zero (map_h hx), h1]
      repeat' (first | ((with_reducible apply oq_id); first | (focus ((with_reducible apply oq_indexAddrN); exact rfl; exact rfl; exact rfl; exact rfl; omega)) | (apply oq_fn; exact rfl; first | exact trivial | (refine ⟨?_, ?_⟩ <;> omega) | (refine ⟨?_, ?_, ?_⟩ <;> omega) | omega | skip) | ((with_reducible apply oq_load); exact rfl; exact rfl) | ((with_reducible apply oq_loadAgg); exact rfl; exact rfl) | ((with_reducible apply oq_call (k := 73) (hc := Try.call73)); exact rfl; exact rfl; exact fun D w1 hw1 => W1 w1) | ((with_reducible apply oq_call (k := 74) (hc := Try.call74)); exact rfl; exact rfl; exact fun D w1 hw1 => I1 w1) | ((with_reducible apply oq_call (k := 74) (hc := Try.call74)); exact rfl; exact rfl; exact fun D w1 hw1 => I2 w1)) | ((with_reducible apply tl_id); first | ((with_reducible apply tl_nil)) | ((with_reducible apply u_q); exact rfl; exact rfl; exact rfl; exact rfl) | ((with_reducible apply u_s0); exact rfl; exact rfl) | ((with_reducible apply u_s); exact rfl; exact rfl; exact rfl)) | ((with_reducible apply gx_id); first | ((with_reducible apply v_nil)) | ((with_reducible apply v_q); exact rfl; exact rfl; exact rfl) | ((with_reducible apply v_skip); exact rfl; exact rfl; exact rfl) | ((with_reducible apply v_split); exact rfl; exact rfl; all_goals first | intro hp | skip)) | ((with_reducible apply os_id); first | ((with_reducible apply os_x); exact rfl) | ((with_reducible apply os_storeAgg); exact rfl; exact rfl; exact rfl; exact rfl; exact rfl)) | ((with_reducible apply ox_id); first | ((with_reducible apply ox_alloc); exact rfl; intro _)) | ((with_reducible apply rd_id); first | (apply Rd.own; (repeat (first | exact P0 | apply P1)); exact rfl; done) | (apply Rd.old; (first | (with_reducible assumption) | exact c0 | exact c1 | exact c2 | exact c3 | exact c4 | exact d0 | exact d1 | exact d2 | exact d3 | exact d4); first | exact List.not_mem_nil)) | ((with_reducible apply t_id); first | ((with_reducible apply t_seq)) | (apply t_region; kernel_rfl) | (apply t_drawn; kernel_rfl; decide +kernel) | ((with_reducible apply t_condT); exact rfl) | ((with_reducible apply t_condD); exact rfl; all_goals first | (intro hp; try (exfalso; omega)) | skip) | ((with_reducible apply t_cond); exact rfl; all_goals first | intro hp | skip) | ((with_reducible apply t_ret)) | ((with_reducible apply t_skip)) | ((with_reducible apply t_block))) | with_reducible apply q_thenN | with_reducible apply q_thenR | with_reducible apply q_blockR | with_reducible apply q_blockN | exact P0 | exact Rdn.zero | apply Rdn.succ | ((with_reducible apply Norm.nil); exact rfl) | ((with_reducible apply Norm.cons); exact rfl) | ((with_reducible apply end_ret)) | exact rvs_nil | ((with_reducible apply rvs_cons)) | ((with_reducible apply rv_tmp); exact rfl) | exact Nat.le_of_ble_eq_true rfl)
      all_goals first
        | (rw [sound9B_no hx (by rw [hst, hlv]; simp_all)]; rfl)
        | (refine ⟨1, ⟨by omega, fun j hj => ?_⟩, by omega, ?_, ?_⟩
           · obtain rfl : j = 0 := by omega
             refine ⟨by rw [hst]; simp_all, fun y hy => ?_⟩
             rw [hx] at hy; rw [← Option.some.inj hy, hlv]; simp_all
           · try simp only [List.cons_append, List.nil_append]
             (repeat' (first | exact FrSub.nil | (apply FrSub.cons; exact rfl)))
           · try simp only [List.cons_append, List.nil_append]
             (repeat' (first | exact HpSub.nil)))
    | succ j =>
      obtain ⟨b', o', y, hA, _, hy, d0, d1, d2, d3, d4⟩ := lv_read hr (show j < n by omega)
      obtain ⟨rfl, rfl⟩ : b' = b ∧ o' = o := by simpa using hA.symm
      have hyb := stepOk_h (map_h hy) (hkp j (by omega)).1
      obtain ⟨q2, h2⟩ : ∃ q, decide (1 ≤ x.h - y.h ∧ x.h - y.h ≤ 2000) = q := ⟨_, rfl⟩
      have W2 := fun w1 => within_q _ _ _ h2 w1
      have hst : stepOk (l.map Lv.h) (j + 1) = (q1 && q2) := by rw [stepOk_succ (map_h hx) (map_h hy), h1, h2]
      cases q1 with
      | false =>
        repeat' (first | ((with_reducible apply oq_id); first | (focus ((with_reducible apply oq_indexAddrN); exact rfl; exact rfl; exact rfl; exact rfl; omega)) | (apply oq_fn; exact rfl; first | exact trivial | (refine ⟨?_, ?_⟩ <;> omega) | (refine ⟨?_, ?_, ?_⟩ <;> omega) | omega | skip) | ((with_reducible apply oq_load); exact rfl; exact rfl) | ((with_reducible apply oq_loadAgg); exact rfl; exact rfl) | ((with_reducible apply oq_call (k := 73) (hc := Try.call73)); exact rfl; exact rfl; exact fun D w1 hw1 => W1 w1)) | ((with_reducible apply tl_id); first | ((with_reducible apply tl_nil)) | ((with_reducible apply u_q); exact rfl; exact rfl; exact rfl; exact rfl) | ((with_reducible apply u_s0); exact rfl; exact rfl) | ((with_reducible apply u_s); exact rfl; exact rfl; exact rfl)) | ((with_reducible apply gx_id); first | ((with_reducible apply v_nil)) | ((with_reducible apply v_q); exact rfl; exact rfl; exact rfl) | ((with_reducible apply v_skip); exact rfl; exact rfl; exact rfl)) | ((with_reducible apply os_id); first | ((with_reducible apply os_x); exact rfl) | ((with_reducible apply os_storeAgg); exact rfl; exact rfl; exact rfl; exact rfl; exact rfl)) | ((with_reducible apply ox_id); first | ((with_reducible apply ox_alloc); exact rfl; intro _)) | ((with_reducible apply rd_id); first | (apply Rd.own; (repeat (first | exact P0 | apply P1)); exact rfl; done) | (apply Rd.old; (first | (with_reducible assumption) | exact c0 | exact c1 | exact c2 | exact c3 | exact c4 | exact d0 | exact d1 | exact d2 | exact d3 | exact d4); first | exact List.not_mem_nil)) | ((with_reducible apply t_id); first | ((with_reducible apply t_seq)) | (apply t_region; kernel_rfl) | (apply t_drawn; kernel_rfl; decide +kernel) | ((with_reducible apply t_condT); exact rfl) | ((with_reducible apply t_condD); exact rfl; all_goals first | (intro hp; try (exfalso; omega)) | skip) | ((with_reducible apply t_ret)) | ((with_reducible apply t_skip)) | ((with_reducible apply t_block))) | with_reducible apply q_thenN | with_reducible apply q_thenR | with_reducible apply q_blockR | exact P0 | exact Rdn.zero | apply Rdn.succ | ((with_reducible apply Norm.nil); exact rfl) | ((with_reducible apply Norm.cons); exact rfl) | ((with_reducible apply end_ret)) | exact rvs_nil | ((with_reducible apply rvs_cons)) | ((with_reducible apply rv_tmp); exact rfl) | exact Nat.le_of_ble_eq_true rfl)
        all_goals (rw [sound9B_no hx (by rw [hst, hlv]; simp_all)]; rfl)
      | true =>
        have hxb : -500 ≤ x.h ∧ x.h ≤ 9000 := by simpa using h1
        repeat' (first | ((with_reducible apply oq_id); first | (focus ((with_reducible apply oq_indexAddrN); exact rfl; exact rfl; exact rfl; exact rfl; omega)) | ((with_reducible apply oq_subE (k := (j : Int))); exact rfl; exact rfl; omega) | (apply oq_fn; exact rfl; first | exact trivial | (refine ⟨?_, ?_⟩ <;> omega) | (refine ⟨?_, ?_, ?_⟩ <;> omega) | omega | skip) | ((with_reducible apply oq_load); exact rfl; exact rfl) | ((with_reducible apply oq_loadAgg); exact rfl; exact rfl) | ((with_reducible apply oq_call (k := 73) (hc := Try.call73)); exact rfl; exact rfl; exact fun D w1 hw1 => W1 w1) | ((with_reducible apply oq_call (k := 73) (hc := Try.call73)); exact rfl; exact rfl; exact fun D w1 hw1 => W2 w1) | ((with_reducible apply oq_call (k := 74) (hc := Try.call74)); exact rfl; exact rfl; exact fun D w1 hw1 => I1 w1) | ((with_reducible apply oq_call (k := 74) (hc := Try.call74)); exact rfl; exact rfl; exact fun D w1 hw1 => I2 w1)) | ((with_reducible apply tl_id); first | ((with_reducible apply tl_nil)) | ((with_reducible apply u_q); exact rfl; exact rfl; exact rfl; exact rfl) | ((with_reducible apply u_s0); exact rfl; exact rfl) | ((with_reducible apply u_s); exact rfl; exact rfl; exact rfl)) | ((with_reducible apply gx_id); first | ((with_reducible apply v_nil)) | ((with_reducible apply v_q); exact rfl; exact rfl; exact rfl) | ((with_reducible apply v_skip); exact rfl; exact rfl; exact rfl) | ((with_reducible apply v_splitD); exact rfl; exact rfl; all_goals first | (intro hp; try (exfalso; omega)) | skip) | ((with_reducible apply v_split); exact rfl; exact rfl; all_goals first | intro hp | skip)) | ((with_reducible apply os_id); first | ((with_reducible apply os_x); exact rfl) | ((with_reducible apply os_storeAgg); exact rfl; exact rfl; exact rfl; exact rfl; exact rfl)) | ((with_reducible apply ox_id); first | ((with_reducible apply ox_alloc); exact rfl; intro _)) | ((with_reducible apply rd_id); first | (apply Rd.own; (repeat (first | exact P0 | apply P1)); exact rfl; done) | (apply Rd.old; (first | (with_reducible assumption) | exact c0 | exact c1 | exact c2 | exact c3 | exact c4 | exact d0 | exact d1 | exact d2 | exact d3 | exact d4); first | exact List.not_mem_nil)) | ((with_reducible apply t_id); first | ((with_reducible apply t_seq)) | (apply t_region; kernel_rfl) | (apply t_drawn; kernel_rfl; decide +kernel) | ((with_reducible apply t_condT); exact rfl) | ((with_reducible apply t_condD); exact rfl; all_goals first | (intro hp; try (exfalso; omega)) | skip) | ((with_reducible apply t_cond); exact rfl; all_goals first | intro hp | skip) | ((with_reducible apply t_ret)) | ((with_reducible apply t_skip)) | ((with_reducible apply t_block))) | with_reducible apply q_thenN | with_reducible apply q_thenR | with_reducible apply q_blockR | with_reducible apply q_blockN | exact P0 | exact Rdn.zero | apply Rdn.succ | ((with_reducible apply Norm.nil); exact rfl) | ((with_reducible apply Norm.cons); exact rfl) | ((with_reducible apply end_ret)) | exact rvs_nil | ((with_reducible apply rvs_cons)) | ((with_reducible apply rv_tmp); exact rfl) | exact Nat.le_of_ble_eq_true rfl)
        all_goals first
          | (rw [sound9B_no hx (by rw [hst, hlv]; simp_all)]; rfl)
          | (refine ⟨j + 1 + 1, ⟨by omega, fun i hi => ?_⟩, by omega, ?_, ?_⟩
             · rcases Nat.lt_or_ge i (j + 1) with h | h
               · exact hkp i h
               · obtain rfl : i = j + 1 := by omega
                 refine ⟨by rw [hst]; simp_all, fun z hz => ?_⟩
                 rw [hx] at hz; rw [← Option.some.inj hz, hlv]; simp_all
             · try simp only [List.cons_append, List.nil_append]
               (repeat' (first | exact FrSub.nil | (apply FrSub.cons; exact rfl)))
             · try simp only [List.cons_append, List.nil_append]
               (repeat' (first | exact HpSub.nil)))
  · repeat' (first | ((with_reducible apply oq_id); first | (apply oq_fn; exact rfl; first | exact trivial | (refine ⟨?_, ?_⟩ <;> omega) | (refine ⟨?_, ?_, ?_⟩ <;> omega) | omega | skip)) | ((with_reducible apply tl_id); first | ((with_reducible apply tl_nil)) | ((with_reducible apply u_q); exact rfl; exact rfl; exact rfl; exact rfl)) | ((with_reducible apply t_id); first | ((with_reducible apply t_seq)) | (apply t_region; kernel_rfl) | ((with_reducible apply t_condD); exact rfl; all_goals first | (intro hp; try (exfalso; omega)) | skip) | ((with_reducible apply t_ret)) | ((with_reducible apply t_exit))) | with_reducible apply q_thenN | with_reducible apply q_thenE | ((with_reducible apply q_blockE); exact rfl) | ((with_reducible apply end_ret)) | exact rvs_nil | ((with_reducible apply rvs_cons)) | ((with_reducible apply rv_tmp); exact rfl))
    rw [sound9B_yes hl hn2 (fun j hj => hkp j (by omega))]; rfl


theorem refCheck39_calls (A : Option Addr) (n c : Nat) (l : List Lv) (w : World) (hr : RdS w 5 A n (l.map lvCells)) (hn : n ≤ 1000000) :
    Calls Try.prog 39 #[.slice A n c] w fun e w' => e = .returned (.int .i64 (if soundB l then 0 else 20)) ∧ Ext w w' := by
  have HV := fun w1 (hx : Ext w w1) => sound9ing_calls A n c l w1 (hr.ext hx) hn
  generalize soundB l = q at HV
  refine enterQ (c := cx w 6) Try.func39 rfl rfl rfl rfl ?_
  repeat' (first | ((with_reducible apply oq_id); first | (apply oq_fn; exact rfl; first | exact trivial | (refine ⟨?_, ?_⟩ <;> omega) | (refine ⟨?_, ?_, ?_⟩ <;> omega) | omega | skip) | ((with_reducible apply oq_call (k := 94) (hc := Try.call94)); exact rfl; exact rfl; exact fun D w1 hw1 => HV w1 hw1.ext.ext)) | ((with_reducible apply tl_id); first | ((with_reducible apply tl_nil)) | ((with_reducible apply u_q); exact rfl; exact rfl; exact rfl; exact rfl) | ((with_reducible apply u_s0); exact rfl; exact rfl) | ((with_reducible apply u_s); exact rfl; exact rfl; exact rfl)) | ((with_reducible apply t_id); first | ((with_reducible apply t_seq)) | (apply t_region; kernel_rfl) | ((with_reducible apply t_condT); exact rfl) | ((with_reducible apply t_condF); exact rfl) | ((with_reducible apply t_condD); exact rfl; all_goals first | (intro hp; try (exfalso; omega)) | skip) | ((with_reducible apply t_condN); exact rfl; all_goals first | (intro hp; try (exfalso; omega)) | skip) | ((with_reducible apply t_cond); exact rfl; all_goals first | intro hp | skip) | ((with_reducible apply t_ret)) | ((with_reducible apply t_skip))) | with_reducible apply q_thenN | with_reducible apply q_thenR | exact P0 | ((with_reducible apply P1)) | ((with_reducible apply Norm.nil); exact rfl) | ((with_reducible apply Norm.cons); exact rfl) | ((with_reducible apply end_ret)) | ((with_reducible apply end_normal)) | exact rvs_nil | ((with_reducible apply rvs_cons)) | ((with_reducible apply rv_tmp); exact rfl) | exact Nat.le_of_ble_eq_true rfl | exact (rfl : (_ : Bool) = true) | omega | (intro _ _; with_reducible apply tl_id) | (intro _; with_reducible apply tl_id) | (intro _ _; with_reducible apply al_id) | (intro _; with_reducible apply al_id))
  all_goals (cases q <;> first | rfl | simp_all)
end Go.Proofs.Ytalidommelefaaa
/- Small functions of the statements: is a number in a span; do two pressures agree; the temperature between two heights. -/
namespace Go.Proofs.Ytalidommelefaaa
open Go.RowKit
attribute [local irreducible] OQ OS OX Rd T TL GX GL AL AI RV wpG SAny Calls
set_option maxRecDepth 100000
set_option maxHeartbeats 2000000
set_option linter.unusedVariables false
set_option linter.unusedSimpArgs false


theorem holds_calls (a b n : Int) (w : World) : Calls Try.prog 49 #[.agg #[.int .i64 a, .int .i64 b], .int .i64 n] w fun e w' => e = .returned (.bool (decide (a ≤ n ∧ n ≤ b))) ∧ Ext w w' := by
  refine enterQ (c := cx w 15) Try.func49 rfl rfl rfl rfl ?_
  repeat' (first | ((with_reducible apply oq_id); first | (apply oq_fn; exact rfl; first | exact trivial | (refine ⟨?_, ?_⟩ <;> omega) | (refine ⟨?_, ?_, ?_⟩ <;> omega) | omega | skip) | ((with_reducible apply oq_load); exact rfl; exact rfl) | ((with_reducible apply oq_loadAgg); exact rfl; exact rfl)) | ((with_reducible apply tl_id); first | ((with_reducible apply tl_nil)) | ((with_reducible apply u_q); exact rfl; exact rfl; exact rfl; exact rfl) | ((with_reducible apply u_s); exact rfl; exact rfl; exact rfl) | ((with_reducible apply u_skip); exact rfl; exact rfl; exact rfl) | ((with_reducible apply u_splitD); exact rfl; exact rfl; all_goals first | (intro hp; try (exfalso; omega)) | skip) | ((with_reducible apply u_splitN); exact rfl; exact rfl; all_goals first | (intro hp; try (exfalso; omega)) | skip) | ((with_reducible apply u_split); exact rfl; exact rfl; all_goals first | intro hp | skip)) | ((with_reducible apply os_id); first | ((with_reducible apply os_x); exact rfl) | ((with_reducible apply os_append (hk := app_ok164)); exact rfl; exact rfl; (repeat (first | exact P0 | apply P1))) | ((with_reducible apply os_appendNil (hk := app_ok164)); exact rfl; exact rfl)) | ((with_reducible apply ox_id); first | ((with_reducible apply ox_box); exact rfl; exact rfl; intro _) | ((with_reducible apply ox_boxAgg); exact rfl; intro _)) | ((with_reducible apply rd_id); first | (apply Rd.own; (repeat (first | exact P0 | apply P1)); exact rfl; done) | (apply Rd.old; (first | (with_reducible assumption)); first | exact List.not_mem_nil)) | ((with_reducible apply t_id); first | ((with_reducible apply t_seq)) | (apply t_region; kernel_rfl) | ((with_reducible apply t_ret))) | with_reducible apply q_thenN | with_reducible apply q_thenR | exact P0 | ((with_reducible apply P1)) | exact Rdn.zero | apply Rdn.succ | ((with_reducible apply Norm.nil); exact rfl) | ((with_reducible apply Norm.cons); exact rfl) | ((with_reducible apply end_ret)) | ((with_reducible apply end_normal)) | exact rvs_nil | ((with_reducible apply rvs_cons)) | ((with_reducible apply rv_tmp); exact rfl) | exact Nat.le_of_ble_eq_true rfl | exact (rfl : (_ : Bool) = true) | omega | (intro _ _; with_reducible apply tl_id) | (intro _; with_reducible apply tl_id) | (intro _ _; with_reducible apply al_id) | (intro _; with_reducible apply al_id))
  · have e : decide (a ≤ n ∧ n ≤ b) = decide (n ≤ b) := by rw [decide_eq_decide]; omega
    rw [e]; rfl
  · have e : decide (a ≤ n ∧ n ≤ b) = false := by rw [decide_eq_false_iff_not]; omega
    rw [e]; rfl
theorem holds_yes (a b n : Int) (h : a ≤ n ∧ n ≤ b) (w : World) : Calls Try.prog 49 #[.agg #[.int .i64 a, .int .i64 b], .int .i64 n] w fun e w' => e = .returned (.bool true) ∧ Ext w w' := by
  have := holds_calls a b n w
  rw [decide_eq_true h] at this
  exact this
theorem holds_no (a b n : Int) (h : ¬ (a ≤ n ∧ n ≤ b)) (w : World) : Calls Try.prog 49 #[.agg #[.int .i64 a, .int .i64 b], .int .i64 n] w fun e w' => e = .returned (.bool false) ∧ Ext w w' := by
  have := holds_calls a b n w
  rw [decide_eq_false h] at this
  exact this
/-- Two pressures, the second one so many metres higher, agree with each other in a temperature. -/
def Falls (low high climb : Int) (t : Int × Int) : Prop := high * (1000000 * t.2 + 341632 * climb) ≤ low * (1000000 * t.2) ∧ low * (1000000 * t.1 - 341632 * climb) ≤ high * (1000000 * t.1)
instance (low high climb : Int) (t : Int × Int) : Decidable (Falls low high climb t) := by unfold Falls; infer_instance
theorem falls_calls (low high climb : Int) (t : Int × Int) (hl : 0 ≤ low ∧ low ≤ 20000) (hh : 0 ≤ high ∧ high ≤ 20000) (hc : 0 ≤ climb ∧ climb ≤ 10000) (h0 : 1500 ≤ t.1 ∧ t.1 ≤ 3500) (h1 : 1500 ≤ t.2 ∧ t.2 ≤ 3500) (w : World) :
    Calls Try.prog 50 #[.int .i64 low, .int .i64 high, .int .i64 climb, .agg #[.int .i64 t.1, .int .i64 t.2]] w fun e w' => e = .returned (.bool (decide (Falls low high climb t))) ∧ Ext w w' := by
  obtain ⟨t0, t1⟩ := t
  simp only at h0 h1
  have m1 : 0 ≤ high * (1000000 * t1 + 341632 * climb) ∧ high * (1000000 * t1 + 341632 * climb) ≤ 20000 * 6916320000 := ⟨Int.mul_nonneg hh.1 (by omega), Int.mul_le_mul hh.2 (by omega) (by omega) (by omega)⟩
  have m2 : 0 ≤ low * (1000000 * t1) ∧ low * (1000000 * t1) ≤ 20000 * 3500000000 := ⟨Int.mul_nonneg hl.1 (by omega), Int.mul_le_mul hl.2 (by omega) (by omega) (by omega)⟩
  have m3 : 0 ≤ high * (1000000 * t0) ∧ high * (1000000 * t0) ≤ 20000 * 3500000000 := ⟨Int.mul_nonneg hh.1 (by omega), Int.mul_le_mul hh.2 (by omega) (by omega) (by omega)⟩
  have m4 : -(20000 * 3500000000) ≤ low * (1000000 * t0 - 341632 * climb) ∧ low * (1000000 * t0 - 341632 * climb) ≤ 20000 * 3500000000 := by
    rw [Int.mul_sub]
    have a1 : 0 ≤ low * (1000000 * t0) ∧ low * (1000000 * t0) ≤ 20000 * 3500000000 := ⟨Int.mul_nonneg hl.1 (by omega), Int.mul_le_mul hl.2 (by omega) (by omega) (by omega)⟩
    have a2 : 0 ≤ low * (341632 * climb) ∧ low * (341632 * climb) ≤ 20000 * 3416320000 := ⟨Int.mul_nonneg hl.1 (by omega), Int.mul_le_mul hl.2 (by omega) (by omega) (by omega)⟩
    omega
  have hF : Falls low high climb (t0, t1) ↔ high * (1000000 * t1 + 341632 * climb) ≤ low * (1000000 * t1) ∧ low * (1000000 * t0 - 341632 * climb) ≤ high * (1000000 * t0) := Iff.rfl
  refine enterQ (c := cx w 39) Try.func50 rfl rfl rfl rfl ?_
  repeat' (first | ((with_reducible apply oq_id); first | (apply oq_fn; exact rfl; first | exact trivial | (refine ⟨?_, ?_⟩ <;> omega) | (refine ⟨?_, ?_, ?_⟩ <;> omega) | omega | skip) | ((with_reducible apply oq_load); exact rfl; exact rfl) | ((with_reducible apply oq_loadAgg); exact rfl; exact rfl)) | ((with_reducible apply tl_id); first | ((with_reducible apply tl_nil)) | ((with_reducible apply u_q); exact rfl; exact rfl; exact rfl; exact rfl) | ((with_reducible apply u_s); exact rfl; exact rfl; exact rfl) | ((with_reducible apply u_skip); exact rfl; exact rfl; exact rfl) | ((with_reducible apply u_splitD); exact rfl; exact rfl; all_goals first | (intro hp; try (exfalso; omega)) | skip) | ((with_reducible apply u_splitN); exact rfl; exact rfl; all_goals first | (intro hp; try (exfalso; omega)) | skip) | ((with_reducible apply u_split); exact rfl; exact rfl; all_goals first | intro hp | skip)) | ((with_reducible apply gx_id); first | ((with_reducible apply v_nil)) | ((with_reducible apply v_q); exact rfl; exact rfl; exact rfl)) | ((with_reducible apply os_id); first | ((with_reducible apply os_x); exact rfl) | ((with_reducible apply os_append (hk := app_ok164)); exact rfl; exact rfl; (repeat (first | exact P0 | apply P1))) | ((with_reducible apply os_appendNil (hk := app_ok164)); exact rfl; exact rfl)) | ((with_reducible apply ox_id); first | ((with_reducible apply ox_box); exact rfl; exact rfl; intro _) | ((with_reducible apply ox_boxAgg); exact rfl; intro _)) | ((with_reducible apply rd_id); first | (apply Rd.own; (repeat (first | exact P0 | apply P1)); exact rfl; done) | (apply Rd.old; (first | (with_reducible assumption)); first | exact List.not_mem_nil | exact m1 | exact m2 | exact m3 | exact m4)) | ((with_reducible apply t_id); first | ((with_reducible apply t_seq)) | (apply t_region; kernel_rfl) | (apply t_drawn; kernel_rfl; decide +kernel; try simp only [List.append_eq, List.cons_append, List.nil_append]) | ((with_reducible apply t_ret))) | with_reducible apply q_thenN | with_reducible apply q_thenR | exact P0 | ((with_reducible apply P1)) | exact Rdn.zero | apply Rdn.succ | ((with_reducible apply Norm.nil); exact rfl) | ((with_reducible apply Norm.cons); exact rfl) | ((with_reducible apply end_ret)) | ((with_reducible apply end_normal)) | exact rvs_nil | ((with_reducible apply rvs_cons)) | ((with_reducible apply rv_tmp); exact rfl) | exact Nat.le_of_ble_eq_true rfl | exact (rfl : (_ : Bool) = true) | omega | (intro _ _; with_reducible apply tl_id) | (intro _; with_reducible apply tl_id) | (intro _ _; with_reducible apply al_id) | (intro _; with_reducible apply al_id))
  · have e : decide (Falls low high climb (t0, t1)) = decide (low * (1000000 * t0 - 341632 * climb) ≤ high * (1000000 * t0)) := by rw [decide_eq_decide, hF]; omega
    rw [e]; rfl
  · have e : decide (Falls low high climb (t0, t1)) = false := by rw [decide_eq_false_iff_not, hF]; omega
    rw [e]; rfl
theorem falls_yes {low high climb : Int} {t : Int × Int} {q : Bool} (hq : decide (Falls low high climb t) = q) (hl : 0 ≤ low ∧ low ≤ 20000) (hh : 0 ≤ high ∧ high ≤ 20000) (hc : 0 ≤ climb ∧ climb ≤ 10000) (h0 : 1500 ≤ t.1 ∧ t.1 ≤ 3500) (h1 : 1500 ≤ t.2 ∧ t.2 ≤ 3500) (w : World) :
    Calls Try.prog 50 #[.int .i64 low, .int .i64 high, .int .i64 climb, .agg #[.int .i64 t.1, .int .i64 t.2]] w fun e w' => e = .returned (.bool q) ∧ Ext w w' := hq ▸ falls_calls low high climb t hl hh hc h0 h1 w


def T5Fr : Nat × Option (Nat × Nat) → Fr
  | (k, none) => [(7, .slice none 0 0), (14, .int .i64 (k : Int))]
  | (k, some (g, cap)) => [(7, .slice (some ⟨g, 0, none⟩) k cap), (14, .int .i64 (k : Int))]
def T5Hp (l : List Lv) : Nat × Option (Nat × Nat) → Hp
  | (_, none) => []
  | (k, some (g, cap)) => [(g, ((tabOf (l.take k)).map knCells).flatten, some (166, 3, cap))]
def T5Pi (n : Nat) : Nat × Option (Nat × Nat) → Prop
  | (k, none) => k = 0
  | (k, some _) => 0 < k ∧ k ≤ n
theorem tab5_rows {l : List Lv} {n g : Nat} {tg : Tg} {w0 : World} {M : Ms} {H H' : Hp} {w : World} (hl : l.length = n) (h : Has w0 M H w) (p : Pick H g ((tabOf l).map knCells).flatten tg H') : RdS w 3 (some ⟨g, 0, none⟩) n ((tabOf l).map knCells) :=
  (h.blk _ p.mem).2.rows (k := 3) (by simp [tabOf, hl]) (by simp only [List.mem_map]; rintro r ⟨z, _, rfl⟩; rfl)
theorem temper_calls (A : Option Addr) (n c : Nat) (l : List Lv) (p q : Int) (w : World) (hr : RdS w 5 A n (l.map lvCells)) (hs : Snd l) (hlo : ∀ a, l[0]? = some a → a.h ≤ p) (hpq : p ≤ q) (hhi : ∀ a, l[l.length - 1]? = some a → q ≤ a.h) :
    Calls Try.prog 51 #[.slice A n c, .int .i64 p, .int .i64 q] w fun e w' => e = .returned (.agg #[.int .i64 (valV (tabOf l) p q).1, .int .i64 (valV (tabOf l) p q).2]) ∧ Ext w w' := by
  have hl := hr.len
  simp only [List.length_map] at hl
  have n2 := hs.n2
  have n16 := hs.n16
  have hn0 : 0 < n := by omega
  refine enterQ (c := cx w 36) Try.func51 rfl rfl rfl rfl ?_
  repeat' (first | ((with_reducible apply oq_id); first | (apply oq_fn; exact rfl; first | exact trivial | (refine ⟨?_, ?_⟩ <;> omega) | (refine ⟨?_, ?_, ?_⟩ <;> omega) | omega | skip) | ((with_reducible apply oq_load); exact rfl; exact rfl) | ((with_reducible apply oq_loadAgg); exact rfl; exact rfl) | ((with_reducible apply oq_build); exact rfl; exact rfl; exact rfl)) | ((with_reducible apply tl_id); first | ((with_reducible apply tl_nil)) | ((with_reducible apply u_q); exact rfl; exact rfl; exact rfl; exact rfl) | ((with_reducible apply u_s0); exact rfl; exact rfl) | ((with_reducible apply u_s); exact rfl; exact rfl; exact rfl)) | ((with_reducible apply os_id); first | ((with_reducible apply os_x); exact rfl) | ((with_reducible apply os_store); exact rfl; exact rfl; exact rfl; exact rfl) | ((with_reducible apply os_storeAgg); exact rfl; exact rfl; exact rfl; exact rfl; exact rfl) | ((with_reducible apply os_append (hk := app_ok164)); exact rfl; exact rfl; (repeat (first | exact P0 | apply P1))) | ((with_reducible apply os_appendNil (hk := app_ok164)); exact rfl; exact rfl)) | ((with_reducible apply ox_id); first | ((with_reducible apply ox_alloc); exact rfl; intro _) | ((with_reducible apply ox_buildSlice1); exact rfl; exact rfl; exact rfl; exact rfl; exact rfl; exact rfl; intro _) | ((with_reducible apply ox_buildSlice2); exact rfl; exact rfl; exact rfl; exact rfl; exact rfl; exact rfl; intro _) | ((with_reducible apply ox_buildSlice); exact rfl; exact rfl; exact rfl; exact rfl)) | ((with_reducible apply rd_id); first | (apply Rd.own; (repeat (first | exact P0 | apply P1)); exact rfl; done) | (apply Rd.old; (first | (with_reducible assumption) | exact c0 | exact c1 | exact c2 | exact c3 | exact c4); first | exact List.not_mem_nil)) | ((with_reducible apply t_id); first | ((with_reducible apply t_seq)) | (apply t_region; kernel_rfl) | ((with_reducible apply t_condT); exact rfl) | ((with_reducible apply t_condF); exact rfl) | ((with_reducible apply t_condD); exact rfl; all_goals first | (intro hp; try (exfalso; omega)) | skip) | ((with_reducible apply t_condN); exact rfl; all_goals first | (intro hp; try (exfalso; omega)) | skip) | ((with_reducible apply t_cond); exact rfl; all_goals first | intro hp | skip) | ((with_reducible apply t_ret)) | ((with_reducible apply t_skip)) | ((with_reducible apply t_exit)) | ((with_reducible apply t_block))) | with_reducible apply q_thenN | with_reducible apply q_thenR | with_reducible apply q_blockR | with_reducible apply q_blockN | with_reducible apply q_thenE | ((with_reducible apply q_blockE); exact rfl) | ((with_reducible apply q_blockO); exact rfl) | exact P0 | ((with_reducible apply P1)) | exact Rdn.zero | apply Rdn.succ | ((with_reducible apply Norm.nil); exact rfl) | ((with_reducible apply Norm.cons); exact rfl) | ((with_reducible apply end_ret)) | ((with_reducible apply end_normal)) | exact rvs_nil | ((with_reducible apply rvs_cons)) | ((with_reducible apply rv_cell); exact rfl; exact rfl) | ((with_reducible apply rv_cellAgg); exact rfl; exact rfl) | exact Nat.le_of_ble_eq_true rfl | exact (rfl : (_ : Bool) = true) | omega | (intro _ _; with_reducible apply tl_id) | (intro _; with_reducible apply tl_id) | (intro _ _; with_reducible apply al_id) | (intro _; with_reducible apply al_id))
  apply t_loopK (ι := (Nat × Option (Nat × Nat))) [1, 2, 6, 10, 12, 13, 27, 28, 29, 30, 31, 32, 33, 34, 35] (T5Fr) (T5Hp l) (T5Pi n) (fun i => n - i.1) ((0, none))
  (repeat (first | exact KeepF.nil | (apply KeepF.cons; exact rfl) | apply KeepF.skip))
  (repeat (first | exact FrSub.nil | (apply FrSub.cons; exact rfl)))
  (repeat (first | exact HpSub.refl _ | (apply HpSub.consE; (repeat (first | exact P0 | apply P1)); exact rfl) | exact HpSub.nil))
  · exact rfl
  rintro ⟨k, i⟩ hi
  dsimp only
  rcases i with _ | ⟨g, cap⟩
  · obtain rfl : k = 0 := hi
    simp only [T5Fr, T5Hp, List.cons_append, List.nil_append]
    obtain ⟨b, o, x, rfl, _, hx, c0, c1, c2, c3, c4⟩ := lv_read hr hn0
    repeat' (first | ((with_reducible apply oq_id); first | (focus ((with_reducible apply oq_indexAddrN); exact rfl; exact rfl; exact rfl; exact rfl; omega)) | (apply oq_fn; exact rfl; first | exact trivial | (refine ⟨?_, ?_⟩ <;> omega) | (refine ⟨?_, ?_, ?_⟩ <;> omega) | omega | skip) | ((with_reducible apply oq_load); exact rfl; exact rfl) | ((with_reducible apply oq_loadAgg); exact rfl; exact rfl) | ((with_reducible apply oq_build); exact rfl; exact rfl; exact rfl)) | ((with_reducible apply tl_id); first | ((with_reducible apply tl_nil)) | ((with_reducible apply u_q); exact rfl; exact rfl; exact rfl; exact rfl) | ((with_reducible apply u_s0); exact rfl; exact rfl) | ((with_reducible apply u_s); exact rfl; exact rfl; exact rfl)) | ((with_reducible apply os_id); first | ((with_reducible apply os_x); exact rfl) | ((with_reducible apply os_store); exact rfl; exact rfl; exact rfl; exact rfl) | ((with_reducible apply os_storeAgg); exact rfl; exact rfl; exact rfl; exact rfl; exact rfl) | ((with_reducible apply os_append (hk := app_ok164)); exact rfl; exact rfl; (repeat (first | exact P0 | apply P1))) | ((with_reducible apply os_appendNil (hk := app_ok164)); exact rfl; exact rfl)) | ((with_reducible apply ox_id); first | ((with_reducible apply ox_alloc); exact rfl; intro _) | ((with_reducible apply ox_buildSlice1); exact rfl; exact rfl; exact rfl; exact rfl; exact rfl; exact rfl; intro _) | ((with_reducible apply ox_buildSlice2); exact rfl; exact rfl; exact rfl; exact rfl; exact rfl; exact rfl; intro _) | ((with_reducible apply ox_buildSlice); exact rfl; exact rfl; exact rfl; exact rfl)) | ((with_reducible apply rd_id); first | (apply Rd.own; (repeat (first | exact P0 | apply P1)); exact rfl; done) | (apply Rd.old; (first | (with_reducible assumption) | exact c0 | exact c1 | exact c2 | exact c3 | exact c4); first | exact List.not_mem_nil)) | ((with_reducible apply t_id); first | ((with_reducible apply t_seq)) | (apply t_region; kernel_rfl) | ((with_reducible apply t_condT); exact rfl) | ((with_reducible apply t_condF); exact rfl) | ((with_reducible apply t_condD); exact rfl; all_goals first | (intro hp; try (exfalso; omega)) | skip) | ((with_reducible apply t_condN); exact rfl; all_goals first | (intro hp; try (exfalso; omega)) | skip) | ((with_reducible apply t_cond); exact rfl; all_goals first | intro hp | skip) | ((with_reducible apply t_ret)) | ((with_reducible apply t_skip)) | ((with_reducible apply t_exit)) | ((with_reducible apply t_block))) | with_reducible apply q_thenN | with_reducible apply q_thenR | with_reducible apply q_blockR | with_reducible apply q_blockN | with_reducible apply q_thenE | ((with_reducible apply q_blockE); exact rfl) | ((with_reducible apply q_blockO); exact rfl) | exact P0 | ((with_reducible apply P1)) | exact Rdn.zero | apply Rdn.succ | ((with_reducible apply Norm.nil); exact rfl) | ((with_reducible apply Norm.cons); exact rfl) | ((with_reducible apply end_ret)) | ((with_reducible apply end_normal)) | exact rvs_nil | ((with_reducible apply rvs_cons)) | ((with_reducible apply rv_cell); exact rfl; exact rfl) | ((with_reducible apply rv_cellAgg); exact rfl; exact rfl) | exact Nat.le_of_ble_eq_true rfl | exact (rfl : (_ : Bool) = true) | omega | (intro _ _; with_reducible apply tl_id) | (intro _; with_reducible apply tl_id) | (intro _ _; with_reducible apply al_id) | (intro _; with_reducible apply al_id))
    rename_i bs bg cg
    refine ⟨(1, some (bg, cg)), ⟨by omega, by omega⟩, by simp only; omega, ?_, ?_⟩
    · simp only [T5Fr, List.cons_append, List.nil_append]
      (repeat (first | exact FrSub.nil | (apply FrSub.cons; exact rfl)))
    · simp only [T5Hp, List.cons_append, List.nil_append]
      (repeat (first | exact HpSub.refl _ | (apply HpSub.consE; (repeat (first | exact P0 | apply P1)); first | exact rfl | ((rw [tab_snoc hx]; rfl))) | exact HpSub.nil))
  · obtain ⟨h0, hk⟩ : 0 < k ∧ k ≤ n := hi
    simp only [T5Fr, T5Hp, List.cons_append, List.nil_append]
    by_cases hlt : k < n
    · obtain ⟨b, o, x, rfl, _, hx, c0, c1, c2, c3, c4⟩ := lv_read hr hlt
      have hC : ((tabOf (l.take k)).map knCells).flatten.length = k * 3 := by
        rw [flat3]; unfold tabOf; rw [List.length_map, List.length_take]; omega
      repeat' (first | ((with_reducible apply oq_id); first | (focus ((with_reducible apply oq_indexAddrN); exact rfl; exact rfl; exact rfl; exact rfl; omega)) | (apply oq_fn; exact rfl; first | exact trivial | (refine ⟨?_, ?_⟩ <;> omega) | (refine ⟨?_, ?_, ?_⟩ <;> omega) | omega | skip) | ((with_reducible apply oq_load); exact rfl; exact rfl) | ((with_reducible apply oq_loadAgg); exact rfl; exact rfl) | ((with_reducible apply oq_build); exact rfl; exact rfl; exact rfl)) | ((with_reducible apply tl_id); first | ((with_reducible apply tl_nil)) | ((with_reducible apply u_q); exact rfl; exact rfl; exact rfl; exact rfl) | ((with_reducible apply u_s0); exact rfl; exact rfl) | ((with_reducible apply u_s); exact rfl; exact rfl; exact rfl)) | ((with_reducible apply os_id); first | ((with_reducible apply os_x); exact rfl) | ((with_reducible apply os_store); exact rfl; exact rfl; exact rfl; exact rfl) | ((with_reducible apply os_storeAgg); exact rfl; exact rfl; exact rfl; exact rfl; exact rfl) | ((with_reducible apply os_append (hk := app_ok164)); exact rfl; exact rfl; (repeat (first | exact P0 | apply P1))) | ((with_reducible apply os_appendNil (hk := app_ok164)); exact rfl; exact rfl)) | ((with_reducible apply ox_id); first | ((with_reducible apply ox_alloc); exact rfl; intro _) | ((with_reducible apply ox_buildSlice1); exact rfl; exact rfl; exact rfl; exact rfl; exact rfl; exact rfl; intro _) | ((with_reducible apply ox_buildSlice2); exact rfl; exact rfl; exact rfl; exact rfl; exact rfl; exact rfl; intro _) | ((with_reducible apply ox_buildSlice); exact rfl; exact rfl; exact rfl; exact rfl)) | ((with_reducible apply rd_id); first | (apply Rd.own; (repeat (first | exact P0 | apply P1)); exact rfl; done) | (apply Rd.old; (first | (with_reducible assumption) | exact c0 | exact c1 | exact c2 | exact c3 | exact c4); first | exact List.not_mem_nil)) | ((with_reducible apply t_id); first | ((with_reducible apply t_seq)) | (apply t_region; kernel_rfl) | ((with_reducible apply t_condT); exact rfl) | ((with_reducible apply t_condF); exact rfl) | ((with_reducible apply t_condD); exact rfl; all_goals first | (intro hp; try (exfalso; omega)) | skip) | ((with_reducible apply t_condN); exact rfl; all_goals first | (intro hp; try (exfalso; omega)) | skip) | ((with_reducible apply t_cond); exact rfl; all_goals first | intro hp | skip) | ((with_reducible apply t_ret)) | ((with_reducible apply t_skip)) | ((with_reducible apply t_exit)) | ((with_reducible apply t_block))) | with_reducible apply q_thenN | with_reducible apply q_thenR | with_reducible apply q_blockR | with_reducible apply q_blockN | with_reducible apply q_thenE | ((with_reducible apply q_blockE); exact rfl) | ((with_reducible apply q_blockO); exact rfl) | exact P0 | ((with_reducible apply P1)) | exact Rdn.zero | apply Rdn.succ | ((with_reducible apply Norm.nil); exact rfl) | ((with_reducible apply Norm.cons); exact rfl) | ((with_reducible apply end_ret)) | ((with_reducible apply end_normal)) | exact rvs_nil | ((with_reducible apply rvs_cons)) | ((with_reducible apply rv_cell); exact rfl; exact rfl) | ((with_reducible apply rv_cellAgg); exact rfl; exact rfl) | exact hC | exact Nat.le_of_ble_eq_true rfl | exact (rfl : (_ : Bool) = true) | omega | (intro _ _; with_reducible apply tl_id) | (intro _; with_reducible apply tl_id) | (intro _ _; with_reducible apply al_id) | (intro _; with_reducible apply al_id))
      rename_i bs bg cg
      refine ⟨(k + 1, some (bg, cg)), ⟨by omega, by omega⟩, by simp only; omega, ?_, ?_⟩
      · simp only [T5Fr, List.cons_append, List.nil_append]
        (repeat (first | exact FrSub.nil | (apply FrSub.cons; exact rfl)))
      · simp only [T5Hp, List.cons_append, List.nil_append]
        (repeat (first | exact HpSub.refl _ | (apply HpSub.consE; (repeat (first | exact P0 | apply P1)); first | exact rfl | ((rw [tab_snoc hx]))) | exact HpSub.nil))
    · obtain rfl : k = n := by omega
      rw [List.take_of_length_le (by omega)]
      repeat' (first | ((with_reducible apply oq_id); first | (apply oq_fn; exact rfl; first | exact trivial | (refine ⟨?_, ?_⟩ <;> omega) | (refine ⟨?_, ?_, ?_⟩ <;> omega) | omega | skip) | ((with_reducible apply oq_load); exact rfl; exact rfl) | ((with_reducible apply oq_loadAgg); exact rfl; exact rfl) | ((with_reducible apply oq_call (k := 52) (hc := Try.call52)); exact rfl; exact rfl; exact fun D w1 hw1 => span_calls _ _ w1) | ((with_reducible apply oq_call (k := 119) (hc := Try.call119)); exact rfl; exact rfl; exact fun D w1 hw1 => value_calls _ _ _ (tabOf l) _ _ w1 (tab5_rows hl hw1 (by (repeat (first | exact P0 | apply P1)))) hs.tab (fun a ha => (by obtain ⟨z, hz, rfl⟩ := tab_at ha; exact hlo z hz)) hpq (fun a ha => (by obtain ⟨z, hz, rfl⟩ := tab_at ha; exact hhi z (by rw [hl]; exact hz)))) | ((with_reducible apply oq_build); exact rfl; exact rfl; exact rfl)) | ((with_reducible apply tl_id); first | ((with_reducible apply tl_nil)) | ((with_reducible apply u_q); exact rfl; exact rfl; exact rfl; exact rfl) | ((with_reducible apply u_s0); exact rfl; exact rfl) | ((with_reducible apply u_s); exact rfl; exact rfl; exact rfl)) | ((with_reducible apply os_id); first | ((with_reducible apply os_x); exact rfl) | ((with_reducible apply os_store); exact rfl; exact rfl; exact rfl; exact rfl) | ((with_reducible apply os_storeAgg); exact rfl; exact rfl; exact rfl; exact rfl; exact rfl) | ((with_reducible apply os_append (hk := app_ok164)); exact rfl; exact rfl; (repeat (first | exact P0 | apply P1))) | ((with_reducible apply os_appendNil (hk := app_ok164)); exact rfl; exact rfl)) | ((with_reducible apply ox_id); first | ((with_reducible apply ox_alloc); exact rfl; intro _) | ((with_reducible apply ox_buildSlice1); exact rfl; exact rfl; exact rfl; exact rfl; exact rfl; exact rfl; intro _) | ((with_reducible apply ox_buildSlice2); exact rfl; exact rfl; exact rfl; exact rfl; exact rfl; exact rfl; intro _) | ((with_reducible apply ox_buildSlice); exact rfl; exact rfl; exact rfl; exact rfl)) | ((with_reducible apply rd_id); first | (apply Rd.own; (repeat (first | exact P0 | apply P1)); exact rfl; done) | (apply Rd.old; (first | (with_reducible assumption) | exact c0 | exact c1 | exact c2 | exact c3 | exact c4); first | exact List.not_mem_nil)) | ((with_reducible apply t_id); first | ((with_reducible apply t_seq)) | (apply t_region; kernel_rfl) | ((with_reducible apply t_condT); exact rfl) | ((with_reducible apply t_condF); exact rfl) | ((with_reducible apply t_condD); exact rfl; all_goals first | (intro hp; try (exfalso; omega)) | skip) | ((with_reducible apply t_condN); exact rfl; all_goals first | (intro hp; try (exfalso; omega)) | skip) | ((with_reducible apply t_cond); exact rfl; all_goals first | intro hp | skip) | ((with_reducible apply t_ret)) | ((with_reducible apply t_skip)) | ((with_reducible apply t_exit)) | ((with_reducible apply t_block))) | with_reducible apply q_thenN | with_reducible apply q_thenR | with_reducible apply q_blockR | with_reducible apply q_blockN | with_reducible apply q_thenE | ((with_reducible apply q_blockE); exact rfl) | ((with_reducible apply q_blockO); exact rfl) | exact P0 | ((with_reducible apply P1)) | exact Rdn.zero | apply Rdn.succ | ((with_reducible apply Norm.nil); exact rfl) | ((with_reducible apply Norm.cons); exact rfl) | ((with_reducible apply end_ret)) | ((with_reducible apply end_normal)) | exact rvs_nil | ((with_reducible apply rvs_cons)) | ((with_reducible apply rv_cell); exact rfl; exact rfl) | ((with_reducible apply rv_cellAgg); exact rfl; exact rfl) | exact Nat.le_of_ble_eq_true rfl | exact (rfl : (_ : Bool) = true) | omega | (intro _ _; with_reducible apply tl_id) | (intro _; with_reducible apply tl_id) | (intro _ _; with_reducible apply al_id) | (intro _; with_reducible apply al_id))
      all_goals rfl

end Go.Proofs.Ytalidommelefaaa
/- The air between heights: what At and Where tell is one within the other. Plain laws. -/
namespace Go.Proofs.Ytalidommelefaaa
set_option linter.unusedVariables false
set_option linter.unusedSimpArgs false

theorem lin_mid {d u m v q : Int} (hq : 0 < q) (h1 : u ≤ m) (h2 : m ≤ v) : min (u * d / q) (v * d / q) ≤ m * d / q ∧ m * d / q ≤ max (u * d / q) (v * d / q) := by
  rcases Int.le_total 0 d with h | h
  · have a := ediv_mono hq (Int.mul_le_mul_of_nonneg_right h1 h)
    have b := ediv_mono hq (Int.mul_le_mul_of_nonneg_right h2 h)
    omega
  · have a := ediv_mono hq (Int.mul_le_mul_of_nonpos_right h1 h)
    have b := ediv_mono hq (Int.mul_le_mul_of_nonpos_right h2 h)
    omega
/-- On a line a value between two places is between those at the places. -/
theorem lineV_mid {a b : Kn} {u m v : Int} (hab : a.x < b.x) (h1 : u ≤ m) (h2 : m ≤ v) : SIn (lineV a b m) (hullS (lineV a b u) (lineV a b v)) := by
  have k1 := lin_mid (d := b.lo - a.lo) (u := u - a.x) (m := m - a.x) (v := v - a.x) (q := b.x - a.x) (by omega) (by omega) (by omega)
  have k2 := lin_mid (d := a.hi - b.hi) (u := u - a.x) (m := m - a.x) (v := v - a.x) (q := b.x - a.x) (by omega) (by omega) (by omega)
  unfold SIn hullS lineV
  simp only
  omega
theorem hullS_self (a : Int × Int) : hullS a a = a := by unfold hullS; simp
theorem valV_left (t : List Kn) (p q : Int) : SIn (atV t p) (valV t p q) := (hullS_left _ _).trans hullA_mono
theorem valV_right (t : List Kn) (p q : Int) : SIn (atV t q) (valV t p q) := (hullS_right _ _).trans hullA_mono
theorem valV_knot {t : List Kn} {p q : Int} {k : Kn} (hk : k ∈ t) (h1 : p < k.x) (h2 : k.x < q) : SIn k.val (valV t p q) :=
  hullA_mem (List.mem_map.2 ⟨k, List.mem_filter.2 ⟨hk, by unfold kIn; simp [h1, h2]⟩, rfl⟩)
theorem valV_self (t : List Kn) (h : Int) : valV t h h = atV t h := by
  have : t.filter (kIn h h) = [] := by
    rw [List.filter_eq_nil_iff]
    intro k _ hk
    unfold kIn at hk
    simp at hk
    omega
  unfold valV
  rw [this, hullS_self]
  rfl
/-- Between which neighbours a place of a table is. -/
theorem seg_of : ∀ {t : List Kn}, Incr t → 2 ≤ t.length → ∀ {m : Int}, (∀ k, t[0]? = some k → k.x ≤ m) → (∀ k, t[t.length - 1]? = some k → m ≤ k.x) → ∃ (i : Nat) (a b : Kn), t[i]? = some a ∧ t[i + 1]? = some b ∧ a.x ≤ m ∧ m ≤ b.x
  | [], _, h, _, _, _ => by simp at h
  | [_], _, h, _, _, _ => by simp at h
  | [a, b], _, _, m, h0, h1 => ⟨0, a, b, rfl, rfl, h0 a rfl, h1 b rfl⟩
  | a :: b :: c :: r, hi, _, m, h0, h1 => by
    rcases Int.le_total m b.x with h | h
    · exact ⟨0, a, b, rfl, rfl, h0 a rfl, h⟩
    · cases hi with
      | cons hab hk =>
        obtain ⟨i, u, v, e1, e2, e3, e4⟩ := seg_of hk (by simp) (m := m) (fun k e => by simp at e; subst e; exact h) (fun k e => h1 k (by simpa using e))
        exact ⟨i + 1, u, v, by simpa using e1, by simpa using e2, e3, e4⟩
/-- The value at a place between two others is in the values between them. -/
theorem valV_mid {t : List Kn} (ht : TabOk t) {p m q : Int} (h1 : p ≤ m) (h2 : m ≤ q) (h0 : ∀ k, t[0]? = some k → k.x ≤ p) (hl : ∀ k, t[t.length - 1]? = some k → q ≤ k.x) : SIn (atV t m) (valV t p q) := by
  obtain ⟨i, a, b, ha, hb, k1, k2⟩ := seg_of ht.inc ht.l2 (m := m) (fun k e => Int.le_trans (h0 k e) h1) (fun k e => Int.le_trans h2 (hl k e))
  have hab := ht.inc.at_ (Nat.lt_succ_self i) ha hb
  have e : ∀ x, a.x ≤ x → x ≤ b.x → atV t x = lineV a b x := fun x j1 j2 => atV_seg ht.inc ha hb (.inr j1) (.inr j2)
  rw [e m k1 k2]
  have hu : ∃ u, u ≤ m ∧ a.x ≤ u ∧ u ≤ b.x ∧ SIn (lineV a b u) (valV t p q) := by
    rcases Int.lt_or_le p a.x with h | h
    · refine ⟨a.x, k1, Int.le_refl _, by omega, ?_⟩
      rw [lineV_start]
      rcases Int.lt_or_le a.x q with g | g
      · exact valV_knot (List.mem_of_getElem? ha) h g
      · have eq : q = a.x := by omega
        have := valV_right t p q
        rw [eq, e a.x (Int.le_refl _) (by omega), lineV_start] at this
        rw [eq]
        exact this
    · refine ⟨p, h1, h, by omega, ?_⟩
      rw [← e p h (by omega)]
      exact valV_left t p q
  have hv : ∃ v, m ≤ v ∧ a.x ≤ v ∧ v ≤ b.x ∧ SIn (lineV a b v) (valV t p q) := by
    rcases Int.lt_or_le b.x q with h | h
    · refine ⟨b.x, k2, by omega, Int.le_refl _, ?_⟩
      rw [lineV_end hab]
      rcases Int.lt_or_le p b.x with g | g
      · exact valV_knot (List.mem_of_getElem? hb) g h
      · have eq : p = b.x := by omega
        have := valV_left t p q
        rw [eq, e b.x (by omega) (Int.le_refl _), lineV_end hab] at this
        rw [eq]
        exact this
    · refine ⟨q, h2, by omega, h, ?_⟩
      rw [← e q (by omega) h]
      exact valV_right t p q
  obtain ⟨u, u1, _, _, u2⟩ := hu
  obtain ⟨v, v1, _, _, v2⟩ := hv
  exact (lineV_mid hab u1 v1).trans (hullS_least u2 v2)
theorem atV_level {l : List Lv} (hs : Snd l) {i : Nat} {x : Lv} (hx : l[i]? = some x) : atV (tabOf l) x.h = x.temp := by
  have hk : (tabOf l)[i]? = some (knOf x) := by unfold tabOf; rw [List.getElem?_map, hx]; rfl
  have := atV_knot hs.tab.inc hk hs.tab.l2
  exact this
/-- The temperature of a place between two neighbours is in that of both together. -/
theorem temp_gap {l : List Lv} (hs : Snd l) {i : Nat} {a b : Lv} (ha : l[i]? = some a) (hb : l[i + 1]? = some b) {p q : Int} (h1 : a.h ≤ p) (hpq : p ≤ q) (h2 : q ≤ b.h) : SIn (valV (tabOf l) p q) (gapT a b) := by
  have ka : (tabOf l)[i]? = some (knOf a) := by unfold tabOf; rw [List.getElem?_map, ha]; rfl
  have kb : (tabOf l)[i + 1]? = some (knOf b) := by unfold tabOf; rw [List.getElem?_map, hb]; rfl
  have hab : (knOf a).x < (knOf b).x := hs.tab.inc.at_ (Nat.lt_succ_self i) ka kb
  have e : ∀ x, a.h ≤ x → x ≤ b.h → SIn (atV (tabOf l) x) (gapT a b) := fun x j1 j2 => by
    rw [atV_seg hs.tab.inc ka kb (.inr j1) (.inr j2)]
    have := lineV_mid (a := knOf a) (b := knOf b) (u := (knOf a).x) (v := (knOf b).x) hab j1 j2
    rw [lineV_start, lineV_end hab] at this
    exact this
  unfold valV
  refine hullA_least (hullS_least (e p h1 (by omega)) (e q (by omega) h2)) fun x hx => ?_
  obtain ⟨k, hk, rfl⟩ := List.mem_map.1 hx
  obtain ⟨hk1, hk2⟩ := List.mem_filter.1 hk
  unfold kIn at hk2
  simp at hk2
  obtain ⟨j, hj, rfl⟩ := List.getElem_of_mem hk1
  have hjk : (tabOf l)[j]? = some (tabOf l)[j] := List.getElem?_eq_getElem hj
  exfalso
  rcases Nat.lt_trichotomy j i with g | g | g
  · have := hs.tab.inc.at_ g hjk ka
    have e1 : (knOf a).x = a.h := rfl
    omega
  · subst g
    rw [ka] at hjk
    have := Option.some.inj hjk
    have e1 : (knOf a).x = a.h := rfl
    rw [← this] at hk2
    omega
  · rcases Nat.lt_or_eq_of_le (Nat.succ_le_of_lt g) with g2 | g2
    · have := hs.tab.inc.at_ g2 kb hjk
      have e1 : (knOf b).x = b.h := rfl
      omega
    · subst g2
      rw [kb] at hjk
      have := Option.some.inj hjk
      have e1 : (knOf b).x = b.h := rfl
      rw [← this] at hk2
      omega
theorem temp_gap_eq {l : List Lv} (hs : Snd l) {i : Nat} {a b : Lv} (ha : l[i]? = some a) (hb : l[i + 1]? = some b) : valV (tabOf l) a.h b.h = gapT a b := by
  have hh := hs.rise ha hb
  refine SIn.antisymm (temp_gap hs ha hb (Int.le_refl _) (by omega) (Int.le_refl _)) ?_
  unfold gapT
  rw [← atV_level hs ha, ← atV_level hs hb]
  exact hullS_least (valV_left _ _ _) (valV_right _ _ _)
theorem lvFst_eq {l : List Lv} {x : Lv} (h : l[0]? = some x) : lvFst l = x.h := by unfold lvFst; rw [h]
theorem lvLst_eq {l : List Lv} {x : Lv} (h : l[l.length - 1]? = some x) : lvLst l = x.h := by unfold lvLst; rw [h]
theorem Snd.ends {l : List Lv} (hs : Snd l) : ∃ x0 xn, l[0]? = some x0 ∧ l[l.length - 1]? = some xn ∧ x0.h < xn.h ∧ -500 ≤ x0.h ∧ xn.h ≤ 9000 := by
  have n2 := hs.n2
  have h0 : l[0]? = some l[0] := List.getElem?_eq_getElem (by omega)
  have hn : l[l.length - 1]? = some l[l.length - 1] := List.getElem?_eq_getElem (by omega)
  have k0 : (tabOf l)[0]? = some (knOf l[0]) := by unfold tabOf; rw [List.getElem?_map, h0]; rfl
  have kn : (tabOf l)[l.length - 1]? = some (knOf l[l.length - 1]) := by unfold tabOf; rw [List.getElem?_map, hn]; rfl
  have := hs.tab.inc.at_ (show 0 < l.length - 1 by omega) k0 kn
  have b0 := hs.ok _ (List.mem_of_getElem? h0)
  have bn := hs.ok _ (List.mem_of_getElem? hn)
  exact ⟨_, _, h0, hn, this, b0.1, bn.2.1⟩
theorem fst_settled {l : List Lv} (hs : Snd l) : lvFst (setl l) = lvFst l ∧ lvLst (setl l) = lvLst l := by
  have n2 := hs.n2
  have hl := setl_len l
  have h0 : l[0]? = some l[0] := List.getElem?_eq_getElem (by omega)
  have hn : l[l.length - 1]? = some l[l.length - 1] := List.getElem?_eq_getElem (by omega)
  have s0 : (setl l)[0]? = some (setl l)[0] := List.getElem?_eq_getElem (by omega)
  have sn : (setl l)[l.length - 1]? = some (setl l)[l.length - 1] := List.getElem?_eq_getElem (by omega)
  rw [lvFst_eq s0, lvFst_eq h0, lvLst_eq (by rw [hl]; exact sn), lvLst_eq hn]
  exact ⟨(settled_at hs s0 h0).1, (settled_at hs sn hn).1⟩
/-- The air between two heights of a sounding that fits. -/
theorem atS_ok {l : List Lv} (hs : Snd l) (hu : unfit l = false) {p q : Int} (h1 : lvFst l ≤ p) (h2 : p ≤ q) (h3 : q ≤ lvLst l) : atS l p q = (((prV (setl l) q).1, (prV (setl l) p).2), valV (tabOf l) p q, 0) := by
  obtain ⟨x0, xn, e0, en, hlt, b0, bn⟩ := hs.ends
  rw [lvFst_eq e0] at h1
  rw [lvLst_eq en] at h3
  have hf : fineS (p, q) = true := (fineS_iff _).2 ⟨h2, by simp only; omega, by simp only; omega⟩
  have ha : allFrom (lvFst l) (lvLst l) [p, q] = true := by
    rw [lvFst_eq e0, lvLst_eq en]
    unfold allFrom
    simp
    omega
  unfold atS
  rw [if_pos ((soundB_iff l).2 hs), if_pos hf, if_pos ha, hu]
  rfl
theorem atS_unfit {l : List Lv} (hs : Snd l) (hu : unfit l = true) {p q : Int} (h1 : lvFst l ≤ p) (h2 : p ≤ q) (h3 : q ≤ lvLst l) : atS l p q = ((0, 0), (0, 0), 21) := by
  obtain ⟨x0, xn, e0, en, hlt, b0, bn⟩ := hs.ends
  rw [lvFst_eq e0] at h1
  rw [lvLst_eq en] at h3
  have hf : fineS (p, q) = true := (fineS_iff _).2 ⟨h2, by simp only; omega, by simp only; omega⟩
  have ha : allFrom (lvFst l) (lvLst l) [p, q] = true := by
    rw [lvFst_eq e0, lvLst_eq en]
    unfold allFrom
    simp
    omega
  unfold atS
  rw [if_pos ((soundB_iff l).2 hs), if_pos hf, if_pos ha, hu]
  rfl
/-- The settled sounding has the same air. -/
theorem atS_settled {l : List Lv} (hs : Snd l) (hu : unfit l = false) {p q : Int} (h1 : lvFst l ≤ p) (h2 : p ≤ q) (h3 : q ≤ lvLst l) : atS (setl l) p q = atS l p q := by
  have hf := fst_settled hs
  rw [atS_ok hs hu h1 h2 h3, atS_ok (hs.settled hu) (unfit_setl hs hu) (by omega) h2 (by omega), setl_setl hs.ch, tab_setl hs]
/-- At a level's height it is the level's. -/
theorem prV_level {l : List Lv} (hs : Snd l) {i : Nat} {x y : Lv} (hx : l[i]? = some x) (hy : (setl l)[i]? = some y) : prV (setl l) x.h = y.press := by
  rw [← (settled_at hs hy hx).1]
  exact prV_at hs.stl.hg hy
theorem lv_in {l : List Lv} (hs : Snd l) {i : Nat} {x : Lv} (hx : l[i]? = some x) : lvFst l ≤ x.h ∧ x.h ≤ lvLst l := by
  have hi := (List.getElem?_eq_some_iff.1 hx).1
  obtain ⟨x0, xn, e0, en, hlt, b0, bn⟩ := hs.ends
  rw [lvFst_eq e0, lvLst_eq en]
  have mono : ∀ {i j : Nat} {u v : Lv}, i ≤ j → l[i]? = some u → l[j]? = some v → u.h ≤ v.h := fun {i j u v} hij hu hv => by
    rcases Nat.lt_or_eq_of_le hij with h | h
    · have k1 : (tabOf l)[i]? = some (knOf u) := by unfold tabOf; rw [List.getElem?_map, hu]; rfl
      have k2 : (tabOf l)[j]? = some (knOf v) := by unfold tabOf; rw [List.getElem?_map, hv]; rfl
      exact Int.le_of_lt (hs.tab.inc.at_ h k1 k2)
    · subst h
      rw [hu] at hv
      rw [Option.some.inj hv]
      exact Int.le_refl _
  exact ⟨mono (Nat.zero_le _) e0 hx, mono (by omega) hx en⟩
theorem pr_facts {l : List Lv} (hs : Snd l) (hu : unfit l = false) {p m q : Int} (h1 : lvFst l ≤ p) (h2 : p ≤ m) (h3 : m ≤ q) (h4 : q ≤ lvLst l) :
    (prV (setl l) q).1 ≤ (prV (setl l) m).1 ∧ (prV (setl l) m).1 ≤ (prV (setl l) m).2 ∧ (prV (setl l) m).2 ≤ (prV (setl l) p).2 := by
  have hl := setl_len l
  have n2 := hs.n2
  obtain ⟨x0, xn, e0, en, hlt, b0, bn⟩ := (hs.settled hu).ends
  have hf := fst_settled hs
  rw [lvFst_eq e0, lvLst_eq en] at hf
  have a := prV_mono hs.stl (by omega) e0 en (h := m) (k := q) (by omega) h3 (by omega)
  have b := prV_mono hs.stl (by omega) e0 en (h := p) (k := m) (by omega) h2 (by omega)
  have c := prV_ok hs.stl (by omega) (unfit_no hu) e0 en (h := m) (by omega) (by omega)
  exact ⟨a.1, c, b.2⟩
theorem te_facts {l : List Lv} (hs : Snd l) {p m q : Int} (h1 : lvFst l ≤ p) (h2 : p ≤ m) (h3 : m ≤ q) (h4 : q ≤ lvLst l) :
    (valV (tabOf l) p q).1 ≤ (valV (tabOf l) m m).1 ∧ (valV (tabOf l) m m).2 ≤ (valV (tabOf l) p q).2 := by
  rw [valV_self]
  obtain ⟨x0, xn, e0, en, hlt, b0, bn⟩ := hs.ends
  rw [lvFst_eq e0] at h1
  rw [lvLst_eq en] at h4
  have hl : (tabOf l).length = l.length := by simp [tabOf]
  exact valV_mid hs.tab h2 h3 (fun k hk => by obtain ⟨z, hz, rfl⟩ := tab_at hk; rw [e0] at hz; cases hz; exact h1) (fun k hk => by rw [hl] at hk; obtain ⟨z, hz, rfl⟩ := tab_at hk; rw [en] at hz; cases hz; exact h4)
end Go.Proofs.Ytalidommelefaaa
