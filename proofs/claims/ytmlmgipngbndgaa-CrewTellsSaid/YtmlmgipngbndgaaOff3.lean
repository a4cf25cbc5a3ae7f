/- The office, the reference's: is it valid? Check, Counts, Purse, Turn. -/
import Derived.Test.YtmlmgipngbndgaaOff2
namespace Go.Proofs.Ytmlmgipngbndgaa
open Go.RowKit
attribute [local irreducible] OQ OS OX Rd T TL GX GL AL AI RV wpG SAny Calls
set_option maxRecDepth 100000
set_option maxHeartbeats 2000000
set_option linter.unusedVariables false
set_option linter.unusedSimpArgs false

theorem headB_in {o : Off} (h : headB o = true) : 0 ≤ o.now ∧ o.now ≤ 1000000 ∧ 0 ≤ o.notice ∧ o.notice ≤ 1000000 ∧ 0 ≤ o.fee ∧ o.fee ≤ 100 ∧ o.fl.length ≤ 10 ∧ o.bk.length ≤ 120 := by
  unfold headB at h
  simpa using h
theorem allFrom_t {lo hi z : Int} (h : lo ≤ z ∧ z ≤ hi) : allFrom lo hi [z] = true := by unfold allFrom; simp [h.1, h.2]
theorem allFrom_f {lo hi z : Int} (h : ¬ (lo ≤ z ∧ z ≤ hi)) : allFrom lo hi [z] = false := by
  unfold allFrom
  rw [Bool.eq_false_iff]
  intro h2
  simp only [List.all_cons, List.all_nil, Bool.and_true, Bool.and_eq_true, decide_eq_true_eq] at h2
  exact h h2
theorem all_no {α : Type} {p : α → Bool} {l : List α} {k : Nat} {x : α} (h : l[k]? = some x) (hp : p x = false) : l.all p = false := by
  rw [Bool.eq_false_iff, Ne, List.all_eq_true]
  intro h2
  rw [h2 x (List.mem_of_getElem? h)] at hp; cases hp
theorem all_yes {α : Type} {p : α → Bool} {l : List α} {k : Nat} (hk : l.length ≤ k) (h : ∀ x ∈ l.take k, p x = true) : l.all p = true := by
  rw [List.all_eq_true]
  exact fun y hy => h y (by rw [List.take_of_length_le hk]; exact hy)
theorem refOffice_calls (o : Off) (A : Option Addr) (cf : Nat) (B : Option Addr) (cb : Nat) (w : World) (hA : RdS w 4 A o.fl.length (o.fl.map depCells)) (hB : RdS w 3 B o.bk.length (o.bk.map bkCells)) (hu : ∀ d ∈ o.fl, 0 ≤ d.state) (hn : o.fl.length ≤ 1000000) (hn2 : o.bk.length ≤ 1000000) : Calls Try.prog 65 #[.agg ⟨offCells o A cf B cb⟩] w fun e w' => e = .returned (.bool (officeB o)) ∧ Ext w w' := by
  by_cases hh : headB o = true
  · obtain ⟨a1, a2, b1, b2, f1, f2, nf, nb⟩ := headB_in hh
    have HW1 := fun w1 => withinQ (allFrom_t (lo := 0) (hi := 1000000) (z := o.now) ⟨a1, a2⟩) w1
    have HW2 := fun w1 => withinQ (allFrom_t (lo := 0) (hi := 1000000) (z := o.notice) ⟨b1, b2⟩) w1
    have HW3 := fun w1 => withinQ (allFrom_t (lo := 0) (hi := 100) (z := o.fee) ⟨f1, f2⟩) w1
    refine enterQ (c := cx w 129) Try.func65 rfl rfl rfl rfl ?_
    repeat' (first | ((with_reducible apply oq_id); first | (apply oq_fn; exact rfl; first | exact trivial | (refine ⟨?_, ?_⟩ <;> omega) | (refine ⟨?_, ?_, ?_⟩ <;> omega) | omega | skip) | ((with_reducible apply oq_load); exact rfl; exact rfl) | ((with_reducible apply oq_call (k := 66) (hc := Try.call66)); exact rfl; exact rfl; exact fun D w1 hw1 => HW1 w1) | ((with_reducible apply oq_call (k := 66) (hc := Try.call66)); exact rfl; exact rfl; exact fun D w1 hw1 => HW2 w1) | ((with_reducible apply oq_call (k := 66) (hc := Try.call66)); exact rfl; exact rfl; exact fun D w1 hw1 => HW3 w1)) | ((with_reducible apply tl_id); first | ((with_reducible apply tl_nil)) | ((with_reducible apply u_q); exact rfl; exact rfl; exact rfl; exact rfl) | ((with_reducible apply u_s); exact rfl; exact rfl; exact rfl) | ((with_reducible apply u_splitD); exact rfl; exact rfl; all_goals first | (intro hp; try (exfalso; omega)) | skip)) | ((with_reducible apply os_id); first | ((with_reducible apply os_x); exact rfl)) | ((with_reducible apply ox_id); first | ((with_reducible apply ox_boxAgg); exact rfl; intro _)) | ((with_reducible apply rd_id); first | (apply Rd.own; (repeat (first | exact P0 | apply P1)); exact rfl; done)) | ((with_reducible apply t_id); first | ((with_reducible apply t_seq)) | (apply t_region; kernel_rfl) | ((with_reducible apply t_condD); exact rfl; all_goals first | (intro hp; try (exfalso; omega)) | skip) | ((with_reducible apply t_skip)) | ((with_reducible apply t_block))) | with_reducible apply q_thenN)
    apply t_loopK (ι := Nat) [1, 4, 5, 6, 7, 8, 9, 10, 53, 54, 55, 56, 57, 58, 59, 60, 61, 62, 63, 64, 65, 66, 67, 68, 69, 70, 71, 72, 73, 74, 75, 76, 77, 78, 79, 80, 81, 82, 83, 84, 85, 86, 87, 88, 89, 90, 91, 92, 93, 94, 95, 96, 97, 98, 99, 100, 101, 102, 103, 104, 105, 106, 107, 108, 109, 110, 111, 112, 113, 114, 115, 116, 117, 118, 119, 120, 121, 122, 123, 124, 125, 126, 127, 128] (fun k => [(3, .int .i64 (k : Nat))]) (fun _ => []) (fun k => k ≤ o.fl.length ∧ ∀ d ∈ o.fl.take k, depOk d = true) (fun k => o.fl.length - k) (0)
    (repeat (first | exact KeepF.nil | (apply KeepF.cons; exact rfl) | apply KeepF.skip))
    (repeat (first | exact FrSub.nil | (apply FrSub.cons; exact rfl)))
    (repeat (first | exact HpSub.refl _ | (apply HpSub.consE; (repeat (first | exact P0 | apply P1)); exact rfl) | exact HpSub.nil))
    · exact ⟨Nat.zero_le _, by simp⟩
    rintro k ⟨hk, hkp⟩
    try simp only [List.cons_append, List.nil_append]
    by_cases hlt : k < o.fl.length
    · obtain ⟨p1, p2, x, hA1, _, hx, c0, c1, c2, c3⟩ := dep_read hA hlt
      have HX := fun w1 => departure_calls x.seats x.price x.leaves x.state w1
      subst hA1
      cases hpx : depOk x with
      | false =>
        rw [show depOk ⟨x.seats, x.price, x.leaves, x.state⟩ = false from hpx] at HX
        repeat' (first | ((with_reducible apply oq_id); first | (focus ((with_reducible apply oq_indexAddrN); exact rfl; exact rfl; exact rfl; exact rfl; omega)) | (apply oq_fn; exact rfl; first | exact trivial | (refine ⟨?_, ?_⟩ <;> omega) | (refine ⟨?_, ?_, ?_⟩ <;> omega) | omega | skip) | ((with_reducible apply oq_load); exact rfl; exact rfl) | ((with_reducible apply oq_loadAgg); exact rfl; exact rfl) | ((with_reducible apply oq_call (k := 98) (hc := Try.call98)); exact rfl; exact rfl; exact fun D w1 hw1 => HX w1)) | ((with_reducible apply tl_id); first | ((with_reducible apply tl_nil)) | ((with_reducible apply u_q); exact rfl; exact rfl; exact rfl; exact rfl)) | ((with_reducible apply rd_id); first | (apply Rd.own; (repeat (first | exact P0 | apply P1)); exact rfl; done) | (apply Rd.old; (first | (with_reducible assumption) | exact c0 | exact c1 | exact c2 | exact c3 | exact c4 | exact c5 | exact c6 | exact c7 | exact c8 | exact d0 | exact d1 | exact d2 | exact d3 | exact d4 | exact d5); first | exact List.not_mem_nil | exact m0 | exact m1 | exact m2 | exact m3 | exact m4 | exact m5 | exact m6 | exact m7 | exact m8 | exact m9)) | ((with_reducible apply t_id); first | ((with_reducible apply t_seq)) | (apply t_region; kernel_rfl) | ((with_reducible apply t_condT); exact rfl) | ((with_reducible apply t_condD); exact rfl; all_goals first | (intro hp; try (exfalso; omega)) | skip) | ((with_reducible apply t_ret)) | ((with_reducible apply t_skip)) | ((with_reducible apply t_block))) | with_reducible apply q_thenN | with_reducible apply q_thenR | with_reducible apply q_blockR | exact Rdn.zero | apply Rdn.succ | ((with_reducible apply end_ret)) | exact rvs_nil | ((with_reducible apply rvs_cons)) | ((with_reducible apply rv_tmp); exact rfl))
        all_goals (unfold officeB; rw [all_no hx hpx]; simp; rfl)
      | true =>
        rw [show depOk ⟨x.seats, x.price, x.leaves, x.state⟩ = true from hpx] at HX
        repeat' (first | ((with_reducible apply oq_id); first | (focus ((with_reducible apply oq_indexAddrN); exact rfl; exact rfl; exact rfl; exact rfl; omega)) | (apply oq_fn; exact rfl; first | exact trivial | (refine ⟨?_, ?_⟩ <;> omega) | (refine ⟨?_, ?_, ?_⟩ <;> omega) | omega | skip) | ((with_reducible apply oq_load); exact rfl; exact rfl) | ((with_reducible apply oq_loadAgg); exact rfl; exact rfl) | ((with_reducible apply oq_call (k := 98) (hc := Try.call98)); exact rfl; exact rfl; exact fun D w1 hw1 => HX w1)) | ((with_reducible apply tl_id); first | ((with_reducible apply tl_nil)) | ((with_reducible apply u_q); exact rfl; exact rfl; exact rfl; exact rfl)) | ((with_reducible apply rd_id); first | (apply Rd.own; (repeat (first | exact P0 | apply P1)); exact rfl; done) | (apply Rd.old; (first | (with_reducible assumption) | exact c0 | exact c1 | exact c2 | exact c3 | exact c4 | exact c5 | exact c6 | exact c7 | exact c8 | exact d0 | exact d1 | exact d2 | exact d3 | exact d4 | exact d5); first | exact List.not_mem_nil | exact m0 | exact m1 | exact m2 | exact m3 | exact m4 | exact m5 | exact m6 | exact m7 | exact m8 | exact m9)) | ((with_reducible apply t_id); first | ((with_reducible apply t_seq)) | (apply t_region; kernel_rfl) | ((with_reducible apply t_condF); exact rfl) | ((with_reducible apply t_condD); exact rfl; all_goals first | (intro hp; try (exfalso; omega)) | skip) | ((with_reducible apply t_skip)) | ((with_reducible apply t_block))) | with_reducible apply q_thenN | with_reducible apply q_blockN | exact Rdn.zero | apply Rdn.succ)
        all_goals (refine ⟨k + 1, ⟨by omega, fun y hy => ?_⟩, by omega, ?_, ?_⟩)
        · rw [List.take_add_one, hx, List.mem_append] at hy
          rcases hy with hy | hy
          · exact hkp y hy
          · obtain rfl : y = x := by simpa using hy
            exact hpx
        · try simp only [List.cons_append, List.nil_append]
          (repeat (first | exact FrSub.nil | (apply FrSub.cons; exact rfl)))
        · try simp only [List.cons_append, List.nil_append]
          (repeat (first | exact HpSub.refl _ | (apply HpSub.consE; (repeat (first | exact P0 | apply P1)); exact rfl) | exact HpSub.nil))
    · have hda : o.fl.all depOk = true := all_yes (by omega) hkp
      have hd : DepsOk o.fl := fun d hdm => ⟨List.all_eq_true.1 hda d hdm, hu d hdm⟩
      clear hkp HW1 HW2 HW3
      repeat' (first | ((with_reducible apply oq_id); first | (apply oq_fn; exact rfl; first | exact trivial | (refine ⟨?_, ?_⟩ <;> omega) | (refine ⟨?_, ?_, ?_⟩ <;> omega) | omega | skip) | ((with_reducible apply oq_load); exact rfl; exact rfl)) | ((with_reducible apply tl_id); first | ((with_reducible apply tl_nil)) | ((with_reducible apply u_q); exact rfl; exact rfl; exact rfl; exact rfl)) | ((with_reducible apply rd_id); first | (apply Rd.own; (repeat (first | exact P0 | apply P1)); exact rfl; done)) | ((with_reducible apply t_id); first | ((with_reducible apply t_seq)) | (apply t_region; kernel_rfl) | ((with_reducible apply t_condD); exact rfl; all_goals first | (intro hp; try (exfalso; omega)) | skip) | ((with_reducible apply t_exit)) | ((with_reducible apply t_block))) | with_reducible apply q_thenN | with_reducible apply q_thenE | ((with_reducible apply q_blockE); exact rfl))
      apply t_loopK (ι := Nat) [1, 5, 6, 7, 8, 9, 10, 68, 69, 70, 71, 72, 73, 74, 75, 76, 77, 78, 79, 80, 81, 82, 83, 84, 85, 86, 87, 88, 89, 90, 91, 92, 93, 94, 95, 96, 97, 98, 99, 100, 101, 102, 103, 104, 105, 106, 107, 108, 109, 110, 111, 112, 113, 114, 115, 116, 117, 118, 119, 120, 121, 122, 123, 124, 125, 126, 127, 128] (fun k => [(4, .int .i64 (k : Nat))]) (fun _ => []) (fun k => k ≤ o.bk.length ∧ ∀ x ∈ o.bk.take k, bookedB o.fl o.fee x = true) (fun k => o.bk.length - k) (0)
      (repeat (first | exact KeepF.nil | (apply KeepF.cons; exact rfl) | apply KeepF.skip))
      (repeat (first | exact FrSub.nil | (apply FrSub.cons; exact rfl)))
      (repeat (first | exact HpSub.refl _ | (apply HpSub.consE; (repeat (first | exact P0 | apply P1)); exact rfl) | exact HpSub.nil))
      · exact ⟨Nat.zero_le _, by simp⟩
      rintro k ⟨hk, hkp⟩
      try simp only [List.cons_append, List.nil_append]
      by_cases hlt : k < o.bk.length
      · obtain ⟨p1, p2, x, hB1, _, hx, c0, c1, c2⟩ := bk_read hB hlt
        have HX := fun w1 (hx1 : Ext w w1) => booked_calls o A cf B cb w1 (hA.ext hx1) (hB.ext hx1) hd ⟨f1, f2⟩ (by omega) x.flight x.state x.kept
        subst hB1
        cases hpx : bookedB o.fl o.fee x with
        | false =>
          rw [show bookedB o.fl o.fee ⟨x.flight, x.state, x.kept⟩ = false from hpx] at HX
          repeat' (first | ((with_reducible apply oq_id); first | (focus ((with_reducible apply oq_indexAddrN); exact rfl; exact rfl; exact rfl; exact rfl; omega)) | (apply oq_fn; exact rfl; first | exact trivial | (refine ⟨?_, ?_⟩ <;> omega) | (refine ⟨?_, ?_, ?_⟩ <;> omega) | omega | skip) | ((with_reducible apply oq_load); exact rfl; exact rfl) | ((with_reducible apply oq_loadAgg); exact rfl; exact rfl) | ((with_reducible apply oq_call (k := 99) (hc := Try.call99)); exact rfl; exact rfl; exact fun D w1 hw1 => HX w1 hw1.ext.ext)) | ((with_reducible apply tl_id); first | ((with_reducible apply tl_nil)) | ((with_reducible apply u_q); exact rfl; exact rfl; exact rfl; exact rfl)) | ((with_reducible apply gx_id); first | ((with_reducible apply v_nil)) | ((with_reducible apply v_q); exact rfl; exact rfl; exact rfl)) | ((with_reducible apply rd_id); first | (apply Rd.own; (repeat (first | exact P0 | apply P1)); exact rfl; done) | (apply Rd.old; (first | (with_reducible assumption) | exact c0 | exact c1 | exact c2 | exact c3 | exact c4 | exact c5 | exact c6 | exact c7 | exact c8 | exact d0 | exact d1 | exact d2 | exact d3 | exact d4 | exact d5); first | exact List.not_mem_nil | exact m0 | exact m1 | exact m2 | exact m3 | exact m4 | exact m5 | exact m6 | exact m7 | exact m8 | exact m9)) | ((with_reducible apply t_id); first | ((with_reducible apply t_seq)) | (apply t_region; kernel_rfl) | (apply t_drawn; kernel_rfl; decide +kernel; try simp only [List.append_eq, List.cons_append, List.nil_append]) | ((with_reducible apply t_condT); exact rfl) | ((with_reducible apply t_condD); exact rfl; all_goals first | (intro hp; try (exfalso; omega)) | skip) | ((with_reducible apply t_ret)) | ((with_reducible apply t_skip)) | ((with_reducible apply t_block))) | with_reducible apply q_thenN | with_reducible apply q_thenR | with_reducible apply q_blockR | exact Rdn.zero | apply Rdn.succ | ((with_reducible apply end_ret)) | exact rvs_nil | ((with_reducible apply rvs_cons)) | ((with_reducible apply rv_tmp); exact rfl))
          all_goals (unfold officeB; rw [all_no hx hpx]; simp; rfl)
        | true =>
          rw [show bookedB o.fl o.fee ⟨x.flight, x.state, x.kept⟩ = true from hpx] at HX
          repeat' (first | ((with_reducible apply oq_id); first | (focus ((with_reducible apply oq_indexAddrN); exact rfl; exact rfl; exact rfl; exact rfl; omega)) | (apply oq_fn; exact rfl; first | exact trivial | (refine ⟨?_, ?_⟩ <;> omega) | (refine ⟨?_, ?_, ?_⟩ <;> omega) | omega | skip) | ((with_reducible apply oq_load); exact rfl; exact rfl) | ((with_reducible apply oq_loadAgg); exact rfl; exact rfl) | ((with_reducible apply oq_call (k := 99) (hc := Try.call99)); exact rfl; exact rfl; exact fun D w1 hw1 => HX w1 hw1.ext.ext)) | ((with_reducible apply tl_id); first | ((with_reducible apply tl_nil)) | ((with_reducible apply u_q); exact rfl; exact rfl; exact rfl; exact rfl)) | ((with_reducible apply gx_id); first | ((with_reducible apply v_nil)) | ((with_reducible apply v_q); exact rfl; exact rfl; exact rfl)) | ((with_reducible apply rd_id); first | (apply Rd.own; (repeat (first | exact P0 | apply P1)); exact rfl; done) | (apply Rd.old; (first | (with_reducible assumption) | exact c0 | exact c1 | exact c2 | exact c3 | exact c4 | exact c5 | exact c6 | exact c7 | exact c8 | exact d0 | exact d1 | exact d2 | exact d3 | exact d4 | exact d5); first | exact List.not_mem_nil | exact m0 | exact m1 | exact m2 | exact m3 | exact m4 | exact m5 | exact m6 | exact m7 | exact m8 | exact m9)) | ((with_reducible apply t_id); first | ((with_reducible apply t_seq)) | (apply t_region; kernel_rfl) | (apply t_drawn; kernel_rfl; decide +kernel; try simp only [List.append_eq, List.cons_append, List.nil_append]) | ((with_reducible apply t_condF); exact rfl) | ((with_reducible apply t_condD); exact rfl; all_goals first | (intro hp; try (exfalso; omega)) | skip) | ((with_reducible apply t_skip)) | ((with_reducible apply t_block))) | with_reducible apply q_thenN | with_reducible apply q_blockN | exact Rdn.zero | apply Rdn.succ)
          all_goals (refine ⟨k + 1, ⟨by omega, fun y hy => ?_⟩, by omega, ?_, ?_⟩)
          · rw [List.take_add_one, hx, List.mem_append] at hy
            rcases hy with hy | hy
            · exact hkp y hy
            · obtain rfl : y = x := by simpa using hy
              exact hpx
          · try simp only [List.cons_append, List.nil_append]
            (repeat (first | exact FrSub.nil | (apply FrSub.cons; exact rfl)))
          · try simp only [List.cons_append, List.nil_append]
            (repeat (first | exact HpSub.refl _ | (apply HpSub.consE; (repeat (first | exact P0 | apply P1)); exact rfl) | exact HpSub.nil))
      · have hba : o.bk.all (bookedB o.fl o.fee) = true := all_yes (by omega) hkp
        have hb : BksOk o.fl o.bk := fun x hxm => bookedB_ok hd ⟨f1, f2⟩ (List.all_eq_true.1 hba x hxm)
        clear hkp
        repeat' (first | ((with_reducible apply oq_id); first | (apply oq_fn; exact rfl; first | exact trivial | (refine ⟨?_, ?_⟩ <;> omega) | (refine ⟨?_, ?_, ?_⟩ <;> omega) | omega | skip) | ((with_reducible apply oq_load); exact rfl; exact rfl)) | ((with_reducible apply tl_id); first | ((with_reducible apply tl_nil)) | ((with_reducible apply u_q); exact rfl; exact rfl; exact rfl; exact rfl)) | ((with_reducible apply rd_id); first | (apply Rd.own; (repeat (first | exact P0 | apply P1)); exact rfl; done)) | ((with_reducible apply t_id); first | ((with_reducible apply t_seq)) | (apply t_region; kernel_rfl) | ((with_reducible apply t_condD); exact rfl; all_goals first | (intro hp; try (exfalso; omega)) | skip) | ((with_reducible apply t_exit)) | ((with_reducible apply t_block))) | with_reducible apply q_thenN | with_reducible apply q_thenE | ((with_reducible apply q_blockE); exact rfl))
        apply t_loopK (ι := Nat) [1, 7, 8, 9, 10, 106, 107, 108, 109, 110, 111, 112, 113, 114, 115, 116, 117, 118, 119, 120, 121, 122, 123, 124, 125, 126, 127, 128] (fun k => [(5, .int .i64 (k : Nat))]) (fun _ => []) (fun k => k ≤ o.fl.length ∧ ∀ j, j < k → seatB o.fl o.bk j = true) (fun k => o.fl.length - k) (0)
        (repeat (first | exact KeepF.nil | (apply KeepF.cons; exact rfl) | apply KeepF.skip))
        (repeat (first | exact FrSub.nil | (apply FrSub.cons; exact rfl)))
        (repeat (first | exact HpSub.refl _ | (apply HpSub.consE; (repeat (first | exact P0 | apply P1)); exact rfl) | exact HpSub.nil))
        · exact ⟨Nat.zero_le _, fun j hj => by omega⟩
        rintro k ⟨hk, hkp⟩
        try simp only [List.cons_append, List.nil_append]
        by_cases hlt : k < o.fl.length
        · obtain ⟨p1, p2, x, hA1, _, hx, c0, c1, c2, c3⟩ := dep_read hA hlt
          have HM1 := fun w1 (hx1 : Ext w w1) => many_calls o A cf B cb w1 (hA.ext hx1) (hB.ext hx1) (by omega) (k : Int) 1
          have HM2 := fun w1 (hx1 : Ext w w1) => many_calls o A cf B cb w1 (hA.ext hx1) (hB.ext hx1) (by omega) (k : Int) 2
          have HM3 := fun w1 (hx1 : Ext w w1) => many_calls o A cf B cb w1 (hA.ext hx1) (hB.ext hx1) (by omega) (k : Int) 3
          have hm1 := many_in o.bk (k : Int) 1 o.bk.length
          have hm2 := many_in o.bk (k : Int) 2 o.bk.length
          have hm3 := many_in o.bk (k : Int) 3 o.bk.length
          rw [many_all (Nat.le_refl _)] at hm1 hm2 hm3
          have hsv : seatB o.fl o.bk k = (decide (manyV o.bk k 1 + manyV o.bk k 3 ≤ x.seats) && (decide (manyV o.bk k 1 + manyV o.bk k 3 = x.seats) || decide (manyV o.bk k 2 ≤ 0))) := by unfold seatB; rw [hx]
          obtain ⟨m1, e1⟩ : ∃ q, manyV o.bk (k : Int) 1 = q := ⟨_, rfl⟩
          obtain ⟨m2, e2⟩ : ∃ q, manyV o.bk (k : Int) 2 = q := ⟨_, rfl⟩
          obtain ⟨m3, e3⟩ : ∃ q, manyV o.bk (k : Int) 3 = q := ⟨_, rfl⟩
          rw [e1] at HM1 hm1 hsv
          rw [e2] at HM2 hm2 hsv
          rw [e3] at HM3 hm3 hsv
          subst hA1
          cases hpx : seatB o.fl o.bk k with
          | false =>
            have hv : x.seats < m1 + m3 ∨ (m1 + m3 < x.seats ∧ 0 < m2) := by
              refine Decidable.by_contra fun hc => ?_
              rw [hpx] at hsv
              have : (decide (m1 + m3 ≤ x.seats) && (decide (m1 + m3 = x.seats) || decide (m2 ≤ 0))) = true := by
                simp only [Bool.and_eq_true, Bool.or_eq_true, decide_eq_true_eq]; omega
              rw [this] at hsv; cases hsv
            repeat' (first | ((with_reducible apply oq_id); first | (focus ((with_reducible apply oq_indexAddrN); exact rfl; exact rfl; exact rfl; exact rfl; omega)) | (apply oq_fn; exact rfl; first | exact trivial | (refine ⟨?_, ?_⟩ <;> omega) | (refine ⟨?_, ?_, ?_⟩ <;> omega) | omega | skip) | ((with_reducible apply oq_load); exact rfl; exact rfl) | ((with_reducible apply oq_loadAgg); exact rfl; exact rfl) | ((with_reducible apply oq_call (k := 67) (hc := Try.call67)); exact rfl; exact rfl; exact fun D w1 hw1 => HM1 w1 hw1.ext.ext) | ((with_reducible apply oq_call (k := 67) (hc := Try.call67)); exact rfl; exact rfl; exact fun D w1 hw1 => HM2 w1 hw1.ext.ext) | ((with_reducible apply oq_call (k := 67) (hc := Try.call67)); exact rfl; exact rfl; exact fun D w1 hw1 => HM3 w1 hw1.ext.ext)) | ((with_reducible apply tl_id); first | ((with_reducible apply tl_nil)) | ((with_reducible apply u_q); exact rfl; exact rfl; exact rfl; exact rfl) | ((with_reducible apply u_skip); exact rfl; exact rfl; exact rfl) | ((with_reducible apply u_splitD); exact rfl; exact rfl; all_goals first | (intro hp; try (exfalso; omega)) | skip)) | ((with_reducible apply gx_id); first | ((with_reducible apply v_nil)) | ((with_reducible apply v_q); exact rfl; exact rfl; exact rfl)) | ((with_reducible apply rd_id); first | (apply Rd.own; (repeat (first | exact P0 | apply P1)); exact rfl; done) | (apply Rd.old; (first | (with_reducible assumption) | exact c0 | exact c1 | exact c2 | exact c3 | exact c4 | exact c5 | exact c6 | exact c7 | exact c8 | exact d0 | exact d1 | exact d2 | exact d3 | exact d4 | exact d5); first | exact List.not_mem_nil | exact m0 | exact m1 | exact m2 | exact m3 | exact m4 | exact m5 | exact m6 | exact m7 | exact m8 | exact m9)) | ((with_reducible apply t_id); first | ((with_reducible apply t_seq)) | (apply t_region; kernel_rfl) | (apply t_drawn; kernel_rfl; decide +kernel; try simp only [List.append_eq, List.cons_append, List.nil_append]) | ((with_reducible apply t_condT); exact rfl) | ((with_reducible apply t_condD); exact rfl; all_goals first | (intro hp; try (exfalso; omega)) | skip) | ((with_reducible apply t_ret)) | ((with_reducible apply t_skip)) | ((with_reducible apply t_block))) | with_reducible apply q_thenN | with_reducible apply q_thenR | with_reducible apply q_blockR | exact Rdn.zero | apply Rdn.succ | ((with_reducible apply end_ret)) | exact rvs_nil | ((with_reducible apply rvs_cons)) | ((with_reducible apply rv_tmp); exact rfl))
            all_goals (unfold officeB; rw [all_no (l := List.range o.fl.length) (k := k) (x := k) (by simp [hlt]) hpx]; simp; rfl)
          | true =>
            have hv : m1 + m3 ≤ x.seats ∧ (m1 + m3 = x.seats ∨ m2 ≤ 0) := by
              rw [hpx] at hsv
              have h2 := hsv.symm
              simp only [Bool.and_eq_true, Bool.or_eq_true, decide_eq_true_eq] at h2
              exact h2
            have hkp2 : ∀ y, y < k + 1 → seatB o.fl o.bk y = true := fun y hy => by
              rcases (by omega : y < k ∨ y = k) with h | rfl
              · exact hkp y h
              · exact hpx
            repeat' (first | ((with_reducible apply oq_id); first | (focus ((with_reducible apply oq_indexAddrN); exact rfl; exact rfl; exact rfl; exact rfl; omega)) | (apply oq_fn; exact rfl; first | exact trivial | (refine ⟨?_, ?_⟩ <;> omega) | (refine ⟨?_, ?_, ?_⟩ <;> omega) | omega | skip) | ((with_reducible apply oq_load); exact rfl; exact rfl) | ((with_reducible apply oq_loadAgg); exact rfl; exact rfl) | ((with_reducible apply oq_call (k := 67) (hc := Try.call67)); exact rfl; exact rfl; exact fun D w1 hw1 => HM1 w1 hw1.ext.ext) | ((with_reducible apply oq_call (k := 67) (hc := Try.call67)); exact rfl; exact rfl; exact fun D w1 hw1 => HM2 w1 hw1.ext.ext) | ((with_reducible apply oq_call (k := 67) (hc := Try.call67)); exact rfl; exact rfl; exact fun D w1 hw1 => HM3 w1 hw1.ext.ext)) | ((with_reducible apply tl_id); first | ((with_reducible apply tl_nil)) | ((with_reducible apply u_q); exact rfl; exact rfl; exact rfl; exact rfl) | ((with_reducible apply u_skip); exact rfl; exact rfl; exact rfl) | ((with_reducible apply u_splitD); exact rfl; exact rfl; all_goals first | (intro hp; try (exfalso; omega)) | skip)) | ((with_reducible apply gx_id); first | ((with_reducible apply v_nil)) | ((with_reducible apply v_q); exact rfl; exact rfl; exact rfl)) | ((with_reducible apply rd_id); first | (apply Rd.own; (repeat (first | exact P0 | apply P1)); exact rfl; done) | (apply Rd.old; (first | (with_reducible assumption) | exact c0 | exact c1 | exact c2 | exact c3 | exact c4 | exact c5 | exact c6 | exact c7 | exact c8 | exact d0 | exact d1 | exact d2 | exact d3 | exact d4 | exact d5); first | exact List.not_mem_nil | exact m0 | exact m1 | exact m2 | exact m3 | exact m4 | exact m5 | exact m6 | exact m7 | exact m8 | exact m9)) | ((with_reducible apply t_id); first | ((with_reducible apply t_seq)) | (apply t_region; kernel_rfl) | (apply t_drawn; kernel_rfl; decide +kernel; try simp only [List.append_eq, List.cons_append, List.nil_append]) | ((with_reducible apply t_condF); exact rfl) | ((with_reducible apply t_condD); exact rfl; all_goals first | (intro hp; try (exfalso; omega)) | skip) | ((with_reducible apply t_skip)) | ((with_reducible apply t_block))) | with_reducible apply q_thenN | with_reducible apply q_blockN | exact Rdn.zero | apply Rdn.succ)
            all_goals (refine ⟨k + 1, ⟨by omega, hkp2⟩, by omega, ?_, ?_⟩)
            all_goals ((try simp only [List.cons_append, List.nil_append]); (repeat' (first | exact FrSub.nil | (apply FrSub.cons; exact rfl) | exact HpSub.refl _)))
        · have hsa : (List.range o.fl.length).all (seatB o.fl o.bk) = true := by
            rw [List.all_eq_true]
            exact fun j hj => hkp j (by have := List.mem_range.1 hj; omega)
          have HS := fun w1 (hx1 : Ext w w1) => refSums_calls o A cf B cb w1 (hA.ext hx1) (hB.ext hx1) hd hb (by omega)
          have hin := sums_in hd hb (Nat.le_refl o.bk.length)
          rw [sums_all (Nat.le_refl _)] at hin
          have hof : officeB o = moneyB o := by unfold officeB; rw [hh, hda, hba, hsa]; rfl
          rw [hof]
          unfold moneyB
          obtain ⟨⟨s1, s2, s3, s4⟩, hSS⟩ : ∃ q, sumsV o.fl o.bk = q := ⟨_, rfl⟩
          rw [hSS] at HS hin ⊢
          unfold Small at hin
          simp only at HS hin ⊢
          repeat' (first | ((with_reducible apply oq_id); first | (apply oq_fn; exact rfl; first | exact trivial | (refine ⟨?_, ?_⟩ <;> omega) | (refine ⟨?_, ?_, ?_⟩ <;> omega) | omega | skip) | ((with_reducible apply oq_load); exact rfl; exact rfl) | ((with_reducible apply oq_loadAgg); exact rfl; exact rfl) | ((with_reducible apply oq_call (k := 69) (hc := Try.call69)); exact rfl; exact rfl; exact fun D w1 hw1 => HS w1 hw1.ext.ext)) | ((with_reducible apply tl_id); first | ((with_reducible apply tl_nil)) | ((with_reducible apply u_q); exact rfl; exact rfl; exact rfl; exact rfl) | ((with_reducible apply u_skip); exact rfl; exact rfl; exact rfl) | ((with_reducible apply u_splitD); exact rfl; exact rfl; all_goals first | (intro hp; try (exfalso; omega)) | skip)) | ((with_reducible apply rd_id); first | (apply Rd.own; (repeat (first | exact P0 | apply P1)); exact rfl; done)) | ((with_reducible apply t_id); first | ((with_reducible apply t_seq)) | (apply t_region; kernel_rfl) | ((with_reducible apply t_condD); exact rfl; all_goals first | (intro hp; try (exfalso; omega)) | skip) | ((with_reducible apply t_ret)) | ((with_reducible apply t_exit))) | with_reducible apply q_thenN | with_reducible apply q_thenE | ((with_reducible apply q_blockE); exact rfl) | exact Rdn.zero | apply Rdn.succ | ((with_reducible apply end_ret)) | exact rvs_nil | ((with_reducible apply rvs_cons)) | ((with_reducible apply rv_tmp); exact rfl))
          all_goals (first | rfl | (simp_all; done) | (rename_i h; simp [h]; rfl) | (simp [*]; rfl))
  · have hof : officeB o = false := by
      unfold officeB
      rw [show headB o = false by simpa using hh]
      rfl
    rw [hof]
    have hno : ¬ (0 ≤ o.now ∧ o.now ≤ 1000000 ∧ 0 ≤ o.notice ∧ o.notice ≤ 1000000 ∧ 0 ≤ o.fee ∧ o.fee ≤ 100 ∧ o.fl.length ≤ 10 ∧ o.bk.length ≤ 120) := fun h => hh (by unfold headB; simpa using h)
    by_cases h1 : 0 ≤ o.now ∧ o.now ≤ 1000000
    · have HW1 := fun w1 => withinQ (allFrom_t (lo := 0) (hi := 1000000) (z := o.now) h1) w1
      by_cases h2 : 0 ≤ o.notice ∧ o.notice ≤ 1000000
      · have HW2 := fun w1 => withinQ (allFrom_t (lo := 0) (hi := 1000000) (z := o.notice) h2) w1
        by_cases h3 : 0 ≤ o.fee ∧ o.fee ≤ 100
        · have HW3 := fun w1 => withinQ (allFrom_t (lo := 0) (hi := 100) (z := o.fee) h3) w1
          refine enterQ (c := cx w 129) Try.func65 rfl rfl rfl rfl ?_
          repeat' (first | ((with_reducible apply oq_id); first | (apply oq_fn; exact rfl; first | exact trivial | (refine ⟨?_, ?_⟩ <;> omega) | (refine ⟨?_, ?_, ?_⟩ <;> omega) | omega | skip) | ((with_reducible apply oq_load); exact rfl; exact rfl) | ((with_reducible apply oq_call (k := 66) (hc := Try.call66)); exact rfl; exact rfl; exact fun D w1 hw1 => HW1 w1) | ((with_reducible apply oq_call (k := 66) (hc := Try.call66)); exact rfl; exact rfl; exact fun D w1 hw1 => HW2 w1) | ((with_reducible apply oq_call (k := 66) (hc := Try.call66)); exact rfl; exact rfl; exact fun D w1 hw1 => HW3 w1)) | ((with_reducible apply tl_id); first | ((with_reducible apply tl_nil)) | ((with_reducible apply u_q); exact rfl; exact rfl; exact rfl; exact rfl) | ((with_reducible apply u_s); exact rfl; exact rfl; exact rfl) | ((with_reducible apply u_skip); exact rfl; exact rfl; exact rfl) | ((with_reducible apply u_splitD); exact rfl; exact rfl; all_goals first | (intro hp; try (exfalso; omega)) | skip)) | ((with_reducible apply os_id); first | ((with_reducible apply os_x); exact rfl)) | ((with_reducible apply ox_id); first | ((with_reducible apply ox_boxAgg); exact rfl; intro _)) | ((with_reducible apply rd_id); first | (apply Rd.own; (repeat (first | exact P0 | apply P1)); exact rfl; done)) | ((with_reducible apply t_id); first | ((with_reducible apply t_seq)) | (apply t_region; kernel_rfl) | ((with_reducible apply t_condT); exact rfl) | ((with_reducible apply t_condD); exact rfl; all_goals first | (intro hp; try (exfalso; omega)) | skip) | ((with_reducible apply t_ret))) | with_reducible apply q_thenN | with_reducible apply q_thenR | ((with_reducible apply end_ret)) | exact rvs_nil | ((with_reducible apply rvs_cons)) | ((with_reducible apply rv_tmp); exact rfl))
          all_goals rfl
        · have HW3 := fun w1 => withinQ (allFrom_f (lo := 0) (hi := 100) (z := o.fee) h3) w1
          refine enterQ (c := cx w 129) Try.func65 rfl rfl rfl rfl ?_
          repeat' (first | ((with_reducible apply oq_id); first | (apply oq_fn; exact rfl; first | exact trivial | (refine ⟨?_, ?_⟩ <;> omega) | (refine ⟨?_, ?_, ?_⟩ <;> omega) | omega | skip) | ((with_reducible apply oq_load); exact rfl; exact rfl) | ((with_reducible apply oq_call (k := 66) (hc := Try.call66)); exact rfl; exact rfl; exact fun D w1 hw1 => HW1 w1) | ((with_reducible apply oq_call (k := 66) (hc := Try.call66)); exact rfl; exact rfl; exact fun D w1 hw1 => HW2 w1) | ((with_reducible apply oq_call (k := 66) (hc := Try.call66)); exact rfl; exact rfl; exact fun D w1 hw1 => HW3 w1)) | ((with_reducible apply tl_id); first | ((with_reducible apply tl_nil)) | ((with_reducible apply u_q); exact rfl; exact rfl; exact rfl; exact rfl) | ((with_reducible apply u_s); exact rfl; exact rfl; exact rfl) | ((with_reducible apply u_skip); exact rfl; exact rfl; exact rfl)) | ((with_reducible apply os_id); first | ((with_reducible apply os_x); exact rfl)) | ((with_reducible apply ox_id); first | ((with_reducible apply ox_boxAgg); exact rfl; intro _)) | ((with_reducible apply rd_id); first | (apply Rd.own; (repeat (first | exact P0 | apply P1)); exact rfl; done)) | ((with_reducible apply t_id); first | ((with_reducible apply t_seq)) | (apply t_region; kernel_rfl) | ((with_reducible apply t_condT); exact rfl) | ((with_reducible apply t_ret))) | with_reducible apply q_thenN | with_reducible apply q_thenR | ((with_reducible apply end_ret)) | exact rvs_nil | ((with_reducible apply rvs_cons)) | ((with_reducible apply rv_tmp); exact rfl))
          all_goals rfl
      · have HW2 := fun w1 => withinQ (allFrom_f (lo := 0) (hi := 1000000) (z := o.notice) h2) w1
        refine enterQ (c := cx w 129) Try.func65 rfl rfl rfl rfl ?_
        repeat' (first | ((with_reducible apply oq_id); first | (apply oq_fn; exact rfl; first | exact trivial | (refine ⟨?_, ?_⟩ <;> omega) | (refine ⟨?_, ?_, ?_⟩ <;> omega) | omega | skip) | ((with_reducible apply oq_load); exact rfl; exact rfl) | ((with_reducible apply oq_call (k := 66) (hc := Try.call66)); exact rfl; exact rfl; exact fun D w1 hw1 => HW1 w1) | ((with_reducible apply oq_call (k := 66) (hc := Try.call66)); exact rfl; exact rfl; exact fun D w1 hw1 => HW2 w1)) | ((with_reducible apply tl_id); first | ((with_reducible apply tl_nil)) | ((with_reducible apply u_q); exact rfl; exact rfl; exact rfl; exact rfl) | ((with_reducible apply u_s); exact rfl; exact rfl; exact rfl) | ((with_reducible apply u_skip); exact rfl; exact rfl; exact rfl)) | ((with_reducible apply os_id); first | ((with_reducible apply os_x); exact rfl)) | ((with_reducible apply ox_id); first | ((with_reducible apply ox_boxAgg); exact rfl; intro _)) | ((with_reducible apply rd_id); first | (apply Rd.own; (repeat (first | exact P0 | apply P1)); exact rfl; done)) | ((with_reducible apply t_id); first | ((with_reducible apply t_seq)) | (apply t_region; kernel_rfl) | ((with_reducible apply t_condT); exact rfl) | ((with_reducible apply t_ret))) | with_reducible apply q_thenN | with_reducible apply q_thenR | ((with_reducible apply end_ret)) | exact rvs_nil | ((with_reducible apply rvs_cons)) | ((with_reducible apply rv_tmp); exact rfl))
        all_goals rfl
    · have HW1 := fun w1 => withinQ (allFrom_f (lo := 0) (hi := 1000000) (z := o.now) h1) w1
      refine enterQ (c := cx w 129) Try.func65 rfl rfl rfl rfl ?_
      repeat' (first | ((with_reducible apply oq_id); first | (apply oq_fn; exact rfl; first | exact trivial | (refine ⟨?_, ?_⟩ <;> omega) | (refine ⟨?_, ?_, ?_⟩ <;> omega) | omega | skip) | ((with_reducible apply oq_load); exact rfl; exact rfl) | ((with_reducible apply oq_call (k := 66) (hc := Try.call66)); exact rfl; exact rfl; exact fun D w1 hw1 => HW1 w1)) | ((with_reducible apply tl_id); first | ((with_reducible apply tl_nil)) | ((with_reducible apply u_q); exact rfl; exact rfl; exact rfl; exact rfl) | ((with_reducible apply u_s); exact rfl; exact rfl; exact rfl) | ((with_reducible apply u_skip); exact rfl; exact rfl; exact rfl)) | ((with_reducible apply os_id); first | ((with_reducible apply os_x); exact rfl)) | ((with_reducible apply ox_id); first | ((with_reducible apply ox_boxAgg); exact rfl; intro _)) | ((with_reducible apply rd_id); first | (apply Rd.own; (repeat (first | exact P0 | apply P1)); exact rfl; done)) | ((with_reducible apply t_id); first | ((with_reducible apply t_seq)) | (apply t_region; kernel_rfl) | ((with_reducible apply t_condT); exact rfl) | ((with_reducible apply t_ret))) | with_reducible apply q_thenN | with_reducible apply q_thenR | ((with_reducible apply end_ret)) | exact rvs_nil | ((with_reducible apply rvs_cons)) | ((with_reducible apply rv_tmp); exact rfl))
      all_goals rfl

end Go.Proofs.Ytmlmgipngbndgaa
