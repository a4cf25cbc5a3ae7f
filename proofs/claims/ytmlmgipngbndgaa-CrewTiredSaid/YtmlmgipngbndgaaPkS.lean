/- Rosters, the reference's. -/
import Derived.Test.YtmlmgipngbndgaaPkQ
import Derived.Test.YtmlmgipngbndgaaPkC
import Derived.Test.YtmlmgipngbndgaaPkE
import Derived.Test.YtmlmgipngbndgaaPkD
import Derived.Test.YtmlmgipngbndgaaPkR
import Derived.Test.YtmlmgipngbndgaaPkN
/- The reference's: limits of duty, rosters, and what was worked. -/
namespace Go.Proofs.Ytmlmgipngbndgaa
open Go.RowKit
attribute [local irreducible] OQ OS OX Rd T TL GX GL AL AI RV wpG SAny Calls
set_option maxRecDepth 100000
set_option maxHeartbeats 2000000
set_option linter.unusedVariables false
set_option linter.unusedSimpArgs false

theorem sh_read {w : World} {A : Option Addr} {n : Nat} {l : List Sh} (h : RdS w 3 A n (l.map shCells)) {i : Nat} (hi : i < n) :
    ∃ b o x, A = some ⟨b, o, none⟩ ∧ b < w.heap.size ∧ l[i]? = some x ∧ w.cell? ⟨b, o + i * 3, none⟩ = some (.int .i64 x.who) ∧ w.cell? ⟨b, o + i * 3 + 1, none⟩ = some (.int .i64 x.fr) ∧ w.cell? ⟨b, o + i * 3 + 2, none⟩ = some (.int .i64 x.to) := by
  obtain ⟨b, o, cs, hA, hb, hx, _, hc⟩ := h.row hi
  simp only [List.getElem?_map, Option.map_eq_some_iff] at hx
  obtain ⟨x, hx, rfl⟩ := hx
  exact ⟨b, o, x, hA, hb, hx, hc 0 _ rfl, hc 1 _ rfl, hc 2 _ rfl⟩
theorem allFrom_1 {lo hi z : Int} : allFrom lo hi [z] = true ↔ lo ≤ z ∧ z ≤ hi := by
  unfold allFrom; simp

theorem refDuty_calls (d : Du) (w : World) : Calls Try.prog 45 #[.agg #[.int .i64 d.most, .int .i64 d.rest, .int .i64 d.win, .int .i64 d.sum]] w fun e w' => e = .returned (.int .i64 (duE d)) ∧ Ext w w' := by
  obtain ⟨q1, hq1⟩ : ∃ q, allFrom 1 100000 [d.most] = q := ⟨_, rfl⟩
  obtain ⟨q2, hq2⟩ : ∃ q, allFrom 0 100000 [d.rest] = q := ⟨_, rfl⟩
  obtain ⟨q3, hq3⟩ : ∃ q, allFrom 1 100000 [d.win] = q := ⟨_, rfl⟩
  obtain ⟨q4, hq4⟩ : ∃ q, allFrom 0 d.win [d.sum] = q := ⟨_, rfl⟩
  have e1 : q1 = true ↔ 1 ≤ d.most ∧ d.most ≤ 100000 := by rw [← hq1]; exact allFrom_1
  have e2 : q2 = true ↔ 0 ≤ d.rest ∧ d.rest ≤ 100000 := by rw [← hq2]; exact allFrom_1
  have e3 : q3 = true ↔ 1 ≤ d.win ∧ d.win ≤ 100000 := by rw [← hq3]; exact allFrom_1
  have e4 : q4 = true ↔ 0 ≤ d.sum ∧ d.sum ≤ d.win := by rw [← hq4]; exact allFrom_1
  have hdu : duB d ↔ q1 = true ∧ q2 = true ∧ q3 = true ∧ q4 = true := by rw [e1, e2, e3, e4]; unfold duB; omega
  unfold duE
  cases q1 with
  | false =>
    rw [if_neg (fun h => by have := (hdu.1 h).1; cases this)]
    refine enterQ (c := cx w 27) Try.func45 rfl rfl rfl rfl ?_
    repeat' (first | ((with_reducible apply oq_id); first | (apply oq_fn; exact rfl; first | exact trivial | (refine ⟨?_, ?_⟩ <;> omega) | (refine ⟨?_, ?_, ?_⟩ <;> omega) | omega | skip) | ((with_reducible apply oq_load); exact rfl; exact rfl) | ((with_reducible apply oq_call (k := 66) (hc := Try.call66)); exact rfl; exact rfl; exact fun D w1 hw1 => withinQ hq1 w1)) | ((with_reducible apply tl_id); first | ((with_reducible apply tl_nil)) | ((with_reducible apply u_q); exact rfl; exact rfl; exact rfl; exact rfl) | ((with_reducible apply u_s); exact rfl; exact rfl; exact rfl) | ((with_reducible apply u_skip); exact rfl; exact rfl; exact rfl)) | ((with_reducible apply os_id); first | ((with_reducible apply os_x); exact rfl)) | ((with_reducible apply ox_id); first | ((with_reducible apply ox_boxAgg); exact rfl; intro _)) | ((with_reducible apply rd_id); first | (apply Rd.own; (repeat (first | exact P0 | apply P1)); exact rfl; done)) | ((with_reducible apply t_id); first | ((with_reducible apply t_seq)) | (apply t_region; kernel_rfl) | ((with_reducible apply t_condT); exact rfl) | ((with_reducible apply t_ret))) | with_reducible apply q_thenN | with_reducible apply q_thenR | ((with_reducible apply end_ret)) | exact rvs_nil | ((with_reducible apply rvs_cons)) | ((with_reducible apply rv_tmp); exact rfl))
    all_goals rfl
  | true =>
    cases q2 with
    | false =>
      rw [if_neg (fun h => by have := (hdu.1 h).2.1; cases this)]
      refine enterQ (c := cx w 27) Try.func45 rfl rfl rfl rfl ?_
      repeat' (first | ((with_reducible apply oq_id); first | (apply oq_fn; exact rfl; first | exact trivial | (refine ⟨?_, ?_⟩ <;> omega) | (refine ⟨?_, ?_, ?_⟩ <;> omega) | omega | skip) | ((with_reducible apply oq_load); exact rfl; exact rfl) | ((with_reducible apply oq_call (k := 66) (hc := Try.call66)); exact rfl; exact rfl; exact fun D w1 hw1 => withinQ hq1 w1) | ((with_reducible apply oq_call (k := 66) (hc := Try.call66)); exact rfl; exact rfl; exact fun D w1 hw1 => withinQ hq2 w1)) | ((with_reducible apply tl_id); first | ((with_reducible apply tl_nil)) | ((with_reducible apply u_q); exact rfl; exact rfl; exact rfl; exact rfl) | ((with_reducible apply u_s); exact rfl; exact rfl; exact rfl) | ((with_reducible apply u_skip); exact rfl; exact rfl; exact rfl)) | ((with_reducible apply os_id); first | ((with_reducible apply os_x); exact rfl)) | ((with_reducible apply ox_id); first | ((with_reducible apply ox_boxAgg); exact rfl; intro _)) | ((with_reducible apply rd_id); first | (apply Rd.own; (repeat (first | exact P0 | apply P1)); exact rfl; done)) | ((with_reducible apply t_id); first | ((with_reducible apply t_seq)) | (apply t_region; kernel_rfl) | ((with_reducible apply t_condT); exact rfl) | ((with_reducible apply t_ret))) | with_reducible apply q_thenN | with_reducible apply q_thenR | ((with_reducible apply end_ret)) | exact rvs_nil | ((with_reducible apply rvs_cons)) | ((with_reducible apply rv_tmp); exact rfl))
      all_goals rfl
    | true =>
      cases q3 with
      | false =>
        rw [if_neg (fun h => by have := (hdu.1 h).2.2.1; cases this)]
        refine enterQ (c := cx w 27) Try.func45 rfl rfl rfl rfl ?_
        repeat' (first | ((with_reducible apply oq_id); first | (apply oq_fn; exact rfl; first | exact trivial | (refine ⟨?_, ?_⟩ <;> omega) | (refine ⟨?_, ?_, ?_⟩ <;> omega) | omega | skip) | ((with_reducible apply oq_load); exact rfl; exact rfl) | ((with_reducible apply oq_call (k := 66) (hc := Try.call66)); exact rfl; exact rfl; exact fun D w1 hw1 => withinQ hq1 w1) | ((with_reducible apply oq_call (k := 66) (hc := Try.call66)); exact rfl; exact rfl; exact fun D w1 hw1 => withinQ hq2 w1) | ((with_reducible apply oq_call (k := 66) (hc := Try.call66)); exact rfl; exact rfl; exact fun D w1 hw1 => withinQ hq3 w1)) | ((with_reducible apply tl_id); first | ((with_reducible apply tl_nil)) | ((with_reducible apply u_q); exact rfl; exact rfl; exact rfl; exact rfl) | ((with_reducible apply u_s); exact rfl; exact rfl; exact rfl) | ((with_reducible apply u_skip); exact rfl; exact rfl; exact rfl)) | ((with_reducible apply os_id); first | ((with_reducible apply os_x); exact rfl)) | ((with_reducible apply ox_id); first | ((with_reducible apply ox_boxAgg); exact rfl; intro _)) | ((with_reducible apply rd_id); first | (apply Rd.own; (repeat (first | exact P0 | apply P1)); exact rfl; done)) | ((with_reducible apply t_id); first | ((with_reducible apply t_seq)) | (apply t_region; kernel_rfl) | ((with_reducible apply t_condT); exact rfl) | ((with_reducible apply t_ret))) | with_reducible apply q_thenN | with_reducible apply q_thenR | ((with_reducible apply end_ret)) | exact rvs_nil | ((with_reducible apply rvs_cons)) | ((with_reducible apply rv_tmp); exact rfl))
        all_goals rfl
      | true =>
        cases q4 with
        | false =>
          rw [if_neg (fun h => by have := (hdu.1 h).2.2.2; cases this)]
          refine enterQ (c := cx w 27) Try.func45 rfl rfl rfl rfl ?_
          repeat' (first | ((with_reducible apply oq_id); first | (apply oq_fn; exact rfl; first | exact trivial | (refine ⟨?_, ?_⟩ <;> omega) | (refine ⟨?_, ?_, ?_⟩ <;> omega) | omega | skip) | ((with_reducible apply oq_load); exact rfl; exact rfl) | ((with_reducible apply oq_call (k := 66) (hc := Try.call66)); exact rfl; exact rfl; exact fun D w1 hw1 => withinQ hq1 w1) | ((with_reducible apply oq_call (k := 66) (hc := Try.call66)); exact rfl; exact rfl; exact fun D w1 hw1 => withinQ hq2 w1) | ((with_reducible apply oq_call (k := 66) (hc := Try.call66)); exact rfl; exact rfl; exact fun D w1 hw1 => withinQ hq3 w1) | ((with_reducible apply oq_call (k := 66) (hc := Try.call66)); exact rfl; exact rfl; exact fun D w1 hw1 => withinQ hq4 w1)) | ((with_reducible apply tl_id); first | ((with_reducible apply tl_nil)) | ((with_reducible apply u_q); exact rfl; exact rfl; exact rfl; exact rfl) | ((with_reducible apply u_s); exact rfl; exact rfl; exact rfl)) | ((with_reducible apply os_id); first | ((with_reducible apply os_x); exact rfl)) | ((with_reducible apply ox_id); first | ((with_reducible apply ox_boxAgg); exact rfl; intro _)) | ((with_reducible apply rd_id); first | (apply Rd.own; (repeat (first | exact P0 | apply P1)); exact rfl; done)) | ((with_reducible apply t_id); first | ((with_reducible apply t_seq)) | (apply t_region; kernel_rfl) | ((with_reducible apply t_condT); exact rfl) | ((with_reducible apply t_ret))) | with_reducible apply q_thenN | with_reducible apply q_thenR | ((with_reducible apply end_ret)) | exact rvs_nil | ((with_reducible apply rvs_cons)) | ((with_reducible apply rv_tmp); exact rfl))
          all_goals rfl
        | true =>
          rw [if_pos (hdu.2 ⟨rfl, rfl, rfl, rfl⟩)]
          refine enterQ (c := cx w 27) Try.func45 rfl rfl rfl rfl ?_
          repeat' (first | ((with_reducible apply oq_id); first | (apply oq_fn; exact rfl; first | exact trivial | (refine ⟨?_, ?_⟩ <;> omega) | (refine ⟨?_, ?_, ?_⟩ <;> omega) | omega | skip) | ((with_reducible apply oq_load); exact rfl; exact rfl) | ((with_reducible apply oq_call (k := 66) (hc := Try.call66)); exact rfl; exact rfl; exact fun D w1 hw1 => withinQ hq1 w1) | ((with_reducible apply oq_call (k := 66) (hc := Try.call66)); exact rfl; exact rfl; exact fun D w1 hw1 => withinQ hq2 w1) | ((with_reducible apply oq_call (k := 66) (hc := Try.call66)); exact rfl; exact rfl; exact fun D w1 hw1 => withinQ hq3 w1) | ((with_reducible apply oq_call (k := 66) (hc := Try.call66)); exact rfl; exact rfl; exact fun D w1 hw1 => withinQ hq4 w1)) | ((with_reducible apply tl_id); first | ((with_reducible apply tl_nil)) | ((with_reducible apply u_q); exact rfl; exact rfl; exact rfl; exact rfl) | ((with_reducible apply u_s); exact rfl; exact rfl; exact rfl)) | ((with_reducible apply os_id); first | ((with_reducible apply os_x); exact rfl)) | ((with_reducible apply ox_id); first | ((with_reducible apply ox_boxAgg); exact rfl; intro _)) | ((with_reducible apply rd_id); first | (apply Rd.own; (repeat (first | exact P0 | apply P1)); exact rfl; done)) | ((with_reducible apply t_id); first | ((with_reducible apply t_seq)) | (apply t_region; kernel_rfl) | ((with_reducible apply t_condF); exact rfl) | ((with_reducible apply t_ret)) | ((with_reducible apply t_skip))) | with_reducible apply q_thenN | ((with_reducible apply end_ret)) | exact rvs_nil | ((with_reducible apply rvs_cons)) | ((with_reducible apply rv_tmp); exact rfl))
          all_goals rfl

theorem ros_bad {l : List Sh} {i : Nat} {x : Sh} (hx : l[i]? = some x) (h : ¬ shOk x ∨ ∃ j y, j < i ∧ l[j]? = some y ∧ lap y x) : ¬ Ros l := fun hr => by
  rcases h with h | ⟨j, y, hj, hy, hl⟩
  · exact h (hr.1 x (List.mem_of_getElem? hx))
  · obtain ⟨h1, rfl⟩ := List.getElem?_eq_some_iff.1 hx
    obtain ⟨h2, rfl⟩ := List.getElem?_eq_some_iff.1 hy
    exact List.pairwise_iff_getElem.1 hr.2 j i h2 h1 hj hl
theorem ros_next {l : List Sh} {i : Nat} {x : Sh} (hx : l[i]? = some x) (hr : Ros (l.take i)) (ho : shOk x) (hl : ∀ j y, j < i → l[j]? = some y → ¬ lap y x) : Ros (l.take (i + 1)) := by
  rw [List.take_add_one, hx]
  refine ⟨fun y hy => ?_, List.pairwise_append.2 ⟨hr.2, List.pairwise_singleton _ _, fun y hy z hz => ?_⟩⟩
  · rcases List.mem_append.1 hy with hy | hy
    · exact hr.1 y hy
    · obtain rfl : y = x := by simpa using hy
      exact ho
  · obtain rfl : z = x := by simpa using hz
    obtain ⟨j, hj, rfl⟩ := List.getElem_of_mem hy
    rw [List.getElem_take]
    simp only [List.length_take] at hj
    exact hl j _ (by omega) (List.getElem?_eq_getElem (by omega))
theorem refFits_calls (A : Option Addr) (n c : Nat) (l : List Sh) (w : World) (hr : RdS w 3 A n (l.map shCells)) (hn : n ≤ 1000000) :
    Calls Try.prog 85 #[.slice A n c] w fun e w' => e = .returned (.bool (decide (Ros l))) ∧ Ext w w' := by
  have hl := hr.len
  simp only [List.length_map] at hl
  refine enterQ (c := cx w 70) Try.func85 rfl rfl rfl rfl ?_
  repeat' (first | ((with_reducible apply oq_id); first | (apply oq_fn; exact rfl; first | exact trivial | (refine ⟨?_, ?_⟩ <;> omega) | (refine ⟨?_, ?_, ?_⟩ <;> omega) | omega | skip)) | ((with_reducible apply tl_id); first | ((with_reducible apply tl_nil)) | ((with_reducible apply u_q); exact rfl; exact rfl; exact rfl; exact rfl)) | ((with_reducible apply t_id); first | ((with_reducible apply t_seq)) | (apply t_region; kernel_rfl) | ((with_reducible apply t_block))) | with_reducible apply q_thenN)
  apply t_loopK (ι := Nat) [0] (fun i => [(3, .int .i64 (i : Nat))]) (fun _ => []) (fun i => i ≤ n ∧ Ros (l.take i)) (fun i => n - i) (0)
  (repeat (first | exact KeepF.nil | (apply KeepF.cons; exact rfl) | apply KeepF.skip))
  (repeat (first | exact FrSub.nil | (apply FrSub.cons; exact rfl)))
  (repeat (first | exact HpSub.refl _ | (apply HpSub.consE; (repeat (first | exact P0 | apply P1)); exact rfl) | exact HpSub.nil))
  · exact ⟨Nat.zero_le _, by simp [Ros]⟩
  rintro i ⟨hi, hri⟩
  try simp only [List.cons_append, List.nil_append]
  by_cases hlt : i < n
  · obtain ⟨b, o, x, rfl, _, hx, c0, c1, c2⟩ := sh_read hr hlt
    obtain ⟨q, hq⟩ : ∃ q, allFrom 0 5 [x.who] = q := ⟨_, rfl⟩
    by_cases ho : shOk x
    rotate_left
    · rw [decide_eq_false (ros_bad hx (.inl ho))]
      cases q with
      | false =>
        repeat' (first | ((with_reducible apply oq_id); first | (focus ((with_reducible apply oq_indexAddrN); exact rfl; exact rfl; exact rfl; exact rfl; omega)) | ((with_reducible apply oq_lssT); exact rfl; exact rfl; omega) | (apply oq_fn; exact rfl; first | exact trivial | (refine ⟨?_, ?_⟩ <;> omega) | (refine ⟨?_, ?_, ?_⟩ <;> omega) | omega | skip) | ((with_reducible apply oq_load); exact rfl; exact rfl) | ((with_reducible apply oq_loadAgg); exact rfl; exact rfl) | ((with_reducible apply oq_call (k := 66) (hc := Try.call66)); exact rfl; exact rfl; exact fun D w1 hw1 => withinQ hq w1)) | ((with_reducible apply tl_id); first | ((with_reducible apply tl_nil)) | ((with_reducible apply u_q); exact rfl; exact rfl; exact rfl; exact rfl) | ((with_reducible apply u_s0); exact rfl; exact rfl) | ((with_reducible apply u_s); exact rfl; exact rfl; exact rfl) | ((with_reducible apply u_skip); exact rfl; exact rfl; exact rfl)) | ((with_reducible apply os_id); first | ((with_reducible apply os_x); exact rfl) | ((with_reducible apply os_storeAgg); exact rfl; exact rfl; exact rfl; exact rfl; exact rfl)) | ((with_reducible apply ox_id); first | ((with_reducible apply ox_alloc); exact rfl; intro _)) | ((with_reducible apply rd_id); first | (apply Rd.old; (first | exact c0 | exact c1 | exact c2 | exact d0 | exact d1 | exact d2); exact List.not_mem_nil) | (apply Rd.own; (repeat (first | exact P0 | apply P1)); exact rfl; done)) | ((with_reducible apply t_id); first | ((with_reducible apply t_seq)) | (apply t_region; kernel_rfl) | ((with_reducible apply t_condT); exact rfl) | ((with_reducible apply t_ret)) | ((with_reducible apply t_skip)) | ((with_reducible apply t_block))) | with_reducible apply q_thenN | with_reducible apply q_thenR | with_reducible apply q_blockR | exact P0 | exact Rdn.zero | apply Rdn.succ | ((with_reducible apply Norm.nil); exact rfl) | ((with_reducible apply Norm.cons); exact rfl) | ((with_reducible apply end_ret)) | exact rvs_nil | ((with_reducible apply rvs_cons)) | ((with_reducible apply rv_tmp); exact rfl) | exact Nat.le_of_ble_eq_true rfl)
        all_goals rfl
      | true =>
        have hw : 0 ≤ x.who ∧ x.who ≤ 5 := allFrom_1.1 hq
        unfold shOk at ho
        by_cases h1 : x.fr < 0
        · repeat' (first | ((with_reducible apply oq_id); first | (focus ((with_reducible apply oq_indexAddrN); exact rfl; exact rfl; exact rfl; exact rfl; omega)) | ((with_reducible apply oq_lssT); exact rfl; exact rfl; omega) | (apply oq_fn; exact rfl; first | exact trivial | (refine ⟨?_, ?_⟩ <;> omega) | (refine ⟨?_, ?_, ?_⟩ <;> omega) | omega | skip) | ((with_reducible apply oq_load); exact rfl; exact rfl) | ((with_reducible apply oq_loadAgg); exact rfl; exact rfl) | ((with_reducible apply oq_call (k := 66) (hc := Try.call66)); exact rfl; exact rfl; exact fun D w1 hw1 => withinQ hq w1)) | ((with_reducible apply tl_id); first | ((with_reducible apply tl_nil)) | ((with_reducible apply u_q); exact rfl; exact rfl; exact rfl; exact rfl) | ((with_reducible apply u_s0); exact rfl; exact rfl) | ((with_reducible apply u_s); exact rfl; exact rfl; exact rfl) | ((with_reducible apply u_skip); exact rfl; exact rfl; exact rfl)) | ((with_reducible apply os_id); first | ((with_reducible apply os_x); exact rfl) | ((with_reducible apply os_storeAgg); exact rfl; exact rfl; exact rfl; exact rfl; exact rfl)) | ((with_reducible apply ox_id); first | ((with_reducible apply ox_alloc); exact rfl; intro _)) | ((with_reducible apply rd_id); first | (apply Rd.old; (first | exact c0 | exact c1 | exact c2 | exact d0 | exact d1 | exact d2); exact List.not_mem_nil) | (apply Rd.own; (repeat (first | exact P0 | apply P1)); exact rfl; done)) | ((with_reducible apply t_id); first | ((with_reducible apply t_seq)) | (apply t_region; kernel_rfl) | ((with_reducible apply t_condT); exact rfl) | ((with_reducible apply t_ret)) | ((with_reducible apply t_skip)) | ((with_reducible apply t_block))) | with_reducible apply q_thenN | with_reducible apply q_thenR | with_reducible apply q_blockR | exact P0 | exact Rdn.zero | apply Rdn.succ | ((with_reducible apply Norm.nil); exact rfl) | ((with_reducible apply Norm.cons); exact rfl) | ((with_reducible apply end_ret)) | exact rvs_nil | ((with_reducible apply rvs_cons)) | ((with_reducible apply rv_tmp); exact rfl) | exact Nat.le_of_ble_eq_true rfl)
          all_goals rfl
        by_cases h2 : x.to ≤ x.fr
        · repeat' (first | ((with_reducible apply oq_id); first | (focus ((with_reducible apply oq_indexAddrN); exact rfl; exact rfl; exact rfl; exact rfl; omega)) | ((with_reducible apply oq_lssT); exact rfl; exact rfl; omega) | ((with_reducible apply oq_lssF); exact rfl; exact rfl; omega) | ((with_reducible apply oq_leqT); exact rfl; exact rfl; omega) | (apply oq_fn; exact rfl; first | exact trivial | (refine ⟨?_, ?_⟩ <;> omega) | (refine ⟨?_, ?_, ?_⟩ <;> omega) | omega | skip) | ((with_reducible apply oq_load); exact rfl; exact rfl) | ((with_reducible apply oq_loadAgg); exact rfl; exact rfl) | ((with_reducible apply oq_call (k := 66) (hc := Try.call66)); exact rfl; exact rfl; exact fun D w1 hw1 => withinQ hq w1)) | ((with_reducible apply tl_id); first | ((with_reducible apply tl_nil)) | ((with_reducible apply u_q); exact rfl; exact rfl; exact rfl; exact rfl) | ((with_reducible apply u_s0); exact rfl; exact rfl) | ((with_reducible apply u_s); exact rfl; exact rfl; exact rfl) | ((with_reducible apply u_skip); exact rfl; exact rfl; exact rfl)) | ((with_reducible apply os_id); first | ((with_reducible apply os_x); exact rfl) | ((with_reducible apply os_storeAgg); exact rfl; exact rfl; exact rfl; exact rfl; exact rfl)) | ((with_reducible apply ox_id); first | ((with_reducible apply ox_alloc); exact rfl; intro _)) | ((with_reducible apply rd_id); first | (apply Rd.old; (first | exact c0 | exact c1 | exact c2 | exact d0 | exact d1 | exact d2); exact List.not_mem_nil) | (apply Rd.own; (repeat (first | exact P0 | apply P1)); exact rfl; done)) | ((with_reducible apply t_id); first | ((with_reducible apply t_seq)) | (apply t_region; kernel_rfl) | ((with_reducible apply t_condT); exact rfl) | ((with_reducible apply t_ret)) | ((with_reducible apply t_skip)) | ((with_reducible apply t_block))) | with_reducible apply q_thenN | with_reducible apply q_thenR | with_reducible apply q_blockR | exact P0 | exact Rdn.zero | apply Rdn.succ | ((with_reducible apply Norm.nil); exact rfl) | ((with_reducible apply Norm.cons); exact rfl) | ((with_reducible apply end_ret)) | exact rvs_nil | ((with_reducible apply rvs_cons)) | ((with_reducible apply rv_tmp); exact rfl) | exact Nat.le_of_ble_eq_true rfl)
          all_goals rfl
        have h3 : 1000000 < x.to := by omega
        repeat' (first | ((with_reducible apply oq_id); first | (focus ((with_reducible apply oq_indexAddrN); exact rfl; exact rfl; exact rfl; exact rfl; omega)) | ((with_reducible apply oq_lssT); exact rfl; exact rfl; omega) | ((with_reducible apply oq_lssF); exact rfl; exact rfl; omega) | ((with_reducible apply oq_leqF); exact rfl; exact rfl; omega) | ((with_reducible apply oq_gtrT); exact rfl; exact rfl; omega) | (apply oq_fn; exact rfl; first | exact trivial | (refine ⟨?_, ?_⟩ <;> omega) | (refine ⟨?_, ?_, ?_⟩ <;> omega) | omega | skip) | ((with_reducible apply oq_load); exact rfl; exact rfl) | ((with_reducible apply oq_loadAgg); exact rfl; exact rfl) | ((with_reducible apply oq_call (k := 66) (hc := Try.call66)); exact rfl; exact rfl; exact fun D w1 hw1 => withinQ hq w1)) | ((with_reducible apply tl_id); first | ((with_reducible apply tl_nil)) | ((with_reducible apply u_q); exact rfl; exact rfl; exact rfl; exact rfl) | ((with_reducible apply u_s0); exact rfl; exact rfl) | ((with_reducible apply u_s); exact rfl; exact rfl; exact rfl)) | ((with_reducible apply os_id); first | ((with_reducible apply os_x); exact rfl) | ((with_reducible apply os_storeAgg); exact rfl; exact rfl; exact rfl; exact rfl; exact rfl)) | ((with_reducible apply ox_id); first | ((with_reducible apply ox_alloc); exact rfl; intro _)) | ((with_reducible apply rd_id); first | (apply Rd.old; (first | exact c0 | exact c1 | exact c2 | exact d0 | exact d1 | exact d2); exact List.not_mem_nil) | (apply Rd.own; (repeat (first | exact P0 | apply P1)); exact rfl; done)) | ((with_reducible apply t_id); first | ((with_reducible apply t_seq)) | (apply t_region; kernel_rfl) | ((with_reducible apply t_condT); exact rfl) | ((with_reducible apply t_ret)) | ((with_reducible apply t_skip)) | ((with_reducible apply t_block))) | with_reducible apply q_thenN | with_reducible apply q_thenR | with_reducible apply q_blockR | exact P0 | exact Rdn.zero | apply Rdn.succ | ((with_reducible apply Norm.nil); exact rfl) | ((with_reducible apply Norm.cons); exact rfl) | ((with_reducible apply end_ret)) | exact rvs_nil | ((with_reducible apply rvs_cons)) | ((with_reducible apply rv_tmp); exact rfl) | exact Nat.le_of_ble_eq_true rfl)
        all_goals rfl
    have ho' := ho
    unfold shOk at ho'
    obtain rfl : q = true := by rw [← hq]; exact allFrom_1.2 ho'.1
    repeat' (first | ((with_reducible apply oq_id); first | (focus ((with_reducible apply oq_indexAddrN); exact rfl; exact rfl; exact rfl; exact rfl; omega)) | ((with_reducible apply oq_lssT); exact rfl; exact rfl; omega) | ((with_reducible apply oq_lssF); exact rfl; exact rfl; omega) | ((with_reducible apply oq_leqF); exact rfl; exact rfl; omega) | ((with_reducible apply oq_gtrF); exact rfl; exact rfl; omega) | (apply oq_fn; exact rfl; first | exact trivial | (refine ⟨?_, ?_⟩ <;> omega) | (refine ⟨?_, ?_, ?_⟩ <;> omega) | omega | skip) | ((with_reducible apply oq_load); exact rfl; exact rfl) | ((with_reducible apply oq_loadAgg); exact rfl; exact rfl) | ((with_reducible apply oq_call (k := 66) (hc := Try.call66)); exact rfl; exact rfl; exact fun D w1 hw1 => withinQ hq w1)) | ((with_reducible apply tl_id); first | ((with_reducible apply tl_nil)) | ((with_reducible apply u_q); exact rfl; exact rfl; exact rfl; exact rfl) | ((with_reducible apply u_s0); exact rfl; exact rfl) | ((with_reducible apply u_s); exact rfl; exact rfl; exact rfl)) | ((with_reducible apply os_id); first | ((with_reducible apply os_x); exact rfl) | ((with_reducible apply os_storeAgg); exact rfl; exact rfl; exact rfl; exact rfl; exact rfl)) | ((with_reducible apply ox_id); first | ((with_reducible apply ox_alloc); exact rfl; intro _)) | ((with_reducible apply rd_id); first | (apply Rd.old; (first | exact c0 | exact c1 | exact c2 | exact d0 | exact d1 | exact d2); exact List.not_mem_nil) | (apply Rd.own; (repeat (first | exact P0 | apply P1)); exact rfl; done)) | ((with_reducible apply t_id); first | ((with_reducible apply t_seq)) | (apply t_region; kernel_rfl) | ((with_reducible apply t_condT); exact rfl) | ((with_reducible apply t_condF); exact rfl) | ((with_reducible apply t_skip)) | ((with_reducible apply t_block))) | with_reducible apply q_thenN | exact P0 | exact Rdn.zero | apply Rdn.succ | ((with_reducible apply Norm.nil); exact rfl) | ((with_reducible apply Norm.cons); exact rfl) | exact Nat.le_of_ble_eq_true rfl)
    rename_i b4
    apply t_loopK (GH := []) (ι := Nat) [0, 3, 4] (fun k => [(5, .int .i64 (k : Nat))]) (fun _ => [(b4, [.int .i64 x.who, .int .i64 x.fr, .int .i64 x.to], some (101, 3, 1))]) (fun k => k ≤ i ∧ ∀ j y, j < k → l[j]? = some y → ¬ lap y x) (fun k => i - k) (0)
    (repeat (first | exact KeepF.nil | (apply KeepF.cons; exact rfl) | apply KeepF.skip))
    (repeat (first | exact FrSub.nil | (apply FrSub.cons; exact rfl)))
    (repeat (first | exact HpSub.refl _ | (apply HpSub.consE; (repeat (first | exact P0 | apply P1)); exact rfl) | exact HpSub.nil))
    · exact ⟨Nat.zero_le _, fun j y hj => by omega⟩
    rintro k ⟨hk, hno⟩
    try simp only [List.cons_append, List.nil_append]
    by_cases hki : k < i
    · obtain ⟨b', o', y, hbb, _, hy, d0, d1, d2⟩ := sh_read hr (show k < n by omega)
      cases hbb
      have hst : ¬ lap y x → ∀ j z, j < k + 1 → l[j]? = some z → ¬ lap z x := fun h j z hj hz => by
        by_cases hjk : j = k
        · subst hjk; rw [hy] at hz; cases hz; exact h
        · exact hno j z (by omega) hz
      by_cases h1 : y.who = x.who
      · by_cases h2 : y.fr < x.to
        · by_cases h3 : x.fr < y.to
          · rw [decide_eq_false (ros_bad hx (.inr ⟨k, y, hki, hy, h1, h2, h3⟩))]
            repeat' (first | ((with_reducible apply oq_id); first | (focus ((with_reducible apply oq_indexAddrN); exact rfl; exact rfl; exact rfl; exact rfl; omega)) | ((with_reducible apply oq_lssT); exact rfl; exact rfl; omega) | ((with_reducible apply oq_eqlT); exact rfl; exact rfl; omega) | (apply oq_fn; exact rfl; first | exact trivial | (refine ⟨?_, ?_⟩ <;> omega) | (refine ⟨?_, ?_, ?_⟩ <;> omega) | omega | skip) | ((with_reducible apply oq_load); exact rfl; exact rfl)) | ((with_reducible apply tl_id); first | ((with_reducible apply tl_nil)) | ((with_reducible apply u_q); exact rfl; exact rfl; exact rfl; exact rfl)) | ((with_reducible apply gx_id); first | ((with_reducible apply v_nil)) | ((with_reducible apply v_q); exact rfl; exact rfl; exact rfl)) | ((with_reducible apply rd_id); first | (apply Rd.old; (first | exact c0 | exact c1 | exact c2 | exact d0 | exact d1 | exact d2); exact List.not_mem_nil) | (apply Rd.own; (repeat (first | exact P0 | apply P1)); exact rfl; done)) | ((with_reducible apply t_id); first | ((with_reducible apply t_seq)) | (apply t_region; kernel_rfl) | (apply t_drawn; kernel_rfl; decide +kernel; try simp only [List.append_eq, List.cons_append, List.nil_append]) | ((with_reducible apply t_condT); exact rfl) | ((with_reducible apply t_ret)) | ((with_reducible apply t_skip)) | ((with_reducible apply t_block))) | with_reducible apply q_thenN | with_reducible apply q_thenR | with_reducible apply q_blockR | ((with_reducible apply end_ret)) | exact rvs_nil | ((with_reducible apply rvs_cons)) | ((with_reducible apply rv_tmp); exact rfl))
            all_goals rfl
          · repeat' (first | ((with_reducible apply oq_id); first | (focus ((with_reducible apply oq_indexAddrN); exact rfl; exact rfl; exact rfl; exact rfl; omega)) | ((with_reducible apply oq_lssT); exact rfl; exact rfl; omega) | ((with_reducible apply oq_lssF); exact rfl; exact rfl; omega) | ((with_reducible apply oq_eqlT); exact rfl; exact rfl; omega) | (apply oq_fn; exact rfl; first | exact trivial | (refine ⟨?_, ?_⟩ <;> omega) | (refine ⟨?_, ?_, ?_⟩ <;> omega) | omega | skip) | ((with_reducible apply oq_load); exact rfl; exact rfl)) | ((with_reducible apply tl_id); first | ((with_reducible apply tl_nil)) | ((with_reducible apply u_q); exact rfl; exact rfl; exact rfl; exact rfl)) | ((with_reducible apply gx_id); first | ((with_reducible apply v_nil)) | ((with_reducible apply v_q); exact rfl; exact rfl; exact rfl)) | ((with_reducible apply rd_id); first | (apply Rd.old; (first | exact c0 | exact c1 | exact c2 | exact d0 | exact d1 | exact d2); exact List.not_mem_nil) | (apply Rd.own; (repeat (first | exact P0 | apply P1)); exact rfl; done)) | ((with_reducible apply t_id); first | ((with_reducible apply t_seq)) | (apply t_region; kernel_rfl) | (apply t_drawn; kernel_rfl; decide +kernel; try simp only [List.append_eq, List.cons_append, List.nil_append]) | ((with_reducible apply t_condT); exact rfl) | ((with_reducible apply t_condF); exact rfl) | ((with_reducible apply t_skip)) | ((with_reducible apply t_block))) | with_reducible apply q_thenN | with_reducible apply q_blockN)
            all_goals (refine ⟨(k + 1), ⟨by omega, hst fun h => h3 h.2.2⟩, (by omega), ?_, ?_⟩ <;> (try simp only [List.cons_append, List.nil_append]) <;> (repeat' (first | exact FrSub.nil | (apply FrSub.cons; exact rfl) | exact HpSub.refl _)))
        · repeat' (first | ((with_reducible apply oq_id); first | (focus ((with_reducible apply oq_indexAddrN); exact rfl; exact rfl; exact rfl; exact rfl; omega)) | ((with_reducible apply oq_lssT); exact rfl; exact rfl; omega) | ((with_reducible apply oq_lssF); exact rfl; exact rfl; omega) | ((with_reducible apply oq_eqlT); exact rfl; exact rfl; omega) | (apply oq_fn; exact rfl; first | exact trivial | (refine ⟨?_, ?_⟩ <;> omega) | (refine ⟨?_, ?_, ?_⟩ <;> omega) | omega | skip) | ((with_reducible apply oq_load); exact rfl; exact rfl)) | ((with_reducible apply tl_id); first | ((with_reducible apply tl_nil)) | ((with_reducible apply u_q); exact rfl; exact rfl; exact rfl; exact rfl)) | ((with_reducible apply gx_id); first | ((with_reducible apply v_nil)) | ((with_reducible apply v_q); exact rfl; exact rfl; exact rfl) | ((with_reducible apply v_skip); exact rfl; exact rfl; exact rfl)) | ((with_reducible apply rd_id); first | (apply Rd.old; (first | exact c0 | exact c1 | exact c2 | exact d0 | exact d1 | exact d2); exact List.not_mem_nil) | (apply Rd.own; (repeat (first | exact P0 | apply P1)); exact rfl; done)) | ((with_reducible apply t_id); first | ((with_reducible apply t_seq)) | (apply t_region; kernel_rfl) | (apply t_drawn; kernel_rfl; decide +kernel; try simp only [List.append_eq, List.cons_append, List.nil_append]) | ((with_reducible apply t_condT); exact rfl) | ((with_reducible apply t_condF); exact rfl) | ((with_reducible apply t_skip)) | ((with_reducible apply t_block))) | with_reducible apply q_thenN | with_reducible apply q_blockN)
          all_goals (refine ⟨(k + 1), ⟨by omega, hst fun h => h2 h.2.1⟩, (by omega), ?_, ?_⟩ <;> (try simp only [List.cons_append, List.nil_append]) <;> (repeat' (first | exact FrSub.nil | (apply FrSub.cons; exact rfl) | exact HpSub.refl _)))
      · repeat' (first | ((with_reducible apply oq_id); first | (focus ((with_reducible apply oq_indexAddrN); exact rfl; exact rfl; exact rfl; exact rfl; omega)) | ((with_reducible apply oq_lssT); exact rfl; exact rfl; omega) | ((with_reducible apply oq_eqlF); exact rfl; exact rfl; omega) | (apply oq_fn; exact rfl; first | exact trivial | (refine ⟨?_, ?_⟩ <;> omega) | (refine ⟨?_, ?_, ?_⟩ <;> omega) | omega | skip) | ((with_reducible apply oq_load); exact rfl; exact rfl)) | ((with_reducible apply tl_id); first | ((with_reducible apply tl_nil)) | ((with_reducible apply u_q); exact rfl; exact rfl; exact rfl; exact rfl)) | ((with_reducible apply gx_id); first | ((with_reducible apply v_nil)) | ((with_reducible apply v_q); exact rfl; exact rfl; exact rfl) | ((with_reducible apply v_skip); exact rfl; exact rfl; exact rfl)) | ((with_reducible apply rd_id); first | (apply Rd.old; (first | exact c0 | exact c1 | exact c2 | exact d0 | exact d1 | exact d2); exact List.not_mem_nil) | (apply Rd.own; (repeat (first | exact P0 | apply P1)); exact rfl; done)) | ((with_reducible apply t_id); first | ((with_reducible apply t_seq)) | (apply t_region; kernel_rfl) | (apply t_drawn; kernel_rfl; decide +kernel; try simp only [List.append_eq, List.cons_append, List.nil_append]) | ((with_reducible apply t_condT); exact rfl) | ((with_reducible apply t_condF); exact rfl) | ((with_reducible apply t_skip)) | ((with_reducible apply t_block))) | with_reducible apply q_thenN | with_reducible apply q_blockN)
        all_goals (refine ⟨(k + 1), ⟨by omega, hst fun h => h1 h.1⟩, (by omega), ?_, ?_⟩ <;> (try simp only [List.cons_append, List.nil_append]) <;> (repeat' (first | exact FrSub.nil | (apply FrSub.cons; exact rfl) | exact HpSub.refl _)))
    · repeat' (first | ((with_reducible apply oq_id); first | ((with_reducible apply oq_lssF); exact rfl; exact rfl; omega) | (apply oq_fn; exact rfl; first | exact trivial | (refine ⟨?_, ?_⟩ <;> omega) | (refine ⟨?_, ?_, ?_⟩ <;> omega) | omega | skip)) | ((with_reducible apply tl_id); first | ((with_reducible apply tl_nil)) | ((with_reducible apply u_q); exact rfl; exact rfl; exact rfl; exact rfl)) | ((with_reducible apply t_id); first | ((with_reducible apply t_seq)) | (apply t_region; kernel_rfl) | ((with_reducible apply t_condF); exact rfl) | ((with_reducible apply t_exit))) | with_reducible apply q_thenN | with_reducible apply q_blockN | with_reducible apply q_thenE | ((with_reducible apply q_blockE); exact rfl))
      all_goals (refine ⟨(i + 1), ⟨by omega, ros_next hx hri ho fun j y hj hy => hno j y (by omega) hy⟩, (by omega), ?_, ?_⟩ <;> (try simp only [List.cons_append, List.nil_append]) <;> (repeat' (first | exact FrSub.nil | (apply FrSub.cons; exact rfl) | exact HpSub.nil)))
  · rw [decide_eq_true (by rw [List.take_of_length_le (by omega)] at hri; exact hri)]
    repeat' (first | ((with_reducible apply oq_id); first | ((with_reducible apply oq_lssF); exact rfl; exact rfl; omega) | (apply oq_fn; exact rfl; first | exact trivial | (refine ⟨?_, ?_⟩ <;> omega) | (refine ⟨?_, ?_, ?_⟩ <;> omega) | omega | skip)) | ((with_reducible apply tl_id); first | ((with_reducible apply tl_nil)) | ((with_reducible apply u_q); exact rfl; exact rfl; exact rfl; exact rfl)) | ((with_reducible apply t_id); first | ((with_reducible apply t_seq)) | (apply t_region; kernel_rfl) | ((with_reducible apply t_condF); exact rfl) | ((with_reducible apply t_ret)) | ((with_reducible apply t_exit))) | with_reducible apply q_thenN | with_reducible apply q_thenE | ((with_reducible apply q_blockE); exact rfl) | ((with_reducible apply end_ret)) | exact rvs_nil | ((with_reducible apply rvs_cons)) | ((with_reducible apply rv_tmp); exact rfl))
    all_goals rfl
theorem refRos_calls (A : Option Addr) (n c : Nat) (l : List Sh) (w : World) (hr : RdS w 3 A n (l.map shCells)) (hn : n ≤ 1000000) :
    Calls Try.prog 47 #[.slice A n c] w fun e w' => e = .returned (.int .i64 (rosE l)) ∧ Ext w w' := by
  have hl := hr.len
  simp only [List.length_map] at hl
  unfold rosE
  by_cases h1 : 40 < l.length
  · rw [if_pos h1]
    refine enterQ (c := cx w 9) Try.func47 rfl rfl rfl rfl ?_
    repeat' (first | ((with_reducible apply oq_id); first | ((with_reducible apply oq_gtrT); exact rfl; exact rfl; omega) | (apply oq_fn; exact rfl; first | exact trivial | (refine ⟨?_, ?_⟩ <;> omega) | (refine ⟨?_, ?_, ?_⟩ <;> omega) | omega | skip)) | ((with_reducible apply tl_id); first | ((with_reducible apply tl_nil)) | ((with_reducible apply u_q); exact rfl; exact rfl; exact rfl; exact rfl)) | ((with_reducible apply t_id); first | ((with_reducible apply t_seq)) | (apply t_region; kernel_rfl) | ((with_reducible apply t_condT); exact rfl) | ((with_reducible apply t_ret))) | with_reducible apply q_thenN | with_reducible apply q_thenR | ((with_reducible apply end_ret)) | exact rvs_nil | ((with_reducible apply rvs_cons)) | ((with_reducible apply rv_tmp); exact rfl))
    all_goals rfl
  · rw [if_neg h1]
    have HF := fun w1 h => refFits_calls A n c l w1 h hn
    by_cases h2 : Ros l
    · rw [if_pos h2]
      rw [decide_eq_true h2] at HF
      refine enterQ (c := cx w 9) Try.func47 rfl rfl rfl rfl ?_
      repeat' (first | ((with_reducible apply oq_id); first | ((with_reducible apply oq_gtrF); exact rfl; exact rfl; omega) | (apply oq_fn; exact rfl; first | exact trivial | (refine ⟨?_, ?_⟩ <;> omega) | (refine ⟨?_, ?_, ?_⟩ <;> omega) | omega | skip) | ((with_reducible apply oq_call (k := 85) (hc := Try.call85)); exact rfl; exact rfl; exact fun D w1 hw1 => HF w1 (hr.ext hw1.ext.ext))) | ((with_reducible apply tl_id); first | ((with_reducible apply tl_nil)) | ((with_reducible apply u_q); exact rfl; exact rfl; exact rfl; exact rfl)) | ((with_reducible apply t_id); first | ((with_reducible apply t_seq)) | (apply t_region; kernel_rfl) | ((with_reducible apply t_condF); exact rfl) | ((with_reducible apply t_ret)) | ((with_reducible apply t_skip))) | with_reducible apply q_thenN | ((with_reducible apply end_ret)) | exact rvs_nil | ((with_reducible apply rvs_cons)) | ((with_reducible apply rv_tmp); exact rfl))
      all_goals rfl
    · rw [if_neg h2]
      rw [decide_eq_false h2] at HF
      refine enterQ (c := cx w 9) Try.func47 rfl rfl rfl rfl ?_
      repeat' (first | ((with_reducible apply oq_id); first | ((with_reducible apply oq_gtrF); exact rfl; exact rfl; omega) | (apply oq_fn; exact rfl; first | exact trivial | (refine ⟨?_, ?_⟩ <;> omega) | (refine ⟨?_, ?_, ?_⟩ <;> omega) | omega | skip) | ((with_reducible apply oq_call (k := 85) (hc := Try.call85)); exact rfl; exact rfl; exact fun D w1 hw1 => HF w1 (hr.ext hw1.ext.ext))) | ((with_reducible apply tl_id); first | ((with_reducible apply tl_nil)) | ((with_reducible apply u_q); exact rfl; exact rfl; exact rfl; exact rfl)) | ((with_reducible apply t_id); first | ((with_reducible apply t_seq)) | (apply t_region; kernel_rfl) | ((with_reducible apply t_condT); exact rfl) | ((with_reducible apply t_condF); exact rfl) | ((with_reducible apply t_ret)) | ((with_reducible apply t_skip))) | with_reducible apply q_thenN | with_reducible apply q_thenR | ((with_reducible apply end_ret)) | exact rvs_nil | ((with_reducible apply rvs_cons)) | ((with_reducible apply rv_tmp); exact rfl))
      all_goals rfl

theorem work_take {l : List Sh} {i : Nat} {x : Sh} (hx : l[i]? = some x) (who fr to : Int) : workV (l.take (i + 1)) who fr to = workV (l.take i) who fr to + minS who fr to x := by
  unfold workV
  rw [List.take_add_one, hx]
  simp
theorem work_in {l : List Sh} (hs : ∀ y ∈ l, shOk y) (who fr to : Int) : ∀ {i : Nat}, i ≤ l.length → 0 ≤ workV (l.take i) who fr to ∧ workV (l.take i) who fr to ≤ (i : Int) * 1000000
  | 0, _ => by simp [workV]
  | i + 1, h => by
    obtain ⟨y, hy⟩ : ∃ y, l[i]? = some y := ⟨_, List.getElem?_eq_getElem (by omega)⟩
    have ih := work_in hs who fr to (show i ≤ l.length by omega)
    have ho := hs y (List.mem_of_getElem? hy)
    unfold shOk at ho
    rw [work_take hy]
    have : 0 ≤ minS who fr to y ∧ minS who fr to y ≤ 1000000 := by unfold minS; split <;> omega
    rw [show ((i + 1 : Nat) : Int) * 1000000 = (i : Int) * 1000000 + 1000000 by omega]
    omega
/-- What was worked: any shifts of a valid roster, any times. -/
theorem worked_calls (A : Option Addr) (n c : Nat) (l : List Sh) (who fr to : Int) (w : World) (hr : RdS w 3 A n (l.map shCells)) (hn : n ≤ 1000000) (hs : ∀ y ∈ l, shOk y) (h1 : -1000000000000 ≤ fr ∧ fr ≤ 1000000000000) (h2 : -1000000000000 ≤ to ∧ to ≤ 1000000000000) :
    Calls Try.prog 113 #[.slice A n c, .int .i64 who, .int .i64 fr, .int .i64 to] w fun e w' => e = .returned (.int .i64 (workV l who fr to)) ∧ Ext w w' := by
  have hl := hr.len
  simp only [List.length_map] at hl
  refine enterQ (c := cx w 43) Try.func113 rfl rfl rfl rfl ?_
  repeat' (first | ((with_reducible apply oq_id); first | (apply oq_fn; exact rfl; first | exact trivial | (refine ⟨?_, ?_⟩ <;> omega) | (refine ⟨?_, ?_, ?_⟩ <;> omega) | omega | skip)) | ((with_reducible apply tl_id); first | ((with_reducible apply tl_nil)) | ((with_reducible apply u_q); exact rfl; exact rfl; exact rfl; exact rfl)) | ((with_reducible apply t_id); first | ((with_reducible apply t_seq)) | (apply t_region; kernel_rfl) | ((with_reducible apply t_block))) | with_reducible apply q_thenN)
  apply t_loopK (ι := Nat) [0, 1, 2, 3, 8, 42] (fun i => [(10, .int .i64 (i : Nat)), (9, .int .i64 (workV (l.take i) who fr to))]) (fun _ => []) (fun i => i ≤ n) (fun i => n - i) (0)
  (repeat (first | exact KeepF.nil | (apply KeepF.cons; exact rfl) | apply KeepF.skip))
  (repeat (first | exact FrSub.nil | (apply FrSub.cons; exact rfl)))
  (repeat (first | exact HpSub.refl _ | (apply HpSub.consE; (repeat (first | exact P0 | apply P1)); exact rfl) | exact HpSub.nil))
  · exact Nat.zero_le _
  rintro i hi
  try simp only [List.cons_append, List.nil_append]
  have hwin := work_in hs who fr to (i := i) (by omega)
  by_cases hlt : i < n
  · obtain ⟨b, o, x, rfl, _, hx, c0, c1, c2⟩ := sh_read hr hlt
    have hxo := hs x (List.mem_of_getElem? hx)
    unfold shOk at hxo
    have hsu := work_take hx who fr to
    unfold minS at hsu
    by_cases hw : x.who = who
    · rw [if_pos hw] at hsu
      repeat' (first | ((with_reducible apply oq_id); first | (focus ((with_reducible apply oq_indexAddrN); exact rfl; exact rfl; exact rfl; exact rfl; omega)) | ((with_reducible apply oq_addE (k := workV (l.take (i + 1)) who fr to)); exact rfl; exact rfl; omega) | ((with_reducible apply oq_lssT); exact rfl; exact rfl; omega) | ((with_reducible apply oq_eqlT); exact rfl; exact rfl; omega) | (apply oq_fn; exact rfl; first | exact trivial | (refine ⟨?_, ?_⟩ <;> omega) | (refine ⟨?_, ?_, ?_⟩ <;> omega) | omega | skip) | ((with_reducible apply oq_load); exact rfl; exact rfl)) | ((with_reducible apply tl_id); first | ((with_reducible apply tl_nil)) | ((with_reducible apply u_q); exact rfl; exact rfl; exact rfl; exact rfl)) | ((with_reducible apply gx_id); first | ((with_reducible apply v_nil)) | ((with_reducible apply v_q); exact rfl; exact rfl; exact rfl)) | ((with_reducible apply rd_id); first | (apply Rd.old; (first | exact c0 | exact c1 | exact c2 | exact d0 | exact d1 | exact d2); exact List.not_mem_nil)) | ((with_reducible apply t_id); first | ((with_reducible apply t_seq)) | (apply t_region; kernel_rfl) | (apply t_drawn; kernel_rfl; decide +kernel; try simp only [List.append_eq, List.cons_append, List.nil_append]) | ((with_reducible apply t_condT); exact rfl) | ((with_reducible apply t_skip)) | ((with_reducible apply t_block))) | with_reducible apply q_thenN | with_reducible apply q_blockN)
      all_goals (refine ⟨(i + 1), (by omega), (by omega), ?_, ?_⟩ <;> (try simp only [List.cons_append, List.nil_append]) <;> (repeat' (first | exact FrSub.nil | (apply FrSub.cons; exact rfl) | exact HpSub.refl _)))
    · rw [if_neg hw, Int.add_zero] at hsu
      rw [← hsu]
      repeat' (first | ((with_reducible apply oq_id); first | (focus ((with_reducible apply oq_indexAddrN); exact rfl; exact rfl; exact rfl; exact rfl; omega)) | ((with_reducible apply oq_lssT); exact rfl; exact rfl; omega) | ((with_reducible apply oq_eqlF); exact rfl; exact rfl; omega) | (apply oq_fn; exact rfl; first | exact trivial | (refine ⟨?_, ?_⟩ <;> omega) | (refine ⟨?_, ?_, ?_⟩ <;> omega) | omega | skip) | ((with_reducible apply oq_load); exact rfl; exact rfl)) | ((with_reducible apply tl_id); first | ((with_reducible apply tl_nil)) | ((with_reducible apply u_q); exact rfl; exact rfl; exact rfl; exact rfl)) | ((with_reducible apply rd_id); first | (apply Rd.old; (first | exact c0 | exact c1 | exact c2 | exact d0 | exact d1 | exact d2); exact List.not_mem_nil)) | ((with_reducible apply t_id); first | ((with_reducible apply t_seq)) | (apply t_region; kernel_rfl) | ((with_reducible apply t_condT); exact rfl) | ((with_reducible apply t_condF); exact rfl) | ((with_reducible apply t_skip)) | ((with_reducible apply t_block))) | with_reducible apply q_thenN | with_reducible apply q_blockN)
      all_goals (refine ⟨(i + 1), (by omega), (by omega), ?_, ?_⟩ <;> (try simp only [List.cons_append, List.nil_append]) <;> (repeat' (first | exact FrSub.nil | (apply FrSub.cons; exact rfl) | exact HpSub.refl _)))
  · obtain rfl : i = n := by omega
    rw [List.take_of_length_le (by omega)] at *
    repeat' (first | ((with_reducible apply oq_id); first | ((with_reducible apply oq_lssF); exact rfl; exact rfl; omega) | (apply oq_fn; exact rfl; first | exact trivial | (refine ⟨?_, ?_⟩ <;> omega) | (refine ⟨?_, ?_, ?_⟩ <;> omega) | omega | skip)) | ((with_reducible apply tl_id); first | ((with_reducible apply tl_nil)) | ((with_reducible apply u_q); exact rfl; exact rfl; exact rfl; exact rfl)) | ((with_reducible apply t_id); first | ((with_reducible apply t_seq)) | (apply t_region; kernel_rfl) | ((with_reducible apply t_condF); exact rfl) | ((with_reducible apply t_ret)) | ((with_reducible apply t_exit))) | with_reducible apply q_thenN | with_reducible apply q_thenE | ((with_reducible apply q_blockE); exact rfl) | ((with_reducible apply end_ret)) | exact rvs_nil | ((with_reducible apply rvs_cons)) | ((with_reducible apply rv_tmp); exact rfl))
    all_goals rfl

end Go.Proofs.Ytmlmgipngbndgaa
/- A roster is sorted, by the reference. -/
namespace Go.Proofs.Ytmlmgipngbndgaa
open Go.RowKit
attribute [local irreducible] OQ OS OX Rd T TL GX GL AL AI RV wpG SAny Calls
set_option maxRecDepth 100000
set_option maxHeartbeats 2000000
set_option linter.unusedVariables false
set_option linter.unusedSimpArgs false

theorem split_last0 {α : Type} {l : List α} (h : l ≠ []) : ∃ S z, l = S ++ [z] := ⟨l.dropLast, l.getLast h, (List.dropLast_concat_getLast h).symm⟩
theorem ins_step0 {S S2 : List Sh} {z x : Sh} : (((S ++ [z]) ++ x :: S2).set (S.length + 1) z).set S.length x = S ++ x :: (z :: S2) := by
  have h := ins_step (P := []) (S := S) (S2 := S2) (Q := []) (z := z) (x := x)
  simp at h
  simp [h]
/-- What sorted hands out. -/
def SrtO (S : List Sh) (v : Value) (H : Hp) : Prop := ∃ x, (x = none → S.length = 0) ∧ v = .slice (clA x) S.length (clC x) ∧ H = clH 101 3 (shB S) x
theorem sorted_T (A : Option Addr) (n c : Nat) (l : List Sh) (w : World) (hr : RdS w 3 A n (l.map shCells)) (hn : n ≤ 1000000) :
    Calls Try.prog 112 #[.slice A n c] w fun e w' => ∃ v H', e = .returned v ∧ SrtO (srtS l) v H' ∧ Has w ⟨[], []⟩ H' w' := by
  have hl := hr.len
  simp only [List.length_map] at hl
  refine enterF (c := cx w 85) Try.func112 rfl rfl rfl rfl ?_
  repeat' (first | ((with_reducible apply oq_id); first | (apply oq_fn; exact rfl; first | exact trivial | (refine ⟨?_, ?_⟩ <;> omega) | (refine ⟨?_, ?_, ?_⟩ <;> omega) | omega | skip)) | ((with_reducible apply tl_id); first | ((with_reducible apply tl_nil)) | ((with_reducible apply u_q); exact rfl; exact rfl; exact rfl; exact rfl)) | ((with_reducible apply t_id); first | ((with_reducible apply t_seq)) | (apply t_region; kernel_rfl) | ((with_reducible apply t_block))) | with_reducible apply q_thenN)
  apply t_loopK (GH := []) (ι := Nat × Option (Nat × Nat)) [0] (fun z => [(4, .int .i64 (z.1 : Nat)), (3, .slice (clA z.2) z.1 (clC z.2))]) (fun z => clH 101 3 (shB (srtS (l.take z.1))) z.2) (fun z => z.1 ≤ n ∧ (z.2 = none → z.1 = 0)) (fun z => n - z.1) ((0, none))
  (repeat (first | exact KeepF.nil | (apply KeepF.cons; exact rfl) | apply KeepF.skip))
  (repeat (first | exact FrSub.nil | (apply FrSub.cons; exact rfl)))
  (repeat (first | exact HpSub.refl _ | (apply HpSub.consE; (repeat (first | exact P0 | apply P1)); exact rfl) | exact HpSub.nil))
  · exact ⟨Nat.zero_le _, fun _ => rfl⟩
  rintro ⟨i, o⟩ ⟨hi, ho⟩
  simp only at hi ho
  simp only [List.append_nil]
  have hsl : (srtS (l.take i)).length = i := by rw [srtS, srt_len]; simp; omega
  by_cases hlt : i < n
  · obtain ⟨b, o', x, hA, _, hx, c0, c1, c2⟩ := sh_read hr hlt
    subst hA
    have hxs : srtS (l.take (i + 1)) = mrg ltS (srtS (l.take i)) [x] := by rw [List.take_add_one, hx]; exact srt_snoc _ _
    refine t_cut (ι := Unit) (fun _ => [(0, .slice (some ⟨b, o', none⟩) n c), (4, .int .i64 (i : Nat)), (3, .slice (clA o) i (clC o))]) (fun _ => clH 101 3 (shB (srtS (l.take i))) o) (fun _ => True) ?_ ?_
    · repeat' (first | ((with_reducible apply oq_id); first | ((with_reducible apply oq_lssT); exact rfl; exact rfl; omega) | (apply oq_fn; exact rfl; first | exact trivial | (refine ⟨?_, ?_⟩ <;> omega) | (refine ⟨?_, ?_, ?_⟩ <;> omega) | omega | skip)) | ((with_reducible apply tl_id); first | ((with_reducible apply tl_nil)) | ((with_reducible apply u_q); exact rfl; exact rfl; exact rfl; exact rfl)) | ((with_reducible apply t_id); first | ((with_reducible apply t_seq)) | (apply t_region; kernel_rfl) | ((with_reducible apply t_condT); exact rfl) | ((with_reducible apply t_skip))) | with_reducible apply q_thenN)
      all_goals exact ⟨rfl, (), trivial, by (repeat (first | exact FrSub.nil | (apply FrSub.cons; exact rfl))), HpSub.refl _⟩
    rintro ⟨⟩ -
    refine t_cut (ι := Nat × Nat) (fun z => [(0, .slice (some ⟨b, o', none⟩) n c), (4, .int .i64 (i : Nat)), (3, .slice (some ⟨z.1, 0, none⟩) (i + 1) z.2)]) (fun z => [(z.1, shB (srtS (l.take (i + 1))), some (101, 3, z.2))]) (fun _ => True) ?_ ?_
    · refine t_block ?_
      refine t_cut (ι := Nat × Nat) (fun z => [(0, .slice (some ⟨b, o', none⟩) n c), (4, .int .i64 (i : Nat)), (3, .slice (some ⟨z.1, 0, none⟩) (i + 1) z.2)]) (fun z => [(z.1, shB (srtS (l.take i) ++ [x]), some (101, 3, z.2))]) (fun _ => True) ?_ ?_
      · rcases o with _ | ⟨go, co⟩
        · obtain rfl := ho rfl
          have e0 : srtS (l.take 0) = [] := rfl
          rw [e0]
          simp only [clA, clC, clH, List.nil_append]
          repeat' (first | ((with_reducible apply oq_id); first | (focus ((with_reducible apply oq_indexAddrN); exact rfl; exact rfl; exact rfl; exact rfl; omega)) | (apply oq_fn; exact rfl; first | exact trivial | (refine ⟨?_, ?_⟩ <;> omega) | (refine ⟨?_, ?_, ?_⟩ <;> omega) | omega | skip) | ((with_reducible apply oq_loadAgg); exact rfl; exact rfl)) | ((with_reducible apply tl_id); first | ((with_reducible apply tl_nil)) | ((with_reducible apply u_q); exact rfl; exact rfl; exact rfl; exact rfl) | ((with_reducible apply u_s); exact rfl; exact rfl; exact rfl)) | ((with_reducible apply os_id); first | ((with_reducible apply os_x); exact rfl) | ((with_reducible apply os_appendNil (hk := app_ok75)); exact rfl; exact rfl)) | ((with_reducible apply ox_id); first | ((with_reducible apply ox_buildSlice); exact rfl; exact rfl; exact rfl; exact rfl)) | ((with_reducible apply rd_id); first | (apply Rd.old; (first | exact c0 | exact c1 | exact c2 | exact d0 | exact d1 | exact d2); exact List.not_mem_nil) | (apply Rd.own; (repeat (first | exact P0 | apply P1)); exact rfl; done)) | ((with_reducible apply t_id); first | (apply t_region; kernel_rfl)) | exact Rdn.zero | apply Rdn.succ | ((with_reducible apply Norm.nil); exact rfl) | ((with_reducible apply Norm.cons); exact rfl) | (intro gN cN; with_reducible apply tl_id) | exact Nat.le_of_ble_eq_true rfl | exact (rfl : (_ : Bool) = true) | (intro _; with_reducible apply tl_id))
          all_goals (refine ⟨rfl, (gN, cN), trivial, ?_, ?_⟩)
          all_goals first
            | ((repeat (first | exact FrSub.nil | (apply FrSub.cons; exact rfl) | (apply FrSub.consE; exact rfl; (focus (simp; done))))); done)
            | ((repeat (first | exact HpSub.refl _ | (apply HpSub.consE; (repeat (first | exact P0 | apply P1)); first | exact rfl | ((focus (simp [shB, shCells]; done)))) | apply HpSub.skipX | exact HpSub.nil)); done)
        · obtain ⟨S0, hS0⟩ : ∃ S0, srtS (l.take i) = S0 := ⟨_, rfl⟩
          rw [hS0] at hsl ⊢
          have hfl : (shB S0).length = i * 3 := by rw [sh_flat_len, hsl]
          simp only [clA, clC, clH]
          repeat' (first | ((with_reducible apply oq_id); first | (focus ((with_reducible apply oq_indexAddrN); exact rfl; exact rfl; exact rfl; exact rfl; omega)) | (apply oq_fn; exact rfl; first | exact trivial | (refine ⟨?_, ?_⟩ <;> omega) | (refine ⟨?_, ?_, ?_⟩ <;> omega) | omega | skip) | ((with_reducible apply oq_loadAgg); exact rfl; exact rfl)) | ((with_reducible apply tl_id); first | ((with_reducible apply tl_nil)) | ((with_reducible apply u_q); exact rfl; exact rfl; exact rfl; exact rfl) | ((with_reducible apply u_s); exact rfl; exact rfl; exact rfl)) | ((with_reducible apply os_id); first | ((with_reducible apply os_x); exact rfl) | ((with_reducible apply os_append (hk := app_ok75)); exact rfl; exact rfl; (repeat (first | exact P0 | apply P1)))) | ((with_reducible apply ox_id); first | ((with_reducible apply ox_buildSlice); exact rfl; exact rfl; exact rfl; exact rfl)) | ((with_reducible apply rd_id); first | (apply Rd.old; (first | exact c0 | exact c1 | exact c2 | exact d0 | exact d1 | exact d2); exact List.not_mem_nil) | (apply Rd.own; (repeat (first | exact P0 | apply P1)); exact rfl; done)) | ((with_reducible apply t_id); first | (apply t_region; kernel_rfl)) | exact Rdn.zero | apply Rdn.succ | ((with_reducible apply Norm.nil); exact rfl) | ((with_reducible apply Norm.cons); exact rfl) | exact hfl | (intro gN cN; with_reducible apply tl_id) | exact Nat.le_of_ble_eq_true rfl | exact (rfl : (_ : Bool) = true) | omega | (intro _; with_reducible apply tl_id))
          all_goals (refine ⟨rfl, (gN, cN), trivial, ?_, ?_⟩)
          all_goals first
            | ((repeat (first | exact FrSub.nil | (apply FrSub.cons; exact rfl) | (apply FrSub.consE; exact rfl; (focus (simp; done))))); done)
            | ((repeat (first | exact HpSub.refl _ | (apply HpSub.consE; (repeat (first | exact P0 | apply P1)); first | exact rfl | ((focus (simp [shB, shCells]; done)))) | apply HpSub.skipX | exact HpSub.nil)); done)
      rintro ⟨g, cp⟩ -
      try dsimp only
      repeat' (first | ((with_reducible apply oq_id); first | ((with_reducible apply oq_subE (k := ((i : Nat) : Int))); exact rfl; exact rfl; omega) | (apply oq_fn; exact rfl; first | exact trivial | (refine ⟨?_, ?_⟩ <;> omega) | (refine ⟨?_, ?_, ?_⟩ <;> omega) | omega | skip)) | ((with_reducible apply tl_id); first | ((with_reducible apply tl_nil)) | ((with_reducible apply u_q); exact rfl; exact rfl; exact rfl; exact rfl)) | ((with_reducible apply t_id); first | ((with_reducible apply t_seq)) | (apply t_region; kernel_rfl) | ((with_reducible apply t_block))) | with_reducible apply q_thenN)
      apply t_loopK (GH := []) (ι := List Sh × List Sh) [0, 3, 4] (fun z => [(5, .int .i64 (z.1.length : Nat))]) (fun z => [(g, shB (z.1 ++ x :: z.2), some (101, 3, cp))]) (fun z => z.1 ++ z.2 = srtS (l.take i) ∧ ∀ y ∈ z.2, ltS x y = true) (fun z => z.1.length) ((srtS (l.take i), []))
      (repeat (first | exact KeepF.nil | (apply KeepF.cons; exact rfl) | apply KeepF.skip))
      (repeat (first | exact FrSub.nil | (apply FrSub.cons; exact rfl) | (apply FrSub.consE; exact rfl; (simp only [hsl]))))
      (repeat (first | exact HpSub.refl _ | (apply HpSub.consE; (repeat (first | exact P0 | apply P1)); exact rfl) | exact HpSub.nil))
      · exact ⟨List.append_nil _, fun y hy => by cases hy⟩
      rintro ⟨S1, S2⟩ ⟨hs, hgt⟩
      simp only at hs hgt
      try dsimp only
      simp only [List.append_nil]
      have hso : Srt ltS (S1 ++ S2) := by rw [hs]; exact srt_srt woS _
      have hl12 : S1.length + S2.length = i := by rw [← hsl, ← hs, List.length_append]
      by_cases h0 : S1 = []
      · subst h0
        have he : srtS (l.take (i + 1)) = [] ++ x :: S2 := by rw [hxs, ← hs, ins_done woS hso (.inl rfl) hgt]
        simp only [List.length_nil]
        repeat' (first | ((with_reducible apply oq_id); first | ((with_reducible apply oq_gtrF); exact rfl; exact rfl; omega) | (apply oq_fn; exact rfl; first | exact trivial | (refine ⟨?_, ?_⟩ <;> omega) | (refine ⟨?_, ?_, ?_⟩ <;> omega) | omega | skip)) | ((with_reducible apply gx_id); first | ((with_reducible apply v_nil)) | ((with_reducible apply v_q); exact rfl; exact rfl; exact rfl) | ((with_reducible apply v_skip); exact rfl; exact rfl; exact rfl)) | ((with_reducible apply t_id); first | ((with_reducible apply t_seq)) | (apply t_drawn; kernel_rfl; decide +kernel; try simp only [List.append_eq, List.cons_append, List.nil_append]) | ((with_reducible apply t_condF); exact rfl) | ((with_reducible apply t_exit))) | with_reducible apply q_thenN | with_reducible apply q_blockN | with_reducible apply q_thenE | ((with_reducible apply q_blockE); exact rfl))
        all_goals exact ⟨rfl, (g, cp), trivial, by (repeat (first | exact FrSub.nil | (apply FrSub.cons; exact rfl))), by (rw [he]; (repeat (first | exact HpSub.refl _ | (apply HpSub.consE; (repeat (first | exact P0 | apply P1)); exact rfl) | exact HpSub.nil)))⟩
      · obtain ⟨S, z, rfl⟩ := split_last0 h0
        simp only [List.length_append, List.length_cons, List.length_nil, Nat.zero_add] at hl12 ⊢
        have hst := ins_step0 (S := S) (S2 := S2) (z := z) (x := x)
        have hdx : ((S ++ [z]) ++ x :: S2)[S.length + 1]? = some x := get_at (by simp)
        have hdz : ((S ++ [z]) ++ x :: S2)[S.length]? = some z := by
          rw [show (S ++ [z]) ++ x :: S2 = S ++ z :: (x :: S2) by simp only [List.append_assoc, List.cons_append, List.nil_append]]
          exact get_at rfl
        have hstop : ltS x z = false → srtS (l.take (i + 1)) = (S ++ [z]) ++ x :: S2 := fun hc => by
          rw [hxs, ← hs, ins_done woS hso (.inr ⟨S, z, rfl, hc⟩) hgt]
        have hgo : ltS x z = true → (S ++ (z :: S2) = srtS (l.take i)) ∧ ∀ y ∈ z :: S2, ltS x y = true := fun hc => by
          refine ⟨by rw [← hs]; simp only [List.append_assoc, List.cons_append, List.nil_append], fun y hy => ?_⟩
          rcases List.mem_cons.1 hy with rfl | hy
          · exact hc
          · exact hgt y hy
        obtain ⟨D, hD⟩ : ∃ D, (S ++ [z]) ++ x :: S2 = D := ⟨_, rfl⟩
        rw [hD] at hdx hdz hst hstop ⊢
        have hdx2 : (D.set (S.length + 1) z)[S.length]? = some z := by rw [List.getElem?_set_ne (by omega)]; exact hdz
        obtain ⟨q0, q1, q2⟩ := sh_at hdx
        obtain ⟨r0, r1, r2⟩ := sh_at hdz
        by_cases h1 : x.who < z.who
        · obtain ⟨g1, g2⟩ := hgo (ltS_iff.2 (.inl h1))
          repeat' (first | ((with_reducible apply oq_id); first | ((with_reducible apply oq_subE (k := ((S.length : Nat) : Int))); exact rfl; exact rfl; omega) | (focus ((with_reducible apply oq_indexAddrN); exact rfl; exact rfl; exact rfl; exact rfl; omega)) | ((with_reducible apply oq_lssT); exact rfl; exact rfl; omega) | ((with_reducible apply oq_gtrT); exact rfl; exact rfl; omega) | (apply oq_fn; exact rfl; first | exact trivial | (refine ⟨?_, ?_⟩ <;> omega) | (refine ⟨?_, ?_, ?_⟩ <;> omega) | omega | skip) | ((with_reducible apply oq_load); exact rfl; exact rfl) | ((with_reducible apply oq_loadAgg); exact rfl; exact rfl)) | ((with_reducible apply tl_id); first | ((with_reducible apply tl_nil)) | ((with_reducible apply u_q); exact rfl; exact rfl; exact rfl; exact rfl)) | ((with_reducible apply gx_id); first | ((with_reducible apply v_nil)) | ((with_reducible apply v_q); exact rfl; exact rfl; exact rfl) | ((with_reducible apply v_skip); exact rfl; exact rfl; exact rfl)) | ((with_reducible apply os_id); first | ((with_reducible apply (os_storeSh z hdx rfl)); exact rfl; exact rfl; exact rfl; (repeat (first | exact P0 | apply P1))) | ((with_reducible apply (os_storeSh x hdx2 hst)); exact rfl; exact rfl; exact rfl; (repeat (first | exact P0 | apply P1)))) | ((with_reducible apply ai_id); first | ((with_reducible apply ai_q); exact rfl; exact rfl; exact rfl; exact rfl; exact rfl) | ((with_reducible apply ai_n0); exact rfl; exact rfl; exact rfl)) | ((with_reducible apply al_keep); focus (repeat (first | exact HpSub.refl _ | (apply HpSub.cons; (repeat (first | exact P0 | apply P1))) | apply HpSub.skipX | exact HpSub.nil))) | ((with_reducible apply rd_id); first | (apply Rd.own; (repeat (first | exact P0 | apply P1)); first | exact q0 | exact q1 | exact q2 | exact r0 | exact r1 | exact r2; done)) | ((with_reducible apply t_id); first | (apply t_mixZ (id := 9) [0, 1, 2, 3, 4, 5, 6, 7, 8, 10, 11, 12] 6; kernel_rfl; kernel_rfl; exact rfl) | ((with_reducible apply t_seq)) | (apply t_region; kernel_rfl) | (apply t_drawn; kernel_rfl; decide +kernel; try simp only [List.append_eq, List.cons_append, List.nil_append]) | ((with_reducible apply t_condT); exact rfl) | ((with_reducible apply t_skip)) | ((with_reducible apply t_block))) | with_reducible apply q_thenN | with_reducible apply q_blockN | exact Rdn.zero | apply Rdn.succ | ((with_reducible apply al_id); first | (apply al_done; decide +kernel) | (apply al_one 9; decide +kernel) | (apply al_one 13; decide +kernel) | (apply al_one 14; decide +kernel) | (apply al_one 15; decide +kernel) | (apply al_one 16; decide +kernel) | (apply al_one 17; decide +kernel) | (apply al_two 9 13; decide +kernel)))
          all_goals (refine ⟨(S, z :: S2), ⟨g1, g2⟩, (by simp only [List.length_append, List.length_cons, List.length_nil]; omega), ?_, ?_⟩ <;> (try simp only [List.cons_append, List.nil_append]) <;> (repeat' (first | exact FrSub.nil | (apply FrSub.cons; exact rfl) | exact HpSub.refl _)))
        by_cases h2 : x.who = z.who
        · by_cases h3 : x.fr < z.fr
          · obtain ⟨g1, g2⟩ := hgo (ltS_iff.2 (.inr ⟨h2, h3⟩))
            repeat' (first | ((with_reducible apply oq_id); first | ((with_reducible apply oq_subE (k := ((S.length : Nat) : Int))); exact rfl; exact rfl; omega) | (focus ((with_reducible apply oq_indexAddrN); exact rfl; exact rfl; exact rfl; exact rfl; omega)) | ((with_reducible apply oq_lssT); exact rfl; exact rfl; omega) | ((with_reducible apply oq_lssF); exact rfl; exact rfl; omega) | ((with_reducible apply oq_gtrT); exact rfl; exact rfl; omega) | ((with_reducible apply oq_eqlT); exact rfl; exact rfl; omega) | (apply oq_fn; exact rfl; first | exact trivial | (refine ⟨?_, ?_⟩ <;> omega) | (refine ⟨?_, ?_, ?_⟩ <;> omega) | omega | skip) | ((with_reducible apply oq_load); exact rfl; exact rfl) | ((with_reducible apply oq_loadAgg); exact rfl; exact rfl)) | ((with_reducible apply tl_id); first | ((with_reducible apply tl_nil)) | ((with_reducible apply u_q); exact rfl; exact rfl; exact rfl; exact rfl)) | ((with_reducible apply gx_id); first | ((with_reducible apply v_nil)) | ((with_reducible apply v_q); exact rfl; exact rfl; exact rfl)) | ((with_reducible apply os_id); first | ((with_reducible apply (os_storeSh z hdx rfl)); exact rfl; exact rfl; exact rfl; (repeat (first | exact P0 | apply P1))) | ((with_reducible apply (os_storeSh x hdx2 hst)); exact rfl; exact rfl; exact rfl; (repeat (first | exact P0 | apply P1)))) | ((with_reducible apply ai_id); first | ((with_reducible apply ai_q); exact rfl; exact rfl; exact rfl; exact rfl; exact rfl) | ((with_reducible apply ai_n0); exact rfl; exact rfl; exact rfl)) | ((with_reducible apply al_keep); focus (repeat (first | exact HpSub.refl _ | (apply HpSub.cons; (repeat (first | exact P0 | apply P1))) | apply HpSub.skipX | exact HpSub.nil))) | ((with_reducible apply rd_id); first | (apply Rd.own; (repeat (first | exact P0 | apply P1)); first | exact q0 | exact q1 | exact q2 | exact r0 | exact r1 | exact r2; done)) | ((with_reducible apply t_id); first | (apply t_mixZ (id := 9) [0, 1, 2, 3, 4, 5, 6, 7, 8, 10, 11, 12] 6; kernel_rfl; kernel_rfl; exact rfl) | ((with_reducible apply t_seq)) | (apply t_region; kernel_rfl) | (apply t_drawn; kernel_rfl; decide +kernel; try simp only [List.append_eq, List.cons_append, List.nil_append]) | ((with_reducible apply t_condT); exact rfl) | ((with_reducible apply t_skip)) | ((with_reducible apply t_block))) | with_reducible apply q_thenN | with_reducible apply q_blockN | exact Rdn.zero | apply Rdn.succ | ((with_reducible apply al_id); first | (apply al_done; decide +kernel) | (apply al_one 9; decide +kernel) | (apply al_one 13; decide +kernel) | (apply al_one 14; decide +kernel) | (apply al_one 15; decide +kernel) | (apply al_one 16; decide +kernel) | (apply al_one 17; decide +kernel) | (apply al_two 9 13; decide +kernel)))
            all_goals (refine ⟨(S, z :: S2), ⟨g1, g2⟩, (by simp only [List.length_append, List.length_cons, List.length_nil]; omega), ?_, ?_⟩ <;> (try simp only [List.cons_append, List.nil_append]) <;> (repeat' (first | exact FrSub.nil | (apply FrSub.cons; exact rfl) | exact HpSub.refl _)))
          · have he := hstop (ltS_no.2 (by omega))
            repeat' (first | ((with_reducible apply oq_id); first | ((with_reducible apply oq_subE (k := ((S.length : Nat) : Int))); exact rfl; exact rfl; omega) | (focus ((with_reducible apply oq_indexAddrN); exact rfl; exact rfl; exact rfl; exact rfl; omega)) | ((with_reducible apply oq_lssF); exact rfl; exact rfl; omega) | ((with_reducible apply oq_gtrT); exact rfl; exact rfl; omega) | ((with_reducible apply oq_eqlT); exact rfl; exact rfl; omega) | (apply oq_fn; exact rfl; first | exact trivial | (refine ⟨?_, ?_⟩ <;> omega) | (refine ⟨?_, ?_, ?_⟩ <;> omega) | omega | skip) | ((with_reducible apply oq_load); exact rfl; exact rfl)) | ((with_reducible apply gx_id); first | ((with_reducible apply v_nil)) | ((with_reducible apply v_q); exact rfl; exact rfl; exact rfl)) | ((with_reducible apply rd_id); first | (apply Rd.own; (repeat (first | exact P0 | apply P1)); first | exact q0 | exact q1 | exact q2 | exact r0 | exact r1 | exact r2; done)) | ((with_reducible apply t_id); first | ((with_reducible apply t_seq)) | (apply t_drawn; kernel_rfl; decide +kernel; try simp only [List.append_eq, List.cons_append, List.nil_append]) | ((with_reducible apply t_condF); exact rfl) | ((with_reducible apply t_exit))) | with_reducible apply q_thenN | with_reducible apply q_blockN | with_reducible apply q_thenE | ((with_reducible apply q_blockE); exact rfl))
            all_goals exact ⟨rfl, (g, cp), trivial, by (repeat (first | exact FrSub.nil | (apply FrSub.cons; exact rfl))), by (rw [he]; (repeat (first | exact HpSub.refl _ | (apply HpSub.consE; (repeat (first | exact P0 | apply P1)); exact rfl) | exact HpSub.nil)))⟩
        · have he := hstop (ltS_no.2 (by omega))
          repeat' (first | ((with_reducible apply oq_id); first | ((with_reducible apply oq_subE (k := ((S.length : Nat) : Int))); exact rfl; exact rfl; omega) | (focus ((with_reducible apply oq_indexAddrN); exact rfl; exact rfl; exact rfl; exact rfl; omega)) | ((with_reducible apply oq_lssF); exact rfl; exact rfl; omega) | ((with_reducible apply oq_gtrT); exact rfl; exact rfl; omega) | ((with_reducible apply oq_eqlF); exact rfl; exact rfl; omega) | (apply oq_fn; exact rfl; first | exact trivial | (refine ⟨?_, ?_⟩ <;> omega) | (refine ⟨?_, ?_, ?_⟩ <;> omega) | omega | skip) | ((with_reducible apply oq_load); exact rfl; exact rfl)) | ((with_reducible apply gx_id); first | ((with_reducible apply v_nil)) | ((with_reducible apply v_q); exact rfl; exact rfl; exact rfl) | ((with_reducible apply v_skip); exact rfl; exact rfl; exact rfl)) | ((with_reducible apply rd_id); first | (apply Rd.own; (repeat (first | exact P0 | apply P1)); first | exact q0 | exact q1 | exact q2 | exact r0 | exact r1 | exact r2; done)) | ((with_reducible apply t_id); first | ((with_reducible apply t_seq)) | (apply t_drawn; kernel_rfl; decide +kernel; try simp only [List.append_eq, List.cons_append, List.nil_append]) | ((with_reducible apply t_condF); exact rfl) | ((with_reducible apply t_exit))) | with_reducible apply q_thenN | with_reducible apply q_blockN | with_reducible apply q_thenE | ((with_reducible apply q_blockE); exact rfl))
          all_goals exact ⟨rfl, (g, cp), trivial, by (repeat (first | exact FrSub.nil | (apply FrSub.cons; exact rfl))), by (rw [he]; (repeat (first | exact HpSub.refl _ | (apply HpSub.consE; (repeat (first | exact P0 | apply P1)); exact rfl) | exact HpSub.nil)))⟩
    · rintro ⟨g, cp⟩ -
      try dsimp only
      repeat' (first | ((with_reducible apply oq_id); first | (apply oq_fn; exact rfl; first | exact trivial | (refine ⟨?_, ?_⟩ <;> omega) | (refine ⟨?_, ?_, ?_⟩ <;> omega) | omega | skip)) | ((with_reducible apply tl_id); first | ((with_reducible apply tl_nil)) | ((with_reducible apply u_q); exact rfl; exact rfl; exact rfl; exact rfl)) | ((with_reducible apply t_id); first | (apply t_region; kernel_rfl)) | with_reducible apply q_thenN)
      all_goals (refine ⟨(i + 1, some (g, cp)), ⟨(by simp only; omega), fun h => by cases h⟩, (by simp only; omega), ?_, ?_⟩)
      all_goals (simp only [clA, clC, clH, List.append_nil])
      all_goals first
        | ((repeat (first | exact FrSub.nil | (apply FrSub.cons; exact rfl))); done)
        | ((repeat (first | exact HpSub.refl _ | (apply HpSub.consE; (repeat (first | exact P0 | apply P1)); exact rfl) | exact HpSub.nil)); done)
  · obtain rfl : i = n := by omega
    have hln : l.take i = l := List.take_of_length_le (by omega)
    rw [hln] at hsl ⊢
    repeat' (first | ((with_reducible apply oq_id); first | ((with_reducible apply oq_lssF); exact rfl; exact rfl; omega) | (apply oq_fn; exact rfl; first | exact trivial | (refine ⟨?_, ?_⟩ <;> omega) | (refine ⟨?_, ?_, ?_⟩ <;> omega) | omega | skip)) | ((with_reducible apply tl_id); first | ((with_reducible apply tl_nil)) | ((with_reducible apply u_q); exact rfl; exact rfl; exact rfl; exact rfl)) | ((with_reducible apply t_id); first | ((with_reducible apply t_seq)) | (apply t_region; kernel_rfl) | ((with_reducible apply t_condF); exact rfl) | ((with_reducible apply t_ret)) | ((with_reducible apply t_exit))) | with_reducible apply q_thenN | with_reducible apply q_thenE | ((with_reducible apply q_blockE); exact rfl) | ((with_reducible apply end_ret)) | exact rvs_nil | ((with_reducible apply rvs_cons)) | ((with_reducible apply rv_tmp); exact rfl))
    all_goals exact ⟨_, ⟨o, (fun h => by rw [hsl]; exact ho h), by rw [hsl]; rfl, rfl⟩, HpSub.refl _⟩

end Go.Proofs.Ytmlmgipngbndgaa
/- Who is tired, as the reference finds it. -/
namespace Go.Proofs.Ytmlmgipngbndgaa
open Go.RowKit
attribute [local irreducible] OQ OS OX Rd T TL GX GL AL AI RV wpG SAny Calls
set_option maxRecDepth 100000
set_option maxHeartbeats 2000000
set_option linter.unusedVariables false
set_option linter.unusedSimpArgs false

theorem sh_own {w0 : World} {M : Ms} {H H' : Hp} {w : World} {g n : Nat} {S : List Sh} {tg : Tg} (hl : S.length = n) (h : Has w0 M H w) (q : Pick H g (shB S) tg H') : RdS w 3 (some ⟨g, 0, none⟩) n (S.map shCells) :=
  Blk.rows (h.blk _ q.mem).2 (by simpa using hl) (by simp only [List.mem_map]; rintro r ⟨x, _, rfl⟩; rfl)
theorem refTired_T (d : Du) (hd : duB d) (A : Option Addr) (n c : Nat) (l : List Sh) (w : World) (hr : RdS w 3 A n (l.map shCells)) (hn : n ≤ 1000) (hRos : Ros l) :
    Calls Try.prog 83 #[.agg #[.int .i64 d.most, .int .i64 d.rest, .int .i64 d.win, .int .i64 d.sum], .slice A n c] w fun e w' => ∃ v H', e = .returned v ∧ TiO (tiV d l) v H' ∧ Has w ⟨[], []⟩ H' w' := by
  have hl := hr.len
  simp only [List.length_map] at hl
  obtain ⟨S, hS⟩ : ∃ S, srtS l = S := ⟨_, rfl⟩
  have hsl : S.length = n := by rw [← hS, srtS, srt_len, hl]
  have hfit : Fit S := by rw [← hS]; exact (fitS_iff l).2 hRos
  have hsrt : Srt ltS S := by rw [← hS]; exact srt_srt woS l
  have hall : ∀ y ∈ S, shOk y := fun y hy => hRos.1 y ((srt_perm l).mem_iff.1 (by rw [← hS] at hy; exact hy))
  have hti : tiV d l = tiTo d S n := by unfold tiV; rw [hS, hl]
  obtain ⟨⟨dm1, dm2⟩, ⟨dr1, dr2⟩, ⟨dw1, dw2⟩, ds1, ds2⟩ := hd
  refine enterF (c := cx w 94) Try.func83 rfl rfl rfl rfl ?_
  refine t_cut (ι := Nat) (fun b2 => [(1, .slice A n c), (2, .pointer (some ⟨b2, 0, none⟩))]) (fun b2 => [(b2, [.int .i64 d.most, .int .i64 d.rest, .int .i64 d.win, .int .i64 d.sum], some (74, 4, 1))]) (fun _ => True) ?_ ?_
  · repeat' (first | ((with_reducible apply oq_id); first | (apply oq_fn; exact rfl; first | exact trivial | (refine ⟨?_, ?_⟩ <;> omega) | (refine ⟨?_, ?_, ?_⟩ <;> omega) | omega | skip)) | ((with_reducible apply tl_id); first | ((with_reducible apply tl_nil)) | ((with_reducible apply u_q); exact rfl; exact rfl; exact rfl; exact rfl) | ((with_reducible apply u_s); exact rfl; exact rfl; exact rfl)) | ((with_reducible apply os_id); first | ((with_reducible apply os_x); exact rfl)) | ((with_reducible apply ox_id); first | ((with_reducible apply ox_boxAgg); exact rfl; intro _)) | ((with_reducible apply t_id); first | (apply t_region; kernel_rfl)))
    all_goals exact ⟨rfl, _, trivial, by (repeat (first | exact FrSub.nil | (apply FrSub.cons; exact rfl))), by (repeat (first | exact HpSub.refl _ | (apply HpSub.consE; (repeat (first | exact P0 | apply P1 | apply PA)); exact rfl) | exact HpSub.nil))⟩
  rintro b2 -
  refine t_cut (ι := Option (Nat × Nat)) (fun x => [(1, .slice (clA x) n (clC x)), (2, .pointer (some ⟨b2, 0, none⟩))]) (fun x => clH 101 3 (shB S) x ++ [(b2, [.int .i64 d.most, .int .i64 d.rest, .int .i64 d.win, .int .i64 d.sum], some (74, 4, 1))]) (fun x => x = none → n = 0) ?_ ?_
  · repeat' (first | ((with_reducible apply oq_id); first | (apply oq_fn; exact rfl; first | exact trivial | (refine ⟨?_, ?_⟩ <;> omega) | (refine ⟨?_, ?_, ?_⟩ <;> omega) | omega | skip)) | ((with_reducible apply tl_id); first | ((with_reducible apply tl_nil)) | ((with_reducible apply u_s); exact rfl; exact rfl; exact rfl; (with_reducible apply os_callF (PV := SrtO S) (k := 112) (hc := Try.call112)); exact rfl; exact rfl; exact fun D w1 hw1 => (by rw [← hS]; exact sorted_T A n c l w1 (hr.ext hw1.ext.ext) (by omega)); rintro v H' ⟨x, hx, rfl, rfl⟩; (try simp only [List.append_nil])) | ((with_reducible apply u_q); exact rfl; exact rfl; exact rfl; exact rfl)) | ((with_reducible apply t_id); first | (apply t_region; kernel_rfl)))
    all_goals (rw [hsl] at hx)
    all_goals exact ⟨by trivial, x, hx, by (rw [hsl]; (repeat (first | exact FrSub.nil | (apply FrSub.cons; exact rfl)))), by (repeat (first | exact HpSub.refl _ | (apply HpSub.consE; (repeat (first | exact P0 | apply P1 | apply PA)); exact rfl) | apply HpSub.appC | apply HpSub.skipX | apply HpSub.skip | apply HpSub.skipApp | exact HpSub.nil))⟩
  rintro x hx
  rcases x with _ | ⟨g, cp⟩
  · obtain rfl := hx rfl
    simp only [clA, clC, clH, List.nil_append]
    rw [hti]
    repeat' (first | ((with_reducible apply oq_id); first | (apply oq_fn; exact rfl; first | exact trivial | (refine ⟨?_, ?_⟩ <;> omega) | (refine ⟨?_, ?_, ?_⟩ <;> omega) | omega | skip)) | ((with_reducible apply tl_id); first | ((with_reducible apply tl_nil)) | ((with_reducible apply u_q); exact rfl; exact rfl; exact rfl; exact rfl)) | ((with_reducible apply t_id); first | ((with_reducible apply t_seq)) | (apply t_region; kernel_rfl) | ((with_reducible apply t_block))) | with_reducible apply q_thenN)
    apply t_loopK (ι := Unit) [1, 2] (fun _ => [(6, .int .i64 0), (5, .slice none 0 0)]) (fun _ => []) (fun _ => True) (fun _ => 0) (())
    (repeat (first | exact KeepF.nil | (apply KeepF.cons; exact rfl) | apply KeepF.skip))
    (repeat (first | exact FrSub.nil | (apply FrSub.cons; exact rfl)))
    (repeat (first | exact HpSub.refl _ | (apply HpSub.consE; (repeat (first | exact P0 | apply P1 | apply PA)); exact rfl) | exact HpSub.nil))
    · trivial
    rintro ⟨⟩ -
    repeat' (first | ((with_reducible apply oq_id); first | ((with_reducible apply oq_lssF); exact rfl; exact rfl; omega) | (apply oq_fn; exact rfl; first | exact trivial | (refine ⟨?_, ?_⟩ <;> omega) | (refine ⟨?_, ?_, ?_⟩ <;> omega) | omega | skip)) | ((with_reducible apply tl_id); first | ((with_reducible apply tl_nil)) | ((with_reducible apply u_q); exact rfl; exact rfl; exact rfl; exact rfl)) | ((with_reducible apply t_id); first | ((with_reducible apply t_seq)) | (apply t_region; kernel_rfl) | ((with_reducible apply t_condF); exact rfl) | ((with_reducible apply t_ret)) | ((with_reducible apply t_exit))) | with_reducible apply q_thenN | with_reducible apply q_thenE | ((with_reducible apply q_blockE); exact rfl) | ((with_reducible apply end_ret)) | exact rvs_nil | ((with_reducible apply rvs_cons)) | ((with_reducible apply rv_tmp); exact rfl))
    all_goals exact ⟨_, ⟨none, fun _ => rfl, rfl, rfl⟩, HpSub.nil⟩
  simp only [clA, clC, clH, List.cons_append, List.nil_append]
  repeat' (first | ((with_reducible apply oq_id); first | (apply oq_fn; exact rfl; first | exact trivial | (refine ⟨?_, ?_⟩ <;> omega) | (refine ⟨?_, ?_, ?_⟩ <;> omega) | omega | skip)) | ((with_reducible apply tl_id); first | ((with_reducible apply tl_nil)) | ((with_reducible apply u_q); exact rfl; exact rfl; exact rfl; exact rfl)) | ((with_reducible apply t_id); first | ((with_reducible apply t_seq)) | (apply t_region; kernel_rfl) | ((with_reducible apply t_block))) | with_reducible apply q_thenN)
  apply t_loopK (GH := []) (ι := Nat × Option (Nat × Nat)) [1, 2] (fun z => [(6, .int .i64 (z.1 : Nat)), (5, .slice (clA z.2) (tiTo d S z.1).length (clC z.2))]) (fun z => clH 99 3 (tiB (tiTo d S z.1)) z.2 ++ [(g, shB S, some (101, 3, cp)), (b2, [.int .i64 d.most, .int .i64 d.rest, .int .i64 d.win, .int .i64 d.sum], some (74, 4, 1))]) (fun z => z.1 ≤ n ∧ (z.2 = none → (tiTo d S z.1).length = 0)) (fun z => n - z.1) ((0, none))
  (repeat (first | exact KeepF.nil | (apply KeepF.cons; exact rfl) | apply KeepF.skip))
  (repeat (first | exact FrSub.nil | (apply FrSub.cons; exact rfl) | (apply FrSub.consE; exact rfl; (congr 1))))
  ((try simp only [List.append_nil]); (repeat (first | exact HpSub.refl _ | (apply HpSub.consE; (repeat (first | exact P0 | apply P1 | apply PA)); exact rfl) | apply HpSub.appC | apply HpSub.skipX | apply HpSub.skip | apply HpSub.skipApp | exact HpSub.nil)))
  · exact ⟨Nat.zero_le _, fun _ => rfl⟩
  rintro ⟨i, o⟩ ⟨hi, ho⟩
  simp only at hi ho
  simp only [List.append_nil]
  have htl := tiTo_len d S i
  by_cases hlt : i < n
  · obtain ⟨x, hx⟩ : ∃ x, S[i]? = some x := ⟨_, List.getElem?_eq_getElem (by omega)⟩
    have hxo := hall x (List.mem_of_getElem? hx)
    have hxo' := hxo
    unfold shOk at hxo'
    obtain ⟨q0, q1, q2⟩ := sh_at hx
    refine t_cut (ι := Unit) (fun _ => [(1, .slice (some ⟨g, 0, none⟩) n cp), (2, .pointer (some ⟨b2, 0, none⟩)), (6, .int .i64 (i : Nat)), (5, .slice (clA o) (tiTo d S i).length (clC o))]) (fun _ => clH 99 3 (tiB (tiTo d S i)) o ++ [(g, shB S, some (101, 3, cp)), (b2, [.int .i64 d.most, .int .i64 d.rest, .int .i64 d.win, .int .i64 d.sum], some (74, 4, 1))]) (fun _ => True) ?_ ?_
    · repeat' (first | ((with_reducible apply oq_id); first | ((with_reducible apply oq_lssT); exact rfl; exact rfl; omega) | (apply oq_fn; exact rfl; first | exact trivial | (refine ⟨?_, ?_⟩ <;> omega) | (refine ⟨?_, ?_, ?_⟩ <;> omega) | omega | skip)) | ((with_reducible apply tl_id); first | ((with_reducible apply tl_nil)) | ((with_reducible apply u_q); exact rfl; exact rfl; exact rfl; exact rfl)) | ((with_reducible apply t_id); first | ((with_reducible apply t_seq)) | (apply t_region; kernel_rfl) | ((with_reducible apply t_condT); exact rfl) | ((with_reducible apply t_skip))) | with_reducible apply q_thenN)
      all_goals exact ⟨rfl, (), trivial, by (repeat (first | exact FrSub.nil | (apply FrSub.cons; exact rfl))), by (repeat (first | exact HpSub.refl _ | (apply HpSub.consE; (repeat (first | exact P0 | apply P1 | apply PA)); exact rfl) | apply HpSub.appC | apply HpSub.skipX | apply HpSub.skip | apply HpSub.skipApp | exact HpSub.nil))⟩
    rintro ⟨⟩ -
    refine t_cut (ι := Option (Nat × Nat)) (fun o => [(1, .slice (some ⟨g, 0, none⟩) n cp), (2, .pointer (some ⟨b2, 0, none⟩)), (6, .int .i64 (i : Nat)), (5, .slice (clA o) (tiTo d S (i + 1)).length (clC o))]) (fun o => clH 99 3 (tiB (tiTo d S (i + 1))) o ++ [(g, shB S, some (101, 3, cp)), (b2, [.int .i64 d.most, .int .i64 d.rest, .int .i64 d.win, .int .i64 d.sum], some (74, 4, 1))]) (fun o => o = none → (tiTo d S (i + 1)).length = 0) ?_ ?_
    · obtain ⟨bA, hbA⟩ : ∃ b, decide (x.to - x.fr > d.most) = b := ⟨_, rfl⟩
      obtain ⟨bB, hbB⟩ : ∃ b, restB d S i x = b := ⟨_, rfl⟩
      obtain ⟨bC, hbC⟩ : ∃ b, decide (workV S x.who x.fr (x.fr + d.win) > d.sum) = b := ⟨_, rfl⟩
      have hT0 : tiTo d S i ++ casK bA bB bC x 0 = tiTo d S i := List.append_nil _
      have hT3 : tiTo d S i ++ casK bA bB bC x 3 = tiTo d S (i + 1) := by
        rw [tiTo_succ hx, casK_all hbA.symm hbB.symm hbC.symm]
      have hkl : ∀ k, (tiTo d S i ++ casK bA bB bC x k).length ≤ 3 * i + 3 := fun k => by
        rw [List.length_append]
        have := casK_len bA bB bC x k
        omega
      rw [← hT0] at ho ⊢
      rw [← hT3]
      clear hT0 hT3
      refine t_block ?_
      refine t_cut (ι := Nat) (fun b7 => [(1, .slice (some ⟨g, 0, none⟩) n cp), (2, .pointer (some ⟨b2, 0, none⟩)), (6, .int .i64 (i : Nat)), (7, .pointer (some ⟨b7, 0, none⟩)), (5, .slice (clA o) (tiTo d S i ++ casK bA bB bC x 0).length (clC o))]) (fun b7 => (b7, [.int .i64 x.who, .int .i64 x.fr, .int .i64 x.to], some (101, 3, 1)) :: (clH 99 3 (tiB (tiTo d S i ++ casK bA bB bC x 0)) o ++ [(g, shB S, some (101, 3, cp)), (b2, [.int .i64 d.most, .int .i64 d.rest, .int .i64 d.win, .int .i64 d.sum], some (74, 4, 1))])) (fun _ => True) ?_ ?_
      · repeat' (first | ((with_reducible apply oq_id); first | (focus ((with_reducible apply oq_indexAddrN); exact rfl; exact rfl; exact rfl; exact rfl; omega)) | (apply oq_fn; exact rfl; first | exact trivial | (refine ⟨?_, ?_⟩ <;> omega) | (refine ⟨?_, ?_, ?_⟩ <;> omega) | omega | skip) | ((with_reducible apply oq_loadAgg); exact rfl; exact rfl)) | ((with_reducible apply tl_id); first | ((with_reducible apply tl_nil)) | ((with_reducible apply u_q); exact rfl; exact rfl; exact rfl; exact rfl) | ((with_reducible apply u_s0); exact rfl; exact rfl) | ((with_reducible apply u_s); exact rfl; exact rfl; exact rfl)) | ((with_reducible apply os_id); first | ((with_reducible apply os_x); exact rfl) | ((with_reducible apply os_storeAgg); exact rfl; exact rfl; exact rfl; exact rfl; exact rfl)) | ((with_reducible apply ox_id); first | ((with_reducible apply ox_alloc); exact rfl; intro _)) | ((with_reducible apply rd_id); first | (apply Rd.own; (repeat (first | exact P0 | apply P1 | apply PA)); first | exact q0 | exact q1 | exact q2 | exact r0 | exact r1 | exact r2; done)) | ((with_reducible apply t_id); first | (apply t_region; kernel_rfl)) | exact P0 | exact Rdn.zero | apply Rdn.succ | ((with_reducible apply Norm.nil); exact rfl) | ((with_reducible apply Norm.cons); exact rfl) | exact Nat.le_of_ble_eq_true rfl)
        all_goals exact ⟨rfl, _, trivial, by (repeat (first | exact FrSub.nil | (apply FrSub.cons; exact rfl))), by (repeat (first | exact HpSub.refl _ | (apply HpSub.consE; (repeat (first | exact P0 | apply P1 | apply PA)); exact rfl) | apply HpSub.appC | apply HpSub.skipX | apply HpSub.skip | apply HpSub.skipApp | exact HpSub.nil))⟩
      rintro b7 -
      try dsimp only
      refine t_cut (ι := Option (Nat × Nat)) (fun o => [(1, .slice (some ⟨g, 0, none⟩) n cp), (2, .pointer (some ⟨b2, 0, none⟩)), (6, .int .i64 (i : Nat)), (7, .pointer (some ⟨b7, 0, none⟩)), (5, .slice (clA o) (tiTo d S i ++ casK bA bB bC x 1).length (clC o))]) (fun o => (b7, [.int .i64 x.who, .int .i64 x.fr, .int .i64 x.to], some (101, 3, 1)) :: (clH 99 3 (tiB (tiTo d S i ++ casK bA bB bC x 1)) o ++ [(g, shB S, some (101, 3, cp)), (b2, [.int .i64 d.most, .int .i64 d.rest, .int .i64 d.win, .int .i64 d.sum], some (74, 4, 1))])) (fun o => o = none → (tiTo d S i ++ casK bA bB bC x 1).length = 0) ?_ ?_
      · have hkl := hkl 0
        obtain ⟨T0, hT⟩ : ∃ T, tiTo d S i ++ casK bA bB bC x 0 = T := ⟨_, rfl⟩
        rw [hT] at hkl ho ⊢
        cases bA with
        | false =>
          simp only [decide_eq_false_iff_not, gt_iff_lt] at hbA
          have e1 : tiTo d S i ++ casK false bB bC x 1 = T0 := by rw [← hT]; simp [casK]
          repeat' (first | ((with_reducible apply oq_id); first | ((with_reducible apply oq_gtrF); exact rfl; exact rfl; omega) | (apply oq_fn; exact rfl; first | exact trivial | (refine ⟨?_, ?_⟩ <;> omega) | (refine ⟨?_, ?_, ?_⟩ <;> omega) | omega | skip) | ((with_reducible apply oq_load); exact rfl; exact rfl)) | ((with_reducible apply tl_id); first | ((with_reducible apply tl_nil)) | ((with_reducible apply u_q); exact rfl; exact rfl; exact rfl; exact rfl)) | ((with_reducible apply rd_id); first | (apply Rd.own; (repeat (first | exact P0 | apply P1 | apply PA)); exact rfl; done)) | ((with_reducible apply t_id); first | ((with_reducible apply t_seq)) | (apply t_region; kernel_rfl) | ((with_reducible apply t_condF); exact rfl) | ((with_reducible apply t_skip))) | with_reducible apply q_thenN)
          all_goals (refine ⟨rfl, o, (by simp only [e1]; exact ho), ?_, ?_⟩)
          all_goals (simp only [e1])
          all_goals first
            | ((repeat (first | exact FrSub.nil | (apply FrSub.cons; exact rfl))); done)
            | ((repeat (first | exact HpSub.refl _ | (apply HpSub.consE; (repeat (first | exact P0 | apply P1 | apply PA)); exact rfl) | apply HpSub.appC | apply HpSub.skipX | apply HpSub.skip | apply HpSub.skipApp | exact HpSub.nil)); done)
        | true =>
          simp only [decide_eq_true_eq, gt_iff_lt] at hbA
          have e1 : tiTo d S i ++ casK true bB bC x 1 = T0 ++ [⟨1, x.who, x.fr⟩] := by rw [← hT]; simp [casK]
          rcases o with _ | ⟨go, co⟩
          · have h0 := ho rfl
            obtain rfl := List.length_eq_zero_iff.1 h0
            simp only [clA, clC, clH, List.nil_append, List.length_nil]
            repeat' (first | ((with_reducible apply oq_id); first | ((with_reducible apply oq_gtrT); exact rfl; exact rfl; omega) | (apply oq_fn; exact rfl; first | exact trivial | (refine ⟨?_, ?_⟩ <;> omega) | (refine ⟨?_, ?_, ?_⟩ <;> omega) | omega | skip) | ((with_reducible apply oq_load); exact rfl; exact rfl) | ((with_reducible apply oq_build); exact rfl; exact rfl; exact rfl)) | ((with_reducible apply tl_id); first | ((with_reducible apply tl_nil)) | ((with_reducible apply u_q); exact rfl; exact rfl; exact rfl; exact rfl) | ((with_reducible apply u_s); exact rfl; exact rfl; exact rfl)) | ((with_reducible apply os_id); first | ((with_reducible apply os_x); exact rfl) | ((with_reducible apply os_appendNil (hk := app_ok77)); exact rfl; exact rfl)) | ((with_reducible apply ox_id); first | ((with_reducible apply ox_buildSlice); exact rfl; exact rfl; exact rfl; exact rfl)) | ((with_reducible apply rd_id); first | (apply Rd.own; (repeat (first | exact P0 | apply P1 | apply PA)); exact rfl; done)) | ((with_reducible apply t_id); first | ((with_reducible apply t_seq)) | (apply t_region; kernel_rfl) | ((with_reducible apply t_condT); exact rfl)) | with_reducible apply q_thenN | exact Rdn.zero | apply Rdn.succ | ((with_reducible apply Norm.nil); exact rfl) | ((with_reducible apply Norm.cons); exact rfl) | (intro gN cN; with_reducible apply tl_id) | exact Nat.le_of_ble_eq_true rfl | exact (rfl : (_ : Bool) = true) | (intro _; with_reducible apply tl_id))
            all_goals (refine ⟨rfl, some (gN, cN), (fun h => by cases h), ?_, ?_⟩)
            all_goals (simp only [e1])
            all_goals first
              | ((try simp only [List.cons_append, List.nil_append]); (repeat (first | exact FrSub.nil | (apply FrSub.cons; exact rfl) | (apply FrSub.consE; exact rfl; (focus (simp; done))))); done)
              | ((try simp only [List.cons_append, List.nil_append]); (repeat (first | exact HpSub.refl _ | (apply HpSub.consE; (repeat (first | exact P0 | apply P1 | apply PA)); first | exact rfl | (focus (simp [tiB_app, tiB, tiCells]; done))) | apply HpSub.appC | apply HpSub.skipX | apply HpSub.skip | apply HpSub.skipApp | exact HpSub.nil)); done)
          · simp only [clA, clC, clH, List.cons_append, List.nil_append]
            repeat' (first | ((with_reducible apply oq_id); first | ((with_reducible apply oq_gtrT); exact rfl; exact rfl; omega) | (apply oq_fn; exact rfl; first | exact trivial | (refine ⟨?_, ?_⟩ <;> omega) | (refine ⟨?_, ?_, ?_⟩ <;> omega) | omega | skip) | ((with_reducible apply oq_load); exact rfl; exact rfl) | ((with_reducible apply oq_build); exact rfl; exact rfl; exact rfl)) | ((with_reducible apply tl_id); first | ((with_reducible apply tl_nil)) | ((with_reducible apply u_q); exact rfl; exact rfl; exact rfl; exact rfl) | ((with_reducible apply u_s); exact rfl; exact rfl; exact rfl)) | ((with_reducible apply os_id); first | ((with_reducible apply os_x); exact rfl) | ((with_reducible apply os_append (hk := app_ok77)); exact rfl; exact rfl; (repeat (first | exact P0 | apply P1 | apply PA)))) | ((with_reducible apply ox_id); first | ((with_reducible apply ox_buildSlice); exact rfl; exact rfl; exact rfl; exact rfl)) | ((with_reducible apply rd_id); first | (apply Rd.own; (repeat (first | exact P0 | apply P1 | apply PA)); exact rfl; done)) | ((with_reducible apply t_id); first | ((with_reducible apply t_seq)) | (apply t_region; kernel_rfl) | ((with_reducible apply t_condT); exact rfl)) | with_reducible apply q_thenN | exact Rdn.zero | apply Rdn.succ | ((with_reducible apply Norm.nil); exact rfl) | ((with_reducible apply Norm.cons); exact rfl) | exact tiB_len _ | (intro gN cN; with_reducible apply tl_id) | exact Nat.le_of_ble_eq_true rfl | exact (rfl : (_ : Bool) = true) | omega | (intro _; with_reducible apply tl_id))
            all_goals (refine ⟨rfl, some (gN, cN), (fun h => by cases h), ?_, ?_⟩)
            all_goals (simp only [e1])
            all_goals first
              | ((try simp only [List.cons_append, List.nil_append]); (repeat (first | exact FrSub.nil | (apply FrSub.cons; exact rfl) | (apply FrSub.consE; exact rfl; (focus (simp; done))))); done)
              | ((try simp only [List.cons_append, List.nil_append]); (repeat (first | exact HpSub.refl _ | (apply HpSub.consE; (repeat (first | exact P0 | apply P1 | apply PA)); first | exact rfl | (focus (simp [tiB_app, tiB, tiCells]; done))) | apply HpSub.appC | apply HpSub.skipX | apply HpSub.skip | apply HpSub.skipApp | exact HpSub.nil)); done)
      clear ho o
      rintro o ho
      try dsimp only
      refine t_cut (ι := Option (Nat × Nat)) (fun o => [(1, .slice (some ⟨g, 0, none⟩) n cp), (2, .pointer (some ⟨b2, 0, none⟩)), (6, .int .i64 (i : Nat)), (7, .pointer (some ⟨b7, 0, none⟩)), (5, .slice (clA o) (tiTo d S i ++ casK bA bB bC x 2).length (clC o))]) (fun o => (b7, [.int .i64 x.who, .int .i64 x.fr, .int .i64 x.to], some (101, 3, 1)) :: (clH 99 3 (tiB (tiTo d S i ++ casK bA bB bC x 2)) o ++ [(g, shB S, some (101, 3, cp)), (b2, [.int .i64 d.most, .int .i64 d.rest, .int .i64 d.win, .int .i64 d.sum], some (74, 4, 1))])) (fun o => o = none → (tiTo d S i ++ casK bA bB bC x 2).length = 0) ?_ ?_
      · have hkl := hkl 1
        obtain ⟨T0, hT⟩ : ∃ T, tiTo d S i ++ casK bA bB bC x 1 = T := ⟨_, rfl⟩
        rw [hT] at hkl ho ⊢
        by_cases h4 : i = 0
        · have hbF : bB = false := by rw [← hbB, h4]; rfl
          subst hbF
          have e1 : tiTo d S i ++ casK bA false bC x 2 = T0 := by rw [← hT]; simp [casK]
          repeat' (first | ((with_reducible apply oq_id); first | ((with_reducible apply oq_gtrF); exact rfl; exact rfl; omega) | (apply oq_fn; exact rfl; first | exact trivial | (refine ⟨?_, ?_⟩ <;> omega) | (refine ⟨?_, ?_, ?_⟩ <;> omega) | omega | skip)) | ((with_reducible apply gx_id); first | ((with_reducible apply v_nil)) | ((with_reducible apply v_q); exact rfl; exact rfl; exact rfl) | ((with_reducible apply v_skip); exact rfl; exact rfl; exact rfl)) | ((with_reducible apply t_id); first | ((with_reducible apply t_seq)) | (apply t_drawn; kernel_rfl; decide +kernel; try simp only [List.append_eq, List.cons_append, List.nil_append]) | ((with_reducible apply t_condF); exact rfl) | ((with_reducible apply t_skip))) | with_reducible apply q_thenN)
          all_goals (refine ⟨rfl, o, (by simp only [e1]; exact ho), ?_, ?_⟩)
          all_goals (simp only [e1])
          all_goals first
            | ((repeat (first | exact FrSub.nil | (apply FrSub.cons; exact rfl))); done)
            | ((repeat (first | exact HpSub.refl _ | (apply HpSub.consE; (repeat (first | exact P0 | apply P1 | apply PA)); exact rfl) | apply HpSub.appC | apply HpSub.skipX | apply HpSub.skip | apply HpSub.skipApp | exact HpSub.nil)); done)
        obtain ⟨y, hy⟩ : ∃ y, S[i - 1]? = some y := ⟨_, List.getElem?_eq_getElem (by omega)⟩
        obtain ⟨r0, r1, r2⟩ := sh_at hy
        have hyo := hall y (List.mem_of_getElem? hy)
        unfold shOk at hyo
        unfold restB at hbB
        rw [hy, show decide (0 < i) = true by simp; omega, Bool.true_and] at hbB
        by_cases h5 : y.who = x.who
        rotate_left
        · have hbF : bB = false := by rw [← hbB]; simp [h5]
          subst hbF
          have e1 : tiTo d S i ++ casK bA false bC x 2 = T0 := by rw [← hT]; simp [casK]
          repeat' (first | ((with_reducible apply oq_id); first | (focus ((with_reducible apply oq_indexAddrN); exact rfl; exact rfl; exact rfl; exact rfl; omega)) | ((with_reducible apply oq_subE (k := ((i - 1 : Nat) : Int))); exact rfl; exact rfl; omega) | ((with_reducible apply oq_gtrT); exact rfl; exact rfl; omega) | ((with_reducible apply oq_eqlF); exact rfl; exact rfl; omega) | (apply oq_fn; exact rfl; first | exact trivial | (refine ⟨?_, ?_⟩ <;> omega) | (refine ⟨?_, ?_, ?_⟩ <;> omega) | omega | skip) | ((with_reducible apply oq_load); exact rfl; exact rfl)) | ((with_reducible apply gx_id); first | ((with_reducible apply v_nil)) | ((with_reducible apply v_q); exact rfl; exact rfl; exact rfl) | ((with_reducible apply v_skip); exact rfl; exact rfl; exact rfl)) | ((with_reducible apply rd_id); first | (apply Rd.own; (repeat (first | exact P0 | apply P1 | apply PA)); first | exact q0 | exact q1 | exact q2 | exact r0 | exact r1 | exact r2; done) | (apply Rd.own; (repeat (first | exact P0 | apply P1 | apply PA)); exact rfl; done)) | ((with_reducible apply t_id); first | ((with_reducible apply t_seq)) | (apply t_drawn; kernel_rfl; decide +kernel; try simp only [List.append_eq, List.cons_append, List.nil_append]) | ((with_reducible apply t_condF); exact rfl) | ((with_reducible apply t_skip))) | with_reducible apply q_thenN)
          all_goals (refine ⟨rfl, o, (by simp only [e1]; exact ho), ?_, ?_⟩)
          all_goals (simp only [e1])
          all_goals first
            | ((repeat (first | exact FrSub.nil | (apply FrSub.cons; exact rfl))); done)
            | ((repeat (first | exact HpSub.refl _ | (apply HpSub.consE; (repeat (first | exact P0 | apply P1 | apply PA)); exact rfl) | apply HpSub.appC | apply HpSub.skipX | apply HpSub.skip | apply HpSub.skipApp | exact HpSub.nil)); done)
        have hyx := (hfit i x hx).2 y (by omega) hy h5
        by_cases h6 : x.fr - y.to < d.rest
        rotate_left
        · have hbF : bB = false := by rw [← hbB]; simp [h5, h6]
          subst hbF
          have e1 : tiTo d S i ++ casK bA false bC x 2 = T0 := by rw [← hT]; simp [casK]
          repeat' (first | ((with_reducible apply oq_id); first | (focus ((with_reducible apply oq_indexAddrN); exact rfl; exact rfl; exact rfl; exact rfl; omega)) | ((with_reducible apply oq_subE (k := ((i - 1 : Nat) : Int))); exact rfl; exact rfl; omega) | ((with_reducible apply oq_gtrT); exact rfl; exact rfl; omega) | ((with_reducible apply oq_eqlT); exact rfl; exact rfl; omega) | ((with_reducible apply oq_lssF); exact rfl; exact rfl; omega) | (apply oq_fn; exact rfl; first | exact trivial | (refine ⟨?_, ?_⟩ <;> omega) | (refine ⟨?_, ?_, ?_⟩ <;> omega) | omega | skip) | ((with_reducible apply oq_load); exact rfl; exact rfl)) | ((with_reducible apply gx_id); first | ((with_reducible apply v_nil)) | ((with_reducible apply v_q); exact rfl; exact rfl; exact rfl)) | ((with_reducible apply rd_id); first | (apply Rd.own; (repeat (first | exact P0 | apply P1 | apply PA)); first | exact q0 | exact q1 | exact q2 | exact r0 | exact r1 | exact r2; done) | (apply Rd.own; (repeat (first | exact P0 | apply P1 | apply PA)); exact rfl; done)) | ((with_reducible apply t_id); first | ((with_reducible apply t_seq)) | (apply t_drawn; kernel_rfl; decide +kernel; try simp only [List.append_eq, List.cons_append, List.nil_append]) | ((with_reducible apply t_condF); exact rfl) | ((with_reducible apply t_skip))) | with_reducible apply q_thenN)
          all_goals (refine ⟨rfl, o, (by simp only [e1]; exact ho), ?_, ?_⟩)
          all_goals (simp only [e1])
          all_goals first
            | ((repeat (first | exact FrSub.nil | (apply FrSub.cons; exact rfl))); done)
            | ((repeat (first | exact HpSub.refl _ | (apply HpSub.consE; (repeat (first | exact P0 | apply P1 | apply PA)); exact rfl) | apply HpSub.appC | apply HpSub.skipX | apply HpSub.skip | apply HpSub.skipApp | exact HpSub.nil)); done)
        have hbT : bB = true := by rw [← hbB]; simp [h5, h6]
        subst hbT
        have e1 : tiTo d S i ++ casK bA true bC x 2 = T0 ++ [⟨2, x.who, x.fr⟩] := by rw [← hT]; simp [casK]
        rcases o with _ | ⟨go, co⟩
        · have h0 := ho rfl
          obtain rfl := List.length_eq_zero_iff.1 h0
          simp only [clA, clC, clH, List.nil_append, List.length_nil]
          repeat' (first | ((with_reducible apply oq_id); first | (focus ((with_reducible apply oq_indexAddrN); exact rfl; exact rfl; exact rfl; exact rfl; omega)) | ((with_reducible apply oq_subE (k := ((i - 1 : Nat) : Int))); exact rfl; exact rfl; omega) | ((with_reducible apply oq_gtrT); exact rfl; exact rfl; omega) | ((with_reducible apply oq_eqlT); exact rfl; exact rfl; omega) | ((with_reducible apply oq_lssT); exact rfl; exact rfl; omega) | (apply oq_fn; exact rfl; first | exact trivial | (refine ⟨?_, ?_⟩ <;> omega) | (refine ⟨?_, ?_, ?_⟩ <;> omega) | omega | skip) | ((with_reducible apply oq_load); exact rfl; exact rfl) | ((with_reducible apply oq_build); exact rfl; exact rfl; exact rfl)) | ((with_reducible apply tl_id); first | ((with_reducible apply tl_nil)) | ((with_reducible apply u_q); exact rfl; exact rfl; exact rfl; exact rfl) | ((with_reducible apply u_s); exact rfl; exact rfl; exact rfl)) | ((with_reducible apply gx_id); first | ((with_reducible apply v_nil)) | ((with_reducible apply v_q); exact rfl; exact rfl; exact rfl)) | ((with_reducible apply os_id); first | ((with_reducible apply os_x); exact rfl) | ((with_reducible apply os_appendNil (hk := app_ok77)); exact rfl; exact rfl)) | ((with_reducible apply ox_id); first | ((with_reducible apply ox_buildSlice); exact rfl; exact rfl; exact rfl; exact rfl)) | ((with_reducible apply rd_id); first | (apply Rd.own; (repeat (first | exact P0 | apply P1 | apply PA)); first | exact q0 | exact q1 | exact q2 | exact r0 | exact r1 | exact r2; done) | (apply Rd.own; (repeat (first | exact P0 | apply P1 | apply PA)); exact rfl; done)) | ((with_reducible apply t_id); first | ((with_reducible apply t_seq)) | (apply t_region; kernel_rfl) | (apply t_drawn; kernel_rfl; decide +kernel; try simp only [List.append_eq, List.cons_append, List.nil_append]) | ((with_reducible apply t_condT); exact rfl)) | with_reducible apply q_thenN | exact Rdn.zero | apply Rdn.succ | ((with_reducible apply Norm.nil); exact rfl) | ((with_reducible apply Norm.cons); exact rfl) | (intro gN cN; with_reducible apply tl_id) | exact Nat.le_of_ble_eq_true rfl | exact (rfl : (_ : Bool) = true) | (intro _; with_reducible apply tl_id))
          all_goals (refine ⟨rfl, some (gN, cN), (fun h => by cases h), ?_, ?_⟩)
          all_goals (simp only [e1])
          all_goals first
            | ((try simp only [List.cons_append, List.nil_append]); (repeat (first | exact FrSub.nil | (apply FrSub.cons; exact rfl) | (apply FrSub.consE; exact rfl; (focus (simp; done))))); done)
            | ((try simp only [List.cons_append, List.nil_append]); (repeat (first | exact HpSub.refl _ | (apply HpSub.consE; (repeat (first | exact P0 | apply P1 | apply PA)); first | exact rfl | (focus (simp [tiB_app, tiB, tiCells]; done))) | apply HpSub.appC | apply HpSub.skipX | apply HpSub.skip | apply HpSub.skipApp | exact HpSub.nil)); done)
        · simp only [clA, clC, clH, List.cons_append, List.nil_append]
          repeat' (first | ((with_reducible apply oq_id); first | (focus ((with_reducible apply oq_indexAddrN); exact rfl; exact rfl; exact rfl; exact rfl; omega)) | ((with_reducible apply oq_subE (k := ((i - 1 : Nat) : Int))); exact rfl; exact rfl; omega) | ((with_reducible apply oq_gtrT); exact rfl; exact rfl; omega) | ((with_reducible apply oq_eqlT); exact rfl; exact rfl; omega) | ((with_reducible apply oq_lssT); exact rfl; exact rfl; omega) | (apply oq_fn; exact rfl; first | exact trivial | (refine ⟨?_, ?_⟩ <;> omega) | (refine ⟨?_, ?_, ?_⟩ <;> omega) | omega | skip) | ((with_reducible apply oq_load); exact rfl; exact rfl) | ((with_reducible apply oq_build); exact rfl; exact rfl; exact rfl)) | ((with_reducible apply tl_id); first | ((with_reducible apply tl_nil)) | ((with_reducible apply u_q); exact rfl; exact rfl; exact rfl; exact rfl) | ((with_reducible apply u_s); exact rfl; exact rfl; exact rfl)) | ((with_reducible apply gx_id); first | ((with_reducible apply v_nil)) | ((with_reducible apply v_q); exact rfl; exact rfl; exact rfl)) | ((with_reducible apply os_id); first | ((with_reducible apply os_x); exact rfl) | ((with_reducible apply os_append (hk := app_ok77)); exact rfl; exact rfl; (repeat (first | exact P0 | apply P1 | apply PA)))) | ((with_reducible apply ox_id); first | ((with_reducible apply ox_buildSlice); exact rfl; exact rfl; exact rfl; exact rfl)) | ((with_reducible apply rd_id); first | (apply Rd.own; (repeat (first | exact P0 | apply P1 | apply PA)); first | exact q0 | exact q1 | exact q2 | exact r0 | exact r1 | exact r2; done) | (apply Rd.own; (repeat (first | exact P0 | apply P1 | apply PA)); exact rfl; done)) | ((with_reducible apply t_id); first | ((with_reducible apply t_seq)) | (apply t_region; kernel_rfl) | (apply t_drawn; kernel_rfl; decide +kernel; try simp only [List.append_eq, List.cons_append, List.nil_append]) | ((with_reducible apply t_condT); exact rfl)) | with_reducible apply q_thenN | exact Rdn.zero | apply Rdn.succ | ((with_reducible apply Norm.nil); exact rfl) | ((with_reducible apply Norm.cons); exact rfl) | exact tiB_len _ | (intro gN cN; with_reducible apply tl_id) | exact Nat.le_of_ble_eq_true rfl | exact (rfl : (_ : Bool) = true) | omega | (intro _; with_reducible apply tl_id))
          all_goals (refine ⟨rfl, some (gN, cN), (fun h => by cases h), ?_, ?_⟩)
          all_goals (simp only [e1])
          all_goals first
            | ((try simp only [List.cons_append, List.nil_append]); (repeat (first | exact FrSub.nil | (apply FrSub.cons; exact rfl) | (apply FrSub.consE; exact rfl; (focus (simp; done))))); done)
            | ((try simp only [List.cons_append, List.nil_append]); (repeat (first | exact HpSub.refl _ | (apply HpSub.consE; (repeat (first | exact P0 | apply P1 | apply PA)); first | exact rfl | (focus (simp [tiB_app, tiB, tiCells]; done))) | apply HpSub.appC | apply HpSub.skipX | apply HpSub.skip | apply HpSub.skipApp | exact HpSub.nil)); done)
      clear ho o
      rintro o ho
      try dsimp only
      have hkl := hkl 2
      obtain ⟨V, hV⟩ : ∃ V, workV S x.who x.fr (x.fr + d.win) = V := ⟨_, rfl⟩
      have HW := fun w1 h => worked_calls (some ⟨g, 0, none⟩) n cp S x.who x.fr (x.fr + d.win) w1 h (by omega) hall (by omega) (by omega)
      rw [hV] at hbC HW
      obtain ⟨T0, hT⟩ : ∃ T, tiTo d S i ++ casK bA bB bC x 2 = T := ⟨_, rfl⟩
      rw [hT] at hkl ho ⊢
      cases bC with
      | false =>
        simp only [decide_eq_false_iff_not, gt_iff_lt] at hbC
        have e1 : tiTo d S i ++ casK bA bB false x 3 = T0 := by rw [← hT]; simp [casK]
        repeat' (first | ((with_reducible apply oq_id); first | ((with_reducible apply oq_gtrF); exact rfl; exact rfl; omega) | (apply oq_fn; exact rfl; first | exact trivial | (refine ⟨?_, ?_⟩ <;> omega) | (refine ⟨?_, ?_, ?_⟩ <;> omega) | omega | skip) | ((with_reducible apply oq_load); exact rfl; exact rfl) | ((with_reducible apply oq_call (k := 113) (hc := Try.call113)); exact rfl; exact rfl; exact fun D w1 hw1 => HW w1 (sh_own hsl hw1 (by (repeat (first | exact P0 | apply P1 | apply PA)))))) | ((with_reducible apply gx_id); first | ((with_reducible apply v_nil)) | ((with_reducible apply v_q); exact rfl; exact rfl; exact rfl)) | ((with_reducible apply rd_id); first | (apply Rd.own; (repeat (first | exact P0 | apply P1 | apply PA)); exact rfl; done)) | ((with_reducible apply t_id); first | ((with_reducible apply t_seq)) | (apply t_drawn; kernel_rfl; decide +kernel; try simp only [List.append_eq, List.cons_append, List.nil_append]) | ((with_reducible apply t_condF); exact rfl) | ((with_reducible apply t_skip))) | with_reducible apply q_thenN | with_reducible apply q_blockN)
        all_goals (refine ⟨rfl, o, (by simp only [e1]; exact ho), ?_, ?_⟩)
        all_goals (simp only [e1])
        all_goals first
          | ((repeat (first | exact FrSub.nil | (apply FrSub.cons; exact rfl))); done)
          | ((repeat (first | exact HpSub.refl _ | (apply HpSub.consE; (repeat (first | exact P0 | apply P1 | apply PA)); exact rfl) | apply HpSub.appC | apply HpSub.skipX | apply HpSub.skip | apply HpSub.skipApp | exact HpSub.nil)); done)
      | true =>
        simp only [decide_eq_true_eq, gt_iff_lt] at hbC
        have e1 : tiTo d S i ++ casK bA bB true x 3 = T0 ++ [⟨3, x.who, x.fr⟩] := by rw [← hT]; simp [casK]
        rcases o with _ | ⟨go, co⟩
        · have h0 := ho rfl
          obtain rfl := List.length_eq_zero_iff.1 h0
          simp only [clA, clC, clH, List.nil_append, List.length_nil]
          repeat' (first | ((with_reducible apply oq_id); first | ((with_reducible apply oq_gtrT); exact rfl; exact rfl; omega) | (apply oq_fn; exact rfl; first | exact trivial | (refine ⟨?_, ?_⟩ <;> omega) | (refine ⟨?_, ?_, ?_⟩ <;> omega) | omega | skip) | ((with_reducible apply oq_load); exact rfl; exact rfl) | ((with_reducible apply oq_call (k := 113) (hc := Try.call113)); exact rfl; exact rfl; exact fun D w1 hw1 => HW w1 (sh_own hsl hw1 (by (repeat (first | exact P0 | apply P1 | apply PA))))) | ((with_reducible apply oq_build); exact rfl; exact rfl; exact rfl)) | ((with_reducible apply tl_id); first | ((with_reducible apply tl_nil)) | ((with_reducible apply u_q); exact rfl; exact rfl; exact rfl; exact rfl) | ((with_reducible apply u_s); exact rfl; exact rfl; exact rfl)) | ((with_reducible apply gx_id); first | ((with_reducible apply v_nil)) | ((with_reducible apply v_q); exact rfl; exact rfl; exact rfl)) | ((with_reducible apply os_id); first | ((with_reducible apply os_x); exact rfl) | ((with_reducible apply os_appendNil (hk := app_ok77)); exact rfl; exact rfl)) | ((with_reducible apply ox_id); first | ((with_reducible apply ox_buildSlice); exact rfl; exact rfl; exact rfl; exact rfl)) | ((with_reducible apply rd_id); first | (apply Rd.own; (repeat (first | exact P0 | apply P1 | apply PA)); exact rfl; done)) | ((with_reducible apply t_id); first | ((with_reducible apply t_seq)) | (apply t_region; kernel_rfl) | (apply t_drawn; kernel_rfl; decide +kernel; try simp only [List.append_eq, List.cons_append, List.nil_append]) | ((with_reducible apply t_condT); exact rfl)) | with_reducible apply q_thenN | with_reducible apply q_blockN | exact Rdn.zero | apply Rdn.succ | ((with_reducible apply Norm.nil); exact rfl) | ((with_reducible apply Norm.cons); exact rfl) | (intro gN cN; with_reducible apply tl_id) | exact Nat.le_of_ble_eq_true rfl | exact (rfl : (_ : Bool) = true) | (intro _; with_reducible apply tl_id))
          all_goals (refine ⟨rfl, some (gN, cN), (fun h => by cases h), ?_, ?_⟩)
          all_goals (simp only [e1])
          all_goals first
            | ((try simp only [List.cons_append, List.nil_append]); (repeat (first | exact FrSub.nil | (apply FrSub.cons; exact rfl) | (apply FrSub.consE; exact rfl; (focus (simp; done))))); done)
            | ((try simp only [List.cons_append, List.nil_append]); (repeat (first | exact HpSub.refl _ | (apply HpSub.consE; (repeat (first | exact P0 | apply P1 | apply PA)); first | exact rfl | (focus (simp [tiB_app, tiB, tiCells]; done))) | apply HpSub.appC | apply HpSub.skipX | apply HpSub.skip | apply HpSub.skipApp | exact HpSub.nil)); done)
        · simp only [clA, clC, clH, List.cons_append, List.nil_append]
          repeat' (first | ((with_reducible apply oq_id); first | ((with_reducible apply oq_gtrT); exact rfl; exact rfl; omega) | (apply oq_fn; exact rfl; first | exact trivial | (refine ⟨?_, ?_⟩ <;> omega) | (refine ⟨?_, ?_, ?_⟩ <;> omega) | omega | skip) | ((with_reducible apply oq_load); exact rfl; exact rfl) | ((with_reducible apply oq_call (k := 113) (hc := Try.call113)); exact rfl; exact rfl; exact fun D w1 hw1 => HW w1 (sh_own hsl hw1 (by (repeat (first | exact P0 | apply P1 | apply PA))))) | ((with_reducible apply oq_build); exact rfl; exact rfl; exact rfl)) | ((with_reducible apply tl_id); first | ((with_reducible apply tl_nil)) | ((with_reducible apply u_q); exact rfl; exact rfl; exact rfl; exact rfl) | ((with_reducible apply u_s); exact rfl; exact rfl; exact rfl)) | ((with_reducible apply gx_id); first | ((with_reducible apply v_nil)) | ((with_reducible apply v_q); exact rfl; exact rfl; exact rfl)) | ((with_reducible apply os_id); first | ((with_reducible apply os_x); exact rfl) | ((with_reducible apply os_append (hk := app_ok77)); exact rfl; exact rfl; (repeat (first | exact P0 | apply P1 | apply PA)))) | ((with_reducible apply ox_id); first | ((with_reducible apply ox_buildSlice); exact rfl; exact rfl; exact rfl; exact rfl)) | ((with_reducible apply rd_id); first | (apply Rd.own; (repeat (first | exact P0 | apply P1 | apply PA)); exact rfl; done)) | ((with_reducible apply t_id); first | ((with_reducible apply t_seq)) | (apply t_region; kernel_rfl) | (apply t_drawn; kernel_rfl; decide +kernel; try simp only [List.append_eq, List.cons_append, List.nil_append]) | ((with_reducible apply t_condT); exact rfl)) | with_reducible apply q_thenN | with_reducible apply q_blockN | exact Rdn.zero | apply Rdn.succ | ((with_reducible apply Norm.nil); exact rfl) | ((with_reducible apply Norm.cons); exact rfl) | exact tiB_len _ | (intro gN cN; with_reducible apply tl_id) | exact Nat.le_of_ble_eq_true rfl | exact (rfl : (_ : Bool) = true) | omega | (intro _; with_reducible apply tl_id))
          all_goals (refine ⟨rfl, some (gN, cN), (fun h => by cases h), ?_, ?_⟩)
          all_goals (simp only [e1])
          all_goals first
            | ((try simp only [List.cons_append, List.nil_append]); (repeat (first | exact FrSub.nil | (apply FrSub.cons; exact rfl) | (apply FrSub.consE; exact rfl; (focus (simp; done))))); done)
            | ((try simp only [List.cons_append, List.nil_append]); (repeat (first | exact HpSub.refl _ | (apply HpSub.consE; (repeat (first | exact P0 | apply P1 | apply PA)); first | exact rfl | (focus (simp [tiB_app, tiB, tiCells]; done))) | apply HpSub.appC | apply HpSub.skipX | apply HpSub.skip | apply HpSub.skipApp | exact HpSub.nil)); done)
    · rintro o2 ho2
      repeat' (first | ((with_reducible apply oq_id); first | (apply oq_fn; exact rfl; first | exact trivial | (refine ⟨?_, ?_⟩ <;> omega) | (refine ⟨?_, ?_, ?_⟩ <;> omega) | omega | skip)) | ((with_reducible apply tl_id); first | ((with_reducible apply tl_nil)) | ((with_reducible apply u_q); exact rfl; exact rfl; exact rfl; exact rfl)) | ((with_reducible apply t_id); first | (apply t_region; kernel_rfl)) | with_reducible apply q_thenN)
      all_goals (refine ⟨(i + 1, o2), ⟨(by simp only; omega), ho2⟩, (by simp only; omega), ?_, ?_⟩)
      all_goals first
        | ((try simp only [List.cons_append, List.nil_append]); (repeat (first | exact FrSub.nil | (apply FrSub.cons; exact rfl))); done)
        | ((try simp only [List.cons_append, List.nil_append]); (repeat (first | exact HpSub.refl _ | (apply HpSub.consE; (repeat (first | exact P0 | apply P1 | apply PA)); exact rfl) | apply HpSub.appC | apply HpSub.skipX | apply HpSub.skip | apply HpSub.skipApp | exact HpSub.nil)); done)
  · obtain rfl : i = n := by omega
    rw [hti]
    repeat' (first | ((with_reducible apply oq_id); first | ((with_reducible apply oq_lssF); exact rfl; exact rfl; omega) | (apply oq_fn; exact rfl; first | exact trivial | (refine ⟨?_, ?_⟩ <;> omega) | (refine ⟨?_, ?_, ?_⟩ <;> omega) | omega | skip)) | ((with_reducible apply tl_id); first | ((with_reducible apply tl_nil)) | ((with_reducible apply u_q); exact rfl; exact rfl; exact rfl; exact rfl)) | ((with_reducible apply t_id); first | ((with_reducible apply t_seq)) | (apply t_region; kernel_rfl) | ((with_reducible apply t_condF); exact rfl) | ((with_reducible apply t_ret)) | ((with_reducible apply t_exit))) | with_reducible apply q_thenN | with_reducible apply q_thenE | ((with_reducible apply q_blockE); exact rfl) | ((with_reducible apply end_ret)) | exact rvs_nil | ((with_reducible apply rvs_cons)) | ((with_reducible apply rv_tmp); exact rfl))
    all_goals exact ⟨_, ⟨o, ho, rfl, rfl⟩, hp_left⟩

end Go.Proofs.Ytmlmgipngbndgaa
/- Duty and rosters are the specification's. -/
namespace Go.Proofs.Ytmlmgipngbndgaa
open Go.RowKit
attribute [local irreducible] OQ OS OX Rd T TL GX GL AL AI RV wpG SAny Calls
set_option maxRecDepth 100000
set_option maxHeartbeats 2000000
set_option linter.unusedVariables false
set_option linter.unusedSimpArgs false

theorem eq_tri99 {w : World} {d : Nat} {a b e a' b' e' : Int} : (Op.equalIn (d + 2) 99 (.agg ⟨[.int .i64 a, .int .i64 b, .int .i64 e]⟩) (.agg ⟨[.int .i64 a', .int .i64 b', .int .i64 e']⟩)).run Try.prog w = .ok (decide (a = a') && (decide (b = b') && (decide (e = e') && true))) w := by
  rw [run_equalIn_struct w (d + 1) 99 _ _ (by kernel_rfl) (by kernel_rfl)]
  simp only [Program.fieldsOf, Try.underlying99]
  exact eqF_int rfl rfl rfl rfl rfl (eqF_int rfl rfl rfl rfl rfl (eqF_int rfl rfl rfl rfl rfl eqF_nil))
theorem eq_tri101 {w : World} {d : Nat} {a b e a' b' e' : Int} : (Op.equalIn (d + 2) 101 (.agg ⟨[.int .i64 a, .int .i64 b, .int .i64 e]⟩) (.agg ⟨[.int .i64 a', .int .i64 b', .int .i64 e']⟩)).run Try.prog w = .ok (decide (a = a') && (decide (b = b') && (decide (e = e') && true))) w := by
  rw [run_equalIn_struct w (d + 1) 101 _ _ (by kernel_rfl) (by kernel_rfl)]
  simp only [Program.fieldsOf, Try.underlying101]
  exact eqF_int rfl rfl rfl rfl rfl (eqF_int rfl rfl rfl rfl rfl (eqF_int rfl rfl rfl rfl rfl eqF_nil))
section
variable {w : World} {N : Nat} {F : Fr} {H : Hp} {M : List Nat} {d : Option Tmp} {ty t' : TypeId} {pos : String} {af : Array Edge} {g : Option (Nat × Bool)} {x y : Operand} {a b e a' b' e' : Int}
theorem oq_ne99 (hx : ev F x = some (.agg ⟨[.int .i64 a, .int .i64 b, .int .i64 e]⟩)) (hy : ev F y = some (.agg ⟨[.int .i64 a', .int .i64 b', .int .i64 e']⟩)) :
    OQ (cxM M w N) ⟨d, .binOp .neq 99 x y t', ty, pos, af, g⟩ F H (.bool (!decide (a = a' ∧ b = b' ∧ e = e'))) := oq_neS (by kernel_rfl) (fun w => by rw [eq_tri99 (d := 9998)]; congr 1; rw [Bool.eq_iff_iff]; simp) hx hy
theorem oq_ne101 (hx : ev F x = some (.agg ⟨[.int .i64 a, .int .i64 b, .int .i64 e]⟩)) (hy : ev F y = some (.agg ⟨[.int .i64 a', .int .i64 b', .int .i64 e']⟩)) :
    OQ (cxM M w N) ⟨d, .binOp .neq 101 x y t', ty, pos, af, g⟩ F H (.bool (!decide (a = a' ∧ b = b' ∧ e = e'))) := oq_neS (by kernel_rfl) (fun w => by rw [eq_tri101 (d := 9998)]; congr 1; rw [Bool.eq_iff_iff]; simp) hx hy
theorem oq_eq99 (hx : ev F x = some (.agg ⟨[.int .i64 a, .int .i64 b, .int .i64 e]⟩)) (hy : ev F y = some (.agg ⟨[.int .i64 a', .int .i64 b', .int .i64 e']⟩)) :
    OQ (cxM M w N) ⟨d, .binOp .eql 99 x y t', ty, pos, af, g⟩ F H (.bool (decide (a = a' ∧ b = b' ∧ e = e'))) := oq_eqS (by kernel_rfl) (fun w => by rw [eq_tri99 (d := 9998)]; congr 1; rw [Bool.eq_iff_iff]; simp) hx hy
theorem oq_ne99F (hx : ev F x = some (.agg ⟨[.int .i64 a, .int .i64 b, .int .i64 e]⟩)) (hy : ev F y = some (.agg ⟨[.int .i64 a, .int .i64 b, .int .i64 e]⟩)) : OQ (cxM M w N) ⟨d, .binOp .neq 99 x y t', ty, pos, af, g⟩ F H (.bool false) := (oq_ne99 hx hy).as (by simp)
theorem oq_ne101F (hx : ev F x = some (.agg ⟨[.int .i64 a, .int .i64 b, .int .i64 e]⟩)) (hy : ev F y = some (.agg ⟨[.int .i64 a, .int .i64 b, .int .i64 e]⟩)) : OQ (cxM M w N) ⟨d, .binOp .neq 101 x y t', ty, pos, af, g⟩ F H (.bool false) := (oq_ne101 hx hy).as (by simp)
end
theorem ti_read {w : World} {A : Option Addr} {n : Nat} {l : List Ti} (h : RdS w 3 A n (l.map tiCells)) {i : Nat} (hi : i < n) :
    ∃ b o x, A = some ⟨b, o, none⟩ ∧ b < w.heap.size ∧ l[i]? = some x ∧ w.cell? ⟨b, o + i * 3, none⟩ = some (.int .i64 x.kind) ∧ w.cell? ⟨b, o + i * 3 + 1, none⟩ = some (.int .i64 x.who) ∧ w.cell? ⟨b, o + i * 3 + 2, none⟩ = some (.int .i64 x.at_) := by
  obtain ⟨b, o, cs, hA, hb, hx, _, hc⟩ := h.row hi
  simp only [List.getElem?_map, Option.map_eq_some_iff] at hx
  obtain ⟨x, hx, rfl⟩ := hx
  exact ⟨b, o, x, hA, hb, hx, hc 0 _ rfl, hc 1 _ rfl, hc 2 _ rfl⟩

theorem sameTi_calls (A B : Option Addr) (n c c' : Nat) (l : List Ti) (w : World) (hr : RdS w 3 A n (l.map tiCells)) (hr' : RdS w 3 B n (l.map tiCells)) (hn : n ≤ 1000000) :
    Calls Try.prog 48 #[.slice A n c, .slice B n c'] w fun e w' => e = .returned (.bool true) ∧ Ext w w' := by
  refine enterQ (c := cx w 26) Try.func48 rfl rfl rfl rfl ?_
  repeat' (first | ((with_reducible apply oq_id); first | ((with_reducible apply oq_neqF); exact rfl; exact rfl; omega) | (apply oq_fn; exact rfl; first | exact trivial | (refine ⟨?_, ?_⟩ <;> omega) | (refine ⟨?_, ?_, ?_⟩ <;> omega) | omega | skip)) | ((with_reducible apply tl_id); first | ((with_reducible apply tl_nil)) | ((with_reducible apply u_q); exact rfl; exact rfl; exact rfl; exact rfl)) | ((with_reducible apply t_id); first | ((with_reducible apply t_seq)) | (apply t_region; kernel_rfl) | ((with_reducible apply t_condF); exact rfl) | ((with_reducible apply t_skip)) | ((with_reducible apply t_block))) | with_reducible apply q_thenN)
  apply t_loopK (ι := Nat) [0, 1] (fun i => [(5, .int .i64 (i : Nat))]) (fun _ => []) (fun i => i ≤ n) (fun i => n - i) (0)
  (repeat (first | exact KeepF.nil | (apply KeepF.cons; exact rfl) | apply KeepF.skip))
  (repeat (first | exact FrSub.nil | (apply FrSub.cons; exact rfl)))
  (repeat (first | exact HpSub.refl _ | (apply HpSub.consE; (repeat (first | exact P0 | apply P1)); exact rfl) | exact HpSub.nil))
  · exact Nat.zero_le _
  rintro i hi
  try simp only [List.cons_append, List.nil_append]
  by_cases hlt : i < n
  · obtain ⟨b, o, x, rfl, _, hx, c0, c1, c2⟩ := ti_read hr hlt
    obtain ⟨b', o', x', rfl, _, hx', d0, d1, d2⟩ := ti_read hr' hlt
    rw [hx] at hx'
    cases hx'
    repeat' (first | ((with_reducible apply oq_id); first | (focus ((with_reducible apply oq_indexAddrN); exact rfl; exact rfl; exact rfl; exact rfl; omega)) | ((with_reducible apply oq_ne99F); exact rfl; exact rfl) | ((with_reducible apply oq_lssT); exact rfl; exact rfl; omega) | (apply oq_fn; exact rfl; first | exact trivial | (refine ⟨?_, ?_⟩ <;> omega) | (refine ⟨?_, ?_, ?_⟩ <;> omega) | omega | skip) | ((with_reducible apply oq_loadAgg); exact rfl; exact rfl)) | ((with_reducible apply tl_id); first | ((with_reducible apply tl_nil)) | ((with_reducible apply u_q); exact rfl; exact rfl; exact rfl; exact rfl)) | ((with_reducible apply gx_id); first | ((with_reducible apply v_nil)) | ((with_reducible apply v_q); exact rfl; exact rfl; exact rfl)) | ((with_reducible apply rd_id); first | (apply Rd.old; (first | exact c0 | exact c1 | exact c2 | exact d0 | exact d1 | exact d2); exact List.not_mem_nil)) | ((with_reducible apply t_id); first | ((with_reducible apply t_seq)) | (apply t_region; kernel_rfl) | (apply t_drawn; kernel_rfl; decide +kernel; try simp only [List.append_eq, List.cons_append, List.nil_append]) | ((with_reducible apply t_condT); exact rfl) | ((with_reducible apply t_condF); exact rfl) | ((with_reducible apply t_skip)) | ((with_reducible apply t_block))) | with_reducible apply q_thenN | with_reducible apply q_blockN | exact Rdn.zero | apply Rdn.succ)
    all_goals (refine ⟨(i + 1), (by omega), (by omega), ?_, ?_⟩ <;> (try simp only [List.cons_append, List.nil_append]) <;> (repeat' (first | exact FrSub.nil | (apply FrSub.cons; exact rfl) | exact HpSub.refl _)))
  · repeat' (first | ((with_reducible apply oq_id); first | ((with_reducible apply oq_lssF); exact rfl; exact rfl; omega) | (apply oq_fn; exact rfl; first | exact trivial | (refine ⟨?_, ?_⟩ <;> omega) | (refine ⟨?_, ?_, ?_⟩ <;> omega) | omega | skip)) | ((with_reducible apply tl_id); first | ((with_reducible apply tl_nil)) | ((with_reducible apply u_q); exact rfl; exact rfl; exact rfl; exact rfl)) | ((with_reducible apply t_id); first | ((with_reducible apply t_seq)) | (apply t_region; kernel_rfl) | ((with_reducible apply t_condF); exact rfl) | ((with_reducible apply t_ret)) | ((with_reducible apply t_exit))) | with_reducible apply q_thenN | with_reducible apply q_thenE | ((with_reducible apply q_blockE); exact rfl) | ((with_reducible apply end_ret)) | exact rvs_nil | ((with_reducible apply rvs_cons)) | ((with_reducible apply rv_tmp); exact rfl))
    all_goals rfl

theorem sameSh_calls (A B : Option Addr) (n c c' : Nat) (l : List Sh) (w : World) (hr : RdS w 3 A n (l.map shCells)) (hr' : RdS w 3 B n (l.map shCells)) (hn : n ≤ 1000000) :
    Calls Try.prog 49 #[.slice A n c, .slice B n c'] w fun e w' => e = .returned (.bool true) ∧ Ext w w' := by
  refine enterQ (c := cx w 26) Try.func49 rfl rfl rfl rfl ?_
  repeat' (first | ((with_reducible apply oq_id); first | ((with_reducible apply oq_neqF); exact rfl; exact rfl; omega) | (apply oq_fn; exact rfl; first | exact trivial | (refine ⟨?_, ?_⟩ <;> omega) | (refine ⟨?_, ?_, ?_⟩ <;> omega) | omega | skip)) | ((with_reducible apply tl_id); first | ((with_reducible apply tl_nil)) | ((with_reducible apply u_q); exact rfl; exact rfl; exact rfl; exact rfl)) | ((with_reducible apply t_id); first | ((with_reducible apply t_seq)) | (apply t_region; kernel_rfl) | ((with_reducible apply t_condF); exact rfl) | ((with_reducible apply t_skip)) | ((with_reducible apply t_block))) | with_reducible apply q_thenN)
  apply t_loopK (ι := Nat) [0, 1] (fun i => [(5, .int .i64 (i : Nat))]) (fun _ => []) (fun i => i ≤ n) (fun i => n - i) (0)
  (repeat (first | exact KeepF.nil | (apply KeepF.cons; exact rfl) | apply KeepF.skip))
  (repeat (first | exact FrSub.nil | (apply FrSub.cons; exact rfl)))
  (repeat (first | exact HpSub.refl _ | (apply HpSub.consE; (repeat (first | exact P0 | apply P1)); exact rfl) | exact HpSub.nil))
  · exact Nat.zero_le _
  rintro i hi
  try simp only [List.cons_append, List.nil_append]
  by_cases hlt : i < n
  · obtain ⟨b, o, x, rfl, _, hx, c0, c1, c2⟩ := sh_read hr hlt
    obtain ⟨b', o', x', rfl, _, hx', d0, d1, d2⟩ := sh_read hr' hlt
    rw [hx] at hx'
    cases hx'
    repeat' (first | ((with_reducible apply oq_id); first | (focus ((with_reducible apply oq_indexAddrN); exact rfl; exact rfl; exact rfl; exact rfl; omega)) | ((with_reducible apply oq_ne101F); exact rfl; exact rfl) | ((with_reducible apply oq_lssT); exact rfl; exact rfl; omega) | (apply oq_fn; exact rfl; first | exact trivial | (refine ⟨?_, ?_⟩ <;> omega) | (refine ⟨?_, ?_, ?_⟩ <;> omega) | omega | skip) | ((with_reducible apply oq_loadAgg); exact rfl; exact rfl)) | ((with_reducible apply tl_id); first | ((with_reducible apply tl_nil)) | ((with_reducible apply u_q); exact rfl; exact rfl; exact rfl; exact rfl)) | ((with_reducible apply gx_id); first | ((with_reducible apply v_nil)) | ((with_reducible apply v_q); exact rfl; exact rfl; exact rfl)) | ((with_reducible apply rd_id); first | (apply Rd.old; (first | exact c0 | exact c1 | exact c2 | exact d0 | exact d1 | exact d2); exact List.not_mem_nil)) | ((with_reducible apply t_id); first | ((with_reducible apply t_seq)) | (apply t_region; kernel_rfl) | (apply t_drawn; kernel_rfl; decide +kernel; try simp only [List.append_eq, List.cons_append, List.nil_append]) | ((with_reducible apply t_condT); exact rfl) | ((with_reducible apply t_condF); exact rfl) | ((with_reducible apply t_skip)) | ((with_reducible apply t_block))) | with_reducible apply q_thenN | with_reducible apply q_blockN | exact Rdn.zero | apply Rdn.succ)
    all_goals (refine ⟨(i + 1), (by omega), (by omega), ?_, ?_⟩ <;> (try simp only [List.cons_append, List.nil_append]) <;> (repeat' (first | exact FrSub.nil | (apply FrSub.cons; exact rfl) | exact HpSub.refl _)))
  · repeat' (first | ((with_reducible apply oq_id); first | ((with_reducible apply oq_lssF); exact rfl; exact rfl; omega) | (apply oq_fn; exact rfl; first | exact trivial | (refine ⟨?_, ?_⟩ <;> omega) | (refine ⟨?_, ?_, ?_⟩ <;> omega) | omega | skip)) | ((with_reducible apply tl_id); first | ((with_reducible apply tl_nil)) | ((with_reducible apply u_q); exact rfl; exact rfl; exact rfl; exact rfl)) | ((with_reducible apply t_id); first | ((with_reducible apply t_seq)) | (apply t_region; kernel_rfl) | ((with_reducible apply t_condF); exact rfl) | ((with_reducible apply t_ret)) | ((with_reducible apply t_exit))) | with_reducible apply q_thenN | with_reducible apply q_thenE | ((with_reducible apply q_blockE); exact rfl) | ((with_reducible apply end_ret)) | exact rvs_nil | ((with_reducible apply rvs_cons)) | ((with_reducible apply rv_tmp); exact rfl))
    all_goals rfl

theorem great41_calls (A : Option Addr) (n c : Nat) (w : World) : Calls Try.prog 41 #[.slice A n c] w fun e w' => e = .returned (.bool (decide (50 < n))) ∧ Ext w w' := by
  by_cases h : 50 < n
  · rw [decide_eq_true h]
    refine enterQ (c := cx w 6) Try.func41 rfl rfl rfl rfl ?_
    repeat' (first | ((with_reducible apply oq_id); first | ((with_reducible apply oq_gtrT); exact rfl; exact rfl; omega) | (apply oq_fn; exact rfl; first | exact trivial | (refine ⟨?_, ?_⟩ <;> omega) | (refine ⟨?_, ?_, ?_⟩ <;> omega) | omega | skip)) | ((with_reducible apply tl_id); first | ((with_reducible apply tl_nil)) | ((with_reducible apply u_q); exact rfl; exact rfl; exact rfl; exact rfl)) | ((with_reducible apply t_id); first | ((with_reducible apply t_seq)) | (apply t_region; kernel_rfl) | ((with_reducible apply t_ret))) | with_reducible apply q_thenN | ((with_reducible apply end_ret)) | exact rvs_nil | ((with_reducible apply rvs_cons)) | ((with_reducible apply rv_tmp); exact rfl))
    all_goals rfl
  · rw [decide_eq_false h]
    refine enterQ (c := cx w 6) Try.func41 rfl rfl rfl rfl ?_
    repeat' (first | ((with_reducible apply oq_id); first | ((with_reducible apply oq_gtrF); exact rfl; exact rfl; omega) | (apply oq_fn; exact rfl; first | exact trivial | (refine ⟨?_, ?_⟩ <;> omega) | (refine ⟨?_, ?_, ?_⟩ <;> omega) | omega | skip)) | ((with_reducible apply tl_id); first | ((with_reducible apply tl_nil)) | ((with_reducible apply u_q); exact rfl; exact rfl; exact rfl; exact rfl)) | ((with_reducible apply t_id); first | ((with_reducible apply t_seq)) | (apply t_region; kernel_rfl) | ((with_reducible apply t_ret))) | with_reducible apply q_thenN | ((with_reducible apply end_ret)) | exact rvs_nil | ((with_reducible apply rvs_cons)) | ((with_reducible apply rv_tmp); exact rfl))
    all_goals rfl
theorem refTiredE_T (d : Du) (A : Option Addr) (n c : Nat) (l : List Sh) (w : World) (hr : RdS w 3 A n (l.map shCells)) (hn : n ≤ 1000000) : Calls Try.prog 43 #[.agg #[.int .i64 d.most, .int .i64 d.rest, .int .i64 d.win, .int .i64 d.sum], .slice A n c] w fun e w' => ∃ v H', e = .returned v ∧ TiE (tiE d l) (tiL d l) v H' ∧ Has w ⟨[], []⟩ H' w' := by
  have hl := hr.len
  simp only [List.length_map] at hl
  have HD := fun w1 => refDuty_calls d w1
  have HR := fun w1 h => refRos_calls A n c l w1 h hn
  obtain ⟨E, hE⟩ : ∃ E, tiE d l = E := ⟨_, rfl⟩
  have hEq := tiE_eq (d := d) (l := l)
  rw [hE] at hEq
  obtain ⟨p, hp⟩ : ∃ p, duE d = p := ⟨_, rfl⟩
  obtain ⟨q, hq⟩ : ∃ q, rosE l = q := ⟨_, rfl⟩
  rw [hp, hq] at hEq
  rw [hp] at HD
  rw [hq] at HR
  rw [hE]
  by_cases h0 : E = 0
  · subst h0
    obtain ⟨hd, hl40, hRos⟩ := tiE_ok hE
    have hp0 : p = 0 := by
      by_cases h : p = 0
      · exact h
      · rw [if_neg h] at hEq; exact hEq
    subst hp0
    obtain rfl : q = 0 := by simpa using hEq
    have hL : tiL d l = tiV d l := by unfold tiL; rw [if_pos hE]
    rw [hL]
    obtain ⟨T, hT⟩ : ∃ T, tiV d l = T := ⟨_, rfl⟩
    rw [hT]
    refine enterF (c := cx w 21) Try.func43 rfl rfl rfl rfl ?_
    repeat' (first | ((with_reducible apply oq_id); first | ((with_reducible apply oq_neqF); exact rfl; exact rfl; omega) | (apply oq_fn; exact rfl; first | exact trivial | (refine ⟨?_, ?_⟩ <;> omega) | (refine ⟨?_, ?_, ?_⟩ <;> omega) | omega | skip) | ((with_reducible apply oq_loadAgg); exact rfl; exact rfl) | ((with_reducible apply oq_call (k := 45) (hc := Try.call45)); exact rfl; exact rfl; exact fun D w1 hw1 => HD w1) | ((with_reducible apply oq_call (k := 47) (hc := Try.call47)); exact rfl; exact rfl; exact fun D w1 hw1 => HR w1 (hr.ext hw1.ext.ext))) | ((with_reducible apply tl_id); first | ((with_reducible apply tl_nil)) | ((with_reducible apply u_s); exact rfl; exact rfl; exact rfl; (with_reducible apply os_callF (PV := TiO T) (k := 83) (hc := Try.call83)); exact rfl; exact rfl; exact fun D w1 hw1 => (by rw [← hT]; exact refTired_T d hd A n c l w1 (hr.ext hw1.ext.ext) (by omega) hRos); rintro v H' ⟨x, hx, rfl, rfl⟩; (try simp only [List.append_nil])) | ((with_reducible apply u_q); exact rfl; exact rfl; exact rfl; exact rfl) | ((with_reducible apply u_s); exact rfl; exact rfl; exact rfl)) | ((with_reducible apply os_id); first | ((with_reducible apply os_x); exact rfl)) | ((with_reducible apply ox_id); first | ((with_reducible apply ox_boxAgg); exact rfl; intro _)) | ((with_reducible apply rd_id); first | (apply Rd.own; (repeat (first | exact P0 | apply P1)); exact rfl; done)) | ((with_reducible apply t_id); first | ((with_reducible apply t_seq)) | (apply t_region; kernel_rfl) | ((with_reducible apply t_condF); exact rfl) | ((with_reducible apply t_ret)) | ((with_reducible apply t_skip))) | with_reducible apply q_thenN | exact Rdn.zero | apply Rdn.succ | ((with_reducible apply end_ret)) | exact rvs_nil | ((with_reducible apply rvs_cons)) | ((with_reducible apply rv_tmp); exact rfl))
    all_goals exact ⟨_, ⟨x, hx, rfl, rfl⟩, hp_left⟩
  · have hL : tiL d l = [] := by unfold tiL; rw [if_neg (by rw [hE]; exact h0)]
    rw [hL]
    by_cases hp0 : p = 0
    · rw [if_pos hp0] at hEq
      subst hEq
      refine enterF (c := cx w 21) Try.func43 rfl rfl rfl rfl ?_
      repeat' (first | ((with_reducible apply oq_id); first | ((with_reducible apply oq_neqT); exact rfl; exact rfl; omega) | ((with_reducible apply oq_neqF); exact rfl; exact rfl; omega) | (apply oq_fn; exact rfl; first | exact trivial | (refine ⟨?_, ?_⟩ <;> omega) | (refine ⟨?_, ?_, ?_⟩ <;> omega) | omega | skip) | ((with_reducible apply oq_loadAgg); exact rfl; exact rfl) | ((with_reducible apply oq_call (k := 45) (hc := Try.call45)); exact rfl; exact rfl; exact fun D w1 hw1 => HD w1) | ((with_reducible apply oq_call (k := 47) (hc := Try.call47)); exact rfl; exact rfl; exact fun D w1 hw1 => HR w1 (hr.ext hw1.ext.ext))) | ((with_reducible apply tl_id); first | ((with_reducible apply tl_nil)) | ((with_reducible apply u_q); exact rfl; exact rfl; exact rfl; exact rfl) | ((with_reducible apply u_s); exact rfl; exact rfl; exact rfl)) | ((with_reducible apply os_id); first | ((with_reducible apply os_x); exact rfl)) | ((with_reducible apply ox_id); first | ((with_reducible apply ox_boxAgg); exact rfl; intro _)) | ((with_reducible apply rd_id); first | (apply Rd.own; (repeat (first | exact P0 | apply P1)); exact rfl; done)) | ((with_reducible apply t_id); first | ((with_reducible apply t_seq)) | (apply t_region; kernel_rfl) | ((with_reducible apply t_condT); exact rfl) | ((with_reducible apply t_condF); exact rfl) | ((with_reducible apply t_ret)) | ((with_reducible apply t_skip))) | with_reducible apply q_thenN | with_reducible apply q_thenR | exact Rdn.zero | apply Rdn.succ | ((with_reducible apply end_ret)) | exact rvs_nil | ((with_reducible apply rvs_cons)) | ((with_reducible apply rv_tmp); exact rfl))
      all_goals exact ⟨_, ⟨none, fun _ => rfl, rfl, rfl⟩, HpSub.nil⟩
    · rw [if_neg hp0] at hEq
      subst hEq
      refine enterF (c := cx w 21) Try.func43 rfl rfl rfl rfl ?_
      repeat' (first | ((with_reducible apply oq_id); first | ((with_reducible apply oq_neqT); exact rfl; exact rfl; omega) | (apply oq_fn; exact rfl; first | exact trivial | (refine ⟨?_, ?_⟩ <;> omega) | (refine ⟨?_, ?_, ?_⟩ <;> omega) | omega | skip) | ((with_reducible apply oq_loadAgg); exact rfl; exact rfl) | ((with_reducible apply oq_call (k := 45) (hc := Try.call45)); exact rfl; exact rfl; exact fun D w1 hw1 => HD w1)) | ((with_reducible apply tl_id); first | ((with_reducible apply tl_nil)) | ((with_reducible apply u_q); exact rfl; exact rfl; exact rfl; exact rfl) | ((with_reducible apply u_s); exact rfl; exact rfl; exact rfl)) | ((with_reducible apply os_id); first | ((with_reducible apply os_x); exact rfl)) | ((with_reducible apply ox_id); first | ((with_reducible apply ox_boxAgg); exact rfl; intro _)) | ((with_reducible apply rd_id); first | (apply Rd.own; (repeat (first | exact P0 | apply P1)); exact rfl; done)) | ((with_reducible apply t_id); first | ((with_reducible apply t_seq)) | (apply t_region; kernel_rfl) | ((with_reducible apply t_condT); exact rfl) | ((with_reducible apply t_ret))) | with_reducible apply q_thenN | with_reducible apply q_thenR | exact Rdn.zero | apply Rdn.succ | ((with_reducible apply end_ret)) | exact rvs_nil | ((with_reducible apply rvs_cons)) | ((with_reducible apply rv_tmp); exact rfl))
      all_goals exact ⟨_, ⟨none, fun _ => rfl, rfl, rfl⟩, HpSub.nil⟩

end Go.Proofs.Ytmlmgipngbndgaa
