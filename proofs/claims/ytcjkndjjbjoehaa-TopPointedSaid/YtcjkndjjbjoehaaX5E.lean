/- A part of the proof: rules for walks, and contracts of functions (5). -/
import Derived.Test.YtcjkndjjbjoehaaX5D
import Derived.Test.YtcjkndjjbjoehaaX5A
import Derived.Test.YtcjkndjjbjoehaaX5C
import Derived.Test.YtcjkndjjbjoehaaX5B
set_option linter.unusedVariables false
set_option linter.unusedSimpArgs false
set_option maxRecDepth 100000
set_option maxHeartbeats 2000000
namespace Go.Proofs.Ytcjkndjjbjoehaa
open Go.RowKit
attribute [local irreducible] OQ OS OX Rd T TL GX GL AL AI RV wpG SAny Calls
section
variable {c : Cx} {F : Fr} {H : Hp} {d : Option Tmp} {ty t t' : TypeId} {pos : String} {af : Array Edge} {g : Option (Nat × Bool)} {x y : Operand} {m n k : Int}
theorem oq_quoI (hx : ev F x = some (.int .i64 m)) (hy : ev F y = some (.int .i64 n)) (e : m.tdiv n = k ∧ n ≠ 0 ∧ -9223372036854775808 ≤ k ∧ k ≤ 9223372036854775807) : OQ c ⟨d, .binOp .quo t x y t', ty, pos, af, g⟩ F H (.int .i64 k) :=
  (oq_quo hx hy e.2.1 (by rw [e.1]; exact ⟨e.2.2.1, e.2.2.2⟩)).as (by rw [e.1])
theorem oq_remI (hx : ev F x = some (.int .i64 m)) (hy : ev F y = some (.int .i64 n)) (e : m.tmod n = k) (h : n ≠ 0) : OQ c ⟨d, .binOp .rem t x y t', ty, pos, af, g⟩ F H (.int .i64 k) :=
  (oq_rem hx hy h).as (by rw [e])
end
theorem half_int {s : Int} (h : 0 ≤ s) : s.tdiv 2 = s / 2 := Int.tdiv_eq_ediv_of_nonneg h
theorem mroot_calls (x n : Int) (hn : 1 ≤ n) (hn1 : n ≤ 2000000) (h0 : 0 ≤ x) (h8 : x ≤ 8000000 * n) (w : World) : Calls Try.prog 81 #[.int .i64 x, .int .i64 n] w fun e w' => e = .returned (.int .i64 (mrV x n)) ∧ Ext w w' := by
  refine enterQ (c := cx w 26) Try.func81 rfl rfl rfl rfl ?_
  repeat' (first
    | ((with_reducible apply oq_id); first | (apply oq_fn; exact rfl; first | exact trivial | (refine ⟨?_, ?_⟩ <;> omega) | (refine ⟨?_, ?_, ?_⟩ <;> omega) | omega | skip) | ((with_reducible apply oq_load); exact rfl; exact rfl) | ((with_reducible apply oq_loadAgg); exact rfl; exact rfl) | ((with_reducible apply oq_build); exact rfl; exact rfl; exact rfl) | ((with_reducible apply oq_buildA); exact rfl; exact rfl; exact rfl; exact rfl) | ((with_reducible apply oq_fieldAgg); exact rfl; exact rfl; exact rfl) | ((with_reducible apply oq_indexAgg); exact rfl; exact rfl; exact rfl; exact rfl))
    | ((with_reducible apply tl_id); first | ((with_reducible apply tl_nil)) | ((with_reducible apply u_q); exact rfl; exact rfl; exact rfl; exact rfl) | ((with_reducible apply u_s0); exact rfl; exact rfl) | ((with_reducible apply u_s); exact rfl; exact rfl; exact rfl) | ((with_reducible apply u_skip); exact rfl; exact rfl; exact rfl) | ((with_reducible apply u_splitD); exact rfl; exact rfl; all_goals first | (intro hp; try (exfalso; omega)) | skip) | ((with_reducible apply u_splitN); exact rfl; exact rfl; all_goals first | (intro hp; try (exfalso; omega)) | skip) | ((with_reducible apply u_split); exact rfl; exact rfl; all_goals first | intro hp | skip))
    | ((with_reducible apply gx_id); first | ((with_reducible apply v_nil)) | ((with_reducible apply v_q); exact rfl; exact rfl; exact rfl) | ((with_reducible apply v_skip); exact rfl; exact rfl; exact rfl) | ((with_reducible apply v_splitD); exact rfl; exact rfl; all_goals first | (intro hp; try (exfalso; omega)) | skip) | ((with_reducible apply v_splitN); exact rfl; exact rfl; all_goals first | (intro hp; try (exfalso; omega)) | skip) | ((with_reducible apply v_split); exact rfl; exact rfl; all_goals first | intro hp | skip))
    | ((with_reducible apply os_id); first | ((with_reducible apply os_x); exact rfl) | ((with_reducible apply os_store); exact rfl; exact rfl; exact rfl; exact rfl) | ((with_reducible apply os_storeAgg); exact rfl; exact rfl; exact rfl; exact rfl; exact rfl))
    | ((with_reducible apply ox_id); first | ((with_reducible apply ox_alloc); exact rfl; intro _) | ((with_reducible apply ox_box); exact rfl; exact rfl; intro _) | ((with_reducible apply ox_boxAgg); exact rfl; intro _) | ((with_reducible apply ox_buildSlice1); exact rfl; exact rfl; exact rfl; exact rfl; exact rfl; exact rfl; intro _) | ((with_reducible apply ox_buildSlice2); exact rfl; exact rfl; exact rfl; exact rfl; exact rfl; exact rfl; intro _) | ((with_reducible apply ox_buildSlice); exact rfl; exact rfl; exact rfl; exact rfl))
    | ((with_reducible apply rd_id); first | (apply Rd.own; (repeat (first | exact P0 | apply P1)); exact rfl; done) | (apply Rd.old; (first | (with_reducible assumption) | exact c0 | exact c1 | exact c2 | exact c3 | exact c4 | exact c5 | exact c6 | exact c7 | exact c8 | exact d0 | exact d1 | exact d2 | exact d3 | exact d4 | exact d5); first | exact List.not_mem_nil | exact m0 | exact m1 | exact m2 | exact m3 | exact m4 | exact m5 | exact m6 | exact m7 | exact m8 | exact m9))
    | ((with_reducible apply t_id); first | ((with_reducible apply t_seq)) | (apply t_region; kernel_rfl) | (apply t_drawn; kernel_rfl; decide +kernel; try simp only [List.append_eq, List.cons_append, List.nil_append]) | ((with_reducible apply t_condT); exact rfl) | ((with_reducible apply t_condF); exact rfl) | ((with_reducible apply t_condD); exact rfl; all_goals first | (intro hp; try (exfalso; omega)) | skip) | ((with_reducible apply t_condN); exact rfl; all_goals first | (intro hp; try (exfalso; omega)) | skip) | ((with_reducible apply t_cond); exact rfl; all_goals first | intro hp | skip) | ((with_reducible apply t_ret)) | ((with_reducible apply t_skip)) | ((with_reducible apply t_exit)) | ((with_reducible apply t_block)))
    | with_reducible apply q_thenN
    | with_reducible apply q_thenR
    | with_reducible apply q_blockR
    | with_reducible apply q_blockN
    | with_reducible apply q_thenE
    | ((with_reducible apply q_blockE); exact rfl)
    | ((with_reducible apply q_blockO); exact rfl)
    | exact P0
    | ((with_reducible apply P1))
    | exact Rdn.zero
    | apply Rdn.succ
    | ((with_reducible apply Norm.nil); exact rfl)
    | ((with_reducible apply Norm.cons); exact rfl)
    | ((with_reducible apply end_ret))
    | ((with_reducible apply end_normal))
    | exact rvs_nil
    | ((with_reducible apply rvs_cons))
    | ((with_reducible apply rv_tmp); exact rfl)
    | ((with_reducible apply rv_cell); exact rfl; exact rfl)
    | ((with_reducible apply rv_cellAgg); exact rfl; exact rfl)
    | exact Nat.le_of_ble_eq_true rfl
    | exact (rfl : (_ : Bool) = true)
    | omega
    | (intro _ _; with_reducible apply tl_id)
    | (intro _; with_reducible apply tl_id)
    | (intro _ _; with_reducible apply al_id)
    | (intro _; with_reducible apply al_id))
  apply t_loopK (ι := Int × Int) [0, 1] (fun z => [(5, .int .i64 z.1), (6, .int .i64 z.2)]) (fun z => []) (fun z => 0 ≤ z.1 ∧ z.1 < z.2 ∧ z.2 ≤ 4001 ∧ z.1 * z.1 * n ≤ x ∧ x < z.2 * z.2 * n) (fun z => (z.2 - z.1).toNat) ((0, 4001))
  (repeat (first | exact KeepF.nil | (apply KeepF.cons; exact rfl) | apply KeepF.skip))
  (repeat (first | exact FrSub.nil | (apply FrSub.cons; exact rfl)))
  (repeat (first | exact HpSub.refl _ | (apply HpSub.consE; (repeat (first | exact P0 | apply P1)); exact rfl) | exact HpSub.nil))
  · exact ⟨by simp, by simp, by simp, by simp; omega, by simp only []; omega⟩
  rintro ⟨lo, hi⟩ ⟨l0, l1, l2, l3, l4⟩
  simp only at l0 l1 l2 l3 l4
  try simp only [List.cons_append, List.nil_append]
  by_cases hg : 1 < hi - lo
  · obtain ⟨m, hm⟩ : ∃ m, m = (lo + hi) / 2 := ⟨_, rfl⟩
    have hmid : (lo + hi).tdiv 2 = m := by rw [half_int (by omega), hm]
    have b1 := mul_abs (x := m) (y := m) (a := 4001) (b := 4001) (by omega) (by omega)
    have b2 := mul_abs (x := m * m) (y := n) (a := 16008001) (b := 2000000) (by omega) (by omega)
    by_cases hc : m * m * n ≤ x
    · repeat' (first
        | ((with_reducible apply oq_id); first | ((with_reducible apply (oq_quoI (k := m))); exact rfl; exact rfl; (refine ⟨hmid, by omega, by omega, by omega⟩)) | ((with_reducible apply (oq_mulE (k := m * m))); exact rfl; exact rfl; exact rfl; (refine ⟨?_, ?_⟩ <;> omega)) | ((with_reducible apply (oq_mulE (k := m * m * n))); exact rfl; exact rfl; exact rfl; (refine ⟨?_, ?_⟩ <;> omega)) | ((with_reducible apply oq_gtrT); exact rfl; exact rfl; omega) | ((with_reducible apply oq_gtrF); exact rfl; exact rfl; omega) | ((with_reducible apply oq_leqT); exact rfl; exact rfl; omega) | ((with_reducible apply oq_leqF); exact rfl; exact rfl; omega) | (apply oq_fn; exact rfl; first | exact trivial | (refine ⟨?_, ?_⟩ <;> omega) | (refine ⟨?_, ?_, ?_⟩ <;> omega) | omega | skip) | ((with_reducible apply oq_load); exact rfl; exact rfl) | ((with_reducible apply oq_loadAgg); exact rfl; exact rfl) | ((with_reducible apply oq_build); exact rfl; exact rfl; exact rfl) | ((with_reducible apply oq_buildA); exact rfl; exact rfl; exact rfl; exact rfl) | ((with_reducible apply oq_fieldAgg); exact rfl; exact rfl; exact rfl) | ((with_reducible apply oq_indexAgg); exact rfl; exact rfl; exact rfl; exact rfl))
        | ((with_reducible apply tl_id); first | ((with_reducible apply tl_nil)) | ((with_reducible apply u_q); exact rfl; exact rfl; exact rfl; exact rfl) | ((with_reducible apply u_s0); exact rfl; exact rfl) | ((with_reducible apply u_s); exact rfl; exact rfl; exact rfl) | ((with_reducible apply u_skip); exact rfl; exact rfl; exact rfl) | ((with_reducible apply u_splitD); exact rfl; exact rfl; all_goals first | (intro hp; try (exfalso; omega)) | skip) | ((with_reducible apply u_splitN); exact rfl; exact rfl; all_goals first | (intro hp; try (exfalso; omega)) | skip) | ((with_reducible apply u_split); exact rfl; exact rfl; all_goals first | intro hp | skip))
        | ((with_reducible apply gx_id); first | ((with_reducible apply v_nil)) | ((with_reducible apply v_q); exact rfl; exact rfl; exact rfl) | ((with_reducible apply v_skip); exact rfl; exact rfl; exact rfl) | ((with_reducible apply v_splitD); exact rfl; exact rfl; all_goals first | (intro hp; try (exfalso; omega)) | skip) | ((with_reducible apply v_splitN); exact rfl; exact rfl; all_goals first | (intro hp; try (exfalso; omega)) | skip) | ((with_reducible apply v_split); exact rfl; exact rfl; all_goals first | intro hp | skip))
        | ((with_reducible apply os_id); first | ((with_reducible apply os_x); exact rfl) | ((with_reducible apply os_store); exact rfl; exact rfl; exact rfl; exact rfl) | ((with_reducible apply os_storeAgg); exact rfl; exact rfl; exact rfl; exact rfl; exact rfl))
        | ((with_reducible apply ox_id); first | ((with_reducible apply ox_alloc); exact rfl; intro _) | ((with_reducible apply ox_box); exact rfl; exact rfl; intro _) | ((with_reducible apply ox_boxAgg); exact rfl; intro _) | ((with_reducible apply ox_buildSlice1); exact rfl; exact rfl; exact rfl; exact rfl; exact rfl; exact rfl; intro _) | ((with_reducible apply ox_buildSlice2); exact rfl; exact rfl; exact rfl; exact rfl; exact rfl; exact rfl; intro _) | ((with_reducible apply ox_buildSlice); exact rfl; exact rfl; exact rfl; exact rfl))
        | ((with_reducible apply rd_id); first | (apply Rd.own; (repeat (first | exact P0 | apply P1)); exact rfl; done) | (apply Rd.old; (first | (with_reducible assumption) | exact c0 | exact c1 | exact c2 | exact c3 | exact c4 | exact c5 | exact c6 | exact c7 | exact c8 | exact d0 | exact d1 | exact d2 | exact d3 | exact d4 | exact d5); first | exact List.not_mem_nil | exact m0 | exact m1 | exact m2 | exact m3 | exact m4 | exact m5 | exact m6 | exact m7 | exact m8 | exact m9))
        | ((with_reducible apply t_id); first | ((with_reducible apply t_seq)) | (apply t_region; kernel_rfl) | (apply t_drawn; kernel_rfl; decide +kernel; try simp only [List.append_eq, List.cons_append, List.nil_append]) | ((with_reducible apply t_condT); exact rfl) | ((with_reducible apply t_condF); exact rfl) | ((with_reducible apply t_condD); exact rfl; all_goals first | (intro hp; try (exfalso; omega)) | skip) | ((with_reducible apply t_condN); exact rfl; all_goals first | (intro hp; try (exfalso; omega)) | skip) | ((with_reducible apply t_cond); exact rfl; all_goals first | intro hp | skip) | ((with_reducible apply t_ret)) | ((with_reducible apply t_skip)) | ((with_reducible apply t_exit)) | ((with_reducible apply t_block)))
        | with_reducible apply q_thenN
        | with_reducible apply q_thenR
        | with_reducible apply q_blockR
        | with_reducible apply q_blockN
        | with_reducible apply q_thenE
        | ((with_reducible apply q_blockE); exact rfl)
        | ((with_reducible apply q_blockO); exact rfl)
        | exact P0
        | ((with_reducible apply P1))
        | exact Rdn.zero
        | apply Rdn.succ
        | ((with_reducible apply Norm.nil); exact rfl)
        | ((with_reducible apply Norm.cons); exact rfl)
        | ((with_reducible apply end_ret))
        | ((with_reducible apply end_normal))
        | exact rvs_nil
        | ((with_reducible apply rvs_cons))
        | ((with_reducible apply rv_tmp); exact rfl)
        | ((with_reducible apply rv_cell); exact rfl; exact rfl)
        | ((with_reducible apply rv_cellAgg); exact rfl; exact rfl)
        | exact Nat.le_of_ble_eq_true rfl
        | exact (rfl : (_ : Bool) = true)
        | omega
        | (intro _ _; with_reducible apply tl_id)
        | (intro _; with_reducible apply tl_id)
        | (intro _ _; with_reducible apply al_id)
        | (intro _; with_reducible apply al_id))
      all_goals (refine ⟨(m, hi), ⟨by simp only; omega, by simp only; omega, l2, hc, l4⟩, (by simp only; omega), ?_, ?_⟩ <;> (try simp only [List.cons_append, List.nil_append]) <;> (repeat' (first | exact FrSub.nil | (apply FrSub.cons; exact rfl) | exact HpSub.refl _ | (apply HpSub.consE; (repeat (first | exact P0 | apply P1)); exact rfl) | exact HpSub.nil)))
    · repeat' (first
        | ((with_reducible apply oq_id); first | ((with_reducible apply (oq_quoI (k := m))); exact rfl; exact rfl; (refine ⟨hmid, by omega, by omega, by omega⟩)) | ((with_reducible apply (oq_mulE (k := m * m))); exact rfl; exact rfl; exact rfl; (refine ⟨?_, ?_⟩ <;> omega)) | ((with_reducible apply (oq_mulE (k := m * m * n))); exact rfl; exact rfl; exact rfl; (refine ⟨?_, ?_⟩ <;> omega)) | ((with_reducible apply oq_gtrT); exact rfl; exact rfl; omega) | ((with_reducible apply oq_gtrF); exact rfl; exact rfl; omega) | ((with_reducible apply oq_leqT); exact rfl; exact rfl; omega) | ((with_reducible apply oq_leqF); exact rfl; exact rfl; omega) | (apply oq_fn; exact rfl; first | exact trivial | (refine ⟨?_, ?_⟩ <;> omega) | (refine ⟨?_, ?_, ?_⟩ <;> omega) | omega | skip) | ((with_reducible apply oq_load); exact rfl; exact rfl) | ((with_reducible apply oq_loadAgg); exact rfl; exact rfl) | ((with_reducible apply oq_build); exact rfl; exact rfl; exact rfl) | ((with_reducible apply oq_buildA); exact rfl; exact rfl; exact rfl; exact rfl) | ((with_reducible apply oq_fieldAgg); exact rfl; exact rfl; exact rfl) | ((with_reducible apply oq_indexAgg); exact rfl; exact rfl; exact rfl; exact rfl))
        | ((with_reducible apply tl_id); first | ((with_reducible apply tl_nil)) | ((with_reducible apply u_q); exact rfl; exact rfl; exact rfl; exact rfl) | ((with_reducible apply u_s0); exact rfl; exact rfl) | ((with_reducible apply u_s); exact rfl; exact rfl; exact rfl) | ((with_reducible apply u_skip); exact rfl; exact rfl; exact rfl) | ((with_reducible apply u_splitD); exact rfl; exact rfl; all_goals first | (intro hp; try (exfalso; omega)) | skip) | ((with_reducible apply u_splitN); exact rfl; exact rfl; all_goals first | (intro hp; try (exfalso; omega)) | skip) | ((with_reducible apply u_split); exact rfl; exact rfl; all_goals first | intro hp | skip))
        | ((with_reducible apply gx_id); first | ((with_reducible apply v_nil)) | ((with_reducible apply v_q); exact rfl; exact rfl; exact rfl) | ((with_reducible apply v_skip); exact rfl; exact rfl; exact rfl) | ((with_reducible apply v_splitD); exact rfl; exact rfl; all_goals first | (intro hp; try (exfalso; omega)) | skip) | ((with_reducible apply v_splitN); exact rfl; exact rfl; all_goals first | (intro hp; try (exfalso; omega)) | skip) | ((with_reducible apply v_split); exact rfl; exact rfl; all_goals first | intro hp | skip))
        | ((with_reducible apply os_id); first | ((with_reducible apply os_x); exact rfl) | ((with_reducible apply os_store); exact rfl; exact rfl; exact rfl; exact rfl) | ((with_reducible apply os_storeAgg); exact rfl; exact rfl; exact rfl; exact rfl; exact rfl))
        | ((with_reducible apply ox_id); first | ((with_reducible apply ox_alloc); exact rfl; intro _) | ((with_reducible apply ox_box); exact rfl; exact rfl; intro _) | ((with_reducible apply ox_boxAgg); exact rfl; intro _) | ((with_reducible apply ox_buildSlice1); exact rfl; exact rfl; exact rfl; exact rfl; exact rfl; exact rfl; intro _) | ((with_reducible apply ox_buildSlice2); exact rfl; exact rfl; exact rfl; exact rfl; exact rfl; exact rfl; intro _) | ((with_reducible apply ox_buildSlice); exact rfl; exact rfl; exact rfl; exact rfl))
        | ((with_reducible apply rd_id); first | (apply Rd.own; (repeat (first | exact P0 | apply P1)); exact rfl; done) | (apply Rd.old; (first | (with_reducible assumption) | exact c0 | exact c1 | exact c2 | exact c3 | exact c4 | exact c5 | exact c6 | exact c7 | exact c8 | exact d0 | exact d1 | exact d2 | exact d3 | exact d4 | exact d5); first | exact List.not_mem_nil | exact m0 | exact m1 | exact m2 | exact m3 | exact m4 | exact m5 | exact m6 | exact m7 | exact m8 | exact m9))
        | ((with_reducible apply t_id); first | ((with_reducible apply t_seq)) | (apply t_region; kernel_rfl) | (apply t_drawn; kernel_rfl; decide +kernel; try simp only [List.append_eq, List.cons_append, List.nil_append]) | ((with_reducible apply t_condT); exact rfl) | ((with_reducible apply t_condF); exact rfl) | ((with_reducible apply t_condD); exact rfl; all_goals first | (intro hp; try (exfalso; omega)) | skip) | ((with_reducible apply t_condN); exact rfl; all_goals first | (intro hp; try (exfalso; omega)) | skip) | ((with_reducible apply t_cond); exact rfl; all_goals first | intro hp | skip) | ((with_reducible apply t_ret)) | ((with_reducible apply t_skip)) | ((with_reducible apply t_exit)) | ((with_reducible apply t_block)))
        | with_reducible apply q_thenN
        | with_reducible apply q_thenR
        | with_reducible apply q_blockR
        | with_reducible apply q_blockN
        | with_reducible apply q_thenE
        | ((with_reducible apply q_blockE); exact rfl)
        | ((with_reducible apply q_blockO); exact rfl)
        | exact P0
        | ((with_reducible apply P1))
        | exact Rdn.zero
        | apply Rdn.succ
        | ((with_reducible apply Norm.nil); exact rfl)
        | ((with_reducible apply Norm.cons); exact rfl)
        | ((with_reducible apply end_ret))
        | ((with_reducible apply end_normal))
        | exact rvs_nil
        | ((with_reducible apply rvs_cons))
        | ((with_reducible apply rv_tmp); exact rfl)
        | ((with_reducible apply rv_cell); exact rfl; exact rfl)
        | ((with_reducible apply rv_cellAgg); exact rfl; exact rfl)
        | exact Nat.le_of_ble_eq_true rfl
        | exact (rfl : (_ : Bool) = true)
        | omega
        | (intro _ _; with_reducible apply tl_id)
        | (intro _; with_reducible apply tl_id)
        | (intro _ _; with_reducible apply al_id)
        | (intro _; with_reducible apply al_id))
      all_goals (refine ⟨(lo, m), ⟨l0, by simp only; omega, by simp only; omega, l3, by simp only; omega⟩, (by simp only; omega), ?_, ?_⟩ <;> (try simp only [List.cons_append, List.nil_append]) <;> (repeat' (first | exact FrSub.nil | (apply FrSub.cons; exact rfl) | exact HpSub.refl _ | (apply HpSub.consE; (repeat (first | exact P0 | apply P1)); exact rfl) | exact HpSub.nil)))
  · obtain rfl : hi = lo + 1 := by omega
    have hv : mrV x n = lo := IsM.val (by omega) ⟨l0, l3, l4⟩
    rw [hv]
    repeat' (first
      | ((with_reducible apply oq_id); first | ((with_reducible apply oq_gtrT); exact rfl; exact rfl; omega) | ((with_reducible apply oq_gtrF); exact rfl; exact rfl; omega) | (apply oq_fn; exact rfl; first | exact trivial | (refine ⟨?_, ?_⟩ <;> omega) | (refine ⟨?_, ?_, ?_⟩ <;> omega) | omega | skip) | ((with_reducible apply oq_load); exact rfl; exact rfl) | ((with_reducible apply oq_loadAgg); exact rfl; exact rfl) | ((with_reducible apply oq_build); exact rfl; exact rfl; exact rfl) | ((with_reducible apply oq_buildA); exact rfl; exact rfl; exact rfl; exact rfl) | ((with_reducible apply oq_fieldAgg); exact rfl; exact rfl; exact rfl) | ((with_reducible apply oq_indexAgg); exact rfl; exact rfl; exact rfl; exact rfl))
      | ((with_reducible apply tl_id); first | ((with_reducible apply tl_nil)) | ((with_reducible apply u_q); exact rfl; exact rfl; exact rfl; exact rfl) | ((with_reducible apply u_s0); exact rfl; exact rfl) | ((with_reducible apply u_s); exact rfl; exact rfl; exact rfl) | ((with_reducible apply u_skip); exact rfl; exact rfl; exact rfl) | ((with_reducible apply u_splitD); exact rfl; exact rfl; all_goals first | (intro hp; try (exfalso; omega)) | skip) | ((with_reducible apply u_splitN); exact rfl; exact rfl; all_goals first | (intro hp; try (exfalso; omega)) | skip) | ((with_reducible apply u_split); exact rfl; exact rfl; all_goals first | intro hp | skip))
      | ((with_reducible apply gx_id); first | ((with_reducible apply v_nil)) | ((with_reducible apply v_q); exact rfl; exact rfl; exact rfl) | ((with_reducible apply v_skip); exact rfl; exact rfl; exact rfl) | ((with_reducible apply v_splitD); exact rfl; exact rfl; all_goals first | (intro hp; try (exfalso; omega)) | skip) | ((with_reducible apply v_splitN); exact rfl; exact rfl; all_goals first | (intro hp; try (exfalso; omega)) | skip) | ((with_reducible apply v_split); exact rfl; exact rfl; all_goals first | intro hp | skip))
      | ((with_reducible apply os_id); first | ((with_reducible apply os_x); exact rfl) | ((with_reducible apply os_store); exact rfl; exact rfl; exact rfl; exact rfl) | ((with_reducible apply os_storeAgg); exact rfl; exact rfl; exact rfl; exact rfl; exact rfl))
      | ((with_reducible apply ox_id); first | ((with_reducible apply ox_alloc); exact rfl; intro _) | ((with_reducible apply ox_box); exact rfl; exact rfl; intro _) | ((with_reducible apply ox_boxAgg); exact rfl; intro _) | ((with_reducible apply ox_buildSlice1); exact rfl; exact rfl; exact rfl; exact rfl; exact rfl; exact rfl; intro _) | ((with_reducible apply ox_buildSlice2); exact rfl; exact rfl; exact rfl; exact rfl; exact rfl; exact rfl; intro _) | ((with_reducible apply ox_buildSlice); exact rfl; exact rfl; exact rfl; exact rfl))
      | ((with_reducible apply rd_id); first | (apply Rd.own; (repeat (first | exact P0 | apply P1)); exact rfl; done) | (apply Rd.old; (first | (with_reducible assumption) | exact c0 | exact c1 | exact c2 | exact c3 | exact c4 | exact c5 | exact c6 | exact c7 | exact c8 | exact d0 | exact d1 | exact d2 | exact d3 | exact d4 | exact d5); first | exact List.not_mem_nil | exact m0 | exact m1 | exact m2 | exact m3 | exact m4 | exact m5 | exact m6 | exact m7 | exact m8 | exact m9))
      | ((with_reducible apply t_id); first | ((with_reducible apply t_seq)) | (apply t_region; kernel_rfl) | (apply t_drawn; kernel_rfl; decide +kernel; try simp only [List.append_eq, List.cons_append, List.nil_append]) | ((with_reducible apply t_condT); exact rfl) | ((with_reducible apply t_condF); exact rfl) | ((with_reducible apply t_condD); exact rfl; all_goals first | (intro hp; try (exfalso; omega)) | skip) | ((with_reducible apply t_condN); exact rfl; all_goals first | (intro hp; try (exfalso; omega)) | skip) | ((with_reducible apply t_cond); exact rfl; all_goals first | intro hp | skip) | ((with_reducible apply t_ret)) | ((with_reducible apply t_skip)) | ((with_reducible apply t_exit)) | ((with_reducible apply t_block)))
      | with_reducible apply q_thenN
      | with_reducible apply q_thenR
      | with_reducible apply q_blockR
      | with_reducible apply q_blockN
      | with_reducible apply q_thenE
      | ((with_reducible apply q_blockE); exact rfl)
      | ((with_reducible apply q_blockO); exact rfl)
      | exact P0
      | ((with_reducible apply P1))
      | exact Rdn.zero
      | apply Rdn.succ
      | ((with_reducible apply Norm.nil); exact rfl)
      | ((with_reducible apply Norm.cons); exact rfl)
      | ((with_reducible apply end_ret))
      | ((with_reducible apply end_normal))
      | exact rvs_nil
      | ((with_reducible apply rvs_cons))
      | ((with_reducible apply rv_tmp); exact rfl)
      | ((with_reducible apply rv_cell); exact rfl; exact rfl)
      | ((with_reducible apply rv_cellAgg); exact rfl; exact rfl)
      | exact Nat.le_of_ble_eq_true rfl
      | exact (rfl : (_ : Bool) = true)
      | omega
      | (intro _ _; with_reducible apply tl_id)
      | (intro _; with_reducible apply tl_id)
      | (intro _ _; with_reducible apply al_id)
      | (intro _; with_reducible apply al_id))
    all_goals rfl
theorem calm_calls (a b c d p q most : Int) (h : WOk a b c d) (hx : axOk p q = true) (hm : 0 ≤ most ∧ most ≤ 2000) (w : World) : Calls Try.prog 82 #[.agg #[.int .i64 a, .int .i64 b, .int .i64 c, .int .i64 d], .agg #[.int .i64 p, .int .i64 q], .int .i64 most] w fun e w' => e = .returned (.bool (decide (farC a b c d p q * farC a b c d p q ≤ most * most * (p * p + q * q)))) ∧ Ext w w' := by
  have hp := ax_pos hx
  have b1 := mul_abs (x := most) (y := most) (a := 2000) (b := 2000) (by omega) (by omega)
  have b2 := mul_abs (x := most * most) (y := p * p + q * q) (a := 4000000) (b := 2000000) (by omega) (by omega)
  have HA := fun w1 => across_calls a b c d p q h hx w1
  generalize nearC a b c d p q * nearC a b c d p q = NN at *
  generalize farC a b c d p q * farC a b c d p q = FF at *
  generalize p * p + q * q = LL at *
  refine enterQ (c := cx w 24) Try.func82 rfl rfl rfl rfl ?_
  repeat' (first
    | ((with_reducible apply oq_id); first | ((with_reducible apply (oq_mulE (k := most * most))); exact rfl; exact rfl; exact rfl; (refine ⟨?_, ?_⟩ <;> omega)) | ((with_reducible apply (oq_mulE (k := most * most * LL))); exact rfl; exact rfl; exact rfl; (refine ⟨?_, ?_⟩ <;> omega)) | (apply oq_fn; exact rfl; first | exact trivial | (refine ⟨?_, ?_⟩ <;> omega) | (refine ⟨?_, ?_, ?_⟩ <;> omega) | omega | skip) | ((with_reducible apply oq_load); exact rfl; exact rfl) | ((with_reducible apply oq_loadAgg); exact rfl; exact rfl) | ((with_reducible apply oq_call (k := 80) (hc := Try.call80)); exact rfl; exact rfl; exact fun D w1 hw1 => HA w1) | ((with_reducible apply oq_build); exact rfl; exact rfl; exact rfl) | ((with_reducible apply oq_buildA); exact rfl; exact rfl; exact rfl; exact rfl) | ((with_reducible apply oq_fieldAgg); exact rfl; exact rfl; exact rfl) | ((with_reducible apply oq_indexAgg); exact rfl; exact rfl; exact rfl; exact rfl))
    | ((with_reducible apply tl_id); first | ((with_reducible apply tl_nil)) | ((with_reducible apply u_q); exact rfl; exact rfl; exact rfl; exact rfl) | ((with_reducible apply u_s0); exact rfl; exact rfl) | ((with_reducible apply u_s); exact rfl; exact rfl; exact rfl) | ((with_reducible apply u_skip); exact rfl; exact rfl; exact rfl) | ((with_reducible apply u_splitD); exact rfl; exact rfl; all_goals first | (intro hp; try (exfalso; omega)) | skip) | ((with_reducible apply u_splitN); exact rfl; exact rfl; all_goals first | (intro hp; try (exfalso; omega)) | skip) | ((with_reducible apply u_split); exact rfl; exact rfl; all_goals first | intro hp | skip))
    | ((with_reducible apply gx_id); first | ((with_reducible apply v_nil)) | ((with_reducible apply v_q); exact rfl; exact rfl; exact rfl) | ((with_reducible apply v_skip); exact rfl; exact rfl; exact rfl) | ((with_reducible apply v_splitD); exact rfl; exact rfl; all_goals first | (intro hp; try (exfalso; omega)) | skip) | ((with_reducible apply v_splitN); exact rfl; exact rfl; all_goals first | (intro hp; try (exfalso; omega)) | skip) | ((with_reducible apply v_split); exact rfl; exact rfl; all_goals first | intro hp | skip))
    | ((with_reducible apply os_id); first | ((with_reducible apply os_x); exact rfl) | ((with_reducible apply os_store); exact rfl; exact rfl; exact rfl; exact rfl) | ((with_reducible apply os_storeAgg); exact rfl; exact rfl; exact rfl; exact rfl; exact rfl))
    | ((with_reducible apply ox_id); first | ((with_reducible apply ox_alloc); exact rfl; intro _) | ((with_reducible apply ox_box); exact rfl; exact rfl; intro _) | ((with_reducible apply ox_boxAgg); exact rfl; intro _) | ((with_reducible apply ox_buildSlice1); exact rfl; exact rfl; exact rfl; exact rfl; exact rfl; exact rfl; intro _) | ((with_reducible apply ox_buildSlice2); exact rfl; exact rfl; exact rfl; exact rfl; exact rfl; exact rfl; intro _) | ((with_reducible apply ox_buildSlice); exact rfl; exact rfl; exact rfl; exact rfl))
    | ((with_reducible apply rd_id); first | (apply Rd.own; (repeat (first | exact P0 | apply P1)); exact rfl; done) | (apply Rd.old; (first | (with_reducible assumption) | exact c0 | exact c1 | exact c2 | exact c3 | exact c4 | exact c5 | exact c6 | exact c7 | exact c8 | exact d0 | exact d1 | exact d2 | exact d3 | exact d4 | exact d5); first | exact List.not_mem_nil | exact m0 | exact m1 | exact m2 | exact m3 | exact m4 | exact m5 | exact m6 | exact m7 | exact m8 | exact m9))
    | ((with_reducible apply t_id); first | ((with_reducible apply t_seq)) | (apply t_region; kernel_rfl) | (apply t_drawn; kernel_rfl; decide +kernel; try simp only [List.append_eq, List.cons_append, List.nil_append]) | ((with_reducible apply t_condT); exact rfl) | ((with_reducible apply t_condF); exact rfl) | ((with_reducible apply t_condD); exact rfl; all_goals first | (intro hp; try (exfalso; omega)) | skip) | ((with_reducible apply t_condN); exact rfl; all_goals first | (intro hp; try (exfalso; omega)) | skip) | ((with_reducible apply t_cond); exact rfl; all_goals first | intro hp | skip) | ((with_reducible apply t_ret)) | ((with_reducible apply t_skip)) | ((with_reducible apply t_exit)) | ((with_reducible apply t_block)))
    | with_reducible apply q_thenN
    | with_reducible apply q_thenR
    | with_reducible apply q_blockR
    | with_reducible apply q_blockN
    | with_reducible apply q_thenE
    | ((with_reducible apply q_blockE); exact rfl)
    | ((with_reducible apply q_blockO); exact rfl)
    | exact P0
    | ((with_reducible apply P1))
    | exact Rdn.zero
    | apply Rdn.succ
    | ((with_reducible apply Norm.nil); exact rfl)
    | ((with_reducible apply Norm.cons); exact rfl)
    | ((with_reducible apply end_ret))
    | ((with_reducible apply end_normal))
    | exact rvs_nil
    | ((with_reducible apply rvs_cons))
    | ((with_reducible apply rv_tmp); exact rfl)
    | ((with_reducible apply rv_cell); exact rfl; exact rfl)
    | ((with_reducible apply rv_cellAgg); exact rfl; exact rfl)
    | exact Nat.le_of_ble_eq_true rfl
    | exact (rfl : (_ : Bool) = true)
    | omega
    | (intro _ _; with_reducible apply tl_id)
    | (intro _; with_reducible apply tl_id)
    | (intro _ _; with_reducible apply al_id)
    | (intro _; with_reducible apply al_id))
  all_goals rfl
theorem one_calls (n : Int) (w : World) : Calls Try.prog 28 #[.int .i64 n] w fun e w' => e = .returned (.agg #[.int .i64 n, .int .i64 n]) ∧ Ext w w' := by
  refine enterQ (c := cx w 6) Try.func28 rfl rfl rfl rfl ?_
  repeat' (first
    | ((with_reducible apply oq_id); first | (apply oq_fn; exact rfl; first | exact trivial | (refine ⟨?_, ?_⟩ <;> omega) | (refine ⟨?_, ?_, ?_⟩ <;> omega) | omega | skip) | ((with_reducible apply oq_load); exact rfl; exact rfl) | ((with_reducible apply oq_loadAgg); exact rfl; exact rfl) | ((with_reducible apply oq_build); exact rfl; exact rfl; exact rfl) | ((with_reducible apply oq_buildA); exact rfl; exact rfl; exact rfl; exact rfl) | ((with_reducible apply oq_fieldAgg); exact rfl; exact rfl; exact rfl) | ((with_reducible apply oq_indexAgg); exact rfl; exact rfl; exact rfl; exact rfl))
    | ((with_reducible apply tl_id); first | ((with_reducible apply tl_nil)) | ((with_reducible apply u_q); exact rfl; exact rfl; exact rfl; exact rfl) | ((with_reducible apply u_s0); exact rfl; exact rfl) | ((with_reducible apply u_s); exact rfl; exact rfl; exact rfl) | ((with_reducible apply u_skip); exact rfl; exact rfl; exact rfl) | ((with_reducible apply u_splitD); exact rfl; exact rfl; all_goals first | (intro hp; try (exfalso; omega)) | skip) | ((with_reducible apply u_splitN); exact rfl; exact rfl; all_goals first | (intro hp; try (exfalso; omega)) | skip) | ((with_reducible apply u_split); exact rfl; exact rfl; all_goals first | intro hp | skip))
    | ((with_reducible apply gx_id); first | ((with_reducible apply v_nil)) | ((with_reducible apply v_q); exact rfl; exact rfl; exact rfl) | ((with_reducible apply v_skip); exact rfl; exact rfl; exact rfl) | ((with_reducible apply v_splitD); exact rfl; exact rfl; all_goals first | (intro hp; try (exfalso; omega)) | skip) | ((with_reducible apply v_splitN); exact rfl; exact rfl; all_goals first | (intro hp; try (exfalso; omega)) | skip) | ((with_reducible apply v_split); exact rfl; exact rfl; all_goals first | intro hp | skip))
    | ((with_reducible apply os_id); first | ((with_reducible apply os_x); exact rfl) | ((with_reducible apply os_store); exact rfl; exact rfl; exact rfl; exact rfl) | ((with_reducible apply os_storeAgg); exact rfl; exact rfl; exact rfl; exact rfl; exact rfl))
    | ((with_reducible apply ox_id); first | ((with_reducible apply ox_alloc); exact rfl; intro _) | ((with_reducible apply ox_box); exact rfl; exact rfl; intro _) | ((with_reducible apply ox_boxAgg); exact rfl; intro _) | ((with_reducible apply ox_buildSlice1); exact rfl; exact rfl; exact rfl; exact rfl; exact rfl; exact rfl; intro _) | ((with_reducible apply ox_buildSlice2); exact rfl; exact rfl; exact rfl; exact rfl; exact rfl; exact rfl; intro _) | ((with_reducible apply ox_buildSlice); exact rfl; exact rfl; exact rfl; exact rfl))
    | ((with_reducible apply rd_id); first | (apply Rd.own; (repeat (first | exact P0 | apply P1)); exact rfl; done) | (apply Rd.old; (first | (with_reducible assumption) | exact c0 | exact c1 | exact c2 | exact c3 | exact c4 | exact c5 | exact c6 | exact c7 | exact c8 | exact d0 | exact d1 | exact d2 | exact d3 | exact d4 | exact d5); first | exact List.not_mem_nil | exact m0 | exact m1 | exact m2 | exact m3 | exact m4 | exact m5 | exact m6 | exact m7 | exact m8 | exact m9))
    | ((with_reducible apply t_id); first | ((with_reducible apply t_seq)) | (apply t_region; kernel_rfl) | (apply t_drawn; kernel_rfl; decide +kernel; try simp only [List.append_eq, List.cons_append, List.nil_append]) | ((with_reducible apply t_condT); exact rfl) | ((with_reducible apply t_condF); exact rfl) | ((with_reducible apply t_condD); exact rfl; all_goals first | (intro hp; try (exfalso; omega)) | skip) | ((with_reducible apply t_condN); exact rfl; all_goals first | (intro hp; try (exfalso; omega)) | skip) | ((with_reducible apply t_cond); exact rfl; all_goals first | intro hp | skip) | ((with_reducible apply t_ret)) | ((with_reducible apply t_skip)) | ((with_reducible apply t_exit)) | ((with_reducible apply t_block)))
    | with_reducible apply q_thenN
    | with_reducible apply q_thenR
    | with_reducible apply q_blockR
    | with_reducible apply q_blockN
    | with_reducible apply q_thenE
    | ((with_reducible apply q_blockE); exact rfl)
    | ((with_reducible apply q_blockO); exact rfl)
    | exact P0
    | ((with_reducible apply P1))
    | exact Rdn.zero
    | apply Rdn.succ
    | ((with_reducible apply Norm.nil); exact rfl)
    | ((with_reducible apply Norm.cons); exact rfl)
    | ((with_reducible apply end_ret))
    | ((with_reducible apply end_normal))
    | exact rvs_nil
    | ((with_reducible apply rvs_cons))
    | ((with_reducible apply rv_tmp); exact rfl)
    | ((with_reducible apply rv_cell); exact rfl; exact rfl)
    | ((with_reducible apply rv_cellAgg); exact rfl; exact rfl)
    | exact Nat.le_of_ble_eq_true rfl
    | exact (rfl : (_ : Bool) = true)
    | omega
    | (intro _ _; with_reducible apply tl_id)
    | (intro _; with_reducible apply tl_id)
    | (intro _ _; with_reducible apply al_id)
    | (intro _; with_reducible apply al_id))
  all_goals rfl
def insV (a b : Int) (u : Nat) : Int := a + ((u % (b - a + 1).toNat : Nat) : Int)
theorem insV_in {a b : Int} {u : Nat} (h : a ≤ b) : a ≤ insV a b u ∧ insV a b u ≤ b := by
  have := Nat.mod_lt u (show 0 < (b - a + 1).toNat by omega)
  unfold insV; omega
theorem inside_T (a b : Int) (u : Nat) (h : a ≤ b) (ha : -2000 ≤ a) (hb : b ≤ 2000) (hu : u ≤ 65535) (w : World) : Calls Try.prog 29 #[.agg #[.int .i64 a, .int .i64 b], .int .u16 (u : Nat)] w fun e w' => e = .returned (.int .i64 (insV a b u)) ∧ Ext w w' := by
  have hi := insV_in (u := u) h
  have hmod : ((u : Nat) : Int).tmod (b - a + 1) = ((u % (b - a + 1).toNat : Nat) : Int) := by
    obtain ⟨k, hk⟩ := Int.eq_ofNat_of_zero_le (show 0 ≤ b - a + 1 by omega)
    rw [hk, Int.ofNat_tmod]; simp
  have hlt := Nat.mod_lt u (show 0 < (b - a + 1).toNat by omega)
  unfold insV
  generalize u % (b - a + 1).toNat = r at *
  refine enterQ (c := cx w 17) Try.func29 rfl rfl rfl rfl ?_
  repeat' (first
    | ((with_reducible apply oq_id); first | ((with_reducible apply (oq_remI (k := (r : Nat)))); exact rfl; exact rfl; exact hmod; omega) | (apply oq_fn; exact rfl; first | exact trivial | (refine ⟨?_, ?_⟩ <;> omega) | (refine ⟨?_, ?_, ?_⟩ <;> omega) | omega | skip) | ((with_reducible apply oq_load); exact rfl; exact rfl) | ((with_reducible apply oq_loadAgg); exact rfl; exact rfl) | ((with_reducible apply oq_build); exact rfl; exact rfl; exact rfl) | ((with_reducible apply oq_buildA); exact rfl; exact rfl; exact rfl; exact rfl) | ((with_reducible apply oq_fieldAgg); exact rfl; exact rfl; exact rfl) | ((with_reducible apply oq_indexAgg); exact rfl; exact rfl; exact rfl; exact rfl))
    | ((with_reducible apply tl_id); first | ((with_reducible apply tl_nil)) | ((with_reducible apply u_q); exact rfl; exact rfl; exact rfl; exact rfl) | ((with_reducible apply u_s0); exact rfl; exact rfl) | ((with_reducible apply u_s); exact rfl; exact rfl; exact rfl) | ((with_reducible apply u_skip); exact rfl; exact rfl; exact rfl) | ((with_reducible apply u_splitD); exact rfl; exact rfl; all_goals first | (intro hp; try (exfalso; omega)) | skip) | ((with_reducible apply u_splitN); exact rfl; exact rfl; all_goals first | (intro hp; try (exfalso; omega)) | skip) | ((with_reducible apply u_split); exact rfl; exact rfl; all_goals first | intro hp | skip))
    | ((with_reducible apply gx_id); first | ((with_reducible apply v_nil)) | ((with_reducible apply v_q); exact rfl; exact rfl; exact rfl) | ((with_reducible apply v_skip); exact rfl; exact rfl; exact rfl) | ((with_reducible apply v_splitD); exact rfl; exact rfl; all_goals first | (intro hp; try (exfalso; omega)) | skip) | ((with_reducible apply v_splitN); exact rfl; exact rfl; all_goals first | (intro hp; try (exfalso; omega)) | skip) | ((with_reducible apply v_split); exact rfl; exact rfl; all_goals first | intro hp | skip))
    | ((with_reducible apply os_id); first | ((with_reducible apply os_x); exact rfl) | ((with_reducible apply os_store); exact rfl; exact rfl; exact rfl; exact rfl) | ((with_reducible apply os_storeAgg); exact rfl; exact rfl; exact rfl; exact rfl; exact rfl))
    | ((with_reducible apply ox_id); first | ((with_reducible apply ox_alloc); exact rfl; intro _) | ((with_reducible apply ox_box); exact rfl; exact rfl; intro _) | ((with_reducible apply ox_boxAgg); exact rfl; intro _) | ((with_reducible apply ox_buildSlice1); exact rfl; exact rfl; exact rfl; exact rfl; exact rfl; exact rfl; intro _) | ((with_reducible apply ox_buildSlice2); exact rfl; exact rfl; exact rfl; exact rfl; exact rfl; exact rfl; intro _) | ((with_reducible apply ox_buildSlice); exact rfl; exact rfl; exact rfl; exact rfl))
    | ((with_reducible apply rd_id); first | (apply Rd.own; (repeat (first | exact P0 | apply P1)); exact rfl; done) | (apply Rd.old; (first | (with_reducible assumption) | exact c0 | exact c1 | exact c2 | exact c3 | exact c4 | exact c5 | exact c6 | exact c7 | exact c8 | exact d0 | exact d1 | exact d2 | exact d3 | exact d4 | exact d5); first | exact List.not_mem_nil | exact m0 | exact m1 | exact m2 | exact m3 | exact m4 | exact m5 | exact m6 | exact m7 | exact m8 | exact m9))
    | ((with_reducible apply t_id); first | ((with_reducible apply t_seq)) | (apply t_region; kernel_rfl) | (apply t_drawn; kernel_rfl; decide +kernel; try simp only [List.append_eq, List.cons_append, List.nil_append]) | ((with_reducible apply t_condT); exact rfl) | ((with_reducible apply t_condF); exact rfl) | ((with_reducible apply t_condD); exact rfl; all_goals first | (intro hp; try (exfalso; omega)) | skip) | ((with_reducible apply t_condN); exact rfl; all_goals first | (intro hp; try (exfalso; omega)) | skip) | ((with_reducible apply t_cond); exact rfl; all_goals first | intro hp | skip) | ((with_reducible apply t_ret)) | ((with_reducible apply t_skip)) | ((with_reducible apply t_exit)) | ((with_reducible apply t_block)))
    | with_reducible apply q_thenN
    | with_reducible apply q_thenR
    | with_reducible apply q_blockR
    | with_reducible apply q_blockN
    | with_reducible apply q_thenE
    | ((with_reducible apply q_blockE); exact rfl)
    | ((with_reducible apply q_blockO); exact rfl)
    | exact P0
    | ((with_reducible apply P1))
    | exact Rdn.zero
    | apply Rdn.succ
    | ((with_reducible apply Norm.nil); exact rfl)
    | ((with_reducible apply Norm.cons); exact rfl)
    | ((with_reducible apply end_ret))
    | ((with_reducible apply end_normal))
    | exact rvs_nil
    | ((with_reducible apply rvs_cons))
    | ((with_reducible apply rv_tmp); exact rfl)
    | ((with_reducible apply rv_cell); exact rfl; exact rfl)
    | ((with_reducible apply rv_cellAgg); exact rfl; exact rfl)
    | exact Nat.le_of_ble_eq_true rfl
    | exact (rfl : (_ : Bool) = true)
    | omega
    | (intro _ _; with_reducible apply tl_id)
    | (intro _; with_reducible apply tl_id)
    | (intro _ _; with_reducible apply al_id)
    | (intro _; with_reducible apply al_id))
  all_goals rfl
theorem cross_calls (a b c d p q : Int) (h : WOk a b c d) (hx : axOk p q = true) (w : World) : Calls Try.prog 32 #[.agg #[.int .i64 a, .int .i64 b, .int .i64 c, .int .i64 d], .agg #[.int .i64 p, .int .i64 q]] w fun e w' => e = .returned (.tuple #[.agg #[.int .i64 (mrV (nearC a b c d p q * nearC a b c d p q) (p * p + q * q)), .int .i64 (mhV (farC a b c d p q * farC a b c d p q) (p * p + q * q))], .int .i64 0]) ∧ Ext w w' := by
  have hp := ax_pos hx
  have HA := fun w1 => across_calls a b c d p q h hx w1
  have HX := fun w1 => checkAxis_calls p q w1
  rw [hx] at HX
  simp only [if_true] at HX
  have nf := near_far a b c d p q h.ab h.cd
  have nn := nearC_nn a b c d p q
  have n0 := sq_nn (nearC a b c d p q)
  have f0 := sq_nn (farC a b c d p q)
  have f8 := far_big (p := p) (q := q) h.ab h.cd h.a2 h.b2 h.c2 h.d2
  have n8 : nearC a b c d p q * nearC a b c d p q ≤ 8000000 * (p * p + q * q) := Int.le_trans (sq_mono nn nf.1) f8
  clear nf nn
  generalize nearC a b c d p q * nearC a b c d p q = NN at *
  generalize farC a b c d p q * farC a b c d p q = FF at *
  generalize p * p + q * q = LL at *
  have hr := mrV_is (x := FF) (n := LL) (by omega) f0
  have hr1 : mrV FF LL ≤ 4001 := by
    rcases Int.lt_or_le 4001 (mrV FF LL) with g | g
    · have := sqn_mono (n := LL) (j := 4001) (k := mrV FF LL) (by omega) (by omega) (by omega)
      have := hr.2.1
      omega
    · exact g
  have hr0 := hr.1
  have HN1 := fun w1 => mroot_calls NN LL hp.1 hp.2 n0 n8 w1
  have HF1 := fun w1 => mroot_calls FF LL hp.1 hp.2 f0 f8 w1
  unfold mhV
  generalize mrV FF LL = R at *
  have b1 := mul_abs (x := R) (y := R) (a := 4001) (b := 4001) (by omega) (by omega)
  have b2' := mul_abs (x := R * R) (y := LL) (a := 16008001) (b := 2000000) (by omega) (by omega)
  by_cases hlt : R * R * LL < FF
  · rw [if_pos hlt]
    refine enterQ (c := cx w 52) Try.func32 rfl rfl rfl rfl ?_
    repeat' (first
      | ((with_reducible apply oq_id); first | ((with_reducible apply (oq_mulE (k := R * R))); exact rfl; exact rfl; exact rfl; (refine ⟨?_, ?_⟩ <;> omega)) | ((with_reducible apply (oq_mulE (k := R * R * LL))); exact rfl; exact rfl; exact rfl; (refine ⟨?_, ?_⟩ <;> omega)) | ((with_reducible apply oq_neqT); exact rfl; exact rfl; omega) | ((with_reducible apply oq_neqF); exact rfl; exact rfl; omega) | ((with_reducible apply oq_lssT); exact rfl; exact rfl; omega) | ((with_reducible apply oq_lssF); exact rfl; exact rfl; omega) | (apply oq_fn; exact rfl; first | exact trivial | (refine ⟨?_, ?_⟩ <;> omega) | (refine ⟨?_, ?_, ?_⟩ <;> omega) | omega | skip) | ((with_reducible apply oq_load); exact rfl; exact rfl) | ((with_reducible apply oq_loadAgg); exact rfl; exact rfl) | ((with_reducible apply oq_call (k := 79) (hc := Try.call79)); exact rfl; exact rfl; exact fun D w1 hw1 => mcheckWind_calls a b c d h w1) | ((with_reducible apply oq_call (k := 26) (hc := Try.call26)); exact rfl; exact rfl; exact fun D w1 hw1 => HX w1) | ((with_reducible apply oq_call (k := 80) (hc := Try.call80)); exact rfl; exact rfl; exact fun D w1 hw1 => HA w1) | ((with_reducible apply oq_call (k := 81) (hc := Try.call81)); exact rfl; exact rfl; exact fun D w1 hw1 => HN1 w1) | ((with_reducible apply oq_call (k := 81) (hc := Try.call81)); exact rfl; exact rfl; exact fun D w1 hw1 => HF1 w1) | ((with_reducible apply oq_build); exact rfl; exact rfl; exact rfl) | ((with_reducible apply oq_buildA); exact rfl; exact rfl; exact rfl; exact rfl) | ((with_reducible apply oq_fieldAgg); exact rfl; exact rfl; exact rfl) | ((with_reducible apply oq_indexAgg); exact rfl; exact rfl; exact rfl; exact rfl))
      | ((with_reducible apply tl_id); first | ((with_reducible apply tl_nil)) | ((with_reducible apply u_q); exact rfl; exact rfl; exact rfl; exact rfl) | ((with_reducible apply u_s0); exact rfl; exact rfl) | ((with_reducible apply u_s); exact rfl; exact rfl; exact rfl) | ((with_reducible apply u_skip); exact rfl; exact rfl; exact rfl) | ((with_reducible apply u_splitD); exact rfl; exact rfl; all_goals first | (intro hp; try (exfalso; omega)) | skip) | ((with_reducible apply u_splitN); exact rfl; exact rfl; all_goals first | (intro hp; try (exfalso; omega)) | skip) | ((with_reducible apply u_split); exact rfl; exact rfl; all_goals first | intro hp | skip))
      | ((with_reducible apply gx_id); first | ((with_reducible apply v_nil)) | ((with_reducible apply v_q); exact rfl; exact rfl; exact rfl) | ((with_reducible apply v_skip); exact rfl; exact rfl; exact rfl) | ((with_reducible apply v_splitD); exact rfl; exact rfl; all_goals first | (intro hp; try (exfalso; omega)) | skip) | ((with_reducible apply v_splitN); exact rfl; exact rfl; all_goals first | (intro hp; try (exfalso; omega)) | skip) | ((with_reducible apply v_split); exact rfl; exact rfl; all_goals first | intro hp | skip))
      | ((with_reducible apply os_id); first | ((with_reducible apply os_x); exact rfl) | ((with_reducible apply os_store); exact rfl; exact rfl; exact rfl; exact rfl) | ((with_reducible apply os_storeAgg); exact rfl; exact rfl; exact rfl; exact rfl; exact rfl))
      | ((with_reducible apply ox_id); first | ((with_reducible apply ox_alloc); exact rfl; intro _) | ((with_reducible apply ox_box); exact rfl; exact rfl; intro _) | ((with_reducible apply ox_boxAgg); exact rfl; intro _) | ((with_reducible apply ox_buildSlice1); exact rfl; exact rfl; exact rfl; exact rfl; exact rfl; exact rfl; intro _) | ((with_reducible apply ox_buildSlice2); exact rfl; exact rfl; exact rfl; exact rfl; exact rfl; exact rfl; intro _) | ((with_reducible apply ox_buildSlice); exact rfl; exact rfl; exact rfl; exact rfl))
      | ((with_reducible apply rd_id); first | (apply Rd.own; (repeat (first | exact P0 | apply P1)); exact rfl; done) | (apply Rd.old; (first | (with_reducible assumption) | exact c0 | exact c1 | exact c2 | exact c3 | exact c4 | exact c5 | exact c6 | exact c7 | exact c8 | exact d0 | exact d1 | exact d2 | exact d3 | exact d4 | exact d5); first | exact List.not_mem_nil | exact m0 | exact m1 | exact m2 | exact m3 | exact m4 | exact m5 | exact m6 | exact m7 | exact m8 | exact m9))
      | ((with_reducible apply t_id); first | ((with_reducible apply t_seq)) | (apply t_region; kernel_rfl) | (apply t_drawn; kernel_rfl; decide +kernel; try simp only [List.append_eq, List.cons_append, List.nil_append]) | ((with_reducible apply t_condT); exact rfl) | ((with_reducible apply t_condF); exact rfl) | ((with_reducible apply t_condD); exact rfl; all_goals first | (intro hp; try (exfalso; omega)) | skip) | ((with_reducible apply t_condN); exact rfl; all_goals first | (intro hp; try (exfalso; omega)) | skip) | ((with_reducible apply t_cond); exact rfl; all_goals first | intro hp | skip) | ((with_reducible apply t_ret)) | ((with_reducible apply t_skip)) | ((with_reducible apply t_exit)) | ((with_reducible apply t_block)))
      | with_reducible apply q_thenN
      | with_reducible apply q_thenR
      | with_reducible apply q_blockR
      | with_reducible apply q_blockN
      | with_reducible apply q_thenE
      | ((with_reducible apply q_blockE); exact rfl)
      | ((with_reducible apply q_blockO); exact rfl)
      | exact P0
      | ((with_reducible apply P1))
      | exact Rdn.zero
      | apply Rdn.succ
      | ((with_reducible apply Norm.nil); exact rfl)
      | ((with_reducible apply Norm.cons); exact rfl)
      | ((with_reducible apply end_ret))
      | ((with_reducible apply end_normal))
      | exact rvs_nil
      | ((with_reducible apply rvs_cons))
      | ((with_reducible apply rv_tmp); exact rfl)
      | ((with_reducible apply rv_cell); exact rfl; exact rfl)
      | ((with_reducible apply rv_cellAgg); exact rfl; exact rfl)
      | exact Nat.le_of_ble_eq_true rfl
      | exact (rfl : (_ : Bool) = true)
      | omega
      | (intro _ _; with_reducible apply tl_id)
      | (intro _; with_reducible apply tl_id)
      | (intro _ _; with_reducible apply al_id)
      | (intro _; with_reducible apply al_id))
    all_goals rfl
  · rw [if_neg hlt]
    refine enterQ (c := cx w 52) Try.func32 rfl rfl rfl rfl ?_
    repeat' (first
      | ((with_reducible apply oq_id); first | ((with_reducible apply (oq_mulE (k := R * R))); exact rfl; exact rfl; exact rfl; (refine ⟨?_, ?_⟩ <;> omega)) | ((with_reducible apply (oq_mulE (k := R * R * LL))); exact rfl; exact rfl; exact rfl; (refine ⟨?_, ?_⟩ <;> omega)) | ((with_reducible apply oq_neqT); exact rfl; exact rfl; omega) | ((with_reducible apply oq_neqF); exact rfl; exact rfl; omega) | ((with_reducible apply oq_lssT); exact rfl; exact rfl; omega) | ((with_reducible apply oq_lssF); exact rfl; exact rfl; omega) | (apply oq_fn; exact rfl; first | exact trivial | (refine ⟨?_, ?_⟩ <;> omega) | (refine ⟨?_, ?_, ?_⟩ <;> omega) | omega | skip) | ((with_reducible apply oq_load); exact rfl; exact rfl) | ((with_reducible apply oq_loadAgg); exact rfl; exact rfl) | ((with_reducible apply oq_call (k := 79) (hc := Try.call79)); exact rfl; exact rfl; exact fun D w1 hw1 => mcheckWind_calls a b c d h w1) | ((with_reducible apply oq_call (k := 26) (hc := Try.call26)); exact rfl; exact rfl; exact fun D w1 hw1 => HX w1) | ((with_reducible apply oq_call (k := 80) (hc := Try.call80)); exact rfl; exact rfl; exact fun D w1 hw1 => HA w1) | ((with_reducible apply oq_call (k := 81) (hc := Try.call81)); exact rfl; exact rfl; exact fun D w1 hw1 => HN1 w1) | ((with_reducible apply oq_call (k := 81) (hc := Try.call81)); exact rfl; exact rfl; exact fun D w1 hw1 => HF1 w1) | ((with_reducible apply oq_build); exact rfl; exact rfl; exact rfl) | ((with_reducible apply oq_buildA); exact rfl; exact rfl; exact rfl; exact rfl) | ((with_reducible apply oq_fieldAgg); exact rfl; exact rfl; exact rfl) | ((with_reducible apply oq_indexAgg); exact rfl; exact rfl; exact rfl; exact rfl))
      | ((with_reducible apply tl_id); first | ((with_reducible apply tl_nil)) | ((with_reducible apply u_q); exact rfl; exact rfl; exact rfl; exact rfl) | ((with_reducible apply u_s0); exact rfl; exact rfl) | ((with_reducible apply u_s); exact rfl; exact rfl; exact rfl) | ((with_reducible apply u_skip); exact rfl; exact rfl; exact rfl) | ((with_reducible apply u_splitD); exact rfl; exact rfl; all_goals first | (intro hp; try (exfalso; omega)) | skip) | ((with_reducible apply u_splitN); exact rfl; exact rfl; all_goals first | (intro hp; try (exfalso; omega)) | skip) | ((with_reducible apply u_split); exact rfl; exact rfl; all_goals first | intro hp | skip))
      | ((with_reducible apply gx_id); first | ((with_reducible apply v_nil)) | ((with_reducible apply v_q); exact rfl; exact rfl; exact rfl) | ((with_reducible apply v_skip); exact rfl; exact rfl; exact rfl) | ((with_reducible apply v_splitD); exact rfl; exact rfl; all_goals first | (intro hp; try (exfalso; omega)) | skip) | ((with_reducible apply v_splitN); exact rfl; exact rfl; all_goals first | (intro hp; try (exfalso; omega)) | skip) | ((with_reducible apply v_split); exact rfl; exact rfl; all_goals first | intro hp | skip))
      | ((with_reducible apply os_id); first | ((with_reducible apply os_x); exact rfl) | ((with_reducible apply os_store); exact rfl; exact rfl; exact rfl; exact rfl) | ((with_reducible apply os_storeAgg); exact rfl; exact rfl; exact rfl; exact rfl; exact rfl))
      | ((with_reducible apply ox_id); first | ((with_reducible apply ox_alloc); exact rfl; intro _) | ((with_reducible apply ox_box); exact rfl; exact rfl; intro _) | ((with_reducible apply ox_boxAgg); exact rfl; intro _) | ((with_reducible apply ox_buildSlice1); exact rfl; exact rfl; exact rfl; exact rfl; exact rfl; exact rfl; intro _) | ((with_reducible apply ox_buildSlice2); exact rfl; exact rfl; exact rfl; exact rfl; exact rfl; exact rfl; intro _) | ((with_reducible apply ox_buildSlice); exact rfl; exact rfl; exact rfl; exact rfl))
      | ((with_reducible apply rd_id); first | (apply Rd.own; (repeat (first | exact P0 | apply P1)); exact rfl; done) | (apply Rd.old; (first | (with_reducible assumption) | exact c0 | exact c1 | exact c2 | exact c3 | exact c4 | exact c5 | exact c6 | exact c7 | exact c8 | exact d0 | exact d1 | exact d2 | exact d3 | exact d4 | exact d5); first | exact List.not_mem_nil | exact m0 | exact m1 | exact m2 | exact m3 | exact m4 | exact m5 | exact m6 | exact m7 | exact m8 | exact m9))
      | ((with_reducible apply t_id); first | ((with_reducible apply t_seq)) | (apply t_region; kernel_rfl) | (apply t_drawn; kernel_rfl; decide +kernel; try simp only [List.append_eq, List.cons_append, List.nil_append]) | ((with_reducible apply t_condT); exact rfl) | ((with_reducible apply t_condF); exact rfl) | ((with_reducible apply t_condD); exact rfl; all_goals first | (intro hp; try (exfalso; omega)) | skip) | ((with_reducible apply t_condN); exact rfl; all_goals first | (intro hp; try (exfalso; omega)) | skip) | ((with_reducible apply t_cond); exact rfl; all_goals first | intro hp | skip) | ((with_reducible apply t_ret)) | ((with_reducible apply t_skip)) | ((with_reducible apply t_exit)) | ((with_reducible apply t_block)))
      | with_reducible apply q_thenN
      | with_reducible apply q_thenR
      | with_reducible apply q_blockR
      | with_reducible apply q_blockN
      | with_reducible apply q_thenE
      | ((with_reducible apply q_blockE); exact rfl)
      | ((with_reducible apply q_blockO); exact rfl)
      | exact P0
      | ((with_reducible apply P1))
      | exact Rdn.zero
      | apply Rdn.succ
      | ((with_reducible apply Norm.nil); exact rfl)
      | ((with_reducible apply Norm.cons); exact rfl)
      | ((with_reducible apply end_ret))
      | ((with_reducible apply end_normal))
      | exact rvs_nil
      | ((with_reducible apply rvs_cons))
      | ((with_reducible apply rv_tmp); exact rfl)
      | ((with_reducible apply rv_cell); exact rfl; exact rfl)
      | ((with_reducible apply rv_cellAgg); exact rfl; exact rfl)
      | exact Nat.le_of_ble_eq_true rfl
      | exact (rfl : (_ : Bool) = true)
      | omega
      | (intro _ _; with_reducible apply tl_id)
      | (intro _; with_reducible apply tl_id)
      | (intro _ _; with_reducible apply al_id)
      | (intro _; with_reducible apply al_id))
    all_goals rfl
theorem mcalm_calls (a b c d p q most : Int) (h : WOk a b c d) (hx : axOk p q = true) (w : World) : Calls Try.prog 33 #[.agg #[.int .i64 a, .int .i64 b, .int .i64 c, .int .i64 d], .agg #[.int .i64 p, .int .i64 q], .int .i64 most] w fun e w' => e = .returned (.tuple #[.bool (if 0 ≤ most ∧ most ≤ 2000 then decide (farC a b c d p q * farC a b c d p q ≤ most * most * (p * p + q * q)) else false), .int .i64 (if 0 ≤ most ∧ most ≤ 2000 then 0 else 2)]) ∧ Ext w w' := by
  have HX := fun w1 => checkAxis_calls p q w1
  rw [hx] at HX
  simp only [if_true] at HX
  have HR := fun (b1 : Nat) (w1 : World) (h : RdS w1 1 (some ⟨b1, 0, none⟩) 1 ([most].map inCells)) => mfrom_calls 0 2000 (some ⟨b1, 0, none⟩) 1 1 [most] w1 h (by omega)
  by_cases hm : 0 ≤ most ∧ most ≤ 2000
  · have h1 : allFrom 0 2000 [most] = true := by simp [allFrom]; omega
    rw [h1] at HR
    rw [if_pos hm, if_pos hm]
    have HC := fun w1 => calm_calls a b c d p q most h hx hm w1
    generalize decide (farC a b c d p q * farC a b c d p q ≤ most * most * (p * p + q * q)) = r at *
    refine enterQ (c := cx w 28) Try.func33 rfl rfl rfl rfl ?_
    repeat' (first
      | ((with_reducible apply oq_id); first | ((with_reducible apply oq_neqT); exact rfl; exact rfl; omega) | ((with_reducible apply oq_neqF); exact rfl; exact rfl; omega) | (apply oq_fn; exact rfl; first | exact trivial | (refine ⟨?_, ?_⟩ <;> omega) | (refine ⟨?_, ?_, ?_⟩ <;> omega) | omega | skip) | ((with_reducible apply oq_load); exact rfl; exact rfl) | ((with_reducible apply oq_loadAgg); exact rfl; exact rfl) | ((with_reducible apply oq_call (k := 79) (hc := Try.call79)); exact rfl; exact rfl; exact fun D w1 hw1 => mcheckWind_calls a b c d h w1) | ((with_reducible apply oq_call (k := 26) (hc := Try.call26)); exact rfl; exact rfl; exact fun D w1 hw1 => HX w1) | ((with_reducible apply oq_call (k := 64) (hc := Try.call64)); exact rfl; exact rfl; exact fun D w1 hw1 => HR _ w1 (int_rows (l := [most]) rfl hw1 (by (repeat (first | exact P0 | apply P1))))) | ((with_reducible apply oq_call (k := 82) (hc := Try.call82)); exact rfl; exact rfl; exact fun D w1 hw1 => HC w1) | ((with_reducible apply oq_build); exact rfl; exact rfl; exact rfl) | ((with_reducible apply oq_buildA); exact rfl; exact rfl; exact rfl; exact rfl) | ((with_reducible apply oq_fieldAgg); exact rfl; exact rfl; exact rfl) | ((with_reducible apply oq_indexAgg); exact rfl; exact rfl; exact rfl; exact rfl))
      | ((with_reducible apply tl_id); first | ((with_reducible apply tl_nil)) | ((with_reducible apply u_q); exact rfl; exact rfl; exact rfl; exact rfl) | ((with_reducible apply u_s0); exact rfl; exact rfl) | ((with_reducible apply u_s); exact rfl; exact rfl; exact rfl) | ((with_reducible apply u_skip); exact rfl; exact rfl; exact rfl) | ((with_reducible apply u_splitD); exact rfl; exact rfl; all_goals first | (intro hp; try (exfalso; omega)) | skip) | ((with_reducible apply u_splitN); exact rfl; exact rfl; all_goals first | (intro hp; try (exfalso; omega)) | skip) | ((with_reducible apply u_split); exact rfl; exact rfl; all_goals first | intro hp | skip))
      | ((with_reducible apply gx_id); first | ((with_reducible apply v_nil)) | ((with_reducible apply v_q); exact rfl; exact rfl; exact rfl) | ((with_reducible apply v_skip); exact rfl; exact rfl; exact rfl) | ((with_reducible apply v_splitD); exact rfl; exact rfl; all_goals first | (intro hp; try (exfalso; omega)) | skip) | ((with_reducible apply v_splitN); exact rfl; exact rfl; all_goals first | (intro hp; try (exfalso; omega)) | skip) | ((with_reducible apply v_split); exact rfl; exact rfl; all_goals first | intro hp | skip))
      | ((with_reducible apply os_id); first | ((with_reducible apply os_x); exact rfl) | ((with_reducible apply os_store); exact rfl; exact rfl; exact rfl; exact rfl) | ((with_reducible apply os_storeAgg); exact rfl; exact rfl; exact rfl; exact rfl; exact rfl))
      | ((with_reducible apply ox_id); first | ((with_reducible apply ox_alloc); exact rfl; intro _) | ((with_reducible apply ox_box); exact rfl; exact rfl; intro _) | ((with_reducible apply ox_boxAgg); exact rfl; intro _) | ((with_reducible apply ox_buildSlice1); exact rfl; exact rfl; exact rfl; exact rfl; exact rfl; exact rfl; intro _) | ((with_reducible apply ox_buildSlice2); exact rfl; exact rfl; exact rfl; exact rfl; exact rfl; exact rfl; intro _) | ((with_reducible apply ox_buildSlice); exact rfl; exact rfl; exact rfl; exact rfl))
      | ((with_reducible apply rd_id); first | (apply Rd.own; (repeat (first | exact P0 | apply P1)); exact rfl; done) | (apply Rd.old; (first | (with_reducible assumption) | exact c0 | exact c1 | exact c2 | exact c3 | exact c4 | exact c5 | exact c6 | exact c7 | exact c8 | exact d0 | exact d1 | exact d2 | exact d3 | exact d4 | exact d5); first | exact List.not_mem_nil | exact m0 | exact m1 | exact m2 | exact m3 | exact m4 | exact m5 | exact m6 | exact m7 | exact m8 | exact m9))
      | ((with_reducible apply t_id); first | ((with_reducible apply t_seq)) | (apply t_region; kernel_rfl) | (apply t_drawn; kernel_rfl; decide +kernel; try simp only [List.append_eq, List.cons_append, List.nil_append]) | ((with_reducible apply t_condT); exact rfl) | ((with_reducible apply t_condF); exact rfl) | ((with_reducible apply t_condD); exact rfl; all_goals first | (intro hp; try (exfalso; omega)) | skip) | ((with_reducible apply t_condN); exact rfl; all_goals first | (intro hp; try (exfalso; omega)) | skip) | ((with_reducible apply t_cond); exact rfl; all_goals first | intro hp | skip) | ((with_reducible apply t_ret)) | ((with_reducible apply t_skip)) | ((with_reducible apply t_exit)) | ((with_reducible apply t_block)))
      | with_reducible apply q_thenN
      | with_reducible apply q_thenR
      | with_reducible apply q_blockR
      | with_reducible apply q_blockN
      | with_reducible apply q_thenE
      | ((with_reducible apply q_blockE); exact rfl)
      | ((with_reducible apply q_blockO); exact rfl)
      | exact P0
      | ((with_reducible apply P1))
      | exact Rdn.zero
      | apply Rdn.succ
      | ((with_reducible apply Norm.nil); exact rfl)
      | ((with_reducible apply Norm.cons); exact rfl)
      | ((with_reducible apply end_ret))
      | ((with_reducible apply end_normal))
      | exact rvs_nil
      | ((with_reducible apply rvs_cons))
      | ((with_reducible apply rv_tmp); exact rfl)
      | ((with_reducible apply rv_cell); exact rfl; exact rfl)
      | ((with_reducible apply rv_cellAgg); exact rfl; exact rfl)
      | exact Nat.le_of_ble_eq_true rfl
      | exact (rfl : (_ : Bool) = true)
      | omega
      | (intro _ _; with_reducible apply tl_id)
      | (intro _; with_reducible apply tl_id)
      | (intro _ _; with_reducible apply al_id)
      | (intro _; with_reducible apply al_id))
    all_goals rfl
  · have h1 : allFrom 0 2000 [most] = false := by
      cases hq : allFrom 0 2000 [most] with
      | false => rfl
      | true => simp [allFrom] at hq; omega
    rw [h1] at HR
    rw [if_neg hm, if_neg hm]
    refine enterQ (c := cx w 28) Try.func33 rfl rfl rfl rfl ?_
    repeat' (first
      | ((with_reducible apply oq_id); first | ((with_reducible apply oq_neqT); exact rfl; exact rfl; omega) | ((with_reducible apply oq_neqF); exact rfl; exact rfl; omega) | (apply oq_fn; exact rfl; first | exact trivial | (refine ⟨?_, ?_⟩ <;> omega) | (refine ⟨?_, ?_, ?_⟩ <;> omega) | omega | skip) | ((with_reducible apply oq_load); exact rfl; exact rfl) | ((with_reducible apply oq_loadAgg); exact rfl; exact rfl) | ((with_reducible apply oq_call (k := 79) (hc := Try.call79)); exact rfl; exact rfl; exact fun D w1 hw1 => mcheckWind_calls a b c d h w1) | ((with_reducible apply oq_call (k := 26) (hc := Try.call26)); exact rfl; exact rfl; exact fun D w1 hw1 => HX w1) | ((with_reducible apply oq_call (k := 64) (hc := Try.call64)); exact rfl; exact rfl; exact fun D w1 hw1 => HR _ w1 (int_rows (l := [most]) rfl hw1 (by (repeat (first | exact P0 | apply P1))))) | ((with_reducible apply oq_build); exact rfl; exact rfl; exact rfl) | ((with_reducible apply oq_buildA); exact rfl; exact rfl; exact rfl; exact rfl) | ((with_reducible apply oq_fieldAgg); exact rfl; exact rfl; exact rfl) | ((with_reducible apply oq_indexAgg); exact rfl; exact rfl; exact rfl; exact rfl))
      | ((with_reducible apply tl_id); first | ((with_reducible apply tl_nil)) | ((with_reducible apply u_q); exact rfl; exact rfl; exact rfl; exact rfl) | ((with_reducible apply u_s0); exact rfl; exact rfl) | ((with_reducible apply u_s); exact rfl; exact rfl; exact rfl) | ((with_reducible apply u_skip); exact rfl; exact rfl; exact rfl) | ((with_reducible apply u_splitD); exact rfl; exact rfl; all_goals first | (intro hp; try (exfalso; omega)) | skip) | ((with_reducible apply u_splitN); exact rfl; exact rfl; all_goals first | (intro hp; try (exfalso; omega)) | skip) | ((with_reducible apply u_split); exact rfl; exact rfl; all_goals first | intro hp | skip))
      | ((with_reducible apply gx_id); first | ((with_reducible apply v_nil)) | ((with_reducible apply v_q); exact rfl; exact rfl; exact rfl) | ((with_reducible apply v_skip); exact rfl; exact rfl; exact rfl) | ((with_reducible apply v_splitD); exact rfl; exact rfl; all_goals first | (intro hp; try (exfalso; omega)) | skip) | ((with_reducible apply v_splitN); exact rfl; exact rfl; all_goals first | (intro hp; try (exfalso; omega)) | skip) | ((with_reducible apply v_split); exact rfl; exact rfl; all_goals first | intro hp | skip))
      | ((with_reducible apply os_id); first | ((with_reducible apply os_x); exact rfl) | ((with_reducible apply os_store); exact rfl; exact rfl; exact rfl; exact rfl) | ((with_reducible apply os_storeAgg); exact rfl; exact rfl; exact rfl; exact rfl; exact rfl))
      | ((with_reducible apply ox_id); first | ((with_reducible apply ox_alloc); exact rfl; intro _) | ((with_reducible apply ox_box); exact rfl; exact rfl; intro _) | ((with_reducible apply ox_boxAgg); exact rfl; intro _) | ((with_reducible apply ox_buildSlice1); exact rfl; exact rfl; exact rfl; exact rfl; exact rfl; exact rfl; intro _) | ((with_reducible apply ox_buildSlice2); exact rfl; exact rfl; exact rfl; exact rfl; exact rfl; exact rfl; intro _) | ((with_reducible apply ox_buildSlice); exact rfl; exact rfl; exact rfl; exact rfl))
      | ((with_reducible apply rd_id); first | (apply Rd.own; (repeat (first | exact P0 | apply P1)); exact rfl; done) | (apply Rd.old; (first | (with_reducible assumption) | exact c0 | exact c1 | exact c2 | exact c3 | exact c4 | exact c5 | exact c6 | exact c7 | exact c8 | exact d0 | exact d1 | exact d2 | exact d3 | exact d4 | exact d5); first | exact List.not_mem_nil | exact m0 | exact m1 | exact m2 | exact m3 | exact m4 | exact m5 | exact m6 | exact m7 | exact m8 | exact m9))
      | ((with_reducible apply t_id); first | ((with_reducible apply t_seq)) | (apply t_region; kernel_rfl) | (apply t_drawn; kernel_rfl; decide +kernel; try simp only [List.append_eq, List.cons_append, List.nil_append]) | ((with_reducible apply t_condT); exact rfl) | ((with_reducible apply t_condF); exact rfl) | ((with_reducible apply t_condD); exact rfl; all_goals first | (intro hp; try (exfalso; omega)) | skip) | ((with_reducible apply t_condN); exact rfl; all_goals first | (intro hp; try (exfalso; omega)) | skip) | ((with_reducible apply t_cond); exact rfl; all_goals first | intro hp | skip) | ((with_reducible apply t_ret)) | ((with_reducible apply t_skip)) | ((with_reducible apply t_exit)) | ((with_reducible apply t_block)))
      | with_reducible apply q_thenN
      | with_reducible apply q_thenR
      | with_reducible apply q_blockR
      | with_reducible apply q_blockN
      | with_reducible apply q_thenE
      | ((with_reducible apply q_blockE); exact rfl)
      | ((with_reducible apply q_blockO); exact rfl)
      | exact P0
      | ((with_reducible apply P1))
      | exact Rdn.zero
      | apply Rdn.succ
      | ((with_reducible apply Norm.nil); exact rfl)
      | ((with_reducible apply Norm.cons); exact rfl)
      | ((with_reducible apply end_ret))
      | ((with_reducible apply end_normal))
      | exact rvs_nil
      | ((with_reducible apply rvs_cons))
      | ((with_reducible apply rv_tmp); exact rfl)
      | ((with_reducible apply rv_cell); exact rfl; exact rfl)
      | ((with_reducible apply rv_cellAgg); exact rfl; exact rfl)
      | exact Nat.le_of_ble_eq_true rfl
      | exact (rfl : (_ : Bool) = true)
      | omega
      | (intro _ _; with_reducible apply tl_id)
      | (intro _; with_reducible apply tl_id)
      | (intro _ _; with_reducible apply al_id)
      | (intro _; with_reducible apply al_id))
    all_goals rfl
end Go.Proofs.Ytcjkndjjbjoehaa
namespace Go.Proofs.Ytcjkndjjbjoehaa
/-- A level: its height, pressure and temperature. -/
structure Lv where
  h : Int
  plo : Int
  phi : Int
  tlo : Int
  thi : Int
def Lv.press (x : Lv) : Int × Int := (x.plo, x.phi)
def Lv.temp (x : Lv) : Int × Int := (x.tlo, x.thi)
def Lv.put (x : Lv) (s : Int × Int) : Lv := ⟨x.h, s.1, s.2, x.tlo, x.thi⟩
theorem all_range_no {n k : Nat} {p : Nat → Bool} (hk : k < n) (h : p k = false) : (List.range n).all p = false := by
  rw [Bool.eq_false_iff, Ne, List.all_eq_true]
  intro h2
  have := h2 k (List.mem_range.2 hk)
  rw [h] at this
  cases this
theorem all_range_yes {n : Nat} {p : Nat → Bool} (h : ∀ k, k < n → p k = true) : (List.range n).all p = true :=
  List.all_eq_true.2 fun k hk => h k (List.mem_range.1 hk)
structure Gl where
  h : Int
  xlo : Int
  xhi : Int
  ylo : Int
  yhi : Int
  gust : Int
def glCells (x : Gl) : List Value := [.int .i64 x.h, .int .i64 x.xlo, .int .i64 x.xhi, .int .i64 x.ylo, .int .i64 x.yhi, .int .i64 x.gust]
theorem gl_read {w : World} {A : Option Addr} {n : Nat} {l : List Gl} (h : RdS w 6 A n (l.map glCells)) {i : Nat} (hi : i < n) :
    ∃ b o x, A = some ⟨b, o, none⟩ ∧ b < w.heap.size ∧ l[i]? = some x ∧ w.cell? ⟨b, o + i * 6, none⟩ = some (.int .i64 x.h) ∧ w.cell? ⟨b, o + i * 6 + 1, none⟩ = some (.int .i64 x.xlo) ∧ w.cell? ⟨b, o + i * 6 + 2, none⟩ = some (.int .i64 x.xhi) ∧
      w.cell? ⟨b, o + i * 6 + 3, none⟩ = some (.int .i64 x.ylo) ∧ w.cell? ⟨b, o + i * 6 + 4, none⟩ = some (.int .i64 x.yhi) ∧ w.cell? ⟨b, o + i * 6 + 5, none⟩ = some (.int .i64 x.gust) := by
  obtain ⟨b, o, cs, hA, hb, hx, _, hc⟩ := h.row hi
  simp only [List.getElem?_map, Option.map_eq_some_iff] at hx
  obtain ⟨x, hx, rfl⟩ := hx
  exact ⟨b, o, x, hA, hb, hx, hc 0 _ rfl, hc 1 _ rfl, hc 2 _ rfl, hc 3 _ rfl, hc 4 _ rfl, hc 5 _ rfl⟩
/-- A gale, and the one below it. -/
def galeOk (x : Gl) (y : Option Gl) : Bool :=
  decide (-500 ≤ x.h ∧ x.h ≤ 9000) && ((match y with | some y => decide (y.h < x.h) | none => true) && (decide (0 ≤ x.gust ∧ x.gust ≤ 500) && (decide (x.xlo ≤ x.xhi ∧ -1000 ≤ x.xlo ∧ x.xhi ≤ 1000) && decide (x.ylo ≤ x.yhi ∧ -1000 ≤ x.ylo ∧ x.yhi ≤ 1000))))
def prevG (l : List Gl) : Nat → Option Gl | 0 => none | j + 1 => l[j]?
def galeAt (l : List Gl) (i : Nat) : Bool := match l[i]? with | some x => galeOk x (prevG l i) | none => true
def windB (l : List Gl) : Bool := decide (1 ≤ (l.length : Int) ∧ (l.length : Int) ≤ 16) && (List.range l.length).all (galeAt l)
theorem galeAt_eq {l : List Gl} {i : Nat} {x : Gl} (h : l[i]? = some x) : galeAt l i = galeOk x (prevG l i) := by unfold galeAt; rw [h]
theorem windB_no {l : List Gl} {k n : Nat} (hl : l.length = n) (hk : k < n) (h : galeAt l k = false) : windB l = false := by
  unfold windB
  rw [all_range_no (by simpa [hl] using hk) h, Bool.and_false]
theorem windB_short {l : List Gl} {n : Nat} (hl : l.length = n) (h : decide (1 ≤ (n : Int) ∧ (n : Int) ≤ 16) = false) : windB l = false := by
  unfold windB
  rw [hl, h, Bool.false_and]
theorem windB_yes {l : List Gl} {n : Nat} (hl : l.length = n) (h1 : decide (1 ≤ (n : Int) ∧ (n : Int) ≤ 16) = true) (h : ∀ j, j < n → galeAt l j = true) : windB l = true := by
  unfold windB
  rw [hl, h1, all_range_yes h, Bool.and_true]
/-- Valid winds. -/
structure Wnd (l : List Gl) : Prop where
  n1 : 1 ≤ l.length
  n16 : l.length ≤ 16
  ok : ∀ x ∈ l, -500 ≤ x.h ∧ x.h ≤ 9000 ∧ 0 ≤ x.gust ∧ x.gust ≤ 500 ∧ x.xlo ≤ x.xhi ∧ -1000 ≤ x.xlo ∧ x.xhi ≤ 1000 ∧ x.ylo ≤ x.yhi ∧ -1000 ≤ x.ylo ∧ x.yhi ≤ 1000
  rise : ∀ {i : Nat} {x y : Gl}, l[i]? = some x → l[i + 1]? = some y → x.h < y.h
theorem windB_iff (l : List Gl) : windB l = true ↔ Wnd l := by
  unfold windB
  simp only [Bool.and_eq_true, List.all_eq_true, List.mem_range, decide_eq_true_eq]
  constructor
  · rintro ⟨h1, h2⟩
    refine ⟨by omega, by omega, fun x hx => ?_, fun {i x y} hx hy => ?_⟩
    · obtain ⟨i, hi, rfl⟩ := List.getElem_of_mem hx
      have h3 := h2 i hi
      rw [galeAt_eq (List.getElem?_eq_getElem hi)] at h3
      unfold galeOk at h3
      simp only [Bool.and_eq_true, decide_eq_true_eq] at h3
      omega
    · have h3 := h2 (i + 1) (List.getElem?_eq_some_iff.1 hy).1
      rw [galeAt_eq hy, show prevG l (i + 1) = some x from hx] at h3
      unfold galeOk at h3
      simp only [Bool.and_eq_true, decide_eq_true_eq] at h3
      omega
  · rintro ⟨h1, h2, h3, h4⟩
    refine ⟨by omega, fun i hi => ?_⟩
    have hx : l[i]? = some l[i] := List.getElem?_eq_getElem hi
    have hb := h3 _ (List.mem_of_getElem? hx)
    rw [galeAt_eq hx]
    cases i with
    | zero =>
      unfold galeOk prevG
      simp only [Bool.and_eq_true, decide_eq_true_eq, true_and]; omega
    | succ j =>
      have hy : l[j]? = some l[j] := List.getElem?_eq_getElem (by omega)
      have := h4 hy hx
      rw [show prevG l (j + 1) = some l[j] from hy]
      unfold galeOk
      simp only [Bool.and_eq_true, decide_eq_true_eq]; omega
/-- A place of a table, and the span of its values. -/
structure Kn where
  x : Int
  lo : Int
  hi : Int
/-- The values at a place of the line from a knot to the next one. -/
def lineV (a b : Kn) (x : Int) : Int × Int := (a.lo + (x - a.x) * (b.lo - a.lo) / (b.x - a.x), a.hi - (x - a.x) * (a.hi - b.hi) / (b.x - a.x))
def atV : List Kn → Int → Int × Int
  | a :: b :: r, x => if x ≤ b.x ∨ r = [] then lineV a b x else atV (b :: r) x
  | _, _ => (0, 0)
inductive Incr : List Kn → Prop
  | nil : Incr []
  | one (a : Kn) : Incr [a]
  | cons {a b : Kn} {l : List Kn} (h : a.x < b.x) (k : Incr (b :: l)) : Incr (a :: b :: l)
theorem lineV_end {a b : Kn} (h : a.x < b.x) : lineV a b b.x = (b.lo, b.hi) := by
  unfold lineV
  have : b.x - a.x ≠ 0 := by omega
  rw [Int.mul_ediv_cancel_left _ this, Int.mul_ediv_cancel_left _ this]
  simp; omega
theorem lineV_start {a b : Kn} : lineV a b a.x = (a.lo, a.hi) := by
  unfold lineV
  simp
theorem Incr.at_ : ∀ {l : List Kn}, Incr l → ∀ {i j : Nat} {a b : Kn}, i < j → l[i]? = some a → l[j]? = some b → a.x < b.x
  | _, .nil, i, j, a, b, _, h, _ => by simp at h
  | _, .one _, i, j, a, b, hij, _, h => by
    have := (List.getElem?_eq_some_iff.1 h).1
    simp at this; omega
  | _, .cons (a := u) (b := v) (l := l) h k, i, j, a, b, hij, ha, hb => by
    cases j with
    | zero => omega
    | succ j =>
      rw [List.getElem?_cons_succ] at hb
      cases i with
      | zero =>
        obtain rfl : u = a := by simpa using ha
        cases j with
        | zero =>
          obtain rfl : v = b := by simpa using hb
          exact h
        | succ j =>
          have := Incr.at_ k (i := 0) (j := j + 1) (by omega) rfl hb
          omega
      | succ i =>
        rw [List.getElem?_cons_succ] at ha
        exact Incr.at_ k (by omega) ha hb
/-- The values at a place, by any segment that it lies in. -/
theorem atV_seg : ∀ {l : List Kn}, Incr l → ∀ {i : Nat} {a b : Kn} {x : Int}, l[i]? = some a → l[i + 1]? = some b → (i = 0 ∨ a.x ≤ x) → (i + 2 = l.length ∨ x ≤ b.x) → atV l x = lineV a b x
  | _, .nil, i, a, b, x, h, _, _, _ => by simp at h
  | _, .one _, i, a, b, x, _, h, _, _ => by
    have := (List.getElem?_eq_some_iff.1 h).1
    simp at this
  | _, .cons (a := u) (b := v) (l := l) h k, i, a, b, x, ha, hb, h0, h1 => by
    cases i with
    | zero =>
      obtain rfl : u = a := by simpa using ha
      obtain rfl : v = b := by simpa using hb
      have : x ≤ v.x ∨ l = [] := by
        rcases h1 with h1 | h1
        · right; simp at h1; exact h1
        · exact .inl h1
      unfold atV
      rw [if_pos this]
    | succ i =>
      rw [List.getElem?_cons_succ] at ha hb
      have hax : a.x ≤ x := by rcases h0 with h0 | h0; omega; exact h0
      by_cases hl : l = []
      · subst hl
        have := (List.getElem?_eq_some_iff.1 hb).1
        simp at this
      · by_cases hx : x ≤ v.x
        · have hi : i = 0 := by
            cases i with
            | zero => rfl
            | succ i =>
              have := Incr.at_ k (i := 0) (j := i + 1) (by omega) rfl ha
              omega
          subst hi
          obtain rfl : v = a := by simpa using ha
          have : x = v.x := by omega
          unfold atV
          rw [if_pos (.inl hx), this, lineV_end h, lineV_start]
        · unfold atV
          rw [if_neg (by rintro (h | h); exact hx h; exact hl h)]
          exact atV_seg k ha hb (.inr hax) (by simpa using h1)
def Kn.val (k : Kn) : Int × Int := (k.lo, k.hi)
def kIn (p q : Int) (k : Kn) : Bool := decide (p < k.x) && decide (k.x < q)
/-- The least span of a table's values from p to q. -/
def valV (t : List Kn) (p q : Int) : Int × Int := hullA (hullS (atV t p) (atV t q)) ((t.filter (kIn p q)).map Kn.val)
/-- a holds b. -/
def SIn (b a : Int × Int) : Prop := a.1 ≤ b.1 ∧ b.2 ≤ a.2
theorem SIn.refl (a : Int × Int) : SIn a a := ⟨Int.le_refl _, Int.le_refl _⟩
theorem SIn.trans {a b c : Int × Int} (h : SIn a b) (k : SIn b c) : SIn a c := ⟨Int.le_trans k.1 h.1, Int.le_trans h.2 k.2⟩
theorem hullS_left (a b : Int × Int) : SIn a (hullS a b) := by unfold SIn hullS; simp only; omega
theorem hullS_right (a b : Int × Int) : SIn b (hullS a b) := by unfold SIn hullS; simp only; omega
theorem hullS_least {a b c : Int × Int} (h : SIn a c) (k : SIn b c) : SIn (hullS a b) c := by unfold SIn hullS at *; simp only; omega
theorem hullA_mono {s : Int × Int} : ∀ {l : List (Int × Int)}, SIn s (hullA s l)
  | [] => SIn.refl s
  | x :: l => (hullS_left s x).trans (hullA_mono (s := hullS s x) (l := l))
theorem hullA_mem {s : Int × Int} : ∀ {l : List (Int × Int)} {x : Int × Int}, x ∈ l → SIn x (hullA s l)
  | y :: l, x, h => by
    rcases List.mem_cons.1 h with rfl | h
    · exact (hullS_right s x).trans (hullA_mono (s := hullS s x) (l := l))
    · exact hullA_mem (s := hullS s y) (l := l) h
theorem hullA_least {c : Int × Int} : ∀ {l : List (Int × Int)} {s : Int × Int}, SIn s c → (∀ x ∈ l, SIn x c) → SIn (hullA s l) c
  | [], s, h, _ => h
  | x :: l, s, h, k => hullA_least (l := l) (hullS_least h (k x (List.mem_cons_self ..))) (fun y hy => k y (List.mem_cons_of_mem _ hy))
def knCells (k : Kn) : List Value := [.int .i64 k.x, .int .i64 k.lo, .int .i64 k.hi]
structure TabOk (t : List Kn) : Prop where
  l2 : 2 ≤ t.length
  l32 : t.length ≤ 32
  inc : Incr t
  ok : ∀ k ∈ t, -100000 ≤ k.x ∧ k.x ≤ 100000 ∧ -100000 ≤ k.lo ∧ k.lo ≤ k.hi ∧ k.hi ≤ 100000
theorem TabOk.at_ {t : List Kn} (h : TabOk t) {i : Nat} {k : Kn} (hk : t[i]? = some k) : -100000 ≤ k.x ∧ k.x ≤ 100000 ∧ -100000 ≤ k.lo ∧ k.lo ≤ k.hi ∧ k.hi ≤ 100000 := h.ok k (List.mem_of_getElem? hk)
theorem kn_read {w : World} {A : Option Addr} {n : Nat} {t : List Kn} (h : RdS w 3 A n (t.map knCells)) {i : Nat} (hi : i < n) :
    ∃ b o k, A = some ⟨b, o, none⟩ ∧ b < w.heap.size ∧ t[i]? = some k ∧ w.cell? ⟨b, o + i * 3, none⟩ = some (.int .i64 k.x) ∧ w.cell? ⟨b, o + i * 3 + 1, none⟩ = some (.int .i64 k.lo) ∧ w.cell? ⟨b, o + i * 3 + 2, none⟩ = some (.int .i64 k.hi) := by
  obtain ⟨b, o, cs, hA, hb, hx, _, hc⟩ := h.row hi
  simp only [List.getElem?_map, Option.map_eq_some_iff] at hx
  obtain ⟨x, hx, rfl⟩ := hx
  exact ⟨b, o, x, hA, hb, hx, hc 0 _ rfl, hc 1 _ rfl, hc 2 _ rfl⟩
/-- Where a property that stays begins. -/
theorem mono_cut {p : Nat → Bool} (n : Nat) (hm : ∀ i j, i ≤ j → j < n → p i = true → p j = true) : ∃ r, r ≤ n ∧ (∀ j, j < r → p j = false) ∧ ∀ j, r ≤ j → j < n → p j = true := by
  induction n with
  | zero => exact ⟨0, by omega, fun j hj => by omega, fun j _ hj => by omega⟩
  | succ n ih =>
    obtain ⟨r, h1, h2, h3⟩ := ih (fun i j hij hj => hm i j hij (by omega))
    by_cases hr : r < n
    · exact ⟨r, by omega, h2, fun j hj hj2 => by
        rcases Nat.lt_or_ge j n with h | h
        · exact h3 j hj h
        · exact hm r j hj hj2 (h3 r (Nat.le_refl _) hr)⟩
    · cases hp : p n with
      | true => exact ⟨n, by omega, fun j hj => h2 j (by omega), fun j hj hj2 => by rw [show j = n by omega]; exact hp⟩
      | false => exact ⟨n + 1, by omega, fun j hj => by
          rcases Nat.lt_or_ge j r with h | h
          · exact h2 j h
          · rw [show j = n by omega]; exact hp, fun j hj hj2 => by omega⟩
theorem div_uniq {a b k : Int} (hb : 0 < b) (h1 : k * b ≤ a) (h2 : a < (k + 1) * b) : a / b = k :=
  Int.le_antisymm (Int.lt_add_one_iff.1 (Int.ediv_lt_of_lt_mul hb h2)) (Int.le_ediv_of_mul_le hb h1)
/-- Rounded towards 0, and put right: rounded down. -/
theorem down_eq {a b : Int} (hb : 0 < b) : (a < a.tdiv b * b → a / b = a.tdiv b - 1) ∧ (¬ a < a.tdiv b * b → a / b = a.tdiv b) := by
  rcases Int.le_total 0 a with h | h
  · have e := Int.tdiv_eq_ediv_of_nonneg (b := b) h
    have := Int.ediv_mul_le a (Int.ne_of_gt hb)
    rw [e]
    exact ⟨fun h => by omega, fun _ => rfl⟩
  · have e : a.tdiv b = -((-a) / b) := by rw [← Int.tdiv_eq_ediv_of_nonneg (by omega), Int.neg_tdiv, Int.neg_neg]
    have h1 := Int.ediv_mul_le (-a) (Int.ne_of_gt hb)
    have h2 := Int.lt_ediv_add_one_mul_self (-a) hb
    generalize hm : (-a) / b = m at *
    rw [e]
    have e2 : -m * b = -(m * b) := Int.neg_mul ..
    rw [Int.add_mul, Int.one_mul] at h2
    refine ⟨fun h => div_uniq hb ?_ ?_, fun h => div_uniq hb ?_ ?_⟩
    · rw [Int.sub_mul, Int.one_mul]; omega
    · rw [show -m - 1 + 1 = -m by omega]; omega
    · omega
    · rw [Int.add_mul, Int.one_mul]; omega
theorem tdiv_abs {a b m : Int} (hb : 0 < b) (h : -m ≤ a ∧ a ≤ m) : -m ≤ a.tdiv b ∧ a.tdiv b ≤ m := by
  rcases Int.le_total 0 a with h0 | h0
  · rw [Int.tdiv_eq_ediv_of_nonneg h0]
    have := Int.ediv_le_self b h0
    have := Int.ediv_nonneg h0 (Int.le_of_lt hb)
    omega
  · have e : a.tdiv b = -((-a) / b) := by rw [← Int.tdiv_eq_ediv_of_nonneg (by omega), Int.neg_tdiv, Int.neg_neg]
    have := Int.ediv_le_self b (show 0 ≤ -a by omega)
    have := Int.ediv_nonneg (show 0 ≤ -a by omega) (Int.le_of_lt hb)
    rw [e]; omega
theorem ediv_abs {a b m : Int} (hb : 0 < b) (h : -m ≤ a ∧ a ≤ m) : -m - 1 ≤ a / b ∧ a / b ≤ m := by
  have := tdiv_abs hb h
  have k := down_eq (a := a) hb
  by_cases hh : a < a.tdiv b * b
  · rw [k.1 hh]; omega
  · rw [k.2 hh]; omega
def accV (t : List Kn) (p q : Int) (k : Nat) : Int × Int := hullA (hullS (atV t p) (atV t q)) (((t.take k).filter (kIn p q)).map Kn.val)
theorem accV_all {t : List Kn} {p q : Int} {k : Nat} (h : t.length ≤ k) : accV t p q k = valV t p q := by unfold accV valV; rw [List.take_of_length_le h]
theorem accV_yes {t : List Kn} {p q : Int} {k : Nat} {x : Kn} (h : t[k]? = some x) (h1 : p < x.x) (h2 : x.x < q) : accV t p q (k + 1) = hullS (accV t p q k) x.val := by
  unfold accV hullA
  rw [List.take_add_one, h, List.filter_append, List.map_append, List.foldl_append]
  simp [kIn, h1, h2]
theorem accV_no {t : List Kn} {p q : Int} {k : Nat} {x : Kn} (h : t[k]? = some x) (h1 : ¬ (p < x.x ∧ x.x < q)) : accV t p q (k + 1) = accV t p q k := by
  unfold accV hullA
  rw [List.take_add_one, h, List.filter_append, List.map_append, List.foldl_append]
  have : kIn p q x = false := by simp [kIn]; omega
  simp [this]
/-- What a pressure may be so many metres higher, in a temperature. -/
def riseV (p : Int × Int) (climb : Int) (t : Int × Int) : Int × Int :=
  (p.1 * (1000000 * t.1 - 341632 * climb) / (1000000 * t.1), (p.2 * (1000000 * t.2) + (1000000 * t.2) + 341632 * climb - 1) / (1000000 * t.2 + 341632 * climb))
/-- And so many lower. -/
def sinkV (p : Int × Int) (climb : Int) (t : Int × Int) : Int × Int :=
  (p.1 * (1000000 * t.2 + 341632 * climb) / (1000000 * t.2), (p.2 * (1000000 * t.1) + (1000000 * t.1) - 341632 * climb - 1) / (1000000 * t.1 - 341632 * climb))
/-- What climbs and temperatures there are. -/
structure GapOk (climb : Int) (t : Int × Int) : Prop where
  c0 : 0 ≤ climb
  c1 : climb ≤ 2000
  t0 : 1500 ≤ t.1
  t1 : t.1 ≤ t.2
  t2 : t.2 ≤ 3500
theorem ediv_mono {a b d : Int} (hd : 0 < d) (h : a ≤ b) : a / d ≤ b / d := Int.ediv_le_ediv hd h
def gapT (a b : Lv) : Int × Int := hullS a.temp b.temp
/-- What a level says of the next one, and the next one of it. -/
def upI (a b : Lv) : Int × Int := riseV a.press (b.h - a.h) (gapT a b)
def dnI (a b : Lv) : Int × Int := sinkV b.press (b.h - a.h) (gapT a b)
/-- The same levels, but tighter pressures. -/
inductive Tt : List Lv → List Lv → Prop
  | nil : Tt [] []
  | cons {y x : Lv} {m l : List Lv} (h : y.h = x.h ∧ y.tlo = x.tlo ∧ y.thi = x.thi ∧ SIn y.press x.press) (k : Tt m l) : Tt (y :: m) (x :: l)
theorem Tt.refl : ∀ (l : List Lv), Tt l l
  | [] => .nil
  | _ :: l => .cons ⟨rfl, rfl, rfl, .refl _⟩ (Tt.refl l)
theorem Tt.len {l m : List Lv} (h : Tt m l) : m.length = l.length := by
  induction h with
  | nil => rfl
  | cons _ _ ih => simp [ih]
theorem Tt.trans {l m n : List Lv} (h : Tt n m) (k : Tt m l) : Tt n l := by
  induction h generalizing l with
  | nil => exact k
  | cons h _ ih =>
    cases k with
    | cons h' k' => exact .cons ⟨h.1.trans h'.1, h.2.1.trans h'.2.1, h.2.2.1.trans h'.2.2.1, h.2.2.2.trans h'.2.2.2⟩ (ih k')
theorem Tt.set {l m : List Lv} (h : Tt m l) {i : Nat} {y x : Lv} (hx : l[i]? = some x) (hy : y.h = x.h ∧ y.tlo = x.tlo ∧ y.thi = x.thi ∧ SIn y.press x.press) : Tt (m.set i y) l := by
  induction h generalizing i with
  | nil => simp at hx
  | cons h k ih =>
    cases i with
    | zero =>
      simp at hx
      subst hx
      exact .cons hy k
    | succ i => exact .cons h (ih (by simpa using hx))
/-- A valid list: what is between neighbours, and no pressure below 0. -/
inductive Ch : List Lv → Prop
  | nil : Ch []
  | one {a : Lv} (h : 0 ≤ a.plo ∧ 0 ≤ a.phi) : Ch [a]
  | cons {a b : Lv} {l : List Lv} (h : 0 ≤ a.plo ∧ 0 ≤ a.phi) (g : GapOk (b.h - a.h) (gapT a b)) (k : Ch (b :: l)) : Ch (a :: b :: l)
theorem Ch.head {a : Lv} {l : List Lv} (h : Ch (a :: l)) : 0 ≤ a.plo ∧ 0 ≤ a.phi := by cases h <;> assumption
/-- Neighbours have nothing new to say. -/
inductive Fix : List Lv → Prop
  | nil : Fix []
  | one (a : Lv) : Fix [a]
  | cons {a b : Lv} {l : List Lv} (h : SIn b.press (upI a b)) (h' : SIn a.press (dnI a b)) (k : Fix (b :: l)) : Fix (a :: b :: l)
inductive FixU : List Lv → Prop
  | nil : FixU []
  | one (a : Lv) : FixU [a]
  | cons {a b : Lv} {l : List Lv} (h : SIn b.press (upI a b)) (k : FixU (b :: l)) : FixU (a :: b :: l)
theorem upI_eq {a b a' b' : Lv} (h1 : a'.h = a.h) (h2 : a'.tlo = a.tlo) (h3 : a'.thi = a.thi) (k1 : b'.h = b.h) (k2 : b'.tlo = b.tlo) (k3 : b'.thi = b.thi) : gapT a' b' = gapT a b ∧ b'.h - a'.h = b.h - a.h := by
  unfold gapT Lv.temp
  rw [h1, h2, h3, k1, k2, k3]
  exact ⟨rfl, rfl⟩
theorem Ch.put {x x' : Lv} {l : List Lv} (h : Ch (x :: l)) (h1 : x'.h = x.h) (h2 : x'.tlo = x.tlo) (h3 : x'.thi = x.thi) (hp : 0 ≤ x'.plo ∧ 0 ≤ x'.phi) : Ch (x' :: l) := by
  cases h with
  | one _ => exact .one hp
  | cons h g k =>
    rename_i b l
    have e := upI_eq (b' := b) (b := b) h1 h2 h3 rfl rfl rfl
    exact .cons hp (by rw [e.1, e.2]; exact g) k
theorem Ch.pos {l : List Lv} (h : Ch l) {a : Lv} (ha : a ∈ l) : 0 ≤ a.plo ∧ 0 ≤ a.phi := by
  induction h with
  | nil => cases ha
  | one h =>
    obtain rfl : a = _ := by simpa using ha
    exact h
  | cons h _ _ ih =>
    rcases List.mem_cons.1 ha with rfl | ha
    · exact h
    · exact ih ha
end Go.Proofs.Ytcjkndjjbjoehaa
namespace Go.Proofs.Ytcjkndjjbjoehaa
open Go.RowKit
attribute [local irreducible] OQ OS OX Rd T TL GX GL AL AI RV wpG SAny Calls
/-- A search by halving: where a property begins. -/
theorem search_calls (f : Nat) (caps : List Value) (n r : Nat) (p : Nat → Bool) (hn : n ≤ 1000000000) (hr : r ≤ n) (h1 : ∀ j, j < r → p j = false) (h2 : ∀ j, r ≤ j → j < n → p j = true) (w : World) (hc : ∀ (a : Array Value) (w : World), (callFunc f a).run Try.prog w = .ok (.enter f a) w)
    (hf : ∀ j, j < n → ∀ w1, Ext w w1 → Calls Try.prog f ⟨.int .i64 (j : Int) :: caps⟩ w1 fun e w' => e = .returned (.bool (p j)) ∧ Ext w1 w') :
    Calls Try.prog 66 #[.int .i64 (n : Int), .func (.func f) #[] ⟨caps⟩] w fun e w' => e = .returned (.int .i64 (r : Int)) ∧ Ext w w' := by
  refine enterQ (c := cx w 26) Try.func66 rfl rfl rfl rfl ?_
  repeat' (first | ((with_reducible apply oq_id); first | (apply oq_fn; exact rfl; first | exact trivial | (refine ⟨?_, ?_⟩ <;> omega) | (refine ⟨?_, ?_, ?_⟩ <;> omega) | omega | skip)) | ((with_reducible apply tl_id); first | ((with_reducible apply tl_nil)) | ((with_reducible apply u_q); exact rfl; exact rfl; exact rfl; exact rfl)) | ((with_reducible apply t_id); first | ((with_reducible apply t_seq)) | (apply t_region; kernel_rfl) | ((with_reducible apply t_block))) | with_reducible apply q_thenN)
  apply t_loopK (ι := (Nat × Nat)) [1, 4, 25] (fun (i : Nat × Nat) => [(5, .int .i64 (i.1 : Int)), (6, .int .i64 (i.2 : Int))]) (fun _ => []) (fun i => i.1 ≤ r ∧ r ≤ i.2 ∧ i.2 ≤ n) (fun i => i.2 - i.1) ((0, n))
  (repeat (first | exact KeepF.nil | (apply KeepF.cons; exact rfl) | apply KeepF.skip))
  (repeat (first | exact FrSub.nil | (apply FrSub.cons; exact rfl)))
  (repeat (first | exact HpSub.refl _ | (apply HpSub.consE; (repeat (first | exact P0 | apply P1)); exact rfl) | exact HpSub.nil))
  · simp only; omega
  rintro ⟨i, j⟩ ⟨i0, i1, i2⟩
  simp only at i0 i1 i2
  dsimp only
  by_cases hij : i < j
  · have hm : (i + j) / 2 < n := by omega
    cases hp : p ((i + j) / 2) with
    | false =>
      have hf' := hf ((i + j) / 2) hm
      rw [hp] at hf'
      have hlt : (i + j) / 2 < r := by
        rcases Nat.lt_or_ge ((i + j) / 2) r with h | h
        · exact h
        · rw [h2 _ h hm] at hp; cases hp
      repeat' (first | ((with_reducible apply oq_id); first | (apply oq_fn; exact rfl; first | exact trivial | (refine ⟨?_, ?_⟩ <;> omega) | (refine ⟨?_, ?_, ?_⟩ <;> omega) | omega | skip) | (focus ((with_reducible apply oq_shr1N (a := i + j)); exact rfl; exact rfl; omega)) | (focus ((with_reducible apply oq_convU); exact rfl; exact rfl; exact rfl; (refine ⟨?_, ?_⟩ <;> omega))) | ((with_reducible apply oq_call (k := f) (hc := hc)); exact rfl; exact rfl; exact fun D w1 hw1 => hf' w1 hw1.ext.ext)) | ((with_reducible apply tl_id); first | ((with_reducible apply tl_nil)) | ((with_reducible apply u_q); exact rfl; exact rfl; exact rfl; exact rfl)) | ((with_reducible apply t_id); first | ((with_reducible apply t_seq)) | (apply t_region; kernel_rfl) | ((with_reducible apply t_condT); exact rfl) | ((with_reducible apply t_condD); exact rfl; all_goals first | (intro hp; try (exfalso; omega)) | skip) | ((with_reducible apply t_skip)) | ((with_reducible apply t_block))) | with_reducible apply q_thenN | with_reducible apply q_blockN)
      refine ⟨((i + j) / 2 + 1, j), ⟨by simp only; omega, i1, i2⟩, by simp only; omega, ?_, ?_⟩ <;> (repeat' (first | exact FrSub.nil | (apply FrSub.cons; exact rfl) | exact HpSub.refl _))
    | true =>
      have hf' := hf ((i + j) / 2) hm
      rw [hp] at hf'
      have hge : r ≤ (i + j) / 2 := by
        rcases Nat.lt_or_ge ((i + j) / 2) r with h | h
        · rw [h1 _ h] at hp; cases hp
        · exact h
      repeat' (first | ((with_reducible apply oq_id); first | (apply oq_fn; exact rfl; first | exact trivial | (refine ⟨?_, ?_⟩ <;> omega) | (refine ⟨?_, ?_, ?_⟩ <;> omega) | omega | skip) | (focus ((with_reducible apply oq_shr1N (a := i + j)); exact rfl; exact rfl; omega)) | (focus ((with_reducible apply oq_convU); exact rfl; exact rfl; exact rfl; (refine ⟨?_, ?_⟩ <;> omega))) | ((with_reducible apply oq_call (k := f) (hc := hc)); exact rfl; exact rfl; exact fun D w1 hw1 => hf' w1 hw1.ext.ext)) | ((with_reducible apply tl_id); first | ((with_reducible apply tl_nil)) | ((with_reducible apply u_q); exact rfl; exact rfl; exact rfl; exact rfl)) | ((with_reducible apply t_id); first | ((with_reducible apply t_seq)) | (apply t_region; kernel_rfl) | ((with_reducible apply t_condF); exact rfl) | ((with_reducible apply t_condD); exact rfl; all_goals first | (intro hp; try (exfalso; omega)) | skip) | ((with_reducible apply t_skip)) | ((with_reducible apply t_block))) | with_reducible apply q_thenN | with_reducible apply q_blockN)
      refine ⟨(i, (i + j) / 2), ⟨i0, hge, by simp only; omega⟩, by simp only; omega, ?_, ?_⟩ <;> (repeat' (first | exact FrSub.nil | (apply FrSub.cons; exact rfl) | exact HpSub.refl _))
  · obtain rfl : i = j := by omega
    obtain rfl : i = r := by omega
    repeat' (first | ((with_reducible apply oq_id); first | (apply oq_fn; exact rfl; first | exact trivial | (refine ⟨?_, ?_⟩ <;> omega) | (refine ⟨?_, ?_, ?_⟩ <;> omega) | omega | skip)) | ((with_reducible apply tl_id); first | ((with_reducible apply tl_nil)) | ((with_reducible apply u_q); exact rfl; exact rfl; exact rfl; exact rfl)) | ((with_reducible apply t_id); first | ((with_reducible apply t_seq)) | (apply t_region; kernel_rfl) | ((with_reducible apply t_condD); exact rfl; all_goals first | (intro hp; try (exfalso; omega)) | skip) | ((with_reducible apply t_ret)) | ((with_reducible apply t_exit))) | with_reducible apply q_thenN | with_reducible apply q_thenE | ((with_reducible apply q_blockE); exact rfl) | ((with_reducible apply end_ret)) | exact rvs_nil | ((with_reducible apply rvs_cons)) | ((with_reducible apply rv_tmp); exact rfl))
    rfl
theorem at1_calls (A : Option Addr) (n c : Nat) (t : List Kn) (x : Int) (b2 b3 : Nat) (j : Nat) (hj : j < n) (k : Kn) (hk : t[j]? = some k) (w : World) (hr : RdS w 3 A n (t.map knCells)) (m0 : w.cell? ⟨b2, 0, none⟩ = some (.slice A n c)) (m1 : w.cell? ⟨b3, 0, none⟩ = some (.int .i64 x)) :
    Calls Try.prog 184 #[.int .i64 (j : Int), .pointer (some ⟨b2, 0, none⟩), .pointer (some ⟨b3, 0, none⟩)] w fun e w' => e = .returned (.bool (decide (x < k.x))) ∧ Ext w w' := by
  obtain ⟨b, o, k', rfl, _, hk', c0, c1, c2⟩ := kn_read hr hj
  obtain rfl : k = k' := by rw [hk] at hk'; exact Option.some.inj hk'
  refine enterQ (c := cx w 12) Try.func184 rfl rfl rfl rfl ?_
  repeat' (first | ((with_reducible apply oq_id); first | (focus ((with_reducible apply oq_indexAddrN); exact rfl; exact rfl; exact rfl; exact rfl; omega)) | (apply oq_fn; exact rfl; first | exact trivial | (refine ⟨?_, ?_⟩ <;> omega) | (refine ⟨?_, ?_, ?_⟩ <;> omega) | omega | skip) | ((with_reducible apply oq_load); exact rfl; exact rfl)) | ((with_reducible apply tl_id); first | ((with_reducible apply tl_nil)) | ((with_reducible apply u_q); exact rfl; exact rfl; exact rfl; exact rfl)) | ((with_reducible apply gx_id); first | ((with_reducible apply v_nil)) | ((with_reducible apply v_q); exact rfl; exact rfl; exact rfl)) | ((with_reducible apply rd_id); first | (apply Rd.old; exact m0; exact List.not_mem_nil) | (apply Rd.old; exact m1; exact List.not_mem_nil) | (apply Rd.old; (first | (with_reducible assumption) | exact c0 | exact c1 | exact c2); first | exact List.not_mem_nil | exact m0 | exact m1)) | ((with_reducible apply t_id); first | ((with_reducible apply t_seq)) | (apply t_region; kernel_rfl) | (apply t_drawn; kernel_rfl; decide +kernel) | ((with_reducible apply t_ret))) | with_reducible apply q_thenN | ((with_reducible apply end_ret)) | exact rvs_nil | ((with_reducible apply rvs_cons)) | ((with_reducible apply rv_tmp); exact rfl))
  all_goals rfl
theorem down_calls (a b : Int) (hb : 0 < b) (hb1 : b ≤ 1000000) (ha : -1000000000000 ≤ a ∧ a ≤ 1000000000000) (w : World) : Calls Try.prog 185 #[.int .i64 a, .int .i64 b] w fun e w' => e = .returned (.int .i64 (a / b)) ∧ Ext w w' := by
  have hq := tdiv_abs hb ha
  have hm := mul_abs (x := a.tdiv b) (y := b) (a := 1000000000000) (b := 1000000) hq (by omega)
  have hd := down_eq (a := a) hb
  have r1 : InR (a.tdiv b) := ⟨by omega, by omega⟩
  have r2 : InR (a.tdiv b * b) := ⟨by omega, by omega⟩
  refine enterQ (c := cx w 17) Try.func185 rfl rfl rfl rfl ?_
  repeat' (first | ((with_reducible apply oq_id); first | (focus ((apply oq_fn); exact rfl; exact ⟨by omega, r1⟩)) | (apply oq_fn; exact rfl; first | exact trivial | (refine ⟨?_, ?_⟩ <;> omega) | (refine ⟨?_, ?_, ?_⟩ <;> omega) | omega | skip)) | ((with_reducible apply tl_id); first | ((with_reducible apply tl_nil)) | ((with_reducible apply u_q); exact rfl; exact rfl; exact rfl; exact rfl)) | ((with_reducible apply t_id); first | ((with_reducible apply t_seq)) | (apply t_region; kernel_rfl) | ((with_reducible apply t_condD); exact rfl; all_goals first | (intro hp; try (exfalso; omega)) | skip) | ((with_reducible apply t_ret)) | ((with_reducible apply t_skip))) | with_reducible apply q_thenN | ((with_reducible apply end_ret)) | exact rvs_nil | ((with_reducible apply rvs_cons)) | ((with_reducible apply rv_tmp); exact rfl))
  · rw [hd.1 (by assumption)]; rfl
  · rw [hd.2 (by assumption)]; rfl
theorem srch_at {w : World} {D : List Nat} {H H1 H2 : Hp} {b2 b3 : Nat} {tg tg' : Tg} {A : Option Addr} {n c : Nat} {t : List Kn} (hr : RdS w 3 A n (t.map knCells)) (ht : TabOk t) (x : Int) (r : Nat) (hr1 : r ≤ n) (h1 : ∀ j k, j < r → t[j]? = some k → k.x ≤ x) (h2 : ∀ j k, r ≤ j → t[j]? = some k → x < k.x)
    (w1 : World) (hw : Has w ⟨[], D⟩ H w1) (p1 : Pick H b2 [.slice A n c] tg H1) (p2 : Pick H b3 [.int .i64 x] tg' H2) :
    Calls Try.prog 66 #[.int .i64 (n : Int), .func (.func 184) #[] ⟨[.pointer (some ⟨b2, 0, none⟩), .pointer (some ⟨b3, 0, none⟩)]⟩] w1 fun e w' => e = .returned (.int .i64 (r : Int)) ∧ Ext w1 w' := by
  have hl := hr.len
  simp only [List.length_map] at hl
  have h32 := ht.l32
  have m0 := hw.cellAt p1 (o := 0) rfl
  have m1 := hw.cellAt p2 (o := 0) rfl
  refine search_calls 184 _ n r (fun j => match t[j]? with | some k => decide (x < k.x) | none => true) (by omega) hr1 (fun j hj => ?_) (fun j hj hjn => ?_) w1 Try.call184 (fun j hj w2 hx => ?_)
  · have : t[j]? = some t[j] := List.getElem?_eq_getElem (by omega)
    have h := h1 j _ hj this
    simp only [this]
    simpa using h
  · have : t[j]? = some t[j] := List.getElem?_eq_getElem (by omega)
    have h := h2 j _ hj this
    simp only [this]
    simpa using h
  · have : t[j]? = some t[j] := List.getElem?_eq_getElem (by omega)
    simp only [this]
    exact at1_calls A n c t x b2 b3 j hj _ this w2 (hr.ext (hw.ext.ext.trans hx)) (hx.cell m0) (hx.cell m1)
theorem line_bounds {a b : Kn} (ha : -100000 ≤ a.x ∧ a.x ≤ 100000 ∧ -100000 ≤ a.lo ∧ a.lo ≤ a.hi ∧ a.hi ≤ 100000) (hb : -100000 ≤ b.x ∧ b.x ≤ 100000 ∧ -100000 ≤ b.lo ∧ b.lo ≤ b.hi ∧ b.hi ≤ 100000) (h : a.x < b.x) {x : Int} (hx : -100000 ≤ x ∧ x ≤ 100000) :
    (-1000000000000 ≤ (x - a.x) * (b.lo - a.lo) ∧ (x - a.x) * (b.lo - a.lo) ≤ 1000000000000) ∧ (-1000000000000 ≤ (x - a.x) * (a.hi - b.hi) ∧ (x - a.x) * (a.hi - b.hi) ≤ 1000000000000) ∧
    (-1000000000001 ≤ (x - a.x) * (b.lo - a.lo) / (b.x - a.x) ∧ (x - a.x) * (b.lo - a.lo) / (b.x - a.x) ≤ 1000000000000) ∧ (-1000000000001 ≤ (x - a.x) * (a.hi - b.hi) / (b.x - a.x) ∧ (x - a.x) * (a.hi - b.hi) / (b.x - a.x) ≤ 1000000000000) := by
  have m1 := mul_abs (x := x - a.x) (y := b.lo - a.lo) (a := 200000) (b := 200000) (by omega) (by omega)
  have m2 := mul_abs (x := x - a.x) (y := a.hi - b.hi) (a := 200000) (b := 200000) (by omega) (by omega)
  have d1 := ediv_abs (b := b.x - a.x) (m := 1000000000000) (by omega) (a := (x - a.x) * (b.lo - a.lo)) (by omega)
  have d2 := ediv_abs (b := b.x - a.x) (m := 1000000000000) (by omega) (a := (x - a.x) * (a.hi - b.hi)) (by omega)
  omega
theorem at_calls (A : Option Addr) (n c : Nat) (t : List Kn) (x : Int) (w : World) (hr : RdS w 3 A n (t.map knCells)) (ht : TabOk t) (hx : -100000 ≤ x ∧ x ≤ 100000) :
    Calls Try.prog 157 #[.slice A n c, .int .i64 x] w fun e w' => e = .returned (.agg #[.int .i64 (atV t x).1, .int .i64 (atV t x).2]) ∧ Ext w w' := by
  have hl := hr.len
  simp only [List.length_map] at hl
  have l2 := ht.l2
  have l32 := ht.l32
  obtain ⟨r, hrn, s1, s2⟩ := mono_cut (p := fun j => match t[j]? with | some k => decide (x < k.x) | none => true) n (fun i j hij hj => by
    have ei : t[i]? = some t[i] := List.getElem?_eq_getElem (by omega)
    have ej : t[j]? = some t[j] := List.getElem?_eq_getElem (by omega)
    simp only [ei, ej]
    intro h
    simp only [decide_eq_true_eq] at h ⊢
    rcases Nat.lt_or_eq_of_le hij with h1 | h1
    · have := ht.inc.at_ h1 ei ej; omega
    · subst h1; exact h)
  have h1 : ∀ j k, j < r → t[j]? = some k → k.x ≤ x := fun j k hj hk => by have := s1 j hj; simp only [hk] at this; simpa using this
  have h2 : ∀ j k, r ≤ j → t[j]? = some k → x < k.x := fun j k hj hk => by
    have := s2 j hj (by have := (List.getElem?_eq_some_iff.1 hk).1; omega)
    simp only [hk] at this; simpa using this
  obtain ⟨g, hg⟩ : ∃ g : Nat, g + 1 = min (max r 1) (n - 1) := ⟨min (max r 1) (n - 1) - 1, by omega⟩
  obtain ⟨ba, oa, a, rfl, hba, ha, c0, c1, c2⟩ := kn_read hr (show g < n by omega)
  obtain ⟨bb, ob, b, hA, _, hb, d0, d1, d2⟩ := kn_read hr (show g + 1 < n by omega)
  obtain ⟨rfl, rfl⟩ : bb = ba ∧ ob = oa := by simpa using hA.symm
  have oka := ht.at_ ha
  have okb := ht.at_ hb
  have hab := ht.inc.at_ (Nat.lt_succ_self g) ha hb
  have hval : atV t x = lineV a b x := by
    refine atV_seg ht.inc ha hb ?_ ?_
    · by_cases h0 : g = 0
      · exact .inl h0
      · exact .inr (h1 g a (by omega) ha)
    · by_cases h0 : g + 2 = t.length
      · exact .inl h0
      · exact .inr (by have := h2 (g + 1) b (by omega) hb; omega)
  obtain ⟨M1, M2, D1, D2⟩ := line_bounds oka okb hab hx
  have k1 : InR ((x - a.x) * (b.lo - a.lo)) := ⟨by omega, by omega⟩
  have k2 : InR ((x - a.x) * (a.hi - b.hi)) := ⟨by omega, by omega⟩
  rw [hval]
  clear hval s1 s2
  refine enterQ (c := cx w 69) Try.func157 rfl rfl rfl rfl ?_
  repeat' (first | ((with_reducible apply oq_id); first | ((with_reducible apply oq_min2E (k := ((g + 1 : Nat) : Int))); exact rfl; exact rfl; omega) | ((with_reducible apply oq_subE (k := (g : Int))); exact rfl; exact rfl; omega) | (focus ((with_reducible apply oq_indexAddrN); exact rfl; exact rfl; exact rfl; exact rfl; omega)) | (apply oq_fn; exact rfl; first | exact trivial | (refine ⟨?_, ?_⟩ <;> omega) | (refine ⟨?_, ?_, ?_⟩ <;> omega) | omega | skip) | ((with_reducible apply oq_load); exact rfl; exact rfl) | ((with_reducible apply oq_loadAgg); exact rfl; exact rfl) | ((with_reducible apply oq_call (k := 66) (hc := Try.call66)); exact rfl; exact rfl; exact fun D w1 hw1 => srch_at hr ht x r hrn h1 h2 w1 hw1 (by (repeat (first | exact P0 | apply P1))) (by (repeat (first | exact P0 | apply P1))))) | ((with_reducible apply tl_id); first | ((with_reducible apply tl_nil)) | ((with_reducible apply u_q); exact rfl; exact rfl; exact rfl; exact rfl) | ((with_reducible apply u_s); exact rfl; exact rfl; exact rfl)) | ((with_reducible apply gx_id); first | ((with_reducible apply v_nil)) | ((with_reducible apply v_q); exact rfl; exact rfl; exact rfl)) | ((with_reducible apply os_id); first | ((with_reducible apply os_x); exact rfl) | ((with_reducible apply os_storeAgg); exact rfl; exact rfl; exact rfl; exact rfl; exact rfl)) | ((with_reducible apply ox_id); first | ((with_reducible apply ox_alloc); exact rfl; intro _) | ((with_reducible apply ox_box); exact rfl; exact rfl; intro _)) | ((with_reducible apply ai_id); first | ((with_reducible apply ai_x); exact rfl; exact rfl; exact rfl; exact rfl; exact rfl) | ((with_reducible apply ai_n0); exact rfl; exact rfl; exact rfl)) | ((with_reducible apply al_keep); focus (repeat (first | exact HpSub.refl _ | (apply HpSub.cons; (repeat (first | exact P0 | apply P1))) | exact HpSub.nil))) | ((with_reducible apply rd_id); first | (apply Rd.own; (repeat (first | exact P0 | apply P1)); exact rfl; done) | (apply Rd.old; (first | (with_reducible assumption) | exact c0 | exact c1 | exact c2 | exact d0 | exact d1 | exact d2); first | exact List.not_mem_nil)) | ((with_reducible apply t_id); first | (with_reducible apply t_cutK (ι := (Nat × Nat)) (rid := 3) [2, 3, 4, 5] (fun i => [(6, .pointer (some ⟨i.1, 0, none⟩)), (7, .pointer (some ⟨i.2, 0, none⟩))]) (fun i => [(i.1, knCells a, some (211, 3, 1)), (i.2, knCells b, some (211, 3, 1))])); (repeat (first | exact KeepF.nil | (apply KeepF.cons; exact rfl) | apply KeepF.skip)) | ((with_reducible apply t_seq)) | (apply t_region; kernel_rfl)) | with_reducible apply q_thenN | exact P0 | ((with_reducible apply P1)) | exact Rdn.zero | apply Rdn.succ | ((with_reducible apply Norm.nil); exact rfl) | ((with_reducible apply Norm.cons); exact rfl) | ((with_reducible apply cut_in2) <;> (repeat' (first | exact FrSub.nil | (apply FrSub.cons; exact rfl) | exact HpSub.refl _ | (apply HpSub.consE; (repeat (first | exact P0 | apply P1)); exact rfl) | exact HpSub.nil))) | (apply t_mix (id := 3) [0, 1, 2, 3, 4, 5, 6, 7, 8] 4 #[false, false, false, false, false, false, false, false, false, false, false, false, false]; kernel_rfl; kernel_rfl; exact rfl) | ((with_reducible apply al_id); first | (apply al_done; decide +kernel) | (apply al_one 9; decide +kernel) | (apply al_one 10; decide +kernel) | (apply al_one 11; decide +kernel) | (apply al_one 12; decide +kernel) | (apply al_two 9 10; decide +kernel)) | exact Nat.le_of_ble_eq_true rfl)
  rintro ⟨b6, b7⟩
  try simp only [List.cons_append, List.nil_append]
  repeat' (first | ((with_reducible apply oq_id); first | (apply oq_fn; exact rfl; first | exact trivial | (refine ⟨?_, ?_⟩ <;> omega) | (refine ⟨?_, ?_, ?_⟩ <;> omega) | omega | skip) | ((with_reducible apply oq_load); exact rfl; exact rfl) | ((with_reducible apply oq_call (k := 185) (hc := Try.call185)); exact rfl; exact rfl; exact fun D w1 hw1 => down_calls _ _ (by omega) (by omega) (by first | exact M1 | exact M2) w1) | ((with_reducible apply oq_build); exact rfl; exact rfl; exact rfl)) | ((with_reducible apply gx_id); first | ((with_reducible apply v_nil)) | ((with_reducible apply v_q); exact rfl; exact rfl; exact rfl)) | ((with_reducible apply os_id); first | ((with_reducible apply os_storeAgg); exact rfl; exact rfl; exact rfl; exact rfl; exact rfl)) | ((with_reducible apply ai_id); first | ((with_reducible apply ai_s0); exact rfl; exact rfl; exact rfl; exact rfl)) | ((with_reducible apply rd_id); first | (apply Rd.own; (repeat (first | exact P0 | apply P1)); exact rfl; done)) | ((with_reducible apply t_id); first | ((with_reducible apply t_seq)) | (apply t_drawn; kernel_rfl; decide +kernel) | ((with_reducible apply t_ret))) | with_reducible apply q_thenN | exact P0 | ((with_reducible apply P1)) | exact Rdn.zero | apply Rdn.succ | ((with_reducible apply Norm.nil); exact rfl) | ((with_reducible apply Norm.cons); exact rfl) | ((with_reducible apply end_ret)) | exact rvs_nil | ((with_reducible apply rvs_cons)) | ((with_reducible apply rv_cellAgg); exact rfl; exact rfl) | (apply t_mix (id := 5) [0, 1, 2, 3, 4, 5, 6, 7, 8, 9, 10, 11, 12, 13, 14, 15, 16, 17, 18, 19, 20, 21, 22, 23, 24, 25, 26, 27, 28, 29, 30] 1 #[false, false, false, false, false, false, false, false, false, false, false, false, false, false, false, false, false, false, false, false, false, false, false, false, false, false, false, false, false, false, false, true]; kernel_rfl; kernel_rfl; exact rfl) | ((with_reducible apply al_id); first | (apply al_done; decide +kernel) | (apply al_one 31; decide +kernel)) | exact Nat.le_of_ble_eq_true rfl)
  all_goals rfl
theorem checkTable_ok (A : Option Addr) (n c : Nat) (t : List Kn) (w : World) (hr : RdS w 3 A n (t.map knCells)) (ht : TabOk t) :
    Calls Try.prog 156 #[.slice A n c] w fun e w' => e = .returned (.int .i64 0) ∧ Ext w w' := by
  have hl := hr.len
  simp only [List.length_map] at hl
  have l2 := ht.l2
  have l32 := ht.l32
  refine enterQ (c := cx w 61) Try.func156 rfl rfl rfl rfl ?_
  repeat' (first | ((with_reducible apply oq_id); first | (apply oq_fn; exact rfl; first | exact trivial | (refine ⟨?_, ?_⟩ <;> omega) | (refine ⟨?_, ?_, ?_⟩ <;> omega) | omega | skip)) | ((with_reducible apply tl_id); first | ((with_reducible apply tl_nil)) | ((with_reducible apply u_q); exact rfl; exact rfl; exact rfl; exact rfl) | ((with_reducible apply u_splitD); exact rfl; exact rfl; all_goals first | (intro hp; try (exfalso; omega)) | skip)) | ((with_reducible apply t_id); first | ((with_reducible apply t_seq)) | (apply t_region; kernel_rfl) | ((with_reducible apply t_condD); exact rfl; all_goals first | (intro hp; try (exfalso; omega)) | skip) | ((with_reducible apply t_skip)) | ((with_reducible apply t_block))) | with_reducible apply q_thenN)
  apply t_loopK (ι := Nat) [0, 13, 14] (fun k => [(15, .int .i64 (k : Nat))]) (fun _ => []) (fun k => k ≤ n) (fun k => n - k) (0)
  (repeat (first | exact KeepF.nil | (apply KeepF.cons; exact rfl) | apply KeepF.skip))
  (repeat (first | exact FrSub.nil | (apply FrSub.cons; exact rfl)))
  (repeat (first | exact HpSub.refl _ | (apply HpSub.consE; (repeat (first | exact P0 | apply P1)); exact rfl) | exact HpSub.nil))
  · omega
  intro k hk
  try simp only [List.cons_append, List.nil_append]
  by_cases hlt : k < n
  · obtain ⟨b, o, y, rfl, _, hy, c0, c1, c2⟩ := kn_read hr hlt
    have oky := ht.at_ hy
    cases k with
    | zero =>
      repeat' (first | ((with_reducible apply oq_id); first | (focus ((with_reducible apply oq_indexAddrN); exact rfl; exact rfl; exact rfl; exact rfl; omega)) | (apply oq_fn; exact rfl; first | exact trivial | (refine ⟨?_, ?_⟩ <;> omega) | (refine ⟨?_, ?_, ?_⟩ <;> omega) | omega | skip) | ((with_reducible apply oq_load); exact rfl; exact rfl) | ((with_reducible apply oq_loadAgg); exact rfl; exact rfl)) | ((with_reducible apply tl_id); first | ((with_reducible apply tl_nil)) | ((with_reducible apply u_q); exact rfl; exact rfl; exact rfl; exact rfl) | ((with_reducible apply u_s0); exact rfl; exact rfl) | ((with_reducible apply u_s); exact rfl; exact rfl; exact rfl)) | ((with_reducible apply gx_id); first | ((with_reducible apply v_nil)) | ((with_reducible apply v_q); exact rfl; exact rfl; exact rfl) | ((with_reducible apply v_skip); exact rfl; exact rfl; exact rfl) | ((with_reducible apply v_splitD); exact rfl; exact rfl; all_goals first | (intro hp; try (exfalso; omega)) | skip)) | ((with_reducible apply os_id); first | ((with_reducible apply os_x); exact rfl) | ((with_reducible apply os_storeAgg); exact rfl; exact rfl; exact rfl; exact rfl; exact rfl)) | ((with_reducible apply ox_id); first | ((with_reducible apply ox_alloc); exact rfl; intro _)) | ((with_reducible apply rd_id); first | (apply Rd.own; (repeat (first | exact P0 | apply P1)); exact rfl; done) | (apply Rd.old; (first | (with_reducible assumption) | exact c0 | exact c1 | exact c2 | exact d0 | exact d1 | exact d2); first | exact List.not_mem_nil)) | ((with_reducible apply t_id); first | ((with_reducible apply t_seq)) | (apply t_region; kernel_rfl) | (apply t_drawn; kernel_rfl; decide +kernel) | ((with_reducible apply t_condF); exact rfl) | ((with_reducible apply t_condD); exact rfl; all_goals first | (intro hp; try (exfalso; omega)) | skip) | ((with_reducible apply t_skip)) | ((with_reducible apply t_block))) | with_reducible apply q_thenN | with_reducible apply q_blockN | exact P0 | exact Rdn.zero | apply Rdn.succ | ((with_reducible apply Norm.nil); exact rfl) | ((with_reducible apply Norm.cons); exact rfl) | exact Nat.le_of_ble_eq_true rfl)
      all_goals (refine ⟨1, by omega, by omega, ?_, ?_⟩ <;> (try simp only [List.cons_append, List.nil_append]) <;> (repeat' (first | exact FrSub.nil | (apply FrSub.cons; exact rfl) | exact HpSub.nil)))
    | succ j =>
      obtain ⟨b', o', x, hA, _, hx, d0, d1, d2⟩ := kn_read hr (show j < n by omega)
      obtain ⟨rfl, rfl⟩ : b' = b ∧ o' = o := by simpa using hA.symm
      have hxy := ht.inc.at_ (Nat.lt_succ_self j) hx hy
      repeat' (first | ((with_reducible apply oq_id); first | ((with_reducible apply oq_subE (k := (j : Int))); exact rfl; exact rfl; omega) | (focus ((with_reducible apply oq_indexAddrN); exact rfl; exact rfl; exact rfl; exact rfl; omega)) | (apply oq_fn; exact rfl; first | exact trivial | (refine ⟨?_, ?_⟩ <;> omega) | (refine ⟨?_, ?_, ?_⟩ <;> omega) | omega | skip) | ((with_reducible apply oq_load); exact rfl; exact rfl) | ((with_reducible apply oq_loadAgg); exact rfl; exact rfl)) | ((with_reducible apply tl_id); first | ((with_reducible apply tl_nil)) | ((with_reducible apply u_q); exact rfl; exact rfl; exact rfl; exact rfl) | ((with_reducible apply u_s0); exact rfl; exact rfl) | ((with_reducible apply u_s); exact rfl; exact rfl; exact rfl)) | ((with_reducible apply gx_id); first | ((with_reducible apply v_nil)) | ((with_reducible apply v_q); exact rfl; exact rfl; exact rfl) | ((with_reducible apply v_splitD); exact rfl; exact rfl; all_goals first | (intro hp; try (exfalso; omega)) | skip)) | ((with_reducible apply os_id); first | ((with_reducible apply os_x); exact rfl) | ((with_reducible apply os_storeAgg); exact rfl; exact rfl; exact rfl; exact rfl; exact rfl)) | ((with_reducible apply ox_id); first | ((with_reducible apply ox_alloc); exact rfl; intro _)) | ((with_reducible apply rd_id); first | (apply Rd.own; (repeat (first | exact P0 | apply P1)); exact rfl; done) | (apply Rd.old; (first | (with_reducible assumption) | exact c0 | exact c1 | exact c2 | exact d0 | exact d1 | exact d2); first | exact List.not_mem_nil)) | ((with_reducible apply t_id); first | ((with_reducible apply t_seq)) | (apply t_region; kernel_rfl) | (apply t_drawn; kernel_rfl; decide +kernel) | ((with_reducible apply t_condD); exact rfl; all_goals first | (intro hp; try (exfalso; omega)) | skip) | ((with_reducible apply t_skip)) | ((with_reducible apply t_block))) | with_reducible apply q_thenN | with_reducible apply q_blockN | exact P0 | exact Rdn.zero | apply Rdn.succ | ((with_reducible apply Norm.nil); exact rfl) | ((with_reducible apply Norm.cons); exact rfl) | exact Nat.le_of_ble_eq_true rfl)
      all_goals (refine ⟨j + 1 + 1, by omega, by omega, ?_, ?_⟩ <;> (try simp only [List.cons_append, List.nil_append]) <;> (repeat' (first | exact FrSub.nil | (apply FrSub.cons; exact rfl) | exact HpSub.nil)))
  · repeat' (first | ((with_reducible apply oq_id); first | (apply oq_fn; exact rfl; first | exact trivial | (refine ⟨?_, ?_⟩ <;> omega) | (refine ⟨?_, ?_, ?_⟩ <;> omega) | omega | skip)) | ((with_reducible apply tl_id); first | ((with_reducible apply tl_nil)) | ((with_reducible apply u_q); exact rfl; exact rfl; exact rfl; exact rfl)) | ((with_reducible apply t_id); first | ((with_reducible apply t_seq)) | (apply t_region; kernel_rfl) | ((with_reducible apply t_condD); exact rfl; all_goals first | (intro hp; try (exfalso; omega)) | skip) | ((with_reducible apply t_ret)) | ((with_reducible apply t_exit))) | with_reducible apply q_thenN | with_reducible apply q_thenE | ((with_reducible apply q_blockE); exact rfl) | ((with_reducible apply end_ret)) | exact rvs_nil | ((with_reducible apply rvs_cons)) | ((with_reducible apply rv_tmp); exact rfl))
    all_goals rfl
theorem around2 {w0 : World} {M : Ms} {H H' : Hp} {w : World} {g : Nat} {a b c d : Int} {tg : Tg} (h : Has w0 M H w) (p : Pick H g [.int .i64 a, .int .i64 b, .int .i64 c, .int .i64 d] tg H') :
    Calls Try.prog 151 #[.slice (some ⟨g, 0, none⟩) 2 2] w fun e w' => e = .returned (.agg #[.int .i64 (min a c), .int .i64 (max b d)]) ∧ Ext w w' := by
  have := around_calls (some ⟨g, 0, none⟩) 2 2 (a, b) [(a, b), (c, d)] w (Blk.rows (k := 2) (rows := [(a, b), (c, d)].map spanCells) (h.blk _ p.mem).2 rfl (by simp [spanCells])) (by omega) rfl (by omega) (by omega)
  have e : hullA (a, b) [(a, b), (c, d)] = (min a c, max b d) := by simp only [hullA, hullS, List.foldl_cons, List.foldl_nil]; congr 1 <;> omega
  rw [e] at this
  exact this
theorem value_calls (A : Option Addr) (n c : Nat) (t : List Kn) (p q : Int) (w : World) (hr : RdS w 3 A n (t.map knCells)) (ht : TabOk t) (h0 : ∀ k, t[0]? = some k → k.x ≤ p) (hpq : p ≤ q) (hl : ∀ k, t[n - 1]? = some k → q ≤ k.x) :
    Calls Try.prog 126 #[.slice A n c, .agg #[.int .i64 p, .int .i64 q]] w fun e w' => e = .returned (.tuple #[.agg #[.int .i64 (valV t p q).1, .int .i64 (valV t p q).2], .int .i64 0]) ∧ Ext w w' := by
  have hlen := hr.len
  simp only [List.length_map] at hlen
  have l2 := ht.l2
  have l32 := ht.l32
  obtain ⟨m, rfl⟩ : ∃ m, n = m + 1 := ⟨n - 1, by omega⟩
  obtain ⟨b, o, k0, rfl, _, hk0, c0, c1, c2⟩ := kn_read hr (show 0 < m + 1 by omega)
  obtain ⟨b', o', km, hA, _, hkm, d0, d1, d2⟩ := kn_read hr (show m < m + 1 by omega)
  obtain ⟨rfl, rfl⟩ : b' = b ∧ o' = o := by simpa using hA.symm
  have hp0 := h0 k0 hk0
  have hq0 := hl km hkm
  have ok0 := ht.at_ hk0
  have okm := ht.at_ hkm
  have HC := fun w1 => check_calls p q w1
  rw [if_pos ((fineS_iff _).2 ⟨hpq, by simp only; omega, by simp only; omega⟩)] at HC
  have HP := fun w1 (hx : Ext w w1) => at_calls _ _ c t p w1 (hr.ext hx) ht (by omega)
  have HQ := fun w1 (hx : Ext w w1) => at_calls _ _ c t q w1 (hr.ext hx) ht (by omega)
  refine enterQ (c := cx w 78) Try.func126 rfl rfl rfl rfl ?_
  repeat' (first | ((with_reducible apply oq_id); first | ((with_reducible apply oq_subE (k := (m : Int))); exact rfl; exact rfl; omega) | (focus ((with_reducible apply oq_indexAddrN); exact rfl; exact rfl; exact rfl; exact rfl; omega)) | (apply oq_fn; exact rfl; first | exact trivial | (refine ⟨?_, ?_⟩ <;> omega) | (refine ⟨?_, ?_, ?_⟩ <;> omega) | omega | skip) | ((with_reducible apply oq_load); exact rfl; exact rfl) | ((with_reducible apply oq_loadAgg); exact rfl; exact rfl) | ((with_reducible apply oq_call (k := 156) (hc := Try.call156)); exact rfl; exact rfl; exact fun D w1 hw1 => checkTable_ok _ _ _ t w1 (hr.ext hw1.ext.ext) ht) | ((with_reducible apply oq_call (k := 65) (hc := Try.call65)); exact rfl; exact rfl; exact fun D w1 hw1 => HC w1) | ((with_reducible apply oq_call (k := 157) (hc := Try.call157)); exact rfl; exact rfl; exact fun D w1 hw1 => HP w1 hw1.ext.ext) | ((with_reducible apply oq_call (k := 157) (hc := Try.call157)); exact rfl; exact rfl; exact fun D w1 hw1 => HQ w1 hw1.ext.ext) | ((with_reducible apply oq_call (k := 151) (hc := Try.call151)); exact rfl; exact rfl; exact fun D w1 hw1 => around2 hw1 (by (repeat (first | exact P0 | apply P1))))) | ((with_reducible apply tl_id); first | ((with_reducible apply tl_nil)) | ((with_reducible apply u_q); exact rfl; exact rfl; exact rfl; exact rfl) | ((with_reducible apply u_s); exact rfl; exact rfl; exact rfl)) | ((with_reducible apply gx_id); first | ((with_reducible apply v_nil)) | ((with_reducible apply v_q); exact rfl; exact rfl; exact rfl) | ((with_reducible apply v_splitD); exact rfl; exact rfl; all_goals first | (intro hp; try (exfalso; omega)) | skip)) | ((with_reducible apply os_id); first | ((with_reducible apply os_x); exact rfl) | ((with_reducible apply os_storeAgg); exact rfl; exact rfl; exact rfl; exact rfl; exact rfl)) | ((with_reducible apply ox_id); first | ((with_reducible apply ox_alloc); exact rfl; intro _) | ((with_reducible apply ox_boxAgg); exact rfl; intro _) | ((with_reducible apply ox_buildSlice2); exact rfl; exact rfl; exact rfl; exact rfl; exact rfl; exact rfl; intro _)) | ((with_reducible apply ai_id); first | ((with_reducible apply ai_q); exact rfl; exact rfl; exact rfl; exact rfl; exact rfl) | ((with_reducible apply ai_x); exact rfl; exact rfl; exact rfl; exact rfl; exact rfl) | ((with_reducible apply ai_n0); exact rfl; exact rfl; exact rfl)) | ((with_reducible apply al_keep); focus (repeat (first | exact HpSub.refl _ | (apply HpSub.cons; (repeat (first | exact P0 | apply P1))) | exact HpSub.nil))) | ((with_reducible apply rd_id); first | (apply Rd.own; (repeat (first | exact P0 | apply P1)); exact rfl; done) | (apply Rd.old; (first | (with_reducible assumption) | exact c0 | exact c1 | exact c2 | exact d0 | exact d1 | exact d2); first | exact List.not_mem_nil)) | ((with_reducible apply t_id); first | (with_reducible apply t_cutK (ι := Nat) (rid := 9) [0, 3, 4, 5] (fun i => [(8, .pointer (some ⟨i, 0, none⟩))]) (fun i => [(i, [.int .i64 (accV t p q 0).1, .int .i64 (accV t p q 0).2], some (39, 2, 1))])); (repeat (first | exact KeepF.nil | (apply KeepF.cons; exact rfl) | apply KeepF.skip)) | ((with_reducible apply t_seq)) | (apply t_region; kernel_rfl) | (apply t_drawn; kernel_rfl; decide +kernel) | ((with_reducible apply t_condF); exact rfl) | ((with_reducible apply t_condD); exact rfl; all_goals first | (intro hp; try (exfalso; omega)) | skip) | ((with_reducible apply t_skip))) | with_reducible apply q_thenN | exact P0 | ((with_reducible apply P1)) | exact Rdn.zero | apply Rdn.succ | ((with_reducible apply Norm.nil); exact rfl) | ((with_reducible apply Norm.cons); exact rfl) | ((with_reducible apply cut_in1) <;> (repeat' (first | exact FrSub.nil | (apply FrSub.cons; exact rfl) | exact HpSub.refl _ | (apply HpSub.consE; (repeat (first | exact P0 | apply P1)); exact rfl) | exact HpSub.nil))) | (apply t_mix (id := 9) [0, 1, 2, 3, 4, 5, 6, 7] 4 #[false, false, false, false, false, false, false, false, false, false, false, false]; kernel_rfl; kernel_rfl; exact rfl) | ((with_reducible apply al_id); first | (apply al_done; decide +kernel) | (apply al_one 8; decide +kernel) | (apply al_one 9; decide +kernel) | (apply al_one 10; decide +kernel) | (apply al_one 11; decide +kernel) | (apply al_two 8 10; decide +kernel) | (apply al_two 9 10; decide +kernel)) | exact Nat.le_of_ble_eq_true rfl)
  intro b8
  try simp only [List.cons_append, List.nil_append]
  clear c0 c1 c2 d0 d1 d2 HP HQ HC
  repeat' (first | ((with_reducible apply oq_id); first | (apply oq_fn; exact rfl; first | exact trivial | (refine ⟨?_, ?_⟩ <;> omega) | (refine ⟨?_, ?_, ?_⟩ <;> omega) | omega | skip)) | ((with_reducible apply tl_id); first | ((with_reducible apply tl_nil)) | ((with_reducible apply u_q); exact rfl; exact rfl; exact rfl; exact rfl)) | ((with_reducible apply t_id); first | ((with_reducible apply t_seq)) | (apply t_region; kernel_rfl) | ((with_reducible apply t_block))) | with_reducible apply q_thenN)
  apply t_loopK (ι := Nat) [3, 4, 5, 8, 53, 54, 77] (fun k => [(55, .int .i64 (k : Nat))]) (fun k => [(b8, [.int .i64 (accV t p q k).1, .int .i64 (accV t p q k).2], some (39, 2, 1))]) (fun k => k ≤ m + 1) (fun k => m + 1 - k) (0)
  (repeat (first | exact KeepF.nil | (apply KeepF.cons; exact rfl) | apply KeepF.skip))
  (repeat (first | exact FrSub.nil | (apply FrSub.cons; exact rfl)))
  (repeat (first | exact HpSub.refl _ | (apply HpSub.consE; (repeat (first | exact P0 | apply P1)); exact rfl) | exact HpSub.nil))
  · omega
  intro k hk
  try simp only [List.cons_append, List.nil_append]
  by_cases hlt : k < m + 1
  · obtain ⟨b1, o1, y, hA, _, hy, c0, c1, c2⟩ := kn_read hr hlt
    obtain ⟨rfl, rfl⟩ : b1 = b' ∧ o1 = o' := by simpa using hA.symm
    by_cases h1 : p < y.x
    · by_cases h2 : y.x < q
      · have he := accV_yes hy h1 h2
        repeat' (first | ((with_reducible apply oq_id); first | (focus ((with_reducible apply oq_indexAddrN); exact rfl; exact rfl; exact rfl; exact rfl; omega)) | (apply oq_fn; exact rfl; first | exact trivial | (refine ⟨?_, ?_⟩ <;> omega) | (refine ⟨?_, ?_, ?_⟩ <;> omega) | omega | skip) | ((with_reducible apply oq_load); exact rfl; exact rfl) | ((with_reducible apply oq_loadAgg); exact rfl; exact rfl) | ((with_reducible apply oq_call (k := 151) (hc := Try.call151)); exact rfl; exact rfl; exact fun D w1 hw1 => around2 hw1 (by (repeat (first | exact P0 | apply P1))))) | ((with_reducible apply tl_id); first | ((with_reducible apply tl_nil)) | ((with_reducible apply u_q); exact rfl; exact rfl; exact rfl; exact rfl) | ((with_reducible apply u_s0); exact rfl; exact rfl) | ((with_reducible apply u_s); exact rfl; exact rfl; exact rfl) | ((with_reducible apply u_splitD); exact rfl; exact rfl; all_goals first | (intro hp; try (exfalso; omega)) | skip)) | ((with_reducible apply os_id); first | ((with_reducible apply os_x); exact rfl) | ((with_reducible apply os_storeAgg); exact rfl; exact rfl; exact rfl; exact rfl; exact rfl)) | ((with_reducible apply ox_id); first | ((with_reducible apply ox_alloc); exact rfl; intro _) | ((with_reducible apply ox_buildSlice2); exact rfl; exact rfl; exact rfl; exact rfl; exact rfl; exact rfl; intro _)) | ((with_reducible apply rd_id); first | (apply Rd.own; (repeat (first | exact P0 | apply P1)); exact rfl; done) | (apply Rd.old; (first | (with_reducible assumption) | exact c0 | exact c1 | exact c2 | exact d0 | exact d1 | exact d2); first | exact List.not_mem_nil)) | ((with_reducible apply t_id); first | ((with_reducible apply t_seq)) | (apply t_region; kernel_rfl) | ((with_reducible apply t_condD); exact rfl; all_goals first | (intro hp; try (exfalso; omega)) | skip) | ((with_reducible apply t_skip)) | ((with_reducible apply t_block))) | with_reducible apply q_thenN | with_reducible apply q_blockN | exact P0 | ((with_reducible apply P1)) | exact Rdn.zero | apply Rdn.succ | ((with_reducible apply Norm.nil); exact rfl) | ((with_reducible apply Norm.cons); exact rfl) | exact Nat.le_of_ble_eq_true rfl)
        all_goals (refine ⟨k + 1, by omega, by omega, ?_, ?_⟩ <;> (try simp only [List.cons_append, List.nil_append]) <;> (repeat' (first | exact FrSub.nil | (apply FrSub.cons; exact rfl) | (apply HpSub.consE; (repeat (first | exact P0 | apply P1)); first | exact rfl | (rw [he]; rfl)) | exact HpSub.nil)))
      · have he := accV_no (t := t) (p := p) (q := q) hy (by omega)
        repeat' (first | ((with_reducible apply oq_id); first | (focus ((with_reducible apply oq_indexAddrN); exact rfl; exact rfl; exact rfl; exact rfl; omega)) | (apply oq_fn; exact rfl; first | exact trivial | (refine ⟨?_, ?_⟩ <;> omega) | (refine ⟨?_, ?_, ?_⟩ <;> omega) | omega | skip) | ((with_reducible apply oq_load); exact rfl; exact rfl) | ((with_reducible apply oq_loadAgg); exact rfl; exact rfl)) | ((with_reducible apply tl_id); first | ((with_reducible apply tl_nil)) | ((with_reducible apply u_q); exact rfl; exact rfl; exact rfl; exact rfl) | ((with_reducible apply u_s0); exact rfl; exact rfl) | ((with_reducible apply u_s); exact rfl; exact rfl; exact rfl) | ((with_reducible apply u_splitD); exact rfl; exact rfl; all_goals first | (intro hp; try (exfalso; omega)) | skip)) | ((with_reducible apply os_id); first | ((with_reducible apply os_x); exact rfl) | ((with_reducible apply os_storeAgg); exact rfl; exact rfl; exact rfl; exact rfl; exact rfl)) | ((with_reducible apply ox_id); first | ((with_reducible apply ox_alloc); exact rfl; intro _)) | ((with_reducible apply rd_id); first | (apply Rd.own; (repeat (first | exact P0 | apply P1)); exact rfl; done) | (apply Rd.old; (first | (with_reducible assumption) | exact c0 | exact c1 | exact c2 | exact d0 | exact d1 | exact d2); first | exact List.not_mem_nil)) | ((with_reducible apply t_id); first | ((with_reducible apply t_seq)) | (apply t_region; kernel_rfl) | ((with_reducible apply t_condD); exact rfl; all_goals first | (intro hp; try (exfalso; omega)) | skip) | ((with_reducible apply t_skip)) | ((with_reducible apply t_block))) | with_reducible apply q_thenN | with_reducible apply q_blockN | exact P0 | exact Rdn.zero | apply Rdn.succ | ((with_reducible apply Norm.nil); exact rfl) | ((with_reducible apply Norm.cons); exact rfl) | exact Nat.le_of_ble_eq_true rfl)
        all_goals (refine ⟨k + 1, by omega, by omega, ?_, ?_⟩ <;> (try simp only [List.cons_append, List.nil_append]) <;> (repeat' (first | exact FrSub.nil | (apply FrSub.cons; exact rfl) | (apply HpSub.consE; (repeat (first | exact P0 | apply P1)); first | exact rfl | (rw [he])) | exact HpSub.nil)))
    · have he := accV_no (t := t) (p := p) (q := q) hy (by omega)
      repeat' (first | ((with_reducible apply oq_id); first | (focus ((with_reducible apply oq_indexAddrN); exact rfl; exact rfl; exact rfl; exact rfl; omega)) | (apply oq_fn; exact rfl; first | exact trivial | (refine ⟨?_, ?_⟩ <;> omega) | (refine ⟨?_, ?_, ?_⟩ <;> omega) | omega | skip) | ((with_reducible apply oq_load); exact rfl; exact rfl) | ((with_reducible apply oq_loadAgg); exact rfl; exact rfl)) | ((with_reducible apply tl_id); first | ((with_reducible apply tl_nil)) | ((with_reducible apply u_q); exact rfl; exact rfl; exact rfl; exact rfl) | ((with_reducible apply u_s0); exact rfl; exact rfl) | ((with_reducible apply u_s); exact rfl; exact rfl; exact rfl) | ((with_reducible apply u_skip); exact rfl; exact rfl; exact rfl) | ((with_reducible apply u_splitD); exact rfl; exact rfl; all_goals first | (intro hp; try (exfalso; omega)) | skip)) | ((with_reducible apply os_id); first | ((with_reducible apply os_x); exact rfl) | ((with_reducible apply os_storeAgg); exact rfl; exact rfl; exact rfl; exact rfl; exact rfl)) | ((with_reducible apply ox_id); first | ((with_reducible apply ox_alloc); exact rfl; intro _)) | ((with_reducible apply rd_id); first | (apply Rd.own; (repeat (first | exact P0 | apply P1)); exact rfl; done) | (apply Rd.old; (first | (with_reducible assumption) | exact c0 | exact c1 | exact c2 | exact d0 | exact d1 | exact d2); first | exact List.not_mem_nil)) | ((with_reducible apply t_id); first | ((with_reducible apply t_seq)) | (apply t_region; kernel_rfl) | ((with_reducible apply t_condF); exact rfl) | ((with_reducible apply t_condD); exact rfl; all_goals first | (intro hp; try (exfalso; omega)) | skip) | ((with_reducible apply t_skip)) | ((with_reducible apply t_block))) | with_reducible apply q_thenN | with_reducible apply q_blockN | exact P0 | exact Rdn.zero | apply Rdn.succ | ((with_reducible apply Norm.nil); exact rfl) | ((with_reducible apply Norm.cons); exact rfl) | exact Nat.le_of_ble_eq_true rfl)
      all_goals (refine ⟨k + 1, by omega, by omega, ?_, ?_⟩ <;> (try simp only [List.cons_append, List.nil_append]) <;> (repeat' (first | exact FrSub.nil | (apply FrSub.cons; exact rfl) | (apply HpSub.consE; (repeat (first | exact P0 | apply P1)); first | exact rfl | (rw [he])) | exact HpSub.nil)))
  · have he : accV t p q k = valV t p q := accV_all (by omega)
    repeat' (first | ((with_reducible apply oq_id); first | (apply oq_fn; exact rfl; first | exact trivial | (refine ⟨?_, ?_⟩ <;> omega) | (refine ⟨?_, ?_, ?_⟩ <;> omega) | omega | skip) | ((with_reducible apply oq_loadAgg); exact rfl; exact rfl)) | ((with_reducible apply tl_id); first | ((with_reducible apply tl_nil)) | ((with_reducible apply u_q); exact rfl; exact rfl; exact rfl; exact rfl) | ((with_reducible apply u_s0); exact rfl; exact rfl)) | ((with_reducible apply os_id); first | ((with_reducible apply os_storeAgg); exact rfl; exact rfl; exact rfl; exact rfl; exact rfl)) | ((with_reducible apply rd_id); first | (apply Rd.own; (repeat (first | exact P0 | apply P1)); exact rfl; done)) | ((with_reducible apply t_id); first | ((with_reducible apply t_seq)) | (apply t_region; kernel_rfl) | ((with_reducible apply t_condD); exact rfl; all_goals first | (intro hp; try (exfalso; omega)) | skip) | ((with_reducible apply t_ret)) | ((with_reducible apply t_exit))) | with_reducible apply q_thenN | with_reducible apply q_thenE | ((with_reducible apply q_blockE); exact rfl) | exact P0 | ((with_reducible apply P1)) | exact Rdn.zero | apply Rdn.succ | ((with_reducible apply Norm.nil); exact rfl) | ((with_reducible apply Norm.cons); exact rfl) | ((with_reducible apply end_ret)) | exact rvs_nil | ((with_reducible apply rvs_cons)) | ((with_reducible apply rv_tmp); exact rfl) | ((with_reducible apply rv_cellAgg); exact rfl; exact rfl) | exact Nat.le_of_ble_eq_true rfl)
    rw [he]
    all_goals rfl
theorem fromOne {w0 : World} {M : Ms} {H H' : Hp} {w : World} {g : Nat} {a lo hi : Int} {tg : Tg} {cp : Nat} {q : Bool} (hq : decide (lo ≤ a ∧ a ≤ hi) = q) (h : Has w0 M H w) (p : Pick H g [.int .i64 a] tg H') :
    Calls Try.prog 75 #[.int .i64 lo, .int .i64 hi, .slice (some ⟨g, 0, none⟩) 1 cp] w fun e w' => e = .returned (.bool q) ∧ Ext w w' := by
  have := from_calls lo hi (some ⟨g, 0, none⟩) 1 cp [a] w (Blk.rows (k := 1) (rows := [a].map fun z => [Value.int .i64 z]) (h.blk _ p.mem).2 rfl (by simp)) (by omega)
  have e : allFrom lo hi [a] = q := by rw [← hq]; unfold allFrom; rw [Bool.eq_iff_iff]; simp
  rw [e] at this
  exact this
theorem inside_at (x y lo hi : Int) {q : Bool} (hq : decide (x ≤ y ∧ lo ≤ x ∧ y ≤ hi) = q) (w : World) : Calls Try.prog 120 #[.agg #[.int .i64 x, .int .i64 y], .int .i64 lo, .int .i64 hi] w fun e w' => e = .returned (.bool q) ∧ Ext w w' := by
  have := inside_calls x y lo hi w
  have e : insideB x y lo hi = q := by rw [← hq]; unfold insideB; rw [Bool.eq_iff_iff]; try (simp; try omega)
  rw [e] at this
  exact this
/-- A valid sounding. -/
structure Snd (l : List Lv) : Prop where
  n2 : 2 ≤ l.length
  n16 : l.length ≤ 16
  ok : ∀ x ∈ l, -500 ≤ x.h ∧ x.h ≤ 9000 ∧ 1000 ≤ x.plo ∧ x.plo ≤ x.phi ∧ x.phi ≤ 12000 ∧ 1500 ≤ x.tlo ∧ x.tlo ≤ x.thi ∧ x.thi ≤ 3500
  rise : ∀ {i : Nat} {x y : Lv}, l[i]? = some x → l[i + 1]? = some y → 1 ≤ y.h - x.h ∧ y.h - x.h ≤ 2000
end Go.Proofs.Ytcjkndjjbjoehaa
