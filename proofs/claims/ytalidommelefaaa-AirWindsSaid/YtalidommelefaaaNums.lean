/- Products of unsigned numbers. -/
import Derived.Test.YtalidommelefaaaSl9
import Derived.Test.YtalidommelefaaaSpan
import Derived.Laws.StructEq
namespace Go.Proofs.Ytalidommelefaaa
open Go.RowKit
attribute [local irreducible] OQ OS OX Rd T TL GX GL AL AI RV wpG SAny Calls
set_option maxRecDepth 100000
set_option maxHeartbeats 2000000
set_option linter.unusedVariables false
set_option linter.unusedSimpArgs false


theorem mul64_calls (x y : Int) (h0 : 0 ≤ x) (h1 : x < 4294967296) (h2 : 0 ≤ y) (h3 : y < 4294967296) (w : World) : Calls Try.prog 155 #[.int .u64 x, .int .u64 y] w fun e w' => e = .returned (.tuple #[.int .u64 0, .int .u64 (x * y)]) ∧ Ext w w' := by
  have hp : 0 ≤ x * y ∧ x * y ≤ 4294967295 * 4294967295 := ⟨Int.mul_nonneg h0 h2, Int.mul_le_mul (by omega) (by omega) h2 (by omega)⟩
  have hxy : InU (x * y) := ⟨by omega, by omega⟩
  refine enterQ (c := cx w 51) Try.func155 rfl rfl rfl rfl ?_
  repeat' (first | ((with_reducible apply oq_id); first | (apply oq_fn; exact rfl; first | exact trivial | (refine ⟨?_, ?_⟩ <;> omega) | (refine ⟨?_, ?_, ?_⟩ <;> omega) | omega | skip) | (focus ((with_reducible apply oq_shrLow); exact rfl; exact rfl; (refine ⟨?_, ?_⟩ <;> omega))) | (focus ((with_reducible apply oq_andLow); exact rfl; exact rfl; (refine ⟨?_, ?_⟩ <;> omega))) | (focus ((with_reducible apply oq_shr32); exact rfl; exact rfl; omega)) | (focus ((with_reducible apply oq_addU); exact rfl; exact rfl; (first | exact hxy | (refine ⟨?_, ?_⟩ <;> omega)))) | (focus ((with_reducible apply oq_mulU); exact rfl; exact rfl; (first | exact hxy | (refine ⟨?_, ?_⟩ <;> omega)))) | (focus ((with_reducible apply oq_convU); exact rfl; exact rfl; exact rfl; (refine ⟨?_, ?_⟩ <;> omega)))) | ((with_reducible apply tl_id); first | ((with_reducible apply tl_nil)) | ((with_reducible apply u_q); exact rfl; exact rfl; exact rfl; exact rfl) | ((with_reducible apply u_s); exact rfl; exact rfl; exact rfl)) | ((with_reducible apply t_id); first | ((with_reducible apply t_seq)) | (apply t_region; kernel_rfl) | ((with_reducible apply t_ret))) | with_reducible apply q_thenN | with_reducible apply q_thenR | exact P0 | ((with_reducible apply P1)) | ((with_reducible apply Norm.nil); exact rfl) | ((with_reducible apply Norm.cons); exact rfl) | ((with_reducible apply end_ret)) | ((with_reducible apply end_normal)) | exact rvs_nil | ((with_reducible apply rvs_cons)) | ((with_reducible apply rv_tmp); exact rfl) | exact Nat.le_of_ble_eq_true rfl | exact (rfl : (_ : Bool) = true) | omega | (intro _ _; with_reducible apply tl_id) | (intro _; with_reducible apply tl_id) | (intro _ _; with_reducible apply al_id) | (intro _; with_reducible apply al_id))
  all_goals rfl


theorem size_calls (n : Int) (h0 : -9223372036854775807 ≤ n) (h1 : n ≤ 9223372036854775807) (w : World) : Calls Try.prog 156 #[.int .i64 n] w fun e w' => e = .returned (.int .u64 (max n (-n))) ∧ Ext w w' := by
  refine enterQ (c := cx w 8) Try.func156 rfl rfl rfl rfl ?_
  repeat' (first | ((with_reducible apply oq_id); first | (apply oq_fn; exact rfl; first | exact trivial | (refine ⟨?_, ?_⟩ <;> omega) | (refine ⟨?_, ?_, ?_⟩ <;> omega) | omega | skip) | (focus ((with_reducible apply oq_shrLow); exact rfl; exact rfl; (refine ⟨?_, ?_⟩ <;> omega))) | (focus ((with_reducible apply oq_andLow); exact rfl; exact rfl; (refine ⟨?_, ?_⟩ <;> omega))) | (focus ((with_reducible apply oq_shr32); exact rfl; exact rfl; omega)) | (focus ((with_reducible apply oq_addU); exact rfl; exact rfl; (first | exact hxy | (refine ⟨?_, ?_⟩ <;> omega)))) | (focus ((with_reducible apply oq_mulU); exact rfl; exact rfl; (first | exact hxy | (refine ⟨?_, ?_⟩ <;> omega)))) | (focus ((with_reducible apply oq_convU); exact rfl; exact rfl; exact rfl; (refine ⟨?_, ?_⟩ <;> omega)))) | ((with_reducible apply tl_id); first | ((with_reducible apply tl_nil)) | ((with_reducible apply u_q); exact rfl; exact rfl; exact rfl; exact rfl) | ((with_reducible apply u_s0); exact rfl; exact rfl) | ((with_reducible apply u_s); exact rfl; exact rfl; exact rfl)) | ((with_reducible apply t_id); first | ((with_reducible apply t_seq)) | (apply t_region; kernel_rfl) | ((with_reducible apply t_ret))) | with_reducible apply q_thenN | with_reducible apply q_thenR | exact P0 | ((with_reducible apply P1)) | ((with_reducible apply Norm.nil); exact rfl) | ((with_reducible apply Norm.cons); exact rfl) | ((with_reducible apply end_ret)) | ((with_reducible apply end_normal)) | exact rvs_nil | ((with_reducible apply rvs_cons)) | ((with_reducible apply rv_tmp); exact rfl) | exact Nat.le_of_ble_eq_true rfl | exact (rfl : (_ : Bool) = true) | omega | (intro _ _; with_reducible apply tl_id) | (intro _; with_reducible apply tl_id) | (intro _ _; with_reducible apply al_id) | (intro _; with_reducible apply al_id))
  all_goals rfl


theorem div64_calls (m y : Int) (h0 : 0 ≤ m) (h1 : m < 18446744073709551616) (h2 : 0 < y) (w : World) : Calls Try.prog 157 #[.int .u64 0, .int .u64 m, .int .u64 y] w fun e w' => e = .returned (.tuple #[.int .u64 (m.tdiv y), .int .u64 (m.tmod y)]) ∧ Ext w w' := by
  have hq : InU (m.tdiv y) := by
    rw [Int.tdiv_eq_ediv_of_nonneg h0]
    have := Int.ediv_le_self y h0
    have := Int.ediv_nonneg h0 (Int.le_of_lt h2)
    exact ⟨by omega, by omega⟩
  refine enterQ (c := cx w 135) Try.func157 rfl rfl rfl rfl ?_
  repeat' (first | ((with_reducible apply oq_id); first | (apply oq_fn; exact rfl; first | exact trivial | (refine ⟨?_, ?_⟩ <;> omega) | (refine ⟨?_, ?_, ?_⟩ <;> omega) | omega | skip) | ((with_reducible apply oq_load); exact rfl; exact rfl) | ((with_reducible apply oq_loadAgg); exact rfl; exact rfl) | (focus ((with_reducible apply oq_quoU); exact rfl; exact rfl; omega; exact hq)) | (focus ((with_reducible apply oq_remU); exact rfl; exact rfl; omega))) | ((with_reducible apply tl_id); first | ((with_reducible apply tl_nil)) | ((with_reducible apply u_q); exact rfl; exact rfl; exact rfl; exact rfl) | ((with_reducible apply u_s0); exact rfl; exact rfl) | ((with_reducible apply u_s); exact rfl; exact rfl; exact rfl) | ((with_reducible apply u_skip); exact rfl; exact rfl; exact rfl) | ((with_reducible apply u_splitD); exact rfl; exact rfl; all_goals first | (intro hp; try (exfalso; omega)) | skip) | ((with_reducible apply u_splitN); exact rfl; exact rfl; all_goals first | (intro hp; try (exfalso; omega)) | skip) | ((with_reducible apply u_split); exact rfl; exact rfl; all_goals first | intro hp | skip)) | ((with_reducible apply gx_id); first | ((with_reducible apply v_nil)) | ((with_reducible apply v_q); exact rfl; exact rfl; exact rfl)) | ((with_reducible apply rd_id); first | (apply Rd.own; (repeat (first | exact P0 | apply P1)); exact rfl; done) | (apply Rd.old; (first | (with_reducible assumption)); first | exact List.not_mem_nil)) | ((with_reducible apply t_id); first | ((with_reducible apply t_seq)) | (apply t_region; kernel_rfl) | (apply t_drawn; kernel_rfl; decide +kernel) | ((with_reducible apply t_condT); exact rfl) | ((with_reducible apply t_condF); exact rfl) | ((with_reducible apply t_condD); exact rfl; all_goals first | (intro hp; try (exfalso; omega)) | skip) | ((with_reducible apply t_condN); exact rfl; all_goals first | (intro hp; try (exfalso; omega)) | skip) | ((with_reducible apply t_cond); exact rfl; all_goals first | intro hp | skip) | ((with_reducible apply t_ret)) | ((with_reducible apply t_skip)) | ((with_reducible apply t_exit)) | ((with_reducible apply t_block))) | with_reducible apply q_thenN | with_reducible apply q_thenR | with_reducible apply q_blockR | with_reducible apply q_blockN | with_reducible apply q_thenE | ((with_reducible apply q_blockE); exact rfl) | ((with_reducible apply q_blockO); exact rfl) | exact P0 | ((with_reducible apply P1)) | exact Rdn.zero | apply Rdn.succ | ((with_reducible apply Norm.nil); exact rfl) | ((with_reducible apply Norm.cons); exact rfl) | ((with_reducible apply end_ret)) | ((with_reducible apply end_normal)) | exact rvs_nil | ((with_reducible apply rvs_cons)) | ((with_reducible apply rv_tmp); exact rfl) | exact Nat.le_of_ble_eq_true rfl | exact (rfl : (_ : Bool) = true) | omega | (intro _ _; with_reducible apply tl_id) | (intro _; with_reducible apply tl_id) | (intro _ _; with_reducible apply al_id) | (intro _; with_reducible apply al_id))
  all_goals rfl


theorem oq_neqB {w : World} {N : Nat} {F : Fr} {H : Hp} {M : List Nat} {d : Option Tmp} {ty t' : TypeId} {pos : String} {af : Array Edge} {g : Option (Nat × Bool)} {x y : Operand} {a b : Bool}
    (hx : ev F x = some (.bool a)) (hy : ev F y = some (.bool b)) : OQ (cxM M w N) ⟨d, .binOp .neq 4 x y t', ty, pos, af, g⟩ F H (.bool (!(a == b))) := .of fun D act w ha _ => by
  have u4 := Try.underlying4
  have e : ∀ w, (binOp .neq 4 (.bool a) (.bool b)).run Try.prog w = .ok (.bool (!(a == b))) w := fun w => by
    have e0 : (Op.equalIn 10000 4 (.bool a) (.bool b)).run Try.prog w = .ok (a == b) w := run_equalIn_bool' (P := Try.prog) w 9999 4 a b u4
    simp only [binOp, Op.equal, Op.maxDepth, Sem.run_bind, e0, Result.andThen, Sem.run_pure]
  have e1 : ∀ w, (eqGuard .neq 4 x y (.bool a) (.bool b)).run Try.prog w = .ok () w := fun w => by simp [eqGuard, go_sem]
  simp only [execOp, ha.ev hx, ha.ev hy, Sem.run_bind, e, e1, Result.andThen, Sem.run_pure]
theorem share1_calls (x y : Int) (hx : -1000000 ≤ x ∧ x ≤ 1000000) (hy : -1000000 ≤ y ∧ y ≤ 1000000) (w : World) : Calls Try.prog 150 #[.int .i64 x, .int .i64 y, .int .i64 1] w fun e w' => e = .returned (.agg #[.int .i64 (x * y), .int .i64 (x * y)]) ∧ Ext w w' := by
  have hp : 0 ≤ max x (-x) * max y (-y) ∧ max x (-x) * max y (-y) ≤ 1000000 * 1000000 := ⟨Int.mul_nonneg (by omega) (by omega), Int.mul_le_mul (by omega) (by omega) (by omega) (by omega)⟩
  have D1 := fun w1 => div64_calls (max x (-x) * max y (-y)) 1 (by omega) (by omega) (by omega) w1
  rw [Int.tdiv_one, Int.tmod_one] at D1
  refine enterQ (c := cx w 64) Try.func150 rfl rfl rfl rfl ?_
  repeat' (first | ((with_reducible apply oq_id); first | (apply oq_fn; exact rfl; first | exact trivial | (refine ⟨?_, ?_⟩ <;> omega) | (refine ⟨?_, ?_, ?_⟩ <;> omega) | omega | skip) | ((with_reducible apply oq_load); exact rfl; exact rfl) | ((with_reducible apply oq_loadAgg); exact rfl; exact rfl) | (focus ((with_reducible apply oq_shrLow); exact rfl; exact rfl; (refine ⟨?_, ?_⟩ <;> omega))) | (focus ((with_reducible apply oq_andLow); exact rfl; exact rfl; (refine ⟨?_, ?_⟩ <;> omega))) | (focus ((with_reducible apply oq_shr32); exact rfl; exact rfl; omega)) | (focus ((with_reducible apply oq_addU); exact rfl; exact rfl; (first | exact hxy | (refine ⟨?_, ?_⟩ <;> omega)))) | (focus ((with_reducible apply oq_mulU); exact rfl; exact rfl; (first | exact hxy | (refine ⟨?_, ?_⟩ <;> omega)))) | (focus ((with_reducible apply oq_convU); exact rfl; exact rfl; exact rfl; (refine ⟨?_, ?_⟩ <;> omega))) | (focus ((with_reducible apply oq_neqB); exact rfl; exact rfl)) | ((with_reducible apply oq_call (k := 156) (hc := Try.call156)); exact rfl; exact rfl; exact fun D w1 hw1 => size_calls _ (by omega) (by omega) w1) | ((with_reducible apply oq_call (k := 155) (hc := Try.call155)); exact rfl; exact rfl; exact fun D w1 hw1 => mul64_calls _ _ (by omega) (by omega) (by omega) (by omega) w1) | ((with_reducible apply oq_call (k := 157) (hc := Try.call157)); exact rfl; exact rfl; exact fun D w1 hw1 => D1 w1) | ((with_reducible apply oq_build); exact rfl; exact rfl; exact rfl)) | ((with_reducible apply tl_id); first | ((with_reducible apply tl_nil)) | ((with_reducible apply u_q); exact rfl; exact rfl; exact rfl; exact rfl) | ((with_reducible apply u_s0); exact rfl; exact rfl) | ((with_reducible apply u_s); exact rfl; exact rfl; exact rfl)) | ((with_reducible apply os_id); first | ((with_reducible apply os_x); exact rfl) | ((with_reducible apply os_store); exact rfl; exact rfl; exact rfl; exact rfl) | ((with_reducible apply os_storeAgg); exact rfl; exact rfl; exact rfl; exact rfl; exact rfl)) | ((with_reducible apply ox_id); first | ((with_reducible apply ox_alloc); exact rfl; intro _)) | ((with_reducible apply rd_id); first | (apply Rd.own; (repeat (first | exact P0 | apply P1)); exact rfl; done) | (apply Rd.old; (first | (with_reducible assumption)); first | exact List.not_mem_nil)) | ((with_reducible apply t_id); first | ((with_reducible apply t_seq)) | (apply t_region; kernel_rfl) | ((with_reducible apply t_condT); exact rfl) | ((with_reducible apply t_condF); exact rfl) | ((with_reducible apply t_condD); exact rfl; all_goals first | (intro hp; try (exfalso; omega)) | skip) | ((with_reducible apply t_condN); exact rfl; all_goals first | (intro hp; try (exfalso; omega)) | skip) | ((with_reducible apply t_cond); exact rfl; all_goals first | intro hp | skip) | ((with_reducible apply t_ret)) | ((with_reducible apply t_skip))) | with_reducible apply q_thenN | with_reducible apply q_thenR | exact P0 | ((with_reducible apply P1)) | exact Rdn.zero | apply Rdn.succ | ((with_reducible apply Norm.nil); exact rfl) | ((with_reducible apply Norm.cons); exact rfl) | ((with_reducible apply end_ret)) | ((with_reducible apply end_normal)) | exact rvs_nil | ((with_reducible apply rvs_cons)) | ((with_reducible apply rv_cell); exact rfl; exact rfl) | ((with_reducible apply rv_cellAgg); exact rfl; exact rfl) | exact Nat.le_of_ble_eq_true rfl | exact (rfl : (_ : Bool) = true) | omega | (intro _ _; with_reducible apply tl_id) | (intro _; with_reducible apply tl_id) | (intro _ _; with_reducible apply al_id) | (intro _; with_reducible apply al_id))
  · have hs : max x (-x) * max y (-y) = -(x * y) := by
      rcases Int.lt_or_le x 0 with h | h <;> rcases Int.lt_or_le y 0 with h' | h'
      · simp [h, h'] at *
      · rw [Int.max_eq_right (by omega), Int.max_eq_left (by omega), Int.neg_mul]
      · rw [Int.max_eq_left (by omega), Int.max_eq_right (by omega), Int.mul_neg]
      · have h1 : ¬ x < 0 := by omega
        have h2 : ¬ y < 0 := by omega
        simp [h1, h2] at *
    rw [hs, Int.neg_neg]; rfl
  · have hs : max x (-x) * max y (-y) = x * y := by
      rcases Int.lt_or_le x 0 with h | h <;> rcases Int.lt_or_le y 0 with h' | h'
      · rw [Int.max_eq_right (by omega), Int.max_eq_right (by omega), Int.neg_mul_neg]
      · have h2 : ¬ y < 0 := by omega
        simp [h, h2] at *
      · have h1 : ¬ x < 0 := by omega
        simp [h1, h'] at *
      · rw [Int.max_eq_left (by omega), Int.max_eq_left (by omega)]
    rw [hs]; rfl

end Go.Proofs.Ytalidommelefaaa
