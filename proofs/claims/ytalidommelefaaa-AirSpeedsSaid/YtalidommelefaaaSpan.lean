/- Spans: valid ones, and roots. -/
import Derived.Test.YtalidommelefaaaSl7
import Derived.Test.YtalidommelefaaaSl8
import Derived.Test.YtalidommelefaaaTys
import Derived.Test.YtalidommelefaaaSpn
import Derived.Test.YtalidommelefaaaWalk1
namespace Go.Proofs.Ytalidommelefaaa
open Go.RowKit
attribute [local irreducible] OQ OS OX Rd T TL GX GL AL AI RV wpG SAny Calls
set_option maxRecDepth 100000
set_option maxHeartbeats 2000000
set_option linter.unusedVariables false
set_option linter.unusedSimpArgs false

/-- r is the root of n, rounded down. -/
def IsR (n r : Int) : Prop := 0 ≤ r ∧ r * r ≤ n ∧ n < (r + 1) * (r + 1)
theorem IsR.uniq {n r s : Int} (h : IsR n r) (k : IsR n s) : r = s := by
  have key : ∀ {r s : Int}, IsR n r → IsR n s → s ≤ r := fun {r s} h k => by
    rcases Int.lt_or_le r s with hlt | hle
    · have h1 : (r + 1) * (r + 1) ≤ s * s := Int.mul_le_mul (by omega) (by omega) (by have := h.1; omega) k.1
      have := h.2.2; have := k.2.1
      omega
    · exact hle
  have h1 := key h k
  have h2 := key k h
  omega
noncomputable def rt (n : Int) : Int := open Classical in if h : ∃ r, IsR n r then Classical.choose h else 0
theorem IsR.rt {n r : Int} (h : IsR n r) : rt n = r := by
  have hx : ∃ r, IsR n r := ⟨r, h⟩
  unfold Ytalidommelefaaa.rt
  rw [dif_pos hx]
  exact (Classical.choose_spec hx).uniq h


theorem root_calls (n : Int) (h0 : 0 ≤ n) (h1 : n ≤ 1099511627776) (w : World) : Calls Try.prog 136 #[.int .i64 n] w fun e w' => e = .returned (.int .i64 (rt n)) ∧ Ext w w' := by
  refine enterQ (c := cx w 22) Try.func136 rfl rfl rfl rfl ?_
  repeat' (first
    | ((with_reducible apply oq_id); first | (apply oq_fn; exact rfl; first | exact trivial | (refine ⟨?_, ?_⟩ <;> omega) | (refine ⟨?_, ?_, ?_⟩ <;> omega) | omega | skip) | ((with_reducible apply oq_load); exact rfl; exact rfl) | ((with_reducible apply oq_loadAgg); exact rfl; exact rfl) | ((with_reducible apply oq_build); exact rfl; exact rfl; exact rfl) | ((with_reducible apply oq_buildA); exact rfl; exact rfl; exact rfl; exact rfl) | ((with_reducible apply oq_fieldAgg); exact rfl; exact rfl; exact rfl) | ((with_reducible apply oq_indexAgg); exact rfl; exact rfl; exact rfl; exact rfl))
    | ((with_reducible apply tl_id); first | ((with_reducible apply tl_nil)) | ((with_reducible apply u_q); exact rfl; exact rfl; exact rfl; exact rfl) | ((with_reducible apply u_s0); exact rfl; exact rfl) | ((with_reducible apply u_s); exact rfl; exact rfl; exact rfl) | ((with_reducible apply u_skip); exact rfl; exact rfl; exact rfl) | ((with_reducible apply u_splitD); exact rfl; exact rfl; all_goals first | (intro hp; try (exfalso; omega)) | skip) | ((with_reducible apply u_splitN); exact rfl; exact rfl; all_goals first | (intro hp; try (exfalso; omega)) | skip) | ((with_reducible apply u_split); exact rfl; exact rfl; all_goals first | intro hp | skip))
    | ((with_reducible apply gx_id); first | ((with_reducible apply v_nil)) | ((with_reducible apply v_q); exact rfl; exact rfl; exact rfl) | ((with_reducible apply v_skip); exact rfl; exact rfl; exact rfl) | ((with_reducible apply v_splitD); exact rfl; exact rfl; all_goals first | (intro hp; try (exfalso; omega)) | skip) | ((with_reducible apply v_splitN); exact rfl; exact rfl; all_goals first | (intro hp; try (exfalso; omega)) | skip) | ((with_reducible apply v_split); exact rfl; exact rfl; all_goals first | intro hp | skip))
    | ((with_reducible apply os_id); first | ((with_reducible apply os_x); exact rfl) | ((with_reducible apply os_store); exact rfl; exact rfl; exact rfl; exact rfl) | ((with_reducible apply os_storeAgg); exact rfl; exact rfl; exact rfl; exact rfl; exact rfl))
    | ((with_reducible apply ox_id); first | ((with_reducible apply ox_alloc); exact rfl; intro _) | ((with_reducible apply ox_box); exact rfl; exact rfl; intro _) | ((with_reducible apply ox_boxAgg); exact rfl; intro _) | ((with_reducible apply ox_buildSlice1); exact rfl; exact rfl; exact rfl; exact rfl; exact rfl; exact rfl; intro _) | ((with_reducible apply ox_buildSlice2); exact rfl; exact rfl; exact rfl; exact rfl; exact rfl; exact rfl; intro _) | ((with_reducible apply ox_buildSlice); exact rfl; exact rfl; exact rfl; exact rfl))
    | ((with_reducible apply rd_id); first | (apply Rd.own; (repeat (first | exact P0 | apply P1)); exact rfl; done) | (apply Rd.old; (first | (with_reducible assumption) | exact c0 | exact c1 | exact c2 | exact c3 | exact c4 | exact c5 | exact c6 | exact c7 | exact c8 | exact d0 | exact d1 | exact d2 | exact d3 | exact d4 | exact d5); first | exact List.not_mem_nil | exact m0 | exact m1 | exact m2 | exact m3 | exact m4 | exact m5 | exact m6 | exact m7 | exact m8 | exact m9))
    | ((with_reducible apply t_id); first | ((with_reducible apply t_seq)) | (apply t_region; kernel_rfl) | (apply t_drawn; kernel_rfl; decide +kernel) | ((with_reducible apply t_condT); exact rfl) | ((with_reducible apply t_condF); exact rfl) | ((with_reducible apply t_condD); exact rfl; all_goals first | (intro hp; try (exfalso; omega)) | skip) | ((with_reducible apply t_condN); exact rfl; all_goals first | (intro hp; try (exfalso; omega)) | skip) | ((with_reducible apply t_cond); exact rfl; all_goals first | intro hp | skip) | ((with_reducible apply t_ret)) | ((with_reducible apply t_skip)) | ((with_reducible apply t_exit)) | ((with_reducible apply t_block)))
    | with_reducible apply q_thenN
    | with_reducible apply q_thenR
    | with_reducible apply q_blockR
    | with_reducible apply q_blockN
    | with_reducible apply q_thenE
    | ((with_reducible apply q_blockE); exact rfl)
    | ((with_reducible apply q_blockO); exact rfl)
    | exact P0
    | ((with_reducible apply P1))
    | exact Rdn.zero
    | apply Rdn.succ
    | ((with_reducible apply Norm.nil); exact rfl)
    | ((with_reducible apply Norm.cons); exact rfl)
    | ((with_reducible apply end_ret))
    | ((with_reducible apply end_normal))
    | exact rvs_nil
    | ((with_reducible apply rvs_cons))
    | ((with_reducible apply rv_tmp); exact rfl)
    | ((with_reducible apply rv_cell); exact rfl; exact rfl)
    | ((with_reducible apply rv_cellAgg); exact rfl; exact rfl)
    | exact Nat.le_of_ble_eq_true rfl
    | exact (rfl : (_ : Bool) = true)
    | omega
    | (intro _ _; with_reducible apply tl_id)
    | (intro _; with_reducible apply tl_id)
    | (intro _ _; with_reducible apply al_id)
    | (intro _; with_reducible apply al_id))
  apply t_loopK (ι := (Int × Int)) [0, 2, 21] (fun (i : Int × Int) => [(3, .int .i64 i.1), (4, .int .i64 i.2)]) (fun _ => []) (fun i => 0 ≤ i.1 ∧ i.1 < i.2 ∧ i.2 ≤ 1048577 ∧ i.1 * i.1 ≤ n ∧ n < i.2 * i.2) (fun i => (i.2 - i.1).toNat) ((0, 1048577))
  (repeat (first | exact KeepF.nil | (apply KeepF.cons; exact rfl) | apply KeepF.skip))
  (repeat (first | exact FrSub.nil | (apply FrSub.cons; exact rfl)))
  (repeat (first | exact HpSub.refl _ | (apply HpSub.consE; (repeat (first | exact P0 | apply P1)); exact rfl) | exact HpSub.nil))
  · simp only; omega
  rintro ⟨a, b⟩ ⟨i0, i1, i2, i3, i4⟩
  simp only at i0 i1 i2 i3 i4
  obtain ⟨m, hm⟩ : ∃ m, m = (a + b).tdiv 2 := ⟨_, rfl⟩
  have hm0 : a ≤ m ∧ m ≤ b ∧ (1 < b - a → a < m ∧ m < b) := by
    rw [Int.tdiv_eq_ediv_of_nonneg (by omega)] at hm
    omega
  have hmm : InR (m * m) := by
    have : m * m ≤ 1048577 * 1048577 := Int.mul_le_mul (by omega) (by omega) (by omega) (by omega)
    have : 0 ≤ m * m := Int.mul_nonneg (by omega) (by omega)
    exact ⟨by omega, by omega⟩
  rw [hm] at hmm
  dsimp only
  repeat' (first
    | ((with_reducible apply oq_id); first | (apply oq_fn; exact rfl; first | exact trivial | (refine ⟨?_, ?_⟩ <;> omega) | (refine ⟨?_, ?_, ?_⟩ <;> omega) | omega | skip) | ((with_reducible apply oq_load); exact rfl; exact rfl) | ((with_reducible apply oq_loadAgg); exact rfl; exact rfl) | ((with_reducible apply oq_build); exact rfl; exact rfl; exact rfl) | ((with_reducible apply oq_buildA); exact rfl; exact rfl; exact rfl; exact rfl) | ((with_reducible apply oq_fieldAgg); exact rfl; exact rfl; exact rfl) | ((with_reducible apply oq_indexAgg); exact rfl; exact rfl; exact rfl; exact rfl))
    | ((with_reducible apply tl_id); first | ((with_reducible apply tl_nil)) | ((with_reducible apply u_q); exact rfl; exact rfl; exact rfl; exact rfl) | ((with_reducible apply u_s0); exact rfl; exact rfl) | ((with_reducible apply u_s); exact rfl; exact rfl; exact rfl) | ((with_reducible apply u_skip); exact rfl; exact rfl; exact rfl) | ((with_reducible apply u_splitD); exact rfl; exact rfl; all_goals first | (intro hp; try (exfalso; omega)) | skip) | ((with_reducible apply u_splitN); exact rfl; exact rfl; all_goals first | (intro hp; try (exfalso; omega)) | skip) | ((with_reducible apply u_split); exact rfl; exact rfl; all_goals first | intro hp | skip))
    | ((with_reducible apply gx_id); first | ((with_reducible apply v_nil)) | ((with_reducible apply v_q); exact rfl; exact rfl; exact rfl) | ((with_reducible apply v_skip); exact rfl; exact rfl; exact rfl) | ((with_reducible apply v_splitD); exact rfl; exact rfl; all_goals first | (intro hp; try (exfalso; omega)) | skip) | ((with_reducible apply v_splitN); exact rfl; exact rfl; all_goals first | (intro hp; try (exfalso; omega)) | skip) | ((with_reducible apply v_split); exact rfl; exact rfl; all_goals first | intro hp | skip))
    | ((with_reducible apply os_id); first | ((with_reducible apply os_x); exact rfl) | ((with_reducible apply os_store); exact rfl; exact rfl; exact rfl; exact rfl) | ((with_reducible apply os_storeAgg); exact rfl; exact rfl; exact rfl; exact rfl; exact rfl))
    | ((with_reducible apply ox_id); first | ((with_reducible apply ox_alloc); exact rfl; intro _) | ((with_reducible apply ox_box); exact rfl; exact rfl; intro _) | ((with_reducible apply ox_boxAgg); exact rfl; intro _) | ((with_reducible apply ox_buildSlice1); exact rfl; exact rfl; exact rfl; exact rfl; exact rfl; exact rfl; intro _) | ((with_reducible apply ox_buildSlice2); exact rfl; exact rfl; exact rfl; exact rfl; exact rfl; exact rfl; intro _) | ((with_reducible apply ox_buildSlice); exact rfl; exact rfl; exact rfl; exact rfl))
    | ((with_reducible apply rd_id); first | (apply Rd.own; (repeat (first | exact P0 | apply P1)); exact rfl; done) | (apply Rd.old; (first | (with_reducible assumption) | exact c0 | exact c1 | exact c2 | exact c3 | exact c4 | exact c5 | exact c6 | exact c7 | exact c8 | exact d0 | exact d1 | exact d2 | exact d3 | exact d4 | exact d5); first | exact List.not_mem_nil | exact m0 | exact m1 | exact m2 | exact m3 | exact m4 | exact m5 | exact m6 | exact m7 | exact m8 | exact m9))
    | ((with_reducible apply t_id); first | ((with_reducible apply t_seq)) | (apply t_region; kernel_rfl) | (apply t_drawn; kernel_rfl; decide +kernel) | ((with_reducible apply t_condT); exact rfl) | ((with_reducible apply t_condF); exact rfl) | ((with_reducible apply t_condD); exact rfl; all_goals first | (intro hp; try (exfalso; omega)) | skip) | ((with_reducible apply t_condN); exact rfl; all_goals first | (intro hp; try (exfalso; omega)) | skip) | ((with_reducible apply t_cond); exact rfl; all_goals first | intro hp | skip) | ((with_reducible apply t_ret)) | ((with_reducible apply t_skip)) | ((with_reducible apply t_exit)) | ((with_reducible apply t_block)))
    | with_reducible apply q_thenN
    | with_reducible apply q_thenR
    | with_reducible apply q_blockR
    | with_reducible apply q_blockN
    | with_reducible apply q_thenE
    | ((with_reducible apply q_blockE); exact rfl)
    | ((with_reducible apply q_blockO); exact rfl)
    | exact P0
    | ((with_reducible apply P1))
    | exact Rdn.zero
    | apply Rdn.succ
    | ((with_reducible apply Norm.nil); exact rfl)
    | ((with_reducible apply Norm.cons); exact rfl)
    | ((with_reducible apply end_ret))
    | ((with_reducible apply end_normal))
    | exact rvs_nil
    | ((with_reducible apply rvs_cons))
    | ((with_reducible apply rv_tmp); exact rfl)
    | ((with_reducible apply rv_cell); exact rfl; exact rfl)
    | ((with_reducible apply rv_cellAgg); exact rfl; exact rfl)
    | exact hmm
    | exact Nat.le_of_ble_eq_true rfl
    | exact (rfl : (_ : Bool) = true)
    | omega
    | (intro _ _; with_reducible apply tl_id)
    | (intro _; with_reducible apply tl_id)
    | (intro _ _; with_reducible apply al_id)
    | (intro _; with_reducible apply al_id))
  · rw [← hm] at *
    refine ⟨(m, b), ⟨by simp only; omega, by simp only; omega, i2, hp, i4⟩, by simp only; omega, ?_, ?_⟩
    · (repeat (first | exact FrSub.nil | (apply FrSub.cons; exact rfl)))
    · (repeat (first | exact HpSub.refl _ | (apply HpSub.consE; (repeat (first | exact P0 | apply P1)); exact rfl) | exact HpSub.nil))
  · rw [← hm] at *
    refine ⟨(a, m), ⟨i0, by simp only; omega, by simp only; omega, i3, by simp only; omega⟩, by simp only; omega, ?_, ?_⟩
    · (repeat (first | exact FrSub.nil | (apply FrSub.cons; exact rfl)))
    · (repeat (first | exact HpSub.refl _ | (apply HpSub.consE; (repeat (first | exact P0 | apply P1)); exact rfl) | exact HpSub.nil))
  · obtain rfl : b = a + 1 := by omega
    rw [IsR.rt ⟨i0, i3, i4⟩]; rfl


theorem sqrt_calls (n : Int) (h0 : 0 ≤ n) (h1 : n ≤ 1099511627776) (w : World) : Calls Try.prog 137 #[.int .i64 n] w fun e w' => e = .returned (.int .i64 (rt n)) ∧ Ext w w' := by
  refine enterQ (c := cx w 22) Try.func137 rfl rfl rfl rfl ?_
  repeat' (first
    | ((with_reducible apply oq_id); first | (apply oq_fn; exact rfl; first | exact trivial | (refine ⟨?_, ?_⟩ <;> omega) | (refine ⟨?_, ?_, ?_⟩ <;> omega) | omega | skip) | ((with_reducible apply oq_load); exact rfl; exact rfl) | ((with_reducible apply oq_loadAgg); exact rfl; exact rfl) | ((with_reducible apply oq_build); exact rfl; exact rfl; exact rfl) | ((with_reducible apply oq_buildA); exact rfl; exact rfl; exact rfl; exact rfl) | ((with_reducible apply oq_fieldAgg); exact rfl; exact rfl; exact rfl) | ((with_reducible apply oq_indexAgg); exact rfl; exact rfl; exact rfl; exact rfl))
    | ((with_reducible apply tl_id); first | ((with_reducible apply tl_nil)) | ((with_reducible apply u_q); exact rfl; exact rfl; exact rfl; exact rfl) | ((with_reducible apply u_s0); exact rfl; exact rfl) | ((with_reducible apply u_s); exact rfl; exact rfl; exact rfl) | ((with_reducible apply u_skip); exact rfl; exact rfl; exact rfl) | ((with_reducible apply u_splitD); exact rfl; exact rfl; all_goals first | (intro hp; try (exfalso; omega)) | skip) | ((with_reducible apply u_splitN); exact rfl; exact rfl; all_goals first | (intro hp; try (exfalso; omega)) | skip) | ((with_reducible apply u_split); exact rfl; exact rfl; all_goals first | intro hp | skip))
    | ((with_reducible apply gx_id); first | ((with_reducible apply v_nil)) | ((with_reducible apply v_q); exact rfl; exact rfl; exact rfl) | ((with_reducible apply v_skip); exact rfl; exact rfl; exact rfl) | ((with_reducible apply v_splitD); exact rfl; exact rfl; all_goals first | (intro hp; try (exfalso; omega)) | skip) | ((with_reducible apply v_splitN); exact rfl; exact rfl; all_goals first | (intro hp; try (exfalso; omega)) | skip) | ((with_reducible apply v_split); exact rfl; exact rfl; all_goals first | intro hp | skip))
    | ((with_reducible apply os_id); first | ((with_reducible apply os_x); exact rfl) | ((with_reducible apply os_store); exact rfl; exact rfl; exact rfl; exact rfl) | ((with_reducible apply os_storeAgg); exact rfl; exact rfl; exact rfl; exact rfl; exact rfl))
    | ((with_reducible apply ox_id); first | ((with_reducible apply ox_alloc); exact rfl; intro _) | ((with_reducible apply ox_box); exact rfl; exact rfl; intro _) | ((with_reducible apply ox_boxAgg); exact rfl; intro _) | ((with_reducible apply ox_buildSlice1); exact rfl; exact rfl; exact rfl; exact rfl; exact rfl; exact rfl; intro _) | ((with_reducible apply ox_buildSlice2); exact rfl; exact rfl; exact rfl; exact rfl; exact rfl; exact rfl; intro _) | ((with_reducible apply ox_buildSlice); exact rfl; exact rfl; exact rfl; exact rfl))
    | ((with_reducible apply rd_id); first | (apply Rd.own; (repeat (first | exact P0 | apply P1)); exact rfl; done) | (apply Rd.old; (first | (with_reducible assumption) | exact c0 | exact c1 | exact c2 | exact c3 | exact c4 | exact c5 | exact c6 | exact c7 | exact c8 | exact d0 | exact d1 | exact d2 | exact d3 | exact d4 | exact d5); first | exact List.not_mem_nil | exact m0 | exact m1 | exact m2 | exact m3 | exact m4 | exact m5 | exact m6 | exact m7 | exact m8 | exact m9))
    | ((with_reducible apply t_id); first | ((with_reducible apply t_seq)) | (apply t_region; kernel_rfl) | (apply t_drawn; kernel_rfl; decide +kernel) | ((with_reducible apply t_condT); exact rfl) | ((with_reducible apply t_condF); exact rfl) | ((with_reducible apply t_condD); exact rfl; all_goals first | (intro hp; try (exfalso; omega)) | skip) | ((with_reducible apply t_condN); exact rfl; all_goals first | (intro hp; try (exfalso; omega)) | skip) | ((with_reducible apply t_cond); exact rfl; all_goals first | intro hp | skip) | ((with_reducible apply t_ret)) | ((with_reducible apply t_skip)) | ((with_reducible apply t_exit)) | ((with_reducible apply t_block)))
    | with_reducible apply q_thenN
    | with_reducible apply q_thenR
    | with_reducible apply q_blockR
    | with_reducible apply q_blockN
    | with_reducible apply q_thenE
    | ((with_reducible apply q_blockE); exact rfl)
    | ((with_reducible apply q_blockO); exact rfl)
    | exact P0
    | ((with_reducible apply P1))
    | exact Rdn.zero
    | apply Rdn.succ
    | ((with_reducible apply Norm.nil); exact rfl)
    | ((with_reducible apply Norm.cons); exact rfl)
    | ((with_reducible apply end_ret))
    | ((with_reducible apply end_normal))
    | exact rvs_nil
    | ((with_reducible apply rvs_cons))
    | ((with_reducible apply rv_tmp); exact rfl)
    | ((with_reducible apply rv_cell); exact rfl; exact rfl)
    | ((with_reducible apply rv_cellAgg); exact rfl; exact rfl)
    | exact Nat.le_of_ble_eq_true rfl
    | exact (rfl : (_ : Bool) = true)
    | omega
    | (intro _ _; with_reducible apply tl_id)
    | (intro _; with_reducible apply tl_id)
    | (intro _ _; with_reducible apply al_id)
    | (intro _; with_reducible apply al_id))
  apply t_loopK (ι := (Int × Int × Nat)) [0, 2, 21] (fun (i : Int × Int × Nat) => [(3, .int .i64 i.1), (4, .int .i64 i.2.1)]) (fun _ => []) (fun i => 0 ≤ i.1 ∧ i.1 * i.1 ≤ n ∧ i.2.1 = (2 : Int) ^ i.2.2 / 2 ∧ n < (i.1 + (2 : Int) ^ i.2.2) * (i.1 + (2 : Int) ^ i.2.2) ∧ i.1 + (2 : Int) ^ i.2.2 ≤ 2097152) (fun i => i.2.2) ((0, 1048576, 21))
  (repeat (first | exact KeepF.nil | (apply KeepF.cons; exact rfl) | apply KeepF.skip))
  (repeat (first | exact FrSub.nil | (apply FrSub.cons; exact rfl)))
  (repeat (first | exact HpSub.refl _ | (apply HpSub.consE; (repeat (first | exact P0 | apply P1)); exact rfl) | exact HpSub.nil))
  · simp only; refine ⟨by omega, by omega, by decide, ?_, by decide⟩
    have : ((0 : Int) + 2 ^ 21) * (0 + 2 ^ 21) = 4398046511104 := by decide
    omega
  rintro ⟨r, b, e⟩ ⟨i0, i1, i2, i3, i4⟩
  simp only at i0 i1 i2 i3 i4
  have hP : (1 : Int) ≤ 2 ^ e := Int.pow_pos (by omega)
  have hb : 0 < b → ∃ e', e = e' + 1 ∧ b = 2 ^ e' ∧ (2 : Int) ^ e = 2 * 2 ^ e' ∧ b.tdiv 2 = 2 ^ e' / 2 := fun h => by
    cases e with
    | zero => simp at i2; omega
    | succ e' =>
      have h2 : (2 : Int) ^ (e' + 1) = 2 * 2 ^ e' := by rw [Int.pow_succ, Int.mul_comm]
      have h3 : b = 2 ^ e' := by rw [i2, h2]; omega
      exact ⟨e', rfl, h3, h2, by rw [h3, Int.tdiv_eq_ediv_of_nonneg (by have : (0 : Int) < 2 ^ e' := Int.pow_pos (by omega)
                                                                        omega)]⟩
  have hb0 : 0 ≤ b := by rw [i2]; omega
  have hmm : InR ((r + b) * (r + b)) := by
    have : (r + b) * (r + b) ≤ 2097152 * 2097152 := Int.mul_le_mul (by omega) (by omega) (by omega) (by omega)
    have : 0 ≤ (r + b) * (r + b) := Int.mul_nonneg (by omega) (by omega)
    exact ⟨by omega, by omega⟩
  dsimp only
  repeat' (first
    | ((with_reducible apply oq_id); first | (apply oq_fn; exact rfl; first | exact trivial | (refine ⟨?_, ?_⟩ <;> omega) | (refine ⟨?_, ?_, ?_⟩ <;> omega) | omega | skip) | ((with_reducible apply oq_load); exact rfl; exact rfl) | ((with_reducible apply oq_loadAgg); exact rfl; exact rfl) | ((with_reducible apply oq_build); exact rfl; exact rfl; exact rfl) | ((with_reducible apply oq_buildA); exact rfl; exact rfl; exact rfl; exact rfl) | ((with_reducible apply oq_fieldAgg); exact rfl; exact rfl; exact rfl) | ((with_reducible apply oq_indexAgg); exact rfl; exact rfl; exact rfl; exact rfl))
    | ((with_reducible apply tl_id); first | ((with_reducible apply tl_nil)) | ((with_reducible apply u_q); exact rfl; exact rfl; exact rfl; exact rfl) | ((with_reducible apply u_s0); exact rfl; exact rfl) | ((with_reducible apply u_s); exact rfl; exact rfl; exact rfl) | ((with_reducible apply u_skip); exact rfl; exact rfl; exact rfl) | ((with_reducible apply u_splitD); exact rfl; exact rfl; all_goals first | (intro hp; try (exfalso; omega)) | skip) | ((with_reducible apply u_splitN); exact rfl; exact rfl; all_goals first | (intro hp; try (exfalso; omega)) | skip) | ((with_reducible apply u_split); exact rfl; exact rfl; all_goals first | intro hp | skip))
    | ((with_reducible apply gx_id); first | ((with_reducible apply v_nil)) | ((with_reducible apply v_q); exact rfl; exact rfl; exact rfl) | ((with_reducible apply v_skip); exact rfl; exact rfl; exact rfl) | ((with_reducible apply v_splitD); exact rfl; exact rfl; all_goals first | (intro hp; try (exfalso; omega)) | skip) | ((with_reducible apply v_splitN); exact rfl; exact rfl; all_goals first | (intro hp; try (exfalso; omega)) | skip) | ((with_reducible apply v_split); exact rfl; exact rfl; all_goals first | intro hp | skip))
    | ((with_reducible apply os_id); first | ((with_reducible apply os_x); exact rfl) | ((with_reducible apply os_store); exact rfl; exact rfl; exact rfl; exact rfl) | ((with_reducible apply os_storeAgg); exact rfl; exact rfl; exact rfl; exact rfl; exact rfl))
    | ((with_reducible apply ox_id); first | ((with_reducible apply ox_alloc); exact rfl; intro _) | ((with_reducible apply ox_box); exact rfl; exact rfl; intro _) | ((with_reducible apply ox_boxAgg); exact rfl; intro _) | ((with_reducible apply ox_buildSlice1); exact rfl; exact rfl; exact rfl; exact rfl; exact rfl; exact rfl; intro _) | ((with_reducible apply ox_buildSlice2); exact rfl; exact rfl; exact rfl; exact rfl; exact rfl; exact rfl; intro _) | ((with_reducible apply ox_buildSlice); exact rfl; exact rfl; exact rfl; exact rfl))
    | ((with_reducible apply rd_id); first | (apply Rd.own; (repeat (first | exact P0 | apply P1)); exact rfl; done) | (apply Rd.old; (first | (with_reducible assumption) | exact c0 | exact c1 | exact c2 | exact c3 | exact c4 | exact c5 | exact c6 | exact c7 | exact c8 | exact d0 | exact d1 | exact d2 | exact d3 | exact d4 | exact d5); first | exact List.not_mem_nil | exact m0 | exact m1 | exact m2 | exact m3 | exact m4 | exact m5 | exact m6 | exact m7 | exact m8 | exact m9))
    | ((with_reducible apply t_id); first | ((with_reducible apply t_seq)) | (apply t_region; kernel_rfl) | (apply t_drawn; kernel_rfl; decide +kernel) | ((with_reducible apply t_condT); exact rfl) | ((with_reducible apply t_condF); exact rfl) | ((with_reducible apply t_condD); exact rfl; all_goals first | (intro hp; try (exfalso; omega)) | skip) | ((with_reducible apply t_condN); exact rfl; all_goals first | (intro hp; try (exfalso; omega)) | skip) | ((with_reducible apply t_cond); exact rfl; all_goals first | intro hp | skip) | ((with_reducible apply t_ret)) | ((with_reducible apply t_skip)) | ((with_reducible apply t_exit)) | ((with_reducible apply t_block)))
    | with_reducible apply q_thenN
    | with_reducible apply q_thenR
    | with_reducible apply q_blockR
    | with_reducible apply q_blockN
    | with_reducible apply q_thenE
    | ((with_reducible apply q_blockE); exact rfl)
    | ((with_reducible apply q_blockO); exact rfl)
    | exact P0
    | ((with_reducible apply P1))
    | exact Rdn.zero
    | apply Rdn.succ
    | ((with_reducible apply Norm.nil); exact rfl)
    | ((with_reducible apply Norm.cons); exact rfl)
    | ((with_reducible apply end_ret))
    | ((with_reducible apply end_normal))
    | exact rvs_nil
    | ((with_reducible apply rvs_cons))
    | ((with_reducible apply rv_tmp); exact rfl)
    | ((with_reducible apply rv_cell); exact rfl; exact rfl)
    | ((with_reducible apply rv_cellAgg); exact rfl; exact rfl)
    | exact hmm
    | exact Nat.le_of_ble_eq_true rfl
    | exact (rfl : (_ : Bool) = true)
    | omega
    | (intro _ _; with_reducible apply tl_id)
    | (intro _; with_reducible apply tl_id)
    | (intro _ _; with_reducible apply al_id)
    | (intro _; with_reducible apply al_id))
  · obtain ⟨e', rfl, hb1, hb2, hb3⟩ := hb (by assumption)
    refine ⟨(r + b, b.tdiv 2, e'), ⟨by simp only; omega, by assumption, hb3, ?_, by simp only; omega⟩, by simp only; omega, ?_, ?_⟩
    · simp only
      rw [show r + b + 2 ^ e' = r + 2 ^ (e' + 1) by omega]; exact i3
    · (repeat (first | exact FrSub.nil | (apply FrSub.cons; exact rfl)))
    · (repeat (first | exact HpSub.refl _ | (apply HpSub.consE; (repeat (first | exact P0 | apply P1)); exact rfl) | exact HpSub.nil))
  · obtain ⟨e', rfl, hb1, hb2, hb3⟩ := hb (by assumption)
    refine ⟨(r, b.tdiv 2, e'), ⟨i0, i1, hb3, ?_, by simp only; omega⟩, by simp only; omega, ?_, ?_⟩
    · simp only
      rw [← hb1]; omega
    · (repeat (first | exact FrSub.nil | (apply FrSub.cons; exact rfl)))
    · (repeat (first | exact HpSub.refl _ | (apply HpSub.consE; (repeat (first | exact P0 | apply P1)); exact rfl) | exact HpSub.nil))
  · have he : e = 0 := by
      cases e with
      | zero => rfl
      | succ e' =>
        have h2 : (2 : Int) ^ (e' + 1) = 2 * 2 ^ e' := by rw [Int.pow_succ, Int.mul_comm]
        have : (1 : Int) ≤ 2 ^ e' := Int.pow_pos (by omega)
        omega
    subst he
    rw [IsR.rt ⟨i0, i1, by simpa using i3⟩]; rfl


/-- A span that is valid. -/
def fineS (s : Int × Int) : Bool := decide (s.1 ≤ s.2) && (decide (-1099511627776 ≤ s.1) && decide (s.2 ≤ 1099511627776))
theorem fineS_iff (s : Int × Int) : fineS s = true ↔ s.1 ≤ s.2 ∧ -1099511627776 ≤ s.1 ∧ s.2 ≤ 1099511627776 := by
  unfold fineS; simp [Bool.and_eq_true]


theorem within1_calls (n lo hi : Int) (w : World) : Calls Try.prog 145 #[.int .i64 n, .int .i64 lo, .int .i64 hi] w fun e w' => e = .returned (.bool (decide (lo ≤ n ∧ n ≤ hi))) ∧ Ext w w' := by
  refine enterQ (c := cx w 15) Try.func145 rfl rfl rfl rfl ?_
  repeat' (first
    | ((with_reducible apply oq_id); first | (apply oq_fn; exact rfl; first | exact trivial | (refine ⟨?_, ?_⟩ <;> omega) | (refine ⟨?_, ?_, ?_⟩ <;> omega) | omega | skip) | ((with_reducible apply oq_load); exact rfl; exact rfl) | ((with_reducible apply oq_loadAgg); exact rfl; exact rfl) | ((with_reducible apply oq_build); exact rfl; exact rfl; exact rfl) | ((with_reducible apply oq_buildA); exact rfl; exact rfl; exact rfl; exact rfl) | ((with_reducible apply oq_fieldAgg); exact rfl; exact rfl; exact rfl) | ((with_reducible apply oq_indexAgg); exact rfl; exact rfl; exact rfl; exact rfl))
    | ((with_reducible apply tl_id); first | ((with_reducible apply tl_nil)) | ((with_reducible apply u_q); exact rfl; exact rfl; exact rfl; exact rfl) | ((with_reducible apply u_s0); exact rfl; exact rfl) | ((with_reducible apply u_s); exact rfl; exact rfl; exact rfl) | ((with_reducible apply u_skip); exact rfl; exact rfl; exact rfl) | ((with_reducible apply u_splitD); exact rfl; exact rfl; all_goals first | (intro hp; try (exfalso; omega)) | skip) | ((with_reducible apply u_splitN); exact rfl; exact rfl; all_goals first | (intro hp; try (exfalso; omega)) | skip) | ((with_reducible apply u_split); exact rfl; exact rfl; all_goals first | intro hp | skip))
    | ((with_reducible apply gx_id); first | ((with_reducible apply v_nil)) | ((with_reducible apply v_q); exact rfl; exact rfl; exact rfl) | ((with_reducible apply v_skip); exact rfl; exact rfl; exact rfl) | ((with_reducible apply v_splitD); exact rfl; exact rfl; all_goals first | (intro hp; try (exfalso; omega)) | skip) | ((with_reducible apply v_splitN); exact rfl; exact rfl; all_goals first | (intro hp; try (exfalso; omega)) | skip) | ((with_reducible apply v_split); exact rfl; exact rfl; all_goals first | intro hp | skip))
    | ((with_reducible apply os_id); first | ((with_reducible apply os_x); exact rfl) | ((with_reducible apply os_store); exact rfl; exact rfl; exact rfl; exact rfl) | ((with_reducible apply os_storeAgg); exact rfl; exact rfl; exact rfl; exact rfl; exact rfl))
    | ((with_reducible apply ox_id); first | ((with_reducible apply ox_alloc); exact rfl; intro _) | ((with_reducible apply ox_box); exact rfl; exact rfl; intro _) | ((with_reducible apply ox_boxAgg); exact rfl; intro _) | ((with_reducible apply ox_buildSlice1); exact rfl; exact rfl; exact rfl; exact rfl; exact rfl; exact rfl; intro _) | ((with_reducible apply ox_buildSlice2); exact rfl; exact rfl; exact rfl; exact rfl; exact rfl; exact rfl; intro _) | ((with_reducible apply ox_buildSlice); exact rfl; exact rfl; exact rfl; exact rfl))
    | ((with_reducible apply rd_id); first | (apply Rd.own; (repeat (first | exact P0 | apply P1)); exact rfl; done) | (apply Rd.old; (first | (with_reducible assumption) | exact c0 | exact c1 | exact c2 | exact c3 | exact c4 | exact c5 | exact c6 | exact c7 | exact c8 | exact d0 | exact d1 | exact d2 | exact d3 | exact d4 | exact d5); first | exact List.not_mem_nil | exact m0 | exact m1 | exact m2 | exact m3 | exact m4 | exact m5 | exact m6 | exact m7 | exact m8 | exact m9))
    | ((with_reducible apply t_id); first | ((with_reducible apply t_seq)) | (apply t_region; kernel_rfl) | (apply t_drawn; kernel_rfl; decide +kernel) | ((with_reducible apply t_condT); exact rfl) | ((with_reducible apply t_condF); exact rfl) | ((with_reducible apply t_condD); exact rfl; all_goals first | (intro hp; try (exfalso; omega)) | skip) | ((with_reducible apply t_condN); exact rfl; all_goals first | (intro hp; try (exfalso; omega)) | skip) | ((with_reducible apply t_cond); exact rfl; all_goals first | intro hp | skip) | ((with_reducible apply t_ret)) | ((with_reducible apply t_skip)) | ((with_reducible apply t_exit)) | ((with_reducible apply t_block)))
    | with_reducible apply q_thenN
    | with_reducible apply q_thenR
    | with_reducible apply q_blockR
    | with_reducible apply q_blockN
    | with_reducible apply q_thenE
    | ((with_reducible apply q_blockE); exact rfl)
    | ((with_reducible apply q_blockO); exact rfl)
    | exact P0
    | ((with_reducible apply P1))
    | exact Rdn.zero
    | apply Rdn.succ
    | ((with_reducible apply Norm.nil); exact rfl)
    | ((with_reducible apply Norm.cons); exact rfl)
    | ((with_reducible apply end_ret))
    | ((with_reducible apply end_normal))
    | exact rvs_nil
    | ((with_reducible apply rvs_cons))
    | ((with_reducible apply rv_tmp); exact rfl)
    | ((with_reducible apply rv_cell); exact rfl; exact rfl)
    | ((with_reducible apply rv_cellAgg); exact rfl; exact rfl)
    | exact Nat.le_of_ble_eq_true rfl
    | exact (rfl : (_ : Bool) = true)
    | omega
    | (intro _ _; with_reducible apply tl_id)
    | (intro _; with_reducible apply tl_id)
    | (intro _ _; with_reducible apply al_id)
    | (intro _; with_reducible apply al_id))
  all_goals (show Value.bool _ = Value.bool _; congr 1; rw [Bool.eq_iff_iff]; simp; try omega)


theorem valid_calls (s : Int × Int) (w : World) : Calls Try.prog 128 #[.agg #[.int .i64 s.1, .int .i64 s.2]] w fun e w' => e = .returned (.bool (fineS s)) ∧ Ext w w' := by
  refine enterQ (c := cx w 18) Try.func128 rfl rfl rfl rfl ?_
  repeat' (first
    | ((with_reducible apply oq_id); first | (apply oq_fn; exact rfl; first | exact trivial | (refine ⟨?_, ?_⟩ <;> omega) | (refine ⟨?_, ?_, ?_⟩ <;> omega) | omega | skip) | ((with_reducible apply oq_load); exact rfl; exact rfl) | ((with_reducible apply oq_loadAgg); exact rfl; exact rfl) | ((with_reducible apply oq_call (k := 145) (hc := Try.call145)); exact rfl; exact rfl; exact fun D w1 hw1 => within1_calls _ _ _ w1) | ((with_reducible apply oq_build); exact rfl; exact rfl; exact rfl) | ((with_reducible apply oq_buildA); exact rfl; exact rfl; exact rfl; exact rfl) | ((with_reducible apply oq_fieldAgg); exact rfl; exact rfl; exact rfl) | ((with_reducible apply oq_indexAgg); exact rfl; exact rfl; exact rfl; exact rfl))
    | ((with_reducible apply tl_id); first | ((with_reducible apply tl_nil)) | ((with_reducible apply u_q); exact rfl; exact rfl; exact rfl; exact rfl) | ((with_reducible apply u_s0); exact rfl; exact rfl) | ((with_reducible apply u_s); exact rfl; exact rfl; exact rfl) | ((with_reducible apply u_skip); exact rfl; exact rfl; exact rfl) | ((with_reducible apply u_splitD); exact rfl; exact rfl; all_goals first | (intro hp; try (exfalso; omega)) | skip) | ((with_reducible apply u_splitN); exact rfl; exact rfl; all_goals first | (intro hp; try (exfalso; omega)) | skip) | ((with_reducible apply u_split); exact rfl; exact rfl; all_goals first | intro hp | skip))
    | ((with_reducible apply gx_id); first | ((with_reducible apply v_nil)) | ((with_reducible apply v_q); exact rfl; exact rfl; exact rfl) | ((with_reducible apply v_skip); exact rfl; exact rfl; exact rfl) | ((with_reducible apply v_splitD); exact rfl; exact rfl; all_goals first | (intro hp; try (exfalso; omega)) | skip) | ((with_reducible apply v_splitN); exact rfl; exact rfl; all_goals first | (intro hp; try (exfalso; omega)) | skip) | ((with_reducible apply v_split); exact rfl; exact rfl; all_goals first | intro hp | skip))
    | ((with_reducible apply os_id); first | ((with_reducible apply os_x); exact rfl) | ((with_reducible apply os_store); exact rfl; exact rfl; exact rfl; exact rfl) | ((with_reducible apply os_storeAgg); exact rfl; exact rfl; exact rfl; exact rfl; exact rfl))
    | ((with_reducible apply ox_id); first | ((with_reducible apply ox_alloc); exact rfl; intro _) | ((with_reducible apply ox_box); exact rfl; exact rfl; intro _) | ((with_reducible apply ox_boxAgg); exact rfl; intro _) | ((with_reducible apply ox_buildSlice1); exact rfl; exact rfl; exact rfl; exact rfl; exact rfl; exact rfl; intro _) | ((with_reducible apply ox_buildSlice2); exact rfl; exact rfl; exact rfl; exact rfl; exact rfl; exact rfl; intro _) | ((with_reducible apply ox_buildSlice); exact rfl; exact rfl; exact rfl; exact rfl))
    | ((with_reducible apply rd_id); first | (apply Rd.own; (repeat (first | exact P0 | apply P1)); exact rfl; done) | (apply Rd.old; (first | (with_reducible assumption) | exact c0 | exact c1 | exact c2 | exact c3 | exact c4 | exact c5 | exact c6 | exact c7 | exact c8 | exact d0 | exact d1 | exact d2 | exact d3 | exact d4 | exact d5); first | exact List.not_mem_nil | exact m0 | exact m1 | exact m2 | exact m3 | exact m4 | exact m5 | exact m6 | exact m7 | exact m8 | exact m9))
    | ((with_reducible apply t_id); first | ((with_reducible apply t_seq)) | (apply t_region; kernel_rfl) | (apply t_drawn; kernel_rfl; decide +kernel) | ((with_reducible apply t_condT); exact rfl) | ((with_reducible apply t_condF); exact rfl) | ((with_reducible apply t_condD); exact rfl; all_goals first | (intro hp; try (exfalso; omega)) | skip) | ((with_reducible apply t_condN); exact rfl; all_goals first | (intro hp; try (exfalso; omega)) | skip) | ((with_reducible apply t_cond); exact rfl; all_goals first | intro hp | skip) | ((with_reducible apply t_ret)) | ((with_reducible apply t_skip)) | ((with_reducible apply t_exit)) | ((with_reducible apply t_block)))
    | with_reducible apply q_thenN
    | with_reducible apply q_thenR
    | with_reducible apply q_blockR
    | with_reducible apply q_blockN
    | with_reducible apply q_thenE
    | ((with_reducible apply q_blockE); exact rfl)
    | ((with_reducible apply q_blockO); exact rfl)
    | exact P0
    | ((with_reducible apply P1))
    | exact Rdn.zero
    | apply Rdn.succ
    | ((with_reducible apply Norm.nil); exact rfl)
    | ((with_reducible apply Norm.cons); exact rfl)
    | ((with_reducible apply end_ret))
    | ((with_reducible apply end_normal))
    | exact rvs_nil
    | ((with_reducible apply rvs_cons))
    | ((with_reducible apply rv_tmp); exact rfl)
    | ((with_reducible apply rv_cell); exact rfl; exact rfl)
    | ((with_reducible apply rv_cellAgg); exact rfl; exact rfl)
    | exact Nat.le_of_ble_eq_true rfl
    | exact (rfl : (_ : Bool) = true)
    | omega
    | (intro _ _; with_reducible apply tl_id)
    | (intro _; with_reducible apply tl_id)
    | (intro _ _; with_reducible apply al_id)
    | (intro _; with_reducible apply al_id))
  all_goals (show Value.bool _ = Value.bool _; congr 1; rw [Bool.eq_iff_iff, fineS_iff]; simp; try omega)


theorem all_not {l : List (Int × Int)} {k : Nat} {x : Int × Int} (h : l[k]? = some x) (hx : fineS x = false) : l.all fineS = false := by
  rw [Bool.eq_false_iff, Ne, List.all_eq_true]
  intro h2
  have := h2 x (List.mem_of_getElem? h)
  rw [hx] at this
  cases this
theorem fine_calls (A : Option Addr) (n c : Nat) (l : List (Int × Int)) (w : World) (hr : RdS w 2 A n (l.map spanCells)) (hn : n ≤ 1000000) : Calls Try.prog 121 #[.slice A n c] w fun e w' => e = .returned (.bool (l.all fineS)) ∧ Ext w w' := by
  have hl := hr.len
  simp only [List.length_map] at hl
  refine enterQ (c := cx w 27) Try.func121 rfl rfl rfl rfl ?_
  repeat' (first
    | ((with_reducible apply oq_id); first | (apply oq_fn; exact rfl; first | exact trivial | (refine ⟨?_, ?_⟩ <;> omega) | (refine ⟨?_, ?_, ?_⟩ <;> omega) | omega | skip) | ((with_reducible apply oq_load); exact rfl; exact rfl) | ((with_reducible apply oq_loadAgg); exact rfl; exact rfl) | ((with_reducible apply oq_build); exact rfl; exact rfl; exact rfl) | ((with_reducible apply oq_buildA); exact rfl; exact rfl; exact rfl; exact rfl) | ((with_reducible apply oq_fieldAgg); exact rfl; exact rfl; exact rfl) | ((with_reducible apply oq_indexAgg); exact rfl; exact rfl; exact rfl; exact rfl))
    | ((with_reducible apply tl_id); first | ((with_reducible apply tl_nil)) | ((with_reducible apply u_q); exact rfl; exact rfl; exact rfl; exact rfl) | ((with_reducible apply u_s0); exact rfl; exact rfl) | ((with_reducible apply u_s); exact rfl; exact rfl; exact rfl) | ((with_reducible apply u_skip); exact rfl; exact rfl; exact rfl) | ((with_reducible apply u_splitD); exact rfl; exact rfl; all_goals first | (intro hp; try (exfalso; omega)) | skip) | ((with_reducible apply u_splitN); exact rfl; exact rfl; all_goals first | (intro hp; try (exfalso; omega)) | skip) | ((with_reducible apply u_split); exact rfl; exact rfl; all_goals first | intro hp | skip))
    | ((with_reducible apply gx_id); first | ((with_reducible apply v_nil)) | ((with_reducible apply v_q); exact rfl; exact rfl; exact rfl) | ((with_reducible apply v_skip); exact rfl; exact rfl; exact rfl) | ((with_reducible apply v_splitD); exact rfl; exact rfl; all_goals first | (intro hp; try (exfalso; omega)) | skip) | ((with_reducible apply v_splitN); exact rfl; exact rfl; all_goals first | (intro hp; try (exfalso; omega)) | skip) | ((with_reducible apply v_split); exact rfl; exact rfl; all_goals first | intro hp | skip))
    | ((with_reducible apply os_id); first | ((with_reducible apply os_x); exact rfl) | ((with_reducible apply os_store); exact rfl; exact rfl; exact rfl; exact rfl) | ((with_reducible apply os_storeAgg); exact rfl; exact rfl; exact rfl; exact rfl; exact rfl))
    | ((with_reducible apply ox_id); first | ((with_reducible apply ox_alloc); exact rfl; intro _) | ((with_reducible apply ox_box); exact rfl; exact rfl; intro _) | ((with_reducible apply ox_boxAgg); exact rfl; intro _) | ((with_reducible apply ox_buildSlice1); exact rfl; exact rfl; exact rfl; exact rfl; exact rfl; exact rfl; intro _) | ((with_reducible apply ox_buildSlice2); exact rfl; exact rfl; exact rfl; exact rfl; exact rfl; exact rfl; intro _) | ((with_reducible apply ox_buildSlice); exact rfl; exact rfl; exact rfl; exact rfl))
    | ((with_reducible apply rd_id); first | (apply Rd.own; (repeat (first | exact P0 | apply P1)); exact rfl; done) | (apply Rd.old; (first | (with_reducible assumption) | exact c0 | exact c1 | exact c2 | exact c3 | exact c4 | exact c5 | exact c6 | exact c7 | exact c8 | exact d0 | exact d1 | exact d2 | exact d3 | exact d4 | exact d5); first | exact List.not_mem_nil | exact m0 | exact m1 | exact m2 | exact m3 | exact m4 | exact m5 | exact m6 | exact m7 | exact m8 | exact m9))
    | ((with_reducible apply t_id); first | ((with_reducible apply t_seq)) | (apply t_region; kernel_rfl) | (apply t_drawn; kernel_rfl; decide +kernel) | ((with_reducible apply t_condT); exact rfl) | ((with_reducible apply t_condF); exact rfl) | ((with_reducible apply t_condD); exact rfl; all_goals first | (intro hp; try (exfalso; omega)) | skip) | ((with_reducible apply t_condN); exact rfl; all_goals first | (intro hp; try (exfalso; omega)) | skip) | ((with_reducible apply t_cond); exact rfl; all_goals first | intro hp | skip) | ((with_reducible apply t_ret)) | ((with_reducible apply t_skip)) | ((with_reducible apply t_exit)) | ((with_reducible apply t_block)))
    | with_reducible apply q_thenN
    | with_reducible apply q_thenR
    | with_reducible apply q_blockR
    | with_reducible apply q_blockN
    | with_reducible apply q_thenE
    | ((with_reducible apply q_blockE); exact rfl)
    | ((with_reducible apply q_blockO); exact rfl)
    | exact P0
    | ((with_reducible apply P1))
    | exact Rdn.zero
    | apply Rdn.succ
    | ((with_reducible apply Norm.nil); exact rfl)
    | ((with_reducible apply Norm.cons); exact rfl)
    | ((with_reducible apply end_ret))
    | ((with_reducible apply end_normal))
    | exact rvs_nil
    | ((with_reducible apply rvs_cons))
    | ((with_reducible apply rv_tmp); exact rfl)
    | ((with_reducible apply rv_cell); exact rfl; exact rfl)
    | ((with_reducible apply rv_cellAgg); exact rfl; exact rfl)
    | exact Nat.le_of_ble_eq_true rfl
    | exact (rfl : (_ : Bool) = true)
    | omega
    | (intro _ _; with_reducible apply tl_id)
    | (intro _; with_reducible apply tl_id)
    | (intro _ _; with_reducible apply al_id)
    | (intro _; with_reducible apply al_id))
  apply t_loopK (ι := Nat) [5, 6] (fun k => [(7, .int .i64 (k : Nat))]) (fun _ => []) (fun k => k ≤ n ∧ ∀ s ∈ l.take k, fineS s = true) (fun k => n - k) (0)
  (repeat (first | exact KeepF.nil | (apply KeepF.cons; exact rfl) | apply KeepF.skip))
  (repeat (first | exact FrSub.nil | (apply FrSub.cons; exact rfl)))
  (repeat (first | exact HpSub.refl _ | (apply HpSub.consE; (repeat (first | exact P0 | apply P1)); exact rfl) | exact HpSub.nil))
  · exact ⟨by omega, by simp⟩
  intro k hk
  try simp only [List.cons_append, List.nil_append]
  by_cases hlt : k < n
  · obtain ⟨b1, o1, x, rfl, _, hkx2, c0, c1⟩ := span_read hr hlt
    repeat' (first
      | ((with_reducible apply oq_id); first | (apply oq_fn; exact rfl; first | exact trivial | (refine ⟨?_, ?_⟩ <;> omega) | (refine ⟨?_, ?_, ?_⟩ <;> omega) | omega | skip) | ((with_reducible apply oq_load); exact rfl; exact rfl) | ((with_reducible apply oq_loadAgg); exact rfl; exact rfl) | ((with_reducible apply oq_build); exact rfl; exact rfl; exact rfl) | ((with_reducible apply oq_buildA); exact rfl; exact rfl; exact rfl; exact rfl) | ((with_reducible apply oq_fieldAgg); exact rfl; exact rfl; exact rfl) | ((with_reducible apply oq_indexAgg); exact rfl; exact rfl; exact rfl; exact rfl))
      | ((with_reducible apply tl_id); first | ((with_reducible apply tl_nil)) | ((with_reducible apply u_q); exact rfl; exact rfl; exact rfl; exact rfl) | ((with_reducible apply u_s0); exact rfl; exact rfl) | ((with_reducible apply u_s); exact rfl; exact rfl; exact rfl) | ((with_reducible apply u_skip); exact rfl; exact rfl; exact rfl) | ((with_reducible apply u_splitD); exact rfl; exact rfl; all_goals first | (intro hp; try (exfalso; omega)) | skip) | ((with_reducible apply u_splitN); exact rfl; exact rfl; all_goals first | (intro hp; try (exfalso; omega)) | skip) | ((with_reducible apply u_split); exact rfl; exact rfl; all_goals first | intro hp | skip))
      | ((with_reducible apply gx_id); first | ((with_reducible apply v_nil)) | ((with_reducible apply v_q); exact rfl; exact rfl; exact rfl) | ((with_reducible apply v_skip); exact rfl; exact rfl; exact rfl) | ((with_reducible apply v_splitD); exact rfl; exact rfl; all_goals first | (intro hp; try (exfalso; omega)) | skip) | ((with_reducible apply v_splitN); exact rfl; exact rfl; all_goals first | (intro hp; try (exfalso; omega)) | skip) | ((with_reducible apply v_split); exact rfl; exact rfl; all_goals first | intro hp | skip))
      | ((with_reducible apply os_id); first | ((with_reducible apply os_x); exact rfl) | ((with_reducible apply os_store); exact rfl; exact rfl; exact rfl; exact rfl) | ((with_reducible apply os_storeAgg); exact rfl; exact rfl; exact rfl; exact rfl; exact rfl))
      | ((with_reducible apply ox_id); first | ((with_reducible apply ox_alloc); exact rfl; intro _) | ((with_reducible apply ox_box); exact rfl; exact rfl; intro _) | ((with_reducible apply ox_boxAgg); exact rfl; intro _) | ((with_reducible apply ox_buildSlice1); exact rfl; exact rfl; exact rfl; exact rfl; exact rfl; exact rfl; intro _) | ((with_reducible apply ox_buildSlice2); exact rfl; exact rfl; exact rfl; exact rfl; exact rfl; exact rfl; intro _) | ((with_reducible apply ox_buildSlice); exact rfl; exact rfl; exact rfl; exact rfl))
      | ((with_reducible apply rd_id); first | (apply Rd.own; (repeat (first | exact P0 | apply P1)); exact rfl; done) | (apply Rd.old; (first | (with_reducible assumption) | exact c0 | exact c1 | exact c2 | exact c3 | exact c4 | exact c5 | exact c6 | exact c7 | exact c8 | exact d0 | exact d1 | exact d2 | exact d3 | exact d4 | exact d5); first | exact List.not_mem_nil | exact m0 | exact m1 | exact m2 | exact m3 | exact m4 | exact m5 | exact m6 | exact m7 | exact m8 | exact m9))
      | ((with_reducible apply t_id); first | ((with_reducible apply t_seq)) | (apply t_region; kernel_rfl) | (apply t_drawn; kernel_rfl; decide +kernel) | ((with_reducible apply t_condT); exact rfl) | ((with_reducible apply t_condF); exact rfl) | ((with_reducible apply t_condD); exact rfl; all_goals first | (intro hp; try (exfalso; omega)) | skip) | ((with_reducible apply t_condN); exact rfl; all_goals first | (intro hp; try (exfalso; omega)) | skip) | ((with_reducible apply t_cond); exact rfl; all_goals first | intro hp | skip) | ((with_reducible apply t_ret)) | ((with_reducible apply t_skip)) | ((with_reducible apply t_exit)) | ((with_reducible apply t_block)))
      | with_reducible apply q_thenN
      | with_reducible apply q_thenR
      | with_reducible apply q_blockR
      | with_reducible apply q_blockN
      | with_reducible apply q_thenE
      | ((with_reducible apply q_blockE); exact rfl)
      | ((with_reducible apply q_blockO); exact rfl)
      | exact P0
      | ((with_reducible apply P1))
      | exact Rdn.zero
      | apply Rdn.succ
      | ((with_reducible apply Norm.nil); exact rfl)
      | ((with_reducible apply Norm.cons); exact rfl)
      | ((with_reducible apply end_ret))
      | ((with_reducible apply end_normal))
      | exact rvs_nil
      | ((with_reducible apply rvs_cons))
      | ((with_reducible apply rv_tmp); exact rfl)
      | ((with_reducible apply rv_cell); exact rfl; exact rfl)
      | ((with_reducible apply rv_cellAgg); exact rfl; exact rfl)
      | exact Nat.le_of_ble_eq_true rfl
      | exact (rfl : (_ : Bool) = true)
      | omega
      | (intro _ _; with_reducible apply tl_id)
      | (intro _; with_reducible apply tl_id)
      | (intro _ _; with_reducible apply al_id)
      | (intro _; with_reducible apply al_id))
    iterate 3 (rw [all_not hkx2 (by rw [Bool.eq_false_iff, Ne, fineS_iff]; omega)]; rfl)
    have hx : fineS x = true := by rw [fineS_iff]; omega
    refine ⟨k + 1, ⟨by omega, fun s hs => ?_⟩, by omega, ?_, ?_⟩
    · rw [List.take_add_one, hkx2, List.mem_append] at hs
      rcases hs with hs | hs
      · exact hk.2 s hs
      · obtain rfl : s = x := by simpa using hs
        exact hx
    · try simp only [List.cons_append, List.nil_append]
      (repeat (first | exact FrSub.nil | (apply FrSub.cons; exact rfl)))
    · try simp only [List.cons_append, List.nil_append]
      (repeat (first | exact HpSub.refl _ | (apply HpSub.consE; (repeat (first | exact P0 | apply P1)); exact rfl) | exact HpSub.nil))
  · have hkn : l.take k = l := List.take_of_length_le (by omega)
    repeat' (first
      | ((with_reducible apply oq_id); first | (apply oq_fn; exact rfl; first | exact trivial | (refine ⟨?_, ?_⟩ <;> omega) | (refine ⟨?_, ?_, ?_⟩ <;> omega) | omega | skip) | ((with_reducible apply oq_load); exact rfl; exact rfl) | ((with_reducible apply oq_loadAgg); exact rfl; exact rfl) | ((with_reducible apply oq_build); exact rfl; exact rfl; exact rfl) | ((with_reducible apply oq_buildA); exact rfl; exact rfl; exact rfl; exact rfl) | ((with_reducible apply oq_fieldAgg); exact rfl; exact rfl; exact rfl) | ((with_reducible apply oq_indexAgg); exact rfl; exact rfl; exact rfl; exact rfl))
      | ((with_reducible apply tl_id); first | ((with_reducible apply tl_nil)) | ((with_reducible apply u_q); exact rfl; exact rfl; exact rfl; exact rfl) | ((with_reducible apply u_s0); exact rfl; exact rfl) | ((with_reducible apply u_s); exact rfl; exact rfl; exact rfl) | ((with_reducible apply u_skip); exact rfl; exact rfl; exact rfl) | ((with_reducible apply u_splitD); exact rfl; exact rfl; all_goals first | (intro hp; try (exfalso; omega)) | skip) | ((with_reducible apply u_splitN); exact rfl; exact rfl; all_goals first | (intro hp; try (exfalso; omega)) | skip) | ((with_reducible apply u_split); exact rfl; exact rfl; all_goals first | intro hp | skip))
      | ((with_reducible apply gx_id); first | ((with_reducible apply v_nil)) | ((with_reducible apply v_q); exact rfl; exact rfl; exact rfl) | ((with_reducible apply v_skip); exact rfl; exact rfl; exact rfl) | ((with_reducible apply v_splitD); exact rfl; exact rfl; all_goals first | (intro hp; try (exfalso; omega)) | skip) | ((with_reducible apply v_splitN); exact rfl; exact rfl; all_goals first | (intro hp; try (exfalso; omega)) | skip) | ((with_reducible apply v_split); exact rfl; exact rfl; all_goals first | intro hp | skip))
      | ((with_reducible apply os_id); first | ((with_reducible apply os_x); exact rfl) | ((with_reducible apply os_store); exact rfl; exact rfl; exact rfl; exact rfl) | ((with_reducible apply os_storeAgg); exact rfl; exact rfl; exact rfl; exact rfl; exact rfl))
      | ((with_reducible apply ox_id); first | ((with_reducible apply ox_alloc); exact rfl; intro _) | ((with_reducible apply ox_box); exact rfl; exact rfl; intro _) | ((with_reducible apply ox_boxAgg); exact rfl; intro _) | ((with_reducible apply ox_buildSlice1); exact rfl; exact rfl; exact rfl; exact rfl; exact rfl; exact rfl; intro _) | ((with_reducible apply ox_buildSlice2); exact rfl; exact rfl; exact rfl; exact rfl; exact rfl; exact rfl; intro _) | ((with_reducible apply ox_buildSlice); exact rfl; exact rfl; exact rfl; exact rfl))
      | ((with_reducible apply rd_id); first | (apply Rd.own; (repeat (first | exact P0 | apply P1)); exact rfl; done) | (apply Rd.old; (first | (with_reducible assumption) | exact c0 | exact c1 | exact c2 | exact c3 | exact c4 | exact c5 | exact c6 | exact c7 | exact c8 | exact d0 | exact d1 | exact d2 | exact d3 | exact d4 | exact d5); first | exact List.not_mem_nil | exact m0 | exact m1 | exact m2 | exact m3 | exact m4 | exact m5 | exact m6 | exact m7 | exact m8 | exact m9))
      | ((with_reducible apply t_id); first | ((with_reducible apply t_seq)) | (apply t_region; kernel_rfl) | (apply t_drawn; kernel_rfl; decide +kernel) | ((with_reducible apply t_condT); exact rfl) | ((with_reducible apply t_condF); exact rfl) | ((with_reducible apply t_condD); exact rfl; all_goals first | (intro hp; try (exfalso; omega)) | skip) | ((with_reducible apply t_condN); exact rfl; all_goals first | (intro hp; try (exfalso; omega)) | skip) | ((with_reducible apply t_cond); exact rfl; all_goals first | intro hp | skip) | ((with_reducible apply t_ret)) | ((with_reducible apply t_skip)) | ((with_reducible apply t_exit)) | ((with_reducible apply t_block)))
      | with_reducible apply q_thenN
      | with_reducible apply q_thenR
      | with_reducible apply q_blockR
      | with_reducible apply q_blockN
      | with_reducible apply q_thenE
      | ((with_reducible apply q_blockE); exact rfl)
      | ((with_reducible apply q_blockO); exact rfl)
      | exact P0
      | ((with_reducible apply P1))
      | exact Rdn.zero
      | apply Rdn.succ
      | ((with_reducible apply Norm.nil); exact rfl)
      | ((with_reducible apply Norm.cons); exact rfl)
      | ((with_reducible apply end_ret))
      | ((with_reducible apply end_normal))
      | exact rvs_nil
      | ((with_reducible apply rvs_cons))
      | ((with_reducible apply rv_tmp); exact rfl)
      | ((with_reducible apply rv_cell); exact rfl; exact rfl)
      | ((with_reducible apply rv_cellAgg); exact rfl; exact rfl)
      | exact Nat.le_of_ble_eq_true rfl
      | exact (rfl : (_ : Bool) = true)
      | omega
      | (intro _ _; with_reducible apply tl_id)
      | (intro _; with_reducible apply tl_id)
      | (intro _ _; with_reducible apply al_id)
      | (intro _; with_reducible apply al_id))
    rw [show l.all fineS = true from List.all_eq_true.2 (fun s hs => hk.2 s (by rw [hkn]; exact hs))]
    rfl


theorem fine1 {w0 : World} {M : Ms} {H H' : Hp} {w : World} {g : Nat} {a b : Int} {tg : Tg} {cp : Nat} {q : Bool} (hq : fineS (a, b) = q) (h : Has w0 M H w) (p : Pick H g [.int .i64 a, .int .i64 b] tg H') :
    Calls Try.prog 121 #[.slice (some ⟨g, 0, none⟩) 1 cp] w fun e w' => e = .returned (.bool q) ∧ Ext w w' := by
  have := fine_calls (some ⟨g, 0, none⟩) 1 cp [(a, b)] w (Blk.rows (k := 2) (rows := [(a, b)].map spanCells) (h.blk _ p.mem).2 rfl (by simp [spanCells])) (by omega)
  simp only [List.all_cons, List.all_nil, Bool.and_true, hq] at this
  exact this
theorem fine2 {w0 : World} {M : Ms} {H H' : Hp} {w : World} {g : Nat} {a b a' b' : Int} {tg : Tg} {cp : Nat} {q : Bool} (hq : (fineS (a, b) && fineS (a', b')) = q) (h : Has w0 M H w) (p : Pick H g [.int .i64 a, .int .i64 b, .int .i64 a', .int .i64 b'] tg H') :
    Calls Try.prog 121 #[.slice (some ⟨g, 0, none⟩) 2 cp] w fun e w' => e = .returned (.bool q) ∧ Ext w w' := by
  have := fine_calls (some ⟨g, 0, none⟩) 2 cp [(a, b), (a', b')] w (Blk.rows (k := 2) (rows := [(a, b), (a', b')].map spanCells) (h.blk _ p.mem).2 rfl (by simp [spanCells])) (by omega)
  simp only [List.all_cons, List.all_nil, Bool.and_true, hq] at this
  exact this
theorem check_calls (a b : Int) (w : World) : Calls Try.prog 55 #[.agg #[.int .i64 a, .int .i64 b]] w fun e w' => e = .returned (.int .i64 (if fineS (a, b) then 0 else 10)) ∧ Ext w w' := by
  obtain ⟨q, hq⟩ : ∃ q, fineS (a, b) = q := ⟨_, rfl⟩
  rw [hq]
  refine enterQ (c := cx w 7) Try.func55 rfl rfl rfl rfl ?_
  repeat' (first
    | ((with_reducible apply oq_id); first | (apply oq_fn; exact rfl; first | exact trivial | (refine ⟨?_, ?_⟩ <;> omega) | (refine ⟨?_, ?_, ?_⟩ <;> omega) | omega | skip) | ((with_reducible apply oq_load); exact rfl; exact rfl) | ((with_reducible apply oq_loadAgg); exact rfl; exact rfl) | ((with_reducible apply oq_call (k := 121) (hc := Try.call121)); exact rfl; exact rfl; exact fun D w1 hw1 => fine1 hq hw1 (by (repeat (first | exact P0 | apply P1)))) | ((with_reducible apply oq_build); exact rfl; exact rfl; exact rfl) | ((with_reducible apply oq_buildA); exact rfl; exact rfl; exact rfl; exact rfl) | ((with_reducible apply oq_fieldAgg); exact rfl; exact rfl; exact rfl) | ((with_reducible apply oq_indexAgg); exact rfl; exact rfl; exact rfl; exact rfl))
    | ((with_reducible apply tl_id); first | ((with_reducible apply tl_nil)) | ((with_reducible apply u_q); exact rfl; exact rfl; exact rfl; exact rfl) | ((with_reducible apply u_s0); exact rfl; exact rfl) | ((with_reducible apply u_s); exact rfl; exact rfl; exact rfl) | ((with_reducible apply u_skip); exact rfl; exact rfl; exact rfl) | ((with_reducible apply u_splitD); exact rfl; exact rfl; all_goals first | (intro hp; try (exfalso; omega)) | skip) | ((with_reducible apply u_splitN); exact rfl; exact rfl; all_goals first | (intro hp; try (exfalso; omega)) | skip) | ((with_reducible apply u_split); exact rfl; exact rfl; all_goals first | intro hp | skip))
    | ((with_reducible apply gx_id); first | ((with_reducible apply v_nil)) | ((with_reducible apply v_q); exact rfl; exact rfl; exact rfl) | ((with_reducible apply v_skip); exact rfl; exact rfl; exact rfl) | ((with_reducible apply v_splitD); exact rfl; exact rfl; all_goals first | (intro hp; try (exfalso; omega)) | skip) | ((with_reducible apply v_splitN); exact rfl; exact rfl; all_goals first | (intro hp; try (exfalso; omega)) | skip) | ((with_reducible apply v_split); exact rfl; exact rfl; all_goals first | intro hp | skip))
    | ((with_reducible apply os_id); first | ((with_reducible apply os_x); exact rfl) | ((with_reducible apply os_store); exact rfl; exact rfl; exact rfl; exact rfl) | ((with_reducible apply os_storeAgg); exact rfl; exact rfl; exact rfl; exact rfl; exact rfl))
    | ((with_reducible apply ox_id); first | ((with_reducible apply ox_alloc); exact rfl; intro _) | ((with_reducible apply ox_box); exact rfl; exact rfl; intro _) | ((with_reducible apply ox_boxAgg); exact rfl; intro _) | ((with_reducible apply ox_buildSlice1); exact rfl; exact rfl; exact rfl; exact rfl; exact rfl; exact rfl; intro _) | ((with_reducible apply ox_buildSlice2); exact rfl; exact rfl; exact rfl; exact rfl; exact rfl; exact rfl; intro _) | ((with_reducible apply ox_buildSlice); exact rfl; exact rfl; exact rfl; exact rfl))
    | ((with_reducible apply rd_id); first | (apply Rd.own; (repeat (first | exact P0 | apply P1)); exact rfl; done) | (apply Rd.old; (first | (with_reducible assumption) | exact c0 | exact c1 | exact c2 | exact c3 | exact c4 | exact c5 | exact c6 | exact c7 | exact c8 | exact d0 | exact d1 | exact d2 | exact d3 | exact d4 | exact d5); first | exact List.not_mem_nil | exact m0 | exact m1 | exact m2 | exact m3 | exact m4 | exact m5 | exact m6 | exact m7 | exact m8 | exact m9))
    | ((with_reducible apply t_id); first | ((with_reducible apply t_seq)) | (apply t_region; kernel_rfl) | (apply t_drawn; kernel_rfl; decide +kernel) | ((with_reducible apply t_condT); exact rfl) | ((with_reducible apply t_condF); exact rfl) | ((with_reducible apply t_condD); exact rfl; all_goals first | (intro hp; try (exfalso; omega)) | skip) | ((with_reducible apply t_condN); exact rfl; all_goals first | (intro hp; try (exfalso; omega)) | skip) | ((with_reducible apply t_cond); exact rfl; all_goals first | intro hp | skip) | ((with_reducible apply t_ret)) | ((with_reducible apply t_skip)) | ((with_reducible apply t_exit)) | ((with_reducible apply t_block)))
    | with_reducible apply q_thenN
    | with_reducible apply q_thenR
    | with_reducible apply q_blockR
    | with_reducible apply q_blockN
    | with_reducible apply q_thenE
    | ((with_reducible apply q_blockE); exact rfl)
    | ((with_reducible apply q_blockO); exact rfl)
    | exact P0
    | ((with_reducible apply P1))
    | exact Rdn.zero
    | apply Rdn.succ
    | ((with_reducible apply Norm.nil); exact rfl)
    | ((with_reducible apply Norm.cons); exact rfl)
    | ((with_reducible apply end_ret))
    | ((with_reducible apply end_normal))
    | exact rvs_nil
    | ((with_reducible apply rvs_cons))
    | ((with_reducible apply rv_tmp); exact rfl)
    | ((with_reducible apply rv_cell); exact rfl; exact rfl)
    | ((with_reducible apply rv_cellAgg); exact rfl; exact rfl)
    | exact Nat.le_of_ble_eq_true rfl
    | exact (rfl : (_ : Bool) = true)
    | omega
    | (intro _ _; with_reducible apply tl_id)
    | (intro _; with_reducible apply tl_id)
    | (intro _ _; with_reducible apply al_id)
    | (intro _; with_reducible apply al_id))
  all_goals (cases q <;> first | rfl | simp_all)


/-- The root of a span: bounds, then the error. -/
noncomputable def rootV (a b : Int) : Int × Int × Int := if fineS (a, b) then (if a < 0 then (0, 0, 2) else (rt a, (if rt b * rt b = b then rt b else rt b + 1), 0)) else (0, 0, 10)
theorem isR_ex : ∀ (n : Nat), ∃ r, IsR (n : Int) r
  | 0 => ⟨0, by omega, by omega, by omega⟩
  | n + 1 => by
    obtain ⟨r, h1, h2, h3⟩ := isR_ex n
    by_cases h : (r + 1) * (r + 1) ≤ ((n + 1 : Nat) : Int)
    · refine ⟨r + 1, by omega, h, ?_⟩
      have : (r + 1 + 1) * (r + 1 + 1) = (r + 1) * (r + 1) + 2 * (r + 1) + 1 := by
        simp only [Int.mul_add, Int.add_mul, Int.mul_one, Int.one_mul]; omega
      omega
    · exact ⟨r, h1, by omega, by omega⟩
theorem rt_spec (n : Int) (h0 : 0 ≤ n) : IsR n (rt n) := by
  obtain ⟨r, hr⟩ := isR_ex n.toNat
  rw [Int.toNat_of_nonneg h0] at hr
  rw [hr.rt]
  exact hr
theorem boundRoot_calls (a b : Int) (w : World) : Calls Try.prog 111 #[.agg #[.int .i64 a, .int .i64 b]] w fun e w' => e = .returned (.tuple #[.agg #[.int .i64 (rootV a b).1, .int .i64 (rootV a b).2.1], .int .i64 (rootV a b).2.2]) ∧ Ext w w' := by
  obtain ⟨q, hq⟩ : ∃ q, fineS (a, b) = q := ⟨_, rfl⟩
  unfold rootV
  cases q with
  | false =>
    rw [hq]
    refine enterQ (c := cx w 36) Try.func111 rfl rfl rfl rfl ?_
    repeat' (first
      | ((with_reducible apply oq_id); first | (apply oq_fn; exact rfl; first | exact trivial | (refine ⟨?_, ?_⟩ <;> omega) | (refine ⟨?_, ?_, ?_⟩ <;> omega) | omega | skip) | ((with_reducible apply oq_load); exact rfl; exact rfl) | ((with_reducible apply oq_loadAgg); exact rfl; exact rfl) | ((with_reducible apply oq_call (k := 121) (hc := Try.call121)); exact rfl; exact rfl; exact fun D w1 hw1 => fine1 hq hw1 (by (repeat (first | exact P0 | apply P1)))) | ((with_reducible apply oq_call (k := 136) (hc := Try.call136)); exact rfl; exact rfl; exact fun D w1 hw1 => root_calls _ (by omega) (by omega) w1) | ((with_reducible apply oq_build); exact rfl; exact rfl; exact rfl) | ((with_reducible apply oq_buildA); exact rfl; exact rfl; exact rfl; exact rfl) | ((with_reducible apply oq_fieldAgg); exact rfl; exact rfl; exact rfl) | ((with_reducible apply oq_indexAgg); exact rfl; exact rfl; exact rfl; exact rfl))
      | ((with_reducible apply tl_id); first | ((with_reducible apply tl_nil)) | ((with_reducible apply u_q); exact rfl; exact rfl; exact rfl; exact rfl) | ((with_reducible apply u_s0); exact rfl; exact rfl) | ((with_reducible apply u_s); exact rfl; exact rfl; exact rfl) | ((with_reducible apply u_skip); exact rfl; exact rfl; exact rfl) | ((with_reducible apply u_splitD); exact rfl; exact rfl; all_goals first | (intro hp; try (exfalso; omega)) | skip) | ((with_reducible apply u_splitN); exact rfl; exact rfl; all_goals first | (intro hp; try (exfalso; omega)) | skip) | ((with_reducible apply u_split); exact rfl; exact rfl; all_goals first | intro hp | skip))
      | ((with_reducible apply gx_id); first | ((with_reducible apply v_nil)) | ((with_reducible apply v_q); exact rfl; exact rfl; exact rfl) | ((with_reducible apply v_skip); exact rfl; exact rfl; exact rfl) | ((with_reducible apply v_splitD); exact rfl; exact rfl; all_goals first | (intro hp; try (exfalso; omega)) | skip) | ((with_reducible apply v_splitN); exact rfl; exact rfl; all_goals first | (intro hp; try (exfalso; omega)) | skip) | ((with_reducible apply v_split); exact rfl; exact rfl; all_goals first | intro hp | skip))
      | ((with_reducible apply os_id); first | ((with_reducible apply os_x); exact rfl) | ((with_reducible apply os_store); exact rfl; exact rfl; exact rfl; exact rfl) | ((with_reducible apply os_storeAgg); exact rfl; exact rfl; exact rfl; exact rfl; exact rfl))
      | ((with_reducible apply ox_id); first | ((with_reducible apply ox_alloc); exact rfl; intro _) | ((with_reducible apply ox_box); exact rfl; exact rfl; intro _) | ((with_reducible apply ox_boxAgg); exact rfl; intro _) | ((with_reducible apply ox_buildSlice1); exact rfl; exact rfl; exact rfl; exact rfl; exact rfl; exact rfl; intro _) | ((with_reducible apply ox_buildSlice2); exact rfl; exact rfl; exact rfl; exact rfl; exact rfl; exact rfl; intro _) | ((with_reducible apply ox_buildSlice); exact rfl; exact rfl; exact rfl; exact rfl))
      | ((with_reducible apply ai_id); first | ((with_reducible apply ai_q); exact rfl; exact rfl; exact rfl; exact rfl; exact rfl) | ((with_reducible apply ai_x); exact rfl; exact rfl; exact rfl; exact rfl; exact rfl) | ((with_reducible apply ai_s0); exact rfl; exact rfl; exact rfl; exact rfl) | ((with_reducible apply ai_n0); exact rfl; exact rfl; exact rfl) | ((with_reducible apply ai_s); exact rfl; exact rfl; exact rfl; exact rfl; exact rfl) | ((with_reducible apply ai_n); exact rfl; exact rfl; exact rfl; exact rfl))
      | ((with_reducible apply al_keep); focus (repeat (first | exact HpSub.refl _ | (apply HpSub.cons; (repeat (first | exact P0 | apply P1))) | exact HpSub.nil)))
      | ((with_reducible apply rd_id); first | (apply Rd.own; (repeat (first | exact P0 | apply P1)); exact rfl; done) | (apply Rd.old; (first | (with_reducible assumption) | exact c0 | exact c1 | exact c2 | exact c3 | exact c4 | exact c5 | exact c6 | exact c7 | exact c8 | exact d0 | exact d1 | exact d2 | exact d3 | exact d4 | exact d5); first | exact List.not_mem_nil | exact m0 | exact m1 | exact m2 | exact m3 | exact m4 | exact m5 | exact m6 | exact m7 | exact m8 | exact m9))
      | ((with_reducible apply t_id); first | ((with_reducible apply t_seq)) | (apply t_region; kernel_rfl) | (apply t_drawn; kernel_rfl; decide +kernel) | ((with_reducible apply t_condT); exact rfl) | ((with_reducible apply t_condF); exact rfl) | ((with_reducible apply t_condD); exact rfl; all_goals first | (intro hp; try (exfalso; omega)) | skip) | ((with_reducible apply t_condN); exact rfl; all_goals first | (intro hp; try (exfalso; omega)) | skip) | ((with_reducible apply t_cond); exact rfl; all_goals first | intro hp | skip) | ((with_reducible apply t_ret)) | ((with_reducible apply t_skip)) | ((with_reducible apply t_exit)) | ((with_reducible apply t_block)))
      | with_reducible apply q_thenN
      | with_reducible apply q_thenR
      | with_reducible apply q_blockR
      | with_reducible apply q_blockN
      | with_reducible apply q_thenE
      | ((with_reducible apply q_blockE); exact rfl)
      | ((with_reducible apply q_blockO); exact rfl)
      | exact P0
      | ((with_reducible apply P1))
      | exact Rdn.zero
      | apply Rdn.succ
      | ((with_reducible apply Norm.nil); exact rfl)
      | ((with_reducible apply Norm.cons); exact rfl)
      | ((with_reducible apply end_ret))
      | ((with_reducible apply end_normal))
      | exact rvs_nil
      | ((with_reducible apply rvs_cons))
      | ((with_reducible apply rv_tmp); exact rfl)
      | ((with_reducible apply rv_cell); exact rfl; exact rfl)
      | ((with_reducible apply rv_cellAgg); exact rfl; exact rfl)
      | (apply t_mix (id := 5) [0, 1, 2, 3, 4, 5, 6] 2 #[false, false, false, false, false, false, false, false, false]; kernel_rfl; kernel_rfl; exact rfl)
      | ((with_reducible apply al_id); first | (apply al_done; decide +kernel) | (apply al_one 7; decide +kernel) | (apply al_one 8; decide +kernel))
      | exact Nat.le_of_ble_eq_true rfl
      | exact (rfl : (_ : Bool) = true)
      | omega
      | (intro _ _; with_reducible apply tl_id)
      | (intro _; with_reducible apply tl_id)
      | (intro _ _; with_reducible apply al_id)
      | (intro _; with_reducible apply al_id))
    all_goals rfl
  | true =>
    have hf := (fineS_iff _).1 hq
    simp only at hf
    rw [hq, if_pos rfl]
    by_cases ha : a < 0
    · rw [if_pos ha]
      refine enterQ (c := cx w 36) Try.func111 rfl rfl rfl rfl ?_
      repeat' (first
        | ((with_reducible apply oq_id); first | (apply oq_fn; exact rfl; first | exact trivial | (refine ⟨?_, ?_⟩ <;> omega) | (refine ⟨?_, ?_, ?_⟩ <;> omega) | omega | skip) | ((with_reducible apply oq_load); exact rfl; exact rfl) | ((with_reducible apply oq_loadAgg); exact rfl; exact rfl) | ((with_reducible apply oq_call (k := 121) (hc := Try.call121)); exact rfl; exact rfl; exact fun D w1 hw1 => fine1 hq hw1 (by (repeat (first | exact P0 | apply P1)))) | ((with_reducible apply oq_call (k := 136) (hc := Try.call136)); exact rfl; exact rfl; exact fun D w1 hw1 => root_calls _ (by omega) (by omega) w1) | ((with_reducible apply oq_build); exact rfl; exact rfl; exact rfl) | ((with_reducible apply oq_buildA); exact rfl; exact rfl; exact rfl; exact rfl) | ((with_reducible apply oq_fieldAgg); exact rfl; exact rfl; exact rfl) | ((with_reducible apply oq_indexAgg); exact rfl; exact rfl; exact rfl; exact rfl))
        | ((with_reducible apply tl_id); first | ((with_reducible apply tl_nil)) | ((with_reducible apply u_q); exact rfl; exact rfl; exact rfl; exact rfl) | ((with_reducible apply u_s0); exact rfl; exact rfl) | ((with_reducible apply u_s); exact rfl; exact rfl; exact rfl) | ((with_reducible apply u_skip); exact rfl; exact rfl; exact rfl) | ((with_reducible apply u_splitD); exact rfl; exact rfl; all_goals first | (intro hp; try (exfalso; omega)) | skip) | ((with_reducible apply u_splitN); exact rfl; exact rfl; all_goals first | (intro hp; try (exfalso; omega)) | skip) | ((with_reducible apply u_split); exact rfl; exact rfl; all_goals first | intro hp | skip))
        | ((with_reducible apply gx_id); first | ((with_reducible apply v_nil)) | ((with_reducible apply v_q); exact rfl; exact rfl; exact rfl) | ((with_reducible apply v_skip); exact rfl; exact rfl; exact rfl) | ((with_reducible apply v_splitD); exact rfl; exact rfl; all_goals first | (intro hp; try (exfalso; omega)) | skip) | ((with_reducible apply v_splitN); exact rfl; exact rfl; all_goals first | (intro hp; try (exfalso; omega)) | skip) | ((with_reducible apply v_split); exact rfl; exact rfl; all_goals first | intro hp | skip))
        | ((with_reducible apply os_id); first | ((with_reducible apply os_x); exact rfl) | ((with_reducible apply os_store); exact rfl; exact rfl; exact rfl; exact rfl) | ((with_reducible apply os_storeAgg); exact rfl; exact rfl; exact rfl; exact rfl; exact rfl))
        | ((with_reducible apply ox_id); first | ((with_reducible apply ox_alloc); exact rfl; intro _) | ((with_reducible apply ox_box); exact rfl; exact rfl; intro _) | ((with_reducible apply ox_boxAgg); exact rfl; intro _) | ((with_reducible apply ox_buildSlice1); exact rfl; exact rfl; exact rfl; exact rfl; exact rfl; exact rfl; intro _) | ((with_reducible apply ox_buildSlice2); exact rfl; exact rfl; exact rfl; exact rfl; exact rfl; exact rfl; intro _) | ((with_reducible apply ox_buildSlice); exact rfl; exact rfl; exact rfl; exact rfl))
        | ((with_reducible apply ai_id); first | ((with_reducible apply ai_q); exact rfl; exact rfl; exact rfl; exact rfl; exact rfl) | ((with_reducible apply ai_x); exact rfl; exact rfl; exact rfl; exact rfl; exact rfl) | ((with_reducible apply ai_s0); exact rfl; exact rfl; exact rfl; exact rfl) | ((with_reducible apply ai_n0); exact rfl; exact rfl; exact rfl) | ((with_reducible apply ai_s); exact rfl; exact rfl; exact rfl; exact rfl; exact rfl) | ((with_reducible apply ai_n); exact rfl; exact rfl; exact rfl; exact rfl))
        | ((with_reducible apply al_keep); focus (repeat (first | exact HpSub.refl _ | (apply HpSub.cons; (repeat (first | exact P0 | apply P1))) | exact HpSub.nil)))
        | ((with_reducible apply rd_id); first | (apply Rd.own; (repeat (first | exact P0 | apply P1)); exact rfl; done) | (apply Rd.old; (first | (with_reducible assumption) | exact c0 | exact c1 | exact c2 | exact c3 | exact c4 | exact c5 | exact c6 | exact c7 | exact c8 | exact d0 | exact d1 | exact d2 | exact d3 | exact d4 | exact d5); first | exact List.not_mem_nil | exact m0 | exact m1 | exact m2 | exact m3 | exact m4 | exact m5 | exact m6 | exact m7 | exact m8 | exact m9))
        | ((with_reducible apply t_id); first | ((with_reducible apply t_seq)) | (apply t_region; kernel_rfl) | (apply t_drawn; kernel_rfl; decide +kernel) | ((with_reducible apply t_condT); exact rfl) | ((with_reducible apply t_condF); exact rfl) | ((with_reducible apply t_condD); exact rfl; all_goals first | (intro hp; try (exfalso; omega)) | skip) | ((with_reducible apply t_condN); exact rfl; all_goals first | (intro hp; try (exfalso; omega)) | skip) | ((with_reducible apply t_cond); exact rfl; all_goals first | intro hp | skip) | ((with_reducible apply t_ret)) | ((with_reducible apply t_skip)) | ((with_reducible apply t_exit)) | ((with_reducible apply t_block)))
        | with_reducible apply q_thenN
        | with_reducible apply q_thenR
        | with_reducible apply q_blockR
        | with_reducible apply q_blockN
        | with_reducible apply q_thenE
        | ((with_reducible apply q_blockE); exact rfl)
        | ((with_reducible apply q_blockO); exact rfl)
        | exact P0
        | ((with_reducible apply P1))
        | exact Rdn.zero
        | apply Rdn.succ
        | ((with_reducible apply Norm.nil); exact rfl)
        | ((with_reducible apply Norm.cons); exact rfl)
        | ((with_reducible apply end_ret))
        | ((with_reducible apply end_normal))
        | exact rvs_nil
        | ((with_reducible apply rvs_cons))
        | ((with_reducible apply rv_tmp); exact rfl)
        | ((with_reducible apply rv_cell); exact rfl; exact rfl)
        | ((with_reducible apply rv_cellAgg); exact rfl; exact rfl)
        | (apply t_mix (id := 5) [0, 1, 2, 3, 4, 5, 6] 2 #[false, false, false, false, false, false, false, false, false]; kernel_rfl; kernel_rfl; exact rfl)
        | ((with_reducible apply al_id); first | (apply al_done; decide +kernel) | (apply al_one 7; decide +kernel) | (apply al_one 8; decide +kernel))
        | exact Nat.le_of_ble_eq_true rfl
        | exact (rfl : (_ : Bool) = true)
        | omega
        | (intro _ _; with_reducible apply tl_id)
        | (intro _; with_reducible apply tl_id)
        | (intro _ _; with_reducible apply al_id)
        | (intro _; with_reducible apply al_id))
      all_goals rfl
    · rw [if_neg ha]
      have hb := rt_spec b (by omega)
      have hbb : rt b ≤ 1048576 := by
        rcases Int.lt_or_le 1048576 (rt b) with h | h
        · have : 1048577 * 1048577 ≤ rt b * rt b := Int.mul_le_mul (by omega) (by omega) (by omega) (by omega)
          have := hb.2.1
          omega
        · exact h
      have hb0 : 0 ≤ rt b := hb.1
      have hmm : InR (rt b * rt b) := by
        have := Int.mul_nonneg hb0 hb0
        have := hb.2.1
        exact ⟨by omega, by omega⟩
      refine enterQ (c := cx w 36) Try.func111 rfl rfl rfl rfl ?_
      repeat' (first
        | ((with_reducible apply oq_id); first | (apply oq_fn; exact rfl; first | exact trivial | (refine ⟨?_, ?_⟩ <;> omega) | (refine ⟨?_, ?_, ?_⟩ <;> omega) | omega | skip) | ((with_reducible apply oq_load); exact rfl; exact rfl) | ((with_reducible apply oq_loadAgg); exact rfl; exact rfl) | ((with_reducible apply oq_call (k := 121) (hc := Try.call121)); exact rfl; exact rfl; exact fun D w1 hw1 => fine1 hq hw1 (by (repeat (first | exact P0 | apply P1)))) | ((with_reducible apply oq_call (k := 136) (hc := Try.call136)); exact rfl; exact rfl; exact fun D w1 hw1 => root_calls _ (by omega) (by omega) w1) | ((with_reducible apply oq_build); exact rfl; exact rfl; exact rfl) | ((with_reducible apply oq_buildA); exact rfl; exact rfl; exact rfl; exact rfl) | ((with_reducible apply oq_fieldAgg); exact rfl; exact rfl; exact rfl) | ((with_reducible apply oq_indexAgg); exact rfl; exact rfl; exact rfl; exact rfl))
        | ((with_reducible apply tl_id); first | ((with_reducible apply tl_nil)) | ((with_reducible apply u_q); exact rfl; exact rfl; exact rfl; exact rfl) | ((with_reducible apply u_s0); exact rfl; exact rfl) | ((with_reducible apply u_s); exact rfl; exact rfl; exact rfl) | ((with_reducible apply u_skip); exact rfl; exact rfl; exact rfl) | ((with_reducible apply u_splitD); exact rfl; exact rfl; all_goals first | (intro hp; try (exfalso; omega)) | skip) | ((with_reducible apply u_splitN); exact rfl; exact rfl; all_goals first | (intro hp; try (exfalso; omega)) | skip) | ((with_reducible apply u_split); exact rfl; exact rfl; all_goals first | intro hp | skip))
        | ((with_reducible apply gx_id); first | ((with_reducible apply v_nil)) | ((with_reducible apply v_q); exact rfl; exact rfl; exact rfl) | ((with_reducible apply v_skip); exact rfl; exact rfl; exact rfl) | ((with_reducible apply v_splitD); exact rfl; exact rfl; all_goals first | (intro hp; try (exfalso; omega)) | skip) | ((with_reducible apply v_splitN); exact rfl; exact rfl; all_goals first | (intro hp; try (exfalso; omega)) | skip) | ((with_reducible apply v_split); exact rfl; exact rfl; all_goals first | intro hp | skip))
        | ((with_reducible apply os_id); first | ((with_reducible apply os_x); exact rfl) | ((with_reducible apply os_store); exact rfl; exact rfl; exact rfl; exact rfl) | ((with_reducible apply os_storeAgg); exact rfl; exact rfl; exact rfl; exact rfl; exact rfl))
        | ((with_reducible apply ox_id); first | ((with_reducible apply ox_alloc); exact rfl; intro _) | ((with_reducible apply ox_box); exact rfl; exact rfl; intro _) | ((with_reducible apply ox_boxAgg); exact rfl; intro _) | ((with_reducible apply ox_buildSlice1); exact rfl; exact rfl; exact rfl; exact rfl; exact rfl; exact rfl; intro _) | ((with_reducible apply ox_buildSlice2); exact rfl; exact rfl; exact rfl; exact rfl; exact rfl; exact rfl; intro _) | ((with_reducible apply ox_buildSlice); exact rfl; exact rfl; exact rfl; exact rfl))
        | ((with_reducible apply ai_id); first | ((with_reducible apply ai_q); exact rfl; exact rfl; exact rfl; exact rfl; exact rfl) | ((with_reducible apply ai_x); exact rfl; exact rfl; exact rfl; exact rfl; exact rfl) | ((with_reducible apply ai_s0); exact rfl; exact rfl; exact rfl; exact rfl) | ((with_reducible apply ai_n0); exact rfl; exact rfl; exact rfl) | ((with_reducible apply ai_s); exact rfl; exact rfl; exact rfl; exact rfl; exact rfl) | ((with_reducible apply ai_n); exact rfl; exact rfl; exact rfl; exact rfl))
        | ((with_reducible apply al_keep); focus (repeat (first | exact HpSub.refl _ | (apply HpSub.cons; (repeat (first | exact P0 | apply P1))) | exact HpSub.nil)))
        | ((with_reducible apply rd_id); first | (apply Rd.own; (repeat (first | exact P0 | apply P1)); exact rfl; done) | (apply Rd.old; (first | (with_reducible assumption) | exact c0 | exact c1 | exact c2 | exact c3 | exact c4 | exact c5 | exact c6 | exact c7 | exact c8 | exact d0 | exact d1 | exact d2 | exact d3 | exact d4 | exact d5); first | exact List.not_mem_nil | exact m0 | exact m1 | exact m2 | exact m3 | exact m4 | exact m5 | exact m6 | exact m7 | exact m8 | exact m9))
        | ((with_reducible apply t_id); first | ((with_reducible apply t_seq)) | (apply t_region; kernel_rfl) | (apply t_drawn; kernel_rfl; decide +kernel) | ((with_reducible apply t_condT); exact rfl) | ((with_reducible apply t_condF); exact rfl) | ((with_reducible apply t_condD); exact rfl; all_goals first | (intro hp; try (exfalso; omega)) | skip) | ((with_reducible apply t_condN); exact rfl; all_goals first | (intro hp; try (exfalso; omega)) | skip) | ((with_reducible apply t_cond); exact rfl; all_goals first | intro hp | skip) | ((with_reducible apply t_ret)) | ((with_reducible apply t_skip)) | ((with_reducible apply t_exit)) | ((with_reducible apply t_block)))
        | with_reducible apply q_thenN
        | with_reducible apply q_thenR
        | with_reducible apply q_blockR
        | with_reducible apply q_blockN
        | with_reducible apply q_thenE
        | ((with_reducible apply q_blockE); exact rfl)
        | ((with_reducible apply q_blockO); exact rfl)
        | exact P0
        | ((with_reducible apply P1))
        | exact Rdn.zero
        | apply Rdn.succ
        | ((with_reducible apply Norm.nil); exact rfl)
        | ((with_reducible apply Norm.cons); exact rfl)
        | ((with_reducible apply end_ret))
        | ((with_reducible apply end_normal))
        | exact rvs_nil
        | ((with_reducible apply rvs_cons))
        | ((with_reducible apply rv_tmp); exact rfl)
        | ((with_reducible apply rv_cell); exact rfl; exact rfl)
        | ((with_reducible apply rv_cellAgg); exact rfl; exact rfl)
        | (apply t_mix (id := 5) [0, 1, 2, 3, 4, 5, 6] 2 #[false, false, false, false, false, false, false, false, false]; kernel_rfl; kernel_rfl; exact rfl)
        | ((with_reducible apply al_id); first | (apply al_done; decide +kernel) | (apply al_one 7; decide +kernel) | (apply al_one 8; decide +kernel))
        | exact hmm
        | exact Nat.le_of_ble_eq_true rfl
        | exact (rfl : (_ : Bool) = true)
        | omega
        | (intro _ _; with_reducible apply tl_id)
        | (intro _; with_reducible apply tl_id)
        | (intro _ _; with_reducible apply al_id)
        | (intro _; with_reducible apply al_id))
      · rw [if_neg (by assumption)]; rfl
      · rw [if_pos (by assumption)]; rfl


theorem refRoot_calls (a b : Int) (w : World) : Calls Try.prog 114 #[.agg #[.int .i64 a, .int .i64 b]] w fun e w' => e = .returned (.tuple #[.agg #[.int .i64 (rootV a b).1, .int .i64 (rootV a b).2.1], .int .i64 (rootV a b).2.2]) ∧ Ext w w' := by
  obtain ⟨q, hq⟩ : ∃ q, fineS (a, b) = q := ⟨_, rfl⟩
  have HV : ∀ w1, Calls Try.prog 128 #[.agg #[.int .i64 a, .int .i64 b]] w1 fun e w' => e = .returned (.bool q) ∧ Ext w1 w' := fun w1 => hq ▸ valid_calls (a, b) w1
  unfold rootV
  rw [hq]
  cases q with
  | false =>
    refine enterQ (c := cx w 29) Try.func114 rfl rfl rfl rfl ?_
    repeat' (first
      | ((with_reducible apply oq_id); first | (apply oq_fn; exact rfl; first | exact trivial | (refine ⟨?_, ?_⟩ <;> omega) | (refine ⟨?_, ?_, ?_⟩ <;> omega) | omega | skip) | ((with_reducible apply oq_load); exact rfl; exact rfl) | ((with_reducible apply oq_loadAgg); exact rfl; exact rfl) | ((with_reducible apply oq_call (k := 128) (hc := Try.call128)); exact rfl; exact rfl; exact fun D w1 hw1 => HV w1) | ((with_reducible apply oq_call (k := 137) (hc := Try.call137)); exact rfl; exact rfl; exact fun D w1 hw1 => sqrt_calls _ (by omega) (by omega) w1) | ((with_reducible apply oq_build); exact rfl; exact rfl; exact rfl) | ((with_reducible apply oq_buildA); exact rfl; exact rfl; exact rfl; exact rfl) | ((with_reducible apply oq_fieldAgg); exact rfl; exact rfl; exact rfl) | ((with_reducible apply oq_indexAgg); exact rfl; exact rfl; exact rfl; exact rfl))
      | ((with_reducible apply tl_id); first | ((with_reducible apply tl_nil)) | ((with_reducible apply u_q); exact rfl; exact rfl; exact rfl; exact rfl) | ((with_reducible apply u_s0); exact rfl; exact rfl) | ((with_reducible apply u_s); exact rfl; exact rfl; exact rfl) | ((with_reducible apply u_skip); exact rfl; exact rfl; exact rfl) | ((with_reducible apply u_splitD); exact rfl; exact rfl; all_goals first | (intro hp; try (exfalso; omega)) | skip) | ((with_reducible apply u_splitN); exact rfl; exact rfl; all_goals first | (intro hp; try (exfalso; omega)) | skip) | ((with_reducible apply u_split); exact rfl; exact rfl; all_goals first | intro hp | skip))
      | ((with_reducible apply gx_id); first | ((with_reducible apply v_nil)) | ((with_reducible apply v_q); exact rfl; exact rfl; exact rfl) | ((with_reducible apply v_skip); exact rfl; exact rfl; exact rfl) | ((with_reducible apply v_splitD); exact rfl; exact rfl; all_goals first | (intro hp; try (exfalso; omega)) | skip) | ((with_reducible apply v_splitN); exact rfl; exact rfl; all_goals first | (intro hp; try (exfalso; omega)) | skip) | ((with_reducible apply v_split); exact rfl; exact rfl; all_goals first | intro hp | skip))
      | ((with_reducible apply os_id); first | ((with_reducible apply os_x); exact rfl) | ((with_reducible apply os_store); exact rfl; exact rfl; exact rfl; exact rfl) | ((with_reducible apply os_storeAgg); exact rfl; exact rfl; exact rfl; exact rfl; exact rfl))
      | ((with_reducible apply ox_id); first | ((with_reducible apply ox_alloc); exact rfl; intro _) | ((with_reducible apply ox_box); exact rfl; exact rfl; intro _) | ((with_reducible apply ox_boxAgg); exact rfl; intro _) | ((with_reducible apply ox_buildSlice1); exact rfl; exact rfl; exact rfl; exact rfl; exact rfl; exact rfl; intro _) | ((with_reducible apply ox_buildSlice2); exact rfl; exact rfl; exact rfl; exact rfl; exact rfl; exact rfl; intro _) | ((with_reducible apply ox_buildSlice); exact rfl; exact rfl; exact rfl; exact rfl))
      | ((with_reducible apply rd_id); first | (apply Rd.own; (repeat (first | exact P0 | apply P1)); exact rfl; done) | (apply Rd.old; (first | (with_reducible assumption) | exact c0 | exact c1 | exact c2 | exact c3 | exact c4 | exact c5 | exact c6 | exact c7 | exact c8 | exact d0 | exact d1 | exact d2 | exact d3 | exact d4 | exact d5); first | exact List.not_mem_nil | exact m0 | exact m1 | exact m2 | exact m3 | exact m4 | exact m5 | exact m6 | exact m7 | exact m8 | exact m9))
      | ((with_reducible apply t_id); first | ((with_reducible apply t_seq)) | (apply t_region; kernel_rfl) | (apply t_drawn; kernel_rfl; decide +kernel) | ((with_reducible apply t_condT); exact rfl) | ((with_reducible apply t_condF); exact rfl) | ((with_reducible apply t_condD); exact rfl; all_goals first | (intro hp; try (exfalso; omega)) | skip) | ((with_reducible apply t_condN); exact rfl; all_goals first | (intro hp; try (exfalso; omega)) | skip) | ((with_reducible apply t_cond); exact rfl; all_goals first | intro hp | skip) | ((with_reducible apply t_ret)) | ((with_reducible apply t_skip)) | ((with_reducible apply t_exit)) | ((with_reducible apply t_block)))
      | with_reducible apply q_thenN
      | with_reducible apply q_thenR
      | with_reducible apply q_blockR
      | with_reducible apply q_blockN
      | with_reducible apply q_thenE
      | ((with_reducible apply q_blockE); exact rfl)
      | ((with_reducible apply q_blockO); exact rfl)
      | exact P0
      | ((with_reducible apply P1))
      | exact Rdn.zero
      | apply Rdn.succ
      | ((with_reducible apply Norm.nil); exact rfl)
      | ((with_reducible apply Norm.cons); exact rfl)
      | ((with_reducible apply end_ret))
      | ((with_reducible apply end_normal))
      | exact rvs_nil
      | ((with_reducible apply rvs_cons))
      | ((with_reducible apply rv_tmp); exact rfl)
      | ((with_reducible apply rv_cell); exact rfl; exact rfl)
      | ((with_reducible apply rv_cellAgg); exact rfl; exact rfl)
      | exact Nat.le_of_ble_eq_true rfl
      | exact (rfl : (_ : Bool) = true)
      | omega
      | (intro _ _; with_reducible apply tl_id)
      | (intro _; with_reducible apply tl_id)
      | (intro _ _; with_reducible apply al_id)
      | (intro _; with_reducible apply al_id))
    all_goals rfl
  | true =>
    have hf := (fineS_iff _).1 hq
    simp only at hf
    rw [if_pos rfl]
    by_cases ha : a < 0
    · rw [if_pos ha]
      refine enterQ (c := cx w 29) Try.func114 rfl rfl rfl rfl ?_
      repeat' (first
        | ((with_reducible apply oq_id); first | (apply oq_fn; exact rfl; first | exact trivial | (refine ⟨?_, ?_⟩ <;> omega) | (refine ⟨?_, ?_, ?_⟩ <;> omega) | omega | skip) | ((with_reducible apply oq_load); exact rfl; exact rfl) | ((with_reducible apply oq_loadAgg); exact rfl; exact rfl) | ((with_reducible apply oq_call (k := 128) (hc := Try.call128)); exact rfl; exact rfl; exact fun D w1 hw1 => HV w1) | ((with_reducible apply oq_call (k := 137) (hc := Try.call137)); exact rfl; exact rfl; exact fun D w1 hw1 => sqrt_calls _ (by omega) (by omega) w1) | ((with_reducible apply oq_build); exact rfl; exact rfl; exact rfl) | ((with_reducible apply oq_buildA); exact rfl; exact rfl; exact rfl; exact rfl) | ((with_reducible apply oq_fieldAgg); exact rfl; exact rfl; exact rfl) | ((with_reducible apply oq_indexAgg); exact rfl; exact rfl; exact rfl; exact rfl))
        | ((with_reducible apply tl_id); first | ((with_reducible apply tl_nil)) | ((with_reducible apply u_q); exact rfl; exact rfl; exact rfl; exact rfl) | ((with_reducible apply u_s0); exact rfl; exact rfl) | ((with_reducible apply u_s); exact rfl; exact rfl; exact rfl) | ((with_reducible apply u_skip); exact rfl; exact rfl; exact rfl) | ((with_reducible apply u_splitD); exact rfl; exact rfl; all_goals first | (intro hp; try (exfalso; omega)) | skip) | ((with_reducible apply u_splitN); exact rfl; exact rfl; all_goals first | (intro hp; try (exfalso; omega)) | skip) | ((with_reducible apply u_split); exact rfl; exact rfl; all_goals first | intro hp | skip))
        | ((with_reducible apply gx_id); first | ((with_reducible apply v_nil)) | ((with_reducible apply v_q); exact rfl; exact rfl; exact rfl) | ((with_reducible apply v_skip); exact rfl; exact rfl; exact rfl) | ((with_reducible apply v_splitD); exact rfl; exact rfl; all_goals first | (intro hp; try (exfalso; omega)) | skip) | ((with_reducible apply v_splitN); exact rfl; exact rfl; all_goals first | (intro hp; try (exfalso; omega)) | skip) | ((with_reducible apply v_split); exact rfl; exact rfl; all_goals first | intro hp | skip))
        | ((with_reducible apply os_id); first | ((with_reducible apply os_x); exact rfl) | ((with_reducible apply os_store); exact rfl; exact rfl; exact rfl; exact rfl) | ((with_reducible apply os_storeAgg); exact rfl; exact rfl; exact rfl; exact rfl; exact rfl))
        | ((with_reducible apply ox_id); first | ((with_reducible apply ox_alloc); exact rfl; intro _) | ((with_reducible apply ox_box); exact rfl; exact rfl; intro _) | ((with_reducible apply ox_boxAgg); exact rfl; intro _) | ((with_reducible apply ox_buildSlice1); exact rfl; exact rfl; exact rfl; exact rfl; exact rfl; exact rfl; intro _) | ((with_reducible apply ox_buildSlice2); exact rfl; exact rfl; exact rfl; exact rfl; exact rfl; exact rfl; intro _) | ((with_reducible apply ox_buildSlice); exact rfl; exact rfl; exact rfl; exact rfl))
        | ((with_reducible apply rd_id); first | (apply Rd.own; (repeat (first | exact P0 | apply P1)); exact rfl; done) | (apply Rd.old; (first | (with_reducible assumption) | exact c0 | exact c1 | exact c2 | exact c3 | exact c4 | exact c5 | exact c6 | exact c7 | exact c8 | exact d0 | exact d1 | exact d2 | exact d3 | exact d4 | exact d5); first | exact List.not_mem_nil | exact m0 | exact m1 | exact m2 | exact m3 | exact m4 | exact m5 | exact m6 | exact m7 | exact m8 | exact m9))
        | ((with_reducible apply t_id); first | ((with_reducible apply t_seq)) | (apply t_region; kernel_rfl) | (apply t_drawn; kernel_rfl; decide +kernel) | ((with_reducible apply t_condT); exact rfl) | ((with_reducible apply t_condF); exact rfl) | ((with_reducible apply t_condD); exact rfl; all_goals first | (intro hp; try (exfalso; omega)) | skip) | ((with_reducible apply t_condN); exact rfl; all_goals first | (intro hp; try (exfalso; omega)) | skip) | ((with_reducible apply t_cond); exact rfl; all_goals first | intro hp | skip) | ((with_reducible apply t_ret)) | ((with_reducible apply t_skip)) | ((with_reducible apply t_exit)) | ((with_reducible apply t_block)))
        | with_reducible apply q_thenN
        | with_reducible apply q_thenR
        | with_reducible apply q_blockR
        | with_reducible apply q_blockN
        | with_reducible apply q_thenE
        | ((with_reducible apply q_blockE); exact rfl)
        | ((with_reducible apply q_blockO); exact rfl)
        | exact P0
        | ((with_reducible apply P1))
        | exact Rdn.zero
        | apply Rdn.succ
        | ((with_reducible apply Norm.nil); exact rfl)
        | ((with_reducible apply Norm.cons); exact rfl)
        | ((with_reducible apply end_ret))
        | ((with_reducible apply end_normal))
        | exact rvs_nil
        | ((with_reducible apply rvs_cons))
        | ((with_reducible apply rv_tmp); exact rfl)
        | ((with_reducible apply rv_cell); exact rfl; exact rfl)
        | ((with_reducible apply rv_cellAgg); exact rfl; exact rfl)
        | exact Nat.le_of_ble_eq_true rfl
        | exact (rfl : (_ : Bool) = true)
        | omega
        | (intro _ _; with_reducible apply tl_id)
        | (intro _; with_reducible apply tl_id)
        | (intro _ _; with_reducible apply al_id)
        | (intro _; with_reducible apply al_id))
      all_goals rfl
    · rw [if_neg ha]
      have hb := rt_spec b (by omega)
      have hbb : rt b ≤ 1048576 := by
        rcases Int.lt_or_le 1048576 (rt b) with h | h
        · have : 1048577 * 1048577 ≤ rt b * rt b := Int.mul_le_mul (by omega) (by omega) (by omega) (by omega)
          have := hb.2.1
          omega
        · exact h
      have hb0 : 0 ≤ rt b := hb.1
      have hb1 := hb.2.1
      have hmm : InR (rt b * rt b) := by
        have := Int.mul_nonneg hb0 hb0
        exact ⟨by omega, by omega⟩
      refine enterQ (c := cx w 29) Try.func114 rfl rfl rfl rfl ?_
      repeat' (first
        | ((with_reducible apply oq_id); first | (apply oq_fn; exact rfl; first | exact trivial | (refine ⟨?_, ?_⟩ <;> omega) | (refine ⟨?_, ?_, ?_⟩ <;> omega) | omega | skip) | ((with_reducible apply oq_load); exact rfl; exact rfl) | ((with_reducible apply oq_loadAgg); exact rfl; exact rfl) | ((with_reducible apply oq_call (k := 128) (hc := Try.call128)); exact rfl; exact rfl; exact fun D w1 hw1 => HV w1) | ((with_reducible apply oq_call (k := 137) (hc := Try.call137)); exact rfl; exact rfl; exact fun D w1 hw1 => sqrt_calls _ (by omega) (by omega) w1) | ((with_reducible apply oq_build); exact rfl; exact rfl; exact rfl) | ((with_reducible apply oq_buildA); exact rfl; exact rfl; exact rfl; exact rfl) | ((with_reducible apply oq_fieldAgg); exact rfl; exact rfl; exact rfl) | ((with_reducible apply oq_indexAgg); exact rfl; exact rfl; exact rfl; exact rfl))
        | ((with_reducible apply tl_id); first | ((with_reducible apply tl_nil)) | ((with_reducible apply u_q); exact rfl; exact rfl; exact rfl; exact rfl) | ((with_reducible apply u_s0); exact rfl; exact rfl) | ((with_reducible apply u_s); exact rfl; exact rfl; exact rfl) | ((with_reducible apply u_skip); exact rfl; exact rfl; exact rfl) | ((with_reducible apply u_splitD); exact rfl; exact rfl; all_goals first | (intro hp; try (exfalso; omega)) | skip) | ((with_reducible apply u_splitN); exact rfl; exact rfl; all_goals first | (intro hp; try (exfalso; omega)) | skip) | ((with_reducible apply u_split); exact rfl; exact rfl; all_goals first | intro hp | skip))
        | ((with_reducible apply gx_id); first | ((with_reducible apply v_nil)) | ((with_reducible apply v_q); exact rfl; exact rfl; exact rfl) | ((with_reducible apply v_skip); exact rfl; exact rfl; exact rfl) | ((with_reducible apply v_splitD); exact rfl; exact rfl; all_goals first | (intro hp; try (exfalso; omega)) | skip) | ((with_reducible apply v_splitN); exact rfl; exact rfl; all_goals first | (intro hp; try (exfalso; omega)) | skip) | ((with_reducible apply v_split); exact rfl; exact rfl; all_goals first | intro hp | skip))
        | ((with_reducible apply os_id); first | ((with_reducible apply os_x); exact rfl) | ((with_reducible apply os_store); exact rfl; exact rfl; exact rfl; exact rfl) | ((with_reducible apply os_storeAgg); exact rfl; exact rfl; exact rfl; exact rfl; exact rfl))
        | ((with_reducible apply ox_id); first | ((with_reducible apply ox_alloc); exact rfl; intro _) | ((with_reducible apply ox_box); exact rfl; exact rfl; intro _) | ((with_reducible apply ox_boxAgg); exact rfl; intro _) | ((with_reducible apply ox_buildSlice1); exact rfl; exact rfl; exact rfl; exact rfl; exact rfl; exact rfl; intro _) | ((with_reducible apply ox_buildSlice2); exact rfl; exact rfl; exact rfl; exact rfl; exact rfl; exact rfl; intro _) | ((with_reducible apply ox_buildSlice); exact rfl; exact rfl; exact rfl; exact rfl))
        | ((with_reducible apply rd_id); first | (apply Rd.own; (repeat (first | exact P0 | apply P1)); exact rfl; done) | (apply Rd.old; (first | (with_reducible assumption) | exact c0 | exact c1 | exact c2 | exact c3 | exact c4 | exact c5 | exact c6 | exact c7 | exact c8 | exact d0 | exact d1 | exact d2 | exact d3 | exact d4 | exact d5); first | exact List.not_mem_nil | exact m0 | exact m1 | exact m2 | exact m3 | exact m4 | exact m5 | exact m6 | exact m7 | exact m8 | exact m9))
        | ((with_reducible apply t_id); first | ((with_reducible apply t_seq)) | (apply t_region; kernel_rfl) | (apply t_drawn; kernel_rfl; decide +kernel) | ((with_reducible apply t_condT); exact rfl) | ((with_reducible apply t_condF); exact rfl) | ((with_reducible apply t_condD); exact rfl; all_goals first | (intro hp; try (exfalso; omega)) | skip) | ((with_reducible apply t_condN); exact rfl; all_goals first | (intro hp; try (exfalso; omega)) | skip) | ((with_reducible apply t_cond); exact rfl; all_goals first | intro hp | skip) | ((with_reducible apply t_ret)) | ((with_reducible apply t_skip)) | ((with_reducible apply t_exit)) | ((with_reducible apply t_block)))
        | with_reducible apply q_thenN
        | with_reducible apply q_thenR
        | with_reducible apply q_blockR
        | with_reducible apply q_blockN
        | with_reducible apply q_thenE
        | ((with_reducible apply q_blockE); exact rfl)
        | ((with_reducible apply q_blockO); exact rfl)
        | exact P0
        | ((with_reducible apply P1))
        | exact Rdn.zero
        | apply Rdn.succ
        | ((with_reducible apply Norm.nil); exact rfl)
        | ((with_reducible apply Norm.cons); exact rfl)
        | ((with_reducible apply end_ret))
        | ((with_reducible apply end_normal))
        | exact rvs_nil
        | ((with_reducible apply rvs_cons))
        | ((with_reducible apply rv_tmp); exact rfl)
        | ((with_reducible apply rv_cell); exact rfl; exact rfl)
        | ((with_reducible apply rv_cellAgg); exact rfl; exact rfl)
        | exact hmm
        | exact Nat.le_of_ble_eq_true rfl
        | exact (rfl : (_ : Bool) = true)
        | omega
        | (intro _ _; with_reducible apply tl_id)
        | (intro _; with_reducible apply tl_id)
        | (intro _ _; with_reducible apply al_id)
        | (intro _; with_reducible apply al_id))
      · rw [if_neg (by omega)]; rfl
      · rw [if_pos (by omega)]; rfl


/-- The error of a wind that is asked about. -/
def windE (a b c d : Int) : Int := if fineS (a, b) && fineS (c, d) then (if allFrom (-2000) 2000 [a, b, c, d] then 0 else 2) else 10
theorem fromS4 {w0 : World} {M : Ms} {H H' : Hp} {w : World} {g : Nat} {a b c d lo hi : Int} {tg : Tg} {cp : Nat} {q : Bool} (hq : allFrom lo hi [a, b, c, d] = q) (h : Has w0 M H w) (p : Pick H g [.int .i64 a, .int .i64 b, .int .i64 c, .int .i64 d] tg H') :
    Calls Try.prog 71 #[.int .i64 lo, .int .i64 hi, .slice (some ⟨g, 0, none⟩) 4 cp] w fun e w' => e = .returned (.bool q) ∧ Ext w w' :=
  hq ▸ from_calls lo hi (some ⟨g, 0, none⟩) 4 cp [a, b, c, d] w (Blk.rows (k := 1) (rows := [a, b, c, d].map fun z => [Value.int .i64 z]) (h.blk _ p.mem).2 rfl (by simp)) (by omega)


theorem checkWind_calls (a b c d : Int) (w : World) : Calls Try.prog 110 #[.agg #[.int .i64 a, .int .i64 b, .int .i64 c, .int .i64 d]] w fun e w' => e = .returned (.int .i64 (windE a b c d)) ∧ Ext w w' := by
  obtain ⟨q1, h1⟩ : ∃ q, fineS (a, b) = q := ⟨_, rfl⟩
  obtain ⟨q2, h2⟩ : ∃ q, fineS (c, d) = q := ⟨_, rfl⟩
  obtain ⟨q3, h3⟩ : ∃ q, allFrom (-2000) 2000 [a, b, c, d] = q := ⟨_, rfl⟩
  have H1 := fun w1 => check_calls a b w1
  have H2 := fun w1 => check_calls c d w1
  rw [h1] at H1
  rw [h2] at H2
  unfold windE
  rw [h1, h2, h3]
  refine enterQ (c := cx w 35) Try.func110 rfl rfl rfl rfl ?_
  repeat' (first
    | ((with_reducible apply oq_id); first | (apply oq_fn; exact rfl; first | exact trivial | (refine ⟨?_, ?_⟩ <;> omega) | (refine ⟨?_, ?_, ?_⟩ <;> omega) | omega | skip) | ((with_reducible apply oq_load); exact rfl; exact rfl) | ((with_reducible apply oq_loadAgg); exact rfl; exact rfl) | ((with_reducible apply oq_build); exact rfl; exact rfl; exact rfl) | ((with_reducible apply oq_buildA); exact rfl; exact rfl; exact rfl; exact rfl) | ((with_reducible apply oq_fieldAgg); exact rfl; exact rfl; exact rfl) | ((with_reducible apply oq_indexAgg); exact rfl; exact rfl; exact rfl; exact rfl))
    | ((with_reducible apply tl_id); first | ((with_reducible apply tl_nil)) | ((with_reducible apply u_q); exact rfl; exact rfl; exact rfl; exact rfl) | ((with_reducible apply u_s0); exact rfl; exact rfl) | ((with_reducible apply u_s); exact rfl; exact rfl; exact rfl) | ((with_reducible apply u_skip); exact rfl; exact rfl; exact rfl) | ((with_reducible apply u_splitD); exact rfl; exact rfl; all_goals first | (intro hp; try (exfalso; omega)) | skip) | ((with_reducible apply u_splitN); exact rfl; exact rfl; all_goals first | (intro hp; try (exfalso; omega)) | skip) | ((with_reducible apply u_split); exact rfl; exact rfl; all_goals first | intro hp | skip))
    | ((with_reducible apply gx_id); first | ((with_reducible apply v_nil)) | ((with_reducible apply v_q); exact rfl; exact rfl; exact rfl) | ((with_reducible apply v_skip); exact rfl; exact rfl; exact rfl) | ((with_reducible apply v_splitD); exact rfl; exact rfl; all_goals first | (intro hp; try (exfalso; omega)) | skip) | ((with_reducible apply v_splitN); exact rfl; exact rfl; all_goals first | (intro hp; try (exfalso; omega)) | skip) | ((with_reducible apply v_split); exact rfl; exact rfl; all_goals first | intro hp | skip))
    | ((with_reducible apply os_id); first | ((with_reducible apply os_x); exact rfl) | ((with_reducible apply os_store); exact rfl; exact rfl; exact rfl; exact rfl) | ((with_reducible apply os_storeAgg); exact rfl; exact rfl; exact rfl; exact rfl; exact rfl))
    | ((with_reducible apply ox_id); first | ((with_reducible apply ox_alloc); exact rfl; intro _) | ((with_reducible apply ox_box); exact rfl; exact rfl; intro _) | ((with_reducible apply ox_boxAgg); exact rfl; intro _) | ((with_reducible apply ox_buildSlice1); exact rfl; exact rfl; exact rfl; exact rfl; exact rfl; exact rfl; intro _) | ((with_reducible apply ox_buildSlice2); exact rfl; exact rfl; exact rfl; exact rfl; exact rfl; exact rfl; intro _) | ((with_reducible apply ox_buildSlice); exact rfl; exact rfl; exact rfl; exact rfl))
    | ((with_reducible apply rd_id); first | (apply Rd.own; (repeat (first | exact P0 | apply P1)); exact rfl; done) | (apply Rd.old; (first | (with_reducible assumption) | exact c0 | exact c1 | exact c2 | exact c3 | exact c4 | exact c5 | exact c6 | exact c7 | exact c8 | exact d0 | exact d1 | exact d2 | exact d3 | exact d4 | exact d5); first | exact List.not_mem_nil | exact m0 | exact m1 | exact m2 | exact m3 | exact m4 | exact m5 | exact m6 | exact m7 | exact m8 | exact m9))
    | ((with_reducible apply t_id); first | ((with_reducible apply t_seq)) | (apply t_region; kernel_rfl) | (apply t_drawn; kernel_rfl; decide +kernel) | ((with_reducible apply t_condT); exact rfl) | ((with_reducible apply t_condF); exact rfl) | ((with_reducible apply t_condD); exact rfl; all_goals first | (intro hp; try (exfalso; omega)) | skip) | ((with_reducible apply t_condN); exact rfl; all_goals first | (intro hp; try (exfalso; omega)) | skip) | ((with_reducible apply t_cond); exact rfl; all_goals first | intro hp | skip) | ((with_reducible apply t_ret)) | ((with_reducible apply t_skip)) | ((with_reducible apply t_exit)) | ((with_reducible apply t_block)))
    | with_reducible apply q_thenN
    | with_reducible apply q_thenR
    | with_reducible apply q_blockR
    | with_reducible apply q_blockN
    | with_reducible apply q_thenE
    | ((with_reducible apply q_blockE); exact rfl)
    | ((with_reducible apply q_blockO); exact rfl)
    | exact P0
    | ((with_reducible apply P1))
    | exact Rdn.zero
    | apply Rdn.succ
    | ((with_reducible apply Norm.nil); exact rfl)
    | ((with_reducible apply Norm.cons); exact rfl)
    | ((with_reducible apply end_ret))
    | ((with_reducible apply end_normal))
    | exact rvs_nil
    | ((with_reducible apply rvs_cons))
    | ((with_reducible apply rv_tmp); exact rfl)
    | ((with_reducible apply rv_cell); exact rfl; exact rfl)
    | ((with_reducible apply rv_cellAgg); exact rfl; exact rfl)
    | exact Nat.le_of_ble_eq_true rfl
    | exact (rfl : (_ : Bool) = true)
    | omega
    | (intro _ _; with_reducible apply tl_id)
    | (intro _; with_reducible apply tl_id)
    | (intro _ _; with_reducible apply al_id)
    | (intro _; with_reducible apply al_id))
  apply t_loopK (ι := Nat) [1, 10, 20, 21, 22, 23, 24, 25, 26, 27, 28, 29, 30, 31, 32, 33, 34] (fun k => [(11, .int .i64 (k : Nat))]) (fun _ => []) (fun k => k ≤ 2 ∧ (1 ≤ k → q1 = true) ∧ (2 ≤ k → q2 = true)) (fun k => 2 - k) (0)
  (repeat (first | exact KeepF.nil | (apply KeepF.cons; exact rfl) | apply KeepF.skip))
  (repeat (first | exact FrSub.nil | (apply FrSub.cons; exact rfl)))
  (repeat (first | exact HpSub.refl _ | (apply HpSub.consE; (repeat (first | exact P0 | apply P1)); exact rfl) | exact HpSub.nil))
  · simp
  rintro k ⟨k0, k1, k2⟩
  try simp only [List.cons_append, List.nil_append]
  have hk : k = 0 ∨ k = 1 ∨ k = 2 := by omega
  rcases hk with rfl | rfl | rfl
  · cases q1 with
    | false =>
      simp only [Bool.false_eq_true, if_false] at H1
      repeat' (first
        | ((with_reducible apply oq_id); first | (apply oq_fn; exact rfl; first | exact trivial | (refine ⟨?_, ?_⟩ <;> omega) | (refine ⟨?_, ?_, ?_⟩ <;> omega) | omega | skip) | ((with_reducible apply oq_load); exact rfl; exact rfl) | ((with_reducible apply oq_loadAgg); exact rfl; exact rfl) | ((with_reducible apply oq_call (k := 55) (hc := Try.call55)); exact rfl; exact rfl; exact fun D w1 hw1 => H1 w1) | ((with_reducible apply oq_call (k := 55) (hc := Try.call55)); exact rfl; exact rfl; exact fun D w1 hw1 => H2 w1) | ((with_reducible apply oq_call (k := 71) (hc := Try.call71)); exact rfl; exact rfl; exact fun D w1 hw1 => fromS4 h3 hw1 (by (repeat (first | exact P0 | apply P1)))) | ((with_reducible apply oq_build); exact rfl; exact rfl; exact rfl) | ((with_reducible apply oq_buildA); exact rfl; exact rfl; exact rfl; exact rfl) | ((with_reducible apply oq_fieldAgg); exact rfl; exact rfl; exact rfl) | ((with_reducible apply oq_indexAgg); exact rfl; exact rfl; exact rfl; exact rfl))
        | ((with_reducible apply tl_id); first | ((with_reducible apply tl_nil)) | ((with_reducible apply u_q); exact rfl; exact rfl; exact rfl; exact rfl) | ((with_reducible apply u_s0); exact rfl; exact rfl) | ((with_reducible apply u_s); exact rfl; exact rfl; exact rfl) | ((with_reducible apply u_skip); exact rfl; exact rfl; exact rfl) | ((with_reducible apply u_splitD); exact rfl; exact rfl; all_goals first | (intro hp; try (exfalso; omega)) | skip) | ((with_reducible apply u_splitN); exact rfl; exact rfl; all_goals first | (intro hp; try (exfalso; omega)) | skip) | ((with_reducible apply u_split); exact rfl; exact rfl; all_goals first | intro hp | skip))
        | ((with_reducible apply gx_id); first | ((with_reducible apply v_nil)) | ((with_reducible apply v_q); exact rfl; exact rfl; exact rfl) | ((with_reducible apply v_skip); exact rfl; exact rfl; exact rfl) | ((with_reducible apply v_splitD); exact rfl; exact rfl; all_goals first | (intro hp; try (exfalso; omega)) | skip) | ((with_reducible apply v_splitN); exact rfl; exact rfl; all_goals first | (intro hp; try (exfalso; omega)) | skip) | ((with_reducible apply v_split); exact rfl; exact rfl; all_goals first | intro hp | skip))
        | ((with_reducible apply os_id); first | ((with_reducible apply os_x); exact rfl) | ((with_reducible apply os_store); exact rfl; exact rfl; exact rfl; exact rfl) | ((with_reducible apply os_storeAgg); exact rfl; exact rfl; exact rfl; exact rfl; exact rfl))
        | ((with_reducible apply ox_id); first | ((with_reducible apply ox_alloc); exact rfl; intro _) | ((with_reducible apply ox_box); exact rfl; exact rfl; intro _) | ((with_reducible apply ox_boxAgg); exact rfl; intro _) | ((with_reducible apply ox_buildSlice1); exact rfl; exact rfl; exact rfl; exact rfl; exact rfl; exact rfl; intro _) | ((with_reducible apply ox_buildSlice2); exact rfl; exact rfl; exact rfl; exact rfl; exact rfl; exact rfl; intro _) | ((with_reducible apply ox_buildSlice); exact rfl; exact rfl; exact rfl; exact rfl))
        | ((with_reducible apply rd_id); first | (apply Rd.own; (repeat (first | exact P0 | apply P1)); exact rfl; done) | (apply Rd.old; (first | (with_reducible assumption) | exact c0 | exact c1 | exact c2 | exact c3 | exact c4 | exact c5 | exact c6 | exact c7 | exact c8 | exact d0 | exact d1 | exact d2 | exact d3 | exact d4 | exact d5); first | exact List.not_mem_nil | exact m0 | exact m1 | exact m2 | exact m3 | exact m4 | exact m5 | exact m6 | exact m7 | exact m8 | exact m9))
        | ((with_reducible apply t_id); first | ((with_reducible apply t_seq)) | (apply t_region; kernel_rfl) | (apply t_drawn; kernel_rfl; decide +kernel) | ((with_reducible apply t_condT); exact rfl) | ((with_reducible apply t_condF); exact rfl) | ((with_reducible apply t_condD); exact rfl; all_goals first | (intro hp; try (exfalso; omega)) | skip) | ((with_reducible apply t_condN); exact rfl; all_goals first | (intro hp; try (exfalso; omega)) | skip) | ((with_reducible apply t_cond); exact rfl; all_goals first | intro hp | skip) | ((with_reducible apply t_ret)) | ((with_reducible apply t_skip)) | ((with_reducible apply t_exit)) | ((with_reducible apply t_block)))
        | with_reducible apply q_thenN
        | with_reducible apply q_thenR
        | with_reducible apply q_blockR
        | with_reducible apply q_blockN
        | with_reducible apply q_thenE
        | ((with_reducible apply q_blockE); exact rfl)
        | ((with_reducible apply q_blockO); exact rfl)
        | exact P0
        | ((with_reducible apply P1))
        | exact Rdn.zero
        | apply Rdn.succ
        | ((with_reducible apply Norm.nil); exact rfl)
        | ((with_reducible apply Norm.cons); exact rfl)
        | ((with_reducible apply end_ret))
        | ((with_reducible apply end_normal))
        | exact rvs_nil
        | ((with_reducible apply rvs_cons))
        | ((with_reducible apply rv_tmp); exact rfl)
        | ((with_reducible apply rv_cell); exact rfl; exact rfl)
        | ((with_reducible apply rv_cellAgg); exact rfl; exact rfl)
        | exact Nat.le_of_ble_eq_true rfl
        | exact (rfl : (_ : Bool) = true)
        | omega
        | (intro _ _; with_reducible apply tl_id)
        | (intro _; with_reducible apply tl_id)
        | (intro _ _; with_reducible apply al_id)
        | (intro _; with_reducible apply al_id))
      rfl
    | true =>
      simp only [if_true] at H1
      repeat' (first
        | ((with_reducible apply oq_id); first | (apply oq_fn; exact rfl; first | exact trivial | (refine ⟨?_, ?_⟩ <;> omega) | (refine ⟨?_, ?_, ?_⟩ <;> omega) | omega | skip) | ((with_reducible apply oq_load); exact rfl; exact rfl) | ((with_reducible apply oq_loadAgg); exact rfl; exact rfl) | ((with_reducible apply oq_call (k := 55) (hc := Try.call55)); exact rfl; exact rfl; exact fun D w1 hw1 => H1 w1) | ((with_reducible apply oq_call (k := 55) (hc := Try.call55)); exact rfl; exact rfl; exact fun D w1 hw1 => H2 w1) | ((with_reducible apply oq_call (k := 71) (hc := Try.call71)); exact rfl; exact rfl; exact fun D w1 hw1 => fromS4 h3 hw1 (by (repeat (first | exact P0 | apply P1)))) | ((with_reducible apply oq_build); exact rfl; exact rfl; exact rfl) | ((with_reducible apply oq_buildA); exact rfl; exact rfl; exact rfl; exact rfl) | ((with_reducible apply oq_fieldAgg); exact rfl; exact rfl; exact rfl) | ((with_reducible apply oq_indexAgg); exact rfl; exact rfl; exact rfl; exact rfl))
        | ((with_reducible apply tl_id); first | ((with_reducible apply tl_nil)) | ((with_reducible apply u_q); exact rfl; exact rfl; exact rfl; exact rfl) | ((with_reducible apply u_s0); exact rfl; exact rfl) | ((with_reducible apply u_s); exact rfl; exact rfl; exact rfl) | ((with_reducible apply u_skip); exact rfl; exact rfl; exact rfl) | ((with_reducible apply u_splitD); exact rfl; exact rfl; all_goals first | (intro hp; try (exfalso; omega)) | skip) | ((with_reducible apply u_splitN); exact rfl; exact rfl; all_goals first | (intro hp; try (exfalso; omega)) | skip) | ((with_reducible apply u_split); exact rfl; exact rfl; all_goals first | intro hp | skip))
        | ((with_reducible apply gx_id); first | ((with_reducible apply v_nil)) | ((with_reducible apply v_q); exact rfl; exact rfl; exact rfl) | ((with_reducible apply v_skip); exact rfl; exact rfl; exact rfl) | ((with_reducible apply v_splitD); exact rfl; exact rfl; all_goals first | (intro hp; try (exfalso; omega)) | skip) | ((with_reducible apply v_splitN); exact rfl; exact rfl; all_goals first | (intro hp; try (exfalso; omega)) | skip) | ((with_reducible apply v_split); exact rfl; exact rfl; all_goals first | intro hp | skip))
        | ((with_reducible apply os_id); first | ((with_reducible apply os_x); exact rfl) | ((with_reducible apply os_store); exact rfl; exact rfl; exact rfl; exact rfl) | ((with_reducible apply os_storeAgg); exact rfl; exact rfl; exact rfl; exact rfl; exact rfl))
        | ((with_reducible apply ox_id); first | ((with_reducible apply ox_alloc); exact rfl; intro _) | ((with_reducible apply ox_box); exact rfl; exact rfl; intro _) | ((with_reducible apply ox_boxAgg); exact rfl; intro _) | ((with_reducible apply ox_buildSlice1); exact rfl; exact rfl; exact rfl; exact rfl; exact rfl; exact rfl; intro _) | ((with_reducible apply ox_buildSlice2); exact rfl; exact rfl; exact rfl; exact rfl; exact rfl; exact rfl; intro _) | ((with_reducible apply ox_buildSlice); exact rfl; exact rfl; exact rfl; exact rfl))
        | ((with_reducible apply rd_id); first | (apply Rd.own; (repeat (first | exact P0 | apply P1)); exact rfl; done) | (apply Rd.old; (first | (with_reducible assumption) | exact c0 | exact c1 | exact c2 | exact c3 | exact c4 | exact c5 | exact c6 | exact c7 | exact c8 | exact d0 | exact d1 | exact d2 | exact d3 | exact d4 | exact d5); first | exact List.not_mem_nil | exact m0 | exact m1 | exact m2 | exact m3 | exact m4 | exact m5 | exact m6 | exact m7 | exact m8 | exact m9))
        | ((with_reducible apply t_id); first | ((with_reducible apply t_seq)) | (apply t_region; kernel_rfl) | (apply t_drawn; kernel_rfl; decide +kernel) | ((with_reducible apply t_condT); exact rfl) | ((with_reducible apply t_condF); exact rfl) | ((with_reducible apply t_condD); exact rfl; all_goals first | (intro hp; try (exfalso; omega)) | skip) | ((with_reducible apply t_condN); exact rfl; all_goals first | (intro hp; try (exfalso; omega)) | skip) | ((with_reducible apply t_cond); exact rfl; all_goals first | intro hp | skip) | ((with_reducible apply t_ret)) | ((with_reducible apply t_skip)) | ((with_reducible apply t_exit)) | ((with_reducible apply t_block)))
        | with_reducible apply q_thenN
        | with_reducible apply q_thenR
        | with_reducible apply q_blockR
        | with_reducible apply q_blockN
        | with_reducible apply q_thenE
        | ((with_reducible apply q_blockE); exact rfl)
        | ((with_reducible apply q_blockO); exact rfl)
        | exact P0
        | ((with_reducible apply P1))
        | exact Rdn.zero
        | apply Rdn.succ
        | ((with_reducible apply Norm.nil); exact rfl)
        | ((with_reducible apply Norm.cons); exact rfl)
        | ((with_reducible apply end_ret))
        | ((with_reducible apply end_normal))
        | exact rvs_nil
        | ((with_reducible apply rvs_cons))
        | ((with_reducible apply rv_tmp); exact rfl)
        | ((with_reducible apply rv_cell); exact rfl; exact rfl)
        | ((with_reducible apply rv_cellAgg); exact rfl; exact rfl)
        | exact Nat.le_of_ble_eq_true rfl
        | exact (rfl : (_ : Bool) = true)
        | omega
        | (intro _ _; with_reducible apply tl_id)
        | (intro _; with_reducible apply tl_id)
        | (intro _ _; with_reducible apply al_id)
        | (intro _; with_reducible apply al_id))
      refine ⟨1, ⟨by omega, fun _ => rfl, fun h => by omega⟩, by omega, ?_, ?_⟩
      · try simp only [List.cons_append, List.nil_append]
        (repeat (first | exact FrSub.nil | (apply FrSub.cons; exact rfl)))
      · try simp only [List.cons_append, List.nil_append]
        (repeat (first | exact HpSub.refl _ | (apply HpSub.consE; (repeat (first | exact P0 | apply P1)); exact rfl) | exact HpSub.nil))
  · obtain rfl : q1 = true := k1 (by omega)
    cases q2 with
    | false =>
      simp only [Bool.false_eq_true, if_false] at H2
      repeat' (first
        | ((with_reducible apply oq_id); first | (apply oq_fn; exact rfl; first | exact trivial | (refine ⟨?_, ?_⟩ <;> omega) | (refine ⟨?_, ?_, ?_⟩ <;> omega) | omega | skip) | ((with_reducible apply oq_load); exact rfl; exact rfl) | ((with_reducible apply oq_loadAgg); exact rfl; exact rfl) | ((with_reducible apply oq_call (k := 55) (hc := Try.call55)); exact rfl; exact rfl; exact fun D w1 hw1 => H1 w1) | ((with_reducible apply oq_call (k := 55) (hc := Try.call55)); exact rfl; exact rfl; exact fun D w1 hw1 => H2 w1) | ((with_reducible apply oq_call (k := 71) (hc := Try.call71)); exact rfl; exact rfl; exact fun D w1 hw1 => fromS4 h3 hw1 (by (repeat (first | exact P0 | apply P1)))) | ((with_reducible apply oq_build); exact rfl; exact rfl; exact rfl) | ((with_reducible apply oq_buildA); exact rfl; exact rfl; exact rfl; exact rfl) | ((with_reducible apply oq_fieldAgg); exact rfl; exact rfl; exact rfl) | ((with_reducible apply oq_indexAgg); exact rfl; exact rfl; exact rfl; exact rfl))
        | ((with_reducible apply tl_id); first | ((with_reducible apply tl_nil)) | ((with_reducible apply u_q); exact rfl; exact rfl; exact rfl; exact rfl) | ((with_reducible apply u_s0); exact rfl; exact rfl) | ((with_reducible apply u_s); exact rfl; exact rfl; exact rfl) | ((with_reducible apply u_skip); exact rfl; exact rfl; exact rfl) | ((with_reducible apply u_splitD); exact rfl; exact rfl; all_goals first | (intro hp; try (exfalso; omega)) | skip) | ((with_reducible apply u_splitN); exact rfl; exact rfl; all_goals first | (intro hp; try (exfalso; omega)) | skip) | ((with_reducible apply u_split); exact rfl; exact rfl; all_goals first | intro hp | skip))
        | ((with_reducible apply gx_id); first | ((with_reducible apply v_nil)) | ((with_reducible apply v_q); exact rfl; exact rfl; exact rfl) | ((with_reducible apply v_skip); exact rfl; exact rfl; exact rfl) | ((with_reducible apply v_splitD); exact rfl; exact rfl; all_goals first | (intro hp; try (exfalso; omega)) | skip) | ((with_reducible apply v_splitN); exact rfl; exact rfl; all_goals first | (intro hp; try (exfalso; omega)) | skip) | ((with_reducible apply v_split); exact rfl; exact rfl; all_goals first | intro hp | skip))
        | ((with_reducible apply os_id); first | ((with_reducible apply os_x); exact rfl) | ((with_reducible apply os_store); exact rfl; exact rfl; exact rfl; exact rfl) | ((with_reducible apply os_storeAgg); exact rfl; exact rfl; exact rfl; exact rfl; exact rfl))
        | ((with_reducible apply ox_id); first | ((with_reducible apply ox_alloc); exact rfl; intro _) | ((with_reducible apply ox_box); exact rfl; exact rfl; intro _) | ((with_reducible apply ox_boxAgg); exact rfl; intro _) | ((with_reducible apply ox_buildSlice1); exact rfl; exact rfl; exact rfl; exact rfl; exact rfl; exact rfl; intro _) | ((with_reducible apply ox_buildSlice2); exact rfl; exact rfl; exact rfl; exact rfl; exact rfl; exact rfl; intro _) | ((with_reducible apply ox_buildSlice); exact rfl; exact rfl; exact rfl; exact rfl))
        | ((with_reducible apply rd_id); first | (apply Rd.own; (repeat (first | exact P0 | apply P1)); exact rfl; done) | (apply Rd.old; (first | (with_reducible assumption) | exact c0 | exact c1 | exact c2 | exact c3 | exact c4 | exact c5 | exact c6 | exact c7 | exact c8 | exact d0 | exact d1 | exact d2 | exact d3 | exact d4 | exact d5); first | exact List.not_mem_nil | exact m0 | exact m1 | exact m2 | exact m3 | exact m4 | exact m5 | exact m6 | exact m7 | exact m8 | exact m9))
        | ((with_reducible apply t_id); first | ((with_reducible apply t_seq)) | (apply t_region; kernel_rfl) | (apply t_drawn; kernel_rfl; decide +kernel) | ((with_reducible apply t_condT); exact rfl) | ((with_reducible apply t_condF); exact rfl) | ((with_reducible apply t_condD); exact rfl; all_goals first | (intro hp; try (exfalso; omega)) | skip) | ((with_reducible apply t_condN); exact rfl; all_goals first | (intro hp; try (exfalso; omega)) | skip) | ((with_reducible apply t_cond); exact rfl; all_goals first | intro hp | skip) | ((with_reducible apply t_ret)) | ((with_reducible apply t_skip)) | ((with_reducible apply t_exit)) | ((with_reducible apply t_block)))
        | with_reducible apply q_thenN
        | with_reducible apply q_thenR
        | with_reducible apply q_blockR
        | with_reducible apply q_blockN
        | with_reducible apply q_thenE
        | ((with_reducible apply q_blockE); exact rfl)
        | ((with_reducible apply q_blockO); exact rfl)
        | exact P0
        | ((with_reducible apply P1))
        | exact Rdn.zero
        | apply Rdn.succ
        | ((with_reducible apply Norm.nil); exact rfl)
        | ((with_reducible apply Norm.cons); exact rfl)
        | ((with_reducible apply end_ret))
        | ((with_reducible apply end_normal))
        | exact rvs_nil
        | ((with_reducible apply rvs_cons))
        | ((with_reducible apply rv_tmp); exact rfl)
        | ((with_reducible apply rv_cell); exact rfl; exact rfl)
        | ((with_reducible apply rv_cellAgg); exact rfl; exact rfl)
        | exact Nat.le_of_ble_eq_true rfl
        | exact (rfl : (_ : Bool) = true)
        | omega
        | (intro _ _; with_reducible apply tl_id)
        | (intro _; with_reducible apply tl_id)
        | (intro _ _; with_reducible apply al_id)
        | (intro _; with_reducible apply al_id))
      rfl
    | true =>
      simp only [if_true] at H2
      repeat' (first
        | ((with_reducible apply oq_id); first | (apply oq_fn; exact rfl; first | exact trivial | (refine ⟨?_, ?_⟩ <;> omega) | (refine ⟨?_, ?_, ?_⟩ <;> omega) | omega | skip) | ((with_reducible apply oq_load); exact rfl; exact rfl) | ((with_reducible apply oq_loadAgg); exact rfl; exact rfl) | ((with_reducible apply oq_call (k := 55) (hc := Try.call55)); exact rfl; exact rfl; exact fun D w1 hw1 => H1 w1) | ((with_reducible apply oq_call (k := 55) (hc := Try.call55)); exact rfl; exact rfl; exact fun D w1 hw1 => H2 w1) | ((with_reducible apply oq_call (k := 71) (hc := Try.call71)); exact rfl; exact rfl; exact fun D w1 hw1 => fromS4 h3 hw1 (by (repeat (first | exact P0 | apply P1)))) | ((with_reducible apply oq_build); exact rfl; exact rfl; exact rfl) | ((with_reducible apply oq_buildA); exact rfl; exact rfl; exact rfl; exact rfl) | ((with_reducible apply oq_fieldAgg); exact rfl; exact rfl; exact rfl) | ((with_reducible apply oq_indexAgg); exact rfl; exact rfl; exact rfl; exact rfl))
        | ((with_reducible apply tl_id); first | ((with_reducible apply tl_nil)) | ((with_reducible apply u_q); exact rfl; exact rfl; exact rfl; exact rfl) | ((with_reducible apply u_s0); exact rfl; exact rfl) | ((with_reducible apply u_s); exact rfl; exact rfl; exact rfl) | ((with_reducible apply u_skip); exact rfl; exact rfl; exact rfl) | ((with_reducible apply u_splitD); exact rfl; exact rfl; all_goals first | (intro hp; try (exfalso; omega)) | skip) | ((with_reducible apply u_splitN); exact rfl; exact rfl; all_goals first | (intro hp; try (exfalso; omega)) | skip) | ((with_reducible apply u_split); exact rfl; exact rfl; all_goals first | intro hp | skip))
        | ((with_reducible apply gx_id); first | ((with_reducible apply v_nil)) | ((with_reducible apply v_q); exact rfl; exact rfl; exact rfl) | ((with_reducible apply v_skip); exact rfl; exact rfl; exact rfl) | ((with_reducible apply v_splitD); exact rfl; exact rfl; all_goals first | (intro hp; try (exfalso; omega)) | skip) | ((with_reducible apply v_splitN); exact rfl; exact rfl; all_goals first | (intro hp; try (exfalso; omega)) | skip) | ((with_reducible apply v_split); exact rfl; exact rfl; all_goals first | intro hp | skip))
        | ((with_reducible apply os_id); first | ((with_reducible apply os_x); exact rfl) | ((with_reducible apply os_store); exact rfl; exact rfl; exact rfl; exact rfl) | ((with_reducible apply os_storeAgg); exact rfl; exact rfl; exact rfl; exact rfl; exact rfl))
        | ((with_reducible apply ox_id); first | ((with_reducible apply ox_alloc); exact rfl; intro _) | ((with_reducible apply ox_box); exact rfl; exact rfl; intro _) | ((with_reducible apply ox_boxAgg); exact rfl; intro _) | ((with_reducible apply ox_buildSlice1); exact rfl; exact rfl; exact rfl; exact rfl; exact rfl; exact rfl; intro _) | ((with_reducible apply ox_buildSlice2); exact rfl; exact rfl; exact rfl; exact rfl; exact rfl; exact rfl; intro _) | ((with_reducible apply ox_buildSlice); exact rfl; exact rfl; exact rfl; exact rfl))
        | ((with_reducible apply rd_id); first | (apply Rd.own; (repeat (first | exact P0 | apply P1)); exact rfl; done) | (apply Rd.old; (first | (with_reducible assumption) | exact c0 | exact c1 | exact c2 | exact c3 | exact c4 | exact c5 | exact c6 | exact c7 | exact c8 | exact d0 | exact d1 | exact d2 | exact d3 | exact d4 | exact d5); first | exact List.not_mem_nil | exact m0 | exact m1 | exact m2 | exact m3 | exact m4 | exact m5 | exact m6 | exact m7 | exact m8 | exact m9))
        | ((with_reducible apply t_id); first | ((with_reducible apply t_seq)) | (apply t_region; kernel_rfl) | (apply t_drawn; kernel_rfl; decide +kernel) | ((with_reducible apply t_condT); exact rfl) | ((with_reducible apply t_condF); exact rfl) | ((with_reducible apply t_condD); exact rfl; all_goals first | (intro hp; try (exfalso; omega)) | skip) | ((with_reducible apply t_condN); exact rfl; all_goals first | (intro hp; try (exfalso; omega)) | skip) | ((with_reducible apply t_cond); exact rfl; all_goals first | intro hp | skip) | ((with_reducible apply t_ret)) | ((with_reducible apply t_skip)) | ((with_reducible apply t_exit)) | ((with_reducible apply t_block)))
        | with_reducible apply q_thenN
        | with_reducible apply q_thenR
        | with_reducible apply q_blockR
        | with_reducible apply q_blockN
        | with_reducible apply q_thenE
        | ((with_reducible apply q_blockE); exact rfl)
        | ((with_reducible apply q_blockO); exact rfl)
        | exact P0
        | ((with_reducible apply P1))
        | exact Rdn.zero
        | apply Rdn.succ
        | ((with_reducible apply Norm.nil); exact rfl)
        | ((with_reducible apply Norm.cons); exact rfl)
        | ((with_reducible apply end_ret))
        | ((with_reducible apply end_normal))
        | exact rvs_nil
        | ((with_reducible apply rvs_cons))
        | ((with_reducible apply rv_tmp); exact rfl)
        | ((with_reducible apply rv_cell); exact rfl; exact rfl)
        | ((with_reducible apply rv_cellAgg); exact rfl; exact rfl)
        | exact Nat.le_of_ble_eq_true rfl
        | exact (rfl : (_ : Bool) = true)
        | omega
        | (intro _ _; with_reducible apply tl_id)
        | (intro _; with_reducible apply tl_id)
        | (intro _ _; with_reducible apply al_id)
        | (intro _; with_reducible apply al_id))
      refine ⟨2, ⟨by omega, fun _ => rfl, fun _ => rfl⟩, by omega, ?_, ?_⟩
      · try simp only [List.cons_append, List.nil_append]
        (repeat (first | exact FrSub.nil | (apply FrSub.cons; exact rfl)))
      · try simp only [List.cons_append, List.nil_append]
        (repeat (first | exact HpSub.refl _ | (apply HpSub.consE; (repeat (first | exact P0 | apply P1)); exact rfl) | exact HpSub.nil))
  · obtain rfl : q1 = true := k1 (by omega)
    obtain rfl : q2 = true := k2 (by omega)
    repeat' (first
      | ((with_reducible apply oq_id); first | (apply oq_fn; exact rfl; first | exact trivial | (refine ⟨?_, ?_⟩ <;> omega) | (refine ⟨?_, ?_, ?_⟩ <;> omega) | omega | skip) | ((with_reducible apply oq_load); exact rfl; exact rfl) | ((with_reducible apply oq_loadAgg); exact rfl; exact rfl) | ((with_reducible apply oq_call (k := 55) (hc := Try.call55)); exact rfl; exact rfl; exact fun D w1 hw1 => H1 w1) | ((with_reducible apply oq_call (k := 55) (hc := Try.call55)); exact rfl; exact rfl; exact fun D w1 hw1 => H2 w1) | ((with_reducible apply oq_call (k := 71) (hc := Try.call71)); exact rfl; exact rfl; exact fun D w1 hw1 => fromS4 h3 hw1 (by (repeat (first | exact P0 | apply P1)))) | ((with_reducible apply oq_build); exact rfl; exact rfl; exact rfl) | ((with_reducible apply oq_buildA); exact rfl; exact rfl; exact rfl; exact rfl) | ((with_reducible apply oq_fieldAgg); exact rfl; exact rfl; exact rfl) | ((with_reducible apply oq_indexAgg); exact rfl; exact rfl; exact rfl; exact rfl))
      | ((with_reducible apply tl_id); first | ((with_reducible apply tl_nil)) | ((with_reducible apply u_q); exact rfl; exact rfl; exact rfl; exact rfl) | ((with_reducible apply u_s0); exact rfl; exact rfl) | ((with_reducible apply u_s); exact rfl; exact rfl; exact rfl) | ((with_reducible apply u_skip); exact rfl; exact rfl; exact rfl) | ((with_reducible apply u_splitD); exact rfl; exact rfl; all_goals first | (intro hp; try (exfalso; omega)) | skip) | ((with_reducible apply u_splitN); exact rfl; exact rfl; all_goals first | (intro hp; try (exfalso; omega)) | skip) | ((with_reducible apply u_split); exact rfl; exact rfl; all_goals first | intro hp | skip))
      | ((with_reducible apply gx_id); first | ((with_reducible apply v_nil)) | ((with_reducible apply v_q); exact rfl; exact rfl; exact rfl) | ((with_reducible apply v_skip); exact rfl; exact rfl; exact rfl) | ((with_reducible apply v_splitD); exact rfl; exact rfl; all_goals first | (intro hp; try (exfalso; omega)) | skip) | ((with_reducible apply v_splitN); exact rfl; exact rfl; all_goals first | (intro hp; try (exfalso; omega)) | skip) | ((with_reducible apply v_split); exact rfl; exact rfl; all_goals first | intro hp | skip))
      | ((with_reducible apply os_id); first | ((with_reducible apply os_x); exact rfl) | ((with_reducible apply os_store); exact rfl; exact rfl; exact rfl; exact rfl) | ((with_reducible apply os_storeAgg); exact rfl; exact rfl; exact rfl; exact rfl; exact rfl))
      | ((with_reducible apply ox_id); first | ((with_reducible apply ox_alloc); exact rfl; intro _) | ((with_reducible apply ox_box); exact rfl; exact rfl; intro _) | ((with_reducible apply ox_boxAgg); exact rfl; intro _) | ((with_reducible apply ox_buildSlice1); exact rfl; exact rfl; exact rfl; exact rfl; exact rfl; exact rfl; intro _) | ((with_reducible apply ox_buildSlice2); exact rfl; exact rfl; exact rfl; exact rfl; exact rfl; exact rfl; intro _) | ((with_reducible apply ox_buildSlice); exact rfl; exact rfl; exact rfl; exact rfl))
      | ((with_reducible apply rd_id); first | (apply Rd.own; (repeat (first | exact P0 | apply P1)); exact rfl; done) | (apply Rd.old; (first | (with_reducible assumption) | exact c0 | exact c1 | exact c2 | exact c3 | exact c4 | exact c5 | exact c6 | exact c7 | exact c8 | exact d0 | exact d1 | exact d2 | exact d3 | exact d4 | exact d5); first | exact List.not_mem_nil | exact m0 | exact m1 | exact m2 | exact m3 | exact m4 | exact m5 | exact m6 | exact m7 | exact m8 | exact m9))
      | ((with_reducible apply t_id); first | ((with_reducible apply t_seq)) | (apply t_region; kernel_rfl) | (apply t_drawn; kernel_rfl; decide +kernel) | ((with_reducible apply t_condT); exact rfl) | ((with_reducible apply t_condF); exact rfl) | ((with_reducible apply t_condD); exact rfl; all_goals first | (intro hp; try (exfalso; omega)) | skip) | ((with_reducible apply t_condN); exact rfl; all_goals first | (intro hp; try (exfalso; omega)) | skip) | ((with_reducible apply t_cond); exact rfl; all_goals first | intro hp | skip) | ((with_reducible apply t_ret)) | ((with_reducible apply t_skip)) | ((with_reducible apply t_exit)) | ((with_reducible apply t_block)))
      | with_reducible apply q_thenN
      | with_reducible apply q_thenR
      | with_reducible apply q_blockR
      | with_reducible apply q_blockN
      | with_reducible apply q_thenE
      | ((with_reducible apply q_blockE); exact rfl)
      | ((with_reducible apply q_blockO); exact rfl)
      | exact P0
      | ((with_reducible apply P1))
      | exact Rdn.zero
      | apply Rdn.succ
      | ((with_reducible apply Norm.nil); exact rfl)
      | ((with_reducible apply Norm.cons); exact rfl)
      | ((with_reducible apply end_ret))
      | ((with_reducible apply end_normal))
      | exact rvs_nil
      | ((with_reducible apply rvs_cons))
      | ((with_reducible apply rv_tmp); exact rfl)
      | ((with_reducible apply rv_cell); exact rfl; exact rfl)
      | ((with_reducible apply rv_cellAgg); exact rfl; exact rfl)
      | exact Nat.le_of_ble_eq_true rfl
      | exact (rfl : (_ : Bool) = true)
      | omega
      | (intro _ _; with_reducible apply tl_id)
      | (intro _; with_reducible apply tl_id)
      | (intro _ _; with_reducible apply al_id)
      | (intro _; with_reducible apply al_id))
    all_goals (cases q3 <;> first | rfl | simp_all)


theorem blows_calls (a b c d : Int) (w : World) : Calls Try.prog 112 #[.agg #[.int .i64 a, .int .i64 b, .int .i64 c, .int .i64 d]] w fun e w' => e = .returned (.int .i64 (windE a b c d)) ∧ Ext w w' := by
  obtain ⟨q1, h1⟩ : ∃ q, fineS (a, b) = q := ⟨_, rfl⟩
  obtain ⟨q2, h2⟩ : ∃ q, fineS (c, d) = q := ⟨_, rfl⟩
  have H1 : ∀ w1, Calls Try.prog 128 #[.agg #[.int .i64 a, .int .i64 b]] w1 fun e w' => e = .returned (.bool q1) ∧ Ext w1 w' := fun w1 => h1 ▸ valid_calls (a, b) w1
  have H2 : ∀ w1, Calls Try.prog 128 #[.agg #[.int .i64 c, .int .i64 d]] w1 fun e w' => e = .returned (.bool q2) ∧ Ext w1 w' := fun w1 => h2 ▸ valid_calls (c, d) w1
  obtain ⟨q3, h3⟩ : ∃ q, insideB a b (-2000) 2000 = q := ⟨_, rfl⟩
  obtain ⟨q4, h4⟩ : ∃ q, insideB c d (-2000) 2000 = q := ⟨_, rfl⟩
  have H3 := fun w1 => in_calls a b (-2000) 2000 w1
  have H4 := fun w1 => in_calls c d (-2000) 2000 w1
  rw [h3] at H3
  rw [h4] at H4
  have hE : windE a b c d = if q1 && q2 then (if q3 && q4 then 0 else 2) else 10 := by
    unfold windE
    rw [h1, h2]
    cases q1 <;> cases q2 <;> first | rfl | skip
    have f1 := (fineS_iff _).1 h1
    have f2 := (fineS_iff _).1 h2
    simp only at f1 f2
    have : allFrom (-2000) 2000 [a, b, c, d] = (q3 && q4) := by
      rw [← h3, ← h4, Bool.eq_iff_iff]
      unfold allFrom insideB
      simp
      omega
    rw [this]
  rw [hE]
  refine enterQ (c := cx w 23) Try.func112 rfl rfl rfl rfl ?_
  repeat' (first
    | ((with_reducible apply oq_id); first | (apply oq_fn; exact rfl; first | exact trivial | (refine ⟨?_, ?_⟩ <;> omega) | (refine ⟨?_, ?_, ?_⟩ <;> omega) | omega | skip) | ((with_reducible apply oq_load); exact rfl; exact rfl) | ((with_reducible apply oq_loadAgg); exact rfl; exact rfl) | ((with_reducible apply oq_call (k := 128) (hc := Try.call128)); exact rfl; exact rfl; exact fun D w1 hw1 => H1 w1) | ((with_reducible apply oq_call (k := 128) (hc := Try.call128)); exact rfl; exact rfl; exact fun D w1 hw1 => H2 w1) | ((with_reducible apply oq_call (k := 74) (hc := Try.call74)); exact rfl; exact rfl; exact fun D w1 hw1 => H3 w1) | ((with_reducible apply oq_call (k := 74) (hc := Try.call74)); exact rfl; exact rfl; exact fun D w1 hw1 => H4 w1) | ((with_reducible apply oq_build); exact rfl; exact rfl; exact rfl) | ((with_reducible apply oq_buildA); exact rfl; exact rfl; exact rfl; exact rfl) | ((with_reducible apply oq_fieldAgg); exact rfl; exact rfl; exact rfl) | ((with_reducible apply oq_indexAgg); exact rfl; exact rfl; exact rfl; exact rfl))
    | ((with_reducible apply tl_id); first | ((with_reducible apply tl_nil)) | ((with_reducible apply u_q); exact rfl; exact rfl; exact rfl; exact rfl) | ((with_reducible apply u_s0); exact rfl; exact rfl) | ((with_reducible apply u_s); exact rfl; exact rfl; exact rfl) | ((with_reducible apply u_skip); exact rfl; exact rfl; exact rfl) | ((with_reducible apply u_splitD); exact rfl; exact rfl; all_goals first | (intro hp; try (exfalso; omega)) | skip) | ((with_reducible apply u_splitN); exact rfl; exact rfl; all_goals first | (intro hp; try (exfalso; omega)) | skip) | ((with_reducible apply u_split); exact rfl; exact rfl; all_goals first | intro hp | skip))
    | ((with_reducible apply gx_id); first | ((with_reducible apply v_nil)) | ((with_reducible apply v_q); exact rfl; exact rfl; exact rfl) | ((with_reducible apply v_skip); exact rfl; exact rfl; exact rfl) | ((with_reducible apply v_splitD); exact rfl; exact rfl; all_goals first | (intro hp; try (exfalso; omega)) | skip) | ((with_reducible apply v_splitN); exact rfl; exact rfl; all_goals first | (intro hp; try (exfalso; omega)) | skip) | ((with_reducible apply v_split); exact rfl; exact rfl; all_goals first | intro hp | skip))
    | ((with_reducible apply os_id); first | ((with_reducible apply os_x); exact rfl) | ((with_reducible apply os_store); exact rfl; exact rfl; exact rfl; exact rfl) | ((with_reducible apply os_storeAgg); exact rfl; exact rfl; exact rfl; exact rfl; exact rfl))
    | ((with_reducible apply ox_id); first | ((with_reducible apply ox_alloc); exact rfl; intro _) | ((with_reducible apply ox_box); exact rfl; exact rfl; intro _) | ((with_reducible apply ox_boxAgg); exact rfl; intro _) | ((with_reducible apply ox_buildSlice1); exact rfl; exact rfl; exact rfl; exact rfl; exact rfl; exact rfl; intro _) | ((with_reducible apply ox_buildSlice2); exact rfl; exact rfl; exact rfl; exact rfl; exact rfl; exact rfl; intro _) | ((with_reducible apply ox_buildSlice); exact rfl; exact rfl; exact rfl; exact rfl))
    | ((with_reducible apply rd_id); first | (apply Rd.own; (repeat (first | exact P0 | apply P1)); exact rfl; done) | (apply Rd.old; (first | (with_reducible assumption) | exact c0 | exact c1 | exact c2 | exact c3 | exact c4 | exact c5 | exact c6 | exact c7 | exact c8 | exact d0 | exact d1 | exact d2 | exact d3 | exact d4 | exact d5); first | exact List.not_mem_nil | exact m0 | exact m1 | exact m2 | exact m3 | exact m4 | exact m5 | exact m6 | exact m7 | exact m8 | exact m9))
    | ((with_reducible apply t_id); first | ((with_reducible apply t_seq)) | (apply t_region; kernel_rfl) | (apply t_drawn; kernel_rfl; decide +kernel) | ((with_reducible apply t_condT); exact rfl) | ((with_reducible apply t_condF); exact rfl) | ((with_reducible apply t_condD); exact rfl; all_goals first | (intro hp; try (exfalso; omega)) | skip) | ((with_reducible apply t_condN); exact rfl; all_goals first | (intro hp; try (exfalso; omega)) | skip) | ((with_reducible apply t_cond); exact rfl; all_goals first | intro hp | skip) | ((with_reducible apply t_ret)) | ((with_reducible apply t_skip)) | ((with_reducible apply t_exit)) | ((with_reducible apply t_block)))
    | with_reducible apply q_thenN
    | with_reducible apply q_thenR
    | with_reducible apply q_blockR
    | with_reducible apply q_blockN
    | with_reducible apply q_thenE
    | ((with_reducible apply q_blockE); exact rfl)
    | ((with_reducible apply q_blockO); exact rfl)
    | exact P0
    | ((with_reducible apply P1))
    | exact Rdn.zero
    | apply Rdn.succ
    | ((with_reducible apply Norm.nil); exact rfl)
    | ((with_reducible apply Norm.cons); exact rfl)
    | ((with_reducible apply end_ret))
    | ((with_reducible apply end_normal))
    | exact rvs_nil
    | ((with_reducible apply rvs_cons))
    | ((with_reducible apply rv_tmp); exact rfl)
    | ((with_reducible apply rv_cell); exact rfl; exact rfl)
    | ((with_reducible apply rv_cellAgg); exact rfl; exact rfl)
    | exact Nat.le_of_ble_eq_true rfl
    | exact (rfl : (_ : Bool) = true)
    | omega
    | (intro _ _; with_reducible apply tl_id)
    | (intro _; with_reducible apply tl_id)
    | (intro _ _; with_reducible apply al_id)
    | (intro _; with_reducible apply al_id))
  all_goals (cases q1 <;> cases q2 <;> cases q3 <;> cases q4 <;> first | rfl | simp_all)


theorem inr_sq {x : Int} (h : -100000 ≤ x) (h' : x ≤ 100000) : InR (x * x) := by
  have h1 : x * x ≤ 100000 * 100000 := by
    rcases Int.le_total 0 x with h0 | h0
    · exact Int.mul_le_mul h' h' h0 (by omega)
    · have h3 : -x ≤ 100000 := by omega
      have h4 : (-x) * (-x) ≤ 100000 * 100000 := Int.mul_le_mul h3 h3 (by omega) (by omega)
      rw [Int.neg_mul_neg] at h4
      exact h4
  have h2 : 0 ≤ x * x := by
    rcases Int.le_total 0 x with h0 | h0
    · exact Int.mul_nonneg h0 h0
    · have := Int.mul_nonneg (a := -x) (b := -x) (by omega) (by omega)
      rw [Int.neg_mul_neg] at this
      exact this
  exact ⟨by omega, by omega⟩
theorem sq_le {x m : Int} (h0 : 0 ≤ x) (h : x ≤ m) : 0 ≤ x * x ∧ x * x ≤ m * m := ⟨Int.mul_nonneg h0 h0, Int.mul_le_mul h h h0 (by omega)⟩
def nearV (a b : Int) : Int := max (max a (-b)) 0
def farV (a b : Int) : Int := max b (-a)
theorem squares_calls (a b : Int) (ha : -2000 ≤ a) (ha1 : a ≤ 2000) (hb : -2000 ≤ b) (hb1 : b ≤ 2000) (w : World) : Calls Try.prog 113 #[.agg #[.int .i64 a, .int .i64 b]] w fun e w' => e = .returned (.tuple #[.int .i64 (nearV a b * nearV a b), .int .i64 (farV a b * farV a b)]) ∧ Ext w w' := by
  have h1 : 0 ≤ nearV a b ∧ nearV a b ≤ 2000 := by unfold nearV; omega
  have h2 : -2000 ≤ farV a b ∧ farV a b ≤ 2000 := by unfold farV; omega
  refine enterQ (c := cx w 24) Try.func113 rfl rfl rfl rfl ?_
  repeat' (first
    | ((with_reducible apply oq_id); first | (apply oq_fn; exact rfl; first | exact trivial | (refine ⟨?_, ?_⟩ <;> omega) | (refine ⟨?_, ?_, ?_⟩ <;> omega) | omega | skip) | ((with_reducible apply oq_load); exact rfl; exact rfl) | ((with_reducible apply oq_loadAgg); exact rfl; exact rfl) | ((with_reducible apply oq_build); exact rfl; exact rfl; exact rfl) | ((with_reducible apply oq_buildA); exact rfl; exact rfl; exact rfl; exact rfl) | ((with_reducible apply oq_fieldAgg); exact rfl; exact rfl; exact rfl) | ((with_reducible apply oq_indexAgg); exact rfl; exact rfl; exact rfl; exact rfl))
    | ((with_reducible apply tl_id); first | ((with_reducible apply tl_nil)) | ((with_reducible apply u_q); exact rfl; exact rfl; exact rfl; exact rfl) | ((with_reducible apply u_s0); exact rfl; exact rfl) | ((with_reducible apply u_s); exact rfl; exact rfl; exact rfl) | ((with_reducible apply u_skip); exact rfl; exact rfl; exact rfl) | ((with_reducible apply u_splitD); exact rfl; exact rfl; all_goals first | (intro hp; try (exfalso; omega)) | skip) | ((with_reducible apply u_splitN); exact rfl; exact rfl; all_goals first | (intro hp; try (exfalso; omega)) | skip) | ((with_reducible apply u_split); exact rfl; exact rfl; all_goals first | intro hp | skip))
    | ((with_reducible apply gx_id); first | ((with_reducible apply v_nil)) | ((with_reducible apply v_q); exact rfl; exact rfl; exact rfl) | ((with_reducible apply v_skip); exact rfl; exact rfl; exact rfl) | ((with_reducible apply v_splitD); exact rfl; exact rfl; all_goals first | (intro hp; try (exfalso; omega)) | skip) | ((with_reducible apply v_splitN); exact rfl; exact rfl; all_goals first | (intro hp; try (exfalso; omega)) | skip) | ((with_reducible apply v_split); exact rfl; exact rfl; all_goals first | intro hp | skip))
    | ((with_reducible apply os_id); first | ((with_reducible apply os_x); exact rfl) | ((with_reducible apply os_store); exact rfl; exact rfl; exact rfl; exact rfl) | ((with_reducible apply os_storeAgg); exact rfl; exact rfl; exact rfl; exact rfl; exact rfl))
    | ((with_reducible apply ox_id); first | ((with_reducible apply ox_alloc); exact rfl; intro _) | ((with_reducible apply ox_box); exact rfl; exact rfl; intro _) | ((with_reducible apply ox_boxAgg); exact rfl; intro _) | ((with_reducible apply ox_buildSlice1); exact rfl; exact rfl; exact rfl; exact rfl; exact rfl; exact rfl; intro _) | ((with_reducible apply ox_buildSlice2); exact rfl; exact rfl; exact rfl; exact rfl; exact rfl; exact rfl; intro _) | ((with_reducible apply ox_buildSlice); exact rfl; exact rfl; exact rfl; exact rfl))
    | ((with_reducible apply rd_id); first | (apply Rd.own; (repeat (first | exact P0 | apply P1)); exact rfl; done) | (apply Rd.old; (first | (with_reducible assumption) | exact c0 | exact c1 | exact c2 | exact c3 | exact c4 | exact c5 | exact c6 | exact c7 | exact c8 | exact d0 | exact d1 | exact d2 | exact d3 | exact d4 | exact d5); first | exact List.not_mem_nil | exact m0 | exact m1 | exact m2 | exact m3 | exact m4 | exact m5 | exact m6 | exact m7 | exact m8 | exact m9))
    | ((with_reducible apply t_id); first | ((with_reducible apply t_seq)) | (apply t_region; kernel_rfl) | (apply t_drawn; kernel_rfl; decide +kernel) | ((with_reducible apply t_condT); exact rfl) | ((with_reducible apply t_condF); exact rfl) | ((with_reducible apply t_condD); exact rfl; all_goals first | (intro hp; try (exfalso; omega)) | skip) | ((with_reducible apply t_condN); exact rfl; all_goals first | (intro hp; try (exfalso; omega)) | skip) | ((with_reducible apply t_cond); exact rfl; all_goals first | intro hp | skip) | ((with_reducible apply t_ret)) | ((with_reducible apply t_skip)) | ((with_reducible apply t_exit)) | ((with_reducible apply t_block)))
    | with_reducible apply q_thenN
    | with_reducible apply q_thenR
    | with_reducible apply q_blockR
    | with_reducible apply q_blockN
    | with_reducible apply q_thenE
    | ((with_reducible apply q_blockE); exact rfl)
    | ((with_reducible apply q_blockO); exact rfl)
    | exact P0
    | ((with_reducible apply P1))
    | exact Rdn.zero
    | apply Rdn.succ
    | ((with_reducible apply Norm.nil); exact rfl)
    | ((with_reducible apply Norm.cons); exact rfl)
    | ((with_reducible apply end_ret))
    | ((with_reducible apply end_normal))
    | exact rvs_nil
    | ((with_reducible apply rvs_cons))
    | ((with_reducible apply rv_tmp); exact rfl)
    | ((with_reducible apply rv_cell); exact rfl; exact rfl)
    | ((with_reducible apply rv_cellAgg); exact rfl; exact rfl)
    | exact Nat.le_of_ble_eq_true rfl
    | exact (rfl : (_ : Bool) = true)
    | omega
    | (intro _ _; with_reducible apply tl_id)
    | (intro _; with_reducible apply tl_id)
    | (intro _ _; with_reducible apply al_id)
    | (intro _; with_reducible apply al_id))
  · exact inr_sq (by omega) (by omega)
  · exact inr_sq (by omega) (by omega)
  · rfl


theorem windE_zero {a b c d : Int} (h : windE a b c d = 0) : a ≤ b ∧ c ≤ d ∧ -2000 ≤ a ∧ b ≤ 2000 ∧ -2000 ≤ c ∧ d ≤ 2000 := by
  unfold windE at h
  split at h
  · rename_i h1
    simp only [Bool.and_eq_true, fineS_iff] at h1
    split at h
    · rename_i h2
      unfold allFrom at h2
      simp at h2
      omega
    · omega
  · omega
/-- How fast a wind is: bounds, then the error. -/
noncomputable def speedV (a b c d : Int) : Int × Int × Int := if windE a b c d = 0 then rootV (nearV a b * nearV a b + nearV c d * nearV c d) (farV a b * farV a b + farV c d * farV c d) else (0, 0, windE a b c d)
theorem refSpeed_calls (a b c d : Int) (w : World) : Calls Try.prog 45 #[.agg #[.int .i64 a, .int .i64 b, .int .i64 c, .int .i64 d]] w fun e w' => e = .returned (.tuple #[.agg #[.int .i64 (speedV a b c d).1, .int .i64 (speedV a b c d).2.1], .int .i64 (speedV a b c d).2.2]) ∧ Ext w w' := by
  have HE := fun w1 => blows_calls a b c d w1
  unfold speedV
  by_cases hE : windE a b c d = 0
  · obtain ⟨z1, z2, z3, z4, z5, z6⟩ := windE_zero hE
    rw [if_pos hE]
    rw [hE] at HE
    have n1 : 0 ≤ nearV a b ∧ nearV a b ≤ 2000 := by unfold nearV; omega
    have n2 : 0 ≤ nearV c d ∧ nearV c d ≤ 2000 := by unfold nearV; omega
    have n3 : 0 ≤ farV a b ∧ farV a b ≤ 2000 := by unfold farV; omega
    have n4 : 0 ≤ farV c d ∧ farV c d ≤ 2000 := by unfold farV; omega
    have m1 := sq_le n1.1 n1.2
    have m2 := sq_le n2.1 n2.2
    have m3 := sq_le n3.1 n3.2
    have m4 := sq_le n4.1 n4.2
    have S1 := fun w1 => squares_calls a b (by omega) (by omega) (by omega) (by omega) w1
    have S2 := fun w1 => squares_calls c d (by omega) (by omega) (by omega) (by omega) w1
    generalize nearV a b * nearV a b = x1 at *
    generalize nearV c d * nearV c d = x2 at *
    generalize farV a b * farV a b = x3 at *
    generalize farV c d * farV c d = x4 at *
    refine enterQ (c := cx w 37) Try.func45 rfl rfl rfl rfl ?_
    repeat' (first
      | ((with_reducible apply oq_id); first | (apply oq_fn; exact rfl; first | exact trivial | (refine ⟨?_, ?_⟩ <;> omega) | (refine ⟨?_, ?_, ?_⟩ <;> omega) | omega | skip) | ((with_reducible apply oq_load); exact rfl; exact rfl) | ((with_reducible apply oq_loadAgg); exact rfl; exact rfl) | ((with_reducible apply oq_call (k := 112) (hc := Try.call112)); exact rfl; exact rfl; exact fun D w1 hw1 => HE w1) | ((with_reducible apply oq_call (k := 113) (hc := Try.call113)); exact rfl; exact rfl; exact fun D w1 hw1 => S1 w1) | ((with_reducible apply oq_call (k := 113) (hc := Try.call113)); exact rfl; exact rfl; exact fun D w1 hw1 => S2 w1) | ((with_reducible apply oq_call (k := 114) (hc := Try.call114)); exact rfl; exact rfl; exact fun D w1 hw1 => refRoot_calls _ _ w1) | ((with_reducible apply oq_build); exact rfl; exact rfl; exact rfl) | ((with_reducible apply oq_buildA); exact rfl; exact rfl; exact rfl; exact rfl) | ((with_reducible apply oq_fieldAgg); exact rfl; exact rfl; exact rfl) | ((with_reducible apply oq_indexAgg); exact rfl; exact rfl; exact rfl; exact rfl))
      | ((with_reducible apply tl_id); first | ((with_reducible apply tl_nil)) | ((with_reducible apply u_q); exact rfl; exact rfl; exact rfl; exact rfl) | ((with_reducible apply u_s0); exact rfl; exact rfl) | ((with_reducible apply u_s); exact rfl; exact rfl; exact rfl) | ((with_reducible apply u_skip); exact rfl; exact rfl; exact rfl) | ((with_reducible apply u_splitD); exact rfl; exact rfl; all_goals first | (intro hp; try (exfalso; omega)) | skip) | ((with_reducible apply u_splitN); exact rfl; exact rfl; all_goals first | (intro hp; try (exfalso; omega)) | skip) | ((with_reducible apply u_split); exact rfl; exact rfl; all_goals first | intro hp | skip))
      | ((with_reducible apply gx_id); first | ((with_reducible apply v_nil)) | ((with_reducible apply v_q); exact rfl; exact rfl; exact rfl) | ((with_reducible apply v_skip); exact rfl; exact rfl; exact rfl) | ((with_reducible apply v_splitD); exact rfl; exact rfl; all_goals first | (intro hp; try (exfalso; omega)) | skip) | ((with_reducible apply v_splitN); exact rfl; exact rfl; all_goals first | (intro hp; try (exfalso; omega)) | skip) | ((with_reducible apply v_split); exact rfl; exact rfl; all_goals first | intro hp | skip))
      | ((with_reducible apply os_id); first | ((with_reducible apply os_x); exact rfl) | ((with_reducible apply os_store); exact rfl; exact rfl; exact rfl; exact rfl) | ((with_reducible apply os_storeAgg); exact rfl; exact rfl; exact rfl; exact rfl; exact rfl))
      | ((with_reducible apply ox_id); first | ((with_reducible apply ox_alloc); exact rfl; intro _) | ((with_reducible apply ox_box); exact rfl; exact rfl; intro _) | ((with_reducible apply ox_boxAgg); exact rfl; intro _) | ((with_reducible apply ox_buildSlice1); exact rfl; exact rfl; exact rfl; exact rfl; exact rfl; exact rfl; intro _) | ((with_reducible apply ox_buildSlice2); exact rfl; exact rfl; exact rfl; exact rfl; exact rfl; exact rfl; intro _) | ((with_reducible apply ox_buildSlice); exact rfl; exact rfl; exact rfl; exact rfl))
      | ((with_reducible apply rd_id); first | (apply Rd.own; (repeat (first | exact P0 | apply P1)); exact rfl; done) | (apply Rd.old; (first | (with_reducible assumption) | exact c0 | exact c1 | exact c2 | exact c3 | exact c4 | exact c5 | exact c6 | exact c7 | exact c8 | exact d0 | exact d1 | exact d2 | exact d3 | exact d4 | exact d5); first | exact List.not_mem_nil | exact m0 | exact m1 | exact m2 | exact m3 | exact m4 | exact m5 | exact m6 | exact m7 | exact m8 | exact m9))
      | ((with_reducible apply t_id); first | ((with_reducible apply t_seq)) | (apply t_region; kernel_rfl) | (apply t_drawn; kernel_rfl; decide +kernel) | ((with_reducible apply t_condT); exact rfl) | ((with_reducible apply t_condF); exact rfl) | ((with_reducible apply t_condD); exact rfl; all_goals first | (intro hp; try (exfalso; omega)) | skip) | ((with_reducible apply t_condN); exact rfl; all_goals first | (intro hp; try (exfalso; omega)) | skip) | ((with_reducible apply t_cond); exact rfl; all_goals first | intro hp | skip) | ((with_reducible apply t_ret)) | ((with_reducible apply t_skip)) | ((with_reducible apply t_exit)) | ((with_reducible apply t_block)))
      | with_reducible apply q_thenN
      | with_reducible apply q_thenR
      | with_reducible apply q_blockR
      | with_reducible apply q_blockN
      | with_reducible apply q_thenE
      | ((with_reducible apply q_blockE); exact rfl)
      | ((with_reducible apply q_blockO); exact rfl)
      | exact P0
      | ((with_reducible apply P1))
      | exact Rdn.zero
      | apply Rdn.succ
      | ((with_reducible apply Norm.nil); exact rfl)
      | ((with_reducible apply Norm.cons); exact rfl)
      | ((with_reducible apply end_ret))
      | ((with_reducible apply end_normal))
      | exact rvs_nil
      | ((with_reducible apply rvs_cons))
      | ((with_reducible apply rv_tmp); exact rfl)
      | ((with_reducible apply rv_cell); exact rfl; exact rfl)
      | ((with_reducible apply rv_cellAgg); exact rfl; exact rfl)
      | exact Nat.le_of_ble_eq_true rfl
      | exact (rfl : (_ : Bool) = true)
      | omega
      | (intro _ _; with_reducible apply tl_id)
      | (intro _; with_reducible apply tl_id)
      | (intro _ _; with_reducible apply al_id)
      | (intro _; with_reducible apply al_id))
    all_goals rfl
  · rw [if_neg hE]
    generalize windE a b c d = E at *
    refine enterQ (c := cx w 37) Try.func45 rfl rfl rfl rfl ?_
    repeat' (first
      | ((with_reducible apply oq_id); first | (apply oq_fn; exact rfl; first | exact trivial | (refine ⟨?_, ?_⟩ <;> omega) | (refine ⟨?_, ?_, ?_⟩ <;> omega) | omega | skip) | ((with_reducible apply oq_load); exact rfl; exact rfl) | ((with_reducible apply oq_loadAgg); exact rfl; exact rfl) | ((with_reducible apply oq_call (k := 112) (hc := Try.call112)); exact rfl; exact rfl; exact fun D w1 hw1 => HE w1) | ((with_reducible apply oq_build); exact rfl; exact rfl; exact rfl) | ((with_reducible apply oq_buildA); exact rfl; exact rfl; exact rfl; exact rfl) | ((with_reducible apply oq_fieldAgg); exact rfl; exact rfl; exact rfl) | ((with_reducible apply oq_indexAgg); exact rfl; exact rfl; exact rfl; exact rfl))
      | ((with_reducible apply tl_id); first | ((with_reducible apply tl_nil)) | ((with_reducible apply u_q); exact rfl; exact rfl; exact rfl; exact rfl) | ((with_reducible apply u_s0); exact rfl; exact rfl) | ((with_reducible apply u_s); exact rfl; exact rfl; exact rfl) | ((with_reducible apply u_skip); exact rfl; exact rfl; exact rfl) | ((with_reducible apply u_splitD); exact rfl; exact rfl; all_goals first | (intro hp; try (exfalso; omega)) | skip) | ((with_reducible apply u_splitN); exact rfl; exact rfl; all_goals first | (intro hp; try (exfalso; omega)) | skip) | ((with_reducible apply u_split); exact rfl; exact rfl; all_goals first | intro hp | skip))
      | ((with_reducible apply gx_id); first | ((with_reducible apply v_nil)) | ((with_reducible apply v_q); exact rfl; exact rfl; exact rfl) | ((with_reducible apply v_skip); exact rfl; exact rfl; exact rfl) | ((with_reducible apply v_splitD); exact rfl; exact rfl; all_goals first | (intro hp; try (exfalso; omega)) | skip) | ((with_reducible apply v_splitN); exact rfl; exact rfl; all_goals first | (intro hp; try (exfalso; omega)) | skip) | ((with_reducible apply v_split); exact rfl; exact rfl; all_goals first | intro hp | skip))
      | ((with_reducible apply os_id); first | ((with_reducible apply os_x); exact rfl) | ((with_reducible apply os_store); exact rfl; exact rfl; exact rfl; exact rfl) | ((with_reducible apply os_storeAgg); exact rfl; exact rfl; exact rfl; exact rfl; exact rfl))
      | ((with_reducible apply ox_id); first | ((with_reducible apply ox_alloc); exact rfl; intro _) | ((with_reducible apply ox_box); exact rfl; exact rfl; intro _) | ((with_reducible apply ox_boxAgg); exact rfl; intro _) | ((with_reducible apply ox_buildSlice1); exact rfl; exact rfl; exact rfl; exact rfl; exact rfl; exact rfl; intro _) | ((with_reducible apply ox_buildSlice2); exact rfl; exact rfl; exact rfl; exact rfl; exact rfl; exact rfl; intro _) | ((with_reducible apply ox_buildSlice); exact rfl; exact rfl; exact rfl; exact rfl))
      | ((with_reducible apply rd_id); first | (apply Rd.own; (repeat (first | exact P0 | apply P1)); exact rfl; done) | (apply Rd.old; (first | (with_reducible assumption) | exact c0 | exact c1 | exact c2 | exact c3 | exact c4 | exact c5 | exact c6 | exact c7 | exact c8 | exact d0 | exact d1 | exact d2 | exact d3 | exact d4 | exact d5); first | exact List.not_mem_nil | exact m0 | exact m1 | exact m2 | exact m3 | exact m4 | exact m5 | exact m6 | exact m7 | exact m8 | exact m9))
      | ((with_reducible apply t_id); first | ((with_reducible apply t_seq)) | (apply t_region; kernel_rfl) | (apply t_drawn; kernel_rfl; decide +kernel) | ((with_reducible apply t_condT); exact rfl) | ((with_reducible apply t_condF); exact rfl) | ((with_reducible apply t_condD); exact rfl; all_goals first | (intro hp; try (exfalso; omega)) | skip) | ((with_reducible apply t_condN); exact rfl; all_goals first | (intro hp; try (exfalso; omega)) | skip) | ((with_reducible apply t_cond); exact rfl; all_goals first | intro hp | skip) | ((with_reducible apply t_ret)) | ((with_reducible apply t_skip)) | ((with_reducible apply t_exit)) | ((with_reducible apply t_block)))
      | with_reducible apply q_thenN
      | with_reducible apply q_thenR
      | with_reducible apply q_blockR
      | with_reducible apply q_blockN
      | with_reducible apply q_thenE
      | ((with_reducible apply q_blockE); exact rfl)
      | ((with_reducible apply q_blockO); exact rfl)
      | exact P0
      | ((with_reducible apply P1))
      | exact Rdn.zero
      | apply Rdn.succ
      | ((with_reducible apply Norm.nil); exact rfl)
      | ((with_reducible apply Norm.cons); exact rfl)
      | ((with_reducible apply end_ret))
      | ((with_reducible apply end_normal))
      | exact rvs_nil
      | ((with_reducible apply rvs_cons))
      | ((with_reducible apply rv_tmp); exact rfl)
      | ((with_reducible apply rv_cell); exact rfl; exact rfl)
      | ((with_reducible apply rv_cellAgg); exact rfl; exact rfl)
      | exact Nat.le_of_ble_eq_true rfl
      | exact (rfl : (_ : Bool) = true)
      | omega
      | (intro _ _; with_reducible apply tl_id)
      | (intro _; with_reducible apply tl_id)
      | (intro _ _; with_reducible apply al_id)
      | (intro _; with_reducible apply al_id))
    all_goals rfl


def sumK (k : Nat) (x y : Int) : Int := if k = 0 then 0 else if k = 1 then x else x + y
theorem near_or (a b : Int) : max (max 0 a) (-b) = nearV a b := by unfold nearV; omega
theorem far_or (a b : Int) : max (-a) b = farV a b := by unfold farV; omega
theorem speed_calls (a b c d : Int) (w : World) : Calls Try.prog 44 #[.agg #[.int .i64 a, .int .i64 b, .int .i64 c, .int .i64 d]] w fun e w' => e = .returned (.tuple #[.agg #[.int .i64 (speedV a b c d).1, .int .i64 (speedV a b c d).2.1], .int .i64 (speedV a b c d).2.2]) ∧ Ext w w' := by
  have HE := fun w1 => checkWind_calls a b c d w1
  unfold speedV
  by_cases hE : windE a b c d = 0
  · obtain ⟨z1, z2, z3, z4, z5, z6⟩ := windE_zero hE
    rw [if_pos hE]
    rw [hE] at HE
    have n1 : 0 ≤ nearV a b ∧ nearV a b ≤ 2000 := by unfold nearV; omega
    have n2 : 0 ≤ nearV c d ∧ nearV c d ≤ 2000 := by unfold nearV; omega
    have n3 : 0 ≤ farV a b ∧ farV a b ≤ 2000 := by unfold farV; omega
    have n4 : 0 ≤ farV c d ∧ farV c d ≤ 2000 := by unfold farV; omega
    have m1 := sq_le n1.1 n1.2
    have m2 := sq_le n2.1 n2.2
    have m3 := sq_le n3.1 n3.2
    have m4 := sq_le n4.1 n4.2
    obtain ⟨x1, hx1⟩ : ∃ x, x = nearV a b * nearV a b := ⟨_, rfl⟩
    obtain ⟨x2, hx2⟩ : ∃ x, x = nearV c d * nearV c d := ⟨_, rfl⟩
    obtain ⟨x3, hx3⟩ : ∃ x, x = farV a b * farV a b := ⟨_, rfl⟩
    obtain ⟨x4, hx4⟩ : ∃ x, x = farV c d * farV c d := ⟨_, rfl⟩
    rw [← hx1, ← hx2, ← hx3, ← hx4]
    rw [← hx1] at m1
    rw [← hx2] at m2
    rw [← hx3] at m3
    rw [← hx4] at m4
    refine enterQ (c := cx w 55) Try.func44 rfl rfl rfl rfl ?_
    repeat' (first
      | ((with_reducible apply oq_id); first | (apply oq_fn; exact rfl; first | exact trivial | (refine ⟨?_, ?_⟩ <;> omega) | (refine ⟨?_, ?_, ?_⟩ <;> omega) | omega | skip) | ((with_reducible apply oq_load); exact rfl; exact rfl) | ((with_reducible apply oq_loadAgg); exact rfl; exact rfl) | ((with_reducible apply oq_call (k := 110) (hc := Try.call110)); exact rfl; exact rfl; exact fun D w1 hw1 => HE w1) | ((with_reducible apply oq_call (k := 111) (hc := Try.call111)); exact rfl; exact rfl; exact fun D w1 hw1 => boundRoot_calls _ _ w1) | ((with_reducible apply oq_build); exact rfl; exact rfl; exact rfl) | ((with_reducible apply oq_buildA); exact rfl; exact rfl; exact rfl; exact rfl) | ((with_reducible apply oq_fieldAgg); exact rfl; exact rfl; exact rfl) | ((with_reducible apply oq_indexAgg); exact rfl; exact rfl; exact rfl; exact rfl))
      | ((with_reducible apply tl_id); first | ((with_reducible apply tl_nil)) | ((with_reducible apply u_q); exact rfl; exact rfl; exact rfl; exact rfl) | ((with_reducible apply u_s0); exact rfl; exact rfl) | ((with_reducible apply u_s); exact rfl; exact rfl; exact rfl) | ((with_reducible apply u_skip); exact rfl; exact rfl; exact rfl) | ((with_reducible apply u_splitD); exact rfl; exact rfl; all_goals first | (intro hp; try (exfalso; omega)) | skip) | ((with_reducible apply u_splitN); exact rfl; exact rfl; all_goals first | (intro hp; try (exfalso; omega)) | skip) | ((with_reducible apply u_split); exact rfl; exact rfl; all_goals first | intro hp | skip))
      | ((with_reducible apply gx_id); first | ((with_reducible apply v_nil)) | ((with_reducible apply v_q); exact rfl; exact rfl; exact rfl) | ((with_reducible apply v_skip); exact rfl; exact rfl; exact rfl) | ((with_reducible apply v_splitD); exact rfl; exact rfl; all_goals first | (intro hp; try (exfalso; omega)) | skip) | ((with_reducible apply v_splitN); exact rfl; exact rfl; all_goals first | (intro hp; try (exfalso; omega)) | skip) | ((with_reducible apply v_split); exact rfl; exact rfl; all_goals first | intro hp | skip))
      | ((with_reducible apply os_id); first | ((with_reducible apply os_x); exact rfl) | ((with_reducible apply os_store); exact rfl; exact rfl; exact rfl; exact rfl) | ((with_reducible apply os_storeAgg); exact rfl; exact rfl; exact rfl; exact rfl; exact rfl))
      | ((with_reducible apply ox_id); first | ((with_reducible apply ox_alloc); exact rfl; intro _) | ((with_reducible apply ox_box); exact rfl; exact rfl; intro _) | ((with_reducible apply ox_boxAgg); exact rfl; intro _) | ((with_reducible apply ox_buildSlice1); exact rfl; exact rfl; exact rfl; exact rfl; exact rfl; exact rfl; intro _) | ((with_reducible apply ox_buildSlice2); exact rfl; exact rfl; exact rfl; exact rfl; exact rfl; exact rfl; intro _) | ((with_reducible apply ox_buildSlice); exact rfl; exact rfl; exact rfl; exact rfl))
      | ((with_reducible apply rd_id); first | (apply Rd.own; (repeat (first | exact P0 | apply P1)); exact rfl; done) | (apply Rd.old; (first | (with_reducible assumption) | exact c0 | exact c1 | exact c2 | exact c3 | exact c4 | exact c5 | exact c6 | exact c7 | exact c8 | exact d0 | exact d1 | exact d2 | exact d3 | exact d4 | exact d5); first | exact List.not_mem_nil | exact m0 | exact m1 | exact m2 | exact m3 | exact m4 | exact m5 | exact m6 | exact m7 | exact m8 | exact m9))
      | ((with_reducible apply t_id); first | ((with_reducible apply t_seq)) | (apply t_region; kernel_rfl) | (apply t_drawn; kernel_rfl; decide +kernel) | ((with_reducible apply t_condT); exact rfl) | ((with_reducible apply t_condF); exact rfl) | ((with_reducible apply t_condD); exact rfl; all_goals first | (intro hp; try (exfalso; omega)) | skip) | ((with_reducible apply t_condN); exact rfl; all_goals first | (intro hp; try (exfalso; omega)) | skip) | ((with_reducible apply t_cond); exact rfl; all_goals first | intro hp | skip) | ((with_reducible apply t_ret)) | ((with_reducible apply t_skip)) | ((with_reducible apply t_exit)) | ((with_reducible apply t_block)))
      | with_reducible apply q_thenN
      | with_reducible apply q_thenR
      | with_reducible apply q_blockR
      | with_reducible apply q_blockN
      | with_reducible apply q_thenE
      | ((with_reducible apply q_blockE); exact rfl)
      | ((with_reducible apply q_blockO); exact rfl)
      | exact P0
      | ((with_reducible apply P1))
      | exact Rdn.zero
      | apply Rdn.succ
      | ((with_reducible apply Norm.nil); exact rfl)
      | ((with_reducible apply Norm.cons); exact rfl)
      | ((with_reducible apply end_ret))
      | ((with_reducible apply end_normal))
      | exact rvs_nil
      | ((with_reducible apply rvs_cons))
      | ((with_reducible apply rv_tmp); exact rfl)
      | ((with_reducible apply rv_cell); exact rfl; exact rfl)
      | ((with_reducible apply rv_cellAgg); exact rfl; exact rfl)
      | exact Nat.le_of_ble_eq_true rfl
      | exact (rfl : (_ : Bool) = true)
      | omega
      | (intro _ _; with_reducible apply tl_id)
      | (intro _; with_reducible apply tl_id)
      | (intro _ _; with_reducible apply al_id)
      | (intro _; with_reducible apply al_id))
    rename_i b1 b2 b5
    apply t_loopK (ι := Nat) [2, 3, 5, 20, 51, 52, 53, 54] (fun k => [(21, .int .i64 (k : Nat))]) (fun k => [(b5, [.int .i64 (sumK k x1 x2), .int .i64 (sumK k x3 x4)], some (26, 2, 1))]) (fun k => k ≤ 2) (fun k => 2 - k) (0)
    (repeat (first | exact KeepF.nil | (apply KeepF.cons; exact rfl) | apply KeepF.skip))
    (repeat (first | exact FrSub.nil | (apply FrSub.cons; exact rfl)))
    (repeat (first | exact HpSub.refl _ | (apply HpSub.consE; (repeat (first | exact P0 | apply P1)); exact rfl) | exact HpSub.nil))
    · omega
    intro k hk
    try simp only [List.cons_append, List.nil_append]
    have hk3 : k = 0 ∨ k = 1 ∨ k = 2 := by omega
    rcases hk3 with rfl | rfl | rfl
    · simp only [sumK]
      repeat' (first
        | ((with_reducible apply oq_id); first | (apply oq_fn; exact rfl; first | exact trivial | (refine ⟨?_, ?_⟩ <;> omega) | (refine ⟨?_, ?_, ?_⟩ <;> omega) | omega | skip) | ((with_reducible apply oq_load); exact rfl; exact rfl) | ((with_reducible apply oq_loadAgg); exact rfl; exact rfl) | ((with_reducible apply oq_call (k := 110) (hc := Try.call110)); exact rfl; exact rfl; exact fun D w1 hw1 => HE w1) | ((with_reducible apply oq_call (k := 111) (hc := Try.call111)); exact rfl; exact rfl; exact fun D w1 hw1 => boundRoot_calls _ _ w1) | ((with_reducible apply oq_build); exact rfl; exact rfl; exact rfl) | ((with_reducible apply oq_buildA); exact rfl; exact rfl; exact rfl; exact rfl) | ((with_reducible apply oq_fieldAgg); exact rfl; exact rfl; exact rfl) | ((with_reducible apply oq_indexAgg); exact rfl; exact rfl; exact rfl; exact rfl))
        | ((with_reducible apply tl_id); first | ((with_reducible apply tl_nil)) | ((with_reducible apply u_q); exact rfl; exact rfl; exact rfl; exact rfl) | ((with_reducible apply u_s0); exact rfl; exact rfl) | ((with_reducible apply u_s); exact rfl; exact rfl; exact rfl) | ((with_reducible apply u_skip); exact rfl; exact rfl; exact rfl) | ((with_reducible apply u_splitD); exact rfl; exact rfl; all_goals first | (intro hp; try (exfalso; omega)) | skip) | ((with_reducible apply u_splitN); exact rfl; exact rfl; all_goals first | (intro hp; try (exfalso; omega)) | skip) | ((with_reducible apply u_split); exact rfl; exact rfl; all_goals first | intro hp | skip))
        | ((with_reducible apply gx_id); first | ((with_reducible apply v_nil)) | ((with_reducible apply v_q); exact rfl; exact rfl; exact rfl) | ((with_reducible apply v_skip); exact rfl; exact rfl; exact rfl) | ((with_reducible apply v_splitD); exact rfl; exact rfl; all_goals first | (intro hp; try (exfalso; omega)) | skip) | ((with_reducible apply v_splitN); exact rfl; exact rfl; all_goals first | (intro hp; try (exfalso; omega)) | skip) | ((with_reducible apply v_split); exact rfl; exact rfl; all_goals first | intro hp | skip))
        | ((with_reducible apply os_id); first | ((with_reducible apply os_x); exact rfl) | ((with_reducible apply os_store); exact rfl; exact rfl; exact rfl; exact rfl) | ((with_reducible apply os_storeAgg); exact rfl; exact rfl; exact rfl; exact rfl; exact rfl))
        | ((with_reducible apply ox_id); first | ((with_reducible apply ox_alloc); exact rfl; intro _) | ((with_reducible apply ox_box); exact rfl; exact rfl; intro _) | ((with_reducible apply ox_boxAgg); exact rfl; intro _) | ((with_reducible apply ox_buildSlice1); exact rfl; exact rfl; exact rfl; exact rfl; exact rfl; exact rfl; intro _) | ((with_reducible apply ox_buildSlice2); exact rfl; exact rfl; exact rfl; exact rfl; exact rfl; exact rfl; intro _) | ((with_reducible apply ox_buildSlice); exact rfl; exact rfl; exact rfl; exact rfl))
        | ((with_reducible apply rd_id); first | (apply Rd.own; (repeat (first | exact P0 | apply P1)); exact rfl; done) | (apply Rd.old; (first | (with_reducible assumption) | exact c0 | exact c1 | exact c2 | exact c3 | exact c4 | exact c5 | exact c6 | exact c7 | exact c8 | exact d0 | exact d1 | exact d2 | exact d3 | exact d4 | exact d5); first | exact List.not_mem_nil | exact m0 | exact m1 | exact m2 | exact m3 | exact m4 | exact m5 | exact m6 | exact m7 | exact m8 | exact m9))
        | ((with_reducible apply t_id); first | ((with_reducible apply t_seq)) | (apply t_region; kernel_rfl) | (apply t_drawn; kernel_rfl; decide +kernel) | ((with_reducible apply t_condT); exact rfl) | ((with_reducible apply t_condF); exact rfl) | ((with_reducible apply t_condD); exact rfl; all_goals first | (intro hp; try (exfalso; omega)) | skip) | ((with_reducible apply t_condN); exact rfl; all_goals first | (intro hp; try (exfalso; omega)) | skip) | ((with_reducible apply t_cond); exact rfl; all_goals first | intro hp | skip) | ((with_reducible apply t_ret)) | ((with_reducible apply t_skip)) | ((with_reducible apply t_exit)) | ((with_reducible apply t_block)))
        | with_reducible apply q_thenN
        | with_reducible apply q_thenR
        | with_reducible apply q_blockR
        | with_reducible apply q_blockN
        | with_reducible apply q_thenE
        | ((with_reducible apply q_blockE); exact rfl)
        | ((with_reducible apply q_blockO); exact rfl)
        | exact P0
        | ((with_reducible apply P1))
        | exact Rdn.zero
        | apply Rdn.succ
        | ((with_reducible apply Norm.nil); exact rfl)
        | ((with_reducible apply Norm.cons); exact rfl)
        | ((with_reducible apply end_ret))
        | ((with_reducible apply end_normal))
        | exact rvs_nil
        | ((with_reducible apply rvs_cons))
        | ((with_reducible apply rv_tmp); exact rfl)
        | ((with_reducible apply rv_cell); exact rfl; exact rfl)
        | ((with_reducible apply rv_cellAgg); exact rfl; exact rfl)
        | exact Nat.le_of_ble_eq_true rfl
        | exact (rfl : (_ : Bool) = true)
        | omega
        | (intro _ _; with_reducible apply tl_id)
        | (intro _; with_reducible apply tl_id)
        | (intro _ _; with_reducible apply al_id)
        | (intro _; with_reducible apply al_id))
      all_goals first
        | (simp only [near_or, far_or, ← hx1, ← hx2, ← hx3, ← hx4]; exact ⟨by omega, by omega⟩)
        | skip
      refine ⟨1, by omega, by omega, ?_, ?_⟩
      · try simp only [List.cons_append, List.nil_append]
        (repeat (first | exact FrSub.nil | (apply FrSub.cons; exact rfl)))
      · try simp only [List.cons_append, List.nil_append]
        (repeat (first | exact HpSub.refl _ | (apply HpSub.consE; (repeat (first | exact P0 | apply P1)); first | exact rfl | ((simp only [near_or, far_or, ← hx1, ← hx2, ← hx3, ← hx4, sumK]; simp))) | exact HpSub.nil))
    · simp only [sumK]
      repeat' (first
        | ((with_reducible apply oq_id); first | (apply oq_fn; exact rfl; first | exact trivial | (refine ⟨?_, ?_⟩ <;> omega) | (refine ⟨?_, ?_, ?_⟩ <;> omega) | omega | skip) | ((with_reducible apply oq_load); exact rfl; exact rfl) | ((with_reducible apply oq_loadAgg); exact rfl; exact rfl) | ((with_reducible apply oq_call (k := 110) (hc := Try.call110)); exact rfl; exact rfl; exact fun D w1 hw1 => HE w1) | ((with_reducible apply oq_call (k := 111) (hc := Try.call111)); exact rfl; exact rfl; exact fun D w1 hw1 => boundRoot_calls _ _ w1) | ((with_reducible apply oq_build); exact rfl; exact rfl; exact rfl) | ((with_reducible apply oq_buildA); exact rfl; exact rfl; exact rfl; exact rfl) | ((with_reducible apply oq_fieldAgg); exact rfl; exact rfl; exact rfl) | ((with_reducible apply oq_indexAgg); exact rfl; exact rfl; exact rfl; exact rfl))
        | ((with_reducible apply tl_id); first | ((with_reducible apply tl_nil)) | ((with_reducible apply u_q); exact rfl; exact rfl; exact rfl; exact rfl) | ((with_reducible apply u_s0); exact rfl; exact rfl) | ((with_reducible apply u_s); exact rfl; exact rfl; exact rfl) | ((with_reducible apply u_skip); exact rfl; exact rfl; exact rfl) | ((with_reducible apply u_splitD); exact rfl; exact rfl; all_goals first | (intro hp; try (exfalso; omega)) | skip) | ((with_reducible apply u_splitN); exact rfl; exact rfl; all_goals first | (intro hp; try (exfalso; omega)) | skip) | ((with_reducible apply u_split); exact rfl; exact rfl; all_goals first | intro hp | skip))
        | ((with_reducible apply gx_id); first | ((with_reducible apply v_nil)) | ((with_reducible apply v_q); exact rfl; exact rfl; exact rfl) | ((with_reducible apply v_skip); exact rfl; exact rfl; exact rfl) | ((with_reducible apply v_splitD); exact rfl; exact rfl; all_goals first | (intro hp; try (exfalso; omega)) | skip) | ((with_reducible apply v_splitN); exact rfl; exact rfl; all_goals first | (intro hp; try (exfalso; omega)) | skip) | ((with_reducible apply v_split); exact rfl; exact rfl; all_goals first | intro hp | skip))
        | ((with_reducible apply os_id); first | ((with_reducible apply os_x); exact rfl) | ((with_reducible apply os_store); exact rfl; exact rfl; exact rfl; exact rfl) | ((with_reducible apply os_storeAgg); exact rfl; exact rfl; exact rfl; exact rfl; exact rfl))
        | ((with_reducible apply ox_id); first | ((with_reducible apply ox_alloc); exact rfl; intro _) | ((with_reducible apply ox_box); exact rfl; exact rfl; intro _) | ((with_reducible apply ox_boxAgg); exact rfl; intro _) | ((with_reducible apply ox_buildSlice1); exact rfl; exact rfl; exact rfl; exact rfl; exact rfl; exact rfl; intro _) | ((with_reducible apply ox_buildSlice2); exact rfl; exact rfl; exact rfl; exact rfl; exact rfl; exact rfl; intro _) | ((with_reducible apply ox_buildSlice); exact rfl; exact rfl; exact rfl; exact rfl))
        | ((with_reducible apply rd_id); first | (apply Rd.own; (repeat (first | exact P0 | apply P1)); exact rfl; done) | (apply Rd.old; (first | (with_reducible assumption) | exact c0 | exact c1 | exact c2 | exact c3 | exact c4 | exact c5 | exact c6 | exact c7 | exact c8 | exact d0 | exact d1 | exact d2 | exact d3 | exact d4 | exact d5); first | exact List.not_mem_nil | exact m0 | exact m1 | exact m2 | exact m3 | exact m4 | exact m5 | exact m6 | exact m7 | exact m8 | exact m9))
        | ((with_reducible apply t_id); first | ((with_reducible apply t_seq)) | (apply t_region; kernel_rfl) | (apply t_drawn; kernel_rfl; decide +kernel) | ((with_reducible apply t_condT); exact rfl) | ((with_reducible apply t_condF); exact rfl) | ((with_reducible apply t_condD); exact rfl; all_goals first | (intro hp; try (exfalso; omega)) | skip) | ((with_reducible apply t_condN); exact rfl; all_goals first | (intro hp; try (exfalso; omega)) | skip) | ((with_reducible apply t_cond); exact rfl; all_goals first | intro hp | skip) | ((with_reducible apply t_ret)) | ((with_reducible apply t_skip)) | ((with_reducible apply t_exit)) | ((with_reducible apply t_block)))
        | with_reducible apply q_thenN
        | with_reducible apply q_thenR
        | with_reducible apply q_blockR
        | with_reducible apply q_blockN
        | with_reducible apply q_thenE
        | ((with_reducible apply q_blockE); exact rfl)
        | ((with_reducible apply q_blockO); exact rfl)
        | exact P0
        | ((with_reducible apply P1))
        | exact Rdn.zero
        | apply Rdn.succ
        | ((with_reducible apply Norm.nil); exact rfl)
        | ((with_reducible apply Norm.cons); exact rfl)
        | ((with_reducible apply end_ret))
        | ((with_reducible apply end_normal))
        | exact rvs_nil
        | ((with_reducible apply rvs_cons))
        | ((with_reducible apply rv_tmp); exact rfl)
        | ((with_reducible apply rv_cell); exact rfl; exact rfl)
        | ((with_reducible apply rv_cellAgg); exact rfl; exact rfl)
        | exact Nat.le_of_ble_eq_true rfl
        | exact (rfl : (_ : Bool) = true)
        | omega
        | (intro _ _; with_reducible apply tl_id)
        | (intro _; with_reducible apply tl_id)
        | (intro _ _; with_reducible apply al_id)
        | (intro _; with_reducible apply al_id))
      all_goals first
        | (simp only [near_or, far_or, ← hx1, ← hx2, ← hx3, ← hx4]; exact ⟨by omega, by omega⟩)
        | skip
      refine ⟨2, by omega, by omega, ?_, ?_⟩
      · try simp only [List.cons_append, List.nil_append]
        (repeat (first | exact FrSub.nil | (apply FrSub.cons; exact rfl)))
      · try simp only [List.cons_append, List.nil_append]
        (repeat (first | exact HpSub.refl _ | (apply HpSub.consE; (repeat (first | exact P0 | apply P1)); first | exact rfl | ((simp only [near_or, far_or, ← hx1, ← hx2, ← hx3, ← hx4, sumK]; simp))) | exact HpSub.nil))
    · simp only [sumK]
      repeat' (first
        | ((with_reducible apply oq_id); first | (apply oq_fn; exact rfl; first | exact trivial | (refine ⟨?_, ?_⟩ <;> omega) | (refine ⟨?_, ?_, ?_⟩ <;> omega) | omega | skip) | ((with_reducible apply oq_load); exact rfl; exact rfl) | ((with_reducible apply oq_loadAgg); exact rfl; exact rfl) | ((with_reducible apply oq_call (k := 110) (hc := Try.call110)); exact rfl; exact rfl; exact fun D w1 hw1 => HE w1) | ((with_reducible apply oq_call (k := 111) (hc := Try.call111)); exact rfl; exact rfl; exact fun D w1 hw1 => boundRoot_calls _ _ w1) | ((with_reducible apply oq_build); exact rfl; exact rfl; exact rfl) | ((with_reducible apply oq_buildA); exact rfl; exact rfl; exact rfl; exact rfl) | ((with_reducible apply oq_fieldAgg); exact rfl; exact rfl; exact rfl) | ((with_reducible apply oq_indexAgg); exact rfl; exact rfl; exact rfl; exact rfl))
        | ((with_reducible apply tl_id); first | ((with_reducible apply tl_nil)) | ((with_reducible apply u_q); exact rfl; exact rfl; exact rfl; exact rfl) | ((with_reducible apply u_s0); exact rfl; exact rfl) | ((with_reducible apply u_s); exact rfl; exact rfl; exact rfl) | ((with_reducible apply u_skip); exact rfl; exact rfl; exact rfl) | ((with_reducible apply u_splitD); exact rfl; exact rfl; all_goals first | (intro hp; try (exfalso; omega)) | skip) | ((with_reducible apply u_splitN); exact rfl; exact rfl; all_goals first | (intro hp; try (exfalso; omega)) | skip) | ((with_reducible apply u_split); exact rfl; exact rfl; all_goals first | intro hp | skip))
        | ((with_reducible apply gx_id); first | ((with_reducible apply v_nil)) | ((with_reducible apply v_q); exact rfl; exact rfl; exact rfl) | ((with_reducible apply v_skip); exact rfl; exact rfl; exact rfl) | ((with_reducible apply v_splitD); exact rfl; exact rfl; all_goals first | (intro hp; try (exfalso; omega)) | skip) | ((with_reducible apply v_splitN); exact rfl; exact rfl; all_goals first | (intro hp; try (exfalso; omega)) | skip) | ((with_reducible apply v_split); exact rfl; exact rfl; all_goals first | intro hp | skip))
        | ((with_reducible apply os_id); first | ((with_reducible apply os_x); exact rfl) | ((with_reducible apply os_store); exact rfl; exact rfl; exact rfl; exact rfl) | ((with_reducible apply os_storeAgg); exact rfl; exact rfl; exact rfl; exact rfl; exact rfl))
        | ((with_reducible apply ox_id); first | ((with_reducible apply ox_alloc); exact rfl; intro _) | ((with_reducible apply ox_box); exact rfl; exact rfl; intro _) | ((with_reducible apply ox_boxAgg); exact rfl; intro _) | ((with_reducible apply ox_buildSlice1); exact rfl; exact rfl; exact rfl; exact rfl; exact rfl; exact rfl; intro _) | ((with_reducible apply ox_buildSlice2); exact rfl; exact rfl; exact rfl; exact rfl; exact rfl; exact rfl; intro _) | ((with_reducible apply ox_buildSlice); exact rfl; exact rfl; exact rfl; exact rfl))
        | ((with_reducible apply rd_id); first | (apply Rd.own; (repeat (first | exact P0 | apply P1)); exact rfl; done) | (apply Rd.old; (first | (with_reducible assumption) | exact c0 | exact c1 | exact c2 | exact c3 | exact c4 | exact c5 | exact c6 | exact c7 | exact c8 | exact d0 | exact d1 | exact d2 | exact d3 | exact d4 | exact d5); first | exact List.not_mem_nil | exact m0 | exact m1 | exact m2 | exact m3 | exact m4 | exact m5 | exact m6 | exact m7 | exact m8 | exact m9))
        | ((with_reducible apply t_id); first | ((with_reducible apply t_seq)) | (apply t_region; kernel_rfl) | (apply t_drawn; kernel_rfl; decide +kernel) | ((with_reducible apply t_condT); exact rfl) | ((with_reducible apply t_condF); exact rfl) | ((with_reducible apply t_condD); exact rfl; all_goals first | (intro hp; try (exfalso; omega)) | skip) | ((with_reducible apply t_condN); exact rfl; all_goals first | (intro hp; try (exfalso; omega)) | skip) | ((with_reducible apply t_cond); exact rfl; all_goals first | intro hp | skip) | ((with_reducible apply t_ret)) | ((with_reducible apply t_skip)) | ((with_reducible apply t_exit)) | ((with_reducible apply t_block)))
        | with_reducible apply q_thenN
        | with_reducible apply q_thenR
        | with_reducible apply q_blockR
        | with_reducible apply q_blockN
        | with_reducible apply q_thenE
        | ((with_reducible apply q_blockE); exact rfl)
        | ((with_reducible apply q_blockO); exact rfl)
        | exact P0
        | ((with_reducible apply P1))
        | exact Rdn.zero
        | apply Rdn.succ
        | ((with_reducible apply Norm.nil); exact rfl)
        | ((with_reducible apply Norm.cons); exact rfl)
        | ((with_reducible apply end_ret))
        | ((with_reducible apply end_normal))
        | exact rvs_nil
        | ((with_reducible apply rvs_cons))
        | ((with_reducible apply rv_tmp); exact rfl)
        | ((with_reducible apply rv_cell); exact rfl; exact rfl)
        | ((with_reducible apply rv_cellAgg); exact rfl; exact rfl)
        | exact Nat.le_of_ble_eq_true rfl
        | exact (rfl : (_ : Bool) = true)
        | omega
        | (intro _ _; with_reducible apply tl_id)
        | (intro _; with_reducible apply tl_id)
        | (intro _ _; with_reducible apply al_id)
        | (intro _; with_reducible apply al_id))
      rfl
  · rw [if_neg hE]
    generalize windE a b c d = E at *
    refine enterQ (c := cx w 55) Try.func44 rfl rfl rfl rfl ?_
    repeat' (first
      | ((with_reducible apply oq_id); first | (apply oq_fn; exact rfl; first | exact trivial | (refine ⟨?_, ?_⟩ <;> omega) | (refine ⟨?_, ?_, ?_⟩ <;> omega) | omega | skip) | ((with_reducible apply oq_load); exact rfl; exact rfl) | ((with_reducible apply oq_loadAgg); exact rfl; exact rfl) | ((with_reducible apply oq_call (k := 110) (hc := Try.call110)); exact rfl; exact rfl; exact fun D w1 hw1 => HE w1) | ((with_reducible apply oq_call (k := 111) (hc := Try.call111)); exact rfl; exact rfl; exact fun D w1 hw1 => boundRoot_calls _ _ w1) | ((with_reducible apply oq_build); exact rfl; exact rfl; exact rfl) | ((with_reducible apply oq_buildA); exact rfl; exact rfl; exact rfl; exact rfl) | ((with_reducible apply oq_fieldAgg); exact rfl; exact rfl; exact rfl) | ((with_reducible apply oq_indexAgg); exact rfl; exact rfl; exact rfl; exact rfl))
      | ((with_reducible apply tl_id); first | ((with_reducible apply tl_nil)) | ((with_reducible apply u_q); exact rfl; exact rfl; exact rfl; exact rfl) | ((with_reducible apply u_s0); exact rfl; exact rfl) | ((with_reducible apply u_s); exact rfl; exact rfl; exact rfl) | ((with_reducible apply u_skip); exact rfl; exact rfl; exact rfl) | ((with_reducible apply u_splitD); exact rfl; exact rfl; all_goals first | (intro hp; try (exfalso; omega)) | skip) | ((with_reducible apply u_splitN); exact rfl; exact rfl; all_goals first | (intro hp; try (exfalso; omega)) | skip) | ((with_reducible apply u_split); exact rfl; exact rfl; all_goals first | intro hp | skip))
      | ((with_reducible apply gx_id); first | ((with_reducible apply v_nil)) | ((with_reducible apply v_q); exact rfl; exact rfl; exact rfl) | ((with_reducible apply v_skip); exact rfl; exact rfl; exact rfl) | ((with_reducible apply v_splitD); exact rfl; exact rfl; all_goals first | (intro hp; try (exfalso; omega)) | skip) | ((with_reducible apply v_splitN); exact rfl; exact rfl; all_goals first | (intro hp; try (exfalso; omega)) | skip) | ((with_reducible apply v_split); exact rfl; exact rfl; all_goals first | intro hp | skip))
      | ((with_reducible apply os_id); first | ((with_reducible apply os_x); exact rfl) | ((with_reducible apply os_store); exact rfl; exact rfl; exact rfl; exact rfl) | ((with_reducible apply os_storeAgg); exact rfl; exact rfl; exact rfl; exact rfl; exact rfl))
      | ((with_reducible apply ox_id); first | ((with_reducible apply ox_alloc); exact rfl; intro _) | ((with_reducible apply ox_box); exact rfl; exact rfl; intro _) | ((with_reducible apply ox_boxAgg); exact rfl; intro _) | ((with_reducible apply ox_buildSlice1); exact rfl; exact rfl; exact rfl; exact rfl; exact rfl; exact rfl; intro _) | ((with_reducible apply ox_buildSlice2); exact rfl; exact rfl; exact rfl; exact rfl; exact rfl; exact rfl; intro _) | ((with_reducible apply ox_buildSlice); exact rfl; exact rfl; exact rfl; exact rfl))
      | ((with_reducible apply rd_id); first | (apply Rd.own; (repeat (first | exact P0 | apply P1)); exact rfl; done) | (apply Rd.old; (first | (with_reducible assumption) | exact c0 | exact c1 | exact c2 | exact c3 | exact c4 | exact c5 | exact c6 | exact c7 | exact c8 | exact d0 | exact d1 | exact d2 | exact d3 | exact d4 | exact d5); first | exact List.not_mem_nil | exact m0 | exact m1 | exact m2 | exact m3 | exact m4 | exact m5 | exact m6 | exact m7 | exact m8 | exact m9))
      | ((with_reducible apply t_id); first | ((with_reducible apply t_seq)) | (apply t_region; kernel_rfl) | (apply t_drawn; kernel_rfl; decide +kernel) | ((with_reducible apply t_condT); exact rfl) | ((with_reducible apply t_condF); exact rfl) | ((with_reducible apply t_condD); exact rfl; all_goals first | (intro hp; try (exfalso; omega)) | skip) | ((with_reducible apply t_condN); exact rfl; all_goals first | (intro hp; try (exfalso; omega)) | skip) | ((with_reducible apply t_cond); exact rfl; all_goals first | intro hp | skip) | ((with_reducible apply t_ret)) | ((with_reducible apply t_skip)) | ((with_reducible apply t_exit)) | ((with_reducible apply t_block)))
      | with_reducible apply q_thenN
      | with_reducible apply q_thenR
      | with_reducible apply q_blockR
      | with_reducible apply q_blockN
      | with_reducible apply q_thenE
      | ((with_reducible apply q_blockE); exact rfl)
      | ((with_reducible apply q_blockO); exact rfl)
      | exact P0
      | ((with_reducible apply P1))
      | exact Rdn.zero
      | apply Rdn.succ
      | ((with_reducible apply Norm.nil); exact rfl)
      | ((with_reducible apply Norm.cons); exact rfl)
      | ((with_reducible apply end_ret))
      | ((with_reducible apply end_normal))
      | exact rvs_nil
      | ((with_reducible apply rvs_cons))
      | ((with_reducible apply rv_tmp); exact rfl)
      | ((with_reducible apply rv_cell); exact rfl; exact rfl)
      | ((with_reducible apply rv_cellAgg); exact rfl; exact rfl)
      | exact Nat.le_of_ble_eq_true rfl
      | exact (rfl : (_ : Bool) = true)
      | omega
      | (intro _ _; with_reducible apply tl_id)
      | (intro _; with_reducible apply tl_id)
      | (intro _ _; with_reducible apply al_id)
      | (intro _; with_reducible apply al_id))
    all_goals rfl

end Go.Proofs.Ytalidommelefaaa
