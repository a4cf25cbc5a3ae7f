/- A part of the proof: rules for walks, and contracts of functions (3). -/
import Derived.Test.YtcjkndjjbjoehaaGreatX5B
import Derived.Test.YtcjkndjjbjoehaaGreatX5A
import Derived.Laws.StructEq
set_option linter.unusedVariables false
set_option linter.unusedSimpArgs false
set_option maxRecDepth 100000
set_option maxHeartbeats 2000000
namespace Go.Proofs.YtcjkndjjbjoehaaGreat
theorem goE0 {G A1 A2 A3 A4 A5 A6 A7 A8 A9 A10 A11 A12 A13 A14 A15 A16 : Prop} (p : GoP A1 A2 A3 A4 A5 A6 A7 A8 A9 A10 A11 A12 A13 A14 A15 A16) (h : GoL A1 → GoL A2 → GoL A3 → GoL A4 → GoL A5 → GoL A6 → GoL A7 → GoL A8 → GoL A9 → GoL A10 → GoL A11 → GoL A12 → GoL A13 → GoL A14 → GoL A15 → GoL A16 → GoM → G := by intro m1 m2 m3 m4 m5 m6 m7 m8 m9 m10 m11 m12 m13 m14 m15 m16 _; (repeat' (first | ((with_reducible apply oq_id); first | ((with_reducible apply oc_id); first | ((with_reducible apply oq_call (k := 165) (hc := Tryz.call165)); exact rfl; exact rfl; exact fun D w1 hw1 => within1_calls _ _ _ w1) | ((with_reducible apply oq_call (k := 122) (hc := Tryz.call122)); exact rfl; exact rfl; exact fun D w1 hw1 => fine1 hq hw1 (by (repeat (first | exact P0 | apply P1)))) | ((with_reducible apply oq_call (k := 147) (hc := Tryz.call147)); exact rfl; exact rfl; exact fun D w1 hw1 => HV w1) | ((with_reducible apply oq_call (k := 148) (hc := Tryz.call148)); exact rfl; exact rfl; exact fun D w1 hw1 => sqrt_calls _ (by omega) (by omega) w1) | ((with_reducible apply oq_call (k := 89) (hc := Tryz.call89)); exact rfl; exact rfl; exact fun D w1 hw1 => H1 w1) | ((with_reducible apply oq_call (k := 89) (hc := Tryz.call89)); exact rfl; exact rfl; exact fun D w1 hw1 => H2 w1) | ((with_reducible apply oq_call (k := 120) (hc := Tryz.call120)); exact rfl; exact rfl; exact fun D w1 hw1 => fromS4 h3 hw1 (by (repeat (first | exact P0 | apply P1)))) | ((with_reducible apply oq_call (k := 147) (hc := Tryz.call147)); exact rfl; exact rfl; exact fun D w1 hw1 => H1 w1) | ((with_reducible apply oq_call (k := 147) (hc := Tryz.call147)); exact rfl; exact rfl; exact fun D w1 hw1 => H2 w1) | ((with_reducible apply oq_call (k := 159) (hc := Tryz.call159)); exact rfl; exact rfl; exact fun D w1 hw1 => H3 w1) | ((with_reducible apply oq_call (k := 159) (hc := Tryz.call159)); exact rfl; exact rfl; exact fun D w1 hw1 => H4 w1) | ((with_reducible apply oq_call (k := 161) (hc := Tryz.call161)); exact rfl; exact rfl; exact fun D w1 hw1 => size_calls _ (by omega) (by omega) w1) | ((with_reducible apply oq_call (k := 160) (hc := Tryz.call160)); exact rfl; exact rfl; exact fun D w1 hw1 => mul64_calls _ _ (by omega) (by omega) (by omega) (by omega) w1) | ((with_reducible apply oq_call (k := 162) (hc := Tryz.call162)); exact rfl; exact rfl; exact fun D w1 hw1 => D1 w1) | ((with_reducible apply oq_call (k := 122) (hc := Tryz.call122)); exact rfl; exact rfl; exact fun D w1 hw1 => fine2 hq hw1 (by (repeat (first | exact P0 | apply P1)))) | ((with_reducible apply oq_call (k := 122) (hc := Tryz.call122)); exact rfl; exact rfl; exact fun D w1 hw1 => fine3 hq hw1 (by (repeat (first | exact P0 | apply P1)))) | ((with_reducible apply oq_call (k := 143) (hc := Tryz.call143)); exact rfl; exact rfl; exact fun D w1 hw1 => HA w1 hw1 (by (repeat (first | exact P0 | apply P1)))) | ((with_reducible apply oq_call (k := 142) (hc := Tryz.call142)); exact rfl; exact rfl; exact fun D w1 hw1 => sized_calls _ _ (by omega) (by omega) w1) | ((with_reducible apply oq_call (k := 119) (hc := Tryz.call119)); exact rfl; exact rfl; exact fun D w1 hw1 => over1_calls _ _ _ _ h k0 w1) | ((with_reducible apply oq_call (k := 153) (hc := Tryz.call153)); exact rfl; exact rfl; exact fun D w1 hw1 => H1 w1) | ((with_reducible apply oq_call (k := 120) (hc := Tryz.call120)); exact rfl; exact rfl; exact fun D w1 hw1 => fromS2 hq hw1 (by (repeat (first | exact P0 | apply P1)))) | ((with_reducible apply oq_call (k := 154) (hc := Tryz.call154)); exact rfl; exact rfl; exact fun D w1 hw1 => MX w1) | ((with_reducible apply oq_call (k := 154) (hc := Tryz.call154)); exact rfl; exact rfl; exact fun D w1 hw1 => MY w1) | ((with_reducible apply oq_call (k := 155) (hc := Tryz.call155)); exact rfl; exact rfl; exact fun D w1 hw1 => add_calls _ _ _ _ (by omega) (by omega) w1) | ((with_reducible apply oq_call (k := 156) (hc := Tryz.call156)); exact rfl; exact rfl; exact fun D w1 hw1 => HL w1) | ((with_reducible apply oq_call (k := 156) (hc := Tryz.call156)); exact rfl; exact rfl; exact fun D w1 hw1 => HR w1) | ((with_reducible apply oq_call (k := 169) (hc := Tryz.call169)); exact rfl; exact rfl; exact fun D w1 hw1 => H1 w1) | ((with_reducible apply oq_call (k := 158) (hc := Tryz.call158)); exact rfl; exact rfl; exact fun D w1 hw1 => (within_calls _ _ _ w1).mono fun e w' h => ⟨h.1, h.2 ▸ Ext.refl _⟩)) | ((with_reducible apply ob_id); first | (focus ((with_reducible apply oq_shrLow); exact rfl; exact rfl; (refine ⟨?_, ?_⟩ <;> omega))) | (focus ((with_reducible apply oq_shr32); exact rfl; exact rfl; omega)) | (focus ((with_reducible apply oq_addU); exact rfl; exact rfl; (first | exact hxy | (refine ⟨?_, ?_⟩ <;> omega)))) | (focus ((with_reducible apply oq_mulU); exact rfl; exact rfl; (first | exact hxy | (refine ⟨?_, ?_⟩ <;> omega)))) | (focus ((with_reducible apply oq_quoU); exact rfl; exact rfl; omega; exact hq)) | (focus ((with_reducible apply oq_remU); exact rfl; exact rfl; omega)) | (focus ((with_reducible apply oq_neqB); exact rfl; exact rfl))) | (apply oq_fn; exact rfl; first | exact trivial | (refine ⟨?_, ?_⟩ <;> omega) | (refine ⟨?_, ?_, ?_⟩ <;> omega) | omega | skip) | ((with_reducible apply oq_load); exact rfl; exact rfl) | ((with_reducible apply oq_loadAgg); exact rfl; exact rfl) | ((with_reducible apply oq_buildA); exact rfl; exact rfl; exact rfl; exact rfl) | ((with_reducible apply oq_indexAgg); exact rfl; exact rfl; exact rfl; exact rfl) | (focus ((with_reducible apply oq_andLow); exact rfl; exact rfl; (refine ⟨?_, ?_⟩ <;> omega))) | (focus ((with_reducible apply oq_convU); exact rfl; exact rfl; exact rfl; (refine ⟨?_, ?_⟩ <;> omega))) | (focus ((with_reducible apply oq_sliceL (l := 1)); exact rfl; exact rfl; exact rfl; exact rfl; exact rfl; omega; omega)) | ((with_reducible apply oq_sliceArr); exact rfl; exact rfl; exact rfl) | ((with_reducible apply oq_build); exact rfl; exact rfl; exact rfl)) | ((with_reducible apply tl_id); first | ((with_reducible apply tl_nil)) | ((with_reducible apply u_q); exact rfl; exact rfl; exact rfl; exact rfl) | ((with_reducible apply u_s0); exact rfl; exact rfl) | ((with_reducible apply u_s); exact rfl; exact rfl; exact rfl) | ((with_reducible apply u_skip); exact rfl; exact rfl; exact rfl) | ((with_reducible apply u_splitD); exact rfl; exact rfl; all_goals first | (intro _; try (exfalso; omega)) | skip) | ((with_reducible apply u_split); exact rfl; exact rfl; all_goals first | intro _ | skip)) | ((with_reducible apply gx_id); first | ((with_reducible apply v_nil)) | ((with_reducible apply v_q); exact rfl; exact rfl; exact rfl)) | ((with_reducible apply os_id); first | ((with_reducible apply os_x); exact rfl) | ((with_reducible apply os_store); exact rfl; exact rfl; exact rfl; exact rfl) | ((with_reducible apply os_storeAgg); exact rfl; exact rfl; exact rfl; exact rfl; exact rfl)) | ((with_reducible apply ox_id); first | ((with_reducible apply ox_alloc); exact rfl; intro _) | ((with_reducible apply ox_boxAgg); exact rfl; intro _) | ((with_reducible apply ox_buildSlice2); exact rfl; exact rfl; exact rfl; exact rfl; exact rfl; exact rfl; intro _) | ((with_reducible apply ox_buildSlice1); exact rfl; exact rfl; exact rfl; exact rfl; exact rfl; exact rfl; intro _)) | ((with_reducible apply ai_id); first | ((with_reducible apply ai_q); exact rfl; exact rfl; exact rfl; exact rfl; exact rfl) | ((with_reducible apply ai_s0); exact rfl; exact rfl; exact rfl; exact rfl)) | ((with_reducible apply rd_id); first | (apply Rd.own; (repeat (first | exact P0 | apply P1)); exact rfl; done) | (apply Rd.old; (first | (with_reducible assumption) | exact c0 | exact c1); first | exact List.not_mem_nil)) | ((with_reducible apply t_id); first | ((with_reducible apply t_seq)) | (apply t_region; kernel_rfl) | (apply t_drawn; kernel_rfl; decide +kernel) | ((with_reducible apply t_condT); exact rfl) | ((with_reducible apply t_condF); exact rfl) | ((with_reducible apply t_condD); exact rfl; all_goals first | (intro _; try (exfalso; omega)) | skip) | ((with_reducible apply t_cond); exact rfl; all_goals first | intro _ | skip) | ((with_reducible apply t_ret)) | ((with_reducible apply t_skip)) | ((with_reducible apply t_exit)) | ((with_reducible apply t_block))) | with_reducible apply q_thenN | with_reducible apply q_thenR | with_reducible apply q_blockR | with_reducible apply q_blockN | with_reducible apply q_thenE | ((with_reducible apply q_blockE); exact rfl) | exact P0 | ((with_reducible apply P1)) | exact Rdn.zero | apply Rdn.succ | ((with_reducible apply Norm.nil); exact rfl) | ((with_reducible apply Norm.cons); exact rfl) | ((with_reducible apply end_ret)) | exact rvs_nil | ((with_reducible apply rvs_cons)) | ((with_reducible apply rv_tmp); exact rfl) | ((with_reducible apply rv_cellAgg); exact rfl; exact rfl) | (apply t_mix (id := 5) [0, 1, 2, 3, 4, 5, 6, 10] 6 #[false, false, false, false, false, false, false, false, false, false, false, true, false, true]; kernel_rfl; kernel_rfl; exact rfl) | (apply t_mix (id := 10) [0, 1, 2, 3, 4, 5, 6, 7, 8, 9, 10] 2 #[false, false, false, false, false, false, false, false, false, false, false, true, false]; kernel_rfl; kernel_rfl; exact rfl) | ((with_reducible apply al_id); first | (apply al_done; decide +kernel) | (apply al_one 7; decide +kernel) | (apply al_one 8; decide +kernel) | (apply al_one 9; decide +kernel) | (apply al_one 11; decide +kernel) | (apply al_one 12; decide +kernel) | (apply al_one 13; decide +kernel) | (apply al_two 7 11; decide +kernel) | (apply al_two 8 11; decide +kernel) | (apply al_two 9 11; decide +kernel)) | exact Nat.le_of_ble_eq_true rfl | omega)); (try focus (repeat (rename_i x; first | exact goD x m1.p | revert x))); (try focus (repeat (rename_i x; first | exact goD x m2.p | revert x))); (try focus (repeat (rename_i x; first | exact goD x m3.p | revert x))); (try focus (repeat (rename_i x; first | exact goD x m4.p | revert x))); (try focus (repeat (rename_i x; first | exact goD x m5.p | revert x))); (try focus (repeat (rename_i x; first | exact goD x m6.p | revert x))); (try focus (repeat (rename_i x; first | exact goD x m7.p | revert x))); (try focus (repeat (rename_i x; first | exact goD x m8.p | revert x))); (try focus (repeat (rename_i x; first | exact goD x m9.p | revert x))); (try focus (repeat (rename_i x; first | exact goD x m10.p | revert x))); (try focus (repeat (rename_i x; first | exact goD x m11.p | revert x))); (try focus (repeat (rename_i x; first | exact goD x m12.p | revert x))); (try focus (repeat (rename_i x; first | exact goD x m13.p | revert x))); (try focus (repeat (rename_i x; first | exact goD x m14.p | revert x))); (try focus (repeat (rename_i x; first | exact goD x m15.p | revert x))); (try focus (repeat (rename_i x; first | exact goD x m16.p | revert x)))) (e : GoTs A1 A2 A3 A4 A5 A6 A7 A8 A9 A10 A11 A12 A13 A14 A15 A16 := by constructor <;> first | (with_reducible exact GoT.t) | exact GoT.u) : G := p.run h
open Go.RowKit
attribute [local irreducible] OQ OS OX Rd T TL GX GL AL AI RV wpG SAny Calls
/-- r is the root of n, rounded down. -/
def IsR (n r : Int) : Prop := 0 ≤ r ∧ r * r ≤ n ∧ n < (r + 1) * (r + 1)
theorem IsR.uniq {n r s : Int} (h : IsR n r) (k : IsR n s) : r = s := by
  have key : ∀ {r s : Int}, IsR n r → IsR n s → s ≤ r := fun {r s} h k => by
    rcases Int.lt_or_le r s with hlt | hle
    · have h1 : (r + 1) * (r + 1) ≤ s * s := Int.mul_le_mul (by omega) (by omega) (by have := h.1; omega) k.1
      have := h.2.2; have := k.2.1
      omega
    · exact hle
  have h1 := key h k
  have h2 := key k h
  omega
noncomputable def rt (n : Int) : Int := open Classical in if h : ∃ r, IsR n r then Classical.choose h else 0
theorem IsR.rt {n r : Int} (h : IsR n r) : rt n = r := by
  have hx : ∃ r, IsR n r := ⟨r, h⟩
  unfold YtcjkndjjbjoehaaGreat.rt
  rw [dif_pos hx]
  exact (Classical.choose_spec hx).uniq h
theorem root_calls (n : Int) (h0 : 0 ≤ n) (h1 : n ≤ 1099511627776) (w : World) : Calls Tryz.prog 140 #[.int .i64 n] w fun e w' => e = .returned (.int .i64 (rt n)) ∧ Ext w w' := by
  refine enterQ (c := cx w 22) Tryz.func140 rfl rfl rfl rfl ?_
  ((all_goals refine goE0 ?_); (all_goals constructor); (any_goals exact trivial); all_goals intros)
  apply t_loopK (ι := (Int × Int)) [0, 2, 21] (fun (i : Int × Int) => [(3, .int .i64 i.1), (4, .int .i64 i.2)]) (fun _ => []) (fun i => 0 ≤ i.1 ∧ i.1 < i.2 ∧ i.2 ≤ 1048577 ∧ i.1 * i.1 ≤ n ∧ n < i.2 * i.2) (fun i => (i.2 - i.1).toNat) ((0, 1048577))
  (repeat (first | exact KeepF.nil | (apply KeepF.cons; exact rfl) | apply KeepF.skip))
  (repeat (first | exact FrSub.nil | (apply FrSub.cons; exact rfl)))
  (repeat (first | exact HpSub.refl _ | (apply HpSub.consE; (repeat (first | exact P0 | apply P1)); exact rfl) | exact HpSub.nil))
  · simp only; omega
  rintro ⟨a, b⟩ ⟨i0, i1, i2, i3, i4⟩
  simp only at i0 i1 i2 i3 i4
  obtain ⟨m, hm⟩ : ∃ m, m = (a + b).tdiv 2 := ⟨_, rfl⟩
  have hm0 : a ≤ m ∧ m ≤ b ∧ (1 < b - a → a < m ∧ m < b) := by
    rw [Int.tdiv_eq_ediv_of_nonneg (by omega)] at hm
    omega
  have hmm : InR (m * m) := by
    have : m * m ≤ 1048577 * 1048577 := Int.mul_le_mul (by omega) (by omega) (by omega) (by omega)
    have : 0 ≤ m * m := Int.mul_nonneg (by omega) (by omega)
    exact ⟨by omega, by omega⟩
  rw [hm] at hmm
  dsimp only
  repeat' (first | ((with_reducible apply oq_id); first | (apply oq_fn; exact rfl; first | exact trivial | (refine ⟨?_, ?_⟩ <;> omega) | (refine ⟨?_, ?_, ?_⟩ <;> omega) | omega | skip)) | ((with_reducible apply tl_id); first | ((with_reducible apply tl_nil)) | ((with_reducible apply u_q); exact rfl; exact rfl; exact rfl; exact rfl)) | ((with_reducible apply t_id); first | ((with_reducible apply t_seq)) | (apply t_region; kernel_rfl) | ((with_reducible apply t_condD); exact rfl; all_goals first | (intro hp; try (exfalso; omega)) | skip) | ((with_reducible apply t_ret)) | ((with_reducible apply t_skip)) | ((with_reducible apply t_exit)) | ((with_reducible apply t_block))) | with_reducible apply q_thenN | with_reducible apply q_blockN | with_reducible apply q_thenE | ((with_reducible apply q_blockE); exact rfl) | ((with_reducible apply end_ret)) | exact rvs_nil | ((with_reducible apply rvs_cons)) | ((with_reducible apply rv_tmp); exact rfl))
  · rw [← hm] at *
    refine ⟨(m, b), ⟨by simp only; omega, by simp only; omega, i2, hp, i4⟩, by simp only; omega, ?_, ?_⟩
    · (repeat (first | exact FrSub.nil | (apply FrSub.cons; exact rfl)))
    · (repeat (first | exact HpSub.refl _ | (apply HpSub.consE; (repeat (first | exact P0 | apply P1)); exact rfl) | exact HpSub.nil))
  · rw [← hm] at *
    refine ⟨(a, m), ⟨i0, by simp only; omega, by simp only; omega, i3, by simp only; omega⟩, by simp only; omega, ?_, ?_⟩
    · (repeat (first | exact FrSub.nil | (apply FrSub.cons; exact rfl)))
    · (repeat (first | exact HpSub.refl _ | (apply HpSub.consE; (repeat (first | exact P0 | apply P1)); exact rfl) | exact HpSub.nil))
  · obtain rfl : b = a + 1 := by omega
    rw [IsR.rt ⟨i0, i3, i4⟩]; rfl
theorem sqrt_calls (n : Int) (h0 : 0 ≤ n) (h1 : n ≤ 1099511627776) (w : World) : Calls Tryz.prog 148 #[.int .i64 n] w fun e w' => e = .returned (.int .i64 (rt n)) ∧ Ext w w' := by
  refine enterQ (c := cx w 22) Tryz.func148 rfl rfl rfl rfl ?_
  ((all_goals refine goE0 ?_); (all_goals constructor); (any_goals exact trivial); all_goals intros)
  apply t_loopK (ι := (Int × Int × Nat)) [0, 2, 21] (fun (i : Int × Int × Nat) => [(3, .int .i64 i.1), (4, .int .i64 i.2.1)]) (fun _ => []) (fun i => 0 ≤ i.1 ∧ i.1 * i.1 ≤ n ∧ i.2.1 = (2 : Int) ^ i.2.2 / 2 ∧ n < (i.1 + (2 : Int) ^ i.2.2) * (i.1 + (2 : Int) ^ i.2.2) ∧ i.1 + (2 : Int) ^ i.2.2 ≤ 2097152) (fun i => i.2.2) ((0, 1048576, 21))
  (repeat (first | exact KeepF.nil | (apply KeepF.cons; exact rfl) | apply KeepF.skip))
  (repeat (first | exact FrSub.nil | (apply FrSub.cons; exact rfl)))
  (repeat (first | exact HpSub.refl _ | (apply HpSub.consE; (repeat (first | exact P0 | apply P1)); exact rfl) | exact HpSub.nil))
  · simp only; refine ⟨by omega, by omega, by decide, ?_, by decide⟩
    have : ((0 : Int) + 2 ^ 21) * (0 + 2 ^ 21) = 4398046511104 := by decide
    omega
  rintro ⟨r, b, e⟩ ⟨i0, i1, i2, i3, i4⟩
  simp only at i0 i1 i2 i3 i4
  have hP : (1 : Int) ≤ 2 ^ e := Int.pow_pos (by omega)
  have hb : 0 < b → ∃ e', e = e' + 1 ∧ b = 2 ^ e' ∧ (2 : Int) ^ e = 2 * 2 ^ e' ∧ b.tdiv 2 = 2 ^ e' / 2 := fun h => by
    cases e with
    | zero => simp at i2; omega
    | succ e' =>
      have h2 : (2 : Int) ^ (e' + 1) = 2 * 2 ^ e' := by rw [Int.pow_succ, Int.mul_comm]
      have h3 : b = 2 ^ e' := by rw [i2, h2]; omega
      exact ⟨e', rfl, h3, h2, by rw [h3, Int.tdiv_eq_ediv_of_nonneg (by have : (0 : Int) < 2 ^ e' := Int.pow_pos (by omega)
                                                                        omega)]⟩
  have hb0 : 0 ≤ b := by rw [i2]; omega
  have hmm : InR ((r + b) * (r + b)) := by
    have : (r + b) * (r + b) ≤ 2097152 * 2097152 := Int.mul_le_mul (by omega) (by omega) (by omega) (by omega)
    have : 0 ≤ (r + b) * (r + b) := Int.mul_nonneg (by omega) (by omega)
    exact ⟨by omega, by omega⟩
  dsimp only
  ((all_goals refine goE0 ?_); (all_goals constructor); (any_goals exact trivial); all_goals intros)
  · obtain ⟨e', rfl, hb1, hb2, hb3⟩ := hb (by assumption)
    refine ⟨(r + b, b.tdiv 2, e'), ⟨by simp only; omega, by assumption, hb3, ?_, by simp only; omega⟩, by simp only; omega, ?_, ?_⟩
    · simp only
      rw [show r + b + 2 ^ e' = r + 2 ^ (e' + 1) by omega]; exact i3
    · (repeat (first | exact FrSub.nil | (apply FrSub.cons; exact rfl)))
    · (repeat (first | exact HpSub.refl _ | (apply HpSub.consE; (repeat (first | exact P0 | apply P1)); exact rfl) | exact HpSub.nil))
  · obtain ⟨e', rfl, hb1, hb2, hb3⟩ := hb (by assumption)
    refine ⟨(r, b.tdiv 2, e'), ⟨i0, i1, hb3, ?_, by simp only; omega⟩, by simp only; omega, ?_, ?_⟩
    · simp only
      rw [← hb1]; omega
    · (repeat (first | exact FrSub.nil | (apply FrSub.cons; exact rfl)))
    · (repeat (first | exact HpSub.refl _ | (apply HpSub.consE; (repeat (first | exact P0 | apply P1)); exact rfl) | exact HpSub.nil))
  · have he : e = 0 := by
      cases e with
      | zero => rfl
      | succ e' =>
        have h2 : (2 : Int) ^ (e' + 1) = 2 * 2 ^ e' := by rw [Int.pow_succ, Int.mul_comm]
        have : (1 : Int) ≤ 2 ^ e' := Int.pow_pos (by omega)
        omega
    subst he
    rw [IsR.rt ⟨i0, i1, by simpa using i3⟩]; rfl
/-- A span that is valid. -/
def fineS (s : Int × Int) : Bool := decide (s.1 ≤ s.2) && (decide (-1099511627776 ≤ s.1) && decide (s.2 ≤ 1099511627776))
theorem fineS_iff (s : Int × Int) : fineS s = true ↔ s.1 ≤ s.2 ∧ -1099511627776 ≤ s.1 ∧ s.2 ≤ 1099511627776 := by
  unfold fineS; simp [Bool.and_eq_true]
theorem within1_calls (n lo hi : Int) (w : World) : Calls Tryz.prog 165 #[.int .i64 n, .int .i64 lo, .int .i64 hi] w fun e w' => e = .returned (.bool (decide (lo ≤ n ∧ n ≤ hi))) ∧ Ext w w' := by
  refine enterQ (c := cx w 15) Tryz.func165 rfl rfl rfl rfl ?_
  ((all_goals refine goE0 ?_); (all_goals constructor); (any_goals exact trivial); all_goals intros)
  all_goals (show Value.bool _ = Value.bool _; congr 1; rw [Bool.eq_iff_iff]; simp; try omega)
theorem valid_calls (s : Int × Int) (w : World) : Calls Tryz.prog 147 #[.agg #[.int .i64 s.1, .int .i64 s.2]] w fun e w' => e = .returned (.bool (fineS s)) ∧ Ext w w' := by
  refine enterQ (c := cx w 18) Tryz.func147 rfl rfl rfl rfl ?_
  ((all_goals refine goE0 ?_); (all_goals constructor); (any_goals exact trivial); all_goals intros)
  all_goals (show Value.bool _ = Value.bool _; congr 1; rw [Bool.eq_iff_iff, fineS_iff]; simp; try omega)
theorem all_not {l : List (Int × Int)} {k : Nat} {x : Int × Int} (h : l[k]? = some x) (hx : fineS x = false) : l.all fineS = false := by
  rw [Bool.eq_false_iff, Ne, List.all_eq_true]
  intro h2
  have := h2 x (List.mem_of_getElem? h)
  rw [hx] at this
  cases this
theorem fine_calls (A : Option Addr) (n c : Nat) (l : List (Int × Int)) (w : World) (hr : RdS w 2 A n (l.map spanCells)) (hn : n ≤ 1000000) : Calls Tryz.prog 122 #[.slice A n c] w fun e w' => e = .returned (.bool (l.all fineS)) ∧ Ext w w' := by
  have hl := hr.len
  simp only [List.length_map] at hl
  refine enterQ (c := cx w 27) Tryz.func122 rfl rfl rfl rfl ?_
  ((all_goals refine goE0 ?_); (all_goals constructor); (any_goals exact trivial); all_goals intros)
  apply t_loopK (ι := Nat) [5, 6] (fun k => [(7, .int .i64 (k : Nat))]) (fun _ => []) (fun k => k ≤ n ∧ ∀ s ∈ l.take k, fineS s = true) (fun k => n - k) (0)
  (repeat (first | exact KeepF.nil | (apply KeepF.cons; exact rfl) | apply KeepF.skip))
  (repeat (first | exact FrSub.nil | (apply FrSub.cons; exact rfl)))
  (repeat (first | exact HpSub.refl _ | (apply HpSub.consE; (repeat (first | exact P0 | apply P1)); exact rfl) | exact HpSub.nil))
  · exact ⟨by omega, by simp⟩
  intro k hk
  try simp only [List.cons_append, List.nil_append]
  by_cases hlt : k < n
  · obtain ⟨b1, o1, x, rfl, _, hkx2, c0, c1⟩ := span_read hr hlt
    ((all_goals refine goE0 ?_); (all_goals constructor); (any_goals exact trivial); all_goals intros)
    iterate 3 (rw [all_not hkx2 (by rw [Bool.eq_false_iff, Ne, fineS_iff]; omega)]; rfl)
    have hx : fineS x = true := by rw [fineS_iff]; omega
    refine ⟨k + 1, ⟨by omega, fun s hs => ?_⟩, by omega, ?_, ?_⟩
    · rw [List.take_add_one, hkx2, List.mem_append] at hs
      rcases hs with hs | hs
      · exact hk.2 s hs
      · obtain rfl : s = x := by simpa using hs
        exact hx
    · try simp only [List.cons_append, List.nil_append]
      (repeat (first | exact FrSub.nil | (apply FrSub.cons; exact rfl)))
    · try simp only [List.cons_append, List.nil_append]
      (repeat (first | exact HpSub.refl _ | (apply HpSub.consE; (repeat (first | exact P0 | apply P1)); exact rfl) | exact HpSub.nil))
  · have hkn : l.take k = l := List.take_of_length_le (by omega)
    ((all_goals refine goE0 ?_); (all_goals constructor); (any_goals exact trivial); all_goals intros)
    rw [show l.all fineS = true from List.all_eq_true.2 (fun s hs => hk.2 s (by rw [hkn]; exact hs))]
    rfl
theorem fine1 {w0 : World} {M : Ms} {H H' : Hp} {w : World} {g : Nat} {a b : Int} {tg : Tg} {cp : Nat} {q : Bool} (hq : fineS (a, b) = q) (h : Has w0 M H w) (p : Pick H g [.int .i64 a, .int .i64 b] tg H') :
    Calls Tryz.prog 122 #[.slice (some ⟨g, 0, none⟩) 1 cp] w fun e w' => e = .returned (.bool q) ∧ Ext w w' := by
  have := fine_calls (some ⟨g, 0, none⟩) 1 cp [(a, b)] w (Blk.rows (k := 2) (rows := [(a, b)].map spanCells) (h.blk _ p.mem).2 rfl (by simp [spanCells])) (by omega)
  simp only [List.all_cons, List.all_nil, Bool.and_true, hq] at this
  exact this
theorem fine2 {w0 : World} {M : Ms} {H H' : Hp} {w : World} {g : Nat} {a b a' b' : Int} {tg : Tg} {cp : Nat} {q : Bool} (hq : (fineS (a, b) && fineS (a', b')) = q) (h : Has w0 M H w) (p : Pick H g [.int .i64 a, .int .i64 b, .int .i64 a', .int .i64 b'] tg H') :
    Calls Tryz.prog 122 #[.slice (some ⟨g, 0, none⟩) 2 cp] w fun e w' => e = .returned (.bool q) ∧ Ext w w' := by
  have := fine_calls (some ⟨g, 0, none⟩) 2 cp [(a, b), (a', b')] w (Blk.rows (k := 2) (rows := [(a, b), (a', b')].map spanCells) (h.blk _ p.mem).2 rfl (by simp [spanCells])) (by omega)
  simp only [List.all_cons, List.all_nil, Bool.and_true, hq] at this
  exact this
theorem check_calls (a b : Int) (w : World) : Calls Tryz.prog 89 #[.agg #[.int .i64 a, .int .i64 b]] w fun e w' => e = .returned (.int .i64 (if fineS (a, b) then 0 else 10)) ∧ Ext w w' := by
  obtain ⟨q, hq⟩ : ∃ q, fineS (a, b) = q := ⟨_, rfl⟩
  rw [hq]
  refine enterQ (c := cx w 7) Tryz.func89 rfl rfl rfl rfl ?_
  ((all_goals refine goE0 ?_); (all_goals constructor); (any_goals exact trivial); all_goals intros)
  all_goals (cases q <;> first | rfl | simp_all)
/-- The root of a span: bounds, then the error. -/
noncomputable def rootV (a b : Int) : Int × Int × Int := if fineS (a, b) then (if a < 0 then (0, 0, 2) else (rt a, (if rt b * rt b = b then rt b else rt b + 1), 0)) else (0, 0, 10)
theorem isR_ex : ∀ (n : Nat), ∃ r, IsR (n : Int) r
  | 0 => ⟨0, by omega, by omega, by omega⟩
  | n + 1 => by
    obtain ⟨r, h1, h2, h3⟩ := isR_ex n
    by_cases h : (r + 1) * (r + 1) ≤ ((n + 1 : Nat) : Int)
    · refine ⟨r + 1, by omega, h, ?_⟩
      have : (r + 1 + 1) * (r + 1 + 1) = (r + 1) * (r + 1) + 2 * (r + 1) + 1 := by
        simp only [Int.mul_add, Int.add_mul, Int.mul_one, Int.one_mul]; omega
      omega
    · exact ⟨r, h1, by omega, by omega⟩
theorem rt_spec (n : Int) (h0 : 0 ≤ n) : IsR n (rt n) := by
  obtain ⟨r, hr⟩ := isR_ex n.toNat
  rw [Int.toNat_of_nonneg h0] at hr
  rw [hr.rt]
  exact hr
theorem boundRoot_calls (a b : Int) (w : World) : Calls Tryz.prog 118 #[.agg #[.int .i64 a, .int .i64 b]] w fun e w' => e = .returned (.tuple #[.agg #[.int .i64 (rootV a b).1, .int .i64 (rootV a b).2.1], .int .i64 (rootV a b).2.2]) ∧ Ext w w' := by
  obtain ⟨q, hq⟩ : ∃ q, fineS (a, b) = q := ⟨_, rfl⟩
  unfold rootV
  cases q with
  | false =>
    rw [hq]
    refine enterQ (c := cx w 36) Tryz.func118 rfl rfl rfl rfl ?_
    ((all_goals refine goE0 ?_); (all_goals constructor); (any_goals exact trivial); all_goals intros)
    all_goals rfl
  | true =>
    have hf := (fineS_iff _).1 hq
    simp only at hf
    rw [hq, if_pos rfl]
    by_cases ha : a < 0
    · rw [if_pos ha]
      refine enterQ (c := cx w 36) Tryz.func118 rfl rfl rfl rfl ?_
      ((all_goals refine goE0 ?_); (all_goals constructor); (any_goals exact trivial); all_goals intros)
      all_goals rfl
    · rw [if_neg ha]
      have hb := rt_spec b (by omega)
      have hbb : rt b ≤ 1048576 := by
        rcases Int.lt_or_le 1048576 (rt b) with h | h
        · have : 1048577 * 1048577 ≤ rt b * rt b := Int.mul_le_mul (by omega) (by omega) (by omega) (by omega)
          have := hb.2.1
          omega
        · exact h
      have hb0 : 0 ≤ rt b := hb.1
      have hmm : InR (rt b * rt b) := by
        have := Int.mul_nonneg hb0 hb0
        have := hb.2.1
        exact ⟨by omega, by omega⟩
      refine enterQ (c := cx w 36) Tryz.func118 rfl rfl rfl rfl ?_
      repeat' (first | ((with_reducible apply oq_id); first | (apply oq_fn; exact rfl; first | exact trivial | (refine ⟨?_, ?_⟩ <;> omega) | (refine ⟨?_, ?_, ?_⟩ <;> omega) | omega | skip) | ((with_reducible apply oq_load); exact rfl; exact rfl) | ((with_reducible apply oq_loadAgg); exact rfl; exact rfl) | ((with_reducible apply oq_call (k := 122) (hc := Tryz.call122)); exact rfl; exact rfl; exact fun D w1 hw1 => fine1 hq hw1 (by (repeat (first | exact P0 | apply P1)))) | ((with_reducible apply oq_call (k := 140) (hc := Tryz.call140)); exact rfl; exact rfl; exact fun D w1 hw1 => root_calls _ (by omega) (by omega) w1) | ((with_reducible apply oq_build); exact rfl; exact rfl; exact rfl)) | ((with_reducible apply tl_id); first | ((with_reducible apply tl_nil)) | ((with_reducible apply u_q); exact rfl; exact rfl; exact rfl; exact rfl) | ((with_reducible apply u_s0); exact rfl; exact rfl) | ((with_reducible apply u_s); exact rfl; exact rfl; exact rfl)) | ((with_reducible apply gx_id); first | ((with_reducible apply v_nil)) | ((with_reducible apply v_q); exact rfl; exact rfl; exact rfl)) | ((with_reducible apply os_id); first | ((with_reducible apply os_x); exact rfl) | ((with_reducible apply os_store); exact rfl; exact rfl; exact rfl; exact rfl) | ((with_reducible apply os_storeAgg); exact rfl; exact rfl; exact rfl; exact rfl; exact rfl)) | ((with_reducible apply ox_id); first | ((with_reducible apply ox_alloc); exact rfl; intro _) | ((with_reducible apply ox_boxAgg); exact rfl; intro _) | ((with_reducible apply ox_buildSlice2); exact rfl; exact rfl; exact rfl; exact rfl; exact rfl; exact rfl; intro _)) | ((with_reducible apply ai_id); first | ((with_reducible apply ai_x); exact rfl; exact rfl; exact rfl; exact rfl; exact rfl) | ((with_reducible apply ai_n0); exact rfl; exact rfl; exact rfl)) | ((with_reducible apply al_keep); focus (repeat (first | exact HpSub.refl _ | (apply HpSub.cons; (repeat (first | exact P0 | apply P1))) | exact HpSub.nil))) | ((with_reducible apply rd_id); first | (apply Rd.own; (repeat (first | exact P0 | apply P1)); exact rfl; done)) | ((with_reducible apply t_id); first | ((with_reducible apply t_seq)) | (apply t_region; kernel_rfl) | ((with_reducible apply t_condF); exact rfl) | ((with_reducible apply t_condD); exact rfl; all_goals first | (intro hp; try (exfalso; omega)) | skip) | ((with_reducible apply t_condN); exact rfl; all_goals first | (intro hp; try (exfalso; omega)) | skip) | ((with_reducible apply t_ret)) | ((with_reducible apply t_skip)) | ((with_reducible apply t_block))) | with_reducible apply q_thenN | with_reducible apply q_blockN | exact P0 | ((with_reducible apply P1)) | exact Rdn.zero | apply Rdn.succ | ((with_reducible apply Norm.nil); exact rfl) | ((with_reducible apply Norm.cons); exact rfl) | ((with_reducible apply end_ret)) | exact rvs_nil | ((with_reducible apply rvs_cons)) | ((with_reducible apply rv_tmp); exact rfl) | ((with_reducible apply rv_cellAgg); exact rfl; exact rfl) | (apply t_mix (id := 5) [0, 1, 2, 3, 4, 5, 6] 2 #[false, false, false, false, false, false, false, false, false]; kernel_rfl; kernel_rfl; exact rfl) | ((with_reducible apply al_id); first | (apply al_done; decide +kernel) | (apply al_one 7; decide +kernel) | (apply al_one 8; decide +kernel)) | exact Nat.le_of_ble_eq_true rfl)
      · rw [if_neg (by assumption)]; rfl
      · rw [if_pos (by assumption)]; rfl
theorem refRoot_calls (a b : Int) (w : World) : Calls Tryz.prog 126 #[.agg #[.int .i64 a, .int .i64 b]] w fun e w' => e = .returned (.tuple #[.agg #[.int .i64 (rootV a b).1, .int .i64 (rootV a b).2.1], .int .i64 (rootV a b).2.2]) ∧ Ext w w' := by
  obtain ⟨q, hq⟩ : ∃ q, fineS (a, b) = q := ⟨_, rfl⟩
  have HV : ∀ w1, Calls Tryz.prog 147 #[.agg #[.int .i64 a, .int .i64 b]] w1 fun e w' => e = .returned (.bool q) ∧ Ext w1 w' := fun w1 => hq ▸ valid_calls (a, b) w1
  unfold rootV
  rw [hq]
  cases q with
  | false =>
    refine enterQ (c := cx w 29) Tryz.func126 rfl rfl rfl rfl ?_
    ((all_goals refine goE0 ?_); (all_goals constructor); (any_goals exact trivial); all_goals intros)
    all_goals rfl
  | true =>
    have hf := (fineS_iff _).1 hq
    simp only at hf
    rw [if_pos rfl]
    by_cases ha : a < 0
    · rw [if_pos ha]
      refine enterQ (c := cx w 29) Tryz.func126 rfl rfl rfl rfl ?_
      ((all_goals refine goE0 ?_); (all_goals constructor); (any_goals exact trivial); all_goals intros)
      all_goals rfl
    · rw [if_neg ha]
      have hb := rt_spec b (by omega)
      have hbb : rt b ≤ 1048576 := by
        rcases Int.lt_or_le 1048576 (rt b) with h | h
        · have : 1048577 * 1048577 ≤ rt b * rt b := Int.mul_le_mul (by omega) (by omega) (by omega) (by omega)
          have := hb.2.1
          omega
        · exact h
      have hb0 : 0 ≤ rt b := hb.1
      have hb1 := hb.2.1
      have hmm : InR (rt b * rt b) := by
        have := Int.mul_nonneg hb0 hb0
        exact ⟨by omega, by omega⟩
      refine enterQ (c := cx w 29) Tryz.func126 rfl rfl rfl rfl ?_
      ((all_goals refine goE0 ?_); (all_goals constructor); (any_goals exact trivial); all_goals intros)
      · rw [if_neg (by omega)]; rfl
      · rw [if_pos (by omega)]; rfl
/-- The error of a wind that is asked about. -/
def windE (a b c d : Int) : Int := if fineS (a, b) && fineS (c, d) then (if allFrom (-2000) 2000 [a, b, c, d] then 0 else 2) else 10
theorem fromS4 {w0 : World} {M : Ms} {H H' : Hp} {w : World} {g : Nat} {a b c d lo hi : Int} {tg : Tg} {cp : Nat} {q : Bool} (hq : allFrom lo hi [a, b, c, d] = q) (h : Has w0 M H w) (p : Pick H g [.int .i64 a, .int .i64 b, .int .i64 c, .int .i64 d] tg H') :
    Calls Tryz.prog 120 #[.int .i64 lo, .int .i64 hi, .slice (some ⟨g, 0, none⟩) 4 cp] w fun e w' => e = .returned (.bool q) ∧ Ext w w' :=
  hq ▸ from_calls lo hi (some ⟨g, 0, none⟩) 4 cp [a, b, c, d] w (Blk.rows (k := 1) (rows := [a, b, c, d].map fun z => [Value.int .i64 z]) (h.blk _ p.mem).2 rfl (by simp)) (by omega)
theorem checkWind_calls (a b c d : Int) (w : World) : Calls Tryz.prog 153 #[.agg #[.int .i64 a, .int .i64 b, .int .i64 c, .int .i64 d]] w fun e w' => e = .returned (.int .i64 (windE a b c d)) ∧ Ext w w' := by
  obtain ⟨q1, h1⟩ : ∃ q, fineS (a, b) = q := ⟨_, rfl⟩
  obtain ⟨q2, h2⟩ : ∃ q, fineS (c, d) = q := ⟨_, rfl⟩
  obtain ⟨q3, h3⟩ : ∃ q, allFrom (-2000) 2000 [a, b, c, d] = q := ⟨_, rfl⟩
  have H1 := fun w1 => check_calls a b w1
  have H2 := fun w1 => check_calls c d w1
  rw [h1] at H1
  rw [h2] at H2
  unfold windE
  rw [h1, h2, h3]
  refine enterQ (c := cx w 35) Tryz.func153 rfl rfl rfl rfl ?_
  ((all_goals refine goE0 ?_); (all_goals constructor); (any_goals exact trivial); all_goals intros)
  apply t_loopK (ι := Nat) [1, 10, 20, 21, 22, 23, 24, 25, 26, 27, 28, 29, 30, 31, 32, 33, 34] (fun k => [(11, .int .i64 (k : Nat))]) (fun _ => []) (fun k => k ≤ 2 ∧ (1 ≤ k → q1 = true) ∧ (2 ≤ k → q2 = true)) (fun k => 2 - k) (0)
  (repeat (first | exact KeepF.nil | (apply KeepF.cons; exact rfl) | apply KeepF.skip))
  (repeat (first | exact FrSub.nil | (apply FrSub.cons; exact rfl)))
  (repeat (first | exact HpSub.refl _ | (apply HpSub.consE; (repeat (first | exact P0 | apply P1)); exact rfl) | exact HpSub.nil))
  · simp
  rintro k ⟨k0, k1, k2⟩
  try simp only [List.cons_append, List.nil_append]
  have hk : k = 0 ∨ k = 1 ∨ k = 2 := by omega
  rcases hk with rfl | rfl | rfl
  · cases q1 with
    | false =>
      simp only [Bool.false_eq_true, if_false] at H1
      ((all_goals refine goE0 ?_); (all_goals constructor); (any_goals exact trivial); all_goals intros)
      rfl
    | true =>
      simp only [if_true] at H1
      ((all_goals refine goE0 ?_); (all_goals constructor); (any_goals exact trivial); all_goals intros)
      refine ⟨1, ⟨by omega, fun _ => rfl, fun h => by omega⟩, by omega, ?_, ?_⟩
      · try simp only [List.cons_append, List.nil_append]
        (repeat (first | exact FrSub.nil | (apply FrSub.cons; exact rfl)))
      · try simp only [List.cons_append, List.nil_append]
        (repeat (first | exact HpSub.refl _ | (apply HpSub.consE; (repeat (first | exact P0 | apply P1)); exact rfl) | exact HpSub.nil))
  · obtain rfl : q1 = true := k1 (by omega)
    cases q2 with
    | false =>
      simp only [Bool.false_eq_true, if_false] at H2
      ((all_goals refine goE0 ?_); (all_goals constructor); (any_goals exact trivial); all_goals intros)
      rfl
    | true =>
      simp only [if_true] at H2
      repeat' (first | ((with_reducible apply oq_id); first | (apply oq_fn; exact rfl; first | exact trivial | (refine ⟨?_, ?_⟩ <;> omega) | (refine ⟨?_, ?_, ?_⟩ <;> omega) | omega | skip) | ((with_reducible apply oq_loadAgg); exact rfl; exact rfl) | ((with_reducible apply oq_call (k := 89) (hc := Tryz.call89)); exact rfl; exact rfl; exact fun D w1 hw1 => H2 w1) | ((with_reducible apply oq_indexAgg); exact rfl; exact rfl; exact rfl; exact rfl)) | ((with_reducible apply tl_id); first | ((with_reducible apply tl_nil)) | ((with_reducible apply u_q); exact rfl; exact rfl; exact rfl; exact rfl) | ((with_reducible apply u_s0); exact rfl; exact rfl) | ((with_reducible apply u_s); exact rfl; exact rfl; exact rfl)) | ((with_reducible apply os_id); first | ((with_reducible apply os_x); exact rfl) | ((with_reducible apply os_storeAgg); exact rfl; exact rfl; exact rfl; exact rfl; exact rfl)) | ((with_reducible apply ox_id); first | ((with_reducible apply ox_alloc); exact rfl; intro _)) | ((with_reducible apply rd_id); first | (apply Rd.own; (repeat (first | exact P0 | apply P1)); exact rfl; done)) | ((with_reducible apply t_id); first | ((with_reducible apply t_seq)) | (apply t_region; kernel_rfl) | ((with_reducible apply t_condT); exact rfl) | ((with_reducible apply t_condF); exact rfl) | ((with_reducible apply t_skip)) | ((with_reducible apply t_block))) | with_reducible apply q_thenN | with_reducible apply q_blockN | exact P0 | exact Rdn.zero | apply Rdn.succ | ((with_reducible apply Norm.nil); exact rfl) | ((with_reducible apply Norm.cons); exact rfl) | exact Nat.le_of_ble_eq_true rfl | omega)
      refine ⟨2, ⟨by omega, fun _ => rfl, fun _ => rfl⟩, by omega, ?_, ?_⟩
      · try simp only [List.cons_append, List.nil_append]
        (repeat (first | exact FrSub.nil | (apply FrSub.cons; exact rfl)))
      · try simp only [List.cons_append, List.nil_append]
        (repeat (first | exact HpSub.refl _ | (apply HpSub.consE; (repeat (first | exact P0 | apply P1)); exact rfl) | exact HpSub.nil))
  · obtain rfl : q1 = true := k1 (by omega)
    obtain rfl : q2 = true := k2 (by omega)
    ((all_goals refine goE0 ?_); (all_goals constructor); (any_goals exact trivial); all_goals intros)
    all_goals (cases q3 <;> first | rfl | simp_all)
theorem blows_calls (a b c d : Int) (w : World) : Calls Tryz.prog 169 #[.agg #[.int .i64 a, .int .i64 b, .int .i64 c, .int .i64 d]] w fun e w' => e = .returned (.int .i64 (windE a b c d)) ∧ Ext w w' := by
  obtain ⟨q1, h1⟩ : ∃ q, fineS (a, b) = q := ⟨_, rfl⟩
  obtain ⟨q2, h2⟩ : ∃ q, fineS (c, d) = q := ⟨_, rfl⟩
  have H1 : ∀ w1, Calls Tryz.prog 147 #[.agg #[.int .i64 a, .int .i64 b]] w1 fun e w' => e = .returned (.bool q1) ∧ Ext w1 w' := fun w1 => h1 ▸ valid_calls (a, b) w1
  have H2 : ∀ w1, Calls Tryz.prog 147 #[.agg #[.int .i64 c, .int .i64 d]] w1 fun e w' => e = .returned (.bool q2) ∧ Ext w1 w' := fun w1 => h2 ▸ valid_calls (c, d) w1
  obtain ⟨q3, h3⟩ : ∃ q, insideB a b (-2000) 2000 = q := ⟨_, rfl⟩
  obtain ⟨q4, h4⟩ : ∃ q, insideB c d (-2000) 2000 = q := ⟨_, rfl⟩
  have H3 := fun w1 => in_calls a b (-2000) 2000 w1
  have H4 := fun w1 => in_calls c d (-2000) 2000 w1
  rw [h3] at H3
  rw [h4] at H4
  have hE : windE a b c d = if q1 && q2 then (if q3 && q4 then 0 else 2) else 10 := by
    unfold windE
    rw [h1, h2]
    cases q1 <;> cases q2 <;> first | rfl | skip
    have f1 := (fineS_iff _).1 h1
    have f2 := (fineS_iff _).1 h2
    simp only at f1 f2
    have : allFrom (-2000) 2000 [a, b, c, d] = (q3 && q4) := by
      rw [← h3, ← h4, Bool.eq_iff_iff]
      unfold allFrom insideB
      simp
      omega
    rw [this]
  rw [hE]
  refine enterQ (c := cx w 23) Tryz.func169 rfl rfl rfl rfl ?_
  ((all_goals refine goE0 ?_); (all_goals constructor); (any_goals exact trivial); all_goals intros)
  all_goals (cases q1 <;> cases q2 <;> cases q3 <;> cases q4 <;> first | rfl | simp_all)
def nearV (a b : Int) : Int := max (max a (-b)) 0
def farV (a b : Int) : Int := max b (-a)
theorem windE_zero {a b c d : Int} (h : windE a b c d = 0) : a ≤ b ∧ c ≤ d ∧ -2000 ≤ a ∧ b ≤ 2000 ∧ -2000 ≤ c ∧ d ≤ 2000 := by
  unfold windE at h
  split at h
  · rename_i h1
    simp only [Bool.and_eq_true, fineS_iff] at h1
    split at h
    · rename_i h2
      unfold allFrom at h2
      simp at h2
      omega
    · omega
  · omega
/-- How fast a wind is: bounds, then the error. -/
noncomputable def speedV (a b c d : Int) : Int × Int × Int := if windE a b c d = 0 then rootV (nearV a b * nearV a b + nearV c d * nearV c d) (farV a b * farV a b + farV c d * farV c d) else (0, 0, windE a b c d)
theorem mul64_calls (x y : Int) (h0 : 0 ≤ x) (h1 : x < 4294967296) (h2 : 0 ≤ y) (h3 : y < 4294967296) (w : World) : Calls Tryz.prog 160 #[.int .u64 x, .int .u64 y] w fun e w' => e = .returned (.tuple #[.int .u64 0, .int .u64 (x * y)]) ∧ Ext w w' := by
  have hp : 0 ≤ x * y ∧ x * y ≤ 4294967295 * 4294967295 := ⟨Int.mul_nonneg h0 h2, Int.mul_le_mul (by omega) (by omega) h2 (by omega)⟩
  have hxy : InU (x * y) := ⟨by omega, by omega⟩
  refine enterQ (c := cx w 51) Tryz.func160 rfl rfl rfl rfl ?_
  ((all_goals refine goE0 ?_); (all_goals constructor); (any_goals exact trivial); all_goals intros)
  all_goals rfl
theorem size_calls (n : Int) (h0 : -9223372036854775807 ≤ n) (h1 : n ≤ 9223372036854775807) (w : World) : Calls Tryz.prog 161 #[.int .i64 n] w fun e w' => e = .returned (.int .u64 (max n (-n))) ∧ Ext w w' := by
  refine enterQ (c := cx w 8) Tryz.func161 rfl rfl rfl rfl ?_
  ((all_goals refine goE0 ?_); (all_goals constructor); (any_goals exact trivial); all_goals intros)
  all_goals rfl
theorem div64_calls (m y : Int) (h0 : 0 ≤ m) (h1 : m < 18446744073709551616) (h2 : 0 < y) (w : World) : Calls Tryz.prog 162 #[.int .u64 0, .int .u64 m, .int .u64 y] w fun e w' => e = .returned (.tuple #[.int .u64 (m.tdiv y), .int .u64 (m.tmod y)]) ∧ Ext w w' := by
  have hq : InU (m.tdiv y) := by
    rw [Int.tdiv_eq_ediv_of_nonneg h0]
    have := Int.ediv_le_self y h0
    have := Int.ediv_nonneg h0 (Int.le_of_lt h2)
    exact ⟨by omega, by omega⟩
  refine enterQ (c := cx w 135) Tryz.func162 rfl rfl rfl rfl ?_
  ((all_goals refine goE0 ?_); (all_goals constructor); (any_goals exact trivial); all_goals intros)
  all_goals rfl
theorem oq_neqB {w : World} {N : Nat} {F : Fr} {H : Hp} {M : List Nat} {d : Option Tmp} {ty t' : TypeId} {pos : String} {af : Array Edge} {g : Option (Nat × Bool)} {x y : Operand} {a b : Bool}
    (hx : ev F x = some (.bool a)) (hy : ev F y = some (.bool b)) : OQ (cxM M w N) ⟨d, .binOp .neq 4 x y t', ty, pos, af, g⟩ F H (.bool (!(a == b))) := .of fun D act w ha _ => by
  have u4 := Tryz.underlying4
  have e : ∀ w, (binOp .neq 4 (.bool a) (.bool b)).run Tryz.prog w = .ok (.bool (!(a == b))) w := fun w => by
    have e0 : (Op.equalIn 10000 4 (.bool a) (.bool b)).run Tryz.prog w = .ok (a == b) w := run_equalIn_bool' (P := Tryz.prog) w 9999 4 a b u4
    simp only [binOp, Op.equal, Op.maxDepth, Sem.run_bind, e0, Result.andThen, Sem.run_pure]
  have e1 : ∀ w, (eqGuard .neq 4 x y (.bool a) (.bool b)).run Tryz.prog w = .ok () w := fun w => by simp [eqGuard, go_sem]
  simp only [execOp, ha.ev hx, ha.ev hy, Sem.run_bind, e, e1, Result.andThen, Sem.run_pure]
theorem share1_calls (x y : Int) (hx : -1000000 ≤ x ∧ x ≤ 1000000) (hy : -1000000 ≤ y ∧ y ≤ 1000000) (w : World) : Calls Tryz.prog 141 #[.int .i64 x, .int .i64 y, .int .i64 1] w fun e w' => e = .returned (.agg #[.int .i64 (x * y), .int .i64 (x * y)]) ∧ Ext w w' := by
  have hp : 0 ≤ max x (-x) * max y (-y) ∧ max x (-x) * max y (-y) ≤ 1000000 * 1000000 := ⟨Int.mul_nonneg (by omega) (by omega), Int.mul_le_mul (by omega) (by omega) (by omega) (by omega)⟩
  have D1 := fun w1 => div64_calls (max x (-x) * max y (-y)) 1 (by omega) (by omega) (by omega) w1
  rw [Int.tdiv_one, Int.tmod_one] at D1
  refine enterQ (c := cx w 64) Tryz.func141 rfl rfl rfl rfl ?_
  ((all_goals refine goE0 ?_); (all_goals constructor); (any_goals exact trivial); all_goals intros)
  · have hs : max x (-x) * max y (-y) = -(x * y) := by
      rcases Int.lt_or_le x 0 with h | h <;> rcases Int.lt_or_le y 0 with h' | h'
      · simp [h, h'] at *
      · rw [Int.max_eq_right (by omega), Int.max_eq_left (by omega), Int.neg_mul]
      · rw [Int.max_eq_left (by omega), Int.max_eq_right (by omega), Int.mul_neg]
      · have h1 : ¬ x < 0 := by omega
        have h2 : ¬ y < 0 := by omega
        simp [h1, h2] at *
    rw [hs, Int.neg_neg]; rfl
  · have hs : max x (-x) * max y (-y) = x * y := by
      rcases Int.lt_or_le x 0 with h | h <;> rcases Int.lt_or_le y 0 with h' | h'
      · rw [Int.max_eq_right (by omega), Int.max_eq_right (by omega), Int.neg_mul_neg]
      · have h2 : ¬ y < 0 := by omega
        simp [h, h2] at *
      · have h1 : ¬ x < 0 := by omega
        simp [h1, h'] at *
      · rw [Int.max_eq_left (by omega), Int.max_eq_left (by omega)]
    rw [hs]; rfl
end Go.Proofs.YtcjkndjjbjoehaaGreat
namespace Go.Proofs.YtcjkndjjbjoehaaGreat
open Go.RowKit
section
variable {c : Cx} {F : Fr} {H : Hp} {d : Option Tmp} {ty t : TypeId} {pos : String} {af : Array Edge} {g : Option (Nat × Bool)} {x y : Operand}
theorem oq_sliceL {a0 a1 : Bool} {s0 s1 e b o len cap l : Nat} {z0 z1 : List Value} {k1 : TyK} {k : IntKind} {li : Int} (ht : tyAt c.tys t = some ⟨a0, s0, z0, .slice e⟩) (he : tyAt c.tys e = some ⟨a1, s1, z1, k1⟩)
    (hx : ev F x = some (.slice (some ⟨b, o, none⟩) len cap)) (hy : ev F y = some (.int k li)) (hl : li = l) (h1 : l ≤ len) (h2 : cap ≠ l) :
    OQ c ⟨d, .slice t x (some y) none none, ty, pos, af, g⟩ F H (.slice (some ⟨b, o + l * s1, none⟩) (len - l) (cap - l)) := .of fun D a w ha _ => by
  subst hl
  have hk := (c.ty ht).kind w
  have hs := (c.ty he).size w
  simp only [execOp, Option.map, ha.ev hx, ha.ev hy]
  simp [Instr.sliceAt, Instr.slice, Instr.sliceBounds, Instr.sliceBound, asIntOf, Sem.run_bind, hk, hs, h1, h2, Result.andThen, go_sem, add_eq]
theorem oq_sliceArr {a0 a1 : Bool} {s0 s1 n e b o : Nat} {z0 z1 : List Value} {k1 : TyK} (ht : tyAt c.tys t = some ⟨a0, s0, z0, .array n e⟩) (he : tyAt c.tys e = some ⟨a1, s1, z1, k1⟩)
    (hx : ev F x = some (.pointer (some ⟨b, o, none⟩))) :
    OQ c ⟨d, .slice t x none none none, ty, pos, af, g⟩ F H (.slice (some ⟨b, o, none⟩) n n) := .of fun D a w ha _ => by
  have hk := (c.ty ht).kind w
  have hs := (c.ty he).size w
  simp only [execOp, Option.map, ha.ev hx]
  simp [Instr.sliceAt, Instr.sureAddr, Instr.sliceBounds, Instr.sliceBound, asIntOf, Sem.run_bind, hk, hs, Result.andThen, go_sem, add_eq]
end
end Go.Proofs.YtcjkndjjbjoehaaGreat
namespace Go.Proofs.YtcjkndjjbjoehaaGreat
open Go.RowKit
attribute [local irreducible] OQ OS OX Rd T TL GX GL AL AI RV wpG SAny Calls
theorem sized_calls (a b : Int) (ha : -1099511627776 ≤ a) (hb : b ≤ 1099511627776) (w : World) : Calls Tryz.prog 142 #[.agg #[.int .i64 a, .int .i64 b]] w fun e w' => e = .returned (.tuple #[.agg #[.int .i64 a, .int .i64 b], .int .i64 0]) ∧ Ext w w' := by
  refine enterQ (c := cx w 14) Tryz.func142 rfl rfl rfl rfl ?_
  ((all_goals refine goE0 ?_); (all_goals constructor); (any_goals exact trivial); all_goals intros)
  all_goals rfl
theorem add_calls (a b c d : Int) (h : -1000000000 ≤ a ∧ a ≤ b ∧ b ≤ 1000000000) (k : -1000000000 ≤ c ∧ c ≤ d ∧ d ≤ 1000000000) (w : World) : Calls Tryz.prog 155 #[.agg #[.int .i64 a, .int .i64 b], .agg #[.int .i64 c, .int .i64 d]] w fun e w' => e = .returned (.tuple #[.agg #[.int .i64 (a + c), .int .i64 (b + d)], .int .i64 0]) ∧ Ext w w' := by
  have hq : (fineS (a, b) && fineS (c, d)) = true := by rw [Bool.and_eq_true, fineS_iff, fineS_iff]; simp only; omega
  refine enterQ (c := cx w 26) Tryz.func155 rfl rfl rfl rfl ?_
  ((all_goals refine goE0 ?_); (all_goals constructor); (any_goals exact trivial); all_goals intros)
  all_goals rfl
def hullS (a b : Int × Int) : Int × Int := (min a.1 b.1, max a.2 b.2)
def hullA (s : Int × Int) (l : List (Int × Int)) : Int × Int := l.foldl hullS s
theorem hullA_take (s : Int × Int) (l : List (Int × Int)) (k : Nat) (x : Int × Int) (h : l[k]? = some x) : hullA s (l.take (k + 1)) = hullS (hullA s (l.take k)) x := by
  unfold hullA
  rw [List.take_add_one, h, List.foldl_append]
  rfl
theorem hullA_one {s : Int × Int} {l : List (Int × Int)} (h : l[0]? = some s) : hullA s (l.take (0 + 1)) = s := by
  rw [hullA_take s l 0 s h]
  simp [hullA, hullS]
theorem around_calls (A : Option Addr) (n cp : Nat) (s : Int × Int) (l : List (Int × Int)) (w : World) (hr : RdS w 2 A n (l.map spanCells)) (hn : n ≤ 1000000) (h0 : l[0]? = some s) (hcp : 1 < cp) (hn1 : 1 ≤ n) :
    Calls Tryz.prog 143 #[.slice A n cp] w fun e w' => e = .returned (.agg #[.int .i64 (hullA s l).1, .int .i64 (hullA s l).2]) ∧ Ext w w' := by
  have hl := hr.len
  simp only [List.length_map] at hl
  obtain ⟨b0, o, x, rfl, hb, hkx, c0, c1⟩ := span_read hr (show 0 < n by omega)
  obtain rfl : s = x := by rw [hkx] at h0; exact (Option.some.inj h0).symm
  refine enterQ (c := cx w 30) Tryz.func143 rfl rfl rfl rfl ?_
  ((all_goals refine goE0 ?_); (all_goals constructor); (any_goals exact trivial); all_goals intros)
  rename_i b2 b3
  apply t_loopK (ι := Nat) [2, 3, 10, 11, 29] (fun k => [(12, .int .i64 (k : Nat))]) (fun k => [(b3, [.int .i64 (hullA s (l.take (k + 1))).1, .int .i64 (hullA s (l.take (k + 1))).2], some (27, 2, 1))]) (fun k => k ≤ n - 1) (fun k => n - 1 - k) (0)
  (repeat (first | exact KeepF.nil | (apply KeepF.cons; exact rfl) | apply KeepF.skip))
  (repeat (first | exact FrSub.nil | (apply FrSub.cons; exact rfl)))
  (repeat (first | exact HpSub.refl _ | (apply HpSub.consE; (repeat (first | exact P0 | apply P1)); first | exact rfl | ((rw [hullA_one h0]))) | exact HpSub.nil))
  · omega
  intro k hk
  try simp only [List.cons_append, List.nil_append]
  clear c0 c1
  by_cases hlt : k < n - 1
  · obtain ⟨b1, o1, x, hA, _, hkx2, c0, c1⟩ := span_read hr (show k + 1 < n by omega)
    obtain ⟨rfl, rfl⟩ : b1 = b0 ∧ o1 = o := by simpa using hA.symm
    rw [show o1 + (k + 1) * 2 = o1 + 1 * 2 + k * 2 by omega] at c0 c1
    ((all_goals refine goE0 ?_); (all_goals constructor); (any_goals exact trivial); all_goals intros)
    all_goals
      refine ⟨k + 1, by omega, by omega, ?_, ?_⟩
      · try simp only [List.cons_append, List.nil_append]
        (repeat (first | exact FrSub.nil | (apply FrSub.cons; exact rfl)))
      · try simp only [List.cons_append, List.nil_append]
        (repeat (first | exact HpSub.refl _ | (apply HpSub.consE; (repeat (first | exact P0 | apply P1)); first | exact rfl | (rw [hullA_take _ _ _ _ hkx2]; rfl)) | exact HpSub.nil))
  · have hkn : l.take (k + 1) = l := List.take_of_length_le (by omega)
    ((all_goals refine goE0 ?_); (all_goals constructor); (any_goals exact trivial); all_goals intros)
    rw [hkn]
    rfl
def ShP (n q k : Int) : Prop := (0 ≤ n ∧ (k ≤ 0 ∨ k * k * q ≤ n * n)) ∨ (n < 0 ∧ k < 0 ∧ n * n ≤ k * k * q)
theorem sq_mono {j k : Int} (h0 : 0 ≤ j) (h : j ≤ k) : j * j ≤ k * k := Int.mul_le_mul h h h0 (by omega)
theorem sq_neg (k : Int) : k * k = (-k) * (-k) := by rw [Int.neg_mul_neg]
theorem ShP.mono {n q j k : Int} (hq : 0 < q) (h : ShP n q k) (hj : j ≤ k) : ShP n q j := by
  rcases h with ⟨h0, h1⟩ | ⟨h0, h1, h2⟩
  · refine .inl ⟨h0, ?_⟩
    by_cases hj0 : j ≤ 0
    · exact .inl hj0
    · rcases h1 with h1 | h1
      · omega
      · exact .inr (Int.le_trans (Int.mul_le_mul_of_nonneg_right (sq_mono (by omega) hj) (by omega)) h1)
  · refine .inr ⟨h0, by omega, Int.le_trans h2 (Int.mul_le_mul_of_nonneg_right ?_ (by omega))⟩
    rw [sq_neg j, sq_neg k]
    exact sq_mono (by omega) (by omega)
/-- r is n divided by the root of q, rounded down. -/
def IsSh (n q r : Int) : Prop := ShP n q r ∧ ¬ ShP n q (r + 1)
theorem IsSh.uniq {n q r s : Int} (hq : 0 < q) (h : IsSh n q r) (k : IsSh n q s) : r = s := by
  rcases Int.lt_trichotomy r s with h1 | h1 | h1
  · exact absurd (k.1.mono hq (by omega)) h.2
  · exact h1
  · exact absurd (h.1.mono hq (by omega)) k.2
noncomputable def shV (n q : Int) : Int := open Classical in if h : ∃ r, IsSh n q r then Classical.choose h else 0
theorem IsSh.val {n q r : Int} (hq : 0 < q) (h : IsSh n q r) : shV n q = r := by
  have hx : ∃ r, IsSh n q r := ⟨r, h⟩
  unfold shV
  rw [dif_pos hx]
  exact (Classical.choose_spec hx).uniq hq h
theorem part_facts {n q k : Int} (hq : 0 < q) (h : IsR ((n * n).tdiv q) k) : k * k * q ≤ n * n ∧ n * n < (k + 1) * (k + 1) * q := by
  have hn : 0 ≤ n * n := by
    rcases Int.le_total 0 n with h | h
    · exact Int.mul_nonneg h h
    · rw [sq_neg]; exact Int.mul_nonneg (by omega) (by omega)
  rw [Int.tdiv_eq_ediv_of_nonneg hn] at h
  have h1 := Int.ediv_mul_le (n * n) (Int.ne_of_gt hq)
  have h2 := Int.lt_ediv_add_one_mul_self (n * n) hq
  refine ⟨Int.le_trans (Int.mul_le_mul_of_nonneg_right h.2.1 (by omega)) h1, Int.lt_of_lt_of_le h2 (Int.mul_le_mul_of_nonneg_right ?_ (by omega))⟩
  have := h.2.2
  omega
theorem isSh_pos {n q k : Int} (hn : 0 ≤ n) (h0 : 0 ≤ k) (h1 : k * k * q ≤ n * n) (h2 : n * n < (k + 1) * (k + 1) * q) : IsSh n q k := by
  refine ⟨.inl ⟨hn, .inr h1⟩, ?_⟩
  rintro (⟨_, h | h⟩ | ⟨h, _⟩) <;> omega
theorem isSh_neg1 {n q k : Int} (hn : n < 0) (h0 : 0 ≤ k) (h1 : k * k * q < n * n) (h2 : n * n < (k + 1) * (k + 1) * q) : IsSh n q (-(k + 1)) := by
  refine ⟨.inr ⟨hn, by omega, ?_⟩, ?_⟩
  · rw [← sq_neg]; omega
  · rintro (⟨h, _⟩ | ⟨_, h, h3⟩)
    · omega
    · rw [show -(k + 1) + 1 = -k by omega, ← sq_neg] at h3
      omega
theorem isSh_neg0 {n q k : Int} (hq : 0 < q) (hn : n < 0) (h0 : 0 ≤ k) (h1 : ¬ k * k * q < n * n) (h2 : k * k * q ≤ n * n) : IsSh n q (-k) := by
  have hnn : 0 < n * n := by rw [sq_neg]; exact Int.mul_pos (by omega) (by omega)
  have hk : 0 < k := by
    rcases Int.lt_or_le 0 k with h | h
    · exact h
    · obtain rfl : k = 0 := by omega
      simp at h1; omega
  refine ⟨.inr ⟨hn, by omega, ?_⟩, ?_⟩
  · rw [← sq_neg]; omega
  · rintro (⟨h, _⟩ | ⟨_, h, h3⟩)
    · omega
    · rw [show -k + 1 = -(k - 1) by omega, ← sq_neg] at h3
      have h4 : (k - 1) * (k - 1) < k * k := by
        rw [Int.sub_mul, Int.mul_sub]; omega
      have := Int.mul_lt_mul_of_pos_right h4 hq
      omega
theorem mul_abs {x y a b : Int} (hx : -a ≤ x ∧ x ≤ a) (hy : -b ≤ y ∧ y ≤ b) : -(a * b) ≤ x * y ∧ x * y ≤ a * b := by
  have key : ∀ {x y : Int}, 0 ≤ x → x ≤ a → -b ≤ y ∧ y ≤ b → -(a * b) ≤ x * y ∧ x * y ≤ a * b := fun {x y} h0 h1 hy => by
    have e : ∀ {z : Int}, 0 ≤ z → z ≤ b → 0 ≤ x * z ∧ x * z ≤ a * b := fun hz hb => ⟨Int.mul_nonneg h0 hz, Int.mul_le_mul h1 hb hz (by omega)⟩
    rcases Int.le_total 0 y with h | h
    · have := e h hy.2; omega
    · have := e (z := -y) (by omega) (by omega)
      rw [Int.mul_neg] at this; omega
  rcases Int.le_total 0 x with h | h
  · exact key h hx.2 hy
  · have := key (x := -x) (by omega) (by omega) hy
    rw [Int.neg_mul] at this; omega
theorem share_calls (n q : Int) (hq : 1 ≤ q) (hq1 : q ≤ 200000000) (h8 : n * n ≤ 8000000 * q) (w : World) : Calls Tryz.prog 156 #[.int .i64 n, .int .i64 q] w fun e w' => e = .returned (.int .i64 (shV n q)) ∧ Ext w w' := by
  have hnn : InR (n * n) := by
    have : 0 ≤ n * n := by
      rcases Int.le_total 0 n with h | h
      · exact Int.mul_nonneg h h
      · rw [sq_neg]; exact Int.mul_nonneg (by omega) (by omega)
    exact ⟨by omega, by omega⟩
  refine enterQ (c := cx w 55) Tryz.func156 rfl rfl rfl rfl ?_
  ((all_goals refine goE0 ?_); (all_goals constructor); (any_goals exact trivial); all_goals intros)
  apply t_loopK (ι := (Int × Int)) [0, 1, 4, 54] (fun (i : Int × Int) => [(5, .int .i64 i.1), (6, .int .i64 i.2)]) (fun _ => []) (fun i => -4000 ≤ i.1 ∧ i.1 < i.2 ∧ i.2 ≤ 4000 ∧ ShP n q i.1 ∧ ¬ ShP n q i.2) (fun i => (i.2 - i.1).toNat) ((-4000, 4000))
  (repeat (first | exact KeepF.nil | (apply KeepF.cons; exact rfl) | apply KeepF.skip))
  (repeat (first | exact FrSub.nil | (apply FrSub.cons; exact rfl)))
  (repeat (first | exact HpSub.refl _ | (apply HpSub.consE; (repeat (first | exact P0 | apply P1)); exact rfl) | exact HpSub.nil))
  · simp only; unfold ShP; omega
  rintro ⟨a, b⟩ ⟨i0, i1, i2, i3, i4⟩
  simp only at i0 i1 i2 i3 i4
  obtain ⟨m, hm⟩ : ∃ m, m = (a + b).tdiv 2 := ⟨_, rfl⟩
  have hm0 : a ≤ m ∧ m ≤ b ∧ (1 < b - a → a < m ∧ m < b) := by
    rcases Int.le_total 0 (a + b) with h | h
    · rw [Int.tdiv_eq_ediv_of_nonneg h] at hm; omega
    · have : (a + b).tdiv 2 = -((-(a + b)).tdiv 2) := by rw [Int.neg_tdiv, Int.neg_neg]
      rw [this, Int.tdiv_eq_ediv_of_nonneg (by omega)] at hm; omega
  have h1 := mul_abs (x := m) (y := m) (a := 4000) (b := 4000) (by omega) (by omega)
  have h2 := mul_abs (x := m * m) (y := q) (a := 16000000) (b := 200000000) (by omega) (by omega)
  have r1 : InR (m * m) := ⟨by omega, by omega⟩
  have r2 : InR (m * m * q) := ⟨by omega, by omega⟩
  rw [hm] at r1 r2
  have r3 : InR ((a + b).tdiv 2) := by rw [← hm]; exact ⟨by omega, by omega⟩
  dsimp only
  repeat' (first | ((with_reducible apply oq_id); first | (apply oq_fn; exact rfl; first | exact trivial | (refine ⟨?_, ?_⟩ <;> omega) | (refine ⟨?_, ?_, ?_⟩ <;> omega) | omega | skip)) | ((with_reducible apply tl_id); first | ((with_reducible apply tl_nil)) | ((with_reducible apply u_q); exact rfl; exact rfl; exact rfl; exact rfl) | ((with_reducible apply u_skip); exact rfl; exact rfl; exact rfl) | ((with_reducible apply u_splitD); exact rfl; exact rfl; all_goals first | (intro hp; try (exfalso; omega)) | skip)) | ((with_reducible apply t_id); first | ((with_reducible apply t_seq)) | (apply t_region; kernel_rfl) | ((with_reducible apply t_condF); exact rfl) | ((with_reducible apply t_condD); exact rfl; all_goals first | (intro hp; try (exfalso; omega)) | skip) | ((with_reducible apply t_ret)) | ((with_reducible apply t_skip)) | ((with_reducible apply t_exit)) | ((with_reducible apply t_block))) | with_reducible apply q_thenN | with_reducible apply q_blockN | with_reducible apply q_thenE | ((with_reducible apply q_blockE); exact rfl) | ((with_reducible apply end_ret)) | exact rvs_nil | ((with_reducible apply rvs_cons)) | ((with_reducible apply rv_tmp); exact rfl))
  all_goals try rw [← hm] at *
  all_goals first
    | (refine ⟨(m, b), ⟨by simp only; omega, by simp only; omega, i2, by simp only; unfold ShP; omega, i4⟩, by simp only; omega, ?_, ?_⟩ <;> (repeat' (first | exact FrSub.nil | (apply FrSub.cons; exact rfl) | exact HpSub.refl _)))
    | (refine ⟨(a, m), ⟨i0, by simp only; omega, by simp only; omega, i3, by simp only; unfold ShP; omega⟩, by simp only; omega, ?_, ?_⟩ <;> (repeat' (first | exact FrSub.nil | (apply FrSub.cons; exact rfl) | exact HpSub.refl _)))
    | (obtain rfl : b = a + 1 := by omega
       rw [IsSh.val (by omega) ⟨i3, i4⟩]; rfl)
theorem part_calls (n q : Int) (hq : 1 ≤ q) (hq1 : q ≤ 200000000) (h8 : n * n ≤ 8000000 * q) (w : World) : Calls Tryz.prog 170 #[.int .i64 n, .int .i64 q] w fun e w' => e = .returned (.int .i64 (shV n q)) ∧ Ext w w' := by
  have hn0 : 0 ≤ n * n := by
    rcases Int.le_total 0 n with h | h
    · exact Int.mul_nonneg h h
    · rw [sq_neg]; exact Int.mul_nonneg (by omega) (by omega)
  have hnn : InR (n * n) := ⟨by omega, by omega⟩
  have hd : (n * n).tdiv q = n * n / q := Int.tdiv_eq_ediv_of_nonneg hn0
  have hd0 : 0 ≤ (n * n).tdiv q := by rw [hd]; exact Int.ediv_nonneg hn0 (by omega)
  have hd1 : (n * n).tdiv q ≤ 8000000 := by rw [hd]; exact Int.ediv_le_of_le_mul (by omega) h8
  have hk := rt_spec ((n * n).tdiv q) hd0
  obtain ⟨k, ek⟩ : ∃ k, k = rt ((n * n).tdiv q) := ⟨_, rfl⟩
  rw [← ek] at hk
  obtain ⟨f1, f2⟩ := part_facts (by omega) hk
  have hk0 := hk.1
  have hk1 : k ≤ 3000 := by
    rcases Int.lt_or_le 3000 k with h | h
    · have := sq_mono (j := 3001) (k := k) (by omega) (by omega)
      have := hk.2.1; omega
    · exact h
  have g1 := mul_abs (x := k) (y := k) (a := 3000) (b := 3000) (by omega) (by omega)
  have g2 := mul_abs (x := k * k) (y := q) (a := 9000000) (b := 200000000) (by omega) (by omega)
  have r1 : InR (k * k) := ⟨by omega, by omega⟩
  have r2 : InR (k * k * q) := ⟨by omega, by omega⟩
  have r3 : InR ((n * n).tdiv q) := ⟨by omega, by omega⟩
  have r4 : InR (k + 1) := ⟨by omega, by omega⟩
  have r5 : InR (-k) := ⟨by omega, by omega⟩
  have r6 : InR (-(k + 1)) := ⟨by omega, by omega⟩
  have hS := fun w1 => sqrt_calls ((n * n).tdiv q) hd0 (by omega) w1
  rw [← ek] at hS
  refine enterQ (c := cx w 28) Tryz.func170 rfl rfl rfl rfl ?_
  repeat' (first | ((with_reducible apply oq_id); first | (apply oq_fn; exact rfl; first | exact trivial | (refine ⟨?_, ?_⟩ <;> omega) | (refine ⟨?_, ?_, ?_⟩ <;> omega) | omega | skip) | ((with_reducible apply oq_call (k := 148) (hc := Tryz.call148)); exact rfl; exact rfl; exact fun D w1 hw1 => hS w1)) | ((with_reducible apply tl_id); first | ((with_reducible apply tl_nil)) | ((with_reducible apply u_q); exact rfl; exact rfl; exact rfl; exact rfl)) | ((with_reducible apply t_id); first | ((with_reducible apply t_seq)) | (apply t_region; kernel_rfl) | ((with_reducible apply t_condD); exact rfl; all_goals first | (intro hp; try (exfalso; omega)) | skip) | ((with_reducible apply t_ret)) | ((with_reducible apply t_skip))) | with_reducible apply q_thenN | with_reducible apply q_thenR | ((with_reducible apply end_ret)) | exact rvs_nil | ((with_reducible apply rvs_cons)) | ((with_reducible apply rv_tmp); exact rfl))
  · rw [(isSh_pos (by assumption) hk0 f1 f2).val (by omega)]; rfl
  · rw [(isSh_neg1 (by omega) hk0 (by assumption) f2).val (by omega)]; rfl
  · rw [(isSh_neg0 (by omega) (by omega) hk0 (by assumption) f1).val (by omega)]; rfl
end Go.Proofs.YtcjkndjjbjoehaaGreat
namespace Go.Proofs.YtcjkndjjbjoehaaGreat
open Go.RowKit
section
variable {c : Cx} {F : Fr} {H : Hp} {d : Option Tmp} {ty t t' : TypeId} {pos : String} {af : Array Edge} {g : Option (Nat × Bool)} {x y : Operand} {m n : Int}
theorem oq_shr1U {k' : IntKind} (hx : ev F x = some (.int .u64 m)) (hy : ev F y = some (.int k' 1)) (_ : 0 ≤ m) : OQ c ⟨d, .binOp .shr t x y t', ty, pos, af, g⟩ F H (.int .u64 (m / 2)) := by
  have := oq_shr (c := c) (d := d) (ty := ty) (t := t) (t' := t') (pos := pos) (af := af) (g := g) (H := H) hx hy (by omega)
  rw [show (2 : Int) ^ (min (1 : Int).toNat IntKind.u64.bits) = 2 from rfl, Int.fdiv_eq_ediv_of_nonneg _ (by omega)] at this
  exact this
theorem oq_shr1I {k' : IntKind} (hx : ev F x = some (.int .i64 m)) (hy : ev F y = some (.int k' 1)) : OQ c ⟨d, .binOp .shr t x y t', ty, pos, af, g⟩ F H (.int .i64 (m / 2)) := by
  have := oq_shr (c := c) (d := d) (ty := ty) (t := t) (t' := t') (pos := pos) (af := af) (g := g) (H := H) hx hy (by omega)
  rw [show (2 : Int) ^ (min (1 : Int).toNat IntKind.i64.bits) = 2 from rfl, Int.fdiv_eq_ediv_of_nonneg _ (by omega)] at this
  exact this
theorem oq_shr2I {k' : IntKind} (hx : ev F x = some (.int .i64 m)) (hy : ev F y = some (.int k' 2)) : OQ c ⟨d, .binOp .shr t x y t', ty, pos, af, g⟩ F H (.int .i64 (m / 4)) := by
  have := oq_shr (c := c) (d := d) (ty := ty) (t := t) (t' := t') (pos := pos) (af := af) (g := g) (H := H) hx hy (by omega)
  rw [show (2 : Int) ^ (min (2 : Int).toNat IntKind.i64.bits) = 4 from rfl, Int.fdiv_eq_ediv_of_nonneg _ (by omega)] at this
  exact this
theorem oq_and1I (hx : ev F x = some (.int .i64 m)) (hy : ev F y = some (.int .i64 1)) (h : 0 ≤ m ∧ m ≤ 9223372036854775807) : OQ c ⟨d, .binOp .and t x y t', ty, pos, af, g⟩ F H (.int .i64 (m % 2)) := .of fun D a w ha _ => by
  have hm := and_mask (a := m) (j := 1) ⟨h.1, by omega⟩ (by omega)
  rw [show ((2 : Int) ^ 1 - 1) = 1 from rfl, show ((2 : Int) ^ 1) = 2 from rfl] at hm
  have hw : IntKind.i64.wrap (((BitVec.ofInt IntKind.i64.bits m &&& BitVec.ofInt IntKind.i64.bits 1).toNat : Nat) : Int) = m % 2 := by
    rw [show (BitVec.ofInt IntKind.i64.bits m &&& BitVec.ofInt IntKind.i64.bits 1).toNat = (m % 2).toNat from hm, Int.toNat_of_nonneg (by omega)]
    exact wrap_in ⟨by omega, by omega⟩
  simp only [execOp, ha.ev hx, ha.ev hy, eqGuard, binOp, Op.intBits]
  rw [hw]
  simp [go_sem]
end
/-- Where a piece of code ends: slots and blocks, by an index. -/
def cutQ {ι : Type} (ch : ι → Fr) (hc : ι → Hp) (G : Fr) (GH : Hp) : QS := fun e F' H' => e = .normal ∧ ∃ i, FrSub F' (ch i ++ G) ∧ HpSub H' (hc i ++ GH)
section
variable {c : Cx} {S : WS c.P} {Q : QS} {F : Fr} {H : Hp}
/-- A cut behind a region: the slots 'keep' stay, 'ch' are new, so are the blocks 'hc'; the blocks H stay. -/
theorem t_cutK {ι : Type} (rid : Nat) {ops : Array Oper} {dr : Bool} {y : Code} (keep : List Nat) (ch : ι → Fr) (hc : ι → Hp) {G : Fr} (hK : KeepF F keep G)
    (h1 : T c S (.region rid ops dr) (cutQ ch hc G H) F H) (h2 : ∀ i, T c S y Q (ch i ++ G) (hc i ++ H)) : T c S (.seq (.region rid ops dr) y) Q F H :=
  t_cut (fun i => ch i ++ G) (fun i => hc i ++ H) (fun _ => True) (fun D a w ha hw => S.mono (h1 D a w ha hw) fun e a' w' ⟨D', F', H', ⟨he, i, hF, hH⟩, h4, h5⟩ => ⟨D', F', H', ⟨he, i, trivial, hF, hH⟩, h4, h5⟩) (fun i _ => h2 i)
theorem cut_in0 {ch : Unit → Fr} {hc : Unit → Hp} {G F' : Fr} {GH H' : Hp} (h : FrSub F' (ch () ++ G)) (k : HpSub H' (hc () ++ GH)) : cutQ ch hc G GH .normal F' H' := ⟨rfl, (), h, k⟩
theorem cut_in1 {ch : Nat → Fr} {hc : Nat → Hp} {G F' : Fr} {GH H' : Hp} (i : Nat) (h : FrSub F' (ch i ++ G)) (k : HpSub H' (hc i ++ GH)) : cutQ ch hc G GH .normal F' H' := ⟨rfl, i, h, k⟩
theorem cut_in2 {ch : Nat × Nat → Fr} {hc : Nat × Nat → Hp} {G F' : Fr} {GH H' : Hp} (i j : Nat) (h : FrSub F' (ch (i, j) ++ G)) (k : HpSub H' (hc (i, j) ++ GH)) : cutQ ch hc G GH .normal F' H' := ⟨rfl, (i, j), h, k⟩
theorem cut_in3 {ch : Nat × Nat × Nat → Fr} {hc : Nat × Nat × Nat → Hp} {G F' : Fr} {GH H' : Hp} (i j l : Nat) (h : FrSub F' (ch (i, j, l) ++ G)) (k : HpSub H' (hc (i, j, l) ++ GH)) : cutQ ch hc G GH .normal F' H' := ⟨rfl, (i, j, l), h, k⟩
end
end Go.Proofs.YtcjkndjjbjoehaaGreat
namespace Go.Proofs.YtcjkndjjbjoehaaGreat
open Go.RowKit
attribute [local irreducible] OQ OS OX Rd T TL GX GL AL AI RV wpG SAny Calls
/-- The products of the ends of two spans. -/
def prI (a b c d : Int) (k : Nat) : Int := (if k % 2 = 1 then b else a) * (if k / 2 % 2 = 1 then d else c)
def prK (a b c d : Int) (k : Nat) : List (Int × Int) := (List.range 8).map fun i => if i < k then (prI a b c d i, prI a b c d i) else (0, 0)
theorem fine3 {w0 : World} {M : Ms} {H H' : Hp} {w : World} {g : Nat} {a b a' b' a'' b'' : Int} {tg : Tg} {cp : Nat} {q : Bool} (hq : (fineS (a, b) && (fineS (a', b') && fineS (a'', b''))) = q) (h : Has w0 M H w) (p : Pick H g [.int .i64 a, .int .i64 b, .int .i64 a', .int .i64 b', .int .i64 a'', .int .i64 b''] tg H') :
    Calls Tryz.prog 122 #[.slice (some ⟨g, 0, none⟩) 3 cp] w fun e w' => e = .returned (.bool q) ∧ Ext w w' := by
  have := fine_calls (some ⟨g, 0, none⟩) 3 cp [(a, b), (a', b'), (a'', b'')] w (Blk.rows (k := 2) (rows := [(a, b), (a', b'), (a'', b'')].map spanCells) (h.blk _ p.mem).2 rfl (by simp [spanCells])) (by omega)
  simp only [List.all_cons, List.all_nil, Bool.and_true, hq] at this
  exact this
theorem over1_calls (a b c d : Int) (h : -1000000 ≤ a ∧ a ≤ b ∧ b ≤ 1000000) (k0 : -1000000 ≤ c ∧ c ≤ d ∧ d ≤ 1000000) (w : World) :
    Calls Tryz.prog 119 #[.agg #[.int .i64 a, .int .i64 b], .agg #[.int .i64 c, .int .i64 d], .agg #[.int .i64 1, .int .i64 1]] w fun e w' => e = .returned (.tuple #[.agg #[.int .i64 (min (min (a * c) (b * c)) (min (a * d) (b * d))), .int .i64 (max (max (a * c) (b * c)) (max (a * d) (b * d)))], .int .i64 0]) ∧ Ext w w' := by
  have hq : (fineS (a, b) && (fineS (c, d) && fineS (1, 1))) = true := by rw [Bool.and_eq_true, Bool.and_eq_true, fineS_iff, fineS_iff, fineS_iff]; simp only; omega
  have m1 := mul_abs (x := a) (y := c) (a := 1000000) (b := 1000000) (by omega) (by omega)
  have m2 := mul_abs (x := b) (y := c) (a := 1000000) (b := 1000000) (by omega) (by omega)
  have m3 := mul_abs (x := a) (y := d) (a := 1000000) (b := 1000000) (by omega) (by omega)
  have m4 := mul_abs (x := b) (y := d) (a := 1000000) (b := 1000000) (by omega) (by omega)
  have HA : ∀ {w0 : World} {M : Ms} {H H' : Hp} {g : Nat} {tg : Tg} (w1 : World), Has w0 M H w1 → Pick H g ((prK a b c d 8).map spanCells).flatten tg H' → Calls Tryz.prog 143 #[.slice (some ⟨g, 0, none⟩) 8 8] w1 fun e w' =>
      e = .returned (.agg #[.int .i64 (min (min (a * c) (b * c)) (min (a * d) (b * d))), .int .i64 (max (max (a * c) (b * c)) (max (a * d) (b * d)))]) ∧ Ext w1 w' := fun w1 hw p => by
    have := around_calls (some ⟨_, 0, none⟩) 8 8 (a * c, a * c) (prK a b c d 8) w1 (Blk.rows (hw.blk _ p.mem).2 (by simp [prK]) (by simp only [List.mem_map]; rintro r ⟨x, _, rfl⟩; rfl)) (by omega) rfl (by omega) (by omega)
    have e : hullA (a * c, a * c) (prK a b c d 8) = (min (min (a * c) (b * c)) (min (a * d) (b * d)), max (max (a * c) (b * c)) (max (a * d) (b * d))) := by
      have : prK a b c d 8 = [(a * c, a * c), (b * c, b * c), (a * d, a * d), (b * d, b * d), (a * c, a * c), (b * c, b * c), (a * d, a * d), (b * d, b * d)] := rfl
      rw [this]
      simp only [hullA, List.foldl_cons, List.foldl_nil, hullS]
      generalize a * c = x1
      generalize b * c = x2
      generalize a * d = x3
      generalize b * d = x4
      congr 1 <;> omega
    rw [e] at this
    exact this
  refine enterQ (c := cx w 66) Tryz.func119 rfl rfl rfl rfl ?_
  ((all_goals refine goE0 ?_); (all_goals constructor); (any_goals exact trivial); all_goals intros)
  rename_i b3 b4 b5 b6 b7 b8
  apply t_loopK (ι := Nat) [3, 4, 5, 6, 7, 8, 61, 62, 63, 64, 65] (fun k => [(26, .int .i64 (k : Nat))]) (fun k => [(b8, ((prK a b c d k).map spanCells).flatten, some (236, 16, 1))]) (fun k => k ≤ 8) (fun k => 8 - k) (0)
  (repeat (first | exact KeepF.nil | (apply KeepF.cons; exact rfl) | apply KeepF.skip))
  (repeat (first | exact FrSub.nil | (apply FrSub.cons; exact rfl)))
  (repeat (first | exact HpSub.refl _ | (apply HpSub.consE; (repeat (first | exact P0 | apply P1)); exact rfl) | exact HpSub.nil))
  · omega
  intro k hk
  try simp only [List.cons_append, List.nil_append]
  by_cases hlt : k < 8
  · repeat' (first | ((with_reducible apply oq_id); first | (apply oq_fn; exact rfl; first | exact trivial | (refine ⟨?_, ?_⟩ <;> omega) | (refine ⟨?_, ?_, ?_⟩ <;> omega) | omega | skip) | ((with_reducible apply oq_load); exact rfl; exact rfl) | ((with_reducible apply oq_buildA); exact rfl; exact rfl; exact rfl; exact rfl)) | ((with_reducible apply tl_id); first | ((with_reducible apply tl_nil)) | ((with_reducible apply u_q); exact rfl; exact rfl; exact rfl; exact rfl)) | ((with_reducible apply gx_id); first | ((with_reducible apply v_nil)) | ((with_reducible apply v_q); exact rfl; exact rfl; exact rfl)) | ((with_reducible apply os_id); first | ((with_reducible apply os_storeAgg); exact rfl; exact rfl; exact rfl; exact rfl; exact rfl)) | ((with_reducible apply ox_id); first | ((with_reducible apply ox_alloc); exact rfl; intro _)) | ((with_reducible apply ai_id); first | ((with_reducible apply ai_x); exact rfl; exact rfl; exact rfl; exact rfl; exact rfl) | ((with_reducible apply ai_n0); exact rfl; exact rfl; exact rfl)) | ((with_reducible apply al_keep); focus (repeat (first | exact HpSub.refl _ | (apply HpSub.cons; (repeat (first | exact P0 | apply P1))) | exact HpSub.nil))) | ((with_reducible apply rd_id); first | (apply Rd.own; (repeat (first | exact P0 | apply P1)); exact rfl; done)) | ((with_reducible apply t_id); first | (with_reducible apply t_cutK (ι := (Nat × Nat × Nat)) (rid := 9) [3, 4, 5, 6, 7, 8, 9, 26] (fun i => [(10, .pointer (some ⟨i.1, 0, none⟩)), (11, .pointer (some ⟨i.2.1, 0, none⟩)), (12, .pointer (some ⟨i.2.2, 0, none⟩))]) (fun i => [(i.1, [.int .i64 a, .int .i64 b], some (237, 2, 1)), (i.2.1, [.int .i64 c, .int .i64 d], some (237, 2, 1)), (i.2.2, [.int .i64 1, .int .i64 1], some (237, 2, 1))])); (repeat (first | exact KeepF.nil | (apply KeepF.cons; exact rfl) | apply KeepF.skip)) | ((with_reducible apply t_seq)) | (apply t_region; kernel_rfl) | ((with_reducible apply t_condD); exact rfl; all_goals first | (intro hp; try (exfalso; omega)) | skip) | ((with_reducible apply t_skip)) | ((with_reducible apply t_block))) | with_reducible apply q_thenN | exact P0 | ((with_reducible apply P1)) | ((with_reducible apply Norm.nil); exact rfl) | ((with_reducible apply Norm.cons); exact rfl) | ((with_reducible apply cut_in3) <;> (repeat' (first | exact FrSub.nil | (apply FrSub.cons; exact rfl) | exact HpSub.refl _ | (apply HpSub.consE; (repeat (first | exact P0 | apply P1)); exact rfl) | exact HpSub.nil))) | (apply t_mix (id := 9) [0, 1, 2, 3, 4, 5, 6, 7, 8, 9, 10, 11, 12, 13, 14] 6 #[false, false, false, false, false, false, false, false, false, false, false, false, false, false, false, false, false, false, false, false, false]; kernel_rfl; kernel_rfl; exact rfl) | ((with_reducible apply al_id); first | (apply al_done; decide +kernel) | (apply al_one 15; decide +kernel) | (apply al_one 16; decide +kernel) | (apply al_one 17; decide +kernel) | (apply al_one 18; decide +kernel) | (apply al_one 19; decide +kernel) | (apply al_one 20; decide +kernel) | (apply al_two 15 16; decide +kernel) | (apply al_two 15 17; decide +kernel) | (apply al_two 16 17; decide +kernel) | (apply al_three 15 16 17; decide +kernel)) | exact Nat.le_of_ble_eq_true rfl)
    rintro ⟨b10, b11, b12⟩
    try simp only [List.cons_append, List.nil_append]
    try dsimp only
    have hk8 : k = 0 ∨ k = 1 ∨ k = 2 ∨ k = 3 ∨ k = 4 ∨ k = 5 ∨ k = 6 ∨ k = 7 := by omega
    clear hlt hk
    rcases hk8 with rfl | rfl | rfl | rfl | rfl | rfl | rfl | rfl
    · repeat' (first | ((with_reducible apply oq_id); first | (apply oq_fn; exact rfl; first | exact trivial | (refine ⟨?_, ?_⟩ <;> omega) | (refine ⟨?_, ?_, ?_⟩ <;> omega) | omega | skip) | ((with_reducible apply oq_load); exact rfl; exact rfl) | (focus ((with_reducible apply oq_and1I); exact rfl; exact rfl; (refine ⟨?_, ?_⟩ <;> omega))) | ((with_reducible apply oq_shr1I); exact rfl; exact rfl) | ((with_reducible apply oq_shr2I); exact rfl; exact rfl) | ((with_reducible apply oq_call (k := 141) (hc := Tryz.call141)); exact rfl; exact rfl; exact fun D w1 hw1 => share1_calls _ _ (by omega) (by omega) w1)) | ((with_reducible apply tl_id); first | ((with_reducible apply tl_nil)) | ((with_reducible apply u_q); exact rfl; exact rfl; exact rfl; exact rfl)) | ((with_reducible apply gx_id); first | ((with_reducible apply v_nil)) | ((with_reducible apply v_q); exact rfl; exact rfl; exact rfl)) | ((with_reducible apply os_id); first | ((with_reducible apply os_storeAgg); exact rfl; exact rfl; exact rfl; exact rfl; exact rfl)) | ((with_reducible apply ai_id); first | ((with_reducible apply ai_s0); exact rfl; exact rfl; exact rfl; exact rfl)) | ((with_reducible apply rd_id); first | (apply Rd.own; (repeat (first | exact P0 | apply P1)); exact rfl; done)) | ((with_reducible apply t_id); first | (apply t_region; kernel_rfl)) | with_reducible apply q_thenN | with_reducible apply q_blockN | exact P0 | ((with_reducible apply P1)) | ((with_reducible apply Norm.nil); exact rfl) | ((with_reducible apply Norm.cons); exact rfl) | (apply t_mix (id := 10) [0, 1, 2, 3, 4, 5, 6, 7, 8, 9, 10, 11, 12, 13, 14, 15] 1 #[false, false, false, false, false, false, false, false, false, false, false, false, false, false, false, false, true]; kernel_rfl; kernel_rfl; exact rfl) | ((with_reducible apply al_id); first | (apply al_done; decide +kernel) | (apply al_one 16; decide +kernel)) | exact Nat.le_of_ble_eq_true rfl)
      refine ⟨1, by omega, by omega, ?_, ?_⟩
      · try simp only [List.cons_append, List.nil_append]
        (repeat (first | exact FrSub.nil | (apply FrSub.cons; exact rfl)))
      · try simp only [List.cons_append, List.nil_append]
        (repeat (first | exact HpSub.refl _ | (apply HpSub.consE; (repeat (first | exact P0 | apply P1)); exact rfl) | exact HpSub.nil))
    · repeat' (first | ((with_reducible apply oq_id); first | (apply oq_fn; exact rfl; first | exact trivial | (refine ⟨?_, ?_⟩ <;> omega) | (refine ⟨?_, ?_, ?_⟩ <;> omega) | omega | skip) | ((with_reducible apply oq_load); exact rfl; exact rfl) | (focus ((with_reducible apply oq_and1I); exact rfl; exact rfl; (refine ⟨?_, ?_⟩ <;> omega))) | ((with_reducible apply oq_shr1I); exact rfl; exact rfl) | ((with_reducible apply oq_shr2I); exact rfl; exact rfl) | ((with_reducible apply oq_call (k := 141) (hc := Tryz.call141)); exact rfl; exact rfl; exact fun D w1 hw1 => share1_calls _ _ (by omega) (by omega) w1)) | ((with_reducible apply tl_id); first | ((with_reducible apply tl_nil)) | ((with_reducible apply u_q); exact rfl; exact rfl; exact rfl; exact rfl)) | ((with_reducible apply gx_id); first | ((with_reducible apply v_nil)) | ((with_reducible apply v_q); exact rfl; exact rfl; exact rfl)) | ((with_reducible apply os_id); first | ((with_reducible apply os_storeAgg); exact rfl; exact rfl; exact rfl; exact rfl; exact rfl)) | ((with_reducible apply ai_id); first | ((with_reducible apply ai_s0); exact rfl; exact rfl; exact rfl; exact rfl)) | ((with_reducible apply rd_id); first | (apply Rd.own; (repeat (first | exact P0 | apply P1)); exact rfl; done)) | ((with_reducible apply t_id); first | (apply t_region; kernel_rfl)) | with_reducible apply q_thenN | with_reducible apply q_blockN | exact P0 | ((with_reducible apply P1)) | ((with_reducible apply Norm.nil); exact rfl) | ((with_reducible apply Norm.cons); exact rfl) | (apply t_mix (id := 10) [0, 1, 2, 3, 4, 5, 6, 7, 8, 9, 10, 11, 12, 13, 14, 15] 1 #[false, false, false, false, false, false, false, false, false, false, false, false, false, false, false, false, true]; kernel_rfl; kernel_rfl; exact rfl) | ((with_reducible apply al_id); first | (apply al_done; decide +kernel) | (apply al_one 16; decide +kernel)) | exact Nat.le_of_ble_eq_true rfl)
      refine ⟨2, by omega, by omega, ?_, ?_⟩
      · try simp only [List.cons_append, List.nil_append]
        (repeat (first | exact FrSub.nil | (apply FrSub.cons; exact rfl)))
      · try simp only [List.cons_append, List.nil_append]
        (repeat (first | exact HpSub.refl _ | (apply HpSub.consE; (repeat (first | exact P0 | apply P1)); exact rfl) | exact HpSub.nil))
    · repeat' (first | ((with_reducible apply oq_id); first | (apply oq_fn; exact rfl; first | exact trivial | (refine ⟨?_, ?_⟩ <;> omega) | (refine ⟨?_, ?_, ?_⟩ <;> omega) | omega | skip) | ((with_reducible apply oq_load); exact rfl; exact rfl) | (focus ((with_reducible apply oq_and1I); exact rfl; exact rfl; (refine ⟨?_, ?_⟩ <;> omega))) | ((with_reducible apply oq_shr1I); exact rfl; exact rfl) | ((with_reducible apply oq_shr2I); exact rfl; exact rfl) | ((with_reducible apply oq_call (k := 141) (hc := Tryz.call141)); exact rfl; exact rfl; exact fun D w1 hw1 => share1_calls _ _ (by omega) (by omega) w1)) | ((with_reducible apply tl_id); first | ((with_reducible apply tl_nil)) | ((with_reducible apply u_q); exact rfl; exact rfl; exact rfl; exact rfl)) | ((with_reducible apply gx_id); first | ((with_reducible apply v_nil)) | ((with_reducible apply v_q); exact rfl; exact rfl; exact rfl)) | ((with_reducible apply os_id); first | ((with_reducible apply os_storeAgg); exact rfl; exact rfl; exact rfl; exact rfl; exact rfl)) | ((with_reducible apply ai_id); first | ((with_reducible apply ai_s0); exact rfl; exact rfl; exact rfl; exact rfl)) | ((with_reducible apply rd_id); first | (apply Rd.own; (repeat (first | exact P0 | apply P1)); exact rfl; done)) | ((with_reducible apply t_id); first | (apply t_region; kernel_rfl)) | with_reducible apply q_thenN | with_reducible apply q_blockN | exact P0 | ((with_reducible apply P1)) | ((with_reducible apply Norm.nil); exact rfl) | ((with_reducible apply Norm.cons); exact rfl) | (apply t_mix (id := 10) [0, 1, 2, 3, 4, 5, 6, 7, 8, 9, 10, 11, 12, 13, 14, 15] 1 #[false, false, false, false, false, false, false, false, false, false, false, false, false, false, false, false, true]; kernel_rfl; kernel_rfl; exact rfl) | ((with_reducible apply al_id); first | (apply al_done; decide +kernel) | (apply al_one 16; decide +kernel)) | exact Nat.le_of_ble_eq_true rfl)
      refine ⟨3, by omega, by omega, ?_, ?_⟩
      · try simp only [List.cons_append, List.nil_append]
        (repeat (first | exact FrSub.nil | (apply FrSub.cons; exact rfl)))
      · try simp only [List.cons_append, List.nil_append]
        (repeat (first | exact HpSub.refl _ | (apply HpSub.consE; (repeat (first | exact P0 | apply P1)); exact rfl) | exact HpSub.nil))
    · repeat' (first | ((with_reducible apply oq_id); first | (apply oq_fn; exact rfl; first | exact trivial | (refine ⟨?_, ?_⟩ <;> omega) | (refine ⟨?_, ?_, ?_⟩ <;> omega) | omega | skip) | ((with_reducible apply oq_load); exact rfl; exact rfl) | (focus ((with_reducible apply oq_and1I); exact rfl; exact rfl; (refine ⟨?_, ?_⟩ <;> omega))) | ((with_reducible apply oq_shr1I); exact rfl; exact rfl) | ((with_reducible apply oq_shr2I); exact rfl; exact rfl) | ((with_reducible apply oq_call (k := 141) (hc := Tryz.call141)); exact rfl; exact rfl; exact fun D w1 hw1 => share1_calls _ _ (by omega) (by omega) w1)) | ((with_reducible apply tl_id); first | ((with_reducible apply tl_nil)) | ((with_reducible apply u_q); exact rfl; exact rfl; exact rfl; exact rfl)) | ((with_reducible apply gx_id); first | ((with_reducible apply v_nil)) | ((with_reducible apply v_q); exact rfl; exact rfl; exact rfl)) | ((with_reducible apply os_id); first | ((with_reducible apply os_storeAgg); exact rfl; exact rfl; exact rfl; exact rfl; exact rfl)) | ((with_reducible apply ai_id); first | ((with_reducible apply ai_s0); exact rfl; exact rfl; exact rfl; exact rfl)) | ((with_reducible apply rd_id); first | (apply Rd.own; (repeat (first | exact P0 | apply P1)); exact rfl; done)) | ((with_reducible apply t_id); first | (apply t_region; kernel_rfl)) | with_reducible apply q_thenN | with_reducible apply q_blockN | exact P0 | ((with_reducible apply P1)) | ((with_reducible apply Norm.nil); exact rfl) | ((with_reducible apply Norm.cons); exact rfl) | (apply t_mix (id := 10) [0, 1, 2, 3, 4, 5, 6, 7, 8, 9, 10, 11, 12, 13, 14, 15] 1 #[false, false, false, false, false, false, false, false, false, false, false, false, false, false, false, false, true]; kernel_rfl; kernel_rfl; exact rfl) | ((with_reducible apply al_id); first | (apply al_done; decide +kernel) | (apply al_one 16; decide +kernel)) | exact Nat.le_of_ble_eq_true rfl)
      refine ⟨4, by omega, by omega, ?_, ?_⟩
      · try simp only [List.cons_append, List.nil_append]
        (repeat (first | exact FrSub.nil | (apply FrSub.cons; exact rfl)))
      · try simp only [List.cons_append, List.nil_append]
        (repeat (first | exact HpSub.refl _ | (apply HpSub.consE; (repeat (first | exact P0 | apply P1)); exact rfl) | exact HpSub.nil))
    · repeat' (first | ((with_reducible apply oq_id); first | (apply oq_fn; exact rfl; first | exact trivial | (refine ⟨?_, ?_⟩ <;> omega) | (refine ⟨?_, ?_, ?_⟩ <;> omega) | omega | skip) | ((with_reducible apply oq_load); exact rfl; exact rfl) | (focus ((with_reducible apply oq_and1I); exact rfl; exact rfl; (refine ⟨?_, ?_⟩ <;> omega))) | ((with_reducible apply oq_shr1I); exact rfl; exact rfl) | ((with_reducible apply oq_shr2I); exact rfl; exact rfl) | ((with_reducible apply oq_call (k := 141) (hc := Tryz.call141)); exact rfl; exact rfl; exact fun D w1 hw1 => share1_calls _ _ (by omega) (by omega) w1)) | ((with_reducible apply tl_id); first | ((with_reducible apply tl_nil)) | ((with_reducible apply u_q); exact rfl; exact rfl; exact rfl; exact rfl)) | ((with_reducible apply gx_id); first | ((with_reducible apply v_nil)) | ((with_reducible apply v_q); exact rfl; exact rfl; exact rfl)) | ((with_reducible apply os_id); first | ((with_reducible apply os_storeAgg); exact rfl; exact rfl; exact rfl; exact rfl; exact rfl)) | ((with_reducible apply ai_id); first | ((with_reducible apply ai_s0); exact rfl; exact rfl; exact rfl; exact rfl)) | ((with_reducible apply rd_id); first | (apply Rd.own; (repeat (first | exact P0 | apply P1)); exact rfl; done)) | ((with_reducible apply t_id); first | (apply t_region; kernel_rfl)) | with_reducible apply q_thenN | with_reducible apply q_blockN | exact P0 | ((with_reducible apply P1)) | ((with_reducible apply Norm.nil); exact rfl) | ((with_reducible apply Norm.cons); exact rfl) | (apply t_mix (id := 10) [0, 1, 2, 3, 4, 5, 6, 7, 8, 9, 10, 11, 12, 13, 14, 15] 1 #[false, false, false, false, false, false, false, false, false, false, false, false, false, false, false, false, true]; kernel_rfl; kernel_rfl; exact rfl) | ((with_reducible apply al_id); first | (apply al_done; decide +kernel) | (apply al_one 16; decide +kernel)) | exact Nat.le_of_ble_eq_true rfl)
      refine ⟨5, by omega, by omega, ?_, ?_⟩
      · try simp only [List.cons_append, List.nil_append]
        (repeat (first | exact FrSub.nil | (apply FrSub.cons; exact rfl)))
      · try simp only [List.cons_append, List.nil_append]
        (repeat (first | exact HpSub.refl _ | (apply HpSub.consE; (repeat (first | exact P0 | apply P1)); exact rfl) | exact HpSub.nil))
    · repeat' (first | ((with_reducible apply oq_id); first | (apply oq_fn; exact rfl; first | exact trivial | (refine ⟨?_, ?_⟩ <;> omega) | (refine ⟨?_, ?_, ?_⟩ <;> omega) | omega | skip) | ((with_reducible apply oq_load); exact rfl; exact rfl) | (focus ((with_reducible apply oq_and1I); exact rfl; exact rfl; (refine ⟨?_, ?_⟩ <;> omega))) | ((with_reducible apply oq_shr1I); exact rfl; exact rfl) | ((with_reducible apply oq_shr2I); exact rfl; exact rfl) | ((with_reducible apply oq_call (k := 141) (hc := Tryz.call141)); exact rfl; exact rfl; exact fun D w1 hw1 => share1_calls _ _ (by omega) (by omega) w1)) | ((with_reducible apply tl_id); first | ((with_reducible apply tl_nil)) | ((with_reducible apply u_q); exact rfl; exact rfl; exact rfl; exact rfl)) | ((with_reducible apply gx_id); first | ((with_reducible apply v_nil)) | ((with_reducible apply v_q); exact rfl; exact rfl; exact rfl)) | ((with_reducible apply os_id); first | ((with_reducible apply os_storeAgg); exact rfl; exact rfl; exact rfl; exact rfl; exact rfl)) | ((with_reducible apply ai_id); first | ((with_reducible apply ai_s0); exact rfl; exact rfl; exact rfl; exact rfl)) | ((with_reducible apply rd_id); first | (apply Rd.own; (repeat (first | exact P0 | apply P1)); exact rfl; done)) | ((with_reducible apply t_id); first | (apply t_region; kernel_rfl)) | with_reducible apply q_thenN | with_reducible apply q_blockN | exact P0 | ((with_reducible apply P1)) | ((with_reducible apply Norm.nil); exact rfl) | ((with_reducible apply Norm.cons); exact rfl) | (apply t_mix (id := 10) [0, 1, 2, 3, 4, 5, 6, 7, 8, 9, 10, 11, 12, 13, 14, 15] 1 #[false, false, false, false, false, false, false, false, false, false, false, false, false, false, false, false, true]; kernel_rfl; kernel_rfl; exact rfl) | ((with_reducible apply al_id); first | (apply al_done; decide +kernel) | (apply al_one 16; decide +kernel)) | exact Nat.le_of_ble_eq_true rfl)
      refine ⟨6, by omega, by omega, ?_, ?_⟩
      · try simp only [List.cons_append, List.nil_append]
        (repeat (first | exact FrSub.nil | (apply FrSub.cons; exact rfl)))
      · try simp only [List.cons_append, List.nil_append]
        (repeat (first | exact HpSub.refl _ | (apply HpSub.consE; (repeat (first | exact P0 | apply P1)); exact rfl) | exact HpSub.nil))
    · repeat' (first | ((with_reducible apply oq_id); first | (apply oq_fn; exact rfl; first | exact trivial | (refine ⟨?_, ?_⟩ <;> omega) | (refine ⟨?_, ?_, ?_⟩ <;> omega) | omega | skip) | ((with_reducible apply oq_load); exact rfl; exact rfl) | (focus ((with_reducible apply oq_and1I); exact rfl; exact rfl; (refine ⟨?_, ?_⟩ <;> omega))) | ((with_reducible apply oq_shr1I); exact rfl; exact rfl) | ((with_reducible apply oq_shr2I); exact rfl; exact rfl) | ((with_reducible apply oq_call (k := 141) (hc := Tryz.call141)); exact rfl; exact rfl; exact fun D w1 hw1 => share1_calls _ _ (by omega) (by omega) w1)) | ((with_reducible apply tl_id); first | ((with_reducible apply tl_nil)) | ((with_reducible apply u_q); exact rfl; exact rfl; exact rfl; exact rfl)) | ((with_reducible apply gx_id); first | ((with_reducible apply v_nil)) | ((with_reducible apply v_q); exact rfl; exact rfl; exact rfl)) | ((with_reducible apply os_id); first | ((with_reducible apply os_storeAgg); exact rfl; exact rfl; exact rfl; exact rfl; exact rfl)) | ((with_reducible apply ai_id); first | ((with_reducible apply ai_s0); exact rfl; exact rfl; exact rfl; exact rfl)) | ((with_reducible apply rd_id); first | (apply Rd.own; (repeat (first | exact P0 | apply P1)); exact rfl; done)) | ((with_reducible apply t_id); first | (apply t_region; kernel_rfl)) | with_reducible apply q_thenN | with_reducible apply q_blockN | exact P0 | ((with_reducible apply P1)) | ((with_reducible apply Norm.nil); exact rfl) | ((with_reducible apply Norm.cons); exact rfl) | (apply t_mix (id := 10) [0, 1, 2, 3, 4, 5, 6, 7, 8, 9, 10, 11, 12, 13, 14, 15] 1 #[false, false, false, false, false, false, false, false, false, false, false, false, false, false, false, false, true]; kernel_rfl; kernel_rfl; exact rfl) | ((with_reducible apply al_id); first | (apply al_done; decide +kernel) | (apply al_one 16; decide +kernel)) | exact Nat.le_of_ble_eq_true rfl)
      refine ⟨7, by omega, by omega, ?_, ?_⟩
      · try simp only [List.cons_append, List.nil_append]
        (repeat (first | exact FrSub.nil | (apply FrSub.cons; exact rfl)))
      · try simp only [List.cons_append, List.nil_append]
        (repeat (first | exact HpSub.refl _ | (apply HpSub.consE; (repeat (first | exact P0 | apply P1)); exact rfl) | exact HpSub.nil))
    · repeat' (first | ((with_reducible apply oq_id); first | (apply oq_fn; exact rfl; first | exact trivial | (refine ⟨?_, ?_⟩ <;> omega) | (refine ⟨?_, ?_, ?_⟩ <;> omega) | omega | skip) | ((with_reducible apply oq_load); exact rfl; exact rfl) | (focus ((with_reducible apply oq_and1I); exact rfl; exact rfl; (refine ⟨?_, ?_⟩ <;> omega))) | ((with_reducible apply oq_shr1I); exact rfl; exact rfl) | ((with_reducible apply oq_shr2I); exact rfl; exact rfl) | ((with_reducible apply oq_call (k := 141) (hc := Tryz.call141)); exact rfl; exact rfl; exact fun D w1 hw1 => share1_calls _ _ (by omega) (by omega) w1)) | ((with_reducible apply tl_id); first | ((with_reducible apply tl_nil)) | ((with_reducible apply u_q); exact rfl; exact rfl; exact rfl; exact rfl)) | ((with_reducible apply gx_id); first | ((with_reducible apply v_nil)) | ((with_reducible apply v_q); exact rfl; exact rfl; exact rfl)) | ((with_reducible apply os_id); first | ((with_reducible apply os_storeAgg); exact rfl; exact rfl; exact rfl; exact rfl; exact rfl)) | ((with_reducible apply ai_id); first | ((with_reducible apply ai_s0); exact rfl; exact rfl; exact rfl; exact rfl)) | ((with_reducible apply rd_id); first | (apply Rd.own; (repeat (first | exact P0 | apply P1)); exact rfl; done)) | ((with_reducible apply t_id); first | (apply t_region; kernel_rfl)) | with_reducible apply q_thenN | with_reducible apply q_blockN | exact P0 | ((with_reducible apply P1)) | ((with_reducible apply Norm.nil); exact rfl) | ((with_reducible apply Norm.cons); exact rfl) | (apply t_mix (id := 10) [0, 1, 2, 3, 4, 5, 6, 7, 8, 9, 10, 11, 12, 13, 14, 15] 1 #[false, false, false, false, false, false, false, false, false, false, false, false, false, false, false, false, true]; kernel_rfl; kernel_rfl; exact rfl) | ((with_reducible apply al_id); first | (apply al_done; decide +kernel) | (apply al_one 16; decide +kernel)) | exact Nat.le_of_ble_eq_true rfl)
      refine ⟨8, by omega, by omega, ?_, ?_⟩
      · try simp only [List.cons_append, List.nil_append]
        (repeat (first | exact FrSub.nil | (apply FrSub.cons; exact rfl)))
      · try simp only [List.cons_append, List.nil_append]
        (repeat (first | exact HpSub.refl _ | (apply HpSub.consE; (repeat (first | exact P0 | apply P1)); exact rfl) | exact HpSub.nil))
  · obtain rfl : k = 8 := by omega
    ((all_goals refine goE0 ?_); (all_goals constructor); (any_goals exact trivial); all_goals intros)
    rfl
theorem mul_calls (a b c d : Int) (h : -1000000 ≤ a ∧ a ≤ b ∧ b ≤ 1000000) (k0 : -1000000 ≤ c ∧ c ≤ d ∧ d ≤ 1000000) (w : World) :
    Calls Tryz.prog 154 #[.agg #[.int .i64 a, .int .i64 b], .agg #[.int .i64 c, .int .i64 d]] w fun e w' => e = .returned (.tuple #[.agg #[.int .i64 (min (min (a * c) (b * c)) (min (a * d) (b * d))), .int .i64 (max (max (a * c) (b * c)) (max (a * d) (b * d)))], .int .i64 0]) ∧ Ext w w' := by
  refine enterQ (c := cx w 12) Tryz.func154 rfl rfl rfl rfl ?_
  ((all_goals refine goE0 ?_); (all_goals constructor); (any_goals exact trivial); all_goals intros)
  all_goals rfl
def wayOk (dx dy : Int) : Bool := allFrom (-10000) 10000 [dx, dy] && !(decide (dx = 0) && decide (dy = 0))
def alongLo (a b c d dx dy : Int) : Int := min (a * dx) (b * dx) + min (c * dy) (d * dy)
def alongHi (a b c d dx dy : Int) : Int := max (a * dx) (b * dx) + max (c * dy) (d * dy)
/-- How fast a wind blows along a way: bounds, then the error. -/
noncomputable def alongV (a b c d dx dy : Int) : Int × Int × Int :=
  if windE a b c d = 0 then (if wayOk dx dy then (shV (alongLo a b c d dx dy) (dx * dx + dy * dy), -shV (-alongHi a b c d dx dy) (dx * dx + dy * dy), 0) else (0, 0, 2)) else (0, 0, windE a b c d)
theorem fromS2 {w0 : World} {M : Ms} {H H' : Hp} {w : World} {g : Nat} {a b lo hi : Int} {tg : Tg} {cp : Nat} {q : Bool} (hq : allFrom lo hi [a, b] = q) (h : Has w0 M H w) (p : Pick H g [.int .i64 a, .int .i64 b] tg H') :
    Calls Tryz.prog 120 #[.int .i64 lo, .int .i64 hi, .slice (some ⟨g, 0, none⟩) 2 cp] w fun e w' => e = .returned (.bool q) ∧ Ext w w' :=
  hq ▸ from_calls lo hi (some ⟨g, 0, none⟩) 2 cp [a, b] w (Blk.rows (k := 1) (rows := [a, b].map fun z => [Value.int .i64 z]) (h.blk _ p.mem).2 rfl (by simp)) (by omega)
/-- (x dx + y dy)^2 is at most 8000000 (dx^2 + dy^2). -/
theorem sum_sq {x y p q : Int} (hx : -2000 ≤ x ∧ x ≤ 2000) (hy : -2000 ≤ y ∧ y ≤ 2000) : (x * p + y * q) * (x * p + y * q) ≤ 8000000 * (p * p + q * q) := by
  have key : (x * p + y * q) * (x * p + y * q) + (x * q - y * p) * (x * q - y * p) = (x * x + y * y) * (p * p + q * q) := by
    simp only [Int.add_mul, Int.mul_add, Int.sub_mul, Int.mul_sub]
    have e1 : x * p * (x * p) = x * x * (p * p) := by ac_rfl
    have e2 : y * q * (y * q) = y * y * (q * q) := by ac_rfl
    have e3 : x * q * (x * q) = x * x * (q * q) := by ac_rfl
    have e4 : y * p * (y * p) = y * y * (p * p) := by ac_rfl
    have e5 : x * p * (y * q) = x * y * (p * q) := by ac_rfl
    have e6 : y * q * (x * p) = x * y * (p * q) := by ac_rfl
    have e7 : x * q * (y * p) = x * y * (p * q) := by ac_rfl
    have e8 : y * p * (x * q) = x * y * (p * q) := by ac_rfl
    omega
  have sq0 : ∀ z : Int, 0 ≤ z * z := fun z => by
    rcases Int.le_total 0 z with h | h
    · exact Int.mul_nonneg h h
    · rw [sq_neg]; exact Int.mul_nonneg (by omega) (by omega)
  have h1 := sq0 (x * q - y * p)
  have hx2 := (mul_abs hx hx).2
  have hy2 := (mul_abs hy hy).2
  have hp := sq0 p
  have hq := sq0 q
  have h2 : (x * x + y * y) * (p * p + q * q) ≤ 8000000 * (p * p + q * q) := Int.mul_le_mul_of_nonneg_right (by omega) (by omega)
  omega
theorem alongLo_sq {a b c d dx dy : Int} (h : a ≤ b ∧ c ≤ d ∧ -2000 ≤ a ∧ b ≤ 2000 ∧ -2000 ≤ c ∧ d ≤ 2000) : alongLo a b c d dx dy * alongLo a b c d dx dy ≤ 8000000 * (dx * dx + dy * dy) := by
  unfold alongLo
  rcases Int.le_total (a * dx) (b * dx) with h1 | h1 <;> rcases Int.le_total (c * dy) (d * dy) with h2 | h2
  · rw [Int.min_eq_left h1, Int.min_eq_left h2]; exact sum_sq (by omega) (by omega)
  · rw [Int.min_eq_left h1, Int.min_eq_right h2]; exact sum_sq (by omega) (by omega)
  · rw [Int.min_eq_right h1, Int.min_eq_left h2]; exact sum_sq (by omega) (by omega)
  · rw [Int.min_eq_right h1, Int.min_eq_right h2]; exact sum_sq (by omega) (by omega)
theorem alongHi_sq {a b c d dx dy : Int} (h : a ≤ b ∧ c ≤ d ∧ -2000 ≤ a ∧ b ≤ 2000 ∧ -2000 ≤ c ∧ d ≤ 2000) : -alongHi a b c d dx dy * -alongHi a b c d dx dy ≤ 8000000 * (dx * dx + dy * dy) := by
  rw [← sq_neg]
  unfold alongHi
  rcases Int.le_total (a * dx) (b * dx) with h1 | h1 <;> rcases Int.le_total (c * dy) (d * dy) with h2 | h2
  · rw [Int.max_eq_right h1, Int.max_eq_right h2]; exact sum_sq (by omega) (by omega)
  · rw [Int.max_eq_right h1, Int.max_eq_left h2]; exact sum_sq (by omega) (by omega)
  · rw [Int.max_eq_left h1, Int.max_eq_right h2]; exact sum_sq (by omega) (by omega)
  · rw [Int.max_eq_left h1, Int.max_eq_left h2]; exact sum_sq (by omega) (by omega)
theorem sq_nn (n : Int) : 0 ≤ n * n := by
  rcases Int.le_total 0 n with h | h
  · exact Int.mul_nonneg h h
  · rw [sq_neg]; exact Int.mul_nonneg (by omega) (by omega)
theorem shV_ex {n q : Int} (hq : 1 ≤ q) (h8 : n * n ≤ 8000000 * q) : IsSh n q (shV n q) ∧ -4000 ≤ shV n q ∧ shV n q ≤ 4000 := by
  have hk := rt_spec ((n * n).tdiv q) (by rw [Int.tdiv_eq_ediv_of_nonneg (sq_nn n)]; exact Int.ediv_nonneg (sq_nn n) (by omega))
  have hd1 : (n * n).tdiv q ≤ 8000000 := by rw [Int.tdiv_eq_ediv_of_nonneg (sq_nn n)]; exact Int.ediv_le_of_le_mul (by omega) h8
  obtain ⟨k, ek⟩ : ∃ k, k = rt ((n * n).tdiv q) := ⟨_, rfl⟩
  rw [← ek] at hk
  obtain ⟨f1, f2⟩ := part_facts (by omega) hk
  have hk0 := hk.1
  have hk1 : k ≤ 3000 := by
    rcases Int.lt_or_le 3000 k with h | h
    · have := sq_mono (j := 3001) (k := k) (by omega) (by omega)
      have := hk.2.1; omega
    · exact h
  by_cases hn : 0 ≤ n
  · have := isSh_pos hn hk0 f1 f2
    rw [this.val (by omega)]
    exact ⟨this, by omega, by omega⟩
  · by_cases hh : k * k * q < n * n
    · have := isSh_neg1 (by omega) hk0 hh f2
      rw [this.val (by omega)]
      exact ⟨this, by omega, by omega⟩
    · have := isSh_neg0 (by omega) (by omega) hk0 hh f1
      rw [this.val (by omega)]
      exact ⟨this, by omega, by omega⟩
theorem shV_in {n q : Int} (hq : 1 ≤ q) (h8 : n * n ≤ 8000000 * q) : InR (-shV n q) := by
  have := shV_ex hq h8
  exact ⟨by omega, by omega⟩
theorem airAlong_calls (a b c d dx dy : Int) (w : World) : Calls Tryz.prog 130 #[.agg #[.int .i64 a, .int .i64 b, .int .i64 c, .int .i64 d], .int .i64 dx, .int .i64 dy] w fun e w' => e = .returned (.tuple #[.agg #[.int .i64 (alongV a b c d dx dy).1, .int .i64 (alongV a b c d dx dy).2.1], .int .i64 (alongV a b c d dx dy).2.2]) ∧ Ext w w' := by
  have H1 := fun w1 => checkWind_calls a b c d w1
  obtain ⟨e, he⟩ : ∃ e, windE a b c d = e := ⟨_, rfl⟩
  obtain ⟨q, hq⟩ : ∃ q, allFrom (-10000) 10000 [dx, dy] = q := ⟨_, rfl⟩
  rw [he] at H1
  by_cases he0 : e = 0
  · subst he0
    have hb := windE_zero he
    cases q with
    | false =>
      have hW : alongV a b c d dx dy = (0, 0, 2) := by unfold alongV; rw [he, if_pos rfl, if_neg (by unfold wayOk; rw [hq]; simp)]
      rw [hW]
      refine enterQ (c := cx w 78) Tryz.func130 rfl rfl rfl rfl ?_
      ((all_goals refine goE0 ?_); (all_goals constructor); (any_goals exact trivial); all_goals intros)
      all_goals rfl
    | true =>
      have hd : -10000 ≤ dx ∧ dx ≤ 10000 ∧ -10000 ≤ dy ∧ dy ≤ 10000 := by unfold allFrom at hq; simp at hq; omega
      by_cases hz : dx = 0 ∧ dy = 0
      · have hW : alongV a b c d dx dy = (0, 0, 2) := by unfold alongV; rw [he, if_pos rfl, if_neg (by unfold wayOk; rw [hq]; simp [hz.1, hz.2])]
        rw [hW]
        refine enterQ (c := cx w 78) Tryz.func130 rfl rfl rfl rfl ?_
        ((all_goals refine goE0 ?_); (all_goals constructor); (any_goals exact trivial); all_goals intros)
        all_goals rfl
      · have hW : alongV a b c d dx dy = (shV (alongLo a b c d dx dy) (dx * dx + dy * dy), -shV (-alongHi a b c d dx dy) (dx * dx + dy * dy), 0) := by unfold alongV; rw [he, if_pos rfl, if_pos (by unfold wayOk; rw [hq]; simp; omega)]
        rw [hW]
        have q1 := mul_abs (x := dx) (y := dx) (a := 10000) (b := 10000) (by omega) (by omega)
        have q2 := mul_abs (x := dy) (y := dy) (a := 10000) (b := 10000) (by omega) (by omega)
        have q0 : 1 ≤ dx * dx + dy * dy := by
          have p1 := sq_mono (j := 0) (k := max dx (-dx)) (by omega) (by omega)
          have p2 := sq_mono (j := 0) (k := max dy (-dy)) (by omega) (by omega)
          rcases (by omega : dx ≠ 0 ∨ dy ≠ 0) with h | h
          · have p3 := sq_mono (j := 1) (k := max dx (-dx)) (by omega) (by omega)
            have e1 : max dx (-dx) * max dx (-dx) = dx * dx := by rcases Int.le_total dx (-dx) with h | h; (rw [Int.max_eq_right h, Int.neg_mul_neg]); (rw [Int.max_eq_left h])
            have e2 : max dy (-dy) * max dy (-dy) = dy * dy := by rcases Int.le_total dy (-dy) with h | h; (rw [Int.max_eq_right h, Int.neg_mul_neg]); (rw [Int.max_eq_left h])
            omega
          · have p3 := sq_mono (j := 1) (k := max dy (-dy)) (by omega) (by omega)
            have e1 : max dx (-dx) * max dx (-dx) = dx * dx := by rcases Int.le_total dx (-dx) with h | h; (rw [Int.max_eq_right h, Int.neg_mul_neg]); (rw [Int.max_eq_left h])
            have e2 : max dy (-dy) * max dy (-dy) = dy * dy := by rcases Int.le_total dy (-dy) with h | h; (rw [Int.max_eq_right h, Int.neg_mul_neg]); (rw [Int.max_eq_left h])
            omega
        have hA := alongLo_sq (dx := dx) (dy := dy) hb
        have hB := alongHi_sq (dx := dx) (dy := dy) hb
        have r1 := mul_abs (x := a) (y := dx) (a := 2000) (b := 10000) (by omega) (by omega)
        have r2 := mul_abs (x := b) (y := dx) (a := 2000) (b := 10000) (by omega) (by omega)
        have r3 := mul_abs (x := c) (y := dy) (a := 2000) (b := 10000) (by omega) (by omega)
        have r4 := mul_abs (x := d) (y := dy) (a := 2000) (b := 10000) (by omega) (by omega)
        have HL := fun w1 => share_calls (alongLo a b c d dx dy) (dx * dx + dy * dy) q0 (by omega) hA w1
        have HR := fun w1 => share_calls (-alongHi a b c d dx dy) (dx * dx + dy * dy) q0 (by omega) hB w1
        have hsr : ∀ n : Int, n * n ≤ 8000000 * (dx * dx + dy * dy) → InR (-shV n (dx * dx + dy * dy)) := fun n hn => shV_in q0 hn
        have hR := hsr _ hB
        obtain ⟨s1, e1⟩ : ∃ s, s = shV (alongLo a b c d dx dy) (dx * dx + dy * dy) := ⟨_, rfl⟩
        obtain ⟨s2, e2⟩ : ∃ s, s = shV (-alongHi a b c d dx dy) (dx * dx + dy * dy) := ⟨_, rfl⟩
        rw [← e1] at HL
        rw [← e2] at HR hR
        rw [← e1, ← e2]
        clear hA hB hsr hW e1 e2
        unfold alongLo at HL
        unfold alongHi at HR
        have k1 : InR (dx * dx) := ⟨by omega, by omega⟩
        have k2 : InR (dy * dy) := ⟨by omega, by omega⟩
        have k3 : InR (dx * dx + dy * dy) := ⟨by omega, by omega⟩
        have MX := fun w1 => mul_calls a b dx dx (by omega) (by omega) w1
        have MY := fun w1 => mul_calls c d dy dy (by omega) (by omega) w1
        have f1 : min (min (a * dx) (b * dx)) (min (a * dx) (b * dx)) = min (a * dx) (b * dx) := by omega
        have f2 : max (max (a * dx) (b * dx)) (max (a * dx) (b * dx)) = max (a * dx) (b * dx) := by omega
        have f3 : min (min (c * dy) (d * dy)) (min (c * dy) (d * dy)) = min (c * dy) (d * dy) := by omega
        have f4 : max (max (c * dy) (d * dy)) (max (c * dy) (d * dy)) = max (c * dy) (d * dy) := by omega
        rw [f1, f2] at MX
        rw [f3, f4] at MY
        clear f1 f2 f3 f4
        refine enterQ (c := cx w 78) Tryz.func130 rfl rfl rfl rfl ?_
        ((all_goals refine goE0 ?_); (all_goals constructor); (any_goals exact trivial); all_goals intros)
        all_goals rfl
  · have hW : alongV a b c d dx dy = (0, 0, e) := by unfold alongV; rw [he, if_neg he0]
    rw [hW]
    refine enterQ (c := cx w 78) Tryz.func130 rfl rfl rfl rfl ?_
    repeat' (first | ((with_reducible apply oq_id); first | (apply oq_fn; exact rfl; first | exact trivial | (refine ⟨?_, ?_⟩ <;> omega) | (refine ⟨?_, ?_, ?_⟩ <;> omega) | omega | skip) | ((with_reducible apply oq_loadAgg); exact rfl; exact rfl) | ((with_reducible apply oq_call (k := 153) (hc := Tryz.call153)); exact rfl; exact rfl; exact fun D w1 hw1 => H1 w1) | ((with_reducible apply oq_build); exact rfl; exact rfl; exact rfl)) | ((with_reducible apply tl_id); first | ((with_reducible apply tl_nil)) | ((with_reducible apply u_q); exact rfl; exact rfl; exact rfl; exact rfl) | ((with_reducible apply u_s0); exact rfl; exact rfl) | ((with_reducible apply u_s); exact rfl; exact rfl; exact rfl)) | ((with_reducible apply os_id); first | ((with_reducible apply os_x); exact rfl) | ((with_reducible apply os_storeAgg); exact rfl; exact rfl; exact rfl; exact rfl; exact rfl)) | ((with_reducible apply ox_id); first | ((with_reducible apply ox_alloc); exact rfl; intro _) | ((with_reducible apply ox_boxAgg); exact rfl; intro _)) | ((with_reducible apply rd_id); first | (apply Rd.own; (repeat (first | exact P0 | apply P1)); exact rfl; done)) | ((with_reducible apply t_id); first | ((with_reducible apply t_seq)) | (apply t_region; kernel_rfl) | ((with_reducible apply t_condN); exact rfl; all_goals first | (intro hp; try (exfalso; omega)) | skip) | ((with_reducible apply t_ret))) | with_reducible apply q_thenN | with_reducible apply q_thenR | exact P0 | exact Rdn.zero | apply Rdn.succ | ((with_reducible apply Norm.nil); exact rfl) | ((with_reducible apply Norm.cons); exact rfl) | ((with_reducible apply end_ret)) | exact rvs_nil | ((with_reducible apply rvs_cons)) | ((with_reducible apply rv_tmp); exact rfl) | ((with_reducible apply rv_cellAgg); exact rfl; exact rfl) | exact Nat.le_of_ble_eq_true rfl)
    all_goals rfl
theorem refAlong_calls (a b c d dx dy : Int) (w : World) : Calls Tryz.prog 150 #[.agg #[.int .i64 a, .int .i64 b, .int .i64 c, .int .i64 d], .int .i64 dx, .int .i64 dy] w fun e w' => e = .returned (.tuple #[.agg #[.int .i64 (alongV a b c d dx dy).1, .int .i64 (alongV a b c d dx dy).2.1], .int .i64 (alongV a b c d dx dy).2.2]) ∧ Ext w w' := by
  have H1 := fun w1 => blows_calls a b c d w1
  obtain ⟨e, he⟩ : ∃ e, windE a b c d = e := ⟨_, rfl⟩
  obtain ⟨q, hq⟩ : ∃ q, allFrom (-10000) 10000 [dx, dy] = q := ⟨_, rfl⟩
  rw [he] at H1
  by_cases he0 : e = 0
  · subst he0
    have hb := windE_zero he
    cases q with
    | false =>
      have hW : alongV a b c d dx dy = (0, 0, 2) := by unfold alongV; rw [he, if_pos rfl, if_neg (by unfold wayOk; rw [hq]; simp)]
      rw [hW]
      have hd : ¬ (-10000 ≤ dx ∧ dx ≤ 10000 ∧ -10000 ≤ dy ∧ dy ≤ 10000) := by unfold allFrom at hq; simp at hq; omega
      refine enterQ (c := cx w 97) Tryz.func150 rfl rfl rfl rfl ?_
      repeat' (first | ((with_reducible apply oq_id); first | (apply oq_fn; exact rfl; first | exact trivial | (refine ⟨?_, ?_⟩ <;> omega) | (refine ⟨?_, ?_, ?_⟩ <;> omega) | omega | skip) | ((with_reducible apply oq_loadAgg); exact rfl; exact rfl) | ((with_reducible apply oq_call (k := 169) (hc := Tryz.call169)); exact rfl; exact rfl; exact fun D w1 hw1 => H1 w1) | ((with_reducible apply oq_call (k := 158) (hc := Tryz.call158)); exact rfl; exact rfl; exact fun D w1 hw1 => (within_calls _ _ _ w1).mono fun e w' h => ⟨h.1, h.2 ▸ Ext.refl _⟩) | ((with_reducible apply oq_build); exact rfl; exact rfl; exact rfl)) | ((with_reducible apply tl_id); first | ((with_reducible apply tl_nil)) | ((with_reducible apply u_q); exact rfl; exact rfl; exact rfl; exact rfl) | ((with_reducible apply u_s0); exact rfl; exact rfl) | ((with_reducible apply u_s); exact rfl; exact rfl; exact rfl) | ((with_reducible apply u_skip); exact rfl; exact rfl; exact rfl) | ((with_reducible apply u_splitN); exact rfl; exact rfl; all_goals first | (intro hp; try (exfalso; omega)) | skip)) | ((with_reducible apply os_id); first | ((with_reducible apply os_x); exact rfl) | ((with_reducible apply os_storeAgg); exact rfl; exact rfl; exact rfl; exact rfl; exact rfl)) | ((with_reducible apply ox_id); first | ((with_reducible apply ox_alloc); exact rfl; intro _) | ((with_reducible apply ox_boxAgg); exact rfl; intro _)) | ((with_reducible apply rd_id); first | (apply Rd.own; (repeat (first | exact P0 | apply P1)); exact rfl; done)) | ((with_reducible apply t_id); first | ((with_reducible apply t_seq)) | (apply t_region; kernel_rfl) | ((with_reducible apply t_condT); exact rfl) | ((with_reducible apply t_condF); exact rfl) | ((with_reducible apply t_ret)) | ((with_reducible apply t_skip))) | with_reducible apply q_thenN | with_reducible apply q_thenR | exact P0 | exact Rdn.zero | apply Rdn.succ | ((with_reducible apply Norm.nil); exact rfl) | ((with_reducible apply Norm.cons); exact rfl) | ((with_reducible apply end_ret)) | exact rvs_nil | ((with_reducible apply rvs_cons)) | ((with_reducible apply rv_tmp); exact rfl) | ((with_reducible apply rv_cellAgg); exact rfl; exact rfl) | exact Nat.le_of_ble_eq_true rfl)
      all_goals rfl
    | true =>
      have hd : -10000 ≤ dx ∧ dx ≤ 10000 ∧ -10000 ≤ dy ∧ dy ≤ 10000 := by unfold allFrom at hq; simp at hq; omega
      by_cases hz : dx = 0 ∧ dy = 0
      · have hW : alongV a b c d dx dy = (0, 0, 2) := by unfold alongV; rw [he, if_pos rfl, if_neg (by unfold wayOk; rw [hq]; simp [hz.1, hz.2])]
        rw [hW]
        refine enterQ (c := cx w 97) Tryz.func150 rfl rfl rfl rfl ?_
        ((all_goals refine goE0 ?_); (all_goals constructor); (any_goals exact trivial); all_goals intros)
        all_goals rfl
      · have hW : alongV a b c d dx dy = (shV (alongLo a b c d dx dy) (dx * dx + dy * dy), -shV (-alongHi a b c d dx dy) (dx * dx + dy * dy), 0) := by unfold alongV; rw [he, if_pos rfl, if_pos (by unfold wayOk; rw [hq]; simp; omega)]
        rw [hW]
        have q1 := mul_abs (x := dx) (y := dx) (a := 10000) (b := 10000) (by omega) (by omega)
        have q2 := mul_abs (x := dy) (y := dy) (a := 10000) (b := 10000) (by omega) (by omega)
        have q0 : 1 ≤ dx * dx + dy * dy := by
          have p1 := sq_mono (j := 0) (k := max dx (-dx)) (by omega) (by omega)
          have p2 := sq_mono (j := 0) (k := max dy (-dy)) (by omega) (by omega)
          rcases (by omega : dx ≠ 0 ∨ dy ≠ 0) with h | h
          · have p3 := sq_mono (j := 1) (k := max dx (-dx)) (by omega) (by omega)
            have e1 : max dx (-dx) * max dx (-dx) = dx * dx := by rcases Int.le_total dx (-dx) with h | h; (rw [Int.max_eq_right h, Int.neg_mul_neg]); (rw [Int.max_eq_left h])
            have e2 : max dy (-dy) * max dy (-dy) = dy * dy := by rcases Int.le_total dy (-dy) with h | h; (rw [Int.max_eq_right h, Int.neg_mul_neg]); (rw [Int.max_eq_left h])
            omega
          · have p3 := sq_mono (j := 1) (k := max dy (-dy)) (by omega) (by omega)
            have e1 : max dx (-dx) * max dx (-dx) = dx * dx := by rcases Int.le_total dx (-dx) with h | h; (rw [Int.max_eq_right h, Int.neg_mul_neg]); (rw [Int.max_eq_left h])
            have e2 : max dy (-dy) * max dy (-dy) = dy * dy := by rcases Int.le_total dy (-dy) with h | h; (rw [Int.max_eq_right h, Int.neg_mul_neg]); (rw [Int.max_eq_left h])
            omega
        have hA := alongLo_sq (dx := dx) (dy := dy) hb
        have hB := alongHi_sq (dx := dx) (dy := dy) hb
        have r1 := mul_abs (x := a) (y := dx) (a := 2000) (b := 10000) (by omega) (by omega)
        have r2 := mul_abs (x := b) (y := dx) (a := 2000) (b := 10000) (by omega) (by omega)
        have r3 := mul_abs (x := c) (y := dy) (a := 2000) (b := 10000) (by omega) (by omega)
        have r4 := mul_abs (x := d) (y := dy) (a := 2000) (b := 10000) (by omega) (by omega)
        have HL := fun w1 => part_calls (alongLo a b c d dx dy) (dx * dx + dy * dy) q0 (by omega) hA w1
        have HR := fun w1 => part_calls (-alongHi a b c d dx dy) (dx * dx + dy * dy) q0 (by omega) hB w1
        have hsr : ∀ n : Int, n * n ≤ 8000000 * (dx * dx + dy * dy) → InR (-shV n (dx * dx + dy * dy)) := fun n hn => shV_in q0 hn
        have hR := hsr _ hB
        obtain ⟨s1, e1⟩ : ∃ s, s = shV (alongLo a b c d dx dy) (dx * dx + dy * dy) := ⟨_, rfl⟩
        obtain ⟨s2, e2⟩ : ∃ s, s = shV (-alongHi a b c d dx dy) (dx * dx + dy * dy) := ⟨_, rfl⟩
        rw [← e1] at HL
        rw [← e2] at HR hR
        rw [← e1, ← e2]
        clear hA hB hsr hW e1 e2
        unfold alongLo at HL
        unfold alongHi at HR
        have k1 : InR (dx * dx) := ⟨by omega, by omega⟩
        have k2 : InR (dy * dy) := ⟨by omega, by omega⟩
        have k3 : InR (dx * dx + dy * dy) := ⟨by omega, by omega⟩
        have ix0 : InR (a * dx) := ⟨by omega, by omega⟩
        have ix1 : InR (b * dx) := ⟨by omega, by omega⟩
        have ix2 : InR (c * dy) := ⟨by omega, by omega⟩
        have ix3 : InR (d * dy) := ⟨by omega, by omega⟩
        refine enterQ (c := cx w 97) Tryz.func150 rfl rfl rfl rfl ?_
        repeat' (first | ((with_reducible apply oq_id); first | (apply oq_fn; exact rfl; first | exact trivial | (refine ⟨?_, ?_⟩ <;> omega) | (refine ⟨?_, ?_, ?_⟩ <;> omega) | omega | skip) | ((with_reducible apply oq_load); exact rfl; exact rfl) | ((with_reducible apply oq_loadAgg); exact rfl; exact rfl) | ((with_reducible apply oq_call (k := 169) (hc := Tryz.call169)); exact rfl; exact rfl; exact fun D w1 hw1 => H1 w1) | ((with_reducible apply oq_call (k := 158) (hc := Tryz.call158)); exact rfl; exact rfl; exact fun D w1 hw1 => (within_calls _ _ _ w1).mono fun e w' h => ⟨h.1, h.2 ▸ Ext.refl _⟩) | ((with_reducible apply oq_call (k := 170) (hc := Tryz.call170)); exact rfl; exact rfl; exact fun D w1 hw1 => HL w1) | ((with_reducible apply oq_call (k := 170) (hc := Tryz.call170)); exact rfl; exact rfl; exact fun D w1 hw1 => HR w1) | ((with_reducible apply oq_build); exact rfl; exact rfl; exact rfl)) | ((with_reducible apply tl_id); first | ((with_reducible apply tl_nil)) | ((with_reducible apply u_q); exact rfl; exact rfl; exact rfl; exact rfl) | ((with_reducible apply u_s0); exact rfl; exact rfl) | ((with_reducible apply u_s); exact rfl; exact rfl; exact rfl) | ((with_reducible apply u_skip); exact rfl; exact rfl; exact rfl) | ((with_reducible apply u_splitD); exact rfl; exact rfl; all_goals first | (intro hp; try (exfalso; omega)) | skip) | ((with_reducible apply u_splitN); exact rfl; exact rfl; all_goals first | (intro hp; try (exfalso; omega)) | skip)) | ((with_reducible apply os_id); first | ((with_reducible apply os_x); exact rfl) | ((with_reducible apply os_storeAgg); exact rfl; exact rfl; exact rfl; exact rfl; exact rfl)) | ((with_reducible apply ox_id); first | ((with_reducible apply ox_alloc); exact rfl; intro _) | ((with_reducible apply ox_boxAgg); exact rfl; intro _)) | ((with_reducible apply rd_id); first | (apply Rd.own; (repeat (first | exact P0 | apply P1)); exact rfl; done)) | ((with_reducible apply t_id); first | ((with_reducible apply t_seq)) | (apply t_region; kernel_rfl) | ((with_reducible apply t_condF); exact rfl) | ((with_reducible apply t_condD); exact rfl; all_goals first | (intro hp; try (exfalso; omega)) | skip) | ((with_reducible apply t_ret)) | ((with_reducible apply t_skip))) | with_reducible apply q_thenN | exact P0 | exact Rdn.zero | apply Rdn.succ | ((with_reducible apply Norm.nil); exact rfl) | ((with_reducible apply Norm.cons); exact rfl) | ((with_reducible apply end_ret)) | exact rvs_nil | ((with_reducible apply rvs_cons)) | ((with_reducible apply rv_tmp); exact rfl) | ((with_reducible apply rv_cellAgg); exact rfl; exact rfl) | exact Nat.le_of_ble_eq_true rfl)
        all_goals rfl
  · have hW : alongV a b c d dx dy = (0, 0, e) := by unfold alongV; rw [he, if_neg he0]
    rw [hW]
    refine enterQ (c := cx w 97) Tryz.func150 rfl rfl rfl rfl ?_
    repeat' (first | ((with_reducible apply oq_id); first | (apply oq_fn; exact rfl; first | exact trivial | (refine ⟨?_, ?_⟩ <;> omega) | (refine ⟨?_, ?_, ?_⟩ <;> omega) | omega | skip) | ((with_reducible apply oq_loadAgg); exact rfl; exact rfl) | ((with_reducible apply oq_call (k := 169) (hc := Tryz.call169)); exact rfl; exact rfl; exact fun D w1 hw1 => H1 w1) | ((with_reducible apply oq_build); exact rfl; exact rfl; exact rfl)) | ((with_reducible apply tl_id); first | ((with_reducible apply tl_nil)) | ((with_reducible apply u_q); exact rfl; exact rfl; exact rfl; exact rfl) | ((with_reducible apply u_s0); exact rfl; exact rfl) | ((with_reducible apply u_s); exact rfl; exact rfl; exact rfl)) | ((with_reducible apply os_id); first | ((with_reducible apply os_x); exact rfl) | ((with_reducible apply os_storeAgg); exact rfl; exact rfl; exact rfl; exact rfl; exact rfl)) | ((with_reducible apply ox_id); first | ((with_reducible apply ox_alloc); exact rfl; intro _) | ((with_reducible apply ox_boxAgg); exact rfl; intro _)) | ((with_reducible apply rd_id); first | (apply Rd.own; (repeat (first | exact P0 | apply P1)); exact rfl; done)) | ((with_reducible apply t_id); first | ((with_reducible apply t_seq)) | (apply t_region; kernel_rfl) | ((with_reducible apply t_condN); exact rfl; all_goals first | (intro hp; try (exfalso; omega)) | skip) | ((with_reducible apply t_ret))) | with_reducible apply q_thenN | with_reducible apply q_thenR | exact P0 | exact Rdn.zero | apply Rdn.succ | ((with_reducible apply Norm.nil); exact rfl) | ((with_reducible apply Norm.cons); exact rfl) | ((with_reducible apply end_ret)) | exact rvs_nil | ((with_reducible apply rvs_cons)) | ((with_reducible apply rv_tmp); exact rfl) | ((with_reducible apply rv_cellAgg); exact rfl; exact rfl) | exact Nat.le_of_ble_eq_true rfl)
    all_goals rfl
end Go.Proofs.YtcjkndjjbjoehaaGreat
namespace Go.Proofs.YtcjkndjjbjoehaaGreat
theorem IsSh.le {n q r k : Int} (hq : 0 < q) (h : IsSh n q r) (hk : ShP n q k) : k ≤ r := by
  rcases Int.lt_or_le r k with g | g
  · exact absurd (hk.mono hq (by omega)) h.2
  · exact g
/-- A sum of two products, squared, is no more than both sums of squares. -/
theorem cauchy (x y p q : Int) : (x * p + y * q) * (x * p + y * q) + (x * -q + y * p) * (x * -q + y * p) = (x * x + y * y) * (p * p + q * q) := by
  simp only [Int.add_mul, Int.mul_add, Int.mul_neg, Int.neg_mul]
  have e1 : x * p * (x * p) = x * x * (p * p) := by ac_rfl
  have e2 : y * q * (y * q) = y * y * (q * q) := by ac_rfl
  have e3 : x * q * (x * q) = x * x * (q * q) := by ac_rfl
  have e4 : y * p * (y * p) = y * y * (p * p) := by ac_rfl
  have e5 : x * p * (y * q) = x * y * (p * q) := by ac_rfl
  have e6 : y * q * (x * p) = x * y * (p * q) := by ac_rfl
  have e7 : x * q * (y * p) = x * y * (p * q) := by ac_rfl
  have e8 : y * p * (x * q) = x * y * (p * q) := by ac_rfl
  omega
theorem cauchy_le (x y p q : Int) : (x * p + y * q) * (x * p + y * q) ≤ (x * x + y * y) * (p * p + q * q) := by
  have h := cauchy x y p q
  have := sq_nn (x * -q + y * p)
  omega
theorem far_sq {a b x : Int} (h1 : a ≤ x) (h2 : x ≤ b) : x * x ≤ farV a b * farV a b := by
  have h : x ≤ farV a b ∧ -x ≤ farV a b := by unfold farV; omega
  rcases Int.le_total 0 x with g | g
  · exact sq_mono g h.1
  · rw [sq_neg x]; exact sq_mono (by omega) h.2
theorem ends_sq {a b c d p q : Int} (hab : a ≤ b) (hcd : c ≤ d) {n : Int} (hn : n = alongLo a b c d p q ∨ n = alongHi a b c d p q) : n * n ≤ (farV a b * farV a b + farV c d * farV c d) * (p * p + q * q) := by
  have key : ∀ x y, a ≤ x → x ≤ b → c ≤ y → y ≤ d → (x * p + y * q) * (x * p + y * q) ≤ (farV a b * farV a b + farV c d * farV c d) * (p * p + q * q) := fun x y h1 h2 h3 h4 => by
    refine Int.le_trans (cauchy_le x y p q) (Int.mul_le_mul_of_nonneg_right ?_ ?_)
    · have := far_sq h1 h2
      have := far_sq h3 h4
      omega
    · have := sq_nn p
      have := sq_nn q
      omega
  have hx : ∃ x, a ≤ x ∧ x ≤ b ∧ ∃ y, c ≤ y ∧ y ≤ d ∧ n = x * p + y * q := by
    rcases hn with rfl | rfl
    · unfold alongLo
      rcases Int.le_total (a * p) (b * p) with h1 | h1 <;> rcases Int.le_total (c * q) (d * q) with h2 | h2
      · exact ⟨a, by omega, by omega, c, by omega, by omega, by omega⟩
      · exact ⟨a, by omega, by omega, d, by omega, by omega, by omega⟩
      · exact ⟨b, by omega, by omega, c, by omega, by omega, by omega⟩
      · exact ⟨b, by omega, by omega, d, by omega, by omega, by omega⟩
    · unfold alongHi
      rcases Int.le_total (a * p) (b * p) with h1 | h1 <;> rcases Int.le_total (c * q) (d * q) with h2 | h2
      · exact ⟨b, by omega, by omega, d, by omega, by omega, by omega⟩
      · exact ⟨b, by omega, by omega, c, by omega, by omega, by omega⟩
      · exact ⟨a, by omega, by omega, d, by omega, by omega, by omega⟩
      · exact ⟨a, by omega, by omega, c, by omega, by omega, by omega⟩
  obtain ⟨x, h1, h2, y, h3, h4, rfl⟩ := hx
  exact key x y h1 h2 h3 h4
def leastV (lo hi : Int) : Int := max (max lo (-hi)) 0
def mostV (lo hi : Int) : Int := max hi (-lo)
/-- The greatest number whose square, times n, is not above x. -/
def IsM (x n r : Int) : Prop := 0 ≤ r ∧ r * r * n ≤ x ∧ x < (r + 1) * (r + 1) * n
theorem sqn_mono {n j k : Int} (hn : 0 ≤ n) (h0 : 0 ≤ j) (h : j ≤ k) : j * j * n ≤ k * k * n := Int.mul_le_mul_of_nonneg_right (sq_mono h0 h) hn
theorem IsM.le {x y n r s : Int} (hn : 0 < n) (h : IsM x n r) (k : IsM y n s) (hxy : x ≤ y) : r ≤ s := by
  rcases Int.lt_or_le s r with g | g
  · have := sqn_mono (n := n) (j := s + 1) (k := r) (by omega) (by have := k.1; omega) (by omega)
    have := h.2.1
    have := k.2.2
    omega
  · exact g
theorem IsM.uniq {x n r s : Int} (hn : 0 < n) (h : IsM x n r) (k : IsM x n s) : r = s := Int.le_antisymm (h.le hn k (Int.le_refl _)) (k.le hn h (Int.le_refl _))
noncomputable def mrV (x n : Int) : Int := open Classical in if h : ∃ r, IsM x n r then Classical.choose h else 0
theorem IsM.val {x n r : Int} (hn : 0 < n) (h : IsM x n r) : mrV x n = r := by
  unfold mrV
  have hex : ∃ r, IsM x n r := ⟨r, h⟩
  rw [dif_pos hex]
  exact (Classical.choose_spec hex).uniq hn h
/-- The least number whose square, times n, is not below x. -/
noncomputable def mhV (x n : Int) : Int := if mrV x n * mrV x n * n < x then mrV x n + 1 else mrV x n
/-- The squares of the least and of the greatest crosswind, times the square of the axis' length. -/
def acLo (a b c d p q : Int) : Int := alongLo a b c d q (-p)
def acHi (a b c d p q : Int) : Int := alongHi a b c d q (-p)
def nearC (a b c d p q : Int) : Int := leastV (acLo a b c d p q) (acHi a b c d p q)
def farC (a b c d p q : Int) : Int := mostV (acLo a b c d p q) (acHi a b c d p q)
end Go.Proofs.YtcjkndjjbjoehaaGreat
namespace Go.Proofs.YtcjkndjjbjoehaaGreat
open Go.RowKit
section
variable {c : Cx} {F : Fr} {H : Hp} {d : Option Tmp} {ty t t' : TypeId} {pos : String} {af : Array Edge} {g : Option (Nat × Bool)} {x y : Operand} {m n k : Int} {v u : Value}
theorem OQ.as {o : Oper} (h : OQ c o F H u) (e : u = v) : OQ c o F H v := e ▸ h
theorem oq_subE (hx : ev F x = some (.int .i64 m)) (hy : ev F y = some (.int .i64 n)) (e : m - n = k ∧ -9223372036854775808 ≤ k ∧ k ≤ 9223372036854775807) : OQ c ⟨d, .binOp .sub t x y t', ty, pos, af, g⟩ F H (.int .i64 k) :=
  (oq_sub hx hy ⟨by omega, by omega⟩).as (by rw [e.1])
theorem oq_addE (hx : ev F x = some (.int .i64 m)) (hy : ev F y = some (.int .i64 n)) (e : m + n = k ∧ -9223372036854775808 ≤ k ∧ k ≤ 9223372036854775807) : OQ c ⟨d, .binOp .add t x y t', ty, pos, af, g⟩ F H (.int .i64 k) :=
  (oq_add hx hy ⟨by omega, by omega⟩).as (by rw [e.1])
theorem oq_min2E {T : Array TypeId} (hx : ev F x = some (.int .i64 m)) (hy : ev F y = some (.int .i64 n)) (e : min m n = k) : OQ c ⟨d, .call ⟨.builtin .min, #[x, y], T⟩, ty, pos, af, g⟩ F H (.int .i64 k) :=
  (oq_min2 hx hy).as (by rw [e])
theorem oq_max2E {T : Array TypeId} (hx : ev F x = some (.int .i64 m)) (hy : ev F y = some (.int .i64 n)) (e : max m n = k) : OQ c ⟨d, .call ⟨.builtin .max, #[x, y], T⟩, ty, pos, af, g⟩ F H (.int .i64 k) :=
  (oq_max2 hx hy).as (by rw [e])
theorem oq_shr1N {k' : IntKind} {a : Nat} (hx : ev F x = some (.int .u64 m)) (hy : ev F y = some (.int k' 1)) (e : m = (a : Int)) : OQ c ⟨d, .binOp .shr t x y t', ty, pos, af, g⟩ F H (.int .u64 ((a / 2 : Nat) : Int)) :=
  (oq_shr1U hx hy (by omega)).as (by subst e; simp)
end
end Go.Proofs.YtcjkndjjbjoehaaGreat

