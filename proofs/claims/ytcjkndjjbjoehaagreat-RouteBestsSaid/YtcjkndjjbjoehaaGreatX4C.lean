/- A part of the proof: rules for walks, and contracts of functions (3). -/
import Derived.Test.YtcjkndjjbjoehaaGreatX4A
import Derived.Test.YtcjkndjjbjoehaaGreatX4B
set_option linter.unusedVariables false
set_option linter.unusedSimpArgs false
set_option maxRecDepth 100000
set_option maxHeartbeats 2000000
namespace Go.Proofs.YtcjkndjjbjoehaaGreat
theorem goC0 {G A1 A2 A3 A4 A5 A6 A7 A8 A9 A10 A11 A12 A13 A14 A15 A16 : Prop} (p : GoP A1 A2 A3 A4 A5 A6 A7 A8 A9 A10 A11 A12 A13 A14 A15 A16) (h : GoL A1 → GoL A2 → GoL A3 → GoL A4 → GoL A5 → GoL A6 → GoL A7 → GoL A8 → GoL A9 → GoL A10 → GoL A11 → GoL A12 → GoL A13 → GoL A14 → GoL A15 → GoL A16 → GoM → G := by intro m1 m2 m3 m4 m5 m6 m7 m8 m9 m10 m11 m12 m13 m14 m15 m16 _; (repeat' (first | ((with_reducible apply oq_id); first | ((with_reducible apply oq_call (k := 157) (hc := Tryz.call157)); exact rfl; exact rfl; exact fun D w1 hw1 => isNaN_calls _ w1) | ((with_reducible apply ob_id); first | ((with_reducible apply oq_lssT); exact rfl; exact rfl; omega) | ((with_reducible apply oq_lssF); exact rfl; exact rfl; omega) | ((with_reducible apply oq_neqT); exact rfl; exact rfl; omega) | ((with_reducible apply oq_neqF); exact rfl; exact rfl; omega) | ((with_reducible apply oq_gtrT); exact rfl; exact rfl; omega) | ((with_reducible apply oq_gtrF); exact rfl; exact rfl; omega)) | (focus ((with_reducible apply oq_indexAddrN); exact rfl; exact rfl; exact rfl; exact rfl; omega)) | (apply oq_fn; exact rfl; first | exact trivial | (refine ⟨?_, ?_⟩ <;> omega) | (refine ⟨?_, ?_, ?_⟩ <;> omega) | omega | skip) | ((with_reducible apply oq_load); exact rfl; exact rfl) | ((with_reducible apply oq_loadAgg); exact rfl; exact rfl) | ((with_reducible apply oq_build); exact rfl; exact rfl; exact rfl) | ((with_reducible apply oq_buildA); exact rfl; exact rfl; exact rfl; exact rfl) | ((with_reducible apply oq_fieldAgg); exact rfl; exact rfl; exact rfl) | ((with_reducible apply oq_indexAgg); exact rfl; exact rfl; exact rfl; exact rfl)) | ((with_reducible apply tl_id); first | ((with_reducible apply tl_nil)) | ((with_reducible apply u_q); exact rfl; exact rfl; exact rfl; exact rfl) | ((with_reducible apply u_s0); exact rfl; exact rfl) | ((with_reducible apply u_s); exact rfl; exact rfl; exact rfl) | ((with_reducible apply u_skip); exact rfl; exact rfl; exact rfl) | ((with_reducible apply u_splitD); exact rfl; exact rfl; all_goals first | (intro _; try (exfalso; omega)) | skip) | ((with_reducible apply u_splitN); exact rfl; exact rfl; all_goals first | (intro _; try (exfalso; omega)) | skip) | ((with_reducible apply u_split); exact rfl; exact rfl; all_goals first | intro _ | skip)) | ((with_reducible apply gx_id); first | ((with_reducible apply v_nil)) | ((with_reducible apply v_q); exact rfl; exact rfl; exact rfl) | ((with_reducible apply v_skip); exact rfl; exact rfl; exact rfl) | ((with_reducible apply v_splitD); exact rfl; exact rfl; all_goals first | (intro _; try (exfalso; omega)) | skip) | ((with_reducible apply v_splitN); exact rfl; exact rfl; all_goals first | (intro _; try (exfalso; omega)) | skip) | ((with_reducible apply v_split); exact rfl; exact rfl; all_goals first | intro _ | skip)) | ((with_reducible apply os_id); first | ((with_reducible apply os_x); exact rfl) | ((with_reducible apply os_store); exact rfl; exact rfl; exact rfl; exact rfl) | ((with_reducible apply os_storeAgg); exact rfl; exact rfl; exact rfl; exact rfl; exact rfl)) | ((with_reducible apply ox_id); first | ((with_reducible apply ox_alloc); exact rfl; intro _) | ((with_reducible apply ox_box); exact rfl; exact rfl; intro _) | ((with_reducible apply ox_boxAgg); exact rfl; intro _) | ((with_reducible apply ox_buildSlice1); exact rfl; exact rfl; exact rfl; exact rfl; exact rfl; exact rfl; intro _) | ((with_reducible apply ox_buildSlice2); exact rfl; exact rfl; exact rfl; exact rfl; exact rfl; exact rfl; intro _) | ((with_reducible apply ox_buildSlice); exact rfl; exact rfl; exact rfl; exact rfl)) | ((with_reducible apply rd_id); first | (apply Rd.own; (repeat (first | exact P0 | apply P1)); exact rfl; done) | (apply Rd.old; (first | (with_reducible assumption) | exact c0 | exact c1 | exact c2 | exact c3 | exact c4 | exact c5 | exact c6 | exact c7 | exact c8 | exact d0 | exact d1 | exact d2 | exact d3 | exact d4 | exact d5); first | exact List.not_mem_nil | exact m0 | exact m1 | exact m2 | exact m3 | exact m4 | exact m5 | exact m6 | exact m7 | exact m8 | exact m9)) | ((with_reducible apply t_id); first | ((with_reducible apply t_seq)) | (apply t_region; kernel_rfl) | (apply t_drawn; kernel_rfl; decide +kernel; try simp only [List.append_eq, List.cons_append, List.nil_append]) | ((with_reducible apply t_condT); exact rfl) | ((with_reducible apply t_condF); exact rfl) | ((with_reducible apply t_condD); exact rfl; all_goals first | (intro _; try (exfalso; omega)) | skip) | ((with_reducible apply t_condN); exact rfl; all_goals first | (intro _; try (exfalso; omega)) | skip) | ((with_reducible apply t_cond); exact rfl; all_goals first | intro _ | skip) | ((with_reducible apply t_ret)) | ((with_reducible apply t_skip)) | ((with_reducible apply t_exit)) | ((with_reducible apply t_block))) | with_reducible apply q_thenN | with_reducible apply q_thenR | with_reducible apply q_blockR | with_reducible apply q_blockN | with_reducible apply q_thenE | ((with_reducible apply q_blockE); exact rfl) | ((with_reducible apply q_blockO); exact rfl) | exact P0 | ((with_reducible apply P1)) | exact Rdn.zero | apply Rdn.succ | ((with_reducible apply Norm.nil); exact rfl) | ((with_reducible apply Norm.cons); exact rfl) | ((with_reducible apply end_ret)) | ((with_reducible apply end_normal)) | exact rvs_nil | ((with_reducible apply rvs_cons)) | ((with_reducible apply rv_tmp); exact rfl) | ((with_reducible apply rv_cell); exact rfl; exact rfl) | ((with_reducible apply rv_cellAgg); exact rfl; exact rfl) | exact Nat.le_of_ble_eq_true rfl | exact (rfl : (_ : Bool) = true) | omega | (intro _ _; with_reducible apply tl_id) | (intro _; with_reducible apply tl_id) | (intro _ _; with_reducible apply al_id) | (intro _; with_reducible apply al_id))); (try focus (repeat (rename_i x; first | exact goD x m1.p | revert x))); (try focus (repeat (rename_i x; first | exact goD x m2.p | revert x))); (try focus (repeat (rename_i x; first | exact goD x m3.p | revert x))); (try focus (repeat (rename_i x; first | exact goD x m4.p | revert x))); (try focus (repeat (rename_i x; first | exact goD x m5.p | revert x))); (try focus (repeat (rename_i x; first | exact goD x m6.p | revert x))); (try focus (repeat (rename_i x; first | exact goD x m7.p | revert x))); (try focus (repeat (rename_i x; first | exact goD x m8.p | revert x))); (try focus (repeat (rename_i x; first | exact goD x m9.p | revert x))); (try focus (repeat (rename_i x; first | exact goD x m10.p | revert x))); (try focus (repeat (rename_i x; first | exact goD x m11.p | revert x))); (try focus (repeat (rename_i x; first | exact goD x m12.p | revert x))); (try focus (repeat (rename_i x; first | exact goD x m13.p | revert x))); (try focus (repeat (rename_i x; first | exact goD x m14.p | revert x))); (try focus (repeat (rename_i x; first | exact goD x m15.p | revert x))); (try focus (repeat (rename_i x; first | exact goD x m16.p | revert x)))) (e : GoTs A1 A2 A3 A4 A5 A6 A7 A8 A9 A10 A11 A12 A13 A14 A15 A16 := by constructor <;> first | (with_reducible exact GoT.t) | exact GoT.u) : G := p.run h
theorem goC1 {G A1 A2 A3 A4 A5 A6 A7 A8 A9 A10 A11 A12 A13 A14 A15 A16 : Prop} (p : GoP A1 A2 A3 A4 A5 A6 A7 A8 A9 A10 A11 A12 A13 A14 A15 A16) (h : GoL A1 → GoL A2 → GoL A3 → GoL A4 → GoL A5 → GoL A6 → GoL A7 → GoL A8 → GoL A9 → GoL A10 → GoL A11 → GoL A12 → GoL A13 → GoL A14 → GoL A15 → GoL A16 → GoM → G := by intro m1 m2 m3 m4 m5 m6 m7 m8 m9 m10 m11 m12 m13 m14 m15 m16 _; (repeat' (first | ((with_reducible apply oq_id); first | (apply oq_fn; exact rfl; first | exact trivial | (refine ⟨?_, ?_⟩ <;> omega) | (refine ⟨?_, ?_, ?_⟩ <;> omega) | omega | skip) | ((with_reducible apply oq_load); exact rfl; exact rfl) | ((with_reducible apply oq_loadAgg); exact rfl; exact rfl) | ((with_reducible apply oq_build); exact rfl; exact rfl; exact rfl) | ((with_reducible apply oq_buildA); exact rfl; exact rfl; exact rfl; exact rfl) | ((with_reducible apply oq_fieldAgg); exact rfl; exact rfl; exact rfl) | ((with_reducible apply oq_indexAgg); exact rfl; exact rfl; exact rfl; exact rfl)) | ((with_reducible apply tl_id); first | ((with_reducible apply tl_nil)) | ((with_reducible apply u_q); exact rfl; exact rfl; exact rfl; exact rfl) | ((with_reducible apply u_s0); exact rfl; exact rfl) | ((with_reducible apply u_s); exact rfl; exact rfl; exact rfl) | ((with_reducible apply u_skip); exact rfl; exact rfl; exact rfl) | ((with_reducible apply u_splitD); exact rfl; exact rfl; all_goals first | (intro _; try (exfalso; omega)) | skip) | ((with_reducible apply u_splitN); exact rfl; exact rfl; all_goals first | (intro _; try (exfalso; omega)) | skip) | ((with_reducible apply u_split); exact rfl; exact rfl; all_goals first | intro _ | skip)) | ((with_reducible apply gx_id); first | ((with_reducible apply v_nil)) | ((with_reducible apply v_q); exact rfl; exact rfl; exact rfl) | ((with_reducible apply v_skip); exact rfl; exact rfl; exact rfl) | ((with_reducible apply v_splitD); exact rfl; exact rfl; all_goals first | (intro _; try (exfalso; omega)) | skip) | ((with_reducible apply v_splitN); exact rfl; exact rfl; all_goals first | (intro _; try (exfalso; omega)) | skip) | ((with_reducible apply v_split); exact rfl; exact rfl; all_goals first | intro _ | skip)) | ((with_reducible apply os_id); first | ((with_reducible apply os_x); exact rfl) | ((with_reducible apply os_store); exact rfl; exact rfl; exact rfl; exact rfl) | ((with_reducible apply os_storeAgg); exact rfl; exact rfl; exact rfl; exact rfl; exact rfl)) | ((with_reducible apply ox_id); first | ((with_reducible apply ox_alloc); exact rfl; intro _) | ((with_reducible apply ox_box); exact rfl; exact rfl; intro _) | ((with_reducible apply ox_boxAgg); exact rfl; intro _) | ((with_reducible apply ox_buildSlice1); exact rfl; exact rfl; exact rfl; exact rfl; exact rfl; exact rfl; intro _) | ((with_reducible apply ox_buildSlice2); exact rfl; exact rfl; exact rfl; exact rfl; exact rfl; exact rfl; intro _) | ((with_reducible apply ox_buildSlice); exact rfl; exact rfl; exact rfl; exact rfl)) | ((with_reducible apply rd_id); first | (apply Rd.own; (repeat (first | exact P0 | apply P1)); exact rfl; done) | (apply Rd.old; (first | (with_reducible assumption) | exact c0 | exact c1 | exact c2 | exact c3 | exact c4 | exact c5 | exact c6 | exact c7 | exact c8 | exact d0 | exact d1 | exact d2 | exact d3 | exact d4 | exact d5); first | exact List.not_mem_nil | exact m0 | exact m1 | exact m2 | exact m3 | exact m4 | exact m5 | exact m6 | exact m7 | exact m8 | exact m9)) | ((with_reducible apply t_id); first | ((with_reducible apply t_seq)) | (apply t_region; kernel_rfl) | (apply t_drawn; kernel_rfl; decide +kernel; try simp only [List.append_eq, List.cons_append, List.nil_append]) | ((with_reducible apply t_condT); exact rfl) | ((with_reducible apply t_condF); exact rfl) | ((with_reducible apply t_condD); exact rfl; all_goals first | (intro _; try (exfalso; omega)) | skip) | ((with_reducible apply t_condN); exact rfl; all_goals first | (intro _; try (exfalso; omega)) | skip) | ((with_reducible apply t_cond); exact rfl; all_goals first | intro _ | skip) | ((with_reducible apply t_ret)) | ((with_reducible apply t_skip)) | ((with_reducible apply t_exit)) | ((with_reducible apply t_block))) | with_reducible apply q_thenN | with_reducible apply q_thenR | with_reducible apply q_blockR | with_reducible apply q_blockN | with_reducible apply q_thenE | ((with_reducible apply q_blockE); exact rfl) | ((with_reducible apply q_blockO); exact rfl) | exact P0 | ((with_reducible apply P1)) | exact Rdn.zero | apply Rdn.succ | ((with_reducible apply Norm.nil); exact rfl) | ((with_reducible apply Norm.cons); exact rfl) | ((with_reducible apply end_ret)) | ((with_reducible apply end_normal)) | exact rvs_nil | ((with_reducible apply rvs_cons)) | ((with_reducible apply rv_tmp); exact rfl) | ((with_reducible apply rv_cell); exact rfl; exact rfl) | ((with_reducible apply rv_cellAgg); exact rfl; exact rfl) | exact Nat.le_of_ble_eq_true rfl | exact (rfl : (_ : Bool) = true) | omega | (intro _ _; with_reducible apply tl_id) | (intro _; with_reducible apply tl_id) | (intro _ _; with_reducible apply al_id) | (intro _; with_reducible apply al_id))); (try focus (repeat (rename_i x; first | exact goD x m1.p | revert x))); (try focus (repeat (rename_i x; first | exact goD x m2.p | revert x))); (try focus (repeat (rename_i x; first | exact goD x m3.p | revert x))); (try focus (repeat (rename_i x; first | exact goD x m4.p | revert x))); (try focus (repeat (rename_i x; first | exact goD x m5.p | revert x))); (try focus (repeat (rename_i x; first | exact goD x m6.p | revert x))); (try focus (repeat (rename_i x; first | exact goD x m7.p | revert x))); (try focus (repeat (rename_i x; first | exact goD x m8.p | revert x))); (try focus (repeat (rename_i x; first | exact goD x m9.p | revert x))); (try focus (repeat (rename_i x; first | exact goD x m10.p | revert x))); (try focus (repeat (rename_i x; first | exact goD x m11.p | revert x))); (try focus (repeat (rename_i x; first | exact goD x m12.p | revert x))); (try focus (repeat (rename_i x; first | exact goD x m13.p | revert x))); (try focus (repeat (rename_i x; first | exact goD x m14.p | revert x))); (try focus (repeat (rename_i x; first | exact goD x m15.p | revert x))); (try focus (repeat (rename_i x; first | exact goD x m16.p | revert x)))) (e : GoTs A1 A2 A3 A4 A5 A6 A7 A8 A9 A10 A11 A12 A13 A14 A15 A16 := by constructor <;> first | (with_reducible exact GoT.t) | exact GoT.u) : G := p.run h
open Go.RowKit
attribute [local irreducible] OQ OS OX Rd T TL GX GL AL AI RV wpG SAny Calls
theorem isNaN_calls (a : Int) (w : World) : Calls Tryz.prog 157 #[.int .i64 a] w fun e w' => e = .returned (.bool false) ∧ Ext w w' := by
  refine enterQ (c := cx w 6) Tryz.func157 rfl rfl rfl rfl ?_
  ((all_goals refine goC0 ?_); (all_goals constructor); (any_goals exact trivial); all_goals intros)
  all_goals rfl
theorem cmpI_calls (a b : Int) (w : World) : Calls Tryz.prog 134 #[.int .i64 a, .int .i64 b] w fun e w' => e = .returned (.int .i64 (cmpI a b)) ∧ Ext w w' := by
  rcases Int.lt_trichotomy a b with h | h | h
  · rw [show cmpI a b = -1 by unfold cmpI; rw [if_pos h]]
    refine enterQ (c := cx w 20) Tryz.func134 rfl rfl rfl rfl ?_
    ((all_goals refine goC0 ?_); (all_goals constructor); (any_goals exact trivial); all_goals intros)
    all_goals rfl
  · rw [show cmpI a b = 0 by unfold cmpI; rw [if_neg (by omega), if_neg (by omega)]]
    refine enterQ (c := cx w 20) Tryz.func134 rfl rfl rfl rfl ?_
    ((all_goals refine goC0 ?_); (all_goals constructor); (any_goals exact trivial); all_goals intros)
    all_goals rfl
  · rw [show cmpI a b = 1 by unfold cmpI; rw [if_neg (by omega), if_pos h]]
    refine enterQ (c := cx w 20) Tryz.func134 rfl rfl rfl rfl ?_
    ((all_goals refine goC0 ?_); (all_goals constructor); (any_goals exact trivial); all_goals intros)
    all_goals rfl
theorem flag_calls (b : Bool) (w : World) : Calls Tryz.prog 133 #[.bool b] w fun e w' => e = .returned (.int .i64 (if b then 1 else 0)) ∧ Ext w w' := by
  cases b
  · refine enterQ (c := cx w 4) Tryz.func133 rfl rfl rfl rfl ?_
    ((all_goals refine goC1 ?_); (all_goals constructor); (any_goals exact trivial); all_goals intros)
    all_goals rfl
  · refine enterQ (c := cx w 4) Tryz.func133 rfl rfl rfl rfl ?_
    ((all_goals refine goC1 ?_); (all_goals constructor); (any_goals exact trivial); all_goals intros)
    all_goals rfl
theorem or2_calls (A : Option Addr) (c : Nat) (a b : Int) (w : World) (hr : RdS w 1 A 2 ([a, b].map inCells)) : Calls Tryz.prog 135 #[.slice A 2 c] w fun e w' => e = .returned (.int .i64 (if a ≠ 0 then a else b)) ∧ Ext w w' := by
  obtain ⟨b1, o1, x, rfl, _, hx, c0⟩ := in_read hr (show 0 < 2 by omega)
  obtain ⟨b2, o2, y, e2, _, hy, c1⟩ := in_read hr (show 1 < 2 by omega)
  simp only [Option.some.injEq, Addr.mk.injEq] at e2
  obtain ⟨rfl, rfl, _⟩ := e2
  simp only [List.getElem?_cons_zero, List.getElem?_cons_succ, Option.some.injEq] at hx hy
  subst hx
  subst hy
  refine enterQ (c := cx w 18) Tryz.func135 rfl rfl rfl rfl ?_
  ((all_goals refine goC0 ?_); (all_goals constructor); (any_goals exact trivial); all_goals intros)
  apply t_loopK (ι := Nat) [0, 3, 6, 7] (fun k => [(8, .int .i64 ((k : Nat) : Int))]) (fun _ => []) (fun k => k ≤ 2 ∧ (0 < k → a = 0) ∧ (1 < k → b = 0)) (fun k => 2 - k) (0)
  (repeat (first | exact KeepF.nil | (apply KeepF.cons; exact rfl) | apply KeepF.skip))
  (repeat (first | exact FrSub.nil | (apply FrSub.cons; exact rfl)))
  (repeat (first | exact HpSub.refl _ | (apply HpSub.consE; (repeat (first | exact P0 | apply P1)); exact rfl) | exact HpSub.nil))
  · exact ⟨Nat.zero_le _, fun h => by omega, fun h => by omega⟩
  rintro k ⟨hk, p1, p2⟩
  try simp only [List.cons_append, List.nil_append]
  by_cases hlt : k < 2
  · rcases (show k = 0 ∨ k = 1 by omega) with rfl | rfl
    · by_cases hz : a = 0
      · ((all_goals refine goC0 ?_); (all_goals constructor); (any_goals exact trivial); all_goals intros)
        all_goals (refine ⟨1, ⟨by omega, fun _ => hz, fun h => (by omega)⟩, by omega, ?_, ?_⟩ <;> (repeat' (first | exact FrSub.nil | (apply FrSub.cons; exact rfl) | exact HpSub.refl _ | (apply HpSub.consE; (repeat (first | exact P0 | apply P1)); exact rfl) | exact HpSub.nil)))
      · rw [if_pos hz]
        ((all_goals refine goC0 ?_); (all_goals constructor); (any_goals exact trivial); all_goals intros)
        all_goals rfl
    · have ha := p1 (by omega)
      rw [if_neg (by omega)]
      by_cases hz : b = 0
      · ((all_goals refine goC0 ?_); (all_goals constructor); (any_goals exact trivial); all_goals intros)
        all_goals (refine ⟨2, ⟨by omega, fun _ => ha, fun _ => hz⟩, by omega, ?_, ?_⟩ <;> (repeat' (first | exact FrSub.nil | (apply FrSub.cons; exact rfl) | exact HpSub.refl _ | (apply HpSub.consE; (repeat (first | exact P0 | apply P1)); exact rfl) | exact HpSub.nil)))
      · ((all_goals refine goC0 ?_); (all_goals constructor); (any_goals exact trivial); all_goals intros)
        all_goals rfl
  · have ha := p1 (by omega)
    have hb := p2 (by omega)
    rw [if_neg (by omega), hb]
    ((all_goals refine goC0 ?_); (all_goals constructor); (any_goals exact trivial); all_goals intros)
    all_goals rfl
end Go.Proofs.YtcjkndjjbjoehaaGreat
namespace Go.Proofs.YtcjkndjjbjoehaaGreat
open Go.RowKit
theorem Has.blkP {w0 : World} {M : Ms} {H H' : Hp} {w : World} {b : Nat} {C : List Value} {tg : Tg} (h : Has w0 M H w) (p : Pick H b C tg H') : Blk w b C tg := (h.blk _ p.mem).2
theorem Has.right {w0 : World} {M : Ms} {w : World} {G H : Hp} (h : Has w0 M (G ++ H) w) : Has w0 M H w :=
  ⟨h.ext, fun x hx => h.blk x (List.mem_append_right _ hx), by have := h.nodup; rw [List.map_append, List.nodup_append] at this; exact this.2.1, h.marks⟩
theorem Has.left {w0 : World} {M : Ms} {w : World} {G H : Hp} (h : Has w0 M (G ++ H) w) : Has w0 M G w :=
  ⟨h.ext, fun x hx => h.blk x (List.mem_append_left _ hx), by have := h.nodup; rw [List.map_append, List.nodup_append] at this; exact this.1, h.marks⟩
theorem HpSub.skipX {x : Nat × List Value × Tg} {H G : Hp} (h : HpSub H G) : HpSub (x :: H) G := by
  induction h with
  | nil => exact .nil
  | cons p _ ih => exact .cons (.tail p) ih
theorem HpSub.appLeft {G R : Hp} : HpSub (G ++ R) G := by
  induction G with
  | nil => exact HpSub.nil
  | cons x G ih => obtain ⟨b, C, g⟩ := x; exact HpSub.cons P0 ih
theorem HpSub.skipApp {G R X : Hp} (h : HpSub R X) : HpSub (G ++ R) X := by
  induction G with
  | nil => exact h
  | cons x G ih => exact HpSub.skipX ih
theorem hp_perm : ∀ {G H : Hp}, H.Perm G → HpSub H G
  | [], H, _ => HpSub.nil
  | (b, C, g) :: G, H, h => by
    have hm : (b, C, g) ∈ H := h.mem_iff.2 (List.mem_cons_self ..)
    obtain ⟨H', hp⟩ : ∃ H', Pick H b C g H' := by
      clear h
      induction H with
      | nil => cases hm
      | cons x H ih =>
        rcases List.mem_cons.1 hm with rfl | hm
        · exact ⟨H, Pick.head _ _ _ _⟩
        · obtain ⟨H', hp⟩ := ih hm
          exact ⟨x :: H', hp.tail⟩
    exact HpSub.cons hp (hp_perm ((hp.perm.symm.trans h).cons_inv))
theorem hp_comm (A B : Hp) : HpSub (A ++ B) (B ++ A) := hp_perm List.perm_append_comm
theorem HpSub.front {x : Nat × List Value × Tg} {H G : Hp} (h : HpSub H G) : HpSub (x :: H) (x :: G) := by
  obtain ⟨b, C, g⟩ := x; exact HpSub.cons P0 h
/-- What holds of the blocks H holds of the blocks G. -/
def HpW (H G : Hp) : Prop := ∀ w0 M w, Has w0 M H w → Has w0 M G w
theorem HpSub.w {H G : Hp} (h : HpSub H G) : HpW H G := fun _ _ _ hw => hw.sub h
theorem HpW.refl (H : Hp) : HpW H H := fun _ _ _ h => h
theorem HpW.trans {H G K : Hp} (h : HpW H G) (k : HpW G K) : HpW H K := fun _ _ _ hw => k _ _ _ (h _ _ _ hw)
theorem Blk.pre {w : World} {b : Nat} {C D : List Value} {tg : Tg} (h : Blk w b (C ++ D) tg) : Blk w b C tg := by
  rcases h with ⟨c, t, e1, e2, e3⟩ | ⟨e, h⟩
  · exact .inl ⟨c, t, e1, fun o v ho => e2 o v (by
      have := (List.getElem?_eq_some_iff.1 ho).1
      rw [List.getElem?_append_left this]; exact ho), e3⟩
  · exact .inr ⟨(List.append_eq_nil_iff.1 e).1, h⟩
theorem HpW.pre {b : Nat} {C D : List Value} {tg : Tg} {H : Hp} : HpW ((b, C ++ D, tg) :: H) ((b, C, tg) :: H) := fun w0 M w h => by
  refine ⟨h.ext, fun x hx => ?_, h.nodup, h.marks⟩
  rcases List.mem_cons.1 hx with rfl | hx
  · have h1 := h.blk _ (List.mem_cons_self ..)
    exact ⟨h1.1, h1.2.pre⟩
  · exact h.blk _ (List.mem_cons_of_mem _ hx)
theorem HpW.cons {x : Nat × List Value × Tg} {H G : Hp} (h : ∀ w0 M w, Has w0 M (x :: H) w → Has w0 M (x :: G) w) : HpW (x :: H) (x :: G) := h
section
variable {c : Cx} {S : WS c.P} {Q : QS} {F : Fr} {H G R : Hp} {x y : Code} {K : Value → Hp → Prop} {d : Option Tmp} {ty : TypeId} {pos : String} {af : Array Edge} {g : Option (Nat × Bool)} {PV : Value → Hp → Prop} {v : Value}
theorem t_subW (hH : HpW H G) (h : T c S x Q F G) : T c S x Q F H := fun D a w ha hw => h D a w ha (hH _ _ _ hw)
/-! Interfaces -/
end
/-- Where a queue lies: its block, the place of its first one, the room from there, the room of the block, what is known of the block. -/
structure Qm where
  b : Nat
  o : Nat
  cap : Nat
  c0 : Nat
  C : List Value
def Qok (q : List Int) (m : Qm) : Prop := (m.cap = 0 ∧ q = []) ∨ (∃ pre : List Value, pre.length = m.o ∧ m.C = pre ++ q.map iv ∧ m.c0 = m.o + m.cap ∧ 0 < m.cap)
theorem Qok.at_ {q : List Int} {m : Qm} (h : Qok q m) {i : Nat} {z : Int} (hz : q[i]? = some z) : m.C[m.o + i * 1]? = some (.int .i64 z) := by
  rcases h with ⟨_, rfl⟩ | ⟨pre, h1, h2, _⟩
  · simp at hz
  · rw [h2, List.getElem?_append_right (by omega), List.getElem?_map, show m.o + i * 1 - pre.length = i by omega, hz]; rfl
/-- Sliced from the second one on. -/
def Qm.tail (m : Qm) : Qm := if m.cap = 1 then { m with cap := 0 } else { m with o := m.o + 1, cap := m.cap - 1 }
theorem Qok.tail {q : List Int} {m : Qm} {z : Int} (h : Qok (z :: q) m) (hc : (z :: q).length ≤ m.cap) : Qok q m.tail := by
  rcases h with ⟨_, e⟩ | ⟨pre, h1, h2, h3, h4⟩
  · cases e
  · unfold Qm.tail
    simp only [List.length_cons] at hc
    split
    · exact .inl ⟨rfl, List.eq_nil_of_length_eq_zero (by omega)⟩
    · exact .inr ⟨pre ++ [iv z], by simp [h1], by simp [h2], by simp only []; omega, by simp only []; omega⟩
section
variable {c : Cx} {F : Fr} {H H' : Hp} {K : Value → Hp → Prop} {d : Option Tmp} {ty t : TypeId} {pos : String} {af : Array Edge} {g : Option (Nat × Bool)} {x y s : Operand}
theorem Blk.more {w : World} {b e cap : Nat} {C : List Value} (h : Blk w b C (some (e, 1, cap))) (hc : C.length < cap) : ∃ u, Blk w b (C ++ [u]) (some (e, 1, cap)) := by
  rcases h with ⟨c, t, h1, h2, h3, h4, h5⟩ | ⟨_, t, L, e, _⟩
  · have hlt : C.length < c.size := by omega
    refine ⟨c[C.length], .inl ⟨c, t, h1, fun o v ho => ?_, h3, h4, h5⟩⟩
    rw [List.getElem?_append] at ho
    split at ho
    · exact h2 o v ho
    · have ho2 : o - C.length = 0 := by
        have := (List.getElem?_eq_some_iff.1 ho).1
        simp at this; omega
      rw [ho2] at ho
      have hv : c[C.length] = v := by simpa using ho
      have : o = C.length := by omega
      subst this
      rw [← hv]
      exact Array.getElem?_eq_getElem hlt
  · simp only [mapTg, Option.some.injEq, Prod.mk.injEq] at e
    omega
end
end Go.Proofs.YtcjkndjjbjoehaaGreat
namespace Go.Proofs.YtcjkndjjbjoehaaGreat
theorem countP_drop {α : Type} {p : α → Bool} : ∀ {l : List α} {i : Nat} {u v : α}, l[i]? = some u → p u = true → p v = false → (l.set i v).countP p + 1 = l.countP p
  | [], i, u, v, h, _, _ => by simp at h
  | x :: l, 0, u, v, h, hu, hv => by
    obtain rfl : x = u := by simpa using h
    simp [List.countP_cons, hu, hv]
  | x :: l, i + 1, u, v, h, hu, hv => by
    have := countP_drop (l := l) (i := i) (by simpa using h) hu hv
    simp only [List.set_cons_succ, List.countP_cons]
    omega
/-- The cells beside a cell. -/
def nb (W n a : Nat) : List Nat :=
  (if W ≤ a then [a - W] else []) ++ ((if 0 < a % W then [a - 1] else []) ++ ((if a % W + 1 < W then [a + 1] else []) ++ (if a + W < n then [a + W] else [])))
theorem mem_nb {W n a c : Nat} : c ∈ nb W n a ↔ (W ≤ a ∧ c = a - W) ∨ (0 < a % W ∧ c = a - 1) ∨ (a % W + 1 < W ∧ c = a + 1) ∨ (a + W < n ∧ c = a + W) := by
  unfold nb
  simp only [List.mem_append]
  constructor
  · rintro (h | h | h | h) <;> split at h <;> simp at h <;> omega
  · rintro (⟨h, rfl⟩ | ⟨h, rfl⟩ | ⟨h, rfl⟩ | ⟨h, rfl⟩) <;> simp [h]
/-- A terrain's frame. -/
structure Ter (W Hh n : Nat) : Prop where
  w1 : 1 ≤ W
  h1 : 1 ≤ Hh
  w24 : W ≤ 24
  h24 : Hh ≤ 24
  hn : n = W * Hh
theorem Ter.n0 {W Hh n : Nat} (h : Ter W Hh n) : 0 < n := by rw [h.hn]; exact Nat.mul_pos h.w1 h.h1
theorem row_lt {W Hh a : Nat} (h : a < W * Hh) (hw : 1 ≤ W) : a / W < Hh := by
  rw [Nat.div_lt_iff_lt_mul (by omega), Nat.mul_comm]; exact h
theorem nb_lt {W Hh n a c : Nat} (t : Ter W Hh n) (ha : a < n) (h : c ∈ nb W n a) : c < n := by
  rw [mem_nb] at h
  rcases h with ⟨h, rfl⟩ | ⟨h, rfl⟩ | ⟨h, rfl⟩ | ⟨h, rfl⟩
  · have := t.w1; omega
  · omega
  · have hr := row_lt (t.hn ▸ ha) t.w1
    have h1 := Nat.div_add_mod a W
    have h2 : W * (a / W) + W ≤ W * Hh := by
      have := Nat.mul_le_mul_left W (show a / W + 1 ≤ Hh by omega)
      rw [Nat.mul_add, Nat.mul_one] at this; exact this
    rw [t.hn]; omega
  · exact h
theorem mod_up {W a : Nat} (hw : 1 ≤ W) (h : a % W + 1 < W) : (a + 1) % W = a % W + 1 := by
  rw [Nat.add_mod]
  by_cases h1 : W = 1
  · omega
  · rw [Nat.mod_eq_of_lt (show 1 < W by omega), Nat.mod_eq_of_lt h]
theorem mod_dn {W a : Nat} (hw : 1 ≤ W) (h : 0 < a % W) : (a - 1) % W + 1 = a % W := by
  have h1 := Nat.mod_lt a (show 0 < W by omega)
  have h2 := Nat.div_add_mod a W
  have h3 : a - 1 = W * (a / W) + (a % W - 1) := by omega
  rw [h3, Nat.mul_add_mod, Nat.mod_eq_of_lt (by omega)]; omega
theorem nb_symm {W Hh n a c : Nat} (t : Ter W Hh n) (ha : a < n) (h : c ∈ nb W n a) : a ∈ nb W n c := by
  have hw := t.w1
  rw [mem_nb] at h ⊢
  rcases h with ⟨h, rfl⟩ | ⟨h, rfl⟩ | ⟨h, rfl⟩ | ⟨h, rfl⟩
  · exact .inr (.inr (.inr ⟨by omega, by omega⟩))
  · have h1 := mod_dn hw h
    have h2 := Nat.mod_lt a (show 0 < W by omega)
    exact .inr (.inr (.inl ⟨by omega, by
      have : 0 < a := by rcases Nat.eq_zero_or_pos a with rfl | h3; simp at h; exact h3
      omega⟩))
  · have h1 := mod_up hw h
    exact .inr (.inl ⟨by omega, by omega⟩)
  · exact .inl ⟨by omega, by omega⟩
/-- The height of a cell. -/
def gr (g : List Int) (c : Nat) : Int := g.getD c 0
/-- What can be reached from a cell over cells up to a height. -/
inductive Rch (W n : Nat) (g : List Int) (h : Int) (a : Nat) : Nat → Prop
  | refl (ha : gr g a ≤ h) : Rch W n g h a a
  | step {b c : Nat} (k : Rch W n g h a b) (hc : c ∈ nb W n b) (hg : gr g c ≤ h) : Rch W n g h a c
section
variable {W Hh n : Nat} {g : List Int} {h : Int} {a b c : Nat}
theorem Rch.dst (k : Rch W n g h a b) : gr g b ≤ h := by
  cases k with
  | refl ha => exact ha
  | step _ _ hg => exact hg
theorem Rch.lt (t : Ter W Hh n) (ha : a < n) (k : Rch W n g h a b) : b < n := by
  induction k with
  | refl _ => exact ha
  | step _ hc _ ih => exact nb_lt t ih hc
theorem Rch.mono {h' : Int} (hh : h ≤ h') (k : Rch W n g h a b) : Rch W n g h' a b := by
  induction k with
  | refl ha => exact .refl (by omega)
  | step _ hc hg ih => exact .step ih hc (by omega)
theorem Rch.trans (k : Rch W n g h a b) (l : Rch W n g h b c) : Rch W n g h a c := by
  induction l with
  | refl _ => exact k
  | step _ hc hg ih => exact .step ih hc hg
theorem Rch.symm (t : Ter W Hh n) (ha : a < n) (k : Rch W n g h a b) : Rch W n g h b a := by
  induction k with
  | refl h1 => exact .refl h1
  | step k hc hg ih =>
    exact (Rch.step (.refl hg) (nb_symm t (k.lt t ha) hc) k.dst).trans ih
end
/-- The height of the pass. -/
structure IsPass (W n : Nat) (g : List Int) (a b : Nat) (h : Int) : Prop where
  is : Rch W n g h a b
  least : ∀ k, Rch W n g k a b → h ≤ k
theorem IsPass.uniq {W n : Nat} {g : List Int} {a b : Nat} {h h' : Int} (x : IsPass W n g a b h) (y : IsPass W n g a b h') : h = h' :=
  Int.le_antisymm (x.least _ y.is) (y.least _ x.is)
/-! The search for the lowest path -/
section
variable {W Hh n : Nat} {g : List Int} {a : Nat}
/-- The state of the search: which cells are seen; the front: heights and cells. -/
structure Sea (W n : Nat) (g : List Int) (a : Nat) (seen : List Bool) (f : List (Int × Nat)) : Prop where
  len : seen.length = n
  lt : ∀ x ∈ f, x.2 < n
  rch : ∀ x ∈ f, Rch W n g x.1 a x.2
  seen_ : ∀ u, seen[u]? = some true → ∃ k, (∀ H, Rch W n g H a u → k ≤ H) ∧ ∀ c ∈ nb W n u, seen[c]? = some true ∨ ∃ x ∈ f, x.2 = c ∧ x.1 ≤ max k (gr g c)
  start : seen[a]? = some true ∨ ∃ x ∈ f, x.2 = a ∧ x.1 ≤ gr g a
/-- On the way to a cell that is not seen the front has a cell. -/
theorem Sea.front {seen : List Bool} {f : List (Int × Nat)} (s : Sea W n g a seen f) {b : Nat} {H : Int} (k : Rch W n g H a b) (hb : ¬ seen[b]? = some true) : ∃ x ∈ f, x.1 ≤ H := by
  induction k with
  | refl ha =>
    rcases s.start with h | ⟨x, h1, _, h2⟩
    · exact (hb h).elim
    · exact ⟨x, h1, by omega⟩
  | step k hc hg ih =>
    rename_i b c
    by_cases hs : seen[b]? = some true
    · obtain ⟨q, h1, h2⟩ := s.seen_ b hs
      rcases h2 _ hc with h3 | ⟨x, h3, _, h4⟩
      · exact (hb h3).elim
      · have := h1 _ k
        exact ⟨x, h3, by omega⟩
    · exact ih hs
/-- The least of the front is the lowest way to its cell. -/
theorem Sea.least {seen : List Bool} {f : List (Int × Nat)} (s : Sea W n g a seen f) {x : Int × Nat} (hx : x ∈ f) (hm : ∀ y ∈ f, x.1 ≤ y.1) (hs : ¬ seen[x.2]? = some true) : IsPass W n g a x.2 x.1 :=
  ⟨s.rch x hx, fun k hk => by
    obtain ⟨y, h1, h2⟩ := s.front hk hs
    have := hm y h1; omega⟩
theorem Sea.first (h0 : a < n) : Sea W n g a (List.replicate n false) [(gr g a, a)] := by
  refine ⟨by simp, fun x hx => ?_, fun x hx => ?_, fun u hu => ?_, .inr ⟨_, List.mem_cons_self .., rfl, Int.le_refl _⟩⟩
  · obtain rfl : x = (gr g a, a) := by simpa using hx
    exact h0
  · obtain rfl : x = (gr g a, a) := by simpa using hx
    exact .refl (Int.le_refl _)
  · rw [List.getElem?_replicate] at hu
    split at hu <;> simp at hu
/-- A cell that was seen before is left out. -/
theorem Sea.skip {seen : List Bool} {f f' : List (Int × Nat)} (s : Sea W n g a seen f) {x : Int × Nat} (hp : f.Perm (x :: f')) (hs : seen[x.2]? = some true) : Sea W n g a seen f' := by
  have hin : ∀ y ∈ f', y ∈ f := fun y hy => hp.mem_iff.2 (List.mem_cons_of_mem _ hy)
  have hout : ∀ y ∈ f, y.2 ≠ x.2 → y ∈ f' := fun y hy hne => by
    rcases List.mem_cons.1 (hp.mem_iff.1 hy) with rfl | h
    · exact (hne rfl).elim
    · exact h
  refine ⟨s.len, fun y hy => s.lt y (hin y hy), fun y hy => s.rch y (hin y hy), fun u hu => ?_, ?_⟩
  · obtain ⟨k, h1, h2⟩ := s.seen_ u hu
    refine ⟨k, h1, fun c hc => ?_⟩
    rcases h2 c hc with h3 | ⟨y, h3, rfl, h4⟩
    · exact .inl h3
    · by_cases he : y.2 = x.2
      · rw [he]; exact .inl hs
      · exact .inr ⟨y, hout y h3 he, rfl, h4⟩
  · rcases s.start with h | ⟨y, h1, h2, h3⟩
    · exact .inl h
    · by_cases he : y.2 = x.2
      · rw [← h2, he]; exact .inl hs
      · exact .inr ⟨y, hout y h1 he, h2, h3⟩
/-- A cell that was not seen: its neighbours come to the front. -/
theorem Sea.next (t : Ter W Hh n) {seen : List Bool} {f f' f2 : List (Int × Nat)} (s : Sea W n g a seen f) {x : Int × Nat} (hp : f.Perm (x :: f')) (hm : ∀ y ∈ f, x.1 ≤ y.1) (hs : ¬ seen[x.2]? = some true)
    (hf : f2.Perm ((nb W n x.2).map (fun c => (max x.1 (gr g c), c)) ++ f')) : Sea W n g a (seen.set x.2 true) f2 := by
  have hx : x ∈ f := hp.mem_iff.2 (List.mem_cons_self ..)
  have hlt := s.lt x hx
  have hP := s.least hx hm hs
  have hin : ∀ y ∈ f', y ∈ f := fun y hy => hp.mem_iff.2 (List.mem_cons_of_mem _ hy)
  have hnew : ∀ y ∈ f2, (∃ c ∈ nb W n x.2, y = (max x.1 (gr g c), c)) ∨ y ∈ f' := fun y hy => by
    rcases List.mem_append.1 (hf.mem_iff.1 hy) with h | h
    · obtain ⟨c, h1, rfl⟩ := List.mem_map.1 h
      exact .inl ⟨c, h1, rfl⟩
    · exact .inr h
  have hset : ∀ c, (seen.set x.2 true)[c]? = some true ↔ c = x.2 ∨ seen[c]? = some true := fun c => by
    rw [List.getElem?_set]
    by_cases h : x.2 = c
    · subst h; simp [s.len, hlt]
    · rw [if_neg h]
      constructor
      · intro h1; exact .inr h1
      · rintro (h1 | h1)
        · exact (h h1.symm).elim
        · exact h1
  have hkeep : ∀ y ∈ f, y.2 ≠ x.2 → y ∈ f2 := fun y hy hne => by
    rcases List.mem_cons.1 (hp.mem_iff.1 hy) with rfl | h
    · exact (hne rfl).elim
    · exact hf.mem_iff.2 (List.mem_append_right _ h)
  refine ⟨by simp [s.len], fun y hy => ?_, fun y hy => ?_, fun u hu => ?_, ?_⟩
  · rcases hnew y hy with ⟨c, h1, rfl⟩ | h1
    · exact nb_lt t hlt h1
    · exact s.lt y (hin y h1)
  · rcases hnew y hy with ⟨c, h1, rfl⟩ | h1
    · exact (Rch.step ((s.rch x hx).mono (by simp only []; omega)) h1 (by simp only []; omega))
    · exact s.rch y (hin y h1)
  · by_cases he : u = x.2
    · subst he
      refine ⟨x.1, hP.least, fun c hc => .inr ⟨_, hf.mem_iff.2 (List.mem_append_left _ (List.mem_map.2 ⟨c, hc, rfl⟩)), rfl, Int.le_refl _⟩⟩
    · obtain ⟨k, h1, h2⟩ := s.seen_ u (((hset u).1 hu).resolve_left he)
      refine ⟨k, h1, fun c hc => ?_⟩
      rcases h2 c hc with h3 | ⟨y, h3, rfl, h4⟩
      · exact .inl ((hset c).2 (.inr h3))
      · by_cases hy : y.2 = x.2
        · exact .inl ((hset _).2 (.inl hy))
        · exact .inr ⟨y, hkeep y h3 hy, rfl, h4⟩
  · rcases s.start with h | ⟨y, h1, h2, h3⟩
    · exact .inl ((hset a).2 (.inr h))
    · by_cases hy : y.2 = x.2
      · exact .inl ((hset a).2 (.inl (by rw [← h2, hy])))
      · exact .inr ⟨y, hkeep y h1 hy, h2, h3⟩
end
/-! How many steps are left -/
/-- The cells beside a cell get the steps d, where they have none and are not too high; they are added to the queue. -/
def bfsRow (g : List Int) (h : Int) (d : Nat) : List Nat → List Nat × List Nat → List Nat × List Nat
  | [], s => s
  | c :: l, s => bfsRow g h d l (if s.1.getD c 0 = 0 ∧ gr g c ≤ h then (s.1.set c d, s.2 ++ [c]) else s)
/-- From the levels and the queue k rounds lead to the levels L. -/
inductive Bfs (W n : Nat) (g : List Int) (h : Int) (L : List Nat) : Nat → List Nat → List Nat → Prop
  | done : Bfs W n g h L 0 L []
  | next {k a : Nat} {lev q : List Nat} (s : Bfs W n g h L k (bfsRow g h (lev.getD a 0 + 1) (nb W n a) (lev, q)).1 (bfsRow g h (lev.getD a 0 + 1) (nb W n a) (lev, q)).2) : Bfs W n g h L (k + 1) lev (a :: q)
/-- Steps, one more than from the end; 0: not reached. -/
structure Dist (W n : Nat) (g : List Int) (h : Int) (b : Nat) (L : List Nat) : Prop where
  len : L.length = n
  one : ∀ c, c < n → (L.getD c 0 = 1 ↔ c = b)
  low : ∀ c, c < n → 0 < L.getD c 0 → gr g c ≤ h
  prev : ∀ c, c < n → 1 < L.getD c 0 → ∃ d ∈ nb W n c, L.getD d 0 + 1 = L.getD c 0
  next : ∀ c, c < n → 0 < L.getD c 0 → ∀ d ∈ nb W n c, gr g d ≤ h → 0 < L.getD d 0 ∧ L.getD d 0 ≤ L.getD c 0 + 1
  bnd : ∀ c, L.getD c 0 ≤ n + 1
theorem getD_set {l : List Nat} {i j v : Nat} : (l.set i v).getD j 0 = if i = j ∧ i < l.length then v else l.getD j 0 := by
  simp only [List.getD_eq_getElem?_getD, List.getElem?_set]
  by_cases h : i = j
  · subst h
    by_cases h2 : i < l.length
    · simp [h2]
    · simp [h2]
  · simp [h]
/-- What holds on the way: enough for the walks. -/
structure WI (n : Nat) (lev q : List Nat) : Prop where
  len : lev.length = n
  lt : ∀ c ∈ q, c < n
  cnt : q.length + lev.countP (fun x => x == 0) ≤ n
  bnd : ∀ c, lev.getD c 0 + lev.countP (fun x => x == 0) ≤ n + 1
theorem WI.one {n d c : Nat} {lev q : List Nat} (w : WI n lev q) (hc : c < n) (h0 : lev.getD c 0 = 0) (hd : 0 < d) (hdb : d + lev.countP (fun x => x == 0) ≤ n + 2) : WI n (lev.set c d) (q ++ [c]) := by
  have hg : lev[c]? = some 0 := by
    have : c < lev.length := by rw [w.len]; exact hc
    rw [List.getD_eq_getElem?_getD, List.getElem?_eq_getElem this] at h0
    rw [List.getElem?_eq_getElem this]
    simpa using h0
  have hk := countP_drop (p := fun x : Nat => x == 0) (v := d) hg (by simp) (by simp; omega)
  refine ⟨by simp [w.len], fun x hx => ?_, ?_, fun x => ?_⟩
  · rcases List.mem_append.1 hx with h | h
    · exact w.lt x h
    · obtain rfl : x = c := by simpa using h
      exact hc
  · have := w.cnt; simp only [List.length_append, List.length_singleton]; omega
  · rw [getD_set]
    have := w.bnd x
    split <;> omega
theorem WI.pop {n a : Nat} {lev q : List Nat} (w : WI n lev (a :: q)) : WI n lev q :=
  ⟨w.len, fun c hc => w.lt c (List.mem_cons_of_mem _ hc), by have := w.cnt; simp at this; omega, w.bnd⟩
/-- What a row of the search does. -/
structure RowF (g : List Int) (h : Int) (d : Nat) (l lev q lev' q' : List Nat) : Prop where
  len : lev'.length = lev.length
  keep : ∀ c, 0 < lev.getD c 0 → lev'.getD c 0 = lev.getD c 0
  new : ∀ c, lev'.getD c 0 ≠ lev.getD c 0 → lev.getD c 0 = 0 ∧ lev'.getD c 0 = d ∧ c ∈ l ∧ gr g c ≤ h ∧ c ∈ q'
  all : ∀ c ∈ l, c < lev.length → gr g c ≤ h → 0 < lev'.getD c 0
  que : ∃ x, q' = q ++ x ∧ ∀ c ∈ x, lev'.getD c 0 = d ∧ c < lev.length
theorem bfsRow_spec {g : List Int} {h : Int} {d : Nat} (hd : 0 < d) : ∀ (l lev q : List Nat), (∀ c ∈ l, c < lev.length) → RowF g h d l lev q (bfsRow g h d l (lev, q)).1 (bfsRow g h d l (lev, q)).2
  | [], lev, q, _ => ⟨rfl, fun _ _ => rfl, fun _ h => (h rfl).elim, fun _ h => (List.not_mem_nil h).elim, [], by simp [bfsRow], fun _ h => (List.not_mem_nil h).elim⟩
  | c :: l, lev, q, hl => by
    unfold bfsRow
    have hcl := hl c (List.mem_cons_self ..)
    by_cases hc : lev.getD c 0 = 0 ∧ gr g c ≤ h
    · rw [if_pos hc]
      have ih := bfsRow_spec (g := g) (h := h) hd l (lev.set c d) (q ++ [c]) (fun x hx => by simpa using hl x (List.mem_cons_of_mem _ hx))
      simp only []
      generalize (bfsRow g h d l (lev.set c d, q ++ [c])).1 = lev' at ih ⊢
      generalize (bfsRow g h d l (lev.set c d, q ++ [c])).2 = q' at ih ⊢
      have hset : ∀ x, (lev.set c d).getD x 0 = if c = x then d else lev.getD x 0 := fun x => by
        rw [getD_set]; simp [hcl]
      have hcd : lev'.getD c 0 = d := by rw [ih.keep c (by rw [hset]; simp; exact hd), hset]; simp
      obtain ⟨y, hq1, hq2⟩ := ih.que
      have hcq : c ∈ q' := by rw [hq1]; simp
      refine ⟨by rw [ih.len]; simp, fun x hx => ?_, fun x hx => ?_, fun x hx hlt hgx => ?_, ⟨c :: y, by simp [hq1], fun x hx => ?_⟩⟩
      · have hne : c ≠ x := fun e => by subst e; omega
        rw [ih.keep x (by rw [hset, if_neg hne]; exact hx), hset, if_neg hne]
      · by_cases hne : c = x
        · subst hne
          exact ⟨hc.1, hcd, List.mem_cons_self .., hc.2, hcq⟩
        · obtain ⟨h1, h2, h3, h4, h5⟩ := ih.new x (by rw [hset, if_neg hne]; exact hx)
          rw [hset, if_neg hne] at h1
          exact ⟨h1, h2, List.mem_cons_of_mem _ h3, h4, h5⟩
      · rcases List.mem_cons.1 hx with rfl | hx
        · omega
        · exact ih.all x hx (by simpa using hlt) hgx
      · rcases List.mem_cons.1 hx with rfl | hx
        · exact ⟨hcd, hcl⟩
        · obtain ⟨h1, h2⟩ := hq2 x hx
          exact ⟨h1, by simpa using h2⟩
    · rw [if_neg hc]
      have ih := bfsRow_spec (g := g) (h := h) hd l lev q (fun x hx => hl x (List.mem_cons_of_mem _ hx))
      skip
      generalize (bfsRow g h d l (lev, q)).1 = lev' at ih ⊢
      generalize (bfsRow g h d l (lev, q)).2 = q' at ih ⊢
      refine ⟨ih.len, ih.keep, fun x hx => ?_, fun x hx hlt hgx => ?_, ih.que⟩
      · obtain ⟨h1, h2, h3, h4, h5⟩ := ih.new x hx
        exact ⟨h1, h2, List.mem_cons_of_mem _ h3, h4, h5⟩
      · rcases List.mem_cons.1 hx with rfl | hx
        · have : lev.getD x 0 ≠ 0 := fun e => hc ⟨e, hgx⟩
          rw [ih.keep x (by omega)]; omega
        · exact ih.all x hx hlt hgx
theorem bfsRow_WI {n : Nat} {g : List Int} {h : Int} {d : Nat} (hd : 0 < d) : ∀ (l lev q : List Nat), (∀ c ∈ l, c < n) → WI n lev q → d + lev.countP (fun x => x == 0) ≤ n + 2 →
    WI n (bfsRow g h d l (lev, q)).1 (bfsRow g h d l (lev, q)).2
  | [], lev, q, _, w, _ => w
  | c :: l, lev, q, hl, w, hb => by
    unfold bfsRow
    have hcl := hl c (List.mem_cons_self ..)
    by_cases hc : lev.getD c 0 = 0 ∧ gr g c ≤ h
    · rw [if_pos hc]
      refine bfsRow_WI hd l _ _ (fun x hx => hl x (List.mem_cons_of_mem _ hx)) (w.one hcl hc.1 hd hb) ?_
      have hg : lev[c]? = some 0 := by
        have h0 := hc.1
        have : c < lev.length := by rw [w.len]; exact hcl
        rw [List.getD_eq_getElem?_getD, List.getElem?_eq_getElem this] at h0
        rw [List.getElem?_eq_getElem this]
        simpa using h0
      have := countP_drop (p := fun x : Nat => x == 0) (v := d) hg (by simp) (by simp; omega)
      simp only []
      omega
    · rw [if_neg hc]
      exact bfsRow_WI hd l _ _ (fun x hx => hl x (List.mem_cons_of_mem _ hx)) w hb
/-- What holds between two rounds. -/
structure BI (W n : Nat) (g : List Int) (h : Int) (b : Nat) (lev q : List Nat) : Prop extends WI n lev q where
  set_ : ∀ c ∈ q, 0 < lev.getD c 0
  one : ∀ c, c < n → (lev.getD c 0 = 1 ↔ c = b)
  low : ∀ c, c < n → 0 < lev.getD c 0 → gr g c ≤ h
  prev : ∀ c, c < n → 1 < lev.getD c 0 → ∃ d ∈ nb W n c, lev.getD d 0 + 1 = lev.getD c 0
  next : ∀ c, c < n → 0 < lev.getD c 0 → c ∉ q → ∀ d ∈ nb W n c, gr g d ≤ h → 0 < lev.getD d 0 ∧ lev.getD d 0 ≤ lev.getD c 0 + 1
  ord : ∃ e q1 q2, (∀ c, lev.getD c 0 ≤ e + 1) ∧ q = q1 ++ q2 ∧ (∀ c ∈ q1, lev.getD c 0 = e) ∧ ∀ c ∈ q2, lev.getD c 0 = e + 1
theorem BI.round {W Hh n : Nat} {g : List Int} {h : Int} {b a : Nat} {lev q : List Nat} (t : Ter W Hh n) (i : BI W n g h b lev (a :: q)) :
    BI W n g h b (bfsRow g h (lev.getD a 0 + 1) (nb W n a) (lev, q)).1 (bfsRow g h (lev.getD a 0 + 1) (nb W n a) (lev, q)).2 := by
  have ha : a < n := i.lt a (List.mem_cons_self ..)
  have ha0 := i.set_ a (List.mem_cons_self ..)
  have hl : ∀ c ∈ nb W n a, c < n := fun c hc => nb_lt t ha hc
  have hw := bfsRow_WI (g := g) (h := h) (d := lev.getD a 0 + 1) (by omega) (nb W n a) lev q hl i.toWI.pop (by have := i.bnd a; omega)
  have hr := bfsRow_spec (g := g) (h := h) (d := lev.getD a 0 + 1) (by omega) (nb W n a) lev q (fun c hc => by rw [i.len]; exact hl c hc)
  generalize (bfsRow g h (lev.getD a 0 + 1) (nb W n a) (lev, q)).1 = lev' at hw hr ⊢
  generalize (bfsRow g h (lev.getD a 0 + 1) (nb W n a) (lev, q)).2 = q' at hw hr ⊢
  -- the front's levels
  obtain ⟨e, q1, q2, hm, hqe, hq1, hq2⟩ : ∃ e q1 q2, (∀ c, lev.getD c 0 ≤ e + 1) ∧ q = q1 ++ q2 ∧ (∀ c ∈ q1, lev.getD c 0 = e) ∧ (∀ c ∈ q2, lev.getD c 0 = e + 1) ∧ lev.getD a 0 = e := by
    obtain ⟨e, q1, q2, hm, hqe, hq1, hq2⟩ := i.ord
    cases q1 with
    | nil =>
      rw [List.nil_append] at hqe
      subst hqe
      exact ⟨e + 1, q, [], fun c => by have := hm c; omega, by simp, fun c hc => hq2 c (List.mem_cons_of_mem _ hc), fun c hc => (List.not_mem_nil hc).elim, hq2 a (List.mem_cons_self ..)⟩
    | cons x q1 =>
      rw [List.cons_append, List.cons.injEq] at hqe
      obtain ⟨rfl, rfl⟩ := hqe
      exact ⟨e, q1, q2, hm, rfl, fun c hc => hq1 c (List.mem_cons_of_mem _ hc), hq2, hq1 a (List.mem_cons_self ..)⟩
  obtain ⟨hq2, hae⟩ := hq2
  obtain ⟨x, hx1, hx2⟩ := hr.que
  have hcase : ∀ c, lev'.getD c 0 = lev.getD c 0 ∨ (lev.getD c 0 = 0 ∧ lev'.getD c 0 = lev.getD a 0 + 1 ∧ c ∈ nb W n a ∧ gr g c ≤ h ∧ c ∈ q') := fun c => by
    by_cases hc : lev'.getD c 0 = lev.getD c 0
    · exact .inl hc
    · exact .inr (hr.new c hc)
  have hge : ∀ c, lev.getD c 0 ≤ lev'.getD c 0 := fun c => by rcases hcase c with h1 | h1 <;> omega
  have ha' : lev'.getD a 0 = lev.getD a 0 := hr.keep a ha0
  refine ⟨hw, fun c hc => ?_, fun c hc => ?_, fun c hc h0 => ?_, fun c hc h1 => ?_, fun c hc h0 hnq d hd hgd => ?_, ⟨e, q1, q2 ++ x, fun c => ?_, by rw [hx1, hqe, List.append_assoc], fun c hc => ?_, fun c hc => ?_⟩⟩
  · rw [hx1] at hc
    rcases List.mem_append.1 hc with hc | hc
    · have := i.set_ c (List.mem_cons_of_mem _ hc); have := hge c; omega
    · have := hx2 c hc; omega
  · rcases hcase c with h1 | h1
    · rw [h1]; exact i.one c hc
    · constructor
      · intro h2; omega
      · rintro rfl
        have := (i.one c hc).2 rfl; omega
  · rcases hcase c with h1 | h1
    · exact i.low c hc (by omega)
    · exact h1.2.2.2.1
  · rcases hcase c with h2 | h2
    · obtain ⟨d, h3, h4⟩ := i.prev c hc (by omega)
      exact ⟨d, h3, by rw [hr.keep d (by omega)]; omega⟩
    · exact ⟨a, nb_symm t ha h2.2.2.1, by omega⟩
  · rcases hcase c with h2 | h2
    · by_cases hca : c = a
      · subst hca
        have h3 := hr.all d hd (by rw [i.len]; exact hl d hd) hgd
        refine ⟨h3, ?_⟩
        rcases hcase d with h4 | h4
        · have := hm d; omega
        · omega
      · have hcq : c ∉ a :: q := fun hmem => by
          rcases List.mem_cons.1 hmem with h3 | h3
          · exact hca h3
          · exact hnq (by rw [hx1]; exact List.mem_append_left _ h3)
        obtain ⟨h3, h4⟩ := i.next c hc (by omega) hcq d hd hgd
        rw [hr.keep d h3]
        omega
    · exact (hnq h2.2.2.2.2).elim
  · rcases hcase c with h1 | h1
    · have := hm c; omega
    · omega
  · rw [hr.keep c (i.set_ c (List.mem_cons_of_mem _ (by rw [hqe]; exact List.mem_append_left _ hc)))]
    exact hq1 c hc
  · rcases List.mem_append.1 hc with hc | hc
    · rw [hr.keep c (i.set_ c (List.mem_cons_of_mem _ (by rw [hqe]; exact List.mem_append_right _ hc)))]
      exact hq2 c hc
    · have := hx2 c hc; omega
theorem bfsRow_cnt {n : Nat} {g : List Int} {h : Int} {d : Nat} (hd : 0 < d) : ∀ (l lev q : List Nat), (∀ c ∈ l, c < lev.length) →
    (bfsRow g h d l (lev, q)).2.length + (bfsRow g h d l (lev, q)).1.countP (fun x => x == 0) = q.length + lev.countP (fun x => x == 0)
  | [], lev, q, _ => rfl
  | c :: l, lev, q, hl => by
    unfold bfsRow
    by_cases hc : lev.getD c 0 = 0 ∧ gr g c ≤ h
    · rw [if_pos hc, bfsRow_cnt (n := n) hd l _ _ (fun x hx => by simpa using hl x (List.mem_cons_of_mem _ hx))]
      have hg : lev[c]? = some 0 := by
        have h0 := hc.1
        have : c < lev.length := hl c (List.mem_cons_self ..)
        rw [List.getD_eq_getElem?_getD, List.getElem?_eq_getElem this] at h0
        rw [List.getElem?_eq_getElem this]
        simpa using h0
      have := countP_drop (p := fun x : Nat => x == 0) (v := d) hg (by simp) (by simp; omega)
      simp only [List.length_append, List.length_singleton]
      omega
    · rw [if_neg hc]
      exact bfsRow_cnt (n := n) hd l _ _ (fun x hx => hl x (List.mem_cons_of_mem _ hx))
theorem BI.runs {W Hh n : Nat} {g : List Int} {h : Int} {b : Nat} (t : Ter W Hh n) : ∀ (m : Nat) {lev q : List Nat}, q.length + 2 * lev.countP (fun x => x == 0) = m → BI W n g h b lev q → ∃ k L, Bfs W n g h L k lev q ∧ Dist W n g h b L := by
  intro m
  induction m using Nat.strongRecOn with
  | ind m ih =>
    intro lev q hm i
    cases q with
    | nil =>
      exact ⟨0, lev, .done, i.len, i.one, i.low, i.prev, fun c hc h0 d hd hg => i.next c hc h0 List.not_mem_nil d hd hg, fun c => by have := i.bnd c; omega⟩
    | cons a q =>
      have ha : a < n := i.lt a (List.mem_cons_self ..)
      have hcn := bfsRow_cnt (n := n) (g := g) (h := h) (d := lev.getD a 0 + 1) (by omega) (nb W n a) lev q (fun c hc => by rw [i.len]; exact nb_lt t ha hc)
      have hr := bfsRow_spec (g := g) (h := h) (d := lev.getD a 0 + 1) (by omega) (nb W n a) lev q (fun c hc => by rw [i.len]; exact nb_lt t ha hc)
      obtain ⟨x, hx1, _⟩ := hr.que
      have hq : q.length ≤ (bfsRow g h (lev.getD a 0 + 1) (nb W n a) (lev, q)).2.length := by rw [hx1]; simp
      simp only [List.length_cons] at hm
      obtain ⟨k, L, h1, h2⟩ := ih _ (by omega) rfl (i.round t)
      exact ⟨k + 1, L, .next h1, h2⟩
/-- What has steps can be reached. -/
theorem Dist.back {W Hh n : Nat} {g : List Int} {h : Int} {b : Nat} {L : List Nat} (t : Ter W Hh n) (d : Dist W n g h b L) (hg : gr g b ≤ h) : ∀ (m c : Nat), c < n → L.getD c 0 = m + 1 → Rch W n g h b c
  | 0, c, hc, hm => by rw [(d.one c hc).1 hm]; exact .refl hg
  | m + 1, c, hc, hm => by
    obtain ⟨e, h1, h2⟩ := d.prev c hc (by omega)
    have he := nb_lt t hc h1
    exact .step (Dist.back t d hg m e he (by omega)) (nb_symm t hc h1) (d.low c hc (by omega))
/-! The way -/
/-- The next cell on the way. -/
def nxt (W n : Nat) (L : List Nat) (a : Nat) : Option Nat := (nb W n a).find? fun c => L.getD c 0 + 1 == L.getD a 0
inductive Pth (W n : Nat) (L : List Nat) (b : Nat) : Nat → List Nat → Prop
  | done : Pth W n L b b [b]
  | next {a c : Nat} {l : List Nat} (hne : a ≠ b) (hn : nxt W n L a = some c) (k : Pth W n L b c l) : Pth W n L b a (a :: l)
theorem Dist.nxt {W n : Nat} {g : List Int} {h : Int} {a b : Nat} {L : List Nat} (d : Dist W n g h b L) (ha : a < n) (h0 : 0 < L.getD a 0) (hne : a ≠ b) : ∃ c, nxt W n L a = some c ∧ c ∈ nb W n a ∧ L.getD c 0 + 1 = L.getD a 0 := by
  have h1 : 1 < L.getD a 0 := by
    have : L.getD a 0 ≠ 1 := fun e => hne ((d.one a ha).1 e)
    omega
  obtain ⟨c, h2, h3⟩ := d.prev a ha h1
  generalize hf : Go.Proofs.YtcjkndjjbjoehaaGreat.nxt W n L a = o
  cases o with
  | none =>
    have := List.find?_eq_none.1 hf c h2
    exact absurd (beq_iff_eq.2 h3) this
  | some x =>
    have h4 := List.find?_some hf
    exact ⟨x, rfl, List.mem_of_find?_eq_some hf, by simpa using h4⟩
theorem Pth.uniq {W n : Nat} {L : List Nat} {a b : Nat} {l l' : List Nat} (x : Pth W n L b a l) (y : Pth W n L b a l') : l = l' := by
  induction x generalizing l' with
  | done => cases y with
    | done => rfl
    | next hne _ _ => exact (hne rfl).elim
  | next hne hn k ih => cases y with
    | done => exact (hne rfl).elim
    | next _ hn' k' =>
      rw [hn] at hn'
      obtain rfl := Option.some.inj hn'
      rw [ih k']
theorem Bfs.uniq {W n : Nat} {g : List Int} {h : Int} {L L' : List Nat} {k k' : Nat} {lev q : List Nat} (x : Bfs W n g h L k lev q) (y : Bfs W n g h L' k' lev q) : L = L' := by
  induction x generalizing k' with
  | done => cases y; rfl
  | next s ih => cases y with
    | next s' => exact ih s'
end Go.Proofs.YtcjkndjjbjoehaaGreat
namespace Go.Proofs.YtcjkndjjbjoehaaGreat
open Go.RowKit
attribute [local irreducible] OQ OS OX Rd T TL GX GL AL AI RV wpG SAny Calls
def hI (l : List Int) : Option (Nat × Nat) → Hp
  | none => []
  | some (b, cap) => [(b, l.map iv, some (3, 1, cap))]
def cI (l : List Nat) : List Int := l.map fun c : Nat => (c : Int)
def p1 (W a : Nat) : List Nat := if W ≤ a then [a - W] else []
def p2 (W a : Nat) : List Nat := if 0 < a % W then [a - 1] else []
def p3 (W a : Nat) : List Nat := if a % W + 1 < W then [a + 1] else []
def p4 (W n a : Nat) : List Nat := if a + W < n then [a + W] else []
section
variable {c : Cx} {F : Fr} {H : Hp} {d : Option Tmp} {ty t t' : TypeId} {pos : String} {af : Array Edge} {g : Option (Nat × Bool)} {x y : Operand} {m n k : Int}
end
end Go.Proofs.YtcjkndjjbjoehaaGreat
