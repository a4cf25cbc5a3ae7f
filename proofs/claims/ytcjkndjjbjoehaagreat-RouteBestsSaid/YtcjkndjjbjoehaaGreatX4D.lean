/- A part of the proof: rules for walks, and contracts of functions (4). -/
import Derived.Test.YtcjkndjjbjoehaaGreatX4C
import Derived.Test.YtcjkndjjbjoehaaGreatX4B
import Derived.Laws.IdiomCopy
set_option linter.unusedVariables false
set_option linter.unusedSimpArgs false
set_option maxRecDepth 100000
set_option maxHeartbeats 2000000
namespace Go.Proofs.YtcjkndjjbjoehaaGreat
theorem goD0 {G A1 A2 A3 A4 A5 A6 A7 A8 A9 A10 A11 A12 A13 A14 A15 A16 : Prop} (p : GoP A1 A2 A3 A4 A5 A6 A7 A8 A9 A10 A11 A12 A13 A14 A15 A16) (h : GoL A1 → GoL A2 → GoL A3 → GoL A4 → GoL A5 → GoL A6 → GoL A7 → GoL A8 → GoL A9 → GoL A10 → GoL A11 → GoL A12 → GoL A13 → GoL A14 → GoL A15 → GoL A16 → GoM → G := by intro m1 m2 m3 m4 m5 m6 m7 m8 m9 m10 m11 m12 m13 m14 m15 m16 _; (repeat' (first | ((with_reducible apply oq_id); first | ((with_reducible apply oq_call (k := 133) (hc := Tryz.call133)); exact rfl; exact rfl; exact fun D w1 hw1 => flag_calls _ w1) | (apply oq_fn; exact rfl; first | exact trivial | (refine ⟨?_, ?_⟩ <;> omega) | (refine ⟨?_, ?_, ?_⟩ <;> omega) | omega | skip) | ((with_reducible apply oq_load); exact rfl; exact rfl) | ((with_reducible apply oq_loadAgg); exact rfl; exact rfl) | ((with_reducible apply oq_build); exact rfl; exact rfl; exact rfl) | ((with_reducible apply oq_buildA); exact rfl; exact rfl; exact rfl; exact rfl) | ((with_reducible apply oq_fieldAgg); exact rfl; exact rfl; exact rfl) | ((with_reducible apply oq_indexAgg); exact rfl; exact rfl; exact rfl; exact rfl)) | ((with_reducible apply tl_id); first | ((with_reducible apply tl_nil)) | ((with_reducible apply u_q); exact rfl; exact rfl; exact rfl; exact rfl) | ((with_reducible apply u_s0); exact rfl; exact rfl) | ((with_reducible apply u_s); exact rfl; exact rfl; exact rfl) | ((with_reducible apply u_skip); exact rfl; exact rfl; exact rfl) | ((with_reducible apply u_splitD); exact rfl; exact rfl; all_goals first | (intro _; try (exfalso; omega)) | skip) | ((with_reducible apply u_splitN); exact rfl; exact rfl; all_goals first | (intro _; try (exfalso; omega)) | skip) | ((with_reducible apply u_split); exact rfl; exact rfl; all_goals first | intro _ | skip)) | ((with_reducible apply gx_id); first | ((with_reducible apply v_nil)) | ((with_reducible apply v_q); exact rfl; exact rfl; exact rfl) | ((with_reducible apply v_skip); exact rfl; exact rfl; exact rfl) | ((with_reducible apply v_splitD); exact rfl; exact rfl; all_goals first | (intro _; try (exfalso; omega)) | skip) | ((with_reducible apply v_splitN); exact rfl; exact rfl; all_goals first | (intro _; try (exfalso; omega)) | skip) | ((with_reducible apply v_split); exact rfl; exact rfl; all_goals first | intro _ | skip)) | ((with_reducible apply os_id); first | ((with_reducible apply os_x); exact rfl) | ((with_reducible apply os_store); exact rfl; exact rfl; exact rfl; exact rfl) | ((with_reducible apply os_storeAgg); exact rfl; exact rfl; exact rfl; exact rfl; exact rfl)) | ((with_reducible apply ox_id); first | ((with_reducible apply ox_alloc); exact rfl; intro _) | ((with_reducible apply ox_box); exact rfl; exact rfl; intro _) | ((with_reducible apply ox_boxAgg); exact rfl; intro _) | ((with_reducible apply ox_buildSlice1); exact rfl; exact rfl; exact rfl; exact rfl; exact rfl; exact rfl; intro _) | ((with_reducible apply ox_buildSlice2); exact rfl; exact rfl; exact rfl; exact rfl; exact rfl; exact rfl; intro _) | ((with_reducible apply ox_buildSlice); exact rfl; exact rfl; exact rfl; exact rfl)) | ((with_reducible apply rd_id); first | (apply Rd.own; (repeat (first | exact P0 | apply P1)); exact rfl; done) | (apply Rd.old; (first | (with_reducible assumption) | exact c0 | exact c1 | exact c2 | exact c3 | exact c4 | exact c5 | exact c6 | exact c7 | exact c8 | exact d0 | exact d1 | exact d2 | exact d3 | exact d4 | exact d5); first | exact List.not_mem_nil | exact m0 | exact m1 | exact m2 | exact m3 | exact m4 | exact m5 | exact m6 | exact m7 | exact m8 | exact m9)) | ((with_reducible apply t_id); first | ((with_reducible apply t_seq)) | (apply t_region; kernel_rfl) | (apply t_drawn; kernel_rfl; decide +kernel; try simp only [List.append_eq, List.cons_append, List.nil_append]) | ((with_reducible apply t_condT); exact rfl) | ((with_reducible apply t_condF); exact rfl) | ((with_reducible apply t_condD); exact rfl; all_goals first | (intro _; try (exfalso; omega)) | skip) | ((with_reducible apply t_condN); exact rfl; all_goals first | (intro _; try (exfalso; omega)) | skip) | ((with_reducible apply t_cond); exact rfl; all_goals first | intro _ | skip) | ((with_reducible apply t_ret)) | ((with_reducible apply t_skip)) | ((with_reducible apply t_exit)) | ((with_reducible apply t_block))) | with_reducible apply q_thenN | with_reducible apply q_thenR | with_reducible apply q_blockR | with_reducible apply q_blockN | with_reducible apply q_thenE | ((with_reducible apply q_blockE); exact rfl) | ((with_reducible apply q_blockO); exact rfl) | exact P0 | ((with_reducible apply P1)) | exact Rdn.zero | apply Rdn.succ | ((with_reducible apply Norm.nil); exact rfl) | ((with_reducible apply Norm.cons); exact rfl) | ((with_reducible apply end_ret)) | ((with_reducible apply end_normal)) | exact rvs_nil | ((with_reducible apply rvs_cons)) | ((with_reducible apply rv_tmp); exact rfl) | ((with_reducible apply rv_cell); exact rfl; exact rfl) | ((with_reducible apply rv_cellAgg); exact rfl; exact rfl) | exact Nat.le_of_ble_eq_true rfl | exact (rfl : (_ : Bool) = true) | omega | (intro _ _; with_reducible apply tl_id) | (intro _; with_reducible apply tl_id) | (intro _ _; with_reducible apply al_id) | (intro _; with_reducible apply al_id))); (try focus (repeat (rename_i x; first | exact goD x m1.p | revert x))); (try focus (repeat (rename_i x; first | exact goD x m2.p | revert x))); (try focus (repeat (rename_i x; first | exact goD x m3.p | revert x))); (try focus (repeat (rename_i x; first | exact goD x m4.p | revert x))); (try focus (repeat (rename_i x; first | exact goD x m5.p | revert x))); (try focus (repeat (rename_i x; first | exact goD x m6.p | revert x))); (try focus (repeat (rename_i x; first | exact goD x m7.p | revert x))); (try focus (repeat (rename_i x; first | exact goD x m8.p | revert x))); (try focus (repeat (rename_i x; first | exact goD x m9.p | revert x))); (try focus (repeat (rename_i x; first | exact goD x m10.p | revert x))); (try focus (repeat (rename_i x; first | exact goD x m11.p | revert x))); (try focus (repeat (rename_i x; first | exact goD x m12.p | revert x))); (try focus (repeat (rename_i x; first | exact goD x m13.p | revert x))); (try focus (repeat (rename_i x; first | exact goD x m14.p | revert x))); (try focus (repeat (rename_i x; first | exact goD x m15.p | revert x))); (try focus (repeat (rename_i x; first | exact goD x m16.p | revert x)))) (e : GoTs A1 A2 A3 A4 A5 A6 A7 A8 A9 A10 A11 A12 A13 A14 A15 A16 := by constructor <;> first | (with_reducible exact GoT.t) | exact GoT.u) : G := p.run h
theorem goD1 {G A1 A2 A3 A4 A5 A6 A7 A8 A9 A10 A11 A12 A13 A14 A15 A16 : Prop} (p : GoP A1 A2 A3 A4 A5 A6 A7 A8 A9 A10 A11 A12 A13 A14 A15 A16) (h : GoL A1 → GoL A2 → GoL A3 → GoL A4 → GoL A5 → GoL A6 → GoL A7 → GoL A8 → GoL A9 → GoL A10 → GoL A11 → GoL A12 → GoL A13 → GoL A14 → GoL A15 → GoL A16 → GoM → G := by intro m1 m2 m3 m4 m5 m6 m7 m8 m9 m10 m11 m12 m13 m14 m15 m16 _; (repeat' (first | ((with_reducible apply oq_id); first | ((with_reducible apply oc_id); first | ((with_reducible apply oq_call (k := 134) (hc := Tryz.call134)); exact rfl; exact rfl; exact fun D w1 hw1 => HC w1) | ((with_reducible apply oq_call (k := 133) (hc := Tryz.call133)); exact rfl; exact rfl; exact fun D w1 hw1 => flag_calls _ w1) | ((with_reducible apply oq_call (k := 134) (hc := Tryz.call134)); exact rfl; exact rfl; exact fun D w1 hw1 => cmpI_calls _ _ w1) | ((with_reducible apply oq_call (k := 136) (hc := Tryz.call136)); exact rfl; exact rfl; exact fun D w1 hw1 => HL w1 hw1.ext.ext) | ((with_reducible apply oq_call (k := 135) (hc := Tryz.call135)); exact rfl; exact rfl; exact fun D w1 hw1 => or2_calls _ _ _ _ w1 (int_rows (l := [_, _]) rfl hw1 (by (repeat (first | exact P0 | apply P1))))) | ((with_reducible apply oq_call (k := 109) (hc := Tryz.call109)); exact rfl; exact rfl; exact fun D w1 hw1 => HB w1 hw1.ext.ext)) | ((with_reducible apply ob_id); first | (focus ((with_reducible apply (oq_addE (k := ((nx : Nat) : Int)))); exact rfl; exact rfl; omega)) | (focus ((with_reducible apply (oq_addE (k := ((nx + ny : Nat) : Int)))); exact rfl; exact rfl; omega)) | (focus ((with_reducible apply (oq_addE (k := ((k + 1 : Nat) : Int)))); exact rfl; exact rfl; omega)) | ((with_reducible apply oq_lssT); exact rfl; exact rfl; omega) | ((with_reducible apply oq_lssF); exact rfl; exact rfl; omega) | ((with_reducible apply oq_neqT); exact rfl; exact rfl; omega) | ((with_reducible apply oq_neqF); exact rfl; exact rfl; omega) | ((with_reducible apply oq_geqT); exact rfl; exact rfl; omega) | ((with_reducible apply oq_geqF); exact rfl; exact rfl; omega)) | (focus ((with_reducible apply oq_indexAddrN (i := 0)); exact rfl; exact rfl; exact rfl; exact rfl; omega)) | (focus ((with_reducible apply oq_indexAddrN); exact rfl; exact rfl; exact rfl; exact rfl; omega)) | ((with_reducible apply hSl); exact rfl) | (apply oq_fn; exact rfl; first | exact trivial | (refine ⟨?_, ?_⟩ <;> omega) | (refine ⟨?_, ?_, ?_⟩ <;> omega) | omega | skip) | ((with_reducible apply oq_load); exact rfl; exact rfl) | ((with_reducible apply oq_loadAgg); exact rfl; exact rfl) | ((with_reducible apply oq_build); exact rfl; exact rfl; exact rfl) | ((with_reducible apply oq_buildA); exact rfl; exact rfl; exact rfl; exact rfl) | ((with_reducible apply oq_fieldAgg); exact rfl; exact rfl; exact rfl) | ((with_reducible apply oq_indexAgg); exact rfl; exact rfl; exact rfl; exact rfl)) | ((with_reducible apply tl_id); first | ((with_reducible apply tl_nil)) | ((with_reducible apply u_q); exact rfl; exact rfl; exact rfl; exact rfl) | ((with_reducible apply u_s0); exact rfl; exact rfl) | ((with_reducible apply u_s); exact rfl; exact rfl; exact rfl) | ((with_reducible apply u_skip); exact rfl; exact rfl; exact rfl) | ((with_reducible apply u_splitD); exact rfl; exact rfl; all_goals first | (intro _; try (exfalso; omega)) | skip) | ((with_reducible apply u_splitN); exact rfl; exact rfl; all_goals first | (intro _; try (exfalso; omega)) | skip) | ((with_reducible apply u_split); exact rfl; exact rfl; all_goals first | intro _ | skip)) | ((with_reducible apply gx_id); first | ((with_reducible apply v_nil)) | ((with_reducible apply v_q); exact rfl; exact rfl; exact rfl) | ((with_reducible apply v_skip); exact rfl; exact rfl; exact rfl) | ((with_reducible apply v_splitD); exact rfl; exact rfl; all_goals first | (intro _; try (exfalso; omega)) | skip) | ((with_reducible apply v_splitN); exact rfl; exact rfl; all_goals first | (intro _; try (exfalso; omega)) | skip) | ((with_reducible apply v_split); exact rfl; exact rfl; all_goals first | intro _ | skip)) | ((with_reducible apply os_id); first | ((with_reducible apply os_x); exact rfl) | ((with_reducible apply os_store); exact rfl; exact rfl; exact rfl; exact rfl) | ((with_reducible apply os_storeAgg); exact rfl; exact rfl; exact rfl; exact rfl; exact rfl)) | ((with_reducible apply ox_id); first | ((with_reducible apply ox_alloc); exact rfl; intro _) | ((with_reducible apply ox_box); exact rfl; exact rfl; intro _) | ((with_reducible apply ox_boxAgg); exact rfl; intro _) | ((with_reducible apply ox_buildSlice1); exact rfl; exact rfl; exact rfl; exact rfl; exact rfl; exact rfl; intro _) | ((with_reducible apply ox_buildSlice2); exact rfl; exact rfl; exact rfl; exact rfl; exact rfl; exact rfl; intro _) | ((with_reducible apply ox_buildSlice); exact rfl; exact rfl; exact rfl; exact rfl)) | ((with_reducible apply ai_id); first | ((with_reducible apply ai_q); exact rfl; exact rfl; exact rfl; exact rfl; exact rfl) | ((with_reducible apply ai_x); exact rfl; exact rfl; exact rfl; exact rfl; exact rfl) | ((with_reducible apply ai_s0); exact rfl; exact rfl; exact rfl; exact rfl) | ((with_reducible apply ai_n0); exact rfl; exact rfl; exact rfl) | ((with_reducible apply ai_s); exact rfl; exact rfl; exact rfl; exact rfl; exact rfl) | ((with_reducible apply ai_n); exact rfl; exact rfl; exact rfl; exact rfl) | ((with_reducible apply ai_skip); exact rfl; exact rfl; exact rfl; exact rfl) | ((with_reducible apply ai_splitD); exact rfl; exact rfl; exact rfl; all_goals first | (intro _; try (exfalso; omega)) | skip) | ((with_reducible apply ai_splitN); exact rfl; exact rfl; exact rfl; all_goals first | (intro _; try (exfalso; omega)) | skip) | ((with_reducible apply ai_split); exact rfl; exact rfl; exact rfl; all_goals first | intro _ | skip)) | ((with_reducible apply al_keep); focus (repeat (first | exact HpSub.refl _ | (apply HpSub.cons; (repeat (first | exact P0 | apply P1))) | apply HpSub.skipX | exact HpSub.nil))) | ((with_reducible apply rd_id); first | (apply Rd.own; (repeat (first | exact P0 | apply P1)); exact rfl; done) | (apply Rd.old; (first | (with_reducible assumption) | exact c0 | exact c1 | exact c2 | exact c3 | exact c4 | exact c5 | exact c6 | exact c7 | exact c8 | exact d0 | exact d1 | exact d2 | exact d3 | exact d4 | exact d5); first | exact List.not_mem_nil | exact m0 | exact m1 | exact m2 | exact m3 | exact m4 | exact m5 | exact m6 | exact m7 | exact m8 | exact m9)) | ((with_reducible apply t_id); first | (apply t_mix (id := 5) [0, 1, 2, 3, 4, 5, 6, 7, 8, 9, 10, 11] 3 #[false, false, false, false, false, false, false, false, false, false, false, false, false, false, false]; kernel_rfl; kernel_rfl; exact rfl) | ((with_reducible apply t_seq)) | (apply t_region; kernel_rfl) | (apply t_drawn; kernel_rfl; decide +kernel; try simp only [List.append_eq, List.cons_append, List.nil_append]) | ((with_reducible apply t_condT); exact rfl) | ((with_reducible apply t_condF); exact rfl) | ((with_reducible apply t_condD); exact rfl; all_goals first | (intro _; try (exfalso; omega)) | skip) | ((with_reducible apply t_condN); exact rfl; all_goals first | (intro _; try (exfalso; omega)) | skip) | ((with_reducible apply t_cond); exact rfl; all_goals first | intro _ | skip) | ((with_reducible apply t_ret)) | ((with_reducible apply t_skip)) | ((with_reducible apply t_exit)) | ((with_reducible apply t_block))) | with_reducible apply q_thenN | with_reducible apply q_thenR | with_reducible apply q_blockR | with_reducible apply q_blockN | with_reducible apply q_thenE | ((with_reducible apply q_blockE); exact rfl) | ((with_reducible apply q_blockO); exact rfl) | exact P0 | ((with_reducible apply P1)) | exact Rdn.zero | apply Rdn.succ | ((with_reducible apply Norm.nil); exact rfl) | ((with_reducible apply Norm.cons); exact rfl) | ((with_reducible apply end_ret)) | ((with_reducible apply end_normal)) | exact rvs_nil | ((with_reducible apply rvs_cons)) | ((with_reducible apply rv_tmp); exact rfl) | ((with_reducible apply rv_cell); exact rfl; exact rfl) | ((with_reducible apply rv_cellAgg); exact rfl; exact rfl) | ((with_reducible apply cut_in0) <;> (repeat' (first | exact FrSub.nil | (apply FrSub.cons; exact rfl) | exact HpSub.refl _ | (apply HpSub.consE; (repeat (first | exact P0 | apply P1)); exact rfl) | apply HpSub.skipX | exact HpSub.nil))) | ((with_reducible apply cut_in1) <;> (repeat' (first | exact FrSub.nil | (apply FrSub.cons; exact rfl) | exact HpSub.refl _ | (apply HpSub.consE; (repeat (first | exact P0 | apply P1)); exact rfl) | apply HpSub.skipX | exact HpSub.nil))) | ((with_reducible apply cut_in2) <;> (repeat' (first | exact FrSub.nil | (apply FrSub.cons; exact rfl) | exact HpSub.refl _ | (apply HpSub.consE; (repeat (first | exact P0 | apply P1)); exact rfl) | apply HpSub.skipX | exact HpSub.nil))) | ((with_reducible apply cut_in3) <;> (repeat' (first | exact FrSub.nil | (apply FrSub.cons; exact rfl) | exact HpSub.refl _ | (apply HpSub.consE; (repeat (first | exact P0 | apply P1)); exact rfl) | apply HpSub.skipX | exact HpSub.nil))) | (apply t_mix (id := 5) [0, 1, 2, 3, 4, 5, 6, 7, 8, 9, 10, 11] 3 #[false, false, false, false, false, false, false, false, false, false, false, false, false, false, false]; kernel_rfl; kernel_rfl; exact rfl) | ((with_reducible apply al_id); first | (apply al_done; decide +kernel) | (apply al_one 12; decide +kernel) | (apply al_one 13; decide +kernel) | (apply al_one 14; decide +kernel)) | exact Nat.le_of_ble_eq_true rfl | exact (rfl : (_ : Bool) = true) | omega | (intro _ _; with_reducible apply tl_id) | (intro _; with_reducible apply tl_id) | (intro _ _; with_reducible apply al_id) | (intro _; with_reducible apply al_id))); (try focus (repeat (rename_i x; first | exact goD x m1.p | revert x))); (try focus (repeat (rename_i x; first | exact goD x m2.p | revert x))); (try focus (repeat (rename_i x; first | exact goD x m3.p | revert x))); (try focus (repeat (rename_i x; first | exact goD x m4.p | revert x))); (try focus (repeat (rename_i x; first | exact goD x m5.p | revert x))); (try focus (repeat (rename_i x; first | exact goD x m6.p | revert x))); (try focus (repeat (rename_i x; first | exact goD x m7.p | revert x))); (try focus (repeat (rename_i x; first | exact goD x m8.p | revert x))); (try focus (repeat (rename_i x; first | exact goD x m9.p | revert x))); (try focus (repeat (rename_i x; first | exact goD x m10.p | revert x))); (try focus (repeat (rename_i x; first | exact goD x m11.p | revert x))); (try focus (repeat (rename_i x; first | exact goD x m12.p | revert x))); (try focus (repeat (rename_i x; first | exact goD x m13.p | revert x))); (try focus (repeat (rename_i x; first | exact goD x m14.p | revert x))); (try focus (repeat (rename_i x; first | exact goD x m15.p | revert x))); (try focus (repeat (rename_i x; first | exact goD x m16.p | revert x)))) (e : GoTs A1 A2 A3 A4 A5 A6 A7 A8 A9 A10 A11 A12 A13 A14 A15 A16 := by constructor <;> first | (with_reducible exact GoT.t) | exact GoT.u) : G := p.run h
open Go.RowKit
attribute [local irreducible] OQ OS OX Rd T TL GX GL AL AI RV wpG SAny Calls
theorem cmpL_eq : ∀ {l m : List Nat} {k : Nat}, k ≤ l.length → k ≤ m.length → l.take k = m.take k → cmpL l m = cmpL (l.drop k) (m.drop k)
  | _, _, 0, _, _, _ => rfl
  | [], _, k + 1, h, _, _ => by simp at h
  | _ :: _, [], k + 1, _, h, _ => by simp at h
  | a :: l, b :: m, k + 1, h1, h2, h => by
    simp only [List.take_succ_cons, List.cons.injEq] at h
    obtain ⟨rfl, h⟩ := h
    simp only [List.length_cons, Nat.add_le_add_iff_right] at h1 h2
    rw [List.drop_succ_cons, List.drop_succ_cons, ← cmpL_eq h1 h2 h]
    simp [cmpL]
theorem cI_get {l : List Nat} {k : Nat} {x : Int} (h : (cI l)[k]? = some x) : ∃ t, l[k]? = some t ∧ x = (t : Int) := by
  unfold cI at h
  rw [List.getElem?_map, Option.map_eq_some_iff] at h
  obtain ⟨t, h1, h2⟩ := h
  exact ⟨t, h1, h2.symm⟩
theorem cmp_at {l m : List Nat} {k a b : Nat} (h : l.take k = m.take k) (ha : l[k]? = some a) (hb : m[k]? = some b) : cmpL l m = if a < b then -1 else if b < a then 1 else cmpL (l.drop (k + 1)) (m.drop (k + 1)) := by
  have h1 := (List.getElem?_eq_some_iff.1 ha)
  have h2 := (List.getElem?_eq_some_iff.1 hb)
  obtain ⟨h1, e1⟩ := h1
  obtain ⟨h2, e2⟩ := h2
  rw [cmpL_eq (by omega) (by omega) h, List.drop_eq_getElem_cons h1, List.drop_eq_getElem_cons h2, e1, e2]
  simp [cmpL]
theorem cmpL_calls (A B : Option Addr) (n c n2 c2 : Nat) (l m : List Nat) (w : World) (hr : RdS w 1 A n ((cI l).map inCells)) (hq : RdS w 1 B n2 ((cI m).map inCells)) (hn : n ≤ 1000000) (hn2 : n2 ≤ 1000000) : Calls Tryz.prog 136 #[.slice A n c, .slice B n2 c2] w fun e w' => e = .returned (.int .i64 (cmpL l m)) ∧ Ext w w' := by
  have hl : l.length = n := by have := hr.len; simpa [cI] using this
  have hm : m.length = n2 := by have := hq.len; simpa [cI] using this
  refine enterQ (c := cx w 36) Tryz.func136 rfl rfl rfl rfl ?_
  ((all_goals refine goD0 ?_); (all_goals constructor); (any_goals exact trivial); all_goals intros)
  apply t_loopK (ι := Nat) [0, 1, 9, 10] (fun k => [(11, .int .i64 ((k : Nat) : Int))]) (fun _ => []) (fun k => k ≤ n ∧ k ≤ l.length ∧ k ≤ m.length ∧ l.take k = m.take k) (fun k => n - k) (0)
  (repeat (first | exact KeepF.nil | (apply KeepF.cons; exact rfl) | apply KeepF.skip))
  (repeat (first | exact FrSub.nil | (apply FrSub.cons; exact rfl)))
  (repeat (first | exact HpSub.refl _ | (apply HpSub.consE; (repeat (first | exact P0 | apply P1)); exact rfl) | exact HpSub.nil))
  · exact ⟨Nat.zero_le _, Nat.zero_le _, Nat.zero_le _, rfl⟩
  rintro k ⟨hk, hkl, hkm, he⟩
  try simp only [List.cons_append, List.nil_append]
  by_cases hlt : k < n
  · obtain ⟨b1, o1, x, rfl, _, hx, c0⟩ := in_read hr hlt
    obtain ⟨a, ha, rfl⟩ := cI_get hx
    by_cases hlt2 : k < n2
    · obtain ⟨b2, o2, y, rfl, _, hy, c1⟩ := in_read hq hlt2
      obtain ⟨b, hb, rfl⟩ := cI_get hy
      have hc := cmp_at he ha hb
      rcases Nat.lt_trichotomy a b with h | h | h
      · rw [if_pos h] at hc
        rw [hc]
        have HC := fun w1 => cmpI_calls (a : Int) (b : Int) w1
        rw [show cmpI (a : Int) (b : Int) = -1 by unfold cmpI; rw [if_pos (by omega)]] at HC
        ((all_goals refine goD1 ?_); (all_goals constructor); (any_goals exact trivial); all_goals intros)
        all_goals rfl
      · subst h
        have HC := fun w1 => cmpI_calls (a : Int) (a : Int) w1
        rw [show cmpI (a : Int) (a : Int) = 0 by unfold cmpI; rw [if_neg (by omega), if_neg (by omega)]] at HC
        ((all_goals refine goD1 ?_); (all_goals constructor); (any_goals exact trivial); all_goals intros)
        all_goals (refine ⟨k + 1, ⟨by omega, by omega, by omega, by rw [List.take_add_one, List.take_add_one, he, ha, hb]⟩, by omega, ?_, ?_⟩ <;> (repeat' (first | exact FrSub.nil | (apply FrSub.cons; exact rfl) | exact HpSub.refl _ | (apply HpSub.consE; (repeat (first | exact P0 | apply P1)); exact rfl) | exact HpSub.nil)))
      · rw [if_neg (by omega), if_pos h] at hc
        rw [hc]
        have HC := fun w1 => cmpI_calls (a : Int) (b : Int) w1
        rw [show cmpI (a : Int) (b : Int) = 1 by unfold cmpI; rw [if_neg (by omega), if_pos (by omega)]] at HC
        ((all_goals refine goD1 ?_); (all_goals constructor); (any_goals exact trivial); all_goals intros)
        all_goals rfl
    · have hc := cmpL_eq hkl hkm he
      rw [List.drop_eq_nil_of_le (show m.length ≤ k by omega), List.drop_eq_getElem_cons (by omega)] at hc
      rw [hc]
      ((all_goals refine goD1 ?_); (all_goals constructor); (any_goals exact trivial); all_goals intros)
      all_goals rfl
  · have hc := cmpL_eq hkl hkm he
    rw [List.drop_eq_nil_of_le (show l.length ≤ k by omega)] at hc
    by_cases h2 : n < n2
    · rw [List.drop_eq_getElem_cons (by omega)] at hc
      rw [hc]
      ((all_goals refine goD1 ?_); (all_goals constructor); (any_goals exact trivial); all_goals intros)
      all_goals rfl
    · rw [List.drop_eq_nil_of_le (by omega)] at hc
      rw [hc]
      ((all_goals refine goD1 ?_); (all_goals constructor); (any_goals exact trivial); all_goals intros)
      all_goals rfl
def plF : Pl → Int
  | none => 0
  | some a => a.1
def plL : Pl → List Nat
  | none => []
  | some a => a.2
/-- A plan as it lies: its fuel, its tracks, is there none? -/
def plCells (p : Pl) (A : Option Addr) (n c : Nat) : List Value := [.int .i64 (plF p), .slice A n c, .bool p.isNone]
theorem better_calls (p q : Pl) (A B : Option Addr) (n c n2 c2 : Nat) (w : World) (hr : RdS w 1 A n ((cI (plL p)).map inCells)) (hq : RdS w 1 B n2 ((cI (plL q)).map inCells)) (hn : n ≤ 1000000) (hn2 : n2 ≤ 1000000) : Calls Tryz.prog 109 #[.agg ⟨plCells p A n c⟩, .agg ⟨plCells q B n2 c2⟩] w fun e w' => e = .returned (.int .i64 (better p q)) ∧ Ext w w' := by
  have hl : (plL p).length = n := by have := hr.len; simpa [cI] using this
  have hm : (plL q).length = n2 := by have := hq.len; simpa [cI] using this
  have HL := fun w1 (hx : Ext w w1) => cmpL_calls A B n c n2 c2 (plL p) (plL q) w1 (hr.ext hx) (hq.ext hx) hn hn2
  unfold plCells
  rcases p with _ | ⟨f1, l1⟩
  · rcases q with _ | ⟨f2, l2⟩
    · refine enterQ (c := cx w 44) Tryz.func109 rfl rfl rfl rfl ?_
      ((all_goals refine goD0 ?_); (all_goals constructor); (any_goals exact trivial); all_goals intros)
      all_goals rfl
    · refine enterQ (c := cx w 44) Tryz.func109 rfl rfl rfl rfl ?_
      ((all_goals refine goD0 ?_); (all_goals constructor); (any_goals exact trivial); all_goals intros)
      all_goals rfl
  · rcases q with _ | ⟨f2, l2⟩
    · refine enterQ (c := cx w 44) Tryz.func109 rfl rfl rfl rfl ?_
      ((all_goals refine goD0 ?_); (all_goals constructor); (any_goals exact trivial); all_goals intros)
      all_goals rfl
    · simp only [plF, plL, Option.isNone_some] at *
      unfold better
      simp only
      by_cases hf : f1 = f2
      · rw [if_neg (by omega), hl, hm]
        refine enterQ (c := cx w 44) Tryz.func109 rfl rfl rfl rfl ?_
        ((all_goals refine goD1 ?_); (all_goals constructor); (any_goals exact trivial); all_goals intros)
        all_goals rfl
      · rw [if_pos hf]
        refine enterQ (c := cx w 44) Tryz.func109 rfl rfl rfl rfl ?_
        ((all_goals refine goD1 ?_); (all_goals constructor); (any_goals exact trivial); all_goals intros)
        all_goals rfl
/-- A plan, and where its tracks lie. -/
structure Pn where
  p : Pl
  A : Option Addr
  n : Nat
  c : Nat
def pnCells (x : Pn) : List Value := [.int .i64 (plF x.p), .slice x.A x.n x.c, .bool x.p.isNone]
structure PnR (w : World) (x : Pn) : Prop where
  r : RdS w 1 x.A x.n ((cI (plL x.p)).map inCells)
  n : x.n ≤ 1000000
theorem PnR.ext {w w' : World} {x : Pn} (h : PnR w x) (e : Ext w w') : PnR w' x := ⟨h.r.ext e, h.n⟩
theorem pn_read {w : World} {A : Option Addr} {n : Nat} {l : List Pn} (h : RdS w 3 A n (l.map pnCells)) {i : Nat} (hi : i < n) :
    ∃ b o x, A = some ⟨b, o, none⟩ ∧ b < w.heap.size ∧ l[i]? = some x ∧ w.cell? ⟨b, o + i * 3, none⟩ = some (.int .i64 (plF x.p)) ∧ w.cell? ⟨b, o + i * 3 + 1, none⟩ = some (.slice x.A x.n x.c) ∧ w.cell? ⟨b, o + i * 3 + 2, none⟩ = some (.bool x.p.isNone) := by
  obtain ⟨b, o, cs, hA, hb, hx, _, hc⟩ := h.row hi
  simp only [List.getElem?_map, Option.map_eq_some_iff] at hx
  obtain ⟨x, hx, rfl⟩ := hx
  exact ⟨b, o, x, hA, hb, hx, hc 0 _ rfl, hc 1 _ rfl, hc 2 _ rfl⟩
theorem RdS.tl {w : World} {k b o n : Nat} {x : List Value} {xs : List (List Value)} (h : RdS w k (some ⟨b, o, none⟩) (n + 1) (x :: xs)) : RdS w k (some ⟨b, o + 1 * k, none⟩) n xs := by
  refine ⟨by have := h.len; simpa using this, fun hn => ?_⟩
  obtain ⟨b', o', hA, hb, hx⟩ := h.at_ (by omega)
  simp only [Option.some.injEq, Addr.mk.injEq] at hA
  obtain ⟨rfl, rfl, _⟩ := hA
  refine ⟨b, o + 1 * k, rfl, hb, fun i y hy => ?_⟩
  obtain ⟨h1, h2⟩ := hx (i + 1) y (by simpa using hy)
  refine ⟨h1, fun j u hu => ?_⟩
  have := h2 j u hu
  rwa [show o + (i + 1) * k + j = o + 1 * k + i * k + j by rw [Nat.add_mul]; omega] at this
theorem oq_sliceEnd {c : Cx} {F : Fr} {H : Hp} {d : Option Tmp} {ty t : TypeId} {pos : String} {af : Array Edge} {g : Option (Nat × Bool)} {x y : Operand} {a0 a1 : Bool} {s0 s1 e b o l : Nat} {z0 z1 : List Value} {k1 : TyK} {k : IntKind} {li : Int} (ht : tyAt c.tys t = some ⟨a0, s0, z0, .slice e⟩) (he : tyAt c.tys e = some ⟨a1, s1, z1, k1⟩)
    (hx : ev F x = some (.slice (some ⟨b, o, none⟩) l l)) (hy : ev F y = some (.int k li)) (hl : li = l) :
    OQ c ⟨d, .slice t x (some y) none none, ty, pos, af, g⟩ F H (.slice (some ⟨b, o, none⟩) 0 0) := .of fun D a w ha _ => by
  subst hl
  have hk := (c.ty ht).kind w
  have hs := (c.ty he).size w
  simp only [execOp, Option.map, ha.ev hx, ha.ev hy]
  simp [Instr.sliceAt, Instr.slice, Instr.sliceBounds, Instr.sliceBound, asIntOf, Sem.run_bind, hk, hs, Result.andThen, go_sem, add_eq]
theorem pn_tail {w : World} {A : Option Addr} {n c : Nat} {y : Pn} {l : List Pn} (hr : RdS w 3 A (n + 1) ((y :: l).map pnCells)) (hc : n + 1 ≤ c) :
    ∃ (A2 : Option Addr) (c2 : Nat), RdS w 3 A2 n (l.map pnCells) ∧ ∀ (F : Fr) (H : Hp) (d : Option Tmp) (ty : TypeId) (pos : String) (af : Array Edge) (g : Option (Nat × Bool)) (x : Operand) (N : Nat), ev F x = some (.slice A (n + 1) c) → OQ (cx w N) ⟨d, .slice 132 x (some (.const (.int .i64 1))) none none, ty, pos, af, g⟩ F H (.slice A2 n c2) := by
  obtain ⟨b, o, rfl, _, _⟩ := hr.at_ (by omega)
  have ht := RdS.tl hr
  by_cases h1 : c = 1
  · subst h1
    obtain rfl : n = 0 := by omega
    have hl0 := ht.len
    simp only [List.length_map] at hl0
    obtain rfl : l = [] := List.eq_nil_of_length_eq_zero hl0
    exact ⟨some ⟨b, o, none⟩, 0, RdS.nil _ _ _, fun F H d ty pos af g x N hx => oq_sliceEnd (l := 1) rfl rfl hx rfl rfl⟩
  · refine ⟨some ⟨b, o + 1 * 3, none⟩, c - 1, ht, fun F H d ty pos af g x N hx => ?_⟩
    have := oq_sliceL (c := cx w N) (H := H) (d := d) (ty := ty) (t := 132) (pos := pos) (af := af) (g := g) (x := x) (y := .const (.int .i64 1)) (l := 1) rfl rfl hx rfl rfl (by omega) h1
    rwa [show n + 1 - 1 = n by omega] at this
/-- The first of those that no other one is better than. -/
def lstN (y : Pn) (l : List Pn) : Pn := l.foldl (fun y x => if better x.p y.p < 0 then x else y) y
theorem lstN_snoc (y : Pn) (l : List Pn) (x : Pn) : lstN y (l ++ [x]) = if better x.p (lstN y l).p < 0 then x else lstN y l := by unfold lstN; rw [List.foldl_append]; rfl
theorem lstN_p : ∀ (l : List Pn) (y : Pn), (lstN y l).p = leastF y.p (l.map (·.p))
  | [], _ => rfl
  | x :: l, y => by
    show (lstN (if better x.p y.p < 0 then x else y) l).p = leastF (if better x.p y.p < 0 then x.p else y.p) (l.map (·.p))
    rw [lstN_p l]
    congr 1
    split <;> rfl
theorem lstN_mem : ∀ (l : List Pn) (y : Pn), lstN y l = y ∨ lstN y l ∈ l
  | [], _ => .inl rfl
  | x :: l, y => by
    show lstN (if better x.p y.p < 0 then x else y) l = y ∨ lstN (if better x.p y.p < 0 then x else y) l ∈ x :: l
    rcases lstN_mem l (if better x.p y.p < 0 then x else y) with h | h
    · split at h
      · rename_i hb
        rw [if_pos hb, h]
        exact .inr (List.mem_cons_self ..)
      · rename_i hb
        rw [if_neg hb, h]
        exact .inl rfl
    · exact .inr (List.mem_cons_of_mem _ h)
theorem least_calls (A : Option Addr) (n c : Nat) (y : Pn) (l : List Pn) (w : World) (hr : RdS w 3 A (n + 1) ((y :: l).map pnCells)) (hc : n + 1 ≤ c) (hn : n ≤ 1000000) (hp : ∀ x ∈ y :: l, PnR w x) : Calls Tryz.prog 108 #[.slice A (n + 1) c, .func (.func 109) #[] #[]] w fun e w' => e = .returned (.agg ⟨pnCells (lstN y l)⟩) ∧ Ext w w' := by
  obtain ⟨A2, c2, ht, hSl⟩ := pn_tail hr hc
  have hl : l.length = n := by have := ht.len; simpa using this
  obtain ⟨bA, oA, y', rfl, _, hy, c0, c1, c2'⟩ := pn_read hr (show 0 < n + 1 by omega)
  obtain rfl := Option.some.inj hy
  rw [show oA + 0 * 3 = oA by omega] at c0 c1 c2'
  have d0 := c0
  have d1 := c1
  have d2 := c2'
  clear c0 c1 c2' hr
  refine enterQ (c := cx w 26) Tryz.func108 rfl rfl rfl rfl ?_
  ((all_goals refine goD1 ?_); (all_goals constructor); (any_goals exact trivial); all_goals intros)
  rename_i b4 b5
  apply t_loopK (ι := Nat) [1, 4, 5, 12, 13] (fun k => [(14, .int .i64 ((k : Nat) : Int))]) (fun k => [(b4, [.int .i64 0, .slice none 0 0, .bool false], some (131, 3, 1)), (b5, [.int .i64 (plF (lstN y (l.take k)).p), .slice (lstN y (l.take k)).A (lstN y (l.take k)).n (lstN y (l.take k)).c, .bool (lstN y (l.take k)).p.isNone], some (131, 3, 1))]) (fun k => k ≤ n) (fun k => n - k) (0)
  (repeat (first | exact KeepF.nil | (apply KeepF.cons; exact rfl) | apply KeepF.skip))
  (repeat (first | exact FrSub.nil | (apply FrSub.cons; exact rfl)))
  (repeat (first | exact HpSub.refl _ | (apply HpSub.consE; (repeat (first | exact P0 | apply P1)); exact rfl) | exact HpSub.nil))
  · exact Nat.zero_le _
  rintro k hk
  try simp only [List.cons_append, List.nil_append]
  have hR : PnR w (lstN y (l.take k)) := by
    rcases lstN_mem (l.take k) y with h | h
    · rw [h]; exact hp _ (List.mem_cons_self ..)
    · exact hp _ (List.mem_cons_of_mem _ (List.mem_of_mem_take h))
  by_cases hlt : k < n
  · obtain ⟨b2, o2, x, rfl, _, hx, c0, c1, c2'⟩ := pn_read ht hlt
    have c2 := c2'
    clear c2'
    have hX := hp x (List.mem_cons_of_mem _ (List.mem_of_getElem? hx))
    have hs : lstN y (l.take (k + 1)) = if better x.p (lstN y (l.take k)).p < 0 then x else lstN y (l.take k) := by rw [List.take_add_one, hx]; exact lstN_snoc _ _ _
    generalize lstN y (l.take k) = u at *
    have HB := fun w1 (e : Ext w w1) => better_calls x.p u.p x.A u.A x.n x.c u.n u.c w1 (hX.r.ext e) (hR.r.ext e) hX.n hR.n
    unfold plCells at HB
    by_cases hb : better x.p u.p < 0
    · rw [if_pos hb] at hs
      ((all_goals refine goD1 ?_); (all_goals constructor); (any_goals exact trivial); all_goals intros)
      all_goals (refine ⟨k + 1, by omega, by omega, ?_, ?_⟩ <;> (try simp only [hs]) <;> (repeat' (first | exact FrSub.nil | (apply FrSub.cons; exact rfl) | exact HpSub.refl _ | (apply HpSub.consE; (repeat (first | exact P0 | apply P1)); exact rfl) | exact HpSub.nil)))
    · rw [if_neg hb] at hs
      ((all_goals refine goD1 ?_); (all_goals constructor); (any_goals exact trivial); all_goals intros)
      all_goals (refine ⟨k + 1, by omega, by omega, ?_, ?_⟩ <;> (try simp only [hs]) <;> (repeat' (first | exact FrSub.nil | (apply FrSub.cons; exact rfl) | exact HpSub.refl _ | (apply HpSub.consE; (repeat (first | exact P0 | apply P1)); exact rfl) | exact HpSub.nil)))
  · obtain rfl : k = n := by omega
    rw [List.take_of_length_le (by omega)] at *
    unfold pnCells
    ((all_goals refine goD1 ?_); (all_goals constructor); (any_goals exact trivial); all_goals intros)
    all_goals rfl
end Go.Proofs.YtcjkndjjbjoehaaGreat
namespace Go.Proofs.YtcjkndjjbjoehaaGreat
open Go.RowKit
section
variable {c : Cx} {F : Fr} {H H' : Hp} {K : Value → Hp → Prop} {d : Option Tmp} {ty : TypeId} {pos : String} {af : Array Edge} {gd : Option (Nat × Bool)} {t t' : TypeId} {x y : Operand} {a0 a1 : Bool} {s0 s1 : Nat} {z0 z1 : List Value} {k1 : TyK} {g : Nat} {tg : Tg} {C : List Value}
theorem oq_sliceH {e b o len cap h : Nat} {k : IntKind} {hi : Int} (ht : tyAt c.tys t = some ⟨a0, s0, z0, .slice e⟩) (he : tyAt c.tys e = some ⟨a1, s1, z1, k1⟩)
    (hx : ev F x = some (.slice (some ⟨b, o, none⟩) len cap)) (hy : ev F y = some (.int k hi)) (hl : hi = h) (h1 : h ≤ cap) :
    OQ c ⟨d, .slice t x none (some y) none, ty, pos, af, gd⟩ F H (.slice (some ⟨b, o, none⟩) h cap) := .of fun D a w ha _ => by
  subst hl
  have hk := (c.ty ht).kind w
  have hs := (c.ty he).size w
  simp only [execOp, Option.map, ha.ev hx, ha.ev hy]
  by_cases h2 : cap = 0
  · subst h2
    simp [Instr.sliceAt, Instr.slice, Instr.sliceBounds, Instr.sliceBound, asIntOf, Sem.run_bind, hk, hs, h1, Result.andThen, go_sem, add_eq]
  · simp [Instr.sliceAt, Instr.slice, Instr.sliceBounds, Instr.sliceBound, asIntOf, Sem.run_bind, hk, hs, h1, h2, Result.andThen, go_sem, add_eq]
theorem Rds.own {b : Nat} (hp : Pick H b C tg H') : ∀ (vs : List Value) (o : Nat), (∀ j v, vs[j]? = some v → C[o + j]? = some v) → Rds c H b o vs
  | [], _, _ => trivial
  | v :: vs, o, h => ⟨Rd.own hp (h 0 v rfl), Rds.own hp vs (o + 1) fun j u hj => by have := h (j + 1) u (by simpa using hj); rw [← this]; congr 1; omega⟩
end
theorem flatten_at {k : Nat} : ∀ {rows : List (List Value)}, (∀ r ∈ rows, r.length = k) → ∀ {j : Nat} {u : Value}, rows.flatten[j]? = some u → ∃ i r j', rows[i]? = some r ∧ r[j']? = some u ∧ j = i * k + j'
  | [], _, j, u, h => by simp at h
  | r :: rows, hk, j, u, h => by
    simp only [List.flatten_cons] at h
    have hr := hk r (List.mem_cons_self ..)
    by_cases hj : j < r.length
    · rw [List.getElem?_append_left hj] at h
      exact ⟨0, r, j, rfl, h, by simp⟩
    · rw [List.getElem?_append_right (by omega)] at h
      obtain ⟨i, r', j', h1, h2, h3⟩ := flatten_at (fun r hr => hk r (List.mem_cons_of_mem _ hr)) h
      exact ⟨i + 1, r', j', by simpa using h1, h2, by rw [Nat.succ_mul]; omega⟩
theorem flatten_len {k : Nat} : ∀ {rows : List (List Value)}, (∀ r ∈ rows, r.length = k) → rows.flatten.length = rows.length * k
  | [], _ => by simp
  | r :: rows, hk => by
    rw [List.flatten_cons, List.length_append, hk r (List.mem_cons_self ..), flatten_len fun r hr => hk r (List.mem_cons_of_mem _ hr), List.length_cons, Nat.succ_mul]
    omega
section
variable {c : Cx} {F : Fr} {H H' : Hp} {C : List Value} {K : Value → Hp → Prop} {d : Option Tmp} {ty : TypeId} {pos : String} {af : Array Edge} {g : Option (Nat × Bool)}
theorem append_run0 {g0 : Option (Nat × Bool)} {s x : Operand} {t e size bytes c2 n cap gb : Nat} {A : Option Addr} {a : Act} {w : World} (hk : AppOk c.P t e size bytes) (hs : a.eval s = .slice (some ⟨gb, 0, none⟩) n cap)
    (hx : a.eval x = .slice A 0 c2) (hn : n ≤ cap) : (execOp a.eval ⟨d, .call ⟨.builtin .append, #[s, x], #[t, t]⟩, ty, pos, af, g0⟩).run c.P w = .ok (.value (.slice (some ⟨gb, 0, none⟩) n cap)) w := by
  obtain ⟨i, z, k1, k2, k3, k4, k5⟩ := hk.info
  have ht := hk.und
  cases A <;>
  simp [execOp, resolve, invoke, builtin, Sem.run_bind, Sem.run_pure, Result.andThen, hs, hx, Builtin.append_, run_underlying ht, sizeOf, typeInfo, k1, Builtin.lenOf, Builtin.firstCells, loadCells, loadCellsFrom, hn, storeCells]
/-- append of a slice of rows onto a slice of the call's own. -/
theorem os_appendRows {s x : Operand} {t e size bytes m c2 n cap gb : Nat} {A : Option Addr} {rows : List (List Value)} (hk : AppOk c.P t e size bytes) (hs : ev F s = some (.slice (some ⟨gb, 0, none⟩) n cap)) (hx : ev F x = some (.slice A m c2))
    (hp : Pick H gb C (some (e, size, cap)) H') (hr : ∀ D w, Has c.w0 ⟨c.M, D⟩ H w → RdS w size A m rows) (hrk : ∀ r ∈ rows, r.length = size) (hC : C.length = n * size) (h1 : ∀ r ∈ rows, ∀ u ∈ r, u.oneCell' = true) (hn : n ≤ cap) (hb : (n + m) * bytes ≤ 140737488355328) (hmax : n + m ≤ 9223372036854775807)
    (k : ∀ b cap', K (.slice (some ⟨b, 0, none⟩) (n + m) cap') ((b, C ++ rows.flatten, some (e, size, cap')) :: H')) : OS c ⟨d, .call ⟨.builtin .append, #[s, x], #[t, t]⟩, ty, pos, af, g⟩ F H K := by
  intro D a w ha hw
  have hw' := hw.perm hp.perm
  have hR := hr D w hw
  have hlen := hR.len
  by_cases hm : m = 0
  · subst hm
    have : rows = [] := List.eq_nil_of_length_eq_zero hlen
    subst this
    rw [append_run0 (d := d) (ty := ty) (pos := pos) (af := af) (g0 := g) hk (ha.ev hs) (ha.ev hx) hn]
    exact ⟨_, k gb cap, by simpa using hw'⟩
  · obtain ⟨b2, o2, rfl, _, hc⟩ := hR.at_ (by omega)
    obtain ⟨g', cap', w', r1, r2, r3, r4⟩ := append_run (d := d) (ty := ty) (pos := pos) (af := af) (g0 := g) (news := rows.flatten) hk (ha.ev hs) (own_of_blk (hw'.blk _ (List.mem_cons_self ..)).2 hC hk.pos) (ha.ev hx) (by rw [flatten_len hrk, hlen])
      (fun j u hj => by
        obtain ⟨i, r, j', h2, h3, rfl⟩ := flatten_at hrk hj
        have := (hc i r h2).2 j' u h3
        rw [Nat.add_assoc] at this
        exact this)
      (fun u hu => by
        obtain ⟨r, h2, h3⟩ := List.mem_flatten.1 hu
        exact h1 r h2 u h3) (by omega) hb hmax
    rw [r1]
    have he : ExtM [gb] w w' := ExtM.of_grown r3 (fun k e => by simpa [Value.ownBlock] using e.symm)
    refine ⟨_, k g' cap', ?_⟩
    rcases r4 with r4 | r4
    · obtain rfl : g' = gb := by simpa [Value.ownBlock] using r4
      exact hw'.wrote he r2
    · subst r4
      exact (hw'.lost he).fresh' (w := w) hw.ext.size (fun y hy => (hw'.blk y (List.mem_cons_of_mem _ hy)).2.lt) r2
end
theorem run_append_zeros {P : Program} (w : World) (t tx ty e : TypeId) (i : TypeInfo) (z : Value) (ht : P.underlying t = some (.slice e)) (hx : P.underlying tx = some (.int .i64)) (hi : P.info? e = some i) (hz : i.zero = some z) (hs : 0 < i.size)
    (n : Nat) (h0 : 0 < n) (h63 : (n : Int) ≤ 9223372036854775807) (h48 : n * i.bytes ≤ 281474976710656) :
    (Builtin.append_ #[t, tx] ty #[.slice none 0 0, .int .i64 (n : Int)]).run P w =
      .ok (.slice (some ⟨w.heap.size, 0, none⟩) n (grownCap w n 0 e)) (w.drew.alloc (.cells (Builtin.zeroCells z.cells n ++ Builtin.zeroCells z.cells (grownCap w n 0 e - n)) e)) := by
  have hn : n ≠ 0 := by omega
  have h63' : ¬ (9223372036854775807 < (n : Int)) := by omega
  have h48' : ¬ (281474976710656 < Builtin.nextslicecap n 0 * i.bytes) := by rw [nextslicecap_zero h0]; omega
  have h48i : ¬ (281474976710656 < (n : Int) * (i.bytes : Int)) := by
    have : ((n * i.bytes : Nat) : Int) ≤ 281474976710656 := by omega
    rw [Int.natCast_mul] at this; omega
  have hw : IntKind.i64.wrap (n : Int) = (n : Int) := IntWalk.i64_in _ (by omega)
  have hz0 : ¬ (n * i.size = 0) := by have := Nat.mul_pos h0 hs; omega
  have hz1 : ¬ (n = 0 ∨ i.size = 0) := by omega
  have hneg : ¬ ((n : Int) < 0) := by omega
  simp [Builtin.append_, run_underlying ht, run_underlying hx, sizeOf, typeInfo, zeroValue, hi, hz, asInt, asIntOf, hw, hneg, hn, h63', h48', h48i, hz0, hz1, Question.forced, newRow, grownCap, run_firstCells_none]
theorem os_appendZ {c : Cx} {F : Fr} {H : Hp} {K : Value → Hp → Prop} {d : Option Tmp} {ty : TypeId} {pos : String} {af : Array Edge} {g : Option (Nat × Bool)} {s x : Operand} {t tx e size bytes n : Nat} (hk : AppOk c.P t e size bytes) (hti : c.P.underlying tx = some (.int .i64)) (hs : ev F s = some (.slice none 0 0)) (hx : ev F x = some (.int .i64 (n : Int))) (h0 : 0 < n) (hb : n * bytes ≤ 281474976710656) (hn : n ≤ maxLen)
    (k : ∀ b cap, n ≤ cap → K (.slice (some ⟨b, 0, none⟩) n cap) ((b, [], some (e, size, cap)) :: H)) : OS c ⟨d, .call ⟨.builtin .append, #[s, x], #[t, tx]⟩, ty, pos, af, g⟩ F H K := by
  intro D a w ha hw
  obtain ⟨i, z, k1, k2, k3, k4, k5⟩ := hk.info
  have hp := hk.pos
  have r := run_append_zeros (P := c.P) w t tx ty e i z hk.und hti k1 k2 (by omega) n h0 (by unfold maxLen at hn; omega) (by rw [k4]; exact hb)
  have : (execOp a.eval ⟨d, .call ⟨.builtin .append, #[s, x], #[t, tx]⟩, ty, pos, af, g⟩).run c.P w = .ok (.value (.slice (some ⟨w.heap.size, 0, none⟩) n (grownCap w n 0 e))) (w.drew.alloc (.cells (Builtin.zeroCells z.cells n ++ Builtin.zeroCells z.cells (grownCap w n 0 e - n)) e)) := by
    simp [execOp, resolve, invoke, builtin, Sem.run_bind, Sem.run_pure, Result.andThen, ha.ev hs, ha.ev hx, r]
  rw [this]
  have hge := grownCap_ge w n 0 e
  refine ⟨_, k w.heap.size _ hge, hw.fresh ((Ext.refl w).drew.alloc _) (Nat.le_refl _) (.inl ⟨_, e, heap_alloc_new w.drew _, fun o v h => (by simp at h), rfl, ?_, grownCap_le_maxLen w n 0 e hn⟩)⟩
  rw [Array.size_append, size_zeroCells, size_zeroCells, k5, ← Nat.add_mul]
  congr 1
  omega
/-- append onto a slice of the call's own: how much room there is does not matter. -/
theorem os_appendU {c : Cx} {F : Fr} {H H' : Hp} {C : List Value} {K : Value → Hp → Prop} {d : Option Tmp} {ty : TypeId} {pos : String} {af : Array Edge} {g : Option (Nat × Bool)} {s x : Operand} {t e size bytes m c2 n cap gb : Nat} {A : Option Addr} {rows : List (List Value)} (hk : AppOk c.P t e size bytes) (hs : ev F s = some (.slice (some ⟨gb, 0, none⟩) n cap)) (hx : ev F x = some (.slice A m c2))
    (hp : Pick H gb C (some (e, size, cap)) H') (hr : ∀ D w, Has c.w0 ⟨c.M, D⟩ H w → RdS w size A m rows) (hrk : ∀ r ∈ rows, r.length = size) (hC : C.length = n * size) (h1 : ∀ r ∈ rows, ∀ u ∈ r, u.oneCell' = true) (hb : (n + m) * bytes ≤ 140737488355328) (hmax : n + m ≤ 9223372036854775807)
    (k : ∀ b cap', K (.slice (some ⟨b, 0, none⟩) (n + m) cap') ((b, C ++ rows.flatten, some (e, size, cap')) :: H')) : OS c ⟨d, .call ⟨.builtin .append, #[s, x], #[t, t]⟩, ty, pos, af, g⟩ F H K := by
  intro D a w ha hw
  have hw' := hw.perm hp.perm
  obtain ⟨_, h | ⟨g', cap', cur, hv, _, _, h2, _⟩⟩ := own_of_blk (hw'.blk _ (List.mem_cons_self ..)).2 hC hk.pos
  · cases h.1
  · simp only [Value.slice.injEq] at hv
    obtain ⟨_, _, rfl⟩ := hv
    exact os_appendRows hk hs hx hp hr hrk hC h1 h2 hb hmax k D a w ha hw
theorem oq_cap {c : Cx} {F : Fr} {H : Hp} {d : Option Tmp} {ty : TypeId} {pos : String} {af : Array Edge} {g : Option (Nat × Bool)} {x : Operand} {A : Option Addr} {n cp : Nat} {t e s0 : Nat} {a0 : Bool} {z0 : List Value} (ht : tyAt c.tys t = some ⟨a0, s0, z0, .slice e⟩) (hx : ev F x = some (.slice A n cp)) :
    OQ c ⟨d, .call ⟨.builtin .cap, #[x], #[t]⟩, ty, pos, af, g⟩ F H (.int .i64 ((cp : Nat) : Int)) := .of fun D a w ha _ => by
  have hk := (c.ty ht).kind w
  simp [execOp, resolve, invoke, builtin, ha.ev hx, Builtin.cap_, hk, Sem.run_bind, Sem.run_pure, Result.andThen, goInt]
theorem oq_sliceNil {c : Cx} {F : Fr} {H : Hp} {d : Option Tmp} {ty t : TypeId} {pos : String} {af : Array Edge} {g : Option (Nat × Bool)} {x y : Operand} {a0 a1 : Bool} {s0 s1 e : Nat} {z0 z1 : List Value} {k1 : TyK} {k : IntKind} {hi : Int} (ht : tyAt c.tys t = some ⟨a0, s0, z0, .slice e⟩) (he : tyAt c.tys e = some ⟨a1, s1, z1, k1⟩)
    (hx : ev F x = some (.slice none 0 0)) (hy : ev F y = some (.int k hi)) (h0 : hi = 0) :
    OQ c ⟨d, .slice t x none (some y) none, ty, pos, af, g⟩ F H (.slice none 0 0) := .of fun D a w ha _ => by
  subst h0
  have hk := (c.ty ht).kind w
  have hs := (c.ty he).size w
  simp only [execOp, Option.map, ha.ev hx, ha.ev hy]
  simp [Instr.sliceAt, Instr.slice, Instr.sliceBounds, Instr.sliceBound, asIntOf, Sem.run_bind, hk, hs, Result.andThen, go_sem, add_eq]
end Go.Proofs.YtcjkndjjbjoehaaGreat
namespace Go.Proofs.YtcjkndjjbjoehaaGreat
open Go.RowKit
attribute [local irreducible] OQ OS OX Rd T TL GX GL AL AI RV wpG SAny Calls
def GrowV (n : Nat) (u : Value) (H : Hp) : Prop := ∃ b cap, n ≤ cap ∧ u = .slice (some ⟨b, 0, none⟩) 0 cap ∧ H = [(b, [], some (3, 1, cap))]
theorem grow_calls (n : Nat) (h0 : 0 < n) (hn : n ≤ 1000000) (w : World) : Calls Tryz.prog 132 #[.slice none 0 0, .int .i64 (n : Nat)] w fun e w' => ∃ u H', e = .returned u ∧ GrowV n u H' ∧ Has w ⟨[], []⟩ H' w' := by
  refine enterF (c := cx w 27) Tryz.func132 rfl rfl rfl rfl ?_
  repeat' (first
    | ((with_reducible apply oq_id); first | ((with_reducible apply oq_cap); exact rfl; exact rfl) | ((with_reducible apply oq_sliceNil); exact rfl; exact rfl; exact rfl; exact rfl; (first | exact rfl | omega)) | ((with_reducible apply (oq_sliceH (h := 0))); exact rfl; exact rfl; exact rfl; exact rfl; (first | exact rfl | omega); omega) | (focus ((with_reducible apply (oq_subE (k := 0))); exact rfl; exact rfl; omega)) | (focus ((with_reducible apply (oq_subE (k := (n : Int)))); exact rfl; exact rfl; omega)) | ((with_reducible apply oq_lssT); exact rfl; exact rfl; omega) | ((with_reducible apply oq_lssF); exact rfl; exact rfl; omega) | ((with_reducible apply oq_gtrT); exact rfl; exact rfl; omega) | ((with_reducible apply oq_gtrF); exact rfl; exact rfl; omega) | (apply oq_fn; exact rfl; first | exact trivial | (refine ⟨?_, ?_⟩ <;> omega) | (refine ⟨?_, ?_, ?_⟩ <;> omega) | omega | skip) | ((with_reducible apply oq_load); exact rfl; exact rfl) | ((with_reducible apply oq_loadAgg); exact rfl; exact rfl) | ((with_reducible apply oq_build); exact rfl; exact rfl; exact rfl) | ((with_reducible apply oq_buildA); exact rfl; exact rfl; exact rfl; exact rfl) | ((with_reducible apply oq_fieldAgg); exact rfl; exact rfl; exact rfl) | ((with_reducible apply oq_indexAgg); exact rfl; exact rfl; exact rfl; exact rfl))
    | ((with_reducible apply tl_id); first | ((with_reducible apply tl_nil)) | ((with_reducible apply u_s); exact rfl; exact rfl; exact rfl; ((with_reducible apply (os_appendZ (hk := app_ok31) (n := n))); exact Tryz.underlying3; exact rfl; exact rfl; exact h0; omega; (unfold maxLen; omega); intro b cap hcap)) | ((with_reducible apply u_q); exact rfl; exact rfl; exact rfl; exact rfl) | ((with_reducible apply u_s0); exact rfl; exact rfl) | ((with_reducible apply u_s); exact rfl; exact rfl; exact rfl) | ((with_reducible apply u_skip); exact rfl; exact rfl; exact rfl) | ((with_reducible apply u_splitD); exact rfl; exact rfl; all_goals first | (intro hp; try (exfalso; omega)) | skip) | ((with_reducible apply u_splitN); exact rfl; exact rfl; all_goals first | (intro hp; try (exfalso; omega)) | skip) | ((with_reducible apply u_split); exact rfl; exact rfl; all_goals first | intro hp | skip))
    | ((with_reducible apply gx_id); first | ((with_reducible apply v_nil)) | ((with_reducible apply v_q); exact rfl; exact rfl; exact rfl) | ((with_reducible apply v_skip); exact rfl; exact rfl; exact rfl) | ((with_reducible apply v_splitD); exact rfl; exact rfl; all_goals first | (intro hp; try (exfalso; omega)) | skip) | ((with_reducible apply v_splitN); exact rfl; exact rfl; all_goals first | (intro hp; try (exfalso; omega)) | skip) | ((with_reducible apply v_split); exact rfl; exact rfl; all_goals first | intro hp | skip))
    | ((with_reducible apply os_id); first | ((with_reducible apply os_x); exact rfl) | ((with_reducible apply os_store); exact rfl; exact rfl; exact rfl; exact rfl) | ((with_reducible apply os_storeAgg); exact rfl; exact rfl; exact rfl; exact rfl; exact rfl))
    | ((with_reducible apply ox_id); first | ((with_reducible apply ox_alloc); exact rfl; intro _) | ((with_reducible apply ox_box); exact rfl; exact rfl; intro _) | ((with_reducible apply ox_boxAgg); exact rfl; intro _) | ((with_reducible apply ox_buildSlice1); exact rfl; exact rfl; exact rfl; exact rfl; exact rfl; exact rfl; intro _) | ((with_reducible apply ox_buildSlice2); exact rfl; exact rfl; exact rfl; exact rfl; exact rfl; exact rfl; intro _) | ((with_reducible apply ox_buildSlice); exact rfl; exact rfl; exact rfl; exact rfl))
    | ((with_reducible apply rd_id); first | (apply Rd.own; (repeat (first | exact P0 | apply P1)); exact rfl; done) | (apply Rd.old; (first | (with_reducible assumption) | exact c0 | exact c1 | exact c2 | exact c3 | exact c4 | exact c5 | exact c6 | exact c7 | exact c8 | exact d0 | exact d1 | exact d2 | exact d3 | exact d4 | exact d5); first | exact List.not_mem_nil | exact m0 | exact m1 | exact m2 | exact m3 | exact m4 | exact m5 | exact m6 | exact m7 | exact m8 | exact m9))
    | ((with_reducible apply t_id); first | ((with_reducible apply t_seq)) | (apply t_region; kernel_rfl) | (apply t_drawn; kernel_rfl; decide +kernel; try simp only [List.append_eq, List.cons_append, List.nil_append]) | ((with_reducible apply t_condT); exact rfl) | ((with_reducible apply t_condF); exact rfl) | ((with_reducible apply t_condD); exact rfl; all_goals first | (intro hp; try (exfalso; omega)) | skip) | ((with_reducible apply t_condN); exact rfl; all_goals first | (intro hp; try (exfalso; omega)) | skip) | ((with_reducible apply t_cond); exact rfl; all_goals first | intro hp | skip) | ((with_reducible apply t_ret)) | ((with_reducible apply t_skip)) | ((with_reducible apply t_exit)) | ((with_reducible apply t_block)))
    | with_reducible apply q_thenN
    | with_reducible apply q_thenR
    | with_reducible apply q_blockR
    | with_reducible apply q_blockN
    | with_reducible apply q_thenE
    | ((with_reducible apply q_blockE); exact rfl)
    | ((with_reducible apply q_blockO); exact rfl)
    | exact P0
    | ((with_reducible apply P1))
    | exact Rdn.zero
    | apply Rdn.succ
    | ((with_reducible apply Norm.nil); exact rfl)
    | ((with_reducible apply Norm.cons); exact rfl)
    | ((with_reducible apply end_ret))
    | ((with_reducible apply end_normal))
    | exact rvs_nil
    | ((with_reducible apply rvs_cons))
    | ((with_reducible apply rv_tmp); exact rfl)
    | ((with_reducible apply rv_cell); exact rfl; exact rfl)
    | ((with_reducible apply rv_cellAgg); exact rfl; exact rfl)
    | exact Nat.le_of_ble_eq_true rfl
    | exact (rfl : (_ : Bool) = true)
    | omega
    | (intro _ _; with_reducible apply tl_id)
    | (intro _; with_reducible apply tl_id)
    | (intro _ _; with_reducible apply al_id)
    | (intro _; with_reducible apply al_id))
  all_goals (refine ⟨_, ⟨_, _, hcap, rfl, rfl⟩, ?_⟩; (try simp only [List.append_nil]); exact HpSub.refl _)
theorem in_flat (l : List Int) : (l.map inCells).flatten = l.map iv := by
  induction l with
  | nil => rfl
  | cons a l ih => simp only [List.map_cons, List.flatten_cons, ih]; rfl
theorem in_rows_len {l : List Int} : ∀ r ∈ l.map inCells, r.length = 1 := by
  intro r hr
  obtain ⟨x, _, rfl⟩ := List.mem_map.1 hr
  rfl
theorem in_rows_one {l : List Int} : ∀ r ∈ l.map inCells, ∀ u ∈ r, u.oneCell' = true := by
  intro r hr u hu
  obtain ⟨x, _, rfl⟩ := List.mem_map.1 hr
  simp only [inCells, List.mem_singleton] at hu
  subst hu; rfl
/-- A list that is handed out. -/
def OwnI (l : List Int) (n : Nat) (u : Value) (H : Hp) : Prop := ∃ b cap, u = .slice (some ⟨b, 0, none⟩) n cap ∧ H = [(b, l.map iv, some (3, 1, cap))]
theorem concat_calls (A : Option Addr) (c : Nat) (X Y : Option Addr) (nx cx' ny cy : Nat) (l1 l2 : List Int) (w : World) (hr : RdS w 1 A 2 [[.slice X nx cx'], [.slice Y ny cy]]) (h1 : RdS w 1 X nx (l1.map inCells)) (h2 : RdS w 1 Y ny (l2.map inCells)) (h0 : 0 < nx + ny) (hn : nx + ny ≤ 1000000) : Calls Tryz.prog 107 #[.slice A 2 c] w fun e w' => ∃ u H', e = .returned u ∧ OwnI (l1 ++ l2) (nx + ny) u H' ∧ Has w ⟨[], []⟩ H' w' := by
  have e1 : l1.length = nx := by have := h1.len; simpa using this
  have e2 : l2.length = ny := by have := h2.len; simpa using this
  obtain ⟨bA, oA, x0, rfl, _, hx0, _, hc0⟩ := hr.row (show 0 < 2 by omega)
  obtain ⟨bB, oB, x1, hA, _, hx1, _, hc1⟩ := hr.row (show 1 < 2 by omega)
  simp only [Option.some.injEq, Addr.mk.injEq] at hA
  obtain ⟨rfl, rfl, _⟩ := hA
  simp only [List.getElem?_cons_zero, List.getElem?_cons_succ, Option.some.injEq] at hx0 hx1
  subst hx0
  subst hx1
  have c0 := hc0 0 _ rfl
  have c1 := hc1 0 _ rfl
  clear hc0 hc1
  refine enterF (c := cx w 36) Tryz.func107 rfl rfl rfl rfl ?_
  ((all_goals refine goD0 ?_); (all_goals constructor); (any_goals exact trivial); all_goals intros)
  apply t_loopK (ι := Nat) [0, 9, 10] (fun k => [(11, .int .i64 ((k : Nat) : Int)), (3, .int .i64 ((if k = 0 then 0 else if k = 1 then nx else nx + ny : Nat) : Int))]) (fun _ => []) (fun k => k ≤ 2) (fun k => 2 - k) (0)
  (repeat (first | exact KeepF.nil | (apply KeepF.cons; exact rfl) | apply KeepF.skip))
  (repeat (first | exact FrSub.nil | (apply FrSub.cons; exact rfl)))
  (repeat (first | exact HpSub.refl _ | (apply HpSub.consE; (repeat (first | exact P0 | apply P1)); exact rfl) | exact HpSub.nil))
  · exact Nat.zero_le _
  rintro k hk
  try simp only [List.cons_append, List.nil_append]
  by_cases hlt : k < 2
  · rcases (show k = 0 ∨ k = 1 by omega) with rfl | rfl
    · simp only [if_true]
      ((all_goals refine goD1 ?_); (all_goals constructor); (any_goals exact trivial); all_goals intros)
      all_goals (refine ⟨1, by omega, by omega, ?_, ?_⟩ <;> (try simp only [show ¬ (1 = 0) by omega, if_false, if_true]) <;> (repeat' (first | exact FrSub.nil | (apply FrSub.cons; exact rfl) | (apply FrSub.consE; exact rfl; (simp; done)) | exact HpSub.refl _ | (apply HpSub.consE; (repeat (first | exact P0 | apply P1)); first | exact rfl | (simp [in_flat]; done)) | apply HpSub.skipX | exact HpSub.nil)))
    · simp only [show ¬ (1 = 0) by omega, if_false, if_true]
      ((all_goals refine goD1 ?_); (all_goals constructor); (any_goals exact trivial); all_goals intros)
      all_goals (refine ⟨2, by omega, by omega, ?_, ?_⟩ <;> (try simp only [show ¬ (2 = 0) by omega, show ¬ (2 = 1) by omega, if_false, if_true]) <;> (repeat' (first | exact FrSub.nil | (apply FrSub.cons; exact rfl) | (apply FrSub.consE; exact rfl; (simp; done)) | exact HpSub.refl _ | (apply HpSub.consE; (repeat (first | exact P0 | apply P1)); first | exact rfl | (simp [in_flat]; done)) | apply HpSub.skipX | exact HpSub.nil)))
  obtain rfl : k = 2 := by omega
  simp only [show ¬ (2 = 0) by omega, show ¬ (2 = 1) by omega, if_false, if_true]
  repeat' (first
    | ((with_reducible apply oq_id); first | (focus ((with_reducible apply oq_indexAddrN); exact rfl; exact rfl; exact rfl; exact rfl; omega)) | (focus ((with_reducible apply (oq_addE (k := ((k + 1 : Nat) : Int)))); exact rfl; exact rfl; omega)) | ((with_reducible apply oq_lssT); exact rfl; exact rfl; omega) | ((with_reducible apply oq_lssF); exact rfl; exact rfl; omega) | (apply oq_fn; exact rfl; first | exact trivial | (refine ⟨?_, ?_⟩ <;> omega) | (refine ⟨?_, ?_, ?_⟩ <;> omega) | omega | skip) | ((with_reducible apply oq_load); exact rfl; exact rfl) | ((with_reducible apply oq_loadAgg); exact rfl; exact rfl) | ((with_reducible apply oq_build); exact rfl; exact rfl; exact rfl) | ((with_reducible apply oq_buildA); exact rfl; exact rfl; exact rfl; exact rfl) | ((with_reducible apply oq_fieldAgg); exact rfl; exact rfl; exact rfl) | ((with_reducible apply oq_indexAgg); exact rfl; exact rfl; exact rfl; exact rfl))
    | ((with_reducible apply tl_id); first | ((with_reducible apply tl_nil)) | ((with_reducible apply u_s); exact rfl; exact rfl; exact rfl; (with_reducible apply os_callF (PV := GrowV (nx + ny)) (k := 132) (hc := Tryz.call132)); exact rfl; exact rfl; exact fun D w1 hw1 => grow_calls (nx + ny) h0 (by omega) w1; rintro _ _ ⟨b, cap, hcap, rfl, rfl⟩; simp only [List.cons_append, List.nil_append]) | ((with_reducible apply u_q); exact rfl; exact rfl; exact rfl; exact rfl) | ((with_reducible apply u_s0); exact rfl; exact rfl) | ((with_reducible apply u_s); exact rfl; exact rfl; exact rfl) | ((with_reducible apply u_skip); exact rfl; exact rfl; exact rfl) | ((with_reducible apply u_splitD); exact rfl; exact rfl; all_goals first | (intro hp; try (exfalso; omega)) | skip) | ((with_reducible apply u_splitN); exact rfl; exact rfl; all_goals first | (intro hp; try (exfalso; omega)) | skip) | ((with_reducible apply u_split); exact rfl; exact rfl; all_goals first | intro hp | skip))
    | ((with_reducible apply gx_id); first | ((with_reducible apply v_nil)) | ((with_reducible apply v_q); exact rfl; exact rfl; exact rfl) | ((with_reducible apply v_skip); exact rfl; exact rfl; exact rfl) | ((with_reducible apply v_splitD); exact rfl; exact rfl; all_goals first | (intro hp; try (exfalso; omega)) | skip) | ((with_reducible apply v_splitN); exact rfl; exact rfl; all_goals first | (intro hp; try (exfalso; omega)) | skip) | ((with_reducible apply v_split); exact rfl; exact rfl; all_goals first | intro hp | skip))
    | ((with_reducible apply os_id); first | ((with_reducible apply os_x); exact rfl) | ((with_reducible apply os_store); exact rfl; exact rfl; exact rfl; exact rfl) | ((with_reducible apply os_storeAgg); exact rfl; exact rfl; exact rfl; exact rfl; exact rfl))
    | ((with_reducible apply ox_id); first | ((with_reducible apply ox_alloc); exact rfl; intro _) | ((with_reducible apply ox_box); exact rfl; exact rfl; intro _) | ((with_reducible apply ox_boxAgg); exact rfl; intro _) | ((with_reducible apply ox_buildSlice1); exact rfl; exact rfl; exact rfl; exact rfl; exact rfl; exact rfl; intro _) | ((with_reducible apply ox_buildSlice2); exact rfl; exact rfl; exact rfl; exact rfl; exact rfl; exact rfl; intro _) | ((with_reducible apply ox_buildSlice); exact rfl; exact rfl; exact rfl; exact rfl))
    | ((with_reducible apply rd_id); first | (apply Rd.own; (repeat (first | exact P0 | apply P1)); exact rfl; done) | (apply Rd.old; (first | (with_reducible assumption) | exact c0 | exact c1 | exact c2 | exact c3 | exact c4 | exact c5 | exact c6 | exact c7 | exact c8 | exact d0 | exact d1 | exact d2 | exact d3 | exact d4 | exact d5); first | exact List.not_mem_nil | exact m0 | exact m1 | exact m2 | exact m3 | exact m4 | exact m5 | exact m6 | exact m7 | exact m8 | exact m9))
    | ((with_reducible apply t_id); first | ((with_reducible apply t_seq)) | (apply t_region; kernel_rfl) | (apply t_drawn; kernel_rfl; decide +kernel; try simp only [List.append_eq, List.cons_append, List.nil_append]) | ((with_reducible apply t_condT); exact rfl) | ((with_reducible apply t_condF); exact rfl) | ((with_reducible apply t_condD); exact rfl; all_goals first | (intro hp; try (exfalso; omega)) | skip) | ((with_reducible apply t_condN); exact rfl; all_goals first | (intro hp; try (exfalso; omega)) | skip) | ((with_reducible apply t_cond); exact rfl; all_goals first | intro hp | skip) | ((with_reducible apply t_ret)) | ((with_reducible apply t_skip)) | ((with_reducible apply t_exit)) | ((with_reducible apply t_block)))
    | with_reducible apply q_thenN
    | with_reducible apply q_thenR
    | with_reducible apply q_blockR
    | with_reducible apply q_blockN
    | with_reducible apply q_thenE
    | ((with_reducible apply q_blockE); exact rfl)
    | ((with_reducible apply q_blockO); exact rfl)
    | exact P0
    | ((with_reducible apply P1))
    | exact Rdn.zero
    | apply Rdn.succ
    | ((with_reducible apply Norm.nil); exact rfl)
    | ((with_reducible apply Norm.cons); exact rfl)
    | ((with_reducible apply end_ret))
    | ((with_reducible apply end_normal))
    | exact rvs_nil
    | ((with_reducible apply rvs_cons))
    | ((with_reducible apply rv_tmp); exact rfl)
    | ((with_reducible apply rv_cell); exact rfl; exact rfl)
    | ((with_reducible apply rv_cellAgg); exact rfl; exact rfl)
    | exact Nat.le_of_ble_eq_true rfl
    | exact (rfl : (_ : Bool) = true)
    | omega
    | (intro _ _; with_reducible apply tl_id)
    | (intro _; with_reducible apply tl_id)
    | (intro _ _; with_reducible apply al_id)
    | (intro _; with_reducible apply al_id))
  apply t_loopK (ι := Nat × Nat × Nat) [0, 25, 26] (fun z => [(27, .int .i64 ((z.1 : Nat) : Int)), (6, .slice (some ⟨z.2.1, 0, none⟩) (if z.1 = 0 then 0 else if z.1 = 1 then nx else nx + ny) z.2.2)]) (fun z => [(z.2.1, (if z.1 = 0 then [] else if z.1 = 1 then l1 else l1 ++ l2).map iv, some (3, 1, z.2.2))]) (fun z => z.1 ≤ 2) (fun z => 2 - z.1) ((0, b, cap))
  (repeat (first | exact KeepF.nil | (apply KeepF.cons; exact rfl) | apply KeepF.skip))
  (repeat (first | exact FrSub.nil | (apply FrSub.cons; exact rfl)))
  (repeat (first | exact HpSub.refl _ | (apply HpSub.consE; (repeat (first | exact P0 | apply P1)); exact rfl) | exact HpSub.nil))
  · exact Nat.zero_le _
  rintro ⟨k, g, cg⟩ hk
  simp only at hk
  try simp only [List.cons_append, List.nil_append]
  by_cases hlt : k < 2
  · rcases (show k = 0 ∨ k = 1 by omega) with rfl | rfl
    · simp only [if_true]
      repeat' (first
        | ((with_reducible apply oq_id); first | (focus ((with_reducible apply oq_indexAddrN); exact rfl; exact rfl; exact rfl; exact rfl; omega)) | (focus ((with_reducible apply (oq_addE (k := ((k + 1 : Nat) : Int)))); exact rfl; exact rfl; omega)) | ((with_reducible apply oq_lssT); exact rfl; exact rfl; omega) | ((with_reducible apply oq_lssF); exact rfl; exact rfl; omega) | (apply oq_fn; exact rfl; first | exact trivial | (refine ⟨?_, ?_⟩ <;> omega) | (refine ⟨?_, ?_, ?_⟩ <;> omega) | omega | skip) | ((with_reducible apply oq_load); exact rfl; exact rfl) | ((with_reducible apply oq_loadAgg); exact rfl; exact rfl) | ((with_reducible apply oq_build); exact rfl; exact rfl; exact rfl) | ((with_reducible apply oq_buildA); exact rfl; exact rfl; exact rfl; exact rfl) | ((with_reducible apply oq_fieldAgg); exact rfl; exact rfl; exact rfl) | ((with_reducible apply oq_indexAgg); exact rfl; exact rfl; exact rfl; exact rfl))
        | ((with_reducible apply tl_id); first | ((with_reducible apply tl_nil)) | ((with_reducible apply u_s); exact rfl; exact rfl; exact rfl; ((with_reducible apply (os_appendU (hk := app_ok31) (rows := l1.map inCells))); exact rfl; exact rfl; (repeat (first | exact P0 | apply P1)); exact fun D w1 hw1 => h1.ext hw1.ext.ext; exact in_rows_len; (first | exact rfl | (simp; omega)); exact in_rows_one; omega; omega; intro bN cN)) | ((with_reducible apply u_q); exact rfl; exact rfl; exact rfl; exact rfl) | ((with_reducible apply u_s0); exact rfl; exact rfl) | ((with_reducible apply u_s); exact rfl; exact rfl; exact rfl) | ((with_reducible apply u_skip); exact rfl; exact rfl; exact rfl) | ((with_reducible apply u_splitD); exact rfl; exact rfl; all_goals first | (intro hp; try (exfalso; omega)) | skip) | ((with_reducible apply u_splitN); exact rfl; exact rfl; all_goals first | (intro hp; try (exfalso; omega)) | skip) | ((with_reducible apply u_split); exact rfl; exact rfl; all_goals first | intro hp | skip))
        | ((with_reducible apply gx_id); first | ((with_reducible apply v_nil)) | ((with_reducible apply v_q); exact rfl; exact rfl; exact rfl) | ((with_reducible apply v_skip); exact rfl; exact rfl; exact rfl) | ((with_reducible apply v_splitD); exact rfl; exact rfl; all_goals first | (intro hp; try (exfalso; omega)) | skip) | ((with_reducible apply v_splitN); exact rfl; exact rfl; all_goals first | (intro hp; try (exfalso; omega)) | skip) | ((with_reducible apply v_split); exact rfl; exact rfl; all_goals first | intro hp | skip))
        | ((with_reducible apply os_id); first | ((with_reducible apply os_x); exact rfl) | ((with_reducible apply os_store); exact rfl; exact rfl; exact rfl; exact rfl) | ((with_reducible apply os_storeAgg); exact rfl; exact rfl; exact rfl; exact rfl; exact rfl))
        | ((with_reducible apply ox_id); first | ((with_reducible apply ox_alloc); exact rfl; intro _) | ((with_reducible apply ox_box); exact rfl; exact rfl; intro _) | ((with_reducible apply ox_boxAgg); exact rfl; intro _) | ((with_reducible apply ox_buildSlice1); exact rfl; exact rfl; exact rfl; exact rfl; exact rfl; exact rfl; intro _) | ((with_reducible apply ox_buildSlice2); exact rfl; exact rfl; exact rfl; exact rfl; exact rfl; exact rfl; intro _) | ((with_reducible apply ox_buildSlice); exact rfl; exact rfl; exact rfl; exact rfl))
        | ((with_reducible apply rd_id); first | (apply Rd.own; (repeat (first | exact P0 | apply P1)); exact rfl; done) | (apply Rd.old; (first | (with_reducible assumption) | exact c0 | exact c1 | exact c2 | exact c3 | exact c4 | exact c5 | exact c6 | exact c7 | exact c8 | exact d0 | exact d1 | exact d2 | exact d3 | exact d4 | exact d5); first | exact List.not_mem_nil | exact m0 | exact m1 | exact m2 | exact m3 | exact m4 | exact m5 | exact m6 | exact m7 | exact m8 | exact m9))
        | ((with_reducible apply t_id); first | ((with_reducible apply t_seq)) | (apply t_region; kernel_rfl) | (apply t_drawn; kernel_rfl; decide +kernel; try simp only [List.append_eq, List.cons_append, List.nil_append]) | ((with_reducible apply t_condT); exact rfl) | ((with_reducible apply t_condF); exact rfl) | ((with_reducible apply t_condD); exact rfl; all_goals first | (intro hp; try (exfalso; omega)) | skip) | ((with_reducible apply t_condN); exact rfl; all_goals first | (intro hp; try (exfalso; omega)) | skip) | ((with_reducible apply t_cond); exact rfl; all_goals first | intro hp | skip) | ((with_reducible apply t_ret)) | ((with_reducible apply t_skip)) | ((with_reducible apply t_exit)) | ((with_reducible apply t_block)))
        | with_reducible apply q_thenN
        | with_reducible apply q_thenR
        | with_reducible apply q_blockR
        | with_reducible apply q_blockN
        | with_reducible apply q_thenE
        | ((with_reducible apply q_blockE); exact rfl)
        | ((with_reducible apply q_blockO); exact rfl)
        | exact P0
        | ((with_reducible apply P1))
        | exact Rdn.zero
        | apply Rdn.succ
        | ((with_reducible apply Norm.nil); exact rfl)
        | ((with_reducible apply Norm.cons); exact rfl)
        | ((with_reducible apply end_ret))
        | ((with_reducible apply end_normal))
        | exact rvs_nil
        | ((with_reducible apply rvs_cons))
        | ((with_reducible apply rv_tmp); exact rfl)
        | ((with_reducible apply rv_cell); exact rfl; exact rfl)
        | ((with_reducible apply rv_cellAgg); exact rfl; exact rfl)
        | exact Nat.le_of_ble_eq_true rfl
        | exact (rfl : (_ : Bool) = true)
        | omega
        | (intro _ _; with_reducible apply tl_id)
        | (intro _; with_reducible apply tl_id)
        | (intro _ _; with_reducible apply al_id)
        | (intro _; with_reducible apply al_id))
      all_goals (refine ⟨(1, bN, cN), by simp only; omega, by simp only; omega, ?_, ?_⟩ <;> (try simp only [show ¬ (1 = 0) by omega, if_false, if_true, in_flat, List.map_nil, List.nil_append, Nat.zero_add]) <;> (repeat' (first | exact FrSub.nil | (apply FrSub.cons; exact rfl) | (apply FrSub.consE; exact rfl; (simp; done)) | exact HpSub.refl _ | (apply HpSub.consE; (repeat (first | exact P0 | apply P1)); first | exact rfl | (simp [in_flat]; done)) | apply HpSub.skipX | exact HpSub.nil)))
    · simp only [show ¬ (1 = 0) by omega, if_false, if_true]
      repeat' (first
        | ((with_reducible apply oq_id); first | (focus ((with_reducible apply oq_indexAddrN); exact rfl; exact rfl; exact rfl; exact rfl; omega)) | (focus ((with_reducible apply (oq_addE (k := ((k + 1 : Nat) : Int)))); exact rfl; exact rfl; omega)) | ((with_reducible apply oq_lssT); exact rfl; exact rfl; omega) | ((with_reducible apply oq_lssF); exact rfl; exact rfl; omega) | (apply oq_fn; exact rfl; first | exact trivial | (refine ⟨?_, ?_⟩ <;> omega) | (refine ⟨?_, ?_, ?_⟩ <;> omega) | omega | skip) | ((with_reducible apply oq_load); exact rfl; exact rfl) | ((with_reducible apply oq_loadAgg); exact rfl; exact rfl) | ((with_reducible apply oq_build); exact rfl; exact rfl; exact rfl) | ((with_reducible apply oq_buildA); exact rfl; exact rfl; exact rfl; exact rfl) | ((with_reducible apply oq_fieldAgg); exact rfl; exact rfl; exact rfl) | ((with_reducible apply oq_indexAgg); exact rfl; exact rfl; exact rfl; exact rfl))
        | ((with_reducible apply tl_id); first | ((with_reducible apply tl_nil)) | ((with_reducible apply u_s); exact rfl; exact rfl; exact rfl; ((with_reducible apply (os_appendU (hk := app_ok31) (rows := l2.map inCells))); exact rfl; exact rfl; (repeat (first | exact P0 | apply P1)); exact fun D w1 hw1 => h2.ext hw1.ext.ext; exact in_rows_len; (first | exact rfl | (simp; omega)); exact in_rows_one; omega; omega; intro bN cN)) | ((with_reducible apply u_q); exact rfl; exact rfl; exact rfl; exact rfl) | ((with_reducible apply u_s0); exact rfl; exact rfl) | ((with_reducible apply u_s); exact rfl; exact rfl; exact rfl) | ((with_reducible apply u_skip); exact rfl; exact rfl; exact rfl) | ((with_reducible apply u_splitD); exact rfl; exact rfl; all_goals first | (intro hp; try (exfalso; omega)) | skip) | ((with_reducible apply u_splitN); exact rfl; exact rfl; all_goals first | (intro hp; try (exfalso; omega)) | skip) | ((with_reducible apply u_split); exact rfl; exact rfl; all_goals first | intro hp | skip))
        | ((with_reducible apply gx_id); first | ((with_reducible apply v_nil)) | ((with_reducible apply v_q); exact rfl; exact rfl; exact rfl) | ((with_reducible apply v_skip); exact rfl; exact rfl; exact rfl) | ((with_reducible apply v_splitD); exact rfl; exact rfl; all_goals first | (intro hp; try (exfalso; omega)) | skip) | ((with_reducible apply v_splitN); exact rfl; exact rfl; all_goals first | (intro hp; try (exfalso; omega)) | skip) | ((with_reducible apply v_split); exact rfl; exact rfl; all_goals first | intro hp | skip))
        | ((with_reducible apply os_id); first | ((with_reducible apply os_x); exact rfl) | ((with_reducible apply os_store); exact rfl; exact rfl; exact rfl; exact rfl) | ((with_reducible apply os_storeAgg); exact rfl; exact rfl; exact rfl; exact rfl; exact rfl))
        | ((with_reducible apply ox_id); first | ((with_reducible apply ox_alloc); exact rfl; intro _) | ((with_reducible apply ox_box); exact rfl; exact rfl; intro _) | ((with_reducible apply ox_boxAgg); exact rfl; intro _) | ((with_reducible apply ox_buildSlice1); exact rfl; exact rfl; exact rfl; exact rfl; exact rfl; exact rfl; intro _) | ((with_reducible apply ox_buildSlice2); exact rfl; exact rfl; exact rfl; exact rfl; exact rfl; exact rfl; intro _) | ((with_reducible apply ox_buildSlice); exact rfl; exact rfl; exact rfl; exact rfl))
        | ((with_reducible apply rd_id); first | (apply Rd.own; (repeat (first | exact P0 | apply P1)); exact rfl; done) | (apply Rd.old; (first | (with_reducible assumption) | exact c0 | exact c1 | exact c2 | exact c3 | exact c4 | exact c5 | exact c6 | exact c7 | exact c8 | exact d0 | exact d1 | exact d2 | exact d3 | exact d4 | exact d5); first | exact List.not_mem_nil | exact m0 | exact m1 | exact m2 | exact m3 | exact m4 | exact m5 | exact m6 | exact m7 | exact m8 | exact m9))
        | ((with_reducible apply t_id); first | ((with_reducible apply t_seq)) | (apply t_region; kernel_rfl) | (apply t_drawn; kernel_rfl; decide +kernel; try simp only [List.append_eq, List.cons_append, List.nil_append]) | ((with_reducible apply t_condT); exact rfl) | ((with_reducible apply t_condF); exact rfl) | ((with_reducible apply t_condD); exact rfl; all_goals first | (intro hp; try (exfalso; omega)) | skip) | ((with_reducible apply t_condN); exact rfl; all_goals first | (intro hp; try (exfalso; omega)) | skip) | ((with_reducible apply t_cond); exact rfl; all_goals first | intro hp | skip) | ((with_reducible apply t_ret)) | ((with_reducible apply t_skip)) | ((with_reducible apply t_exit)) | ((with_reducible apply t_block)))
        | with_reducible apply q_thenN
        | with_reducible apply q_thenR
        | with_reducible apply q_blockR
        | with_reducible apply q_blockN
        | with_reducible apply q_thenE
        | ((with_reducible apply q_blockE); exact rfl)
        | ((with_reducible apply q_blockO); exact rfl)
        | exact P0
        | ((with_reducible apply P1))
        | exact Rdn.zero
        | apply Rdn.succ
        | ((with_reducible apply Norm.nil); exact rfl)
        | ((with_reducible apply Norm.cons); exact rfl)
        | ((with_reducible apply end_ret))
        | ((with_reducible apply end_normal))
        | exact rvs_nil
        | ((with_reducible apply rvs_cons))
        | ((with_reducible apply rv_tmp); exact rfl)
        | ((with_reducible apply rv_cell); exact rfl; exact rfl)
        | ((with_reducible apply rv_cellAgg); exact rfl; exact rfl)
        | exact Nat.le_of_ble_eq_true rfl
        | exact (rfl : (_ : Bool) = true)
        | omega
        | (intro _ _; with_reducible apply tl_id)
        | (intro _; with_reducible apply tl_id)
        | (intro _ _; with_reducible apply al_id)
        | (intro _; with_reducible apply al_id))
      all_goals (refine ⟨(2, bN, cN), by simp only; omega, by simp only; omega, ?_, ?_⟩ <;> (try simp only [show ¬ (2 = 0) by omega, show ¬ (2 = 1) by omega, if_false, if_true, in_flat, List.map_append]) <;> (repeat' (first | exact FrSub.nil | (apply FrSub.cons; exact rfl) | (apply FrSub.consE; exact rfl; (simp; done)) | exact HpSub.refl _ | (apply HpSub.consE; (repeat (first | exact P0 | apply P1)); first | exact rfl | (simp [in_flat]; done)) | apply HpSub.skipX | exact HpSub.nil)))
  obtain rfl : k = 2 := by omega
  simp only [show ¬ (2 = 0) by omega, show ¬ (2 = 1) by omega, if_false, if_true]
  ((all_goals refine goD1 ?_); (all_goals constructor); (any_goals exact trivial); all_goals intros)
  all_goals exact ⟨_, ⟨g, cg, rfl, rfl⟩, by (try simp only [List.append_nil]); exact HpSub.refl _⟩
end Go.Proofs.YtcjkndjjbjoehaaGreat
