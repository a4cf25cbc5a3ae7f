/- A part of the proof: rules for walks, and contracts of functions (12). -/
import Derived.Test.YtcjkndjjbjoehaaGreatX4K
import Derived.Test.YtcjkndjjbjoehaaGreatX4J
set_option linter.unusedVariables false
set_option linter.unusedSimpArgs false
set_option maxRecDepth 100000
set_option maxHeartbeats 2000000
namespace Go.Proofs.YtcjkndjjbjoehaaGreat
theorem goL0 {G A1 A2 A3 A4 A5 A6 A7 A8 A9 A10 A11 A12 A13 A14 A15 A16 : Prop} (p : GoP A1 A2 A3 A4 A5 A6 A7 A8 A9 A10 A11 A12 A13 A14 A15 A16) (h : GoL A1 → GoL A2 → GoL A3 → GoL A4 → GoL A5 → GoL A6 → GoL A7 → GoL A8 → GoL A9 → GoL A10 → GoL A11 → GoL A12 → GoL A13 → GoL A14 → GoL A15 → GoL A16 → GoM → G := by intro m1 m2 m3 m4 m5 m6 m7 m8 m9 m10 m11 m12 m13 m14 m15 m16 _; (repeat' (first | ((with_reducible apply oq_id); first | ((with_reducible apply ob_id); first | ((with_reducible apply oq_neg); exact rfl; (refine ⟨?_, ?_⟩ <;> omega)) | (focus ((with_reducible apply (oq_quoI (k := ((q : Nat) : Int)))); exact rfl; exact rfl; exact ⟨(tdiv_nat rfl rfl).trans (by rw [hqe]), by omega, by omega, by omega⟩)) | (focus ((with_reducible apply (oq_addE (k := ((a + b : Nat) : Int)))); exact rfl; exact rfl; omega)) | (focus ((with_reducible apply (oq_subE (k := ((a + b - 1 : Nat) : Int)))); exact rfl; exact rfl; omega)) | (focus ((with_reducible apply (oq_mulE (k := ((10 * m : Nat) : Int)))); exact rfl; exact rfl; omega; (refine ⟨?_, ?_⟩ <;> omega))) | (focus ((with_reducible apply (oq_quoI (k := ((tl : Nat) : Int)))); exact rfl; exact rfl; exact ⟨(tdiv_nat rfl rfl).trans (by rw [htl]), by omega, by omega, by omega⟩)) | (focus ((with_reducible apply (oq_addE (k := ((acc.length + 1 : Nat) : Int)))); exact rfl; exact rfl; omega))) | ((with_reducible apply (oq_max2E (k := (x : Nat)))); exact rfl; exact rfl; omega) | (focus ((with_reducible apply oq_indexAddrN); exact rfl; exact rfl; exact rfl; exact rfl; omega)) | (apply oq_fn; exact rfl; first | exact trivial | (refine ⟨?_, ?_⟩ <;> omega) | (refine ⟨?_, ?_, ?_⟩ <;> omega) | omega | skip) | ((with_reducible apply oq_load); exact rfl; exact rfl) | ((with_reducible apply oq_loadAgg); exact rfl; exact rfl) | ((with_reducible apply oq_build); exact rfl; exact rfl; exact rfl) | ((with_reducible apply oq_buildA); exact rfl; exact rfl; exact rfl; exact rfl) | ((with_reducible apply oq_fieldAgg); exact rfl; exact rfl; exact rfl) | ((with_reducible apply oq_indexAgg); exact rfl; exact rfl; exact rfl; exact rfl)) | ((with_reducible apply tl_id); first | ((with_reducible apply tl_nil)) | ((with_reducible apply u_q); exact rfl; exact rfl; exact rfl; exact rfl) | ((with_reducible apply u_s0); exact rfl; exact rfl) | ((with_reducible apply u_s); exact rfl; exact rfl; exact rfl) | ((with_reducible apply u_skip); exact rfl; exact rfl; exact rfl) | ((with_reducible apply u_splitD); exact rfl; exact rfl; all_goals first | (intro _; try (exfalso; omega)) | skip) | ((with_reducible apply u_splitN); exact rfl; exact rfl; all_goals first | (intro _; try (exfalso; omega)) | skip) | ((with_reducible apply u_split); exact rfl; exact rfl; all_goals first | intro _ | skip)) | ((with_reducible apply gx_id); first | ((with_reducible apply v_nil)) | ((with_reducible apply v_q); exact rfl; exact rfl; exact rfl) | ((with_reducible apply v_skip); exact rfl; exact rfl; exact rfl) | ((with_reducible apply v_splitD); exact rfl; exact rfl; all_goals first | (intro _; try (exfalso; omega)) | skip) | ((with_reducible apply v_splitN); exact rfl; exact rfl; all_goals first | (intro _; try (exfalso; omega)) | skip) | ((with_reducible apply v_split); exact rfl; exact rfl; all_goals first | intro _ | skip)) | ((with_reducible apply os_id); first | ((with_reducible apply os_x); exact rfl) | ((with_reducible apply os_store); exact rfl; exact rfl; exact rfl; exact rfl) | ((with_reducible apply os_storeAgg); exact rfl; exact rfl; exact rfl; exact rfl; exact rfl)) | ((with_reducible apply ox_id); first | ((with_reducible apply ox_alloc); exact rfl; intro _) | ((with_reducible apply ox_box); exact rfl; exact rfl; intro _) | ((with_reducible apply ox_boxAgg); exact rfl; intro _) | ((with_reducible apply ox_buildSlice1); exact rfl; exact rfl; exact rfl; exact rfl; exact rfl; exact rfl; intro _) | ((with_reducible apply ox_buildSlice2); exact rfl; exact rfl; exact rfl; exact rfl; exact rfl; exact rfl; intro _) | ((with_reducible apply ox_buildSlice); exact rfl; exact rfl; exact rfl; exact rfl)) | ((with_reducible apply rd_id); first | (apply Rd.own; (repeat (first | exact P0 | apply P1)); exact rfl; done) | (apply Rd.old; (first | (with_reducible assumption) | exact c0 | exact c1 | exact c2 | exact c3 | exact c4 | exact c5 | exact c6 | exact c7 | exact c8 | exact d0 | exact d1 | exact d2 | exact d3 | exact d4 | exact d5); first | exact List.not_mem_nil | exact m0 | exact m1 | exact m2 | exact m3 | exact m4 | exact m5 | exact m6 | exact m7 | exact m8 | exact m9)) | ((with_reducible apply t_id); first | ((with_reducible apply t_seq)) | (apply t_region; kernel_rfl) | (apply t_drawn; kernel_rfl; decide +kernel; try simp only [List.append_eq, List.cons_append, List.nil_append]) | ((with_reducible apply t_condT); exact rfl) | ((with_reducible apply t_condF); exact rfl) | ((with_reducible apply t_condD); exact rfl; all_goals first | (intro _; try (exfalso; omega)) | skip) | ((with_reducible apply t_condN); exact rfl; all_goals first | (intro _; try (exfalso; omega)) | skip) | ((with_reducible apply t_cond); exact rfl; all_goals first | intro _ | skip) | ((with_reducible apply t_ret)) | ((with_reducible apply t_skip)) | ((with_reducible apply t_exit)) | ((with_reducible apply t_block))) | with_reducible apply q_thenN | with_reducible apply q_thenR | with_reducible apply q_blockR | with_reducible apply q_blockN | with_reducible apply q_thenE | ((with_reducible apply q_blockE); exact rfl) | ((with_reducible apply q_blockO); exact rfl) | exact P0 | ((with_reducible apply P1)) | exact Rdn.zero | apply Rdn.succ | ((with_reducible apply Norm.nil); exact rfl) | ((with_reducible apply Norm.cons); exact rfl) | ((with_reducible apply end_ret)) | ((with_reducible apply end_normal)) | exact rvs_nil | ((with_reducible apply rvs_cons)) | ((with_reducible apply rv_tmp); exact rfl) | ((with_reducible apply rv_cell); exact rfl; exact rfl) | ((with_reducible apply rv_cellAgg); exact rfl; exact rfl) | exact Nat.le_of_ble_eq_true rfl | exact (rfl : (_ : Bool) = true) | omega | (intro _ _; with_reducible apply tl_id) | (intro _; with_reducible apply tl_id) | (intro _ _; with_reducible apply al_id) | (intro _; with_reducible apply al_id))); (try focus (repeat (rename_i x; first | exact goD x m1.p | revert x))); (try focus (repeat (rename_i x; first | exact goD x m2.p | revert x))); (try focus (repeat (rename_i x; first | exact goD x m3.p | revert x))); (try focus (repeat (rename_i x; first | exact goD x m4.p | revert x))); (try focus (repeat (rename_i x; first | exact goD x m5.p | revert x))); (try focus (repeat (rename_i x; first | exact goD x m6.p | revert x))); (try focus (repeat (rename_i x; first | exact goD x m7.p | revert x))); (try focus (repeat (rename_i x; first | exact goD x m8.p | revert x))); (try focus (repeat (rename_i x; first | exact goD x m9.p | revert x))); (try focus (repeat (rename_i x; first | exact goD x m10.p | revert x))); (try focus (repeat (rename_i x; first | exact goD x m11.p | revert x))); (try focus (repeat (rename_i x; first | exact goD x m12.p | revert x))); (try focus (repeat (rename_i x; first | exact goD x m13.p | revert x))); (try focus (repeat (rename_i x; first | exact goD x m14.p | revert x))); (try focus (repeat (rename_i x; first | exact goD x m15.p | revert x))); (try focus (repeat (rename_i x; first | exact goD x m16.p | revert x)))) (e : GoTs A1 A2 A3 A4 A5 A6 A7 A8 A9 A10 A11 A12 A13 A14 A15 A16 := by constructor <;> first | (with_reducible exact GoT.t) | exact GoT.u) : G := p.run h
theorem goL1 {G A1 A2 A3 A4 A5 A6 A7 A8 A9 A10 A11 A12 A13 A14 A15 A16 : Prop} (p : GoP A1 A2 A3 A4 A5 A6 A7 A8 A9 A10 A11 A12 A13 A14 A15 A16) (h : GoL A1 → GoL A2 → GoL A3 → GoL A4 → GoL A5 → GoL A6 → GoL A7 → GoL A8 → GoL A9 → GoL A10 → GoL A11 → GoL A12 → GoL A13 → GoL A14 → GoL A15 → GoL A16 → GoM → G := by intro m1 m2 m3 m4 m5 m6 m7 m8 m9 m10 m11 m12 m13 m14 m15 m16 _; (repeat' (first | ((with_reducible apply oq_id); first | ((with_reducible apply oc_id); first | ((with_reducible apply oq_call (k := 172) (hc := Tryz.call172)); exact rfl; exact rfl; exact fun D w1 hw1 => HA w1) | ((with_reducible apply oq_call (k := 172) (hc := Tryz.call172)); exact rfl; exact rfl; exact fun D w1 hw1 => HB w1) | ((with_reducible apply oq_call (k := 171) (hc := Tryz.call171)); exact rfl; exact rfl; exact fun D w1 hw1 => HQ w1) | ((with_reducible apply oq_call (k := 147) (hc := Tryz.call147)); exact rfl; exact rfl; exact fun D w1 hw1 => V1 w1) | ((with_reducible apply oq_call (k := 147) (hc := Tryz.call147)); exact rfl; exact rfl; exact fun D w1 hw1 => V2 w1) | ((with_reducible apply oq_call (k := 147) (hc := Tryz.call147)); exact rfl; exact rfl; exact fun D w1 hw1 => V3 w1) | ((with_reducible apply oq_call (k := 151) (hc := Tryz.call151)); exact rfl; exact rfl; exact fun D w1 hw1 => Q0 w1) | ((with_reducible apply oq_call (k := 151) (hc := Tryz.call151)); exact rfl; exact rfl; exact fun D w1 hw1 => Q1 w1) | ((with_reducible apply oq_call (k := 151) (hc := Tryz.call151)); exact rfl; exact rfl; exact fun D w1 hw1 => Q2 w1) | ((with_reducible apply oq_call (k := 151) (hc := Tryz.call151)); exact rfl; exact rfl; exact fun D w1 hw1 => Q3 w1) | ((with_reducible apply oq_call (k := 152) (hc := Tryz.call152)); exact rfl; exact rfl; exact fun D w1 hw1 => FT w1) | ((with_reducible apply oq_call (k := 127) (hc := Tryz.call127)); exact rfl; exact rfl; exact fun D w1 hw1 => HX w1 hw1.ext.ext) | ((with_reducible apply oq_call (k := 129) (hc := Tryz.call129)); exact rfl; exact rfl; exact fun D w1 hw1 => HO w1)) | ((with_reducible apply ob_id); first | ((with_reducible apply oq_gtrT); exact rfl; exact rfl; omega) | ((with_reducible apply oq_gtrF); exact rfl; exact rfl; omega) | (focus ((with_reducible apply (oq_remI (k := 0))); exact rfl; exact rfl; exact rfl; omega)) | (focus ((with_reducible apply (oq_remI (k := 1))); exact rfl; exact rfl; exact rfl; omega)) | (focus ((with_reducible apply (oq_quoI (k := 0))); exact rfl; exact rfl; exact ⟨rfl, by omega, by omega, by omega⟩)) | (focus ((with_reducible apply (oq_quoI (k := 1))); exact rfl; exact rfl; exact ⟨rfl, by omega, by omega, by omega⟩)) | (focus ((with_reducible apply (oq_quoI (k := 2))); exact rfl; exact rfl; exact ⟨rfl, by omega, by omega, by omega⟩)) | (focus ((with_reducible apply (oq_quoI (k := 3))); exact rfl; exact rfl; exact ⟨rfl, by omega, by omega, by omega⟩)) | (focus ((with_reducible apply (oq_addE (k := ((1 : Nat) : Int)))); exact rfl; exact rfl; omega)) | (focus ((with_reducible apply (oq_addE (k := ((2 : Nat) : Int)))); exact rfl; exact rfl; omega)) | (focus ((with_reducible apply (oq_addE (k := ((3 : Nat) : Int)))); exact rfl; exact rfl; omega)) | (focus ((with_reducible apply (oq_addE (k := ((4 : Nat) : Int)))); exact rfl; exact rfl; omega)) | (focus ((with_reducible apply (oq_addE (k := ((5 : Nat) : Int)))); exact rfl; exact rfl; omega)) | (focus ((with_reducible apply (oq_addE (k := ((6 : Nat) : Int)))); exact rfl; exact rfl; omega)) | (focus ((with_reducible apply (oq_mulE (k := ((10 * m : Nat) : Int)))); exact rfl; exact rfl; omega; (refine ⟨?_, ?_⟩ <;> omega))) | (focus ((with_reducible apply (oq_quoI (k := ((tl : Nat) : Int)))); exact rfl; exact rfl; exact ⟨(tdiv_nat rfl rfl).trans (by rw [htl]), by omega, by omega, by omega⟩)) | (focus ((with_reducible apply (oq_addE (k := ((acc.length + 1 : Nat) : Int)))); exact rfl; exact rfl; omega)) | ((with_reducible apply oq_lssT); exact rfl; exact rfl; omega) | ((with_reducible apply oq_lssF); exact rfl; exact rfl; omega) | ((with_reducible apply oq_eqlT); exact rfl; exact rfl; omega) | ((with_reducible apply oq_eqlF); exact rfl; exact rfl; omega) | ((with_reducible apply oq_leqT); exact rfl; exact rfl; omega) | ((with_reducible apply oq_leqF); exact rfl; exact rfl; omega)) | ((with_reducible apply (oq_min2E (k := ((aL a b c d 1 : Nat) : Int)))); exact rfl; exact rfl; exact mnN _ _) | ((with_reducible apply (oq_max2E (k := ((aH a b c d 1 : Nat) : Int)))); exact rfl; exact rfl; exact mxN _ _) | ((with_reducible apply (oq_min2E (k := ((aL a b c d 2 : Nat) : Int)))); exact rfl; exact rfl; exact mnN _ _) | ((with_reducible apply (oq_max2E (k := ((aH a b c d 2 : Nat) : Int)))); exact rfl; exact rfl; exact mxN _ _) | ((with_reducible apply (oq_min2E (k := ((aL a b c d 3 : Nat) : Int)))); exact rfl; exact rfl; exact mnN _ _) | ((with_reducible apply (oq_max2E (k := ((aH a b c d 3 : Nat) : Int)))); exact rfl; exact rfl; exact mxN _ _) | ((with_reducible apply (oq_min2E (k := ((aL a b c d 4 : Nat) : Int)))); exact rfl; exact rfl; exact mnN _ _) | ((with_reducible apply (oq_max2E (k := ((aH a b c d 4 : Nat) : Int)))); exact rfl; exact rfl; exact mxN _ _) | ((with_reducible apply (oq_min2E (k := ((aL a b c d 5 : Nat) : Int)))); exact rfl; exact rfl; exact mnN _ _) | ((with_reducible apply (oq_max2E (k := ((aH a b c d 5 : Nat) : Int)))); exact rfl; exact rfl; exact mxN _ _) | ((with_reducible apply (oq_min2E (k := ((aL a b c d 6 : Nat) : Int)))); exact rfl; exact rfl; exact mnN _ _) | ((with_reducible apply (oq_max2E (k := ((aH a b c d 6 : Nat) : Int)))); exact rfl; exact rfl; exact mxN _ _) | (focus ((with_reducible apply oq_indexAddrN); exact rfl; exact rfl; exact rfl; exact rfl; omega)) | (apply oq_fn; exact rfl; first | exact trivial | (refine ⟨?_, ?_⟩ <;> omega) | (refine ⟨?_, ?_, ?_⟩ <;> omega) | omega | skip) | ((with_reducible apply oq_load); exact rfl; exact rfl) | ((with_reducible apply oq_loadAgg); exact rfl; exact rfl) | ((with_reducible apply oq_build); exact rfl; exact rfl; exact rfl) | ((with_reducible apply oq_buildA); exact rfl; exact rfl; exact rfl; exact rfl) | ((with_reducible apply oq_fieldAgg); exact rfl; exact rfl; exact rfl) | ((with_reducible apply oq_indexAgg); exact rfl; exact rfl; exact rfl; exact rfl)) | ((with_reducible apply tl_id); first | ((with_reducible apply tl_nil)) | ((with_reducible apply u_q); exact rfl; exact rfl; exact rfl; exact rfl) | ((with_reducible apply u_s0); exact rfl; exact rfl) | ((with_reducible apply u_s); exact rfl; exact rfl; exact rfl) | ((with_reducible apply u_skip); exact rfl; exact rfl; exact rfl) | ((with_reducible apply u_splitD); exact rfl; exact rfl; all_goals first | (intro _; try (exfalso; omega)) | skip) | ((with_reducible apply u_splitN); exact rfl; exact rfl; all_goals first | (intro _; try (exfalso; omega)) | skip) | ((with_reducible apply u_split); exact rfl; exact rfl; all_goals first | intro _ | skip)) | ((with_reducible apply gx_id); first | ((with_reducible apply v_nil)) | ((with_reducible apply v_q); exact rfl; exact rfl; exact rfl) | ((with_reducible apply v_skip); exact rfl; exact rfl; exact rfl) | ((with_reducible apply v_splitD); exact rfl; exact rfl; all_goals first | (intro _; try (exfalso; omega)) | skip) | ((with_reducible apply v_splitN); exact rfl; exact rfl; all_goals first | (intro _; try (exfalso; omega)) | skip) | ((with_reducible apply v_split); exact rfl; exact rfl; all_goals first | intro _ | skip)) | ((with_reducible apply os_id); first | ((with_reducible apply os_x); exact rfl) | ((with_reducible apply os_store); exact rfl; exact rfl; exact rfl; exact rfl) | ((with_reducible apply os_storeAgg); exact rfl; exact rfl; exact rfl; exact rfl; exact rfl)) | ((with_reducible apply ox_id); first | ((with_reducible apply ox_alloc); exact rfl; intro _) | ((with_reducible apply ox_box); exact rfl; exact rfl; intro _) | ((with_reducible apply ox_boxAgg); exact rfl; intro _) | ((with_reducible apply ox_buildSlice1); exact rfl; exact rfl; exact rfl; exact rfl; exact rfl; exact rfl; intro _) | ((with_reducible apply ox_buildSlice2); exact rfl; exact rfl; exact rfl; exact rfl; exact rfl; exact rfl; intro _) | ((with_reducible apply ox_buildSlice); exact rfl; exact rfl; exact rfl; exact rfl)) | ((with_reducible apply ai_id); first | ((with_reducible apply ai_q); exact rfl; exact rfl; exact rfl; exact rfl; exact rfl) | ((with_reducible apply ai_x); exact rfl; exact rfl; exact rfl; exact rfl; exact rfl) | ((with_reducible apply ai_s0); exact rfl; exact rfl; exact rfl; exact rfl) | ((with_reducible apply ai_n0); exact rfl; exact rfl; exact rfl) | ((with_reducible apply ai_s); exact rfl; exact rfl; exact rfl; exact rfl; exact rfl) | ((with_reducible apply ai_n); exact rfl; exact rfl; exact rfl; exact rfl) | ((with_reducible apply ai_skip); exact rfl; exact rfl; exact rfl; exact rfl) | ((with_reducible apply ai_splitD); exact rfl; exact rfl; exact rfl; all_goals first | (intro _; try (exfalso; omega)) | skip) | ((with_reducible apply ai_splitN); exact rfl; exact rfl; exact rfl; all_goals first | (intro _; try (exfalso; omega)) | skip) | ((with_reducible apply ai_split); exact rfl; exact rfl; exact rfl; all_goals first | intro _ | skip)) | ((with_reducible apply al_keep); focus (repeat (first | exact HpSub.refl _ | (apply HpSub.cons; (repeat (first | exact P0 | apply P1))) | apply HpSub.skipX | exact HpSub.nil))) | ((with_reducible apply rd_id); first | (apply Rd.own; (repeat (first | exact P0 | apply P1)); exact rfl; done) | (apply Rd.old; (first | (with_reducible assumption) | exact c0 | exact c1 | exact c2 | exact c3 | exact c4 | exact c5 | exact c6 | exact c7 | exact c8 | exact d0 | exact d1 | exact d2 | exact d3 | exact d4 | exact d5); first | exact List.not_mem_nil | exact m0 | exact m1 | exact m2 | exact m3 | exact m4 | exact m5 | exact m6 | exact m7 | exact m8 | exact m9)) | ((with_reducible apply t_id); first | (apply t_mix (id := 5) [0, 1, 2, 3, 4, 5, 6, 7, 8, 9, 10, 11, 12] 0 #[false, false, false, false, false, false, false, false, false, false, false, false, false]; kernel_rfl; kernel_rfl; exact rfl) | (apply t_mix (id := 13) [0] 4 #[false, false, true, true, false]; kernel_rfl; kernel_rfl; exact rfl) | ((with_reducible apply t_seq)) | (apply t_region; kernel_rfl) | (apply t_drawn; kernel_rfl; decide +kernel; try simp only [List.append_eq, List.cons_append, List.nil_append]) | ((with_reducible apply t_condT); exact rfl) | ((with_reducible apply t_condF); exact rfl) | ((with_reducible apply t_condD); exact rfl; all_goals first | (intro _; try (exfalso; omega)) | skip) | ((with_reducible apply t_condN); exact rfl; all_goals first | (intro _; try (exfalso; omega)) | skip) | ((with_reducible apply t_cond); exact rfl; all_goals first | intro _ | skip) | ((with_reducible apply t_ret)) | ((with_reducible apply t_skip)) | ((with_reducible apply t_exit)) | ((with_reducible apply t_block))) | with_reducible apply q_thenN | with_reducible apply q_thenR | with_reducible apply q_blockR | with_reducible apply q_blockN | with_reducible apply q_thenE | ((with_reducible apply q_blockE); exact rfl) | ((with_reducible apply q_blockO); exact rfl) | exact P0 | ((with_reducible apply P1)) | exact Rdn.zero | apply Rdn.succ | ((with_reducible apply Norm.nil); exact rfl) | ((with_reducible apply Norm.cons); exact rfl) | ((with_reducible apply end_ret)) | ((with_reducible apply end_normal)) | exact rvs_nil | ((with_reducible apply rvs_cons)) | ((with_reducible apply rv_tmp); exact rfl) | ((with_reducible apply rv_cell); exact rfl; exact rfl) | ((with_reducible apply rv_cellAgg); exact rfl; exact rfl) | ((with_reducible apply cut_in0) <;> (repeat' (first | exact FrSub.nil | (apply FrSub.cons; exact rfl) | exact HpSub.refl _ | (apply HpSub.consE; (repeat (first | exact P0 | apply P1)); exact rfl) | apply HpSub.skipX | exact HpSub.nil))) | ((with_reducible apply cut_in1) <;> (repeat' (first | exact FrSub.nil | (apply FrSub.cons; exact rfl) | exact HpSub.refl _ | (apply HpSub.consE; (repeat (first | exact P0 | apply P1)); exact rfl) | apply HpSub.skipX | exact HpSub.nil))) | ((with_reducible apply cut_in2) <;> (repeat' (first | exact FrSub.nil | (apply FrSub.cons; exact rfl) | exact HpSub.refl _ | (apply HpSub.consE; (repeat (first | exact P0 | apply P1)); exact rfl) | apply HpSub.skipX | exact HpSub.nil))) | ((with_reducible apply cut_in3) <;> (repeat' (first | exact FrSub.nil | (apply FrSub.cons; exact rfl) | exact HpSub.refl _ | (apply HpSub.consE; (repeat (first | exact P0 | apply P1)); exact rfl) | apply HpSub.skipX | exact HpSub.nil))) | (apply t_mix (id := 5) [0, 1, 2, 3, 4, 5, 6, 7, 8, 9, 10, 11, 12] 0 #[false, false, false, false, false, false, false, false, false, false, false, false, false]; kernel_rfl; kernel_rfl; exact rfl) | (apply t_mix (id := 13) [0] 4 #[false, false, true, true, false]; kernel_rfl; kernel_rfl; exact rfl) | ((with_reducible apply al_id); first | (apply al_done; decide +kernel) | (apply al_one 1; decide +kernel) | (apply al_one 2; decide +kernel) | (apply al_one 3; decide +kernel) | (apply al_one 4; decide +kernel) | (apply al_two 1 2; decide +kernel)) | exact Nat.le_of_ble_eq_true rfl | exact (rfl : (_ : Bool) = true) | omega | (intro _ _; with_reducible apply tl_id) | (intro _; with_reducible apply tl_id) | (intro _ _; with_reducible apply al_id) | (intro _; with_reducible apply al_id))); (try focus (repeat (rename_i x; first | exact goD x m1.p | revert x))); (try focus (repeat (rename_i x; first | exact goD x m2.p | revert x))); (try focus (repeat (rename_i x; first | exact goD x m3.p | revert x))); (try focus (repeat (rename_i x; first | exact goD x m4.p | revert x))); (try focus (repeat (rename_i x; first | exact goD x m5.p | revert x))); (try focus (repeat (rename_i x; first | exact goD x m6.p | revert x))); (try focus (repeat (rename_i x; first | exact goD x m7.p | revert x))); (try focus (repeat (rename_i x; first | exact goD x m8.p | revert x))); (try focus (repeat (rename_i x; first | exact goD x m9.p | revert x))); (try focus (repeat (rename_i x; first | exact goD x m10.p | revert x))); (try focus (repeat (rename_i x; first | exact goD x m11.p | revert x))); (try focus (repeat (rename_i x; first | exact goD x m12.p | revert x))); (try focus (repeat (rename_i x; first | exact goD x m13.p | revert x))); (try focus (repeat (rename_i x; first | exact goD x m14.p | revert x))); (try focus (repeat (rename_i x; first | exact goD x m15.p | revert x))); (try focus (repeat (rename_i x; first | exact goD x m16.p | revert x)))) (e : GoTs A1 A2 A3 A4 A5 A6 A7 A8 A9 A10 A11 A12 A13 A14 A15 A16 := by constructor <;> first | (with_reducible exact GoT.t) | exact GoT.u) : G := p.run h
open Go.RowKit
attribute [local irreducible] OQ OS OX Rd T TL GX GL AL AI RV wpG SAny Calls
theorem abs_calls (x : Nat) (hx : x ≤ 10000000) (w : World) : Calls Tryz.prog 172 #[.int .i64 (x : Nat)] w fun e w' => e = .returned (.int .i64 (x : Nat)) ∧ Ext w w' := by
  refine enterQ (c := cx w 7) Tryz.func172 rfl rfl rfl rfl ?_
  ((all_goals refine goL0 ?_); (all_goals constructor); (any_goals exact trivial); all_goals intros)
  all_goals rfl
theorem refQuotient_calls (x y : Nat) (hx : x ≤ 10000000) (hy : y ≤ 1000000) (w : World) : Calls Tryz.prog 151 #[.int .i64 (x : Nat), .int .i64 (y : Nat), .int .i64 60] w fun e w' => e = .returned (.tuple #[.int .i64 (qf (x * y) : Nat), .int .i64 (qc (x * y) : Nat)]) ∧ Ext w w' := by
  have hm : x * y ≤ 10000000000000 := Nat.le_trans (Nat.mul_le_mul hx hy) (by decide)
  have HA := fun w1 => abs_calls x hx w1
  have HB := fun w1 => abs_calls y (by omega) w1
  have HQ := fun w1 => refQuo_calls x y hx hy w1
  have qb := qf_bound hm
  have hqc : qc (x * y) = if (x * y) % 60 = 0 then qf (x * y) else qf (x * y) + 1 := rfl
  generalize qf (x * y) = a at *
  generalize qc (x * y) = b at *
  by_cases h0 : x * y % 60 = 0
  · rw [if_pos h0] at hqc
    rw [decide_eq_true h0] at HQ
    subst hqc
    refine enterQ (c := cx w 45) Tryz.func151 rfl rfl rfl rfl ?_
    ((all_goals refine goL1 ?_); (all_goals constructor); (any_goals exact trivial); all_goals intros)
    all_goals rfl
  · rw [if_neg h0] at hqc
    rw [decide_eq_false h0] at HQ
    subst hqc
    refine enterQ (c := cx w 45) Tryz.func151 rfl rfl rfl rfl ?_
    repeat' (first
      | ((with_reducible apply oq_id); first | ((with_reducible apply oq_gtrT); exact rfl; exact rfl; omega) | ((with_reducible apply oq_gtrF); exact rfl; exact rfl; omega) | ((with_reducible apply oq_lssT); exact rfl; exact rfl; omega) | ((with_reducible apply oq_lssF); exact rfl; exact rfl; omega) | (apply oq_fn; exact rfl; first | exact trivial | (refine ⟨?_, ?_⟩ <;> omega) | (refine ⟨?_, ?_, ?_⟩ <;> omega) | omega | skip) | ((with_reducible apply oq_load); exact rfl; exact rfl) | ((with_reducible apply oq_loadAgg); exact rfl; exact rfl) | ((with_reducible apply oq_call (k := 172) (hc := Tryz.call172)); exact rfl; exact rfl; exact fun D w1 hw1 => HA w1) | ((with_reducible apply oq_call (k := 172) (hc := Tryz.call172)); exact rfl; exact rfl; exact fun D w1 hw1 => HB w1) | ((with_reducible apply oq_call (k := 171) (hc := Tryz.call171)); exact rfl; exact rfl; exact fun D w1 hw1 => HQ w1) | ((with_reducible apply oq_build); exact rfl; exact rfl; exact rfl) | ((with_reducible apply oq_buildA); exact rfl; exact rfl; exact rfl; exact rfl) | ((with_reducible apply oq_fieldAgg); exact rfl; exact rfl; exact rfl) | ((with_reducible apply oq_indexAgg); exact rfl; exact rfl; exact rfl; exact rfl))
      | ((with_reducible apply tl_id); first | ((with_reducible apply tl_nil)) | ((with_reducible apply u_q); exact rfl; exact rfl; exact rfl; exact rfl) | ((with_reducible apply u_s0); exact rfl; exact rfl) | ((with_reducible apply u_s); exact rfl; exact rfl; exact rfl) | ((with_reducible apply u_skip); exact rfl; exact rfl; exact rfl) | ((with_reducible apply u_splitD); exact rfl; exact rfl; all_goals first | (intro hp; try (exfalso; omega)) | skip) | ((with_reducible apply u_splitN); exact rfl; exact rfl; all_goals first | (intro hp; try (exfalso; omega)) | skip) | ((with_reducible apply u_split); exact rfl; exact rfl; all_goals first | intro hp | skip))
      | ((with_reducible apply gx_id); first | ((with_reducible apply v_nil)) | ((with_reducible apply v_q); exact rfl; exact rfl; exact rfl) | ((with_reducible apply v_skip); exact rfl; exact rfl; exact rfl) | ((with_reducible apply v_splitD); exact rfl; exact rfl; all_goals first | (intro hp; try (exfalso; omega)) | skip) | ((with_reducible apply v_splitN); exact rfl; exact rfl; all_goals first | (intro hp; try (exfalso; omega)) | skip) | ((with_reducible apply v_split); exact rfl; exact rfl; all_goals first | intro hp | skip))
      | ((with_reducible apply os_id); first | ((with_reducible apply os_x); exact rfl) | ((with_reducible apply os_store); exact rfl; exact rfl; exact rfl; exact rfl) | ((with_reducible apply os_storeAgg); exact rfl; exact rfl; exact rfl; exact rfl; exact rfl))
      | ((with_reducible apply ox_id); first | ((with_reducible apply ox_alloc); exact rfl; intro _) | ((with_reducible apply ox_box); exact rfl; exact rfl; intro _) | ((with_reducible apply ox_boxAgg); exact rfl; intro _) | ((with_reducible apply ox_buildSlice1); exact rfl; exact rfl; exact rfl; exact rfl; exact rfl; exact rfl; intro _) | ((with_reducible apply ox_buildSlice2); exact rfl; exact rfl; exact rfl; exact rfl; exact rfl; exact rfl; intro _) | ((with_reducible apply ox_buildSlice); exact rfl; exact rfl; exact rfl; exact rfl))
      | ((with_reducible apply rd_id); first | (apply Rd.own; (repeat (first | exact P0 | apply P1)); exact rfl; done) | (apply Rd.old; (first | (with_reducible assumption) | exact c0 | exact c1 | exact c2 | exact c3 | exact c4 | exact c5 | exact c6 | exact c7 | exact c8 | exact d0 | exact d1 | exact d2 | exact d3 | exact d4 | exact d5); first | exact List.not_mem_nil | exact m0 | exact m1 | exact m2 | exact m3 | exact m4 | exact m5 | exact m6 | exact m7 | exact m8 | exact m9))
      | ((with_reducible apply t_id); first | ((with_reducible apply t_seq)) | (apply t_region; kernel_rfl) | (apply t_drawn; kernel_rfl; decide +kernel; try simp only [List.append_eq, List.cons_append, List.nil_append]) | ((with_reducible apply t_condT); exact rfl) | ((with_reducible apply t_condF); exact rfl) | ((with_reducible apply t_condD); exact rfl; all_goals first | (intro hp; try (exfalso; omega)) | skip) | ((with_reducible apply t_condN); exact rfl; all_goals first | (intro hp; try (exfalso; omega)) | skip) | ((with_reducible apply t_cond); exact rfl; all_goals first | intro hp | skip) | ((with_reducible apply t_ret)) | ((with_reducible apply t_skip)) | ((with_reducible apply t_exit)) | ((with_reducible apply t_block)))
      | with_reducible apply q_thenN
      | with_reducible apply q_thenR
      | with_reducible apply q_blockR
      | with_reducible apply q_blockN
      | with_reducible apply q_thenE
      | ((with_reducible apply q_blockE); exact rfl)
      | ((with_reducible apply q_blockO); exact rfl)
      | exact P0
      | ((with_reducible apply P1))
      | exact Rdn.zero
      | apply Rdn.succ
      | ((with_reducible apply Norm.nil); exact rfl)
      | ((with_reducible apply Norm.cons); exact rfl)
      | ((with_reducible apply end_ret))
      | ((with_reducible apply end_normal))
      | exact rvs_nil
      | ((with_reducible apply rvs_cons))
      | ((with_reducible apply rv_tmp); exact rfl)
      | ((with_reducible apply rv_cell); exact rfl; exact rfl)
      | ((with_reducible apply rv_cellAgg); exact rfl; exact rfl)
      | exact Nat.le_of_ble_eq_true rfl
      | exact (rfl : (_ : Bool) = true)
      | omega
      | (intro _ _; with_reducible apply tl_id)
      | (intro _; with_reducible apply tl_id)
      | (intro _ _; with_reducible apply al_id)
      | (intro _; with_reducible apply al_id))
    all_goals rfl
/-- The products of the ends of two spans. -/
def prN (a b c d : Nat) (k : Nat) : Nat := (if k % 2 = 1 then b else a) * (if k / 2 % 2 = 1 then d else c)
def aL (a b c d : Nat) : Nat → Nat
  | 0 => qf (a * c)
  | k + 1 => min (aL a b c d k) (qf (prN a b c d k))
def aH (a b c d : Nat) : Nat → Nat
  | 0 => qc (a * c)
  | k + 1 => max (aH a b c d k) (qc (prN a b c d k))
theorem mnN (x y : Nat) : min (x : Int) (y : Int) = ((min x y : Nat) : Int) := by omega
theorem mxN (x y : Nat) : max (x : Int) (y : Int) = ((max x y : Nat) : Int) := by omega
theorem prN_bound {a b c d k : Nat} (hab : a ≤ b) (hb : b ≤ 10000000) (hcd : c ≤ d) (hd : d ≤ 1000000) : prN a b c d k ≤ 10000000000000 := by
  unfold prN
  have h1 : (if k % 2 = 1 then b else a) ≤ 10000000 := by split <;> omega
  have h2 : (if k / 2 % 2 = 1 then d else c) ≤ 1000000 := by split <;> omega
  exact Nat.le_trans (Nat.mul_le_mul h1 h2) (by decide)
theorem a_bound {a b c d : Nat} (hab : a ≤ b) (hb : b ≤ 10000000) (hcd : c ≤ d) (hd : d ≤ 1000000) : ∀ k, aL a b c d k ≤ 166666666667 ∧ aH a b c d k ≤ 166666666667
  | 0 => by
    have := qf_bound (m := a * c) (Nat.le_trans (Nat.mul_le_mul (show a ≤ 10000000 by omega) (show c ≤ 1000000 by omega)) (by decide))
    unfold aL aH; omega
  | k + 1 => by
    have := a_bound hab hb hcd hd k
    have := qf_bound (prN_bound (k := k) hab hb hcd hd)
    unfold aL aH; omega
theorem fit_calls (a b : Nat) (ha : a ≤ 1099511627776) (hb : b ≤ 1099511627776) (w : World) : Calls Tryz.prog 152 #[.int .i64 ((a : Nat) : Int), .int .i64 ((b : Nat) : Int)] w fun e w' => e = .returned (.tuple #[.agg #[.int .i64 ((a : Nat) : Int), .int .i64 ((b : Nat) : Int)], .int .i64 0]) ∧ Ext w w' := by
  refine enterQ (c := cx w 16) Tryz.func152 rfl rfl rfl rfl ?_
  repeat' (first
    | ((with_reducible apply oq_id); first | ((with_reducible apply oq_lssT); exact rfl; exact rfl; omega) | ((with_reducible apply oq_lssF); exact rfl; exact rfl; omega) | ((with_reducible apply oq_gtrT); exact rfl; exact rfl; omega) | ((with_reducible apply oq_gtrF); exact rfl; exact rfl; omega) | (apply oq_fn; exact rfl; first | exact trivial | (refine ⟨?_, ?_⟩ <;> omega) | (refine ⟨?_, ?_, ?_⟩ <;> omega) | omega | skip) | ((with_reducible apply oq_load); exact rfl; exact rfl) | ((with_reducible apply oq_loadAgg); exact rfl; exact rfl) | ((with_reducible apply oq_build); exact rfl; exact rfl; exact rfl) | ((with_reducible apply oq_buildA); exact rfl; exact rfl; exact rfl; exact rfl) | ((with_reducible apply oq_fieldAgg); exact rfl; exact rfl; exact rfl) | ((with_reducible apply oq_indexAgg); exact rfl; exact rfl; exact rfl; exact rfl))
    | ((with_reducible apply tl_id); first | ((with_reducible apply tl_nil)) | ((with_reducible apply u_q); exact rfl; exact rfl; exact rfl; exact rfl) | ((with_reducible apply u_s0); exact rfl; exact rfl) | ((with_reducible apply u_s); exact rfl; exact rfl; exact rfl) | ((with_reducible apply u_skip); exact rfl; exact rfl; exact rfl) | ((with_reducible apply u_splitD); exact rfl; exact rfl; all_goals first | (intro hp; try (exfalso; omega)) | skip) | ((with_reducible apply u_splitN); exact rfl; exact rfl; all_goals first | (intro hp; try (exfalso; omega)) | skip) | ((with_reducible apply u_split); exact rfl; exact rfl; all_goals first | intro hp | skip))
    | ((with_reducible apply gx_id); first | ((with_reducible apply v_nil)) | ((with_reducible apply v_q); exact rfl; exact rfl; exact rfl) | ((with_reducible apply v_skip); exact rfl; exact rfl; exact rfl) | ((with_reducible apply v_splitD); exact rfl; exact rfl; all_goals first | (intro hp; try (exfalso; omega)) | skip) | ((with_reducible apply v_splitN); exact rfl; exact rfl; all_goals first | (intro hp; try (exfalso; omega)) | skip) | ((with_reducible apply v_split); exact rfl; exact rfl; all_goals first | intro hp | skip))
    | ((with_reducible apply os_id); first | ((with_reducible apply os_x); exact rfl) | ((with_reducible apply os_store); exact rfl; exact rfl; exact rfl; exact rfl) | ((with_reducible apply os_storeAgg); exact rfl; exact rfl; exact rfl; exact rfl; exact rfl))
    | ((with_reducible apply ox_id); first | ((with_reducible apply ox_alloc); exact rfl; intro _) | ((with_reducible apply ox_box); exact rfl; exact rfl; intro _) | ((with_reducible apply ox_boxAgg); exact rfl; intro _) | ((with_reducible apply ox_buildSlice1); exact rfl; exact rfl; exact rfl; exact rfl; exact rfl; exact rfl; intro _) | ((with_reducible apply ox_buildSlice2); exact rfl; exact rfl; exact rfl; exact rfl; exact rfl; exact rfl; intro _) | ((with_reducible apply ox_buildSlice); exact rfl; exact rfl; exact rfl; exact rfl))
    | ((with_reducible apply rd_id); first | (apply Rd.own; (repeat (first | exact P0 | apply P1)); exact rfl; done) | (apply Rd.old; (first | (with_reducible assumption) | exact c0 | exact c1 | exact c2 | exact c3 | exact c4 | exact c5 | exact c6 | exact c7 | exact c8 | exact d0 | exact d1 | exact d2 | exact d3 | exact d4 | exact d5); first | exact List.not_mem_nil | exact m0 | exact m1 | exact m2 | exact m3 | exact m4 | exact m5 | exact m6 | exact m7 | exact m8 | exact m9))
    | ((with_reducible apply t_id); first | ((with_reducible apply t_seq)) | (apply t_region; kernel_rfl) | (apply t_drawn; kernel_rfl; decide +kernel; try simp only [List.append_eq, List.cons_append, List.nil_append]) | ((with_reducible apply t_condT); exact rfl) | ((with_reducible apply t_condF); exact rfl) | ((with_reducible apply t_condD); exact rfl; all_goals first | (intro hp; try (exfalso; omega)) | skip) | ((with_reducible apply t_condN); exact rfl; all_goals first | (intro hp; try (exfalso; omega)) | skip) | ((with_reducible apply t_cond); exact rfl; all_goals first | intro hp | skip) | ((with_reducible apply t_ret)) | ((with_reducible apply t_skip)) | ((with_reducible apply t_exit)) | ((with_reducible apply t_block)))
    | with_reducible apply q_thenN
    | with_reducible apply q_thenR
    | with_reducible apply q_blockR
    | with_reducible apply q_blockN
    | with_reducible apply q_thenE
    | ((with_reducible apply q_blockE); exact rfl)
    | ((with_reducible apply q_blockO); exact rfl)
    | exact P0
    | ((with_reducible apply P1))
    | exact Rdn.zero
    | apply Rdn.succ
    | ((with_reducible apply Norm.nil); exact rfl)
    | ((with_reducible apply Norm.cons); exact rfl)
    | ((with_reducible apply end_ret))
    | ((with_reducible apply end_normal))
    | exact rvs_nil
    | ((with_reducible apply rvs_cons))
    | ((with_reducible apply rv_tmp); exact rfl)
    | ((with_reducible apply rv_cell); exact rfl; exact rfl)
    | ((with_reducible apply rv_cellAgg); exact rfl; exact rfl)
    | exact Nat.le_of_ble_eq_true rfl
    | exact (rfl : (_ : Bool) = true)
    | omega
    | (intro _ _; with_reducible apply tl_id)
    | (intro _; with_reducible apply tl_id)
    | (intro _ _; with_reducible apply al_id)
    | (intro _; with_reducible apply al_id))
  all_goals rfl
theorem refOver_calls (a b c d : Nat) (hab : a ≤ b) (hb : b ≤ 10000000) (hcd : c ≤ d) (hd : d ≤ 1000000) (w : World) : Calls Tryz.prog 129 #[.agg #[.int .i64 ((a : Nat) : Int), .int .i64 ((b : Nat) : Int)], .agg #[.int .i64 ((c : Nat) : Int), .int .i64 ((d : Nat) : Int)], .agg #[.int .i64 60, .int .i64 60]] w fun e w' => e = .returned (.tuple #[.agg #[.int .i64 ((aL a b c d 8 : Nat) : Int), .int .i64 ((aH a b c d 8 : Nat) : Int)], .int .i64 0]) ∧ Ext w w' := by
  have V1 := fun w1 => valid_calls ((a : Int), (b : Int)) w1
  have V2 := fun w1 => valid_calls ((c : Int), (d : Int)) w1
  have V3 := fun w1 => valid_calls (60, 60) w1
  rw [(fineS_iff _).2 ⟨by simp only; omega, by simp only; omega, by simp only; omega⟩] at V1 V2
  rw [show fineS (60, 60) = true by decide] at V3
  have Q0 := fun w1 => refQuotient_calls a c (by omega) (by omega) w1
  have Q1 := fun w1 => refQuotient_calls b c (by omega) (by omega) w1
  have Q2 := fun w1 => refQuotient_calls a d (by omega) (by omega) w1
  have Q3 := fun w1 => refQuotient_calls b d (by omega) (by omega) w1
  have ab := a_bound hab hb hcd hd 8
  have FT := fun w1 => fit_calls (aL a b c d 8) (aH a b c d 8) (by omega) (by omega) w1
  refine enterQ (c := cx w 88) Tryz.func129 rfl rfl rfl rfl ?_
  ((all_goals refine goL1 ?_); (all_goals constructor); (any_goals exact trivial); all_goals intros)
  rename_i b3 b4 b5 b6
  apply t_loopK (ι := Nat) [3, 4, 5, 6] (fun k => [(10, .int .i64 ((k : Nat) : Int)), (8, .int .i64 ((aL a b c d k : Nat) : Int)), (9, .int .i64 ((aH a b c d k : Nat) : Int))]) (fun _ => [(b3, [.int .i64 ((a : Nat) : Int), .int .i64 ((b : Nat) : Int)], some (27, 2, 1)), (b4, [.int .i64 ((c : Nat) : Int), .int .i64 ((d : Nat) : Int)], some (27, 2, 1)), (b5, [.int .i64 60, .int .i64 60], some (27, 2, 1)), (b6, [.int .i64 0, .int .i64 0], some (27, 2, 1))]) (fun k => k ≤ 8) (fun k => 8 - k) (0)
  (repeat (first | exact KeepF.nil | (apply KeepF.cons; exact rfl) | apply KeepF.skip))
  (repeat (first | exact FrSub.nil | (apply FrSub.cons; exact rfl)))
  (repeat (first | exact HpSub.refl _ | (apply HpSub.consE; (repeat (first | exact P0 | apply P1)); exact rfl) | exact HpSub.nil))
  · omega
  intro k hk
  try simp only [List.cons_append, List.nil_append]
  have hk8 : k = 0 ∨ k = 1 ∨ k = 2 ∨ k = 3 ∨ k = 4 ∨ k = 5 ∨ k = 6 ∨ k = 7 ∨ k = 8 := by omega
  rcases hk8 with rfl | rfl | rfl | rfl | rfl | rfl | rfl | rfl | rfl
  · ((all_goals refine goL1 ?_); (all_goals constructor); (any_goals exact trivial); all_goals intros)
    all_goals (refine ⟨1, by omega, by omega, ?_, ?_⟩ <;> (try simp only [List.cons_append, List.nil_append]) <;> (repeat' (first | exact FrSub.nil | (apply FrSub.cons; exact rfl) | exact HpSub.refl _ | (apply HpSub.consE; (repeat (first | exact P0 | apply P1)); exact rfl) | exact HpSub.nil)))
  · ((all_goals refine goL1 ?_); (all_goals constructor); (any_goals exact trivial); all_goals intros)
    all_goals (refine ⟨2, by omega, by omega, ?_, ?_⟩ <;> (try simp only [List.cons_append, List.nil_append]) <;> (repeat' (first | exact FrSub.nil | (apply FrSub.cons; exact rfl) | exact HpSub.refl _ | (apply HpSub.consE; (repeat (first | exact P0 | apply P1)); exact rfl) | exact HpSub.nil)))
  · ((all_goals refine goL1 ?_); (all_goals constructor); (any_goals exact trivial); all_goals intros)
    all_goals (refine ⟨3, by omega, by omega, ?_, ?_⟩ <;> (try simp only [List.cons_append, List.nil_append]) <;> (repeat' (first | exact FrSub.nil | (apply FrSub.cons; exact rfl) | exact HpSub.refl _ | (apply HpSub.consE; (repeat (first | exact P0 | apply P1)); exact rfl) | exact HpSub.nil)))
  · ((all_goals refine goL1 ?_); (all_goals constructor); (any_goals exact trivial); all_goals intros)
    all_goals (refine ⟨4, by omega, by omega, ?_, ?_⟩ <;> (try simp only [List.cons_append, List.nil_append]) <;> (repeat' (first | exact FrSub.nil | (apply FrSub.cons; exact rfl) | exact HpSub.refl _ | (apply HpSub.consE; (repeat (first | exact P0 | apply P1)); exact rfl) | exact HpSub.nil)))
  · ((all_goals refine goL1 ?_); (all_goals constructor); (any_goals exact trivial); all_goals intros)
    all_goals (refine ⟨5, by omega, by omega, ?_, ?_⟩ <;> (try simp only [List.cons_append, List.nil_append]) <;> (repeat' (first | exact FrSub.nil | (apply FrSub.cons; exact rfl) | exact HpSub.refl _ | (apply HpSub.consE; (repeat (first | exact P0 | apply P1)); exact rfl) | exact HpSub.nil)))
  · ((all_goals refine goL1 ?_); (all_goals constructor); (any_goals exact trivial); all_goals intros)
    all_goals (refine ⟨6, by omega, by omega, ?_, ?_⟩ <;> (try simp only [List.cons_append, List.nil_append]) <;> (repeat' (first | exact FrSub.nil | (apply FrSub.cons; exact rfl) | exact HpSub.refl _ | (apply HpSub.consE; (repeat (first | exact P0 | apply P1)); exact rfl) | exact HpSub.nil)))
  · repeat' (first
      | ((with_reducible apply oq_id); first | (focus ((with_reducible apply (oq_remI (k := 0))); exact rfl; exact rfl; exact rfl; omega)) | (focus ((with_reducible apply (oq_remI (k := 1))); exact rfl; exact rfl; exact rfl; omega)) | (focus ((with_reducible apply (oq_quoI (k := 0))); exact rfl; exact rfl; exact ⟨rfl, by omega, by omega, by omega⟩)) | (focus ((with_reducible apply (oq_quoI (k := 1))); exact rfl; exact rfl; exact ⟨rfl, by omega, by omega, by omega⟩)) | (focus ((with_reducible apply (oq_quoI (k := 2))); exact rfl; exact rfl; exact ⟨rfl, by omega, by omega, by omega⟩)) | (focus ((with_reducible apply (oq_quoI (k := 3))); exact rfl; exact rfl; exact ⟨rfl, by omega, by omega, by omega⟩)) | ((with_reducible apply (oq_min2E (k := ((aL a b c d 7 : Nat) : Int)))); exact rfl; exact rfl; exact mnN _ _) | ((with_reducible apply (oq_max2E (k := ((aH a b c d 7 : Nat) : Int)))); exact rfl; exact rfl; exact mxN _ _) | (focus ((with_reducible apply (oq_addE (k := ((7 : Nat) : Int)))); exact rfl; exact rfl; omega)) | ((with_reducible apply oq_lssT); exact rfl; exact rfl; omega) | ((with_reducible apply oq_lssF); exact rfl; exact rfl; omega) | ((with_reducible apply oq_eqlT); exact rfl; exact rfl; omega) | ((with_reducible apply oq_eqlF); exact rfl; exact rfl; omega) | ((with_reducible apply oq_leqT); exact rfl; exact rfl; omega) | ((with_reducible apply oq_leqF); exact rfl; exact rfl; omega) | (apply oq_fn; exact rfl; first | exact trivial | (refine ⟨?_, ?_⟩ <;> omega) | (refine ⟨?_, ?_, ?_⟩ <;> omega) | omega | skip) | ((with_reducible apply oq_load); exact rfl; exact rfl) | ((with_reducible apply oq_loadAgg); exact rfl; exact rfl) | ((with_reducible apply oq_call (k := 147) (hc := Tryz.call147)); exact rfl; exact rfl; exact fun D w1 hw1 => V1 w1) | ((with_reducible apply oq_call (k := 147) (hc := Tryz.call147)); exact rfl; exact rfl; exact fun D w1 hw1 => V2 w1) | ((with_reducible apply oq_call (k := 147) (hc := Tryz.call147)); exact rfl; exact rfl; exact fun D w1 hw1 => V3 w1) | ((with_reducible apply oq_call (k := 151) (hc := Tryz.call151)); exact rfl; exact rfl; exact fun D w1 hw1 => Q0 w1) | ((with_reducible apply oq_call (k := 151) (hc := Tryz.call151)); exact rfl; exact rfl; exact fun D w1 hw1 => Q1 w1) | ((with_reducible apply oq_call (k := 151) (hc := Tryz.call151)); exact rfl; exact rfl; exact fun D w1 hw1 => Q2 w1) | ((with_reducible apply oq_call (k := 151) (hc := Tryz.call151)); exact rfl; exact rfl; exact fun D w1 hw1 => Q3 w1) | ((with_reducible apply oq_call (k := 152) (hc := Tryz.call152)); exact rfl; exact rfl; exact fun D w1 hw1 => FT w1) | ((with_reducible apply oq_build); exact rfl; exact rfl; exact rfl) | ((with_reducible apply oq_buildA); exact rfl; exact rfl; exact rfl; exact rfl) | ((with_reducible apply oq_fieldAgg); exact rfl; exact rfl; exact rfl) | ((with_reducible apply oq_indexAgg); exact rfl; exact rfl; exact rfl; exact rfl))
      | ((with_reducible apply tl_id); first | ((with_reducible apply tl_nil)) | ((with_reducible apply u_q); exact rfl; exact rfl; exact rfl; exact rfl) | ((with_reducible apply u_s0); exact rfl; exact rfl) | ((with_reducible apply u_s); exact rfl; exact rfl; exact rfl) | ((with_reducible apply u_skip); exact rfl; exact rfl; exact rfl) | ((with_reducible apply u_splitD); exact rfl; exact rfl; all_goals first | (intro hp; try (exfalso; omega)) | skip) | ((with_reducible apply u_splitN); exact rfl; exact rfl; all_goals first | (intro hp; try (exfalso; omega)) | skip) | ((with_reducible apply u_split); exact rfl; exact rfl; all_goals first | intro hp | skip))
      | ((with_reducible apply gx_id); first | ((with_reducible apply v_nil)) | ((with_reducible apply v_q); exact rfl; exact rfl; exact rfl) | ((with_reducible apply v_skip); exact rfl; exact rfl; exact rfl) | ((with_reducible apply v_splitD); exact rfl; exact rfl; all_goals first | (intro hp; try (exfalso; omega)) | skip) | ((with_reducible apply v_splitN); exact rfl; exact rfl; all_goals first | (intro hp; try (exfalso; omega)) | skip) | ((with_reducible apply v_split); exact rfl; exact rfl; all_goals first | intro hp | skip))
      | ((with_reducible apply os_id); first | ((with_reducible apply os_x); exact rfl) | ((with_reducible apply os_store); exact rfl; exact rfl; exact rfl; exact rfl) | ((with_reducible apply os_storeAgg); exact rfl; exact rfl; exact rfl; exact rfl; exact rfl))
      | ((with_reducible apply ox_id); first | ((with_reducible apply ox_alloc); exact rfl; intro _) | ((with_reducible apply ox_box); exact rfl; exact rfl; intro _) | ((with_reducible apply ox_boxAgg); exact rfl; intro _) | ((with_reducible apply ox_buildSlice1); exact rfl; exact rfl; exact rfl; exact rfl; exact rfl; exact rfl; intro _) | ((with_reducible apply ox_buildSlice2); exact rfl; exact rfl; exact rfl; exact rfl; exact rfl; exact rfl; intro _) | ((with_reducible apply ox_buildSlice); exact rfl; exact rfl; exact rfl; exact rfl))
      | ((with_reducible apply rd_id); first | (apply Rd.own; (repeat (first | exact P0 | apply P1)); exact rfl; done) | (apply Rd.old; (first | (with_reducible assumption) | exact c0 | exact c1 | exact c2 | exact c3 | exact c4 | exact c5 | exact c6 | exact c7 | exact c8 | exact d0 | exact d1 | exact d2 | exact d3 | exact d4 | exact d5); first | exact List.not_mem_nil | exact m0 | exact m1 | exact m2 | exact m3 | exact m4 | exact m5 | exact m6 | exact m7 | exact m8 | exact m9))
      | ((with_reducible apply t_id); first | ((with_reducible apply t_seq)) | (apply t_region; kernel_rfl) | (apply t_drawn; kernel_rfl; decide +kernel; try simp only [List.append_eq, List.cons_append, List.nil_append]) | ((with_reducible apply t_condT); exact rfl) | ((with_reducible apply t_condF); exact rfl) | ((with_reducible apply t_condD); exact rfl; all_goals first | (intro hp; try (exfalso; omega)) | skip) | ((with_reducible apply t_condN); exact rfl; all_goals first | (intro hp; try (exfalso; omega)) | skip) | ((with_reducible apply t_cond); exact rfl; all_goals first | intro hp | skip) | ((with_reducible apply t_ret)) | ((with_reducible apply t_skip)) | ((with_reducible apply t_exit)) | ((with_reducible apply t_block)))
      | with_reducible apply q_thenN
      | with_reducible apply q_thenR
      | with_reducible apply q_blockR
      | with_reducible apply q_blockN
      | with_reducible apply q_thenE
      | ((with_reducible apply q_blockE); exact rfl)
      | ((with_reducible apply q_blockO); exact rfl)
      | exact P0
      | ((with_reducible apply P1))
      | exact Rdn.zero
      | apply Rdn.succ
      | ((with_reducible apply Norm.nil); exact rfl)
      | ((with_reducible apply Norm.cons); exact rfl)
      | ((with_reducible apply end_ret))
      | ((with_reducible apply end_normal))
      | exact rvs_nil
      | ((with_reducible apply rvs_cons))
      | ((with_reducible apply rv_tmp); exact rfl)
      | ((with_reducible apply rv_cell); exact rfl; exact rfl)
      | ((with_reducible apply rv_cellAgg); exact rfl; exact rfl)
      | exact Nat.le_of_ble_eq_true rfl
      | exact (rfl : (_ : Bool) = true)
      | omega
      | (intro _ _; with_reducible apply tl_id)
      | (intro _; with_reducible apply tl_id)
      | (intro _ _; with_reducible apply al_id)
      | (intro _; with_reducible apply al_id))
    all_goals (refine ⟨7, by omega, by omega, ?_, ?_⟩ <;> (try simp only [List.cons_append, List.nil_append]) <;> (repeat' (first | exact FrSub.nil | (apply FrSub.cons; exact rfl) | exact HpSub.refl _ | (apply HpSub.consE; (repeat (first | exact P0 | apply P1)); exact rfl) | exact HpSub.nil)))
  · repeat' (first
      | ((with_reducible apply oq_id); first | (focus ((with_reducible apply (oq_remI (k := 0))); exact rfl; exact rfl; exact rfl; omega)) | (focus ((with_reducible apply (oq_remI (k := 1))); exact rfl; exact rfl; exact rfl; omega)) | (focus ((with_reducible apply (oq_quoI (k := 0))); exact rfl; exact rfl; exact ⟨rfl, by omega, by omega, by omega⟩)) | (focus ((with_reducible apply (oq_quoI (k := 1))); exact rfl; exact rfl; exact ⟨rfl, by omega, by omega, by omega⟩)) | (focus ((with_reducible apply (oq_quoI (k := 2))); exact rfl; exact rfl; exact ⟨rfl, by omega, by omega, by omega⟩)) | (focus ((with_reducible apply (oq_quoI (k := 3))); exact rfl; exact rfl; exact ⟨rfl, by omega, by omega, by omega⟩)) | ((with_reducible apply (oq_min2E (k := ((aL a b c d 8 : Nat) : Int)))); exact rfl; exact rfl; exact mnN _ _) | ((with_reducible apply (oq_max2E (k := ((aH a b c d 8 : Nat) : Int)))); exact rfl; exact rfl; exact mxN _ _) | (focus ((with_reducible apply (oq_addE (k := ((8 : Nat) : Int)))); exact rfl; exact rfl; omega)) | ((with_reducible apply oq_lssT); exact rfl; exact rfl; omega) | ((with_reducible apply oq_lssF); exact rfl; exact rfl; omega) | ((with_reducible apply oq_eqlT); exact rfl; exact rfl; omega) | ((with_reducible apply oq_eqlF); exact rfl; exact rfl; omega) | ((with_reducible apply oq_leqT); exact rfl; exact rfl; omega) | ((with_reducible apply oq_leqF); exact rfl; exact rfl; omega) | (apply oq_fn; exact rfl; first | exact trivial | (refine ⟨?_, ?_⟩ <;> omega) | (refine ⟨?_, ?_, ?_⟩ <;> omega) | omega | skip) | ((with_reducible apply oq_load); exact rfl; exact rfl) | ((with_reducible apply oq_loadAgg); exact rfl; exact rfl) | ((with_reducible apply oq_call (k := 147) (hc := Tryz.call147)); exact rfl; exact rfl; exact fun D w1 hw1 => V1 w1) | ((with_reducible apply oq_call (k := 147) (hc := Tryz.call147)); exact rfl; exact rfl; exact fun D w1 hw1 => V2 w1) | ((with_reducible apply oq_call (k := 147) (hc := Tryz.call147)); exact rfl; exact rfl; exact fun D w1 hw1 => V3 w1) | ((with_reducible apply oq_call (k := 151) (hc := Tryz.call151)); exact rfl; exact rfl; exact fun D w1 hw1 => Q0 w1) | ((with_reducible apply oq_call (k := 151) (hc := Tryz.call151)); exact rfl; exact rfl; exact fun D w1 hw1 => Q1 w1) | ((with_reducible apply oq_call (k := 151) (hc := Tryz.call151)); exact rfl; exact rfl; exact fun D w1 hw1 => Q2 w1) | ((with_reducible apply oq_call (k := 151) (hc := Tryz.call151)); exact rfl; exact rfl; exact fun D w1 hw1 => Q3 w1) | ((with_reducible apply oq_call (k := 152) (hc := Tryz.call152)); exact rfl; exact rfl; exact fun D w1 hw1 => FT w1) | ((with_reducible apply oq_build); exact rfl; exact rfl; exact rfl) | ((with_reducible apply oq_buildA); exact rfl; exact rfl; exact rfl; exact rfl) | ((with_reducible apply oq_fieldAgg); exact rfl; exact rfl; exact rfl) | ((with_reducible apply oq_indexAgg); exact rfl; exact rfl; exact rfl; exact rfl))
      | ((with_reducible apply tl_id); first | ((with_reducible apply tl_nil)) | ((with_reducible apply u_q); exact rfl; exact rfl; exact rfl; exact rfl) | ((with_reducible apply u_s0); exact rfl; exact rfl) | ((with_reducible apply u_s); exact rfl; exact rfl; exact rfl) | ((with_reducible apply u_skip); exact rfl; exact rfl; exact rfl) | ((with_reducible apply u_splitD); exact rfl; exact rfl; all_goals first | (intro hp; try (exfalso; omega)) | skip) | ((with_reducible apply u_splitN); exact rfl; exact rfl; all_goals first | (intro hp; try (exfalso; omega)) | skip) | ((with_reducible apply u_split); exact rfl; exact rfl; all_goals first | intro hp | skip))
      | ((with_reducible apply gx_id); first | ((with_reducible apply v_nil)) | ((with_reducible apply v_q); exact rfl; exact rfl; exact rfl) | ((with_reducible apply v_skip); exact rfl; exact rfl; exact rfl) | ((with_reducible apply v_splitD); exact rfl; exact rfl; all_goals first | (intro hp; try (exfalso; omega)) | skip) | ((with_reducible apply v_splitN); exact rfl; exact rfl; all_goals first | (intro hp; try (exfalso; omega)) | skip) | ((with_reducible apply v_split); exact rfl; exact rfl; all_goals first | intro hp | skip))
      | ((with_reducible apply os_id); first | ((with_reducible apply os_x); exact rfl) | ((with_reducible apply os_store); exact rfl; exact rfl; exact rfl; exact rfl) | ((with_reducible apply os_storeAgg); exact rfl; exact rfl; exact rfl; exact rfl; exact rfl))
      | ((with_reducible apply ox_id); first | ((with_reducible apply ox_alloc); exact rfl; intro _) | ((with_reducible apply ox_box); exact rfl; exact rfl; intro _) | ((with_reducible apply ox_boxAgg); exact rfl; intro _) | ((with_reducible apply ox_buildSlice1); exact rfl; exact rfl; exact rfl; exact rfl; exact rfl; exact rfl; intro _) | ((with_reducible apply ox_buildSlice2); exact rfl; exact rfl; exact rfl; exact rfl; exact rfl; exact rfl; intro _) | ((with_reducible apply ox_buildSlice); exact rfl; exact rfl; exact rfl; exact rfl))
      | ((with_reducible apply rd_id); first | (apply Rd.own; (repeat (first | exact P0 | apply P1)); exact rfl; done) | (apply Rd.old; (first | (with_reducible assumption) | exact c0 | exact c1 | exact c2 | exact c3 | exact c4 | exact c5 | exact c6 | exact c7 | exact c8 | exact d0 | exact d1 | exact d2 | exact d3 | exact d4 | exact d5); first | exact List.not_mem_nil | exact m0 | exact m1 | exact m2 | exact m3 | exact m4 | exact m5 | exact m6 | exact m7 | exact m8 | exact m9))
      | ((with_reducible apply t_id); first | ((with_reducible apply t_seq)) | (apply t_region; kernel_rfl) | (apply t_drawn; kernel_rfl; decide +kernel; try simp only [List.append_eq, List.cons_append, List.nil_append]) | ((with_reducible apply t_condT); exact rfl) | ((with_reducible apply t_condF); exact rfl) | ((with_reducible apply t_condD); exact rfl; all_goals first | (intro hp; try (exfalso; omega)) | skip) | ((with_reducible apply t_condN); exact rfl; all_goals first | (intro hp; try (exfalso; omega)) | skip) | ((with_reducible apply t_cond); exact rfl; all_goals first | intro hp | skip) | ((with_reducible apply t_ret)) | ((with_reducible apply t_skip)) | ((with_reducible apply t_exit)) | ((with_reducible apply t_block)))
      | with_reducible apply q_thenN
      | with_reducible apply q_thenR
      | with_reducible apply q_blockR
      | with_reducible apply q_blockN
      | with_reducible apply q_thenE
      | ((with_reducible apply q_blockE); exact rfl)
      | ((with_reducible apply q_blockO); exact rfl)
      | exact P0
      | ((with_reducible apply P1))
      | exact Rdn.zero
      | apply Rdn.succ
      | ((with_reducible apply Norm.nil); exact rfl)
      | ((with_reducible apply Norm.cons); exact rfl)
      | ((with_reducible apply end_ret))
      | ((with_reducible apply end_normal))
      | exact rvs_nil
      | ((with_reducible apply rvs_cons))
      | ((with_reducible apply rv_tmp); exact rfl)
      | ((with_reducible apply rv_cell); exact rfl; exact rfl)
      | ((with_reducible apply rv_cellAgg); exact rfl; exact rfl)
      | exact Nat.le_of_ble_eq_true rfl
      | exact (rfl : (_ : Bool) = true)
      | omega
      | (intro _ _; with_reducible apply tl_id)
      | (intro _; with_reducible apply tl_id)
      | (intro _ _; with_reducible apply al_id)
      | (intro _; with_reducible apply al_id))
    all_goals (refine ⟨8, by omega, by omega, ?_, ?_⟩ <;> (try simp only [List.cons_append, List.nil_append]) <;> (repeat' (first | exact FrSub.nil | (apply FrSub.cons; exact rfl) | exact HpSub.refl _ | (apply HpSub.consE; (repeat (first | exact P0 | apply P1)); exact rfl) | exact HpSub.nil)))
  · ((all_goals refine goL1 ?_); (all_goals constructor); (any_goals exact trivial); all_goals intros)
    all_goals rfl
def tLo (m : Nat) (r : Int × Int) : Nat := 10 * m / r.2.toNat
def tHi (m : Nat) (r : Int × Int) : Nat := (10 * m + r.1.toNat - 1) / r.1.toNat
/-- The least and the greatest time of a part, for the rates. -/
def hullT (m : Nat) : List (Int × Int) → Nat × Nat
  | [] => (0, 0)
  | r :: l => l.foldl (fun a r => (min a.1 (tLo m r), max a.2 (tHi m r))) (tLo m r, tHi m r)
theorem hullT_one (m : Nat) (r : Int × Int) : hullT m [r] = (tLo m r, tHi m r) := rfl
theorem hullT_snoc {m : Nat} {l : List (Int × Int)} (h : l ≠ []) (r : Int × Int) : hullT m (l ++ [r]) = (min (hullT m l).1 (tLo m r), max (hullT m l).2 (tHi m r)) := by
  cases l with
  | nil => exact absurd rfl h
  | cons a l => simp only [List.cons_append, hullT, List.foldl_append, List.foldl_cons, List.foldl_nil]
def RtOk (r : Int × Int) : Prop := 1 ≤ r.1 ∧ r.1 ≤ r.2 ∧ r.2 ≤ 5001
theorem tb {m : Nat} {r : Int × Int} (h : RtOk r) (hm : m ≤ 1000000) : tLo m r ≤ tHi m r ∧ tHi m r ≤ 10 * m := by
  obtain ⟨h1, h2, h3⟩ := h
  unfold tLo tHi
  obtain ⟨s, hs⟩ : ∃ s, r.1.toNat = s := ⟨_, rfl⟩
  obtain ⟨f, hf⟩ : ∃ s, r.2.toNat = s := ⟨_, rfl⟩
  rw [hs, hf]
  have hs1 : 1 ≤ s := by omega
  have hsf : s ≤ f := by omega
  constructor
  · refine Nat.le_trans (Nat.div_le_div_left hsf (by omega)) (Nat.div_le_div_right (by omega))
  · refine Nat.le_of_lt_succ (Nat.div_lt_of_lt_mul ?_)
    have : 10 * m + s ≤ s * (10 * m + 1) := by
      rw [Nat.mul_add, Nat.mul_one]
      have := Nat.mul_le_mul hs1 (Nat.le_refl (10 * m))
      omega
    show 10 * m + s - 1 < s * (10 * m + 1)
    omega
theorem hullT_bound {m : Nat} (hm : m ≤ 1000000) : ∀ (l : List (Int × Int)), (∀ r ∈ l, RtOk r) → (hullT m l).1 ≤ (hullT m l).2 ∧ (hullT m l).2 ≤ 10 * m
  | [], _ => ⟨Nat.le_refl _, Nat.zero_le _⟩
  | a :: l, h => by
    have key : ∀ (l : List (Int × Int)) (z : Nat × Nat), (∀ r ∈ l, RtOk r) → z.1 ≤ z.2 ∧ z.2 ≤ 10 * m → (l.foldl (fun a r => (min a.1 (tLo m r), max a.2 (tHi m r))) z).1 ≤ (l.foldl (fun a r => (min a.1 (tLo m r), max a.2 (tHi m r))) z).2 ∧ (l.foldl (fun a r => (min a.1 (tLo m r), max a.2 (tHi m r))) z).2 ≤ 10 * m := by
      intro l
      induction l with
      | nil => intro z _ hz; exact hz
      | cons b l ih =>
        intro z hb hz
        have := tb (hb b (List.mem_cons_self ..)) hm
        exact ih _ (fun r hr => hb r (List.mem_cons_of_mem _ hr)) ⟨by simp only; omega, by simp only; omega⟩
    exact key l _ (fun r hr => h r (List.mem_cons_of_mem _ hr)) (tb (h a (List.mem_cons_self ..)) hm)
/-- The rates of a leg: none if she would have to fly too high. -/
noncomputable def legR (v q1 q2 q3 h x y : Int) (bk : Bool) (L : List Wn) : List (Int × Int) :=
  if q3 < upV q1 q2 h then [] else ratesV v (upV q1 q2 h) (turnX bk x) (turnX bk y) L
/-- A part of a way: time, burn, can it be flown. -/
def partV (R : List (Int × Int)) (m g0 g1 : Nat) : Value :=
  if R = [] then .tuple #[.agg #[.int .i64 0, .int .i64 0], .agg #[.int .i64 0, .int .i64 0], .bool false] else
  .tuple #[.agg #[.int .i64 ((hullT m R).1 : Nat), .int .i64 ((hullT m R).2 : Nat)], .agg #[.int .i64 (aL (hullT m R).1 (hullT m R).2 g0 g1 8 : Nat), .int .i64 (aH (hullT m R).1 (hullT m R).2 g0 g1 8 : Nat)], .bool true]
theorem turn_way {x y : Int} (h : WayIn x y) (bk : Bool) : WayIn (turnX bk x) (turnX bk y) := by
  cases bk
  · exact h
  · exact h.neg
theorem up6_calls (a b q : Nat) (hqe : (a + b - 1) / b = q) (hb : 1 ≤ b) (hb1 : b ≤ 100000) (ha : a ≤ 100000000) (w : World) : Calls Tryz.prog 128 #[.int .i64 ((a : Nat) : Int), .int .i64 ((b : Nat) : Int)] w fun e w' => e = .returned (.int .i64 ((q : Nat) : Int)) ∧ Ext w w' := by
  have hq : q ≤ a + b - 1 := hqe ▸ Nat.div_le_self _ _
  refine enterQ (c := cx w 11) Tryz.func128 rfl rfl rfl rfl ?_
  ((all_goals refine goL0 ?_); (all_goals constructor); (any_goals exact trivial); all_goals intros)
  all_goals rfl
theorem refPart_calls (a b x y h v q1 q2 q3 q4 : Int) (g0 g1 m : Nat) (bk : Bool) (A : Option Addr) (n cp : Nat) (L : List Wn) (w : World) (hr : CastR w A n L) (hs : ∀ z ∈ L, z.n ≤ 1000000) (hbw : ∀ z ∈ L, windB z.l = true) (hn : 1 ≤ n ∧ n ≤ 4) (hp : PaceOk v q1 q2 q3 q4 g0 g1) (hh : -500 ≤ h ∧ h ≤ 9000) (hw : WayIn x y) (hm : m ≤ 1000000) : Calls Tryz.prog 101 #[.agg #[.int .i64 a, .int .i64 b, .int .i64 x, .int .i64 y, .int .i64 h], .agg #[.int .i64 v, .int .i64 q1, .int .i64 q2, .int .i64 q3, .int .i64 q4, .int .i64 (g0 : Nat), .int .i64 (g1 : Nat)], .slice A n cp, .bool bk, .int .i64 (m : Nat)] w fun e w' => e = .returned (partV (legR v q1 q2 q3 h x y bk L) m g0 g1) ∧ Ext w w' := by
  have hl := hr.len
  obtain ⟨p1, p2, p3, p4, p5, p6⟩ := id hp
  have hup : -500 ≤ upV q1 q2 h ∧ upV q1 q2 h ≤ 20000 := by unfold upV; omega
  refine enterQ (c := cx w 74) Tryz.func101 rfl rfl rfl rfl ?_
  ((all_goals refine goL0 ?_); (all_goals constructor); (any_goals exact trivial); all_goals intros)
  rename_i b5 b6 b10 b11 b13
  apply t_loopK (ι := List (Int × Int)) [2, 3, 4, 5, 6, 10, 11, 13, 18, 64, 65, 66, 67, 68, 69, 70, 71, 72, 73] (fun acc => [(14, .int .i64 ((acc.length : Nat) : Int))]) (fun acc => [(b5, [.int .i64 a, .int .i64 b, .int .i64 x, .int .i64 y, .int .i64 h], some (78, 5, 1)), (b6, [.int .i64 v, .int .i64 q1, .int .i64 q2, .int .i64 q3, .int .i64 q4, .int .i64 (g0 : Nat), .int .i64 (g1 : Nat)], some (29, 7, 1)), (b10, [.int .i64 0, .int .i64 0], some (27, 2, 1)), (b11, [.int .i64 0, .int .i64 0], some (27, 2, 1)), (b13, [.int .i64 ((hullT m acc).1 : Nat), .int .i64 ((hullT m acc).2 : Nat)], some (27, 2, 1))]) (fun acc => acc.length ≤ n ∧ Pre (wrate v (upV q1 q2 h) (turnX bk x) (turnX bk y)) L acc ∧ (acc ≠ [] → ¬ q3 < upV q1 q2 h) ∧ ∀ r ∈ acc, RtOk r) (fun acc => n - acc.length) ([])
  (repeat (first | exact KeepF.nil | (apply KeepF.cons; exact rfl) | apply KeepF.skip))
  (repeat (first | exact FrSub.nil | (apply FrSub.cons; exact rfl)))
  (repeat (first | exact HpSub.refl _ | (apply HpSub.consE; (repeat (first | exact P0 | apply P1)); exact rfl) | exact HpSub.nil))
  · exact ⟨Nat.zero_le _, pre_nil _ _, fun h => absurd rfl h, fun r hr => by cases hr⟩
  rintro acc ⟨hj, hpre, hup2, hok⟩
  try simp only [List.cons_append, List.nil_append]
  by_cases hlt : acc.length < n
  · obtain ⟨bA, oA, z, rfl, _, hz, c0, hrx, hcx⟩ := hr.read hlt
    have hzm := List.mem_of_getElem? hz
    have HX := fun w1 (e : Ext w w1) => speeds_calls a b x y h v q1 q2 q3 q4 g0 g1 bk z z.c w1 (hrx.ext e) (hs z hzm) (hbw z hzm) hp hh hw
    by_cases hu : q3 < upV q1 q2 h
    · rw [if_pos hu] at HX
      have e0 : legR v q1 q2 q3 h x y bk L = [] := by unfold legR; rw [if_pos hu]
      rw [e0]
      ((all_goals refine goL1 ?_); (all_goals constructor); (any_goals exact trivial); all_goals intros)
      all_goals rfl
    · rw [if_neg hu] at HX
      rcases wn_both (hbw z hzm) p1 hup (turn_way hw bk) with ⟨e1, e2⟩ | ⟨s, f, e1, e2, k1, k2, k3⟩
      · rw [e2] at HX
        have e0 : legR v q1 q2 q3 h x y bk L = [] := by unfold legR; rw [if_neg hu, ratesV_no hzm e1]
        rw [e0]
        generalize (wspd v (upV q1 q2 h) (turnX bk x) (turnX bk y) z).2 = f at HX
        ((all_goals refine goL1 ?_); (all_goals constructor); (any_goals exact trivial); all_goals intros)
        all_goals rfl
      · rw [e2] at HX
        simp only at HX
        obtain ⟨s, rfl⟩ := Int.eq_ofNat_of_zero_le (show 0 ≤ s by omega)
        obtain ⟨f, rfl⟩ := Int.eq_ofNat_of_zero_le (show 0 ≤ f by omega)
        have hpre' := pre_snoc hpre hz e1
        have hok' : ∀ r ∈ acc ++ [((s : Int), (f : Int))], RtOk r := fun r hr => by
          rcases List.mem_append.1 hr with hr | hr
          · exact hok r hr
          · obtain rfl := List.mem_singleton.1 hr
            exact ⟨k1, k2, k3⟩
        have eL : tLo m ((s : Int), (f : Int)) = 10 * m / f := rfl
        have eH : tHi m ((s : Int), (f : Int)) = (10 * m + s - 1) / s := rfl
        obtain ⟨tl, htl⟩ : ∃ t, 10 * m / f = t := ⟨_, rfl⟩
        obtain ⟨th, hth⟩ : ∃ t, (10 * m + s - 1) / s = t := ⟨_, rfl⟩
        have q1' : tl ≤ 10 * m := htl ▸ Nat.div_le_self _ _
        rw [htl] at eL
        rw [hth] at eH
        rcases Decidable.em (acc = []) with h0 | h0
        · subst h0
          repeat' (first
            | ((with_reducible apply oq_id); first | (focus ((with_reducible apply oq_indexAddrN); exact rfl; exact rfl; exact rfl; exact rfl; omega)) | (focus ((with_reducible apply (oq_mulE (k := ((10 * m : Nat) : Int)))); exact rfl; exact rfl; omega; (refine ⟨?_, ?_⟩ <;> omega))) | (focus ((with_reducible apply (oq_quoI (k := ((tl : Nat) : Int)))); exact rfl; exact rfl; exact ⟨(tdiv_nat rfl rfl).trans (by rw [htl]), by omega, by omega, by omega⟩)) | (focus ((with_reducible apply (oq_addE (k := ((acc.length + 1 : Nat) : Int)))); exact rfl; exact rfl; omega)) | ((with_reducible apply (oq_min2E (k := ((tl : Nat) : Int)))); exact rfl; exact rfl; omega) | ((with_reducible apply (oq_max2E (k := ((th : Nat) : Int)))); exact rfl; exact rfl; omega) | ((with_reducible apply oq_lssT); exact rfl; exact rfl; omega) | ((with_reducible apply oq_lssF); exact rfl; exact rfl; omega) | ((with_reducible apply oq_eqlT); exact rfl; exact rfl; omega) | ((with_reducible apply oq_eqlF); exact rfl; exact rfl; omega) | (apply oq_fn; exact rfl; first | exact trivial | (refine ⟨?_, ?_⟩ <;> omega) | (refine ⟨?_, ?_, ?_⟩ <;> omega) | omega | skip) | ((with_reducible apply oq_load); exact rfl; exact rfl) | ((with_reducible apply oq_loadAgg); exact rfl; exact rfl) | ((with_reducible apply oq_call (k := 127) (hc := Tryz.call127)); exact rfl; exact rfl; exact fun D w1 hw1 => HX w1 hw1.ext.ext) | ((with_reducible apply oq_call (k := 128) (hc := Tryz.call128)); exact rfl; exact rfl; exact fun D w1 hw1 => up6_calls (10 * m) s th hth (by omega) (by omega) (by omega) w1) | ((with_reducible apply oq_build); exact rfl; exact rfl; exact rfl) | ((with_reducible apply oq_buildA); exact rfl; exact rfl; exact rfl; exact rfl) | ((with_reducible apply oq_fieldAgg); exact rfl; exact rfl; exact rfl) | ((with_reducible apply oq_indexAgg); exact rfl; exact rfl; exact rfl; exact rfl))
            | ((with_reducible apply tl_id); first | ((with_reducible apply tl_nil)) | ((with_reducible apply u_q); exact rfl; exact rfl; exact rfl; exact rfl) | ((with_reducible apply u_s0); exact rfl; exact rfl) | ((with_reducible apply u_s); exact rfl; exact rfl; exact rfl) | ((with_reducible apply u_skip); exact rfl; exact rfl; exact rfl) | ((with_reducible apply u_splitD); exact rfl; exact rfl; all_goals first | (intro hp; try (exfalso; omega)) | skip) | ((with_reducible apply u_splitN); exact rfl; exact rfl; all_goals first | (intro hp; try (exfalso; omega)) | skip) | ((with_reducible apply u_split); exact rfl; exact rfl; all_goals first | intro hp | skip))
            | ((with_reducible apply gx_id); first | ((with_reducible apply v_nil)) | ((with_reducible apply v_q); exact rfl; exact rfl; exact rfl) | ((with_reducible apply v_skip); exact rfl; exact rfl; exact rfl) | ((with_reducible apply v_splitD); exact rfl; exact rfl; all_goals first | (intro hp; try (exfalso; omega)) | skip) | ((with_reducible apply v_splitN); exact rfl; exact rfl; all_goals first | (intro hp; try (exfalso; omega)) | skip) | ((with_reducible apply v_split); exact rfl; exact rfl; all_goals first | intro hp | skip))
            | ((with_reducible apply os_id); first | ((with_reducible apply os_x); exact rfl) | ((with_reducible apply os_store); exact rfl; exact rfl; exact rfl; exact rfl) | ((with_reducible apply os_storeAgg); exact rfl; exact rfl; exact rfl; exact rfl; exact rfl))
            | ((with_reducible apply ox_id); first | ((with_reducible apply ox_alloc); exact rfl; intro _) | ((with_reducible apply ox_box); exact rfl; exact rfl; intro _) | ((with_reducible apply ox_boxAgg); exact rfl; intro _) | ((with_reducible apply ox_buildSlice1); exact rfl; exact rfl; exact rfl; exact rfl; exact rfl; exact rfl; intro _) | ((with_reducible apply ox_buildSlice2); exact rfl; exact rfl; exact rfl; exact rfl; exact rfl; exact rfl; intro _) | ((with_reducible apply ox_buildSlice); exact rfl; exact rfl; exact rfl; exact rfl))
            | ((with_reducible apply ai_id); first | ((with_reducible apply ai_q); exact rfl; exact rfl; exact rfl; exact rfl; exact rfl) | ((with_reducible apply ai_x); exact rfl; exact rfl; exact rfl; exact rfl; exact rfl) | ((with_reducible apply ai_s0); exact rfl; exact rfl; exact rfl; exact rfl) | ((with_reducible apply ai_n0); exact rfl; exact rfl; exact rfl) | ((with_reducible apply ai_s); exact rfl; exact rfl; exact rfl; exact rfl; exact rfl) | ((with_reducible apply ai_n); exact rfl; exact rfl; exact rfl; exact rfl) | ((with_reducible apply ai_skip); exact rfl; exact rfl; exact rfl; exact rfl) | ((with_reducible apply ai_splitD); exact rfl; exact rfl; exact rfl; all_goals first | (intro hp; try (exfalso; omega)) | skip) | ((with_reducible apply ai_splitN); exact rfl; exact rfl; exact rfl; all_goals first | (intro hp; try (exfalso; omega)) | skip) | ((with_reducible apply ai_split); exact rfl; exact rfl; exact rfl; all_goals first | intro hp | skip))
            | ((with_reducible apply al_keep); focus (repeat (first | exact HpSub.refl _ | (apply HpSub.cons; (repeat (first | exact P0 | apply P1))) | apply HpSub.skipX | exact HpSub.nil)))
            | ((with_reducible apply rd_id); first | (apply Rd.own; (repeat (first | exact P0 | apply P1)); exact rfl; done) | (apply Rd.old; (first | (with_reducible assumption) | exact c0 | exact c1 | exact c2 | exact c3 | exact c4 | exact c5 | exact c6 | exact c7 | exact c8 | exact d0 | exact d1 | exact d2 | exact d3 | exact d4 | exact d5); first | exact List.not_mem_nil | exact m0 | exact m1 | exact m2 | exact m3 | exact m4 | exact m5 | exact m6 | exact m7 | exact m8 | exact m9))
            | ((with_reducible apply t_id); first | (apply t_mix (id := 5) [0, 1, 2, 3, 4, 5, 6, 7, 8, 9, 10, 11, 12] 0 #[false, false, false, false, false, false, false, false, false, false, false, false, false]; kernel_rfl; kernel_rfl; exact rfl) | (apply t_mix (id := 8) [0, 1, 2, 3, 4, 5, 6, 7, 8] 2 #[false, false, false, false, false, false, false, false, false, false, false]; kernel_rfl; kernel_rfl; exact rfl) | ((with_reducible apply t_seq)) | (apply t_region; kernel_rfl) | (apply t_drawn; kernel_rfl; decide +kernel; try simp only [List.append_eq, List.cons_append, List.nil_append]) | ((with_reducible apply t_condT); exact rfl) | ((with_reducible apply t_condF); exact rfl) | ((with_reducible apply t_condD); exact rfl; all_goals first | (intro hp; try (exfalso; omega)) | skip) | ((with_reducible apply t_condN); exact rfl; all_goals first | (intro hp; try (exfalso; omega)) | skip) | ((with_reducible apply t_cond); exact rfl; all_goals first | intro hp | skip) | ((with_reducible apply t_ret)) | ((with_reducible apply t_skip)) | ((with_reducible apply t_exit)) | ((with_reducible apply t_block)))
            | with_reducible apply q_thenN
            | with_reducible apply q_thenR
            | with_reducible apply q_blockR
            | with_reducible apply q_blockN
            | with_reducible apply q_thenE
            | ((with_reducible apply q_blockE); exact rfl)
            | ((with_reducible apply q_blockO); exact rfl)
            | exact P0
            | ((with_reducible apply P1))
            | exact Rdn.zero
            | apply Rdn.succ
            | ((with_reducible apply Norm.nil); exact rfl)
            | ((with_reducible apply Norm.cons); exact rfl)
            | ((with_reducible apply end_ret))
            | ((with_reducible apply end_normal))
            | exact rvs_nil
            | ((with_reducible apply rvs_cons))
            | ((with_reducible apply rv_tmp); exact rfl)
            | ((with_reducible apply rv_cell); exact rfl; exact rfl)
            | ((with_reducible apply rv_cellAgg); exact rfl; exact rfl)
            | ((with_reducible apply cut_in0) <;> (repeat' (first | exact FrSub.nil | (apply FrSub.cons; exact rfl) | exact HpSub.refl _ | (apply HpSub.consE; (repeat (first | exact P0 | apply P1)); exact rfl) | apply HpSub.skipX | exact HpSub.nil)))
            | ((with_reducible apply cut_in1) <;> (repeat' (first | exact FrSub.nil | (apply FrSub.cons; exact rfl) | exact HpSub.refl _ | (apply HpSub.consE; (repeat (first | exact P0 | apply P1)); exact rfl) | apply HpSub.skipX | exact HpSub.nil)))
            | ((with_reducible apply cut_in2) <;> (repeat' (first | exact FrSub.nil | (apply FrSub.cons; exact rfl) | exact HpSub.refl _ | (apply HpSub.consE; (repeat (first | exact P0 | apply P1)); exact rfl) | apply HpSub.skipX | exact HpSub.nil)))
            | ((with_reducible apply cut_in3) <;> (repeat' (first | exact FrSub.nil | (apply FrSub.cons; exact rfl) | exact HpSub.refl _ | (apply HpSub.consE; (repeat (first | exact P0 | apply P1)); exact rfl) | apply HpSub.skipX | exact HpSub.nil)))
            | (apply t_mix (id := 5) [0, 1, 2, 3, 4, 5, 6, 7, 8, 9, 10, 11, 12] 0 #[false, false, false, false, false, false, false, false, false, false, false, false, false]; kernel_rfl; kernel_rfl; exact rfl)
            | ((with_reducible apply al_id); first | (apply al_done; decide +kernel))
            | (apply t_mix (id := 8) [0, 1, 2, 3, 4, 5, 6, 7, 8] 2 #[false, false, false, false, false, false, false, false, false, false, false]; kernel_rfl; kernel_rfl; exact rfl)
            | ((with_reducible apply al_id); first | (apply al_done; decide +kernel) | (apply al_one 9; decide +kernel) | (apply al_one 10; decide +kernel))
            | exact Nat.le_of_ble_eq_true rfl
            | exact (rfl : (_ : Bool) = true)
            | omega
            | (intro _ _; with_reducible apply tl_id)
            | (intro _; with_reducible apply tl_id)
            | (intro _ _; with_reducible apply al_id)
            | (intro _; with_reducible apply al_id))
          all_goals (refine ⟨[((s : Int), (f : Int))], ⟨by simp only [List.length_singleton]; omega, hpre', fun _ => hu, hok'⟩, (by simp only [List.length_singleton, List.length_nil]; omega), ?_, ?_⟩ <;> (try simp only [hullT_one, eL, eH]) <;> (repeat' (first | exact FrSub.nil | (apply FrSub.cons; exact rfl) | exact HpSub.refl _ | (apply HpSub.consE; (repeat (first | exact P0 | apply P1)); exact rfl) | exact HpSub.nil)))
        · have hlp : 0 < acc.length := List.length_pos_iff.2 h0
          have hsn := hullT_snoc (m := m) h0 ((s : Int), (f : Int))
          rw [eL, eH] at hsn
          repeat' (first
            | ((with_reducible apply oq_id); first | (focus ((with_reducible apply oq_indexAddrN); exact rfl; exact rfl; exact rfl; exact rfl; omega)) | (focus ((with_reducible apply (oq_mulE (k := ((10 * m : Nat) : Int)))); exact rfl; exact rfl; omega; (refine ⟨?_, ?_⟩ <;> omega))) | (focus ((with_reducible apply (oq_quoI (k := ((tl : Nat) : Int)))); exact rfl; exact rfl; exact ⟨(tdiv_nat rfl rfl).trans (by rw [htl]), by omega, by omega, by omega⟩)) | (focus ((with_reducible apply (oq_addE (k := ((acc.length + 1 : Nat) : Int)))); exact rfl; exact rfl; omega)) | ((with_reducible apply (oq_min2E (k := ((min (hullT m acc).1 tl : Nat) : Int)))); exact rfl; exact rfl; omega) | ((with_reducible apply (oq_max2E (k := ((max (hullT m acc).2 th : Nat) : Int)))); exact rfl; exact rfl; omega) | ((with_reducible apply oq_lssT); exact rfl; exact rfl; omega) | ((with_reducible apply oq_lssF); exact rfl; exact rfl; omega) | ((with_reducible apply oq_eqlT); exact rfl; exact rfl; omega) | ((with_reducible apply oq_eqlF); exact rfl; exact rfl; omega) | (apply oq_fn; exact rfl; first | exact trivial | (refine ⟨?_, ?_⟩ <;> omega) | (refine ⟨?_, ?_, ?_⟩ <;> omega) | omega | skip) | ((with_reducible apply oq_load); exact rfl; exact rfl) | ((with_reducible apply oq_loadAgg); exact rfl; exact rfl) | ((with_reducible apply oq_call (k := 127) (hc := Tryz.call127)); exact rfl; exact rfl; exact fun D w1 hw1 => HX w1 hw1.ext.ext) | ((with_reducible apply oq_call (k := 128) (hc := Tryz.call128)); exact rfl; exact rfl; exact fun D w1 hw1 => up6_calls (10 * m) s th hth (by omega) (by omega) (by omega) w1) | ((with_reducible apply oq_build); exact rfl; exact rfl; exact rfl) | ((with_reducible apply oq_buildA); exact rfl; exact rfl; exact rfl; exact rfl) | ((with_reducible apply oq_fieldAgg); exact rfl; exact rfl; exact rfl) | ((with_reducible apply oq_indexAgg); exact rfl; exact rfl; exact rfl; exact rfl))
            | ((with_reducible apply tl_id); first | ((with_reducible apply tl_nil)) | ((with_reducible apply u_q); exact rfl; exact rfl; exact rfl; exact rfl) | ((with_reducible apply u_s0); exact rfl; exact rfl) | ((with_reducible apply u_s); exact rfl; exact rfl; exact rfl) | ((with_reducible apply u_skip); exact rfl; exact rfl; exact rfl) | ((with_reducible apply u_splitD); exact rfl; exact rfl; all_goals first | (intro hp; try (exfalso; omega)) | skip) | ((with_reducible apply u_splitN); exact rfl; exact rfl; all_goals first | (intro hp; try (exfalso; omega)) | skip) | ((with_reducible apply u_split); exact rfl; exact rfl; all_goals first | intro hp | skip))
            | ((with_reducible apply gx_id); first | ((with_reducible apply v_nil)) | ((with_reducible apply v_q); exact rfl; exact rfl; exact rfl) | ((with_reducible apply v_skip); exact rfl; exact rfl; exact rfl) | ((with_reducible apply v_splitD); exact rfl; exact rfl; all_goals first | (intro hp; try (exfalso; omega)) | skip) | ((with_reducible apply v_splitN); exact rfl; exact rfl; all_goals first | (intro hp; try (exfalso; omega)) | skip) | ((with_reducible apply v_split); exact rfl; exact rfl; all_goals first | intro hp | skip))
            | ((with_reducible apply os_id); first | ((with_reducible apply os_x); exact rfl) | ((with_reducible apply os_store); exact rfl; exact rfl; exact rfl; exact rfl) | ((with_reducible apply os_storeAgg); exact rfl; exact rfl; exact rfl; exact rfl; exact rfl))
            | ((with_reducible apply ox_id); first | ((with_reducible apply ox_alloc); exact rfl; intro _) | ((with_reducible apply ox_box); exact rfl; exact rfl; intro _) | ((with_reducible apply ox_boxAgg); exact rfl; intro _) | ((with_reducible apply ox_buildSlice1); exact rfl; exact rfl; exact rfl; exact rfl; exact rfl; exact rfl; intro _) | ((with_reducible apply ox_buildSlice2); exact rfl; exact rfl; exact rfl; exact rfl; exact rfl; exact rfl; intro _) | ((with_reducible apply ox_buildSlice); exact rfl; exact rfl; exact rfl; exact rfl))
            | ((with_reducible apply ai_id); first | ((with_reducible apply ai_q); exact rfl; exact rfl; exact rfl; exact rfl; exact rfl) | ((with_reducible apply ai_x); exact rfl; exact rfl; exact rfl; exact rfl; exact rfl) | ((with_reducible apply ai_s0); exact rfl; exact rfl; exact rfl; exact rfl) | ((with_reducible apply ai_n0); exact rfl; exact rfl; exact rfl) | ((with_reducible apply ai_s); exact rfl; exact rfl; exact rfl; exact rfl; exact rfl) | ((with_reducible apply ai_n); exact rfl; exact rfl; exact rfl; exact rfl) | ((with_reducible apply ai_skip); exact rfl; exact rfl; exact rfl; exact rfl) | ((with_reducible apply ai_splitD); exact rfl; exact rfl; exact rfl; all_goals first | (intro hp; try (exfalso; omega)) | skip) | ((with_reducible apply ai_splitN); exact rfl; exact rfl; exact rfl; all_goals first | (intro hp; try (exfalso; omega)) | skip) | ((with_reducible apply ai_split); exact rfl; exact rfl; exact rfl; all_goals first | intro hp | skip))
            | ((with_reducible apply al_keep); focus (repeat (first | exact HpSub.refl _ | (apply HpSub.cons; (repeat (first | exact P0 | apply P1))) | apply HpSub.skipX | exact HpSub.nil)))
            | ((with_reducible apply rd_id); first | (apply Rd.own; (repeat (first | exact P0 | apply P1)); exact rfl; done) | (apply Rd.old; (first | (with_reducible assumption) | exact c0 | exact c1 | exact c2 | exact c3 | exact c4 | exact c5 | exact c6 | exact c7 | exact c8 | exact d0 | exact d1 | exact d2 | exact d3 | exact d4 | exact d5); first | exact List.not_mem_nil | exact m0 | exact m1 | exact m2 | exact m3 | exact m4 | exact m5 | exact m6 | exact m7 | exact m8 | exact m9))
            | ((with_reducible apply t_id); first | (apply t_mix (id := 5) [0, 1, 2, 3, 4, 5, 6, 7, 8, 9, 10, 11, 12] 0 #[false, false, false, false, false, false, false, false, false, false, false, false, false]; kernel_rfl; kernel_rfl; exact rfl) | (apply t_mix (id := 8) [0, 1, 2, 3, 4, 5, 6, 7, 8] 2 #[false, false, false, false, false, false, false, false, false, false, false]; kernel_rfl; kernel_rfl; exact rfl) | ((with_reducible apply t_seq)) | (apply t_region; kernel_rfl) | (apply t_drawn; kernel_rfl; decide +kernel; try simp only [List.append_eq, List.cons_append, List.nil_append]) | ((with_reducible apply t_condT); exact rfl) | ((with_reducible apply t_condF); exact rfl) | ((with_reducible apply t_condD); exact rfl; all_goals first | (intro hp; try (exfalso; omega)) | skip) | ((with_reducible apply t_condN); exact rfl; all_goals first | (intro hp; try (exfalso; omega)) | skip) | ((with_reducible apply t_cond); exact rfl; all_goals first | intro hp | skip) | ((with_reducible apply t_ret)) | ((with_reducible apply t_skip)) | ((with_reducible apply t_exit)) | ((with_reducible apply t_block)))
            | with_reducible apply q_thenN
            | with_reducible apply q_thenR
            | with_reducible apply q_blockR
            | with_reducible apply q_blockN
            | with_reducible apply q_thenE
            | ((with_reducible apply q_blockE); exact rfl)
            | ((with_reducible apply q_blockO); exact rfl)
            | exact P0
            | ((with_reducible apply P1))
            | exact Rdn.zero
            | apply Rdn.succ
            | ((with_reducible apply Norm.nil); exact rfl)
            | ((with_reducible apply Norm.cons); exact rfl)
            | ((with_reducible apply end_ret))
            | ((with_reducible apply end_normal))
            | exact rvs_nil
            | ((with_reducible apply rvs_cons))
            | ((with_reducible apply rv_tmp); exact rfl)
            | ((with_reducible apply rv_cell); exact rfl; exact rfl)
            | ((with_reducible apply rv_cellAgg); exact rfl; exact rfl)
            | ((with_reducible apply cut_in0) <;> (repeat' (first | exact FrSub.nil | (apply FrSub.cons; exact rfl) | exact HpSub.refl _ | (apply HpSub.consE; (repeat (first | exact P0 | apply P1)); exact rfl) | apply HpSub.skipX | exact HpSub.nil)))
            | ((with_reducible apply cut_in1) <;> (repeat' (first | exact FrSub.nil | (apply FrSub.cons; exact rfl) | exact HpSub.refl _ | (apply HpSub.consE; (repeat (first | exact P0 | apply P1)); exact rfl) | apply HpSub.skipX | exact HpSub.nil)))
            | ((with_reducible apply cut_in2) <;> (repeat' (first | exact FrSub.nil | (apply FrSub.cons; exact rfl) | exact HpSub.refl _ | (apply HpSub.consE; (repeat (first | exact P0 | apply P1)); exact rfl) | apply HpSub.skipX | exact HpSub.nil)))
            | ((with_reducible apply cut_in3) <;> (repeat' (first | exact FrSub.nil | (apply FrSub.cons; exact rfl) | exact HpSub.refl _ | (apply HpSub.consE; (repeat (first | exact P0 | apply P1)); exact rfl) | apply HpSub.skipX | exact HpSub.nil)))
            | (apply t_mix (id := 5) [0, 1, 2, 3, 4, 5, 6, 7, 8, 9, 10, 11, 12] 0 #[false, false, false, false, false, false, false, false, false, false, false, false, false]; kernel_rfl; kernel_rfl; exact rfl)
            | ((with_reducible apply al_id); first | (apply al_done; decide +kernel))
            | (apply t_mix (id := 8) [0, 1, 2, 3, 4, 5, 6, 7, 8] 2 #[false, false, false, false, false, false, false, false, false, false, false]; kernel_rfl; kernel_rfl; exact rfl)
            | ((with_reducible apply al_id); first | (apply al_done; decide +kernel) | (apply al_one 9; decide +kernel) | (apply al_one 10; decide +kernel))
            | exact Nat.le_of_ble_eq_true rfl
            | exact (rfl : (_ : Bool) = true)
            | omega
            | (intro _ _; with_reducible apply tl_id)
            | (intro _; with_reducible apply tl_id)
            | (intro _ _; with_reducible apply al_id)
            | (intro _; with_reducible apply al_id))
          all_goals (refine ⟨acc ++ [((s : Int), (f : Int))], ⟨by simp only [List.length_append, List.length_singleton]; omega, hpre', fun _ => hu, hok'⟩, (by simp only [List.length_append, List.length_singleton]; omega), ?_, ?_⟩ <;> (try simp only [hsn, List.length_append, List.length_singleton]) <;> (repeat' (first | exact FrSub.nil | (apply FrSub.cons; exact rfl) | exact HpSub.refl _ | (apply HpSub.consE; (repeat (first | exact P0 | apply P1)); exact rfl) | exact HpSub.nil)))
  · have hne : acc ≠ [] := fun e => by rw [e] at hlt; simp only [List.length_nil] at hlt; omega
    have e0 : legR v q1 q2 q3 h x y bk L = acc := by unfold legR; rw [if_neg (hup2 hne), ratesV_pre hpre (by omega)]
    have hb := hullT_bound hm acc hok
    have HO := fun w1 => refOver_calls (hullT m acc).1 (hullT m acc).2 g0 g1 hb.1 (by omega) (by omega) (by omega) w1
    have ev : partV acc m g0 g1 = .tuple #[.agg #[.int .i64 ((hullT m acc).1 : Nat), .int .i64 ((hullT m acc).2 : Nat)], .agg #[.int .i64 (aL (hullT m acc).1 (hullT m acc).2 g0 g1 8 : Nat), .int .i64 (aH (hullT m acc).1 (hullT m acc).2 g0 g1 8 : Nat)], .bool true] := by unfold partV; rw [if_neg hne]
    rw [e0, ev]
    ((all_goals refine goL1 ?_); (all_goals constructor); (any_goals exact trivial); all_goals intros)
    all_goals rfl
end Go.Proofs.YtcjkndjjbjoehaaGreat
