/- The furthest, the reference's. -/
import Derived.Test.YtmlmgipngbndgaaIntB
import Derived.Test.YtmlmgipngbndgaaFurP
import Derived.Test.YtmlmgipngbndgaaCare1
namespace Go.Proofs.Ytmlmgipngbndgaa
open Go.RowKit
attribute [local irreducible] OQ OS OX Rd T TL GX GL AL AI RV wpG SAny Calls
set_option maxRecDepth 100000
set_option maxHeartbeats 2000000
set_option linter.unusedVariables false
set_option linter.unusedSimpArgs false

theorem info3 : (Try.prog.info? 3).map (fun i => i.zero) = some (some (.int .i64 0)) := by kernel_rfl
/-- A list that is filled, from the front. -/
def fillV (nx : Nat → Int) (m k : Nat) : List Value := ((List.range k).map nx).map iv ++ List.replicate (m - k) (Value.int .i64 0)
theorem fill_open {nx : Nat → Int} {m k : Nat} (h : k < m) : fillV nx m k = ((List.range k).map nx).map iv ++ Value.int .i64 0 :: List.replicate (m - (k + 1)) (Value.int .i64 0) := by
  unfold fillV
  rw [show m - k = (m - (k + 1)) + 1 by omega, List.replicate_succ]
theorem fill_close {nx : Nat → Int} {m k : Nat} {v : Int} (h : nx k = v) : ((List.range k).map nx).map iv ++ Value.int .i64 v :: List.replicate (m - (k + 1)) (Value.int .i64 0) = fillV nx m (k + 1) := by
  unfold fillV
  rw [List.range_succ]
  simp [h, iv]
theorem fill_done {nx : Nat → Int} {m : Nat} : fillV nx m m = ((List.range m).map nx).map iv := by unfold fillV; simp
def FurV (row : List Int) (V : Value) (H : Hp) : Prop := ∃ g cap, V = .slice (some ⟨g, 0, none⟩) row.length cap ∧ H = [(g, row.map iv, some (3, 1, cap))]

theorem furthest_T (ev gr du : Int) (A : Option Addr) (n c : Nat) (fs : List Int) (fl b0 : Int) (w : World) (hr : RdS w 1 A n (fs.map inCells)) (hn : n ≤ 1000) (he : 1 ≤ ev ∧ ev ≤ 100000) (hg : 0 ≤ gr ∧ gr ≤ 100000) (hf : FsOk fs) (h0 : 0 ≤ fl) (h1 : fl ≤ 1000000) (hb : RowOk fl [b0]) :
    Calls Try.prog 78 #[.agg #[.int .i64 ev, .int .i64 gr, .int .i64 du], .slice A n c, .int .i64 fl, .int .i64 b0] w fun e w' => ∃ V H', e = .returned V ∧ FurV (rowK ev gr fs fl [b0] n) V H' ∧ Has w ⟨[], []⟩ H' w' := by
  have hl := hr.len
  simp only [List.length_map] at hl
  have hnv : never = 1099511627776 := rfl
  refine enterF (c := cx w 98) Try.func78 rfl rfl rfl rfl ?_
  repeat' (first
    | ((with_reducible apply oq_id); first | (apply oq_fn; exact rfl; first | exact trivial | (refine ⟨?_, ?_⟩ <;> omega) | (refine ⟨?_, ?_, ?_⟩ <;> omega) | omega | skip) | ((with_reducible apply oq_load); exact rfl; exact rfl) | ((with_reducible apply oq_loadAgg); exact rfl; exact rfl) | ((with_reducible apply oq_build); exact rfl; exact rfl; exact rfl) | ((with_reducible apply oq_buildA); exact rfl; exact rfl; exact rfl; exact rfl) | ((with_reducible apply oq_fieldAgg); exact rfl; exact rfl; exact rfl) | ((with_reducible apply oq_indexAgg); exact rfl; exact rfl; exact rfl; exact rfl))
    | ((with_reducible apply tl_id); first | ((with_reducible apply tl_nil)) | ((with_reducible apply u_q); exact rfl; exact rfl; exact rfl; exact rfl) | ((with_reducible apply u_s0); exact rfl; exact rfl) | ((with_reducible apply u_s); exact rfl; exact rfl; exact rfl) | ((with_reducible apply u_skip); exact rfl; exact rfl; exact rfl) | ((with_reducible apply u_splitD); exact rfl; exact rfl; all_goals first | (intro hp; try (exfalso; omega)) | skip) | ((with_reducible apply u_splitN); exact rfl; exact rfl; all_goals first | (intro hp; try (exfalso; omega)) | skip) | ((with_reducible apply u_split); exact rfl; exact rfl; all_goals first | intro hp | skip))
    | ((with_reducible apply gx_id); first | ((with_reducible apply v_nil)) | ((with_reducible apply v_q); exact rfl; exact rfl; exact rfl) | ((with_reducible apply v_skip); exact rfl; exact rfl; exact rfl) | ((with_reducible apply v_splitD); exact rfl; exact rfl; all_goals first | (intro hp; try (exfalso; omega)) | skip) | ((with_reducible apply v_splitN); exact rfl; exact rfl; all_goals first | (intro hp; try (exfalso; omega)) | skip) | ((with_reducible apply v_split); exact rfl; exact rfl; all_goals first | intro hp | skip))
    | ((with_reducible apply os_id); first | ((with_reducible apply os_x); exact rfl) | ((with_reducible apply os_store); exact rfl; exact rfl; exact rfl; exact rfl) | ((with_reducible apply os_storeAgg); exact rfl; exact rfl; exact rfl; exact rfl; exact rfl))
    | ((with_reducible apply ox_id); first | ((with_reducible apply ox_alloc); exact rfl; intro _) | ((with_reducible apply ox_box); exact rfl; exact rfl; intro _) | ((with_reducible apply ox_boxAgg); exact rfl; intro _) | ((with_reducible apply ox_buildSlice1); exact rfl; exact rfl; exact rfl; exact rfl; exact rfl; exact rfl; intro _) | ((with_reducible apply ox_buildSlice2); exact rfl; exact rfl; exact rfl; exact rfl; exact rfl; exact rfl; intro _) | ((with_reducible apply ox_buildSlice); exact rfl; exact rfl; exact rfl; exact rfl))
    | ((with_reducible apply rd_id); first | (apply Rd.own; (repeat (first | exact P0 | apply P1)); exact rfl; done) | (apply Rd.old; (first | (with_reducible assumption) | exact c0 | exact c1 | exact c2 | exact c3 | exact c4 | exact c5 | exact c6 | exact c7 | exact c8 | exact d0 | exact d1 | exact d2 | exact d3 | exact d4 | exact d5); first | exact List.not_mem_nil | exact m0 | exact m1 | exact m2 | exact m3 | exact m4 | exact m5 | exact m6 | exact m7 | exact m8 | exact m9))
    | ((with_reducible apply t_id); first | ((with_reducible apply t_seq)) | (apply t_region; kernel_rfl) | (apply t_drawn; kernel_rfl; decide +kernel; try simp only [List.append_eq, List.cons_append, List.nil_append]) | ((with_reducible apply t_condT); exact rfl) | ((with_reducible apply t_condF); exact rfl) | ((with_reducible apply t_condD); exact rfl; all_goals first | (intro hp; try (exfalso; omega)) | skip) | ((with_reducible apply t_condN); exact rfl; all_goals first | (intro hp; try (exfalso; omega)) | skip) | ((with_reducible apply t_cond); exact rfl; all_goals first | intro hp | skip) | ((with_reducible apply t_ret)) | ((with_reducible apply t_skip)) | ((with_reducible apply t_exit)) | ((with_reducible apply t_block)))
    | with_reducible apply q_thenN
    | with_reducible apply q_thenR
    | with_reducible apply q_blockR
    | with_reducible apply q_blockN
    | with_reducible apply q_thenE
    | ((with_reducible apply q_blockE); exact rfl)
    | ((with_reducible apply q_blockO); exact rfl)
    | exact P0
    | ((with_reducible apply P1))
    | exact Rdn.zero
    | apply Rdn.succ
    | ((with_reducible apply Norm.nil); exact rfl)
    | ((with_reducible apply Norm.cons); exact rfl)
    | ((with_reducible apply end_ret))
    | ((with_reducible apply end_normal))
    | exact rvs_nil
    | ((with_reducible apply rvs_cons))
    | ((with_reducible apply rv_tmp); exact rfl)
    | ((with_reducible apply rv_cell); exact rfl; exact rfl)
    | ((with_reducible apply rv_cellAgg); exact rfl; exact rfl)
    | exact Nat.le_of_ble_eq_true rfl
    | exact (rfl : (_ : Bool) = true)
    | omega
    | (intro _ _; with_reducible apply tl_id)
    | (intro _; with_reducible apply tl_id)
    | (intro _ _; with_reducible apply al_id)
    | (intro _; with_reducible apply al_id))
  apply t_loopK (ι := Nat × Nat × Nat) [1, 4, 8, 97] (fun j => [(10, .int .i64 (j.1 : Nat)), (2, .int .i64 (flK fs fl j.1)), (9, .slice (some ⟨j.2.1, 0, none⟩) (j.1 + 1) j.2.2)]) (fun j => [(j.2.1, (rowK ev gr fs fl [b0] j.1).map iv, some (3, 1, j.2.2))]) (fun j => j.1 ≤ n) (fun j => n - j.1) ((0, _, 1))
  (repeat (first | exact KeepF.nil | (apply KeepF.cons; exact rfl) | apply KeepF.skip))
  (repeat (first | exact FrSub.nil | (apply FrSub.cons; exact rfl)))
  (repeat (first | exact HpSub.refl _ | (apply HpSub.consE; (repeat (first | exact P0 | apply P1)); exact rfl) | exact HpSub.nil))
  · exact Nat.zero_le _
  rintro ⟨i, g, cap⟩ hi
  simp only at hi
  try simp only [List.cons_append, List.nil_append]
  have hlen := rowK_len ev gr fs fl [b0] i
  have hok := rowK_ok he hg hf h0 hb (k := i) (by omega)
  have hfl := flK_in hf h0 (k := i) (by omega)
  by_cases hlt : i < n
  · obtain ⟨b1, o1, x, rfl, _, hx, c0⟩ := in_read hr hlt
    have hfx := hf x (List.mem_of_getElem? hx)
    have hrow1 : rowK ev gr fs fl [b0] (i + 1) = (List.range (i + 1 + 1)).map (nxV ev gr (flK fs fl i) x (rowK ev gr fs fl [b0] i)) := by
      rw [show rowK ev gr fs fl [b0] (i + 1) = nxRow ev gr (flK fs fl i) (fs[i]?.getD 0) (rowK ev gr fs fl [b0] i) from rfl, hx]
      unfold nxRow
      rw [hlen, show [b0].length + i + 1 = i + 1 + 1 by simp; omega]
      rfl
    have hfl2 : flK fs fl (i + 1) = flK fs fl i + x := by rw [show flK fs fl (i + 1) = flK fs fl i + fs[i]?.getD 0 from rfl, hx]; rfl
    obtain ⟨fl2, hq2⟩ : ∃ q, flK fs fl (i + 1) = q := ⟨_, rfl⟩
    rw [hq2] at hfl2
    obtain ⟨flv, hq1⟩ : ∃ q, flK fs fl i = q := ⟨_, rfl⟩
    rw [hq1] at hfl2 hfl hok hrow1 ⊢
    obtain ⟨row, hq0⟩ : ∃ q, rowK ev gr fs fl [b0] i = q := ⟨_, rfl⟩
    rw [hq0] at hok hlen hrow1 ⊢
    simp only [List.length_cons, List.length_nil] at hlen
    repeat' (first
      | ((with_reducible apply oq_id); first | (focus ((with_reducible apply oq_indexAddrN); exact rfl; exact rfl; exact rfl; exact rfl; omega)) | ((with_reducible apply oq_subE (k := flv)); exact rfl; exact rfl; omega) | ((with_reducible apply oq_subE (k := (k : Int))); exact rfl; exact rfl; omega) | ((with_reducible apply oq_subE (k := (i : Int))); exact rfl; exact rfl; omega) | ((with_reducible apply oq_addE (k := ((i + 1 + 1 : Nat) : Int))); exact rfl; exact rfl; omega) | ((with_reducible apply oq_addE (k := fl2)); exact rfl; exact rfl; omega) | (apply oq_fn; exact rfl; first | exact trivial | (refine ⟨?_, ?_⟩ <;> omega) | (refine ⟨?_, ?_, ?_⟩ <;> omega) | omega | skip) | ((with_reducible apply oq_load); exact rfl; exact rfl) | ((with_reducible apply oq_loadAgg); exact rfl; exact rfl) | ((with_reducible apply oq_build); exact rfl; exact rfl; exact rfl) | ((with_reducible apply oq_buildA); exact rfl; exact rfl; exact rfl; exact rfl) | ((with_reducible apply oq_fieldAgg); exact rfl; exact rfl; exact rfl) | ((with_reducible apply oq_indexAgg); exact rfl; exact rfl; exact rfl; exact rfl))
      | ((with_reducible apply tl_id); first | ((with_reducible apply tl_nil)) | ((with_reducible apply u_q); exact rfl; exact rfl; exact rfl; exact rfl) | ((with_reducible apply u_s0); exact rfl; exact rfl) | ((with_reducible apply u_s); exact rfl; exact rfl; exact rfl) | ((with_reducible apply u_skip); exact rfl; exact rfl; exact rfl) | ((with_reducible apply u_splitD); exact rfl; exact rfl; all_goals first | (intro hp; try (exfalso; omega)) | skip) | ((with_reducible apply u_splitN); exact rfl; exact rfl; all_goals first | (intro hp; try (exfalso; omega)) | skip) | ((with_reducible apply u_split); exact rfl; exact rfl; all_goals first | intro hp | skip))
      | ((with_reducible apply gx_id); first | ((with_reducible apply v_nil)) | ((with_reducible apply v_q); exact rfl; exact rfl; exact rfl) | ((with_reducible apply v_skip); exact rfl; exact rfl; exact rfl) | ((with_reducible apply v_splitD); exact rfl; exact rfl; all_goals first | (intro hp; try (exfalso; omega)) | skip) | ((with_reducible apply v_splitN); exact rfl; exact rfl; all_goals first | (intro hp; try (exfalso; omega)) | skip) | ((with_reducible apply v_split); exact rfl; exact rfl; all_goals first | intro hp | skip))
      | ((with_reducible apply os_id); first | ((with_reducible apply os_storeM hA); exact rfl; exact rfl; exact rfl; (repeat (first | exact P0 | apply P1))) | ((with_reducible apply os_x); exact rfl) | ((with_reducible apply os_store); exact rfl; exact rfl; exact rfl; exact rfl) | ((with_reducible apply os_storeAgg); exact rfl; exact rfl; exact rfl; exact rfl; exact rfl))
      | ((with_reducible apply ox_id); first | ((with_reducible apply ox_alloc); exact rfl; intro _) | ((with_reducible apply ox_box); exact rfl; exact rfl; intro _) | ((with_reducible apply ox_boxAgg); exact rfl; intro _) | ((with_reducible apply ox_buildSlice1); exact rfl; exact rfl; exact rfl; exact rfl; exact rfl; exact rfl; intro _) | ((with_reducible apply ox_buildSlice2); exact rfl; exact rfl; exact rfl; exact rfl; exact rfl; exact rfl; intro _) | ((with_reducible apply ox_buildSlice); exact rfl; exact rfl; exact rfl; exact rfl))
      | ((with_reducible apply ai_id); first | ((with_reducible apply ai_q); exact rfl; exact rfl; exact rfl; exact rfl; exact rfl) | ((with_reducible apply ai_x); exact rfl; exact rfl; exact rfl; exact rfl; exact rfl) | ((with_reducible apply ai_s0); exact rfl; exact rfl; exact rfl; exact rfl) | ((with_reducible apply ai_n0); exact rfl; exact rfl; exact rfl) | ((with_reducible apply ai_s); exact rfl; exact rfl; exact rfl; exact rfl; exact rfl) | ((with_reducible apply ai_n); exact rfl; exact rfl; exact rfl; exact rfl) | ((with_reducible apply ai_skip); exact rfl; exact rfl; exact rfl; exact rfl) | ((with_reducible apply ai_splitD); exact rfl; exact rfl; exact rfl; all_goals first | (intro hp; try (exfalso; omega)) | skip) | ((with_reducible apply ai_splitN); exact rfl; exact rfl; exact rfl; all_goals first | (intro hp; try (exfalso; omega)) | skip) | ((with_reducible apply ai_split); exact rfl; exact rfl; exact rfl; all_goals first | intro hp | skip))
      | ((with_reducible apply al_keep); focus (repeat (first | exact HpSub.refl _ | (apply HpSub.cons; (repeat (first | exact P0 | apply P1))) | exact HpSub.nil)))
      | ((with_reducible apply rd_id); first | (apply rdM hA; (repeat (first | exact P0 | apply P1)); done) | (apply rdI hb1; (repeat (first | exact P0 | apply P1)); done) | (apply rdI hb0; (repeat (first | exact P0 | apply P1)); done) | (apply Rd.own; (repeat (first | exact P0 | apply P1)); exact rfl; done) | (apply Rd.old; (first | (with_reducible assumption) | exact c0 | exact c1 | exact c2 | exact c3 | exact c4 | exact c5 | exact c6 | exact c7 | exact c8 | exact d0 | exact d1 | exact d2 | exact d3 | exact d4 | exact d5); first | exact List.not_mem_nil | exact m0 | exact m1 | exact m2 | exact m3 | exact m4 | exact m5 | exact m6 | exact m7 | exact m8 | exact m9))
      | ((with_reducible apply t_id); first | ((with_reducible apply t_seq)) | (apply t_region; kernel_rfl) | (apply t_drawn; kernel_rfl; decide +kernel; try simp only [List.append_eq, List.cons_append, List.nil_append]) | ((with_reducible apply t_condT); exact rfl) | ((with_reducible apply t_condF); exact rfl) | ((with_reducible apply t_condD); exact rfl; all_goals first | (intro hp; try (exfalso; omega)) | skip) | ((with_reducible apply t_condN); exact rfl; all_goals first | (intro hp; try (exfalso; omega)) | skip) | ((with_reducible apply t_cond); exact rfl; all_goals first | intro hp | skip) | ((with_reducible apply t_ret)) | ((with_reducible apply t_skip)) | ((with_reducible apply t_exit)) | ((with_reducible apply t_block)))
      | with_reducible apply q_thenN
      | with_reducible apply q_thenR
      | with_reducible apply q_blockR
      | with_reducible apply q_blockN
      | with_reducible apply q_thenE
      | ((with_reducible apply q_blockE); exact rfl)
      | ((with_reducible apply q_blockO); exact rfl)
      | exact P0
      | ((with_reducible apply P1))
      | exact Rdn.zero
      | apply Rdn.succ
      | ((with_reducible apply Norm.nil); exact rfl)
      | ((with_reducible apply Norm.cons); exact rfl)
      | ((with_reducible apply end_ret))
      | ((with_reducible apply end_normal))
      | exact rvs_nil
      | ((with_reducible apply rvs_cons))
      | ((with_reducible apply rv_tmp); exact rfl)
      | ((with_reducible apply rv_cell); exact rfl; exact rfl)
      | ((with_reducible apply rv_cellAgg); exact rfl; exact rfl)
      | (apply t_mix (id := 14) [0, 1, 2, 3, 4, 5, 6, 7, 8, 9, 10, 11, 12, 13, 14, 15, 16, 17, 18, 19, 20, 21, 22] 1 #[false, false, false, false, false, false, false, false, false, false, false, false, false, false, false, false, false, false, false, false, false, false, false, true]; kernel_rfl; kernel_rfl; exact rfl)
      | ((with_reducible apply al_id); first | (apply al_done; decide +kernel) | (apply al_one 23; decide +kernel))
      | ((with_reducible apply ox_makeI (hk := app_ok41) (hz := info3)); exact rfl; exact rfl; omega; (unfold maxLen; omega); intro _)
      | ((with_reducible apply os_makeI (hk := app_ok41) (hz := info3)); exact rfl; exact rfl; omega; (unfold maxLen; omega); intro _)
      | exact Nat.le_of_ble_eq_true rfl
      | exact (rfl : (_ : Bool) = true)
      | omega
      | (intro _ _; with_reducible apply tl_id)
      | (intro _; with_reducible apply tl_id)
      | (intro _ _; with_reducible apply al_id)
      | (intro _; with_reducible apply al_id))
    rename_i gN
    apply t_loopK (ι := Nat) [1, 2, 4, 8, 9, 10, 11, 15, 16, 17, 18, 19, 20, 21, 22, 23, 24, 25, 26, 27, 28, 29, 30, 96, 97] (fun k => [(12, .int .i64 (k : Nat))]) (fun k => [(gN, fillV (nxV ev gr flv x row) (i + 1 + 1) k, some (3, 1, i + 1 + 1))]) (fun k => k ≤ i + 1 + 1) (fun k => i + 1 + 1 - k) (0)
    (repeat (first | exact KeepF.nil | (apply KeepF.cons; exact rfl) | apply KeepF.skip))
    (repeat (first | exact FrSub.nil | (apply FrSub.cons; exact rfl)))
    (repeat (first | exact HpSub.refl _ | (apply HpSub.consE; (repeat (first | exact P0 | apply P1)); exact rfl) | exact HpSub.nil))
    · exact Nat.zero_le _
    rintro k hk
    try simp only [List.cons_append, List.nil_append]
    by_cases hlt2 : k < i + 1 + 1
    · rw [fill_open hlt2]
      have hA : ((List.range k).map (nxV ev gr flv x row)).length = k := by simp
      cases k with
      | zero =>
        obtain ⟨y0, hb0⟩ : ∃ y, row[0]? = some y := ⟨_, List.getElem?_eq_getElem (by omega)⟩
        have hy0 := hok y0 (List.mem_of_getElem? hb0)
        have hC := nxC_0 (ev := ev) (fl := flv) hb0
        by_cases hlate : y0 + gr < flv + x
        · have hnx : (nxV ev gr flv x row) 0 = -1099511627776 := by unfold nxV; rw [hC, if_pos hlate]; rfl
          repeat' (first
            | ((with_reducible apply oq_id); first | (focus ((with_reducible apply oq_indexAddrN); exact rfl; exact rfl; exact rfl; exact rfl; omega)) | ((with_reducible apply oq_subE (k := flv)); exact rfl; exact rfl; omega) | ((with_reducible apply oq_subE (k := (k : Int))); exact rfl; exact rfl; omega) | ((with_reducible apply oq_subE (k := (i : Int))); exact rfl; exact rfl; omega) | ((with_reducible apply oq_addE (k := ((i + 1 + 1 : Nat) : Int))); exact rfl; exact rfl; omega) | ((with_reducible apply oq_addE (k := fl2)); exact rfl; exact rfl; omega) | (apply oq_fn; exact rfl; first | exact trivial | (refine ⟨?_, ?_⟩ <;> omega) | (refine ⟨?_, ?_, ?_⟩ <;> omega) | omega | skip) | ((with_reducible apply oq_load); exact rfl; exact rfl) | ((with_reducible apply oq_loadAgg); exact rfl; exact rfl) | ((with_reducible apply oq_build); exact rfl; exact rfl; exact rfl) | ((with_reducible apply oq_buildA); exact rfl; exact rfl; exact rfl; exact rfl) | ((with_reducible apply oq_fieldAgg); exact rfl; exact rfl; exact rfl) | ((with_reducible apply oq_indexAgg); exact rfl; exact rfl; exact rfl; exact rfl))
            | ((with_reducible apply tl_id); first | ((with_reducible apply tl_nil)) | ((with_reducible apply u_q); exact rfl; exact rfl; exact rfl; exact rfl) | ((with_reducible apply u_s0); exact rfl; exact rfl) | ((with_reducible apply u_s); exact rfl; exact rfl; exact rfl) | ((with_reducible apply u_skip); exact rfl; exact rfl; exact rfl) | ((with_reducible apply u_splitD); exact rfl; exact rfl; all_goals first | (intro hp; try (exfalso; omega)) | skip) | ((with_reducible apply u_splitN); exact rfl; exact rfl; all_goals first | (intro hp; try (exfalso; omega)) | skip) | ((with_reducible apply u_split); exact rfl; exact rfl; all_goals first | intro hp | skip))
            | ((with_reducible apply gx_id); first | ((with_reducible apply v_nil)) | ((with_reducible apply v_q); exact rfl; exact rfl; exact rfl) | ((with_reducible apply v_skip); exact rfl; exact rfl; exact rfl) | ((with_reducible apply v_splitD); exact rfl; exact rfl; all_goals first | (intro hp; try (exfalso; omega)) | skip) | ((with_reducible apply v_splitN); exact rfl; exact rfl; all_goals first | (intro hp; try (exfalso; omega)) | skip) | ((with_reducible apply v_split); exact rfl; exact rfl; all_goals first | intro hp | skip))
            | ((with_reducible apply os_id); first | ((with_reducible apply os_storeM hA); exact rfl; exact rfl; exact rfl; (repeat (first | exact P0 | apply P1))) | ((with_reducible apply os_x); exact rfl) | ((with_reducible apply os_store); exact rfl; exact rfl; exact rfl; exact rfl) | ((with_reducible apply os_storeAgg); exact rfl; exact rfl; exact rfl; exact rfl; exact rfl))
            | ((with_reducible apply ox_id); first | ((with_reducible apply ox_alloc); exact rfl; intro _) | ((with_reducible apply ox_box); exact rfl; exact rfl; intro _) | ((with_reducible apply ox_boxAgg); exact rfl; intro _) | ((with_reducible apply ox_buildSlice1); exact rfl; exact rfl; exact rfl; exact rfl; exact rfl; exact rfl; intro _) | ((with_reducible apply ox_buildSlice2); exact rfl; exact rfl; exact rfl; exact rfl; exact rfl; exact rfl; intro _) | ((with_reducible apply ox_buildSlice); exact rfl; exact rfl; exact rfl; exact rfl))
            | ((with_reducible apply ai_id); first | ((with_reducible apply ai_q); exact rfl; exact rfl; exact rfl; exact rfl; exact rfl) | ((with_reducible apply ai_x); exact rfl; exact rfl; exact rfl; exact rfl; exact rfl) | ((with_reducible apply ai_s0); exact rfl; exact rfl; exact rfl; exact rfl) | ((with_reducible apply ai_n0); exact rfl; exact rfl; exact rfl) | ((with_reducible apply ai_s); exact rfl; exact rfl; exact rfl; exact rfl; exact rfl) | ((with_reducible apply ai_n); exact rfl; exact rfl; exact rfl; exact rfl) | ((with_reducible apply ai_skip); exact rfl; exact rfl; exact rfl; exact rfl) | ((with_reducible apply ai_splitD); exact rfl; exact rfl; exact rfl; all_goals first | (intro hp; try (exfalso; omega)) | skip) | ((with_reducible apply ai_splitN); exact rfl; exact rfl; exact rfl; all_goals first | (intro hp; try (exfalso; omega)) | skip) | ((with_reducible apply ai_split); exact rfl; exact rfl; exact rfl; all_goals first | intro hp | skip))
            | ((with_reducible apply al_keep); focus (repeat (first | exact HpSub.refl _ | (apply HpSub.cons; (repeat (first | exact P0 | apply P1))) | exact HpSub.nil)))
            | ((with_reducible apply rd_id); first | (apply rdM hA; (repeat (first | exact P0 | apply P1)); done) | (apply rdI hb1; (repeat (first | exact P0 | apply P1)); done) | (apply rdI hb0; (repeat (first | exact P0 | apply P1)); done) | (apply Rd.own; (repeat (first | exact P0 | apply P1)); exact rfl; done) | (apply Rd.old; (first | (with_reducible assumption) | exact c0 | exact c1 | exact c2 | exact c3 | exact c4 | exact c5 | exact c6 | exact c7 | exact c8 | exact d0 | exact d1 | exact d2 | exact d3 | exact d4 | exact d5); first | exact List.not_mem_nil | exact m0 | exact m1 | exact m2 | exact m3 | exact m4 | exact m5 | exact m6 | exact m7 | exact m8 | exact m9))
            | ((with_reducible apply t_id); first | ((with_reducible apply t_seq)) | (apply t_region; kernel_rfl) | (apply t_drawn; kernel_rfl; decide +kernel; try simp only [List.append_eq, List.cons_append, List.nil_append]) | ((with_reducible apply t_condT); exact rfl) | ((with_reducible apply t_condF); exact rfl) | ((with_reducible apply t_condD); exact rfl; all_goals first | (intro hp; try (exfalso; omega)) | skip) | ((with_reducible apply t_condN); exact rfl; all_goals first | (intro hp; try (exfalso; omega)) | skip) | ((with_reducible apply t_cond); exact rfl; all_goals first | intro hp | skip) | ((with_reducible apply t_ret)) | ((with_reducible apply t_skip)) | ((with_reducible apply t_exit)) | ((with_reducible apply t_block)))
            | with_reducible apply q_thenN
            | with_reducible apply q_thenR
            | with_reducible apply q_blockR
            | with_reducible apply q_blockN
            | with_reducible apply q_thenE
            | ((with_reducible apply q_blockE); exact rfl)
            | ((with_reducible apply q_blockO); exact rfl)
            | exact P0
            | ((with_reducible apply P1))
            | exact Rdn.zero
            | apply Rdn.succ
            | ((with_reducible apply Norm.nil); exact rfl)
            | ((with_reducible apply Norm.cons); exact rfl)
            | ((with_reducible apply end_ret))
            | ((with_reducible apply end_normal))
            | exact rvs_nil
            | ((with_reducible apply rvs_cons))
            | ((with_reducible apply rv_tmp); exact rfl)
            | ((with_reducible apply rv_cell); exact rfl; exact rfl)
            | ((with_reducible apply rv_cellAgg); exact rfl; exact rfl)
            | (apply t_mix (id := 14) [0, 1, 2, 3, 4, 5, 6, 7, 8, 9, 10, 11, 12, 13, 14, 15, 16, 17, 18, 19, 20, 21, 22] 1 #[false, false, false, false, false, false, false, false, false, false, false, false, false, false, false, false, false, false, false, false, false, false, false, true]; kernel_rfl; kernel_rfl; exact rfl)
            | ((with_reducible apply al_id); first | (apply al_done; decide +kernel) | (apply al_one 23; decide +kernel))
            | ((with_reducible apply ox_makeI (hk := app_ok41) (hz := info3)); exact rfl; exact rfl; omega; (unfold maxLen; omega); intro _)
            | ((with_reducible apply os_makeI (hk := app_ok41) (hz := info3)); exact rfl; exact rfl; omega; (unfold maxLen; omega); intro _)
            | exact Nat.le_of_ble_eq_true rfl
            | exact (rfl : (_ : Bool) = true)
            | omega
            | (intro _ _; with_reducible apply tl_id)
            | (intro _; with_reducible apply tl_id)
            | (intro _ _; with_reducible apply al_id)
            | (intro _; with_reducible apply al_id))
          all_goals (refine ⟨0 + 1, by omega, by omega, ?_, ?_⟩)
          · try simp only [List.cons_append, List.nil_append]
            (repeat (first | exact FrSub.nil | (apply FrSub.cons; exact rfl)))
          · try simp only [List.cons_append, List.nil_append]
            (repeat (first | exact HpSub.refl _ | (apply HpSub.consE; (repeat (first | exact P0 | apply P1)); first | exact rfl | (exact fill_close hnx)) | exact HpSub.nil))
        · have hnx : (nxV ev gr flv x row) 0 = y0 := by unfold nxV; rw [hC, if_neg hlate]
          repeat' (first
            | ((with_reducible apply oq_id); first | (focus ((with_reducible apply oq_indexAddrN); exact rfl; exact rfl; exact rfl; exact rfl; omega)) | ((with_reducible apply oq_subE (k := flv)); exact rfl; exact rfl; omega) | ((with_reducible apply oq_subE (k := (k : Int))); exact rfl; exact rfl; omega) | ((with_reducible apply oq_subE (k := (i : Int))); exact rfl; exact rfl; omega) | ((with_reducible apply oq_addE (k := ((i + 1 + 1 : Nat) : Int))); exact rfl; exact rfl; omega) | ((with_reducible apply oq_addE (k := fl2)); exact rfl; exact rfl; omega) | (apply oq_fn; exact rfl; first | exact trivial | (refine ⟨?_, ?_⟩ <;> omega) | (refine ⟨?_, ?_, ?_⟩ <;> omega) | omega | skip) | ((with_reducible apply oq_load); exact rfl; exact rfl) | ((with_reducible apply oq_loadAgg); exact rfl; exact rfl) | ((with_reducible apply oq_build); exact rfl; exact rfl; exact rfl) | ((with_reducible apply oq_buildA); exact rfl; exact rfl; exact rfl; exact rfl) | ((with_reducible apply oq_fieldAgg); exact rfl; exact rfl; exact rfl) | ((with_reducible apply oq_indexAgg); exact rfl; exact rfl; exact rfl; exact rfl))
            | ((with_reducible apply tl_id); first | ((with_reducible apply tl_nil)) | ((with_reducible apply u_q); exact rfl; exact rfl; exact rfl; exact rfl) | ((with_reducible apply u_s0); exact rfl; exact rfl) | ((with_reducible apply u_s); exact rfl; exact rfl; exact rfl) | ((with_reducible apply u_skip); exact rfl; exact rfl; exact rfl) | ((with_reducible apply u_splitD); exact rfl; exact rfl; all_goals first | (intro hp; try (exfalso; omega)) | skip) | ((with_reducible apply u_splitN); exact rfl; exact rfl; all_goals first | (intro hp; try (exfalso; omega)) | skip) | ((with_reducible apply u_split); exact rfl; exact rfl; all_goals first | intro hp | skip))
            | ((with_reducible apply gx_id); first | ((with_reducible apply v_nil)) | ((with_reducible apply v_q); exact rfl; exact rfl; exact rfl) | ((with_reducible apply v_skip); exact rfl; exact rfl; exact rfl) | ((with_reducible apply v_splitD); exact rfl; exact rfl; all_goals first | (intro hp; try (exfalso; omega)) | skip) | ((with_reducible apply v_splitN); exact rfl; exact rfl; all_goals first | (intro hp; try (exfalso; omega)) | skip) | ((with_reducible apply v_split); exact rfl; exact rfl; all_goals first | intro hp | skip))
            | ((with_reducible apply os_id); first | ((with_reducible apply os_storeM hA); exact rfl; exact rfl; exact rfl; (repeat (first | exact P0 | apply P1))) | ((with_reducible apply os_x); exact rfl) | ((with_reducible apply os_store); exact rfl; exact rfl; exact rfl; exact rfl) | ((with_reducible apply os_storeAgg); exact rfl; exact rfl; exact rfl; exact rfl; exact rfl))
            | ((with_reducible apply ox_id); first | ((with_reducible apply ox_alloc); exact rfl; intro _) | ((with_reducible apply ox_box); exact rfl; exact rfl; intro _) | ((with_reducible apply ox_boxAgg); exact rfl; intro _) | ((with_reducible apply ox_buildSlice1); exact rfl; exact rfl; exact rfl; exact rfl; exact rfl; exact rfl; intro _) | ((with_reducible apply ox_buildSlice2); exact rfl; exact rfl; exact rfl; exact rfl; exact rfl; exact rfl; intro _) | ((with_reducible apply ox_buildSlice); exact rfl; exact rfl; exact rfl; exact rfl))
            | ((with_reducible apply ai_id); first | ((with_reducible apply ai_q); exact rfl; exact rfl; exact rfl; exact rfl; exact rfl) | ((with_reducible apply ai_x); exact rfl; exact rfl; exact rfl; exact rfl; exact rfl) | ((with_reducible apply ai_s0); exact rfl; exact rfl; exact rfl; exact rfl) | ((with_reducible apply ai_n0); exact rfl; exact rfl; exact rfl) | ((with_reducible apply ai_s); exact rfl; exact rfl; exact rfl; exact rfl; exact rfl) | ((with_reducible apply ai_n); exact rfl; exact rfl; exact rfl; exact rfl) | ((with_reducible apply ai_skip); exact rfl; exact rfl; exact rfl; exact rfl) | ((with_reducible apply ai_splitD); exact rfl; exact rfl; exact rfl; all_goals first | (intro hp; try (exfalso; omega)) | skip) | ((with_reducible apply ai_splitN); exact rfl; exact rfl; exact rfl; all_goals first | (intro hp; try (exfalso; omega)) | skip) | ((with_reducible apply ai_split); exact rfl; exact rfl; exact rfl; all_goals first | intro hp | skip))
            | ((with_reducible apply al_keep); focus (repeat (first | exact HpSub.refl _ | (apply HpSub.cons; (repeat (first | exact P0 | apply P1))) | exact HpSub.nil)))
            | ((with_reducible apply rd_id); first | (apply rdM hA; (repeat (first | exact P0 | apply P1)); done) | (apply rdI hb1; (repeat (first | exact P0 | apply P1)); done) | (apply rdI hb0; (repeat (first | exact P0 | apply P1)); done) | (apply Rd.own; (repeat (first | exact P0 | apply P1)); exact rfl; done) | (apply Rd.old; (first | (with_reducible assumption) | exact c0 | exact c1 | exact c2 | exact c3 | exact c4 | exact c5 | exact c6 | exact c7 | exact c8 | exact d0 | exact d1 | exact d2 | exact d3 | exact d4 | exact d5); first | exact List.not_mem_nil | exact m0 | exact m1 | exact m2 | exact m3 | exact m4 | exact m5 | exact m6 | exact m7 | exact m8 | exact m9))
            | ((with_reducible apply t_id); first | ((with_reducible apply t_seq)) | (apply t_region; kernel_rfl) | (apply t_drawn; kernel_rfl; decide +kernel; try simp only [List.append_eq, List.cons_append, List.nil_append]) | ((with_reducible apply t_condT); exact rfl) | ((with_reducible apply t_condF); exact rfl) | ((with_reducible apply t_condD); exact rfl; all_goals first | (intro hp; try (exfalso; omega)) | skip) | ((with_reducible apply t_condN); exact rfl; all_goals first | (intro hp; try (exfalso; omega)) | skip) | ((with_reducible apply t_cond); exact rfl; all_goals first | intro hp | skip) | ((with_reducible apply t_ret)) | ((with_reducible apply t_skip)) | ((with_reducible apply t_exit)) | ((with_reducible apply t_block)))
            | with_reducible apply q_thenN
            | with_reducible apply q_thenR
            | with_reducible apply q_blockR
            | with_reducible apply q_blockN
            | with_reducible apply q_thenE
            | ((with_reducible apply q_blockE); exact rfl)
            | ((with_reducible apply q_blockO); exact rfl)
            | exact P0
            | ((with_reducible apply P1))
            | exact Rdn.zero
            | apply Rdn.succ
            | ((with_reducible apply Norm.nil); exact rfl)
            | ((with_reducible apply Norm.cons); exact rfl)
            | ((with_reducible apply end_ret))
            | ((with_reducible apply end_normal))
            | exact rvs_nil
            | ((with_reducible apply rvs_cons))
            | ((with_reducible apply rv_tmp); exact rfl)
            | ((with_reducible apply rv_cell); exact rfl; exact rfl)
            | ((with_reducible apply rv_cellAgg); exact rfl; exact rfl)
            | (apply t_mix (id := 14) [0, 1, 2, 3, 4, 5, 6, 7, 8, 9, 10, 11, 12, 13, 14, 15, 16, 17, 18, 19, 20, 21, 22] 1 #[false, false, false, false, false, false, false, false, false, false, false, false, false, false, false, false, false, false, false, false, false, false, false, true]; kernel_rfl; kernel_rfl; exact rfl)
            | ((with_reducible apply al_id); first | (apply al_done; decide +kernel) | (apply al_one 23; decide +kernel))
            | ((with_reducible apply ox_makeI (hk := app_ok41) (hz := info3)); exact rfl; exact rfl; omega; (unfold maxLen; omega); intro _)
            | ((with_reducible apply os_makeI (hk := app_ok41) (hz := info3)); exact rfl; exact rfl; omega; (unfold maxLen; omega); intro _)
            | exact Nat.le_of_ble_eq_true rfl
            | exact (rfl : (_ : Bool) = true)
            | omega
            | (intro _ _; with_reducible apply tl_id)
            | (intro _; with_reducible apply tl_id)
            | (intro _ _; with_reducible apply al_id)
            | (intro _; with_reducible apply al_id))
          all_goals (refine ⟨0 + 1, by omega, by omega, ?_, ?_⟩)
          · try simp only [List.cons_append, List.nil_append]
            (repeat (first | exact FrSub.nil | (apply FrSub.cons; exact rfl)))
          · try simp only [List.cons_append, List.nil_append]
            (repeat (first | exact HpSub.refl _ | (apply HpSub.consE; (repeat (first | exact P0 | apply P1)); first | exact rfl | (exact fill_close hnx)) | exact HpSub.nil))
      | succ k =>
        obtain ⟨y0, hb0⟩ : ∃ y, row[k]? = some y := ⟨_, List.getElem?_eq_getElem (by omega)⟩
        have hy0 := hok y0 (List.mem_of_getElem? hb0)
        by_cases hin : k + 1 < i + 1
        · obtain ⟨y1, hb1⟩ : ∃ y, row[k + 1]? = some y := ⟨_, List.getElem?_eq_getElem (by omega)⟩
          have hy1 := hok y1 (List.mem_of_getElem? hb1)
          have hC := nxC_in (ev := ev) (fl := flv) hb1 hb0
          by_cases hv : -never < y0
          · rw [if_pos hv] at hC
            by_cases hlate : max y1 (min flv y0 + ev) + gr < flv + x
            · have hnx : (nxV ev gr flv x row) (k + 1) = -1099511627776 := by unfold nxV; rw [hC, if_pos hlate]; rfl
              repeat' (first
                | ((with_reducible apply oq_id); first | (focus ((with_reducible apply oq_indexAddrN); exact rfl; exact rfl; exact rfl; exact rfl; omega)) | ((with_reducible apply oq_subE (k := flv)); exact rfl; exact rfl; omega) | ((with_reducible apply oq_subE (k := (k : Int))); exact rfl; exact rfl; omega) | ((with_reducible apply oq_subE (k := (i : Int))); exact rfl; exact rfl; omega) | ((with_reducible apply oq_addE (k := ((i + 1 + 1 : Nat) : Int))); exact rfl; exact rfl; omega) | ((with_reducible apply oq_addE (k := fl2)); exact rfl; exact rfl; omega) | (apply oq_fn; exact rfl; first | exact trivial | (refine ⟨?_, ?_⟩ <;> omega) | (refine ⟨?_, ?_, ?_⟩ <;> omega) | omega | skip) | ((with_reducible apply oq_load); exact rfl; exact rfl) | ((with_reducible apply oq_loadAgg); exact rfl; exact rfl) | ((with_reducible apply oq_build); exact rfl; exact rfl; exact rfl) | ((with_reducible apply oq_buildA); exact rfl; exact rfl; exact rfl; exact rfl) | ((with_reducible apply oq_fieldAgg); exact rfl; exact rfl; exact rfl) | ((with_reducible apply oq_indexAgg); exact rfl; exact rfl; exact rfl; exact rfl))
                | ((with_reducible apply tl_id); first | ((with_reducible apply tl_nil)) | ((with_reducible apply u_q); exact rfl; exact rfl; exact rfl; exact rfl) | ((with_reducible apply u_s0); exact rfl; exact rfl) | ((with_reducible apply u_s); exact rfl; exact rfl; exact rfl) | ((with_reducible apply u_skip); exact rfl; exact rfl; exact rfl) | ((with_reducible apply u_splitD); exact rfl; exact rfl; all_goals first | (intro hp; try (exfalso; omega)) | skip) | ((with_reducible apply u_splitN); exact rfl; exact rfl; all_goals first | (intro hp; try (exfalso; omega)) | skip) | ((with_reducible apply u_split); exact rfl; exact rfl; all_goals first | intro hp | skip))
                | ((with_reducible apply gx_id); first | ((with_reducible apply v_nil)) | ((with_reducible apply v_q); exact rfl; exact rfl; exact rfl) | ((with_reducible apply v_skip); exact rfl; exact rfl; exact rfl) | ((with_reducible apply v_splitD); exact rfl; exact rfl; all_goals first | (intro hp; try (exfalso; omega)) | skip) | ((with_reducible apply v_splitN); exact rfl; exact rfl; all_goals first | (intro hp; try (exfalso; omega)) | skip) | ((with_reducible apply v_split); exact rfl; exact rfl; all_goals first | intro hp | skip))
                | ((with_reducible apply os_id); first | ((with_reducible apply os_storeM hA); exact rfl; exact rfl; exact rfl; (repeat (first | exact P0 | apply P1))) | ((with_reducible apply os_x); exact rfl) | ((with_reducible apply os_store); exact rfl; exact rfl; exact rfl; exact rfl) | ((with_reducible apply os_storeAgg); exact rfl; exact rfl; exact rfl; exact rfl; exact rfl))
                | ((with_reducible apply ox_id); first | ((with_reducible apply ox_alloc); exact rfl; intro _) | ((with_reducible apply ox_box); exact rfl; exact rfl; intro _) | ((with_reducible apply ox_boxAgg); exact rfl; intro _) | ((with_reducible apply ox_buildSlice1); exact rfl; exact rfl; exact rfl; exact rfl; exact rfl; exact rfl; intro _) | ((with_reducible apply ox_buildSlice2); exact rfl; exact rfl; exact rfl; exact rfl; exact rfl; exact rfl; intro _) | ((with_reducible apply ox_buildSlice); exact rfl; exact rfl; exact rfl; exact rfl))
                | ((with_reducible apply ai_id); first | ((with_reducible apply ai_q); exact rfl; exact rfl; exact rfl; exact rfl; exact rfl) | ((with_reducible apply ai_x); exact rfl; exact rfl; exact rfl; exact rfl; exact rfl) | ((with_reducible apply ai_s0); exact rfl; exact rfl; exact rfl; exact rfl) | ((with_reducible apply ai_n0); exact rfl; exact rfl; exact rfl) | ((with_reducible apply ai_s); exact rfl; exact rfl; exact rfl; exact rfl; exact rfl) | ((with_reducible apply ai_n); exact rfl; exact rfl; exact rfl; exact rfl) | ((with_reducible apply ai_skip); exact rfl; exact rfl; exact rfl; exact rfl) | ((with_reducible apply ai_splitD); exact rfl; exact rfl; exact rfl; all_goals first | (intro hp; try (exfalso; omega)) | skip) | ((with_reducible apply ai_splitN); exact rfl; exact rfl; exact rfl; all_goals first | (intro hp; try (exfalso; omega)) | skip) | ((with_reducible apply ai_split); exact rfl; exact rfl; exact rfl; all_goals first | intro hp | skip))
                | ((with_reducible apply al_keep); focus (repeat (first | exact HpSub.refl _ | (apply HpSub.cons; (repeat (first | exact P0 | apply P1))) | exact HpSub.nil)))
                | ((with_reducible apply rd_id); first | (apply rdM hA; (repeat (first | exact P0 | apply P1)); done) | (apply rdI hb1; (repeat (first | exact P0 | apply P1)); done) | (apply rdI hb0; (repeat (first | exact P0 | apply P1)); done) | (apply Rd.own; (repeat (first | exact P0 | apply P1)); exact rfl; done) | (apply Rd.old; (first | (with_reducible assumption) | exact c0 | exact c1 | exact c2 | exact c3 | exact c4 | exact c5 | exact c6 | exact c7 | exact c8 | exact d0 | exact d1 | exact d2 | exact d3 | exact d4 | exact d5); first | exact List.not_mem_nil | exact m0 | exact m1 | exact m2 | exact m3 | exact m4 | exact m5 | exact m6 | exact m7 | exact m8 | exact m9))
                | ((with_reducible apply t_id); first | ((with_reducible apply t_seq)) | (apply t_region; kernel_rfl) | (apply t_drawn; kernel_rfl; decide +kernel; try simp only [List.append_eq, List.cons_append, List.nil_append]) | ((with_reducible apply t_condT); exact rfl) | ((with_reducible apply t_condF); exact rfl) | ((with_reducible apply t_condD); exact rfl; all_goals first | (intro hp; try (exfalso; omega)) | skip) | ((with_reducible apply t_condN); exact rfl; all_goals first | (intro hp; try (exfalso; omega)) | skip) | ((with_reducible apply t_cond); exact rfl; all_goals first | intro hp | skip) | ((with_reducible apply t_ret)) | ((with_reducible apply t_skip)) | ((with_reducible apply t_exit)) | ((with_reducible apply t_block)))
                | with_reducible apply q_thenN
                | with_reducible apply q_thenR
                | with_reducible apply q_blockR
                | with_reducible apply q_blockN
                | with_reducible apply q_thenE
                | ((with_reducible apply q_blockE); exact rfl)
                | ((with_reducible apply q_blockO); exact rfl)
                | exact P0
                | ((with_reducible apply P1))
                | exact Rdn.zero
                | apply Rdn.succ
                | ((with_reducible apply Norm.nil); exact rfl)
                | ((with_reducible apply Norm.cons); exact rfl)
                | ((with_reducible apply end_ret))
                | ((with_reducible apply end_normal))
                | exact rvs_nil
                | ((with_reducible apply rvs_cons))
                | ((with_reducible apply rv_tmp); exact rfl)
                | ((with_reducible apply rv_cell); exact rfl; exact rfl)
                | ((with_reducible apply rv_cellAgg); exact rfl; exact rfl)
                | (apply t_mix (id := 14) [0, 1, 2, 3, 4, 5, 6, 7, 8, 9, 10, 11, 12, 13, 14, 15, 16, 17, 18, 19, 20, 21, 22] 1 #[false, false, false, false, false, false, false, false, false, false, false, false, false, false, false, false, false, false, false, false, false, false, false, true]; kernel_rfl; kernel_rfl; exact rfl)
                | ((with_reducible apply al_id); first | (apply al_done; decide +kernel) | (apply al_one 23; decide +kernel))
                | ((with_reducible apply ox_makeI (hk := app_ok41) (hz := info3)); exact rfl; exact rfl; omega; (unfold maxLen; omega); intro _)
                | ((with_reducible apply os_makeI (hk := app_ok41) (hz := info3)); exact rfl; exact rfl; omega; (unfold maxLen; omega); intro _)
                | exact Nat.le_of_ble_eq_true rfl
                | exact (rfl : (_ : Bool) = true)
                | omega
                | (intro _ _; with_reducible apply tl_id)
                | (intro _; with_reducible apply tl_id)
                | (intro _ _; with_reducible apply al_id)
                | (intro _; with_reducible apply al_id))
              all_goals (refine ⟨(k + 1) + 1, by omega, by omega, ?_, ?_⟩)
              · try simp only [List.cons_append, List.nil_append]
                (repeat (first | exact FrSub.nil | (apply FrSub.cons; exact rfl)))
              · try simp only [List.cons_append, List.nil_append]
                (repeat (first | exact HpSub.refl _ | (apply HpSub.consE; (repeat (first | exact P0 | apply P1)); first | exact rfl | (exact fill_close hnx)) | exact HpSub.nil))
            · have hnx : (nxV ev gr flv x row) (k + 1) = max y1 (min flv y0 + ev) := by unfold nxV; rw [hC, if_neg hlate]
              repeat' (first
                | ((with_reducible apply oq_id); first | (focus ((with_reducible apply oq_indexAddrN); exact rfl; exact rfl; exact rfl; exact rfl; omega)) | ((with_reducible apply oq_subE (k := flv)); exact rfl; exact rfl; omega) | ((with_reducible apply oq_subE (k := (k : Int))); exact rfl; exact rfl; omega) | ((with_reducible apply oq_subE (k := (i : Int))); exact rfl; exact rfl; omega) | ((with_reducible apply oq_addE (k := ((i + 1 + 1 : Nat) : Int))); exact rfl; exact rfl; omega) | ((with_reducible apply oq_addE (k := fl2)); exact rfl; exact rfl; omega) | (apply oq_fn; exact rfl; first | exact trivial | (refine ⟨?_, ?_⟩ <;> omega) | (refine ⟨?_, ?_, ?_⟩ <;> omega) | omega | skip) | ((with_reducible apply oq_load); exact rfl; exact rfl) | ((with_reducible apply oq_loadAgg); exact rfl; exact rfl) | ((with_reducible apply oq_build); exact rfl; exact rfl; exact rfl) | ((with_reducible apply oq_buildA); exact rfl; exact rfl; exact rfl; exact rfl) | ((with_reducible apply oq_fieldAgg); exact rfl; exact rfl; exact rfl) | ((with_reducible apply oq_indexAgg); exact rfl; exact rfl; exact rfl; exact rfl))
                | ((with_reducible apply tl_id); first | ((with_reducible apply tl_nil)) | ((with_reducible apply u_q); exact rfl; exact rfl; exact rfl; exact rfl) | ((with_reducible apply u_s0); exact rfl; exact rfl) | ((with_reducible apply u_s); exact rfl; exact rfl; exact rfl) | ((with_reducible apply u_skip); exact rfl; exact rfl; exact rfl) | ((with_reducible apply u_splitD); exact rfl; exact rfl; all_goals first | (intro hp; try (exfalso; omega)) | skip) | ((with_reducible apply u_splitN); exact rfl; exact rfl; all_goals first | (intro hp; try (exfalso; omega)) | skip) | ((with_reducible apply u_split); exact rfl; exact rfl; all_goals first | intro hp | skip))
                | ((with_reducible apply gx_id); first | ((with_reducible apply v_nil)) | ((with_reducible apply v_q); exact rfl; exact rfl; exact rfl) | ((with_reducible apply v_skip); exact rfl; exact rfl; exact rfl) | ((with_reducible apply v_splitD); exact rfl; exact rfl; all_goals first | (intro hp; try (exfalso; omega)) | skip) | ((with_reducible apply v_splitN); exact rfl; exact rfl; all_goals first | (intro hp; try (exfalso; omega)) | skip) | ((with_reducible apply v_split); exact rfl; exact rfl; all_goals first | intro hp | skip))
                | ((with_reducible apply os_id); first | ((with_reducible apply os_storeM hA); exact rfl; exact rfl; exact rfl; (repeat (first | exact P0 | apply P1))) | ((with_reducible apply os_x); exact rfl) | ((with_reducible apply os_store); exact rfl; exact rfl; exact rfl; exact rfl) | ((with_reducible apply os_storeAgg); exact rfl; exact rfl; exact rfl; exact rfl; exact rfl))
                | ((with_reducible apply ox_id); first | ((with_reducible apply ox_alloc); exact rfl; intro _) | ((with_reducible apply ox_box); exact rfl; exact rfl; intro _) | ((with_reducible apply ox_boxAgg); exact rfl; intro _) | ((with_reducible apply ox_buildSlice1); exact rfl; exact rfl; exact rfl; exact rfl; exact rfl; exact rfl; intro _) | ((with_reducible apply ox_buildSlice2); exact rfl; exact rfl; exact rfl; exact rfl; exact rfl; exact rfl; intro _) | ((with_reducible apply ox_buildSlice); exact rfl; exact rfl; exact rfl; exact rfl))
                | ((with_reducible apply ai_id); first | ((with_reducible apply ai_q); exact rfl; exact rfl; exact rfl; exact rfl; exact rfl) | ((with_reducible apply ai_x); exact rfl; exact rfl; exact rfl; exact rfl; exact rfl) | ((with_reducible apply ai_s0); exact rfl; exact rfl; exact rfl; exact rfl) | ((with_reducible apply ai_n0); exact rfl; exact rfl; exact rfl) | ((with_reducible apply ai_s); exact rfl; exact rfl; exact rfl; exact rfl; exact rfl) | ((with_reducible apply ai_n); exact rfl; exact rfl; exact rfl; exact rfl) | ((with_reducible apply ai_skip); exact rfl; exact rfl; exact rfl; exact rfl) | ((with_reducible apply ai_splitD); exact rfl; exact rfl; exact rfl; all_goals first | (intro hp; try (exfalso; omega)) | skip) | ((with_reducible apply ai_splitN); exact rfl; exact rfl; exact rfl; all_goals first | (intro hp; try (exfalso; omega)) | skip) | ((with_reducible apply ai_split); exact rfl; exact rfl; exact rfl; all_goals first | intro hp | skip))
                | ((with_reducible apply al_keep); focus (repeat (first | exact HpSub.refl _ | (apply HpSub.cons; (repeat (first | exact P0 | apply P1))) | exact HpSub.nil)))
                | ((with_reducible apply rd_id); first | (apply rdM hA; (repeat (first | exact P0 | apply P1)); done) | (apply rdI hb1; (repeat (first | exact P0 | apply P1)); done) | (apply rdI hb0; (repeat (first | exact P0 | apply P1)); done) | (apply Rd.own; (repeat (first | exact P0 | apply P1)); exact rfl; done) | (apply Rd.old; (first | (with_reducible assumption) | exact c0 | exact c1 | exact c2 | exact c3 | exact c4 | exact c5 | exact c6 | exact c7 | exact c8 | exact d0 | exact d1 | exact d2 | exact d3 | exact d4 | exact d5); first | exact List.not_mem_nil | exact m0 | exact m1 | exact m2 | exact m3 | exact m4 | exact m5 | exact m6 | exact m7 | exact m8 | exact m9))
                | ((with_reducible apply t_id); first | ((with_reducible apply t_seq)) | (apply t_region; kernel_rfl) | (apply t_drawn; kernel_rfl; decide +kernel; try simp only [List.append_eq, List.cons_append, List.nil_append]) | ((with_reducible apply t_condT); exact rfl) | ((with_reducible apply t_condF); exact rfl) | ((with_reducible apply t_condD); exact rfl; all_goals first | (intro hp; try (exfalso; omega)) | skip) | ((with_reducible apply t_condN); exact rfl; all_goals first | (intro hp; try (exfalso; omega)) | skip) | ((with_reducible apply t_cond); exact rfl; all_goals first | intro hp | skip) | ((with_reducible apply t_ret)) | ((with_reducible apply t_skip)) | ((with_reducible apply t_exit)) | ((with_reducible apply t_block)))
                | with_reducible apply q_thenN
                | with_reducible apply q_thenR
                | with_reducible apply q_blockR
                | with_reducible apply q_blockN
                | with_reducible apply q_thenE
                | ((with_reducible apply q_blockE); exact rfl)
                | ((with_reducible apply q_blockO); exact rfl)
                | exact P0
                | ((with_reducible apply P1))
                | exact Rdn.zero
                | apply Rdn.succ
                | ((with_reducible apply Norm.nil); exact rfl)
                | ((with_reducible apply Norm.cons); exact rfl)
                | ((with_reducible apply end_ret))
                | ((with_reducible apply end_normal))
                | exact rvs_nil
                | ((with_reducible apply rvs_cons))
                | ((with_reducible apply rv_tmp); exact rfl)
                | ((with_reducible apply rv_cell); exact rfl; exact rfl)
                | ((with_reducible apply rv_cellAgg); exact rfl; exact rfl)
                | (apply t_mix (id := 14) [0, 1, 2, 3, 4, 5, 6, 7, 8, 9, 10, 11, 12, 13, 14, 15, 16, 17, 18, 19, 20, 21, 22] 1 #[false, false, false, false, false, false, false, false, false, false, false, false, false, false, false, false, false, false, false, false, false, false, false, true]; kernel_rfl; kernel_rfl; exact rfl)
                | ((with_reducible apply al_id); first | (apply al_done; decide +kernel) | (apply al_one 23; decide +kernel))
                | ((with_reducible apply ox_makeI (hk := app_ok41) (hz := info3)); exact rfl; exact rfl; omega; (unfold maxLen; omega); intro _)
                | ((with_reducible apply os_makeI (hk := app_ok41) (hz := info3)); exact rfl; exact rfl; omega; (unfold maxLen; omega); intro _)
                | exact Nat.le_of_ble_eq_true rfl
                | exact (rfl : (_ : Bool) = true)
                | omega
                | (intro _ _; with_reducible apply tl_id)
                | (intro _; with_reducible apply tl_id)
                | (intro _ _; with_reducible apply al_id)
                | (intro _; with_reducible apply al_id))
              all_goals (refine ⟨(k + 1) + 1, by omega, by omega, ?_, ?_⟩)
              · try simp only [List.cons_append, List.nil_append]
                (repeat (first | exact FrSub.nil | (apply FrSub.cons; exact rfl)))
              · try simp only [List.cons_append, List.nil_append]
                (repeat (first | exact HpSub.refl _ | (apply HpSub.consE; (repeat (first | exact P0 | apply P1)); first | exact rfl | (exact fill_close hnx)) | exact HpSub.nil))
          · rw [if_neg hv] at hC
            by_cases hlate : y1 + gr < flv + x
            · have hnx : (nxV ev gr flv x row) (k + 1) = -1099511627776 := by unfold nxV; rw [hC, if_pos hlate]; rfl
              repeat' (first
                | ((with_reducible apply oq_id); first | (focus ((with_reducible apply oq_indexAddrN); exact rfl; exact rfl; exact rfl; exact rfl; omega)) | ((with_reducible apply oq_subE (k := flv)); exact rfl; exact rfl; omega) | ((with_reducible apply oq_subE (k := (k : Int))); exact rfl; exact rfl; omega) | ((with_reducible apply oq_subE (k := (i : Int))); exact rfl; exact rfl; omega) | ((with_reducible apply oq_addE (k := ((i + 1 + 1 : Nat) : Int))); exact rfl; exact rfl; omega) | ((with_reducible apply oq_addE (k := fl2)); exact rfl; exact rfl; omega) | (apply oq_fn; exact rfl; first | exact trivial | (refine ⟨?_, ?_⟩ <;> omega) | (refine ⟨?_, ?_, ?_⟩ <;> omega) | omega | skip) | ((with_reducible apply oq_load); exact rfl; exact rfl) | ((with_reducible apply oq_loadAgg); exact rfl; exact rfl) | ((with_reducible apply oq_build); exact rfl; exact rfl; exact rfl) | ((with_reducible apply oq_buildA); exact rfl; exact rfl; exact rfl; exact rfl) | ((with_reducible apply oq_fieldAgg); exact rfl; exact rfl; exact rfl) | ((with_reducible apply oq_indexAgg); exact rfl; exact rfl; exact rfl; exact rfl))
                | ((with_reducible apply tl_id); first | ((with_reducible apply tl_nil)) | ((with_reducible apply u_q); exact rfl; exact rfl; exact rfl; exact rfl) | ((with_reducible apply u_s0); exact rfl; exact rfl) | ((with_reducible apply u_s); exact rfl; exact rfl; exact rfl) | ((with_reducible apply u_skip); exact rfl; exact rfl; exact rfl) | ((with_reducible apply u_splitD); exact rfl; exact rfl; all_goals first | (intro hp; try (exfalso; omega)) | skip) | ((with_reducible apply u_splitN); exact rfl; exact rfl; all_goals first | (intro hp; try (exfalso; omega)) | skip) | ((with_reducible apply u_split); exact rfl; exact rfl; all_goals first | intro hp | skip))
                | ((with_reducible apply gx_id); first | ((with_reducible apply v_nil)) | ((with_reducible apply v_q); exact rfl; exact rfl; exact rfl) | ((with_reducible apply v_skip); exact rfl; exact rfl; exact rfl) | ((with_reducible apply v_splitD); exact rfl; exact rfl; all_goals first | (intro hp; try (exfalso; omega)) | skip) | ((with_reducible apply v_splitN); exact rfl; exact rfl; all_goals first | (intro hp; try (exfalso; omega)) | skip) | ((with_reducible apply v_split); exact rfl; exact rfl; all_goals first | intro hp | skip))
                | ((with_reducible apply os_id); first | ((with_reducible apply os_storeM hA); exact rfl; exact rfl; exact rfl; (repeat (first | exact P0 | apply P1))) | ((with_reducible apply os_x); exact rfl) | ((with_reducible apply os_store); exact rfl; exact rfl; exact rfl; exact rfl) | ((with_reducible apply os_storeAgg); exact rfl; exact rfl; exact rfl; exact rfl; exact rfl))
                | ((with_reducible apply ox_id); first | ((with_reducible apply ox_alloc); exact rfl; intro _) | ((with_reducible apply ox_box); exact rfl; exact rfl; intro _) | ((with_reducible apply ox_boxAgg); exact rfl; intro _) | ((with_reducible apply ox_buildSlice1); exact rfl; exact rfl; exact rfl; exact rfl; exact rfl; exact rfl; intro _) | ((with_reducible apply ox_buildSlice2); exact rfl; exact rfl; exact rfl; exact rfl; exact rfl; exact rfl; intro _) | ((with_reducible apply ox_buildSlice); exact rfl; exact rfl; exact rfl; exact rfl))
                | ((with_reducible apply ai_id); first | ((with_reducible apply ai_q); exact rfl; exact rfl; exact rfl; exact rfl; exact rfl) | ((with_reducible apply ai_x); exact rfl; exact rfl; exact rfl; exact rfl; exact rfl) | ((with_reducible apply ai_s0); exact rfl; exact rfl; exact rfl; exact rfl) | ((with_reducible apply ai_n0); exact rfl; exact rfl; exact rfl) | ((with_reducible apply ai_s); exact rfl; exact rfl; exact rfl; exact rfl; exact rfl) | ((with_reducible apply ai_n); exact rfl; exact rfl; exact rfl; exact rfl) | ((with_reducible apply ai_skip); exact rfl; exact rfl; exact rfl; exact rfl) | ((with_reducible apply ai_splitD); exact rfl; exact rfl; exact rfl; all_goals first | (intro hp; try (exfalso; omega)) | skip) | ((with_reducible apply ai_splitN); exact rfl; exact rfl; exact rfl; all_goals first | (intro hp; try (exfalso; omega)) | skip) | ((with_reducible apply ai_split); exact rfl; exact rfl; exact rfl; all_goals first | intro hp | skip))
                | ((with_reducible apply al_keep); focus (repeat (first | exact HpSub.refl _ | (apply HpSub.cons; (repeat (first | exact P0 | apply P1))) | exact HpSub.nil)))
                | ((with_reducible apply rd_id); first | (apply rdM hA; (repeat (first | exact P0 | apply P1)); done) | (apply rdI hb1; (repeat (first | exact P0 | apply P1)); done) | (apply rdI hb0; (repeat (first | exact P0 | apply P1)); done) | (apply Rd.own; (repeat (first | exact P0 | apply P1)); exact rfl; done) | (apply Rd.old; (first | (with_reducible assumption) | exact c0 | exact c1 | exact c2 | exact c3 | exact c4 | exact c5 | exact c6 | exact c7 | exact c8 | exact d0 | exact d1 | exact d2 | exact d3 | exact d4 | exact d5); first | exact List.not_mem_nil | exact m0 | exact m1 | exact m2 | exact m3 | exact m4 | exact m5 | exact m6 | exact m7 | exact m8 | exact m9))
                | ((with_reducible apply t_id); first | ((with_reducible apply t_seq)) | (apply t_region; kernel_rfl) | (apply t_drawn; kernel_rfl; decide +kernel; try simp only [List.append_eq, List.cons_append, List.nil_append]) | ((with_reducible apply t_condT); exact rfl) | ((with_reducible apply t_condF); exact rfl) | ((with_reducible apply t_condD); exact rfl; all_goals first | (intro hp; try (exfalso; omega)) | skip) | ((with_reducible apply t_condN); exact rfl; all_goals first | (intro hp; try (exfalso; omega)) | skip) | ((with_reducible apply t_cond); exact rfl; all_goals first | intro hp | skip) | ((with_reducible apply t_ret)) | ((with_reducible apply t_skip)) | ((with_reducible apply t_exit)) | ((with_reducible apply t_block)))
                | with_reducible apply q_thenN
                | with_reducible apply q_thenR
                | with_reducible apply q_blockR
                | with_reducible apply q_blockN
                | with_reducible apply q_thenE
                | ((with_reducible apply q_blockE); exact rfl)
                | ((with_reducible apply q_blockO); exact rfl)
                | exact P0
                | ((with_reducible apply P1))
                | exact Rdn.zero
                | apply Rdn.succ
                | ((with_reducible apply Norm.nil); exact rfl)
                | ((with_reducible apply Norm.cons); exact rfl)
                | ((with_reducible apply end_ret))
                | ((with_reducible apply end_normal))
                | exact rvs_nil
                | ((with_reducible apply rvs_cons))
                | ((with_reducible apply rv_tmp); exact rfl)
                | ((with_reducible apply rv_cell); exact rfl; exact rfl)
                | ((with_reducible apply rv_cellAgg); exact rfl; exact rfl)
                | (apply t_mix (id := 14) [0, 1, 2, 3, 4, 5, 6, 7, 8, 9, 10, 11, 12, 13, 14, 15, 16, 17, 18, 19, 20, 21, 22] 1 #[false, false, false, false, false, false, false, false, false, false, false, false, false, false, false, false, false, false, false, false, false, false, false, true]; kernel_rfl; kernel_rfl; exact rfl)
                | ((with_reducible apply al_id); first | (apply al_done; decide +kernel) | (apply al_one 23; decide +kernel))
                | ((with_reducible apply ox_makeI (hk := app_ok41) (hz := info3)); exact rfl; exact rfl; omega; (unfold maxLen; omega); intro _)
                | ((with_reducible apply os_makeI (hk := app_ok41) (hz := info3)); exact rfl; exact rfl; omega; (unfold maxLen; omega); intro _)
                | exact Nat.le_of_ble_eq_true rfl
                | exact (rfl : (_ : Bool) = true)
                | omega
                | (intro _ _; with_reducible apply tl_id)
                | (intro _; with_reducible apply tl_id)
                | (intro _ _; with_reducible apply al_id)
                | (intro _; with_reducible apply al_id))
              all_goals (refine ⟨(k + 1) + 1, by omega, by omega, ?_, ?_⟩)
              · try simp only [List.cons_append, List.nil_append]
                (repeat (first | exact FrSub.nil | (apply FrSub.cons; exact rfl)))
              · try simp only [List.cons_append, List.nil_append]
                (repeat (first | exact HpSub.refl _ | (apply HpSub.consE; (repeat (first | exact P0 | apply P1)); first | exact rfl | (exact fill_close hnx)) | exact HpSub.nil))
            · have hnx : (nxV ev gr flv x row) (k + 1) = y1 := by unfold nxV; rw [hC, if_neg hlate]
              repeat' (first
                | ((with_reducible apply oq_id); first | (focus ((with_reducible apply oq_indexAddrN); exact rfl; exact rfl; exact rfl; exact rfl; omega)) | ((with_reducible apply oq_subE (k := flv)); exact rfl; exact rfl; omega) | ((with_reducible apply oq_subE (k := (k : Int))); exact rfl; exact rfl; omega) | ((with_reducible apply oq_subE (k := (i : Int))); exact rfl; exact rfl; omega) | ((with_reducible apply oq_addE (k := ((i + 1 + 1 : Nat) : Int))); exact rfl; exact rfl; omega) | ((with_reducible apply oq_addE (k := fl2)); exact rfl; exact rfl; omega) | (apply oq_fn; exact rfl; first | exact trivial | (refine ⟨?_, ?_⟩ <;> omega) | (refine ⟨?_, ?_, ?_⟩ <;> omega) | omega | skip) | ((with_reducible apply oq_load); exact rfl; exact rfl) | ((with_reducible apply oq_loadAgg); exact rfl; exact rfl) | ((with_reducible apply oq_build); exact rfl; exact rfl; exact rfl) | ((with_reducible apply oq_buildA); exact rfl; exact rfl; exact rfl; exact rfl) | ((with_reducible apply oq_fieldAgg); exact rfl; exact rfl; exact rfl) | ((with_reducible apply oq_indexAgg); exact rfl; exact rfl; exact rfl; exact rfl))
                | ((with_reducible apply tl_id); first | ((with_reducible apply tl_nil)) | ((with_reducible apply u_q); exact rfl; exact rfl; exact rfl; exact rfl) | ((with_reducible apply u_s0); exact rfl; exact rfl) | ((with_reducible apply u_s); exact rfl; exact rfl; exact rfl) | ((with_reducible apply u_skip); exact rfl; exact rfl; exact rfl) | ((with_reducible apply u_splitD); exact rfl; exact rfl; all_goals first | (intro hp; try (exfalso; omega)) | skip) | ((with_reducible apply u_splitN); exact rfl; exact rfl; all_goals first | (intro hp; try (exfalso; omega)) | skip) | ((with_reducible apply u_split); exact rfl; exact rfl; all_goals first | intro hp | skip))
                | ((with_reducible apply gx_id); first | ((with_reducible apply v_nil)) | ((with_reducible apply v_q); exact rfl; exact rfl; exact rfl) | ((with_reducible apply v_skip); exact rfl; exact rfl; exact rfl) | ((with_reducible apply v_splitD); exact rfl; exact rfl; all_goals first | (intro hp; try (exfalso; omega)) | skip) | ((with_reducible apply v_splitN); exact rfl; exact rfl; all_goals first | (intro hp; try (exfalso; omega)) | skip) | ((with_reducible apply v_split); exact rfl; exact rfl; all_goals first | intro hp | skip))
                | ((with_reducible apply os_id); first | ((with_reducible apply os_storeM hA); exact rfl; exact rfl; exact rfl; (repeat (first | exact P0 | apply P1))) | ((with_reducible apply os_x); exact rfl) | ((with_reducible apply os_store); exact rfl; exact rfl; exact rfl; exact rfl) | ((with_reducible apply os_storeAgg); exact rfl; exact rfl; exact rfl; exact rfl; exact rfl))
                | ((with_reducible apply ox_id); first | ((with_reducible apply ox_alloc); exact rfl; intro _) | ((with_reducible apply ox_box); exact rfl; exact rfl; intro _) | ((with_reducible apply ox_boxAgg); exact rfl; intro _) | ((with_reducible apply ox_buildSlice1); exact rfl; exact rfl; exact rfl; exact rfl; exact rfl; exact rfl; intro _) | ((with_reducible apply ox_buildSlice2); exact rfl; exact rfl; exact rfl; exact rfl; exact rfl; exact rfl; intro _) | ((with_reducible apply ox_buildSlice); exact rfl; exact rfl; exact rfl; exact rfl))
                | ((with_reducible apply ai_id); first | ((with_reducible apply ai_q); exact rfl; exact rfl; exact rfl; exact rfl; exact rfl) | ((with_reducible apply ai_x); exact rfl; exact rfl; exact rfl; exact rfl; exact rfl) | ((with_reducible apply ai_s0); exact rfl; exact rfl; exact rfl; exact rfl) | ((with_reducible apply ai_n0); exact rfl; exact rfl; exact rfl) | ((with_reducible apply ai_s); exact rfl; exact rfl; exact rfl; exact rfl; exact rfl) | ((with_reducible apply ai_n); exact rfl; exact rfl; exact rfl; exact rfl) | ((with_reducible apply ai_skip); exact rfl; exact rfl; exact rfl; exact rfl) | ((with_reducible apply ai_splitD); exact rfl; exact rfl; exact rfl; all_goals first | (intro hp; try (exfalso; omega)) | skip) | ((with_reducible apply ai_splitN); exact rfl; exact rfl; exact rfl; all_goals first | (intro hp; try (exfalso; omega)) | skip) | ((with_reducible apply ai_split); exact rfl; exact rfl; exact rfl; all_goals first | intro hp | skip))
                | ((with_reducible apply al_keep); focus (repeat (first | exact HpSub.refl _ | (apply HpSub.cons; (repeat (first | exact P0 | apply P1))) | exact HpSub.nil)))
                | ((with_reducible apply rd_id); first | (apply rdM hA; (repeat (first | exact P0 | apply P1)); done) | (apply rdI hb1; (repeat (first | exact P0 | apply P1)); done) | (apply rdI hb0; (repeat (first | exact P0 | apply P1)); done) | (apply Rd.own; (repeat (first | exact P0 | apply P1)); exact rfl; done) | (apply Rd.old; (first | (with_reducible assumption) | exact c0 | exact c1 | exact c2 | exact c3 | exact c4 | exact c5 | exact c6 | exact c7 | exact c8 | exact d0 | exact d1 | exact d2 | exact d3 | exact d4 | exact d5); first | exact List.not_mem_nil | exact m0 | exact m1 | exact m2 | exact m3 | exact m4 | exact m5 | exact m6 | exact m7 | exact m8 | exact m9))
                | ((with_reducible apply t_id); first | ((with_reducible apply t_seq)) | (apply t_region; kernel_rfl) | (apply t_drawn; kernel_rfl; decide +kernel; try simp only [List.append_eq, List.cons_append, List.nil_append]) | ((with_reducible apply t_condT); exact rfl) | ((with_reducible apply t_condF); exact rfl) | ((with_reducible apply t_condD); exact rfl; all_goals first | (intro hp; try (exfalso; omega)) | skip) | ((with_reducible apply t_condN); exact rfl; all_goals first | (intro hp; try (exfalso; omega)) | skip) | ((with_reducible apply t_cond); exact rfl; all_goals first | intro hp | skip) | ((with_reducible apply t_ret)) | ((with_reducible apply t_skip)) | ((with_reducible apply t_exit)) | ((with_reducible apply t_block)))
                | with_reducible apply q_thenN
                | with_reducible apply q_thenR
                | with_reducible apply q_blockR
                | with_reducible apply q_blockN
                | with_reducible apply q_thenE
                | ((with_reducible apply q_blockE); exact rfl)
                | ((with_reducible apply q_blockO); exact rfl)
                | exact P0
                | ((with_reducible apply P1))
                | exact Rdn.zero
                | apply Rdn.succ
                | ((with_reducible apply Norm.nil); exact rfl)
                | ((with_reducible apply Norm.cons); exact rfl)
                | ((with_reducible apply end_ret))
                | ((with_reducible apply end_normal))
                | exact rvs_nil
                | ((with_reducible apply rvs_cons))
                | ((with_reducible apply rv_tmp); exact rfl)
                | ((with_reducible apply rv_cell); exact rfl; exact rfl)
                | ((with_reducible apply rv_cellAgg); exact rfl; exact rfl)
                | (apply t_mix (id := 14) [0, 1, 2, 3, 4, 5, 6, 7, 8, 9, 10, 11, 12, 13, 14, 15, 16, 17, 18, 19, 20, 21, 22] 1 #[false, false, false, false, false, false, false, false, false, false, false, false, false, false, false, false, false, false, false, false, false, false, false, true]; kernel_rfl; kernel_rfl; exact rfl)
                | ((with_reducible apply al_id); first | (apply al_done; decide +kernel) | (apply al_one 23; decide +kernel))
                | ((with_reducible apply ox_makeI (hk := app_ok41) (hz := info3)); exact rfl; exact rfl; omega; (unfold maxLen; omega); intro _)
                | ((with_reducible apply os_makeI (hk := app_ok41) (hz := info3)); exact rfl; exact rfl; omega; (unfold maxLen; omega); intro _)
                | exact Nat.le_of_ble_eq_true rfl
                | exact (rfl : (_ : Bool) = true)
                | omega
                | (intro _ _; with_reducible apply tl_id)
                | (intro _; with_reducible apply tl_id)
                | (intro _ _; with_reducible apply al_id)
                | (intro _; with_reducible apply al_id))
              all_goals (refine ⟨(k + 1) + 1, by omega, by omega, ?_, ?_⟩)
              · try simp only [List.cons_append, List.nil_append]
                (repeat (first | exact FrSub.nil | (apply FrSub.cons; exact rfl)))
              · try simp only [List.cons_append, List.nil_append]
                (repeat (first | exact HpSub.refl _ | (apply HpSub.consE; (repeat (first | exact P0 | apply P1)); first | exact rfl | (exact fill_close hnx)) | exact HpSub.nil))
        · obtain rfl : i = k := by omega
          have hC := nxC_end (ev := ev) (fl := flv) (show row.length = i + 1 by omega) hb0
          by_cases hv : -never < y0
          · rw [if_pos hv] at hC
            by_cases hlate : max (-never) (min flv y0 + ev) + gr < flv + x
            · have hnx : (nxV ev gr flv x row) (i + 1) = -1099511627776 := by unfold nxV; rw [hC, if_pos hlate]; rfl
              repeat' (first
                | ((with_reducible apply oq_id); first | (focus ((with_reducible apply oq_indexAddrN); exact rfl; exact rfl; exact rfl; exact rfl; omega)) | ((with_reducible apply oq_subE (k := flv)); exact rfl; exact rfl; omega) | ((with_reducible apply oq_subE (k := (k : Int))); exact rfl; exact rfl; omega) | ((with_reducible apply oq_subE (k := (i : Int))); exact rfl; exact rfl; omega) | ((with_reducible apply oq_addE (k := ((i + 1 + 1 : Nat) : Int))); exact rfl; exact rfl; omega) | ((with_reducible apply oq_addE (k := fl2)); exact rfl; exact rfl; omega) | (apply oq_fn; exact rfl; first | exact trivial | (refine ⟨?_, ?_⟩ <;> omega) | (refine ⟨?_, ?_, ?_⟩ <;> omega) | omega | skip) | ((with_reducible apply oq_load); exact rfl; exact rfl) | ((with_reducible apply oq_loadAgg); exact rfl; exact rfl) | ((with_reducible apply oq_build); exact rfl; exact rfl; exact rfl) | ((with_reducible apply oq_buildA); exact rfl; exact rfl; exact rfl; exact rfl) | ((with_reducible apply oq_fieldAgg); exact rfl; exact rfl; exact rfl) | ((with_reducible apply oq_indexAgg); exact rfl; exact rfl; exact rfl; exact rfl))
                | ((with_reducible apply tl_id); first | ((with_reducible apply tl_nil)) | ((with_reducible apply u_q); exact rfl; exact rfl; exact rfl; exact rfl) | ((with_reducible apply u_s0); exact rfl; exact rfl) | ((with_reducible apply u_s); exact rfl; exact rfl; exact rfl) | ((with_reducible apply u_skip); exact rfl; exact rfl; exact rfl) | ((with_reducible apply u_splitD); exact rfl; exact rfl; all_goals first | (intro hp; try (exfalso; omega)) | skip) | ((with_reducible apply u_splitN); exact rfl; exact rfl; all_goals first | (intro hp; try (exfalso; omega)) | skip) | ((with_reducible apply u_split); exact rfl; exact rfl; all_goals first | intro hp | skip))
                | ((with_reducible apply gx_id); first | ((with_reducible apply v_nil)) | ((with_reducible apply v_q); exact rfl; exact rfl; exact rfl) | ((with_reducible apply v_skip); exact rfl; exact rfl; exact rfl) | ((with_reducible apply v_splitD); exact rfl; exact rfl; all_goals first | (intro hp; try (exfalso; omega)) | skip) | ((with_reducible apply v_splitN); exact rfl; exact rfl; all_goals first | (intro hp; try (exfalso; omega)) | skip) | ((with_reducible apply v_split); exact rfl; exact rfl; all_goals first | intro hp | skip))
                | ((with_reducible apply os_id); first | ((with_reducible apply os_storeM hA); exact rfl; exact rfl; exact rfl; (repeat (first | exact P0 | apply P1))) | ((with_reducible apply os_x); exact rfl) | ((with_reducible apply os_store); exact rfl; exact rfl; exact rfl; exact rfl) | ((with_reducible apply os_storeAgg); exact rfl; exact rfl; exact rfl; exact rfl; exact rfl))
                | ((with_reducible apply ox_id); first | ((with_reducible apply ox_alloc); exact rfl; intro _) | ((with_reducible apply ox_box); exact rfl; exact rfl; intro _) | ((with_reducible apply ox_boxAgg); exact rfl; intro _) | ((with_reducible apply ox_buildSlice1); exact rfl; exact rfl; exact rfl; exact rfl; exact rfl; exact rfl; intro _) | ((with_reducible apply ox_buildSlice2); exact rfl; exact rfl; exact rfl; exact rfl; exact rfl; exact rfl; intro _) | ((with_reducible apply ox_buildSlice); exact rfl; exact rfl; exact rfl; exact rfl))
                | ((with_reducible apply ai_id); first | ((with_reducible apply ai_q); exact rfl; exact rfl; exact rfl; exact rfl; exact rfl) | ((with_reducible apply ai_x); exact rfl; exact rfl; exact rfl; exact rfl; exact rfl) | ((with_reducible apply ai_s0); exact rfl; exact rfl; exact rfl; exact rfl) | ((with_reducible apply ai_n0); exact rfl; exact rfl; exact rfl) | ((with_reducible apply ai_s); exact rfl; exact rfl; exact rfl; exact rfl; exact rfl) | ((with_reducible apply ai_n); exact rfl; exact rfl; exact rfl; exact rfl) | ((with_reducible apply ai_skip); exact rfl; exact rfl; exact rfl; exact rfl) | ((with_reducible apply ai_splitD); exact rfl; exact rfl; exact rfl; all_goals first | (intro hp; try (exfalso; omega)) | skip) | ((with_reducible apply ai_splitN); exact rfl; exact rfl; exact rfl; all_goals first | (intro hp; try (exfalso; omega)) | skip) | ((with_reducible apply ai_split); exact rfl; exact rfl; exact rfl; all_goals first | intro hp | skip))
                | ((with_reducible apply al_keep); focus (repeat (first | exact HpSub.refl _ | (apply HpSub.cons; (repeat (first | exact P0 | apply P1))) | exact HpSub.nil)))
                | ((with_reducible apply rd_id); first | (apply rdM hA; (repeat (first | exact P0 | apply P1)); done) | (apply rdI hb1; (repeat (first | exact P0 | apply P1)); done) | (apply rdI hb0; (repeat (first | exact P0 | apply P1)); done) | (apply Rd.own; (repeat (first | exact P0 | apply P1)); exact rfl; done) | (apply Rd.old; (first | (with_reducible assumption) | exact c0 | exact c1 | exact c2 | exact c3 | exact c4 | exact c5 | exact c6 | exact c7 | exact c8 | exact d0 | exact d1 | exact d2 | exact d3 | exact d4 | exact d5); first | exact List.not_mem_nil | exact m0 | exact m1 | exact m2 | exact m3 | exact m4 | exact m5 | exact m6 | exact m7 | exact m8 | exact m9))
                | ((with_reducible apply t_id); first | ((with_reducible apply t_seq)) | (apply t_region; kernel_rfl) | (apply t_drawn; kernel_rfl; decide +kernel; try simp only [List.append_eq, List.cons_append, List.nil_append]) | ((with_reducible apply t_condT); exact rfl) | ((with_reducible apply t_condF); exact rfl) | ((with_reducible apply t_condD); exact rfl; all_goals first | (intro hp; try (exfalso; omega)) | skip) | ((with_reducible apply t_condN); exact rfl; all_goals first | (intro hp; try (exfalso; omega)) | skip) | ((with_reducible apply t_cond); exact rfl; all_goals first | intro hp | skip) | ((with_reducible apply t_ret)) | ((with_reducible apply t_skip)) | ((with_reducible apply t_exit)) | ((with_reducible apply t_block)))
                | with_reducible apply q_thenN
                | with_reducible apply q_thenR
                | with_reducible apply q_blockR
                | with_reducible apply q_blockN
                | with_reducible apply q_thenE
                | ((with_reducible apply q_blockE); exact rfl)
                | ((with_reducible apply q_blockO); exact rfl)
                | exact P0
                | ((with_reducible apply P1))
                | exact Rdn.zero
                | apply Rdn.succ
                | ((with_reducible apply Norm.nil); exact rfl)
                | ((with_reducible apply Norm.cons); exact rfl)
                | ((with_reducible apply end_ret))
                | ((with_reducible apply end_normal))
                | exact rvs_nil
                | ((with_reducible apply rvs_cons))
                | ((with_reducible apply rv_tmp); exact rfl)
                | ((with_reducible apply rv_cell); exact rfl; exact rfl)
                | ((with_reducible apply rv_cellAgg); exact rfl; exact rfl)
                | (apply t_mix (id := 14) [0, 1, 2, 3, 4, 5, 6, 7, 8, 9, 10, 11, 12, 13, 14, 15, 16, 17, 18, 19, 20, 21, 22] 1 #[false, false, false, false, false, false, false, false, false, false, false, false, false, false, false, false, false, false, false, false, false, false, false, true]; kernel_rfl; kernel_rfl; exact rfl)
                | ((with_reducible apply al_id); first | (apply al_done; decide +kernel) | (apply al_one 23; decide +kernel))
                | ((with_reducible apply ox_makeI (hk := app_ok41) (hz := info3)); exact rfl; exact rfl; omega; (unfold maxLen; omega); intro _)
                | ((with_reducible apply os_makeI (hk := app_ok41) (hz := info3)); exact rfl; exact rfl; omega; (unfold maxLen; omega); intro _)
                | exact Nat.le_of_ble_eq_true rfl
                | exact (rfl : (_ : Bool) = true)
                | omega
                | (intro _ _; with_reducible apply tl_id)
                | (intro _; with_reducible apply tl_id)
                | (intro _ _; with_reducible apply al_id)
                | (intro _; with_reducible apply al_id))
              all_goals (refine ⟨(i + 1) + 1, by omega, by omega, ?_, ?_⟩)
              · try simp only [List.cons_append, List.nil_append]
                (repeat (first | exact FrSub.nil | (apply FrSub.cons; exact rfl)))
              · try simp only [List.cons_append, List.nil_append]
                (repeat (first | exact HpSub.refl _ | (apply HpSub.consE; (repeat (first | exact P0 | apply P1)); first | exact rfl | (exact fill_close hnx)) | exact HpSub.nil))
            · have hnx : (nxV ev gr flv x row) (i + 1) = max (-never) (min flv y0 + ev) := by unfold nxV; rw [hC, if_neg hlate]
              repeat' (first
                | ((with_reducible apply oq_id); first | (focus ((with_reducible apply oq_indexAddrN); exact rfl; exact rfl; exact rfl; exact rfl; omega)) | ((with_reducible apply oq_subE (k := flv)); exact rfl; exact rfl; omega) | ((with_reducible apply oq_subE (k := (k : Int))); exact rfl; exact rfl; omega) | ((with_reducible apply oq_subE (k := (i : Int))); exact rfl; exact rfl; omega) | ((with_reducible apply oq_addE (k := ((i + 1 + 1 : Nat) : Int))); exact rfl; exact rfl; omega) | ((with_reducible apply oq_addE (k := fl2)); exact rfl; exact rfl; omega) | (apply oq_fn; exact rfl; first | exact trivial | (refine ⟨?_, ?_⟩ <;> omega) | (refine ⟨?_, ?_, ?_⟩ <;> omega) | omega | skip) | ((with_reducible apply oq_load); exact rfl; exact rfl) | ((with_reducible apply oq_loadAgg); exact rfl; exact rfl) | ((with_reducible apply oq_build); exact rfl; exact rfl; exact rfl) | ((with_reducible apply oq_buildA); exact rfl; exact rfl; exact rfl; exact rfl) | ((with_reducible apply oq_fieldAgg); exact rfl; exact rfl; exact rfl) | ((with_reducible apply oq_indexAgg); exact rfl; exact rfl; exact rfl; exact rfl))
                | ((with_reducible apply tl_id); first | ((with_reducible apply tl_nil)) | ((with_reducible apply u_q); exact rfl; exact rfl; exact rfl; exact rfl) | ((with_reducible apply u_s0); exact rfl; exact rfl) | ((with_reducible apply u_s); exact rfl; exact rfl; exact rfl) | ((with_reducible apply u_skip); exact rfl; exact rfl; exact rfl) | ((with_reducible apply u_splitD); exact rfl; exact rfl; all_goals first | (intro hp; try (exfalso; omega)) | skip) | ((with_reducible apply u_splitN); exact rfl; exact rfl; all_goals first | (intro hp; try (exfalso; omega)) | skip) | ((with_reducible apply u_split); exact rfl; exact rfl; all_goals first | intro hp | skip))
                | ((with_reducible apply gx_id); first | ((with_reducible apply v_nil)) | ((with_reducible apply v_q); exact rfl; exact rfl; exact rfl) | ((with_reducible apply v_skip); exact rfl; exact rfl; exact rfl) | ((with_reducible apply v_splitD); exact rfl; exact rfl; all_goals first | (intro hp; try (exfalso; omega)) | skip) | ((with_reducible apply v_splitN); exact rfl; exact rfl; all_goals first | (intro hp; try (exfalso; omega)) | skip) | ((with_reducible apply v_split); exact rfl; exact rfl; all_goals first | intro hp | skip))
                | ((with_reducible apply os_id); first | ((with_reducible apply os_storeM hA); exact rfl; exact rfl; exact rfl; (repeat (first | exact P0 | apply P1))) | ((with_reducible apply os_x); exact rfl) | ((with_reducible apply os_store); exact rfl; exact rfl; exact rfl; exact rfl) | ((with_reducible apply os_storeAgg); exact rfl; exact rfl; exact rfl; exact rfl; exact rfl))
                | ((with_reducible apply ox_id); first | ((with_reducible apply ox_alloc); exact rfl; intro _) | ((with_reducible apply ox_box); exact rfl; exact rfl; intro _) | ((with_reducible apply ox_boxAgg); exact rfl; intro _) | ((with_reducible apply ox_buildSlice1); exact rfl; exact rfl; exact rfl; exact rfl; exact rfl; exact rfl; intro _) | ((with_reducible apply ox_buildSlice2); exact rfl; exact rfl; exact rfl; exact rfl; exact rfl; exact rfl; intro _) | ((with_reducible apply ox_buildSlice); exact rfl; exact rfl; exact rfl; exact rfl))
                | ((with_reducible apply ai_id); first | ((with_reducible apply ai_q); exact rfl; exact rfl; exact rfl; exact rfl; exact rfl) | ((with_reducible apply ai_x); exact rfl; exact rfl; exact rfl; exact rfl; exact rfl) | ((with_reducible apply ai_s0); exact rfl; exact rfl; exact rfl; exact rfl) | ((with_reducible apply ai_n0); exact rfl; exact rfl; exact rfl) | ((with_reducible apply ai_s); exact rfl; exact rfl; exact rfl; exact rfl; exact rfl) | ((with_reducible apply ai_n); exact rfl; exact rfl; exact rfl; exact rfl) | ((with_reducible apply ai_skip); exact rfl; exact rfl; exact rfl; exact rfl) | ((with_reducible apply ai_splitD); exact rfl; exact rfl; exact rfl; all_goals first | (intro hp; try (exfalso; omega)) | skip) | ((with_reducible apply ai_splitN); exact rfl; exact rfl; exact rfl; all_goals first | (intro hp; try (exfalso; omega)) | skip) | ((with_reducible apply ai_split); exact rfl; exact rfl; exact rfl; all_goals first | intro hp | skip))
                | ((with_reducible apply al_keep); focus (repeat (first | exact HpSub.refl _ | (apply HpSub.cons; (repeat (first | exact P0 | apply P1))) | exact HpSub.nil)))
                | ((with_reducible apply rd_id); first | (apply rdM hA; (repeat (first | exact P0 | apply P1)); done) | (apply rdI hb1; (repeat (first | exact P0 | apply P1)); done) | (apply rdI hb0; (repeat (first | exact P0 | apply P1)); done) | (apply Rd.own; (repeat (first | exact P0 | apply P1)); exact rfl; done) | (apply Rd.old; (first | (with_reducible assumption) | exact c0 | exact c1 | exact c2 | exact c3 | exact c4 | exact c5 | exact c6 | exact c7 | exact c8 | exact d0 | exact d1 | exact d2 | exact d3 | exact d4 | exact d5); first | exact List.not_mem_nil | exact m0 | exact m1 | exact m2 | exact m3 | exact m4 | exact m5 | exact m6 | exact m7 | exact m8 | exact m9))
                | ((with_reducible apply t_id); first | ((with_reducible apply t_seq)) | (apply t_region; kernel_rfl) | (apply t_drawn; kernel_rfl; decide +kernel; try simp only [List.append_eq, List.cons_append, List.nil_append]) | ((with_reducible apply t_condT); exact rfl) | ((with_reducible apply t_condF); exact rfl) | ((with_reducible apply t_condD); exact rfl; all_goals first | (intro hp; try (exfalso; omega)) | skip) | ((with_reducible apply t_condN); exact rfl; all_goals first | (intro hp; try (exfalso; omega)) | skip) | ((with_reducible apply t_cond); exact rfl; all_goals first | intro hp | skip) | ((with_reducible apply t_ret)) | ((with_reducible apply t_skip)) | ((with_reducible apply t_exit)) | ((with_reducible apply t_block)))
                | with_reducible apply q_thenN
                | with_reducible apply q_thenR
                | with_reducible apply q_blockR
                | with_reducible apply q_blockN
                | with_reducible apply q_thenE
                | ((with_reducible apply q_blockE); exact rfl)
                | ((with_reducible apply q_blockO); exact rfl)
                | exact P0
                | ((with_reducible apply P1))
                | exact Rdn.zero
                | apply Rdn.succ
                | ((with_reducible apply Norm.nil); exact rfl)
                | ((with_reducible apply Norm.cons); exact rfl)
                | ((with_reducible apply end_ret))
                | ((with_reducible apply end_normal))
                | exact rvs_nil
                | ((with_reducible apply rvs_cons))
                | ((with_reducible apply rv_tmp); exact rfl)
                | ((with_reducible apply rv_cell); exact rfl; exact rfl)
                | ((with_reducible apply rv_cellAgg); exact rfl; exact rfl)
                | (apply t_mix (id := 14) [0, 1, 2, 3, 4, 5, 6, 7, 8, 9, 10, 11, 12, 13, 14, 15, 16, 17, 18, 19, 20, 21, 22] 1 #[false, false, false, false, false, false, false, false, false, false, false, false, false, false, false, false, false, false, false, false, false, false, false, true]; kernel_rfl; kernel_rfl; exact rfl)
                | ((with_reducible apply al_id); first | (apply al_done; decide +kernel) | (apply al_one 23; decide +kernel))
                | ((with_reducible apply ox_makeI (hk := app_ok41) (hz := info3)); exact rfl; exact rfl; omega; (unfold maxLen; omega); intro _)
                | ((with_reducible apply os_makeI (hk := app_ok41) (hz := info3)); exact rfl; exact rfl; omega; (unfold maxLen; omega); intro _)
                | exact Nat.le_of_ble_eq_true rfl
                | exact (rfl : (_ : Bool) = true)
                | omega
                | (intro _ _; with_reducible apply tl_id)
                | (intro _; with_reducible apply tl_id)
                | (intro _ _; with_reducible apply al_id)
                | (intro _; with_reducible apply al_id))
              all_goals (refine ⟨(i + 1) + 1, by omega, by omega, ?_, ?_⟩)
              · try simp only [List.cons_append, List.nil_append]
                (repeat (first | exact FrSub.nil | (apply FrSub.cons; exact rfl)))
              · try simp only [List.cons_append, List.nil_append]
                (repeat (first | exact HpSub.refl _ | (apply HpSub.consE; (repeat (first | exact P0 | apply P1)); first | exact rfl | (exact fill_close hnx)) | exact HpSub.nil))
          · rw [if_neg hv] at hC
            have hlate : (-never) + gr < flv + x := by omega
            have hnx : (nxV ev gr flv x row) (i + 1) = -1099511627776 := by unfold nxV; rw [hC, if_pos hlate]; rfl
            repeat' (first
              | ((with_reducible apply oq_id); first | (focus ((with_reducible apply oq_indexAddrN); exact rfl; exact rfl; exact rfl; exact rfl; omega)) | ((with_reducible apply oq_subE (k := flv)); exact rfl; exact rfl; omega) | ((with_reducible apply oq_subE (k := (k : Int))); exact rfl; exact rfl; omega) | ((with_reducible apply oq_subE (k := (i : Int))); exact rfl; exact rfl; omega) | ((with_reducible apply oq_addE (k := ((i + 1 + 1 : Nat) : Int))); exact rfl; exact rfl; omega) | ((with_reducible apply oq_addE (k := fl2)); exact rfl; exact rfl; omega) | (apply oq_fn; exact rfl; first | exact trivial | (refine ⟨?_, ?_⟩ <;> omega) | (refine ⟨?_, ?_, ?_⟩ <;> omega) | omega | skip) | ((with_reducible apply oq_load); exact rfl; exact rfl) | ((with_reducible apply oq_loadAgg); exact rfl; exact rfl) | ((with_reducible apply oq_build); exact rfl; exact rfl; exact rfl) | ((with_reducible apply oq_buildA); exact rfl; exact rfl; exact rfl; exact rfl) | ((with_reducible apply oq_fieldAgg); exact rfl; exact rfl; exact rfl) | ((with_reducible apply oq_indexAgg); exact rfl; exact rfl; exact rfl; exact rfl))
              | ((with_reducible apply tl_id); first | ((with_reducible apply tl_nil)) | ((with_reducible apply u_q); exact rfl; exact rfl; exact rfl; exact rfl) | ((with_reducible apply u_s0); exact rfl; exact rfl) | ((with_reducible apply u_s); exact rfl; exact rfl; exact rfl) | ((with_reducible apply u_skip); exact rfl; exact rfl; exact rfl) | ((with_reducible apply u_splitD); exact rfl; exact rfl; all_goals first | (intro hp; try (exfalso; omega)) | skip) | ((with_reducible apply u_splitN); exact rfl; exact rfl; all_goals first | (intro hp; try (exfalso; omega)) | skip) | ((with_reducible apply u_split); exact rfl; exact rfl; all_goals first | intro hp | skip))
              | ((with_reducible apply gx_id); first | ((with_reducible apply v_nil)) | ((with_reducible apply v_q); exact rfl; exact rfl; exact rfl) | ((with_reducible apply v_skip); exact rfl; exact rfl; exact rfl) | ((with_reducible apply v_splitD); exact rfl; exact rfl; all_goals first | (intro hp; try (exfalso; omega)) | skip) | ((with_reducible apply v_splitN); exact rfl; exact rfl; all_goals first | (intro hp; try (exfalso; omega)) | skip) | ((with_reducible apply v_split); exact rfl; exact rfl; all_goals first | intro hp | skip))
              | ((with_reducible apply os_id); first | ((with_reducible apply os_storeM hA); exact rfl; exact rfl; exact rfl; (repeat (first | exact P0 | apply P1))) | ((with_reducible apply os_x); exact rfl) | ((with_reducible apply os_store); exact rfl; exact rfl; exact rfl; exact rfl) | ((with_reducible apply os_storeAgg); exact rfl; exact rfl; exact rfl; exact rfl; exact rfl))
              | ((with_reducible apply ox_id); first | ((with_reducible apply ox_alloc); exact rfl; intro _) | ((with_reducible apply ox_box); exact rfl; exact rfl; intro _) | ((with_reducible apply ox_boxAgg); exact rfl; intro _) | ((with_reducible apply ox_buildSlice1); exact rfl; exact rfl; exact rfl; exact rfl; exact rfl; exact rfl; intro _) | ((with_reducible apply ox_buildSlice2); exact rfl; exact rfl; exact rfl; exact rfl; exact rfl; exact rfl; intro _) | ((with_reducible apply ox_buildSlice); exact rfl; exact rfl; exact rfl; exact rfl))
              | ((with_reducible apply ai_id); first | ((with_reducible apply ai_q); exact rfl; exact rfl; exact rfl; exact rfl; exact rfl) | ((with_reducible apply ai_x); exact rfl; exact rfl; exact rfl; exact rfl; exact rfl) | ((with_reducible apply ai_s0); exact rfl; exact rfl; exact rfl; exact rfl) | ((with_reducible apply ai_n0); exact rfl; exact rfl; exact rfl) | ((with_reducible apply ai_s); exact rfl; exact rfl; exact rfl; exact rfl; exact rfl) | ((with_reducible apply ai_n); exact rfl; exact rfl; exact rfl; exact rfl) | ((with_reducible apply ai_skip); exact rfl; exact rfl; exact rfl; exact rfl) | ((with_reducible apply ai_splitD); exact rfl; exact rfl; exact rfl; all_goals first | (intro hp; try (exfalso; omega)) | skip) | ((with_reducible apply ai_splitN); exact rfl; exact rfl; exact rfl; all_goals first | (intro hp; try (exfalso; omega)) | skip) | ((with_reducible apply ai_split); exact rfl; exact rfl; exact rfl; all_goals first | intro hp | skip))
              | ((with_reducible apply al_keep); focus (repeat (first | exact HpSub.refl _ | (apply HpSub.cons; (repeat (first | exact P0 | apply P1))) | exact HpSub.nil)))
              | ((with_reducible apply rd_id); first | (apply rdM hA; (repeat (first | exact P0 | apply P1)); done) | (apply rdI hb1; (repeat (first | exact P0 | apply P1)); done) | (apply rdI hb0; (repeat (first | exact P0 | apply P1)); done) | (apply Rd.own; (repeat (first | exact P0 | apply P1)); exact rfl; done) | (apply Rd.old; (first | (with_reducible assumption) | exact c0 | exact c1 | exact c2 | exact c3 | exact c4 | exact c5 | exact c6 | exact c7 | exact c8 | exact d0 | exact d1 | exact d2 | exact d3 | exact d4 | exact d5); first | exact List.not_mem_nil | exact m0 | exact m1 | exact m2 | exact m3 | exact m4 | exact m5 | exact m6 | exact m7 | exact m8 | exact m9))
              | ((with_reducible apply t_id); first | ((with_reducible apply t_seq)) | (apply t_region; kernel_rfl) | (apply t_drawn; kernel_rfl; decide +kernel; try simp only [List.append_eq, List.cons_append, List.nil_append]) | ((with_reducible apply t_condT); exact rfl) | ((with_reducible apply t_condF); exact rfl) | ((with_reducible apply t_condD); exact rfl; all_goals first | (intro hp; try (exfalso; omega)) | skip) | ((with_reducible apply t_condN); exact rfl; all_goals first | (intro hp; try (exfalso; omega)) | skip) | ((with_reducible apply t_cond); exact rfl; all_goals first | intro hp | skip) | ((with_reducible apply t_ret)) | ((with_reducible apply t_skip)) | ((with_reducible apply t_exit)) | ((with_reducible apply t_block)))
              | with_reducible apply q_thenN
              | with_reducible apply q_thenR
              | with_reducible apply q_blockR
              | with_reducible apply q_blockN
              | with_reducible apply q_thenE
              | ((with_reducible apply q_blockE); exact rfl)
              | ((with_reducible apply q_blockO); exact rfl)
              | exact P0
              | ((with_reducible apply P1))
              | exact Rdn.zero
              | apply Rdn.succ
              | ((with_reducible apply Norm.nil); exact rfl)
              | ((with_reducible apply Norm.cons); exact rfl)
              | ((with_reducible apply end_ret))
              | ((with_reducible apply end_normal))
              | exact rvs_nil
              | ((with_reducible apply rvs_cons))
              | ((with_reducible apply rv_tmp); exact rfl)
              | ((with_reducible apply rv_cell); exact rfl; exact rfl)
              | ((with_reducible apply rv_cellAgg); exact rfl; exact rfl)
              | (apply t_mix (id := 14) [0, 1, 2, 3, 4, 5, 6, 7, 8, 9, 10, 11, 12, 13, 14, 15, 16, 17, 18, 19, 20, 21, 22] 1 #[false, false, false, false, false, false, false, false, false, false, false, false, false, false, false, false, false, false, false, false, false, false, false, true]; kernel_rfl; kernel_rfl; exact rfl)
              | ((with_reducible apply al_id); first | (apply al_done; decide +kernel) | (apply al_one 23; decide +kernel))
              | ((with_reducible apply ox_makeI (hk := app_ok41) (hz := info3)); exact rfl; exact rfl; omega; (unfold maxLen; omega); intro _)
              | ((with_reducible apply os_makeI (hk := app_ok41) (hz := info3)); exact rfl; exact rfl; omega; (unfold maxLen; omega); intro _)
              | exact Nat.le_of_ble_eq_true rfl
              | exact (rfl : (_ : Bool) = true)
              | omega
              | (intro _ _; with_reducible apply tl_id)
              | (intro _; with_reducible apply tl_id)
              | (intro _ _; with_reducible apply al_id)
              | (intro _; with_reducible apply al_id))
            all_goals (refine ⟨(i + 1) + 1, by omega, by omega, ?_, ?_⟩)
            · try simp only [List.cons_append, List.nil_append]
              (repeat (first | exact FrSub.nil | (apply FrSub.cons; exact rfl)))
            · try simp only [List.cons_append, List.nil_append]
              (repeat (first | exact HpSub.refl _ | (apply HpSub.consE; (repeat (first | exact P0 | apply P1)); first | exact rfl | (exact fill_close hnx)) | exact HpSub.nil))
    · obtain rfl : k = i + 1 + 1 := by omega
      rw [fill_done, ← hrow1]
      repeat' (first
        | ((with_reducible apply oq_id); first | (apply oq_fn; exact rfl; first | exact trivial | (refine ⟨?_, ?_⟩ <;> omega) | (refine ⟨?_, ?_, ?_⟩ <;> omega) | omega | skip) | ((with_reducible apply oq_load); exact rfl; exact rfl) | ((with_reducible apply oq_loadAgg); exact rfl; exact rfl) | ((with_reducible apply oq_build); exact rfl; exact rfl; exact rfl) | ((with_reducible apply oq_buildA); exact rfl; exact rfl; exact rfl; exact rfl) | ((with_reducible apply oq_fieldAgg); exact rfl; exact rfl; exact rfl) | ((with_reducible apply oq_indexAgg); exact rfl; exact rfl; exact rfl; exact rfl))
        | ((with_reducible apply tl_id); first | ((with_reducible apply tl_nil)) | ((with_reducible apply u_q); exact rfl; exact rfl; exact rfl; exact rfl) | ((with_reducible apply u_s0); exact rfl; exact rfl) | ((with_reducible apply u_s); exact rfl; exact rfl; exact rfl) | ((with_reducible apply u_skip); exact rfl; exact rfl; exact rfl) | ((with_reducible apply u_splitD); exact rfl; exact rfl; all_goals first | (intro hp; try (exfalso; omega)) | skip) | ((with_reducible apply u_splitN); exact rfl; exact rfl; all_goals first | (intro hp; try (exfalso; omega)) | skip) | ((with_reducible apply u_split); exact rfl; exact rfl; all_goals first | intro hp | skip))
        | ((with_reducible apply gx_id); first | ((with_reducible apply v_nil)) | ((with_reducible apply v_q); exact rfl; exact rfl; exact rfl) | ((with_reducible apply v_skip); exact rfl; exact rfl; exact rfl) | ((with_reducible apply v_splitD); exact rfl; exact rfl; all_goals first | (intro hp; try (exfalso; omega)) | skip) | ((with_reducible apply v_splitN); exact rfl; exact rfl; all_goals first | (intro hp; try (exfalso; omega)) | skip) | ((with_reducible apply v_split); exact rfl; exact rfl; all_goals first | intro hp | skip))
        | ((with_reducible apply os_id); first | ((with_reducible apply os_x); exact rfl) | ((with_reducible apply os_store); exact rfl; exact rfl; exact rfl; exact rfl) | ((with_reducible apply os_storeAgg); exact rfl; exact rfl; exact rfl; exact rfl; exact rfl))
        | ((with_reducible apply ox_id); first | ((with_reducible apply ox_alloc); exact rfl; intro _) | ((with_reducible apply ox_box); exact rfl; exact rfl; intro _) | ((with_reducible apply ox_boxAgg); exact rfl; intro _) | ((with_reducible apply ox_buildSlice1); exact rfl; exact rfl; exact rfl; exact rfl; exact rfl; exact rfl; intro _) | ((with_reducible apply ox_buildSlice2); exact rfl; exact rfl; exact rfl; exact rfl; exact rfl; exact rfl; intro _) | ((with_reducible apply ox_buildSlice); exact rfl; exact rfl; exact rfl; exact rfl))
        | ((with_reducible apply rd_id); first | (apply Rd.own; (repeat (first | exact P0 | apply P1)); exact rfl; done) | (apply Rd.old; (first | (with_reducible assumption) | exact c0 | exact c1 | exact c2 | exact c3 | exact c4 | exact c5 | exact c6 | exact c7 | exact c8 | exact d0 | exact d1 | exact d2 | exact d3 | exact d4 | exact d5); first | exact List.not_mem_nil | exact m0 | exact m1 | exact m2 | exact m3 | exact m4 | exact m5 | exact m6 | exact m7 | exact m8 | exact m9))
        | ((with_reducible apply t_id); first | ((with_reducible apply t_seq)) | (apply t_region; kernel_rfl) | (apply t_drawn; kernel_rfl; decide +kernel; try simp only [List.append_eq, List.cons_append, List.nil_append]) | ((with_reducible apply t_condT); exact rfl) | ((with_reducible apply t_condF); exact rfl) | ((with_reducible apply t_condD); exact rfl; all_goals first | (intro hp; try (exfalso; omega)) | skip) | ((with_reducible apply t_condN); exact rfl; all_goals first | (intro hp; try (exfalso; omega)) | skip) | ((with_reducible apply t_cond); exact rfl; all_goals first | intro hp | skip) | ((with_reducible apply t_ret)) | ((with_reducible apply t_skip)) | ((with_reducible apply t_exit)) | ((with_reducible apply t_block)))
        | with_reducible apply q_thenN
        | with_reducible apply q_thenR
        | with_reducible apply q_blockR
        | with_reducible apply q_blockN
        | with_reducible apply q_thenE
        | ((with_reducible apply q_blockE); exact rfl)
        | ((with_reducible apply q_blockO); exact rfl)
        | exact P0
        | ((with_reducible apply P1))
        | exact Rdn.zero
        | apply Rdn.succ
        | ((with_reducible apply Norm.nil); exact rfl)
        | ((with_reducible apply Norm.cons); exact rfl)
        | ((with_reducible apply end_ret))
        | ((with_reducible apply end_normal))
        | exact rvs_nil
        | ((with_reducible apply rvs_cons))
        | ((with_reducible apply rv_tmp); exact rfl)
        | ((with_reducible apply rv_cell); exact rfl; exact rfl)
        | ((with_reducible apply rv_cellAgg); exact rfl; exact rfl)
        | exact Nat.le_of_ble_eq_true rfl
        | exact (rfl : (_ : Bool) = true)
        | omega
        | (intro _ _; with_reducible apply tl_id)
        | (intro _; with_reducible apply tl_id)
        | (intro _ _; with_reducible apply al_id)
        | (intro _; with_reducible apply al_id))
      all_goals (refine ⟨(i + 1, gN, i + 1 + 1), by simp only; omega, by simp only; omega, ?_, ?_⟩)
      · try simp only [List.cons_append, List.nil_append]
        (repeat (first | exact FrSub.nil | (apply FrSub.cons; exact rfl) | (apply FrSub.consE; exact rfl; rw [hq2])))
      · try simp only [List.cons_append, List.nil_append]
        (repeat (first | exact HpSub.refl _ | (apply HpSub.consE; (repeat (first | exact P0 | apply P1)); exact rfl) | exact HpSub.nil))
  · obtain rfl : i = n := by omega
    repeat' (first
      | ((with_reducible apply oq_id); first | (apply oq_fn; exact rfl; first | exact trivial | (refine ⟨?_, ?_⟩ <;> omega) | (refine ⟨?_, ?_, ?_⟩ <;> omega) | omega | skip) | ((with_reducible apply oq_load); exact rfl; exact rfl) | ((with_reducible apply oq_loadAgg); exact rfl; exact rfl) | ((with_reducible apply oq_build); exact rfl; exact rfl; exact rfl) | ((with_reducible apply oq_buildA); exact rfl; exact rfl; exact rfl; exact rfl) | ((with_reducible apply oq_fieldAgg); exact rfl; exact rfl; exact rfl) | ((with_reducible apply oq_indexAgg); exact rfl; exact rfl; exact rfl; exact rfl))
      | ((with_reducible apply tl_id); first | ((with_reducible apply tl_nil)) | ((with_reducible apply u_q); exact rfl; exact rfl; exact rfl; exact rfl) | ((with_reducible apply u_s0); exact rfl; exact rfl) | ((with_reducible apply u_s); exact rfl; exact rfl; exact rfl) | ((with_reducible apply u_skip); exact rfl; exact rfl; exact rfl) | ((with_reducible apply u_splitD); exact rfl; exact rfl; all_goals first | (intro hp; try (exfalso; omega)) | skip) | ((with_reducible apply u_splitN); exact rfl; exact rfl; all_goals first | (intro hp; try (exfalso; omega)) | skip) | ((with_reducible apply u_split); exact rfl; exact rfl; all_goals first | intro hp | skip))
      | ((with_reducible apply gx_id); first | ((with_reducible apply v_nil)) | ((with_reducible apply v_q); exact rfl; exact rfl; exact rfl) | ((with_reducible apply v_skip); exact rfl; exact rfl; exact rfl) | ((with_reducible apply v_splitD); exact rfl; exact rfl; all_goals first | (intro hp; try (exfalso; omega)) | skip) | ((with_reducible apply v_splitN); exact rfl; exact rfl; all_goals first | (intro hp; try (exfalso; omega)) | skip) | ((with_reducible apply v_split); exact rfl; exact rfl; all_goals first | intro hp | skip))
      | ((with_reducible apply os_id); first | ((with_reducible apply os_x); exact rfl) | ((with_reducible apply os_store); exact rfl; exact rfl; exact rfl; exact rfl) | ((with_reducible apply os_storeAgg); exact rfl; exact rfl; exact rfl; exact rfl; exact rfl))
      | ((with_reducible apply ox_id); first | ((with_reducible apply ox_alloc); exact rfl; intro _) | ((with_reducible apply ox_box); exact rfl; exact rfl; intro _) | ((with_reducible apply ox_boxAgg); exact rfl; intro _) | ((with_reducible apply ox_buildSlice1); exact rfl; exact rfl; exact rfl; exact rfl; exact rfl; exact rfl; intro _) | ((with_reducible apply ox_buildSlice2); exact rfl; exact rfl; exact rfl; exact rfl; exact rfl; exact rfl; intro _) | ((with_reducible apply ox_buildSlice); exact rfl; exact rfl; exact rfl; exact rfl))
      | ((with_reducible apply rd_id); first | (apply Rd.own; (repeat (first | exact P0 | apply P1)); exact rfl; done) | (apply Rd.old; (first | (with_reducible assumption) | exact c0 | exact c1 | exact c2 | exact c3 | exact c4 | exact c5 | exact c6 | exact c7 | exact c8 | exact d0 | exact d1 | exact d2 | exact d3 | exact d4 | exact d5); first | exact List.not_mem_nil | exact m0 | exact m1 | exact m2 | exact m3 | exact m4 | exact m5 | exact m6 | exact m7 | exact m8 | exact m9))
      | ((with_reducible apply t_id); first | ((with_reducible apply t_seq)) | (apply t_region; kernel_rfl) | (apply t_drawn; kernel_rfl; decide +kernel; try simp only [List.append_eq, List.cons_append, List.nil_append]) | ((with_reducible apply t_condT); exact rfl) | ((with_reducible apply t_condF); exact rfl) | ((with_reducible apply t_condD); exact rfl; all_goals first | (intro hp; try (exfalso; omega)) | skip) | ((with_reducible apply t_condN); exact rfl; all_goals first | (intro hp; try (exfalso; omega)) | skip) | ((with_reducible apply t_cond); exact rfl; all_goals first | intro hp | skip) | ((with_reducible apply t_ret)) | ((with_reducible apply t_skip)) | ((with_reducible apply t_exit)) | ((with_reducible apply t_block)))
      | with_reducible apply q_thenN
      | with_reducible apply q_thenR
      | with_reducible apply q_blockR
      | with_reducible apply q_blockN
      | with_reducible apply q_thenE
      | ((with_reducible apply q_blockE); exact rfl)
      | ((with_reducible apply q_blockO); exact rfl)
      | exact P0
      | ((with_reducible apply P1))
      | exact Rdn.zero
      | apply Rdn.succ
      | ((with_reducible apply Norm.nil); exact rfl)
      | ((with_reducible apply Norm.cons); exact rfl)
      | ((with_reducible apply end_ret))
      | ((with_reducible apply end_normal))
      | exact rvs_nil
      | ((with_reducible apply rvs_cons))
      | ((with_reducible apply rv_tmp); exact rfl)
      | ((with_reducible apply rv_cell); exact rfl; exact rfl)
      | ((with_reducible apply rv_cellAgg); exact rfl; exact rfl)
      | exact Nat.le_of_ble_eq_true rfl
      | exact (rfl : (_ : Bool) = true)
      | omega
      | (intro _ _; with_reducible apply tl_id)
      | (intro _; with_reducible apply tl_id)
      | (intro _ _; with_reducible apply al_id)
      | (intro _; with_reducible apply al_id))
    all_goals exact ⟨_, ⟨g, cap, by rw [hlen]; simp only [List.length_cons, List.length_nil]; rw [show 0 + 1 + i = i + 1 by omega]; rfl, rfl⟩, by (repeat (first | exact HpSub.refl _ | (apply HpSub.consE; (repeat (first | exact P0 | apply P1)); exact rfl) | exact HpSub.nil))⟩

end Go.Proofs.Ytmlmgipngbndgaa
