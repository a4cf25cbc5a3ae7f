/- A part of the proof: rules for walks, and contracts of functions (10). -/
import Derived.Test.YtcjkndjjbjoehaaX3G
import Derived.Test.YtcjkndjjbjoehaaX3B
import Derived.Test.YtcjkndjjbjoehaaX3C
set_option linter.unusedVariables false
set_option linter.unusedSimpArgs false
set_option maxRecDepth 100000
set_option maxHeartbeats 2000000
namespace Go.Proofs.Ytcjkndjjbjoehaa
open Go.RowKit
attribute [local irreducible] OQ OS OX Rd T TL GX GL AL AI RV wpG SAny Calls
theorem refPass_calls (A : Option Addr) (n cp : Nat) (W Hh a b e h : Int) (g : List Int) (P : List Nat) (w : World) (hP : IsP W Hh g a b e h P) (hr : RdS w 1 A n (g.map inCells)) (hn : n ≤ 1000000) :
    Calls Try.prog 9 #[.agg #[.int .i64 W, .int .i64 Hh, .slice A n cp], .int .i64 a, .int .i64 b] w fun e' w' => ∃ v H', e' = .returned v ∧ PasV e h P v H' ∧ Has w ⟨[], []⟩ H' w' := by
  have hl : g.length = n := by simpa using hr.len
  have HT := fun w1 h => terrain_calls A n cp W Hh g w1 h hn
  cases hP with
  | ground hT =>
    rw [hT] at HT
    refine enterF (c := cx w 108) Try.func9 rfl rfl rfl rfl ?_
    repeat' (first
      | ((with_reducible apply oq_id); first | (apply oq_fn; exact rfl; try first | exact trivial | (and_intros <;> omega)) | ((with_reducible apply oq_load); exact rfl; exact rfl) | ((with_reducible apply oq_loadAgg); exact rfl; exact rfl) | ((with_reducible apply oq_call (k := 50) (hc := Try.call50)); exact rfl; exact rfl; exact fun D w1 hw1 => HT w1 (hr.ext hw1.ext.ext)) | ((with_reducible apply oq_build); (iterate 3 exact rfl)) | ((with_reducible apply oq_buildA); (iterate 4 exact rfl)) | ((with_reducible apply oq_fieldAgg); (iterate 3 exact rfl)) | ((with_reducible apply oq_indexAgg); (iterate 4 exact rfl)))
      | ((with_reducible apply tl_id); first | (with_reducible apply tl_nil) | ((with_reducible apply u_q); (iterate 4 exact rfl)) | ((with_reducible apply u_s0); exact rfl; exact rfl) | ((with_reducible apply u_s); (iterate 3 exact rfl)) | ((with_reducible apply u_skip); (iterate 3 exact rfl)) | ((with_reducible apply u_splitD); exact rfl; exact rfl; all_goals first | (intro hp; try (exfalso; omega)) | skip) | ((with_reducible apply u_splitN); exact rfl; exact rfl; all_goals first | (intro hp; try (exfalso; omega)) | skip) | ((with_reducible apply u_split); exact rfl; exact rfl; all_goals first | intro hp | skip))
      | ((with_reducible apply gx_id); first | (with_reducible apply v_nil) | ((with_reducible apply v_q); (iterate 3 exact rfl)) | ((with_reducible apply v_skip); (iterate 3 exact rfl)) | ((with_reducible apply v_splitD); exact rfl; exact rfl; all_goals first | (intro hp; try (exfalso; omega)) | skip) | ((with_reducible apply v_splitN); exact rfl; exact rfl; all_goals first | (intro hp; try (exfalso; omega)) | skip) | ((with_reducible apply v_split); exact rfl; exact rfl; all_goals first | intro hp | skip))
      | ((with_reducible apply os_id); first | ((with_reducible apply os_x); exact rfl) | ((with_reducible apply os_store); (iterate 4 exact rfl)) | ((with_reducible apply os_storeAgg); (iterate 5 exact rfl)) | ((with_reducible apply os_append (hk := app_ok22)); exact rfl; exact rfl; (repeat (first | exact P0 | apply P1))) | ((with_reducible apply os_appendNil (hk := app_ok22)); exact rfl; exact rfl))
      | ((with_reducible apply ox_id); first | ((with_reducible apply ox_alloc); exact rfl; intro _) | ((with_reducible apply ox_box); exact rfl; exact rfl; intro _) | ((with_reducible apply ox_boxAgg); exact rfl; intro _) | ((with_reducible apply ox_buildSlice1); (iterate 6 exact rfl); intro _) | ((with_reducible apply ox_buildSlice2); (iterate 6 exact rfl); intro _) | ((with_reducible apply ox_buildSlice); (iterate 4 exact rfl)))
      | ((with_reducible apply rd_id); first | (apply Rd.own; (repeat (first | exact P0 | apply P1)); exact rfl; done) | (apply Rd.old; (first | (with_reducible assumption) | exact c0 | exact c1 | exact c2 | exact c3 | exact c4 | exact c5 | exact c6 | exact c7 | exact c8 | exact d0 | exact d1 | exact d2 | exact d3 | exact d4 | exact d5); first | exact List.not_mem_nil | exact m0 | exact m1 | exact m2 | exact m3 | exact m4 | exact m5 | exact m6 | exact m7 | exact m8 | exact m9))
      | ((with_reducible apply t_id); first | (with_reducible apply t_seq) | (apply t_region; kernel_rfl) | (apply t_drawn; kernel_rfl; decide +kernel; try simp only [List.append_eq, List.cons_append, List.nil_append]) | ((with_reducible apply t_condT); exact rfl) | ((with_reducible apply t_condF); exact rfl) | ((with_reducible apply t_condD); exact rfl; all_goals first | (intro hp; try (exfalso; omega)) | skip) | ((with_reducible apply t_condN); exact rfl; all_goals first | (intro hp; try (exfalso; omega)) | skip) | ((with_reducible apply t_cond); exact rfl; all_goals first | intro hp | skip) | (with_reducible apply t_ret) | (with_reducible apply t_skip) | (with_reducible apply t_exit) | (with_reducible apply t_block))
      | with_reducible apply q_thenN
      | with_reducible apply q_thenR
      | with_reducible apply q_blockR
      | with_reducible apply q_blockN
      | with_reducible apply q_thenE
      | ((with_reducible apply q_blockE); exact rfl)
      | ((with_reducible apply q_blockO); exact rfl)
      | exact P0
      | (with_reducible apply P1)
      | exact Rdn.zero
      | apply Rdn.succ
      | ((with_reducible apply Norm.nil); exact rfl)
      | ((with_reducible apply Norm.cons); exact rfl)
      | (with_reducible apply end_ret)
      | (with_reducible apply end_normal)
      | exact rvs_nil
      | (with_reducible apply rvs_cons)
      | ((with_reducible apply rv_tmp); exact rfl)
      | ((with_reducible apply rv_cell); exact rfl; exact rfl)
      | ((with_reducible apply rv_cellAgg); exact rfl; exact rfl)
      | exact Nat.le_of_ble_eq_true rfl
      | exact (rfl : (_ : Bool) = true)
      | omega
      | (intro _ _; with_reducible apply tl_id)
      | (intro _; with_reducible apply tl_id)
      | (intro _ _; with_reducible apply al_id)
      | (intro _; with_reducible apply al_id))
    all_goals exact ⟨_, ⟨none, fun _ => rfl, rfl, rfl⟩, (by (repeat (first | exact HpSub.refl _ | (apply HpSub.consE; (repeat (first | exact P0 | apply P1)); exact rfl) | apply HpSub.skipX | exact HpSub.nil)))⟩
  | arg hT ha =>
    rw [hT] at HT
    rw [hl] at ha
    by_cases ha1 : 0 ≤ a ∧ a ≤ (n : Int) - 1
    · have hb1 : ¬ (0 ≤ b ∧ b ≤ (n : Int) - 1) := fun e => ha ⟨ha1, e⟩
      refine enterF (c := cx w 108) Try.func9 rfl rfl rfl rfl ?_
      repeat' (first
        | ((with_reducible apply oq_id); first | (apply oq_fn; exact rfl; try first | exact trivial | (and_intros <;> omega)) | ((with_reducible apply oq_load); exact rfl; exact rfl) | ((with_reducible apply oq_loadAgg); exact rfl; exact rfl) | ((with_reducible apply oq_call (k := 50) (hc := Try.call50)); exact rfl; exact rfl; exact fun D w1 hw1 => HT w1 (hr.ext hw1.ext.ext)) | ((with_reducible apply oq_call (k := 51) (hc := Try.call51)); exact rfl; exact rfl; (intro D w1 hw1; refine within6_t _ _ _ ?_ w1; omega)) | ((with_reducible apply oq_call (k := 51) (hc := Try.call51)); exact rfl; exact rfl; (intro D w1 hw1; refine within6_f _ _ _ ?_ w1; omega)) | ((with_reducible apply oq_build); (iterate 3 exact rfl)) | ((with_reducible apply oq_buildA); (iterate 4 exact rfl)) | ((with_reducible apply oq_fieldAgg); (iterate 3 exact rfl)) | ((with_reducible apply oq_indexAgg); (iterate 4 exact rfl)))
        | ((with_reducible apply tl_id); first | (with_reducible apply tl_nil) | ((with_reducible apply u_q); (iterate 4 exact rfl)) | ((with_reducible apply u_s0); exact rfl; exact rfl) | ((with_reducible apply u_s); (iterate 3 exact rfl)) | ((with_reducible apply u_skip); (iterate 3 exact rfl)) | ((with_reducible apply u_splitD); exact rfl; exact rfl; all_goals first | (intro hp; try (exfalso; omega)) | skip) | ((with_reducible apply u_splitN); exact rfl; exact rfl; all_goals first | (intro hp; try (exfalso; omega)) | skip) | ((with_reducible apply u_split); exact rfl; exact rfl; all_goals first | intro hp | skip))
        | ((with_reducible apply gx_id); first | (with_reducible apply v_nil) | ((with_reducible apply v_q); (iterate 3 exact rfl)) | ((with_reducible apply v_skip); (iterate 3 exact rfl)) | ((with_reducible apply v_splitD); exact rfl; exact rfl; all_goals first | (intro hp; try (exfalso; omega)) | skip) | ((with_reducible apply v_splitN); exact rfl; exact rfl; all_goals first | (intro hp; try (exfalso; omega)) | skip) | ((with_reducible apply v_split); exact rfl; exact rfl; all_goals first | intro hp | skip))
        | ((with_reducible apply os_id); first | ((with_reducible apply os_x); exact rfl) | ((with_reducible apply os_store); (iterate 4 exact rfl)) | ((with_reducible apply os_storeAgg); (iterate 5 exact rfl)) | ((with_reducible apply os_append (hk := app_ok22)); exact rfl; exact rfl; (repeat (first | exact P0 | apply P1))) | ((with_reducible apply os_appendNil (hk := app_ok22)); exact rfl; exact rfl))
        | ((with_reducible apply ox_id); first | ((with_reducible apply ox_alloc); exact rfl; intro _) | ((with_reducible apply ox_box); exact rfl; exact rfl; intro _) | ((with_reducible apply ox_boxAgg); exact rfl; intro _) | ((with_reducible apply ox_buildSlice1); (iterate 6 exact rfl); intro _) | ((with_reducible apply ox_buildSlice2); (iterate 6 exact rfl); intro _) | ((with_reducible apply ox_buildSlice); (iterate 4 exact rfl)))
        | ((with_reducible apply rd_id); first | (apply Rd.own; (repeat (first | exact P0 | apply P1)); exact rfl; done) | (apply Rd.old; (first | (with_reducible assumption) | exact c0 | exact c1 | exact c2 | exact c3 | exact c4 | exact c5 | exact c6 | exact c7 | exact c8 | exact d0 | exact d1 | exact d2 | exact d3 | exact d4 | exact d5); first | exact List.not_mem_nil | exact m0 | exact m1 | exact m2 | exact m3 | exact m4 | exact m5 | exact m6 | exact m7 | exact m8 | exact m9))
        | ((with_reducible apply t_id); first | (with_reducible apply t_seq) | (apply t_region; kernel_rfl) | (apply t_drawn; kernel_rfl; decide +kernel; try simp only [List.append_eq, List.cons_append, List.nil_append]) | ((with_reducible apply t_condT); exact rfl) | ((with_reducible apply t_condF); exact rfl) | ((with_reducible apply t_condD); exact rfl; all_goals first | (intro hp; try (exfalso; omega)) | skip) | ((with_reducible apply t_condN); exact rfl; all_goals first | (intro hp; try (exfalso; omega)) | skip) | ((with_reducible apply t_cond); exact rfl; all_goals first | intro hp | skip) | (with_reducible apply t_ret) | (with_reducible apply t_skip) | (with_reducible apply t_exit) | (with_reducible apply t_block))
        | with_reducible apply q_thenN
        | with_reducible apply q_thenR
        | with_reducible apply q_blockR
        | with_reducible apply q_blockN
        | with_reducible apply q_thenE
        | ((with_reducible apply q_blockE); exact rfl)
        | ((with_reducible apply q_blockO); exact rfl)
        | exact P0
        | (with_reducible apply P1)
        | exact Rdn.zero
        | apply Rdn.succ
        | ((with_reducible apply Norm.nil); exact rfl)
        | ((with_reducible apply Norm.cons); exact rfl)
        | (with_reducible apply end_ret)
        | (with_reducible apply end_normal)
        | exact rvs_nil
        | (with_reducible apply rvs_cons)
        | ((with_reducible apply rv_tmp); exact rfl)
        | ((with_reducible apply rv_cell); exact rfl; exact rfl)
        | ((with_reducible apply rv_cellAgg); exact rfl; exact rfl)
        | exact Nat.le_of_ble_eq_true rfl
        | exact (rfl : (_ : Bool) = true)
        | omega
        | (intro _ _; with_reducible apply tl_id)
        | (intro _; with_reducible apply tl_id)
        | (intro _ _; with_reducible apply al_id)
        | (intro _; with_reducible apply al_id))
      all_goals exact ⟨_, ⟨none, fun _ => rfl, rfl, rfl⟩, (by (repeat (first | exact HpSub.refl _ | (apply HpSub.consE; (repeat (first | exact P0 | apply P1)); exact rfl) | apply HpSub.skipX | exact HpSub.nil)))⟩
    · refine enterF (c := cx w 108) Try.func9 rfl rfl rfl rfl ?_
      repeat' (first
        | ((with_reducible apply oq_id); first | (apply oq_fn; exact rfl; try first | exact trivial | (and_intros <;> omega)) | ((with_reducible apply oq_load); exact rfl; exact rfl) | ((with_reducible apply oq_loadAgg); exact rfl; exact rfl) | ((with_reducible apply oq_call (k := 50) (hc := Try.call50)); exact rfl; exact rfl; exact fun D w1 hw1 => HT w1 (hr.ext hw1.ext.ext)) | ((with_reducible apply oq_call (k := 51) (hc := Try.call51)); exact rfl; exact rfl; (intro D w1 hw1; refine within6_t _ _ _ ?_ w1; omega)) | ((with_reducible apply oq_call (k := 51) (hc := Try.call51)); exact rfl; exact rfl; (intro D w1 hw1; refine within6_f _ _ _ ?_ w1; omega)) | ((with_reducible apply oq_build); (iterate 3 exact rfl)) | ((with_reducible apply oq_buildA); (iterate 4 exact rfl)) | ((with_reducible apply oq_fieldAgg); (iterate 3 exact rfl)) | ((with_reducible apply oq_indexAgg); (iterate 4 exact rfl)))
        | ((with_reducible apply tl_id); first | (with_reducible apply tl_nil) | ((with_reducible apply u_q); (iterate 4 exact rfl)) | ((with_reducible apply u_s0); exact rfl; exact rfl) | ((with_reducible apply u_s); (iterate 3 exact rfl)) | ((with_reducible apply u_skip); (iterate 3 exact rfl)) | ((with_reducible apply u_splitD); exact rfl; exact rfl; all_goals first | (intro hp; try (exfalso; omega)) | skip) | ((with_reducible apply u_splitN); exact rfl; exact rfl; all_goals first | (intro hp; try (exfalso; omega)) | skip) | ((with_reducible apply u_split); exact rfl; exact rfl; all_goals first | intro hp | skip))
        | ((with_reducible apply gx_id); first | (with_reducible apply v_nil) | ((with_reducible apply v_q); (iterate 3 exact rfl)) | ((with_reducible apply v_skip); (iterate 3 exact rfl)) | ((with_reducible apply v_splitD); exact rfl; exact rfl; all_goals first | (intro hp; try (exfalso; omega)) | skip) | ((with_reducible apply v_splitN); exact rfl; exact rfl; all_goals first | (intro hp; try (exfalso; omega)) | skip) | ((with_reducible apply v_split); exact rfl; exact rfl; all_goals first | intro hp | skip))
        | ((with_reducible apply os_id); first | ((with_reducible apply os_x); exact rfl) | ((with_reducible apply os_store); (iterate 4 exact rfl)) | ((with_reducible apply os_storeAgg); (iterate 5 exact rfl)) | ((with_reducible apply os_append (hk := app_ok22)); exact rfl; exact rfl; (repeat (first | exact P0 | apply P1))) | ((with_reducible apply os_appendNil (hk := app_ok22)); exact rfl; exact rfl))
        | ((with_reducible apply ox_id); first | ((with_reducible apply ox_alloc); exact rfl; intro _) | ((with_reducible apply ox_box); exact rfl; exact rfl; intro _) | ((with_reducible apply ox_boxAgg); exact rfl; intro _) | ((with_reducible apply ox_buildSlice1); (iterate 6 exact rfl); intro _) | ((with_reducible apply ox_buildSlice2); (iterate 6 exact rfl); intro _) | ((with_reducible apply ox_buildSlice); (iterate 4 exact rfl)))
        | ((with_reducible apply rd_id); first | (apply Rd.own; (repeat (first | exact P0 | apply P1)); exact rfl; done) | (apply Rd.old; (first | (with_reducible assumption) | exact c0 | exact c1 | exact c2 | exact c3 | exact c4 | exact c5 | exact c6 | exact c7 | exact c8 | exact d0 | exact d1 | exact d2 | exact d3 | exact d4 | exact d5); first | exact List.not_mem_nil | exact m0 | exact m1 | exact m2 | exact m3 | exact m4 | exact m5 | exact m6 | exact m7 | exact m8 | exact m9))
        | ((with_reducible apply t_id); first | (with_reducible apply t_seq) | (apply t_region; kernel_rfl) | (apply t_drawn; kernel_rfl; decide +kernel; try simp only [List.append_eq, List.cons_append, List.nil_append]) | ((with_reducible apply t_condT); exact rfl) | ((with_reducible apply t_condF); exact rfl) | ((with_reducible apply t_condD); exact rfl; all_goals first | (intro hp; try (exfalso; omega)) | skip) | ((with_reducible apply t_condN); exact rfl; all_goals first | (intro hp; try (exfalso; omega)) | skip) | ((with_reducible apply t_cond); exact rfl; all_goals first | intro hp | skip) | (with_reducible apply t_ret) | (with_reducible apply t_skip) | (with_reducible apply t_exit) | (with_reducible apply t_block))
        | with_reducible apply q_thenN
        | with_reducible apply q_thenR
        | with_reducible apply q_blockR
        | with_reducible apply q_blockN
        | with_reducible apply q_thenE
        | ((with_reducible apply q_blockE); exact rfl)
        | ((with_reducible apply q_blockO); exact rfl)
        | exact P0
        | (with_reducible apply P1)
        | exact Rdn.zero
        | apply Rdn.succ
        | ((with_reducible apply Norm.nil); exact rfl)
        | ((with_reducible apply Norm.cons); exact rfl)
        | (with_reducible apply end_ret)
        | (with_reducible apply end_normal)
        | exact rvs_nil
        | (with_reducible apply rvs_cons)
        | ((with_reducible apply rv_tmp); exact rfl)
        | ((with_reducible apply rv_cell); exact rfl; exact rfl)
        | ((with_reducible apply rv_cellAgg); exact rfl; exact rfl)
        | exact Nat.le_of_ble_eq_true rfl
        | exact (rfl : (_ : Bool) = true)
        | omega
        | (intro _ _; with_reducible apply tl_id)
        | (intro _; with_reducible apply tl_id)
        | (intro _ _; with_reducible apply al_id)
        | (intro _; with_reducible apply al_id))
      all_goals exact ⟨_, ⟨none, fun _ => rfl, rfl, rfl⟩, (by (repeat (first | exact HpSub.refl _ | (apply HpSub.consE; (repeat (first | exact P0 | apply P1)); exact rfl) | apply HpSub.skipX | exact HpSub.nil)))⟩
  | @ok w0 n0 x y k h L P hT hw0 hn0 hx0 hy0 xn yn hh hB hD hPt =>
  obtain ⟨W, Hh, rfl, rfl, t, hg⟩ := ter_of hT
  obtain rfl : W = w0 := by omega
  obtain rfl : n = n0 := by omega
  subst hx0 hy0
  rw [hl] at t hg
  rw [hT] at HT
  have n576 := t.n576
  obtain ⟨bA, oA, _, rfl, _⟩ := in_read hr xn
  have hgy : gr g y ≤ h := hh.is.dst
  have hgx : gr g x ≤ h := hh.is.src
  obtain ⟨h', hh', hlo, hhi⟩ := pass_ex t hg xn yn
  obtain rfl := hh.uniq hh'
  clear hh'
  refine enterF (c := cx w 108) Try.func9 rfl rfl rfl rfl ?_
  refine t_cut (ι := Nat) (fun b3 => [(1, .int .i64 ((x : Nat) : Int)), (2, .int .i64 ((y : Nat) : Int)), (3, .pointer (some ⟨b3, 0, none⟩))]) (fun b3 => [(b3, [.int .i64 ((W : Nat) : Int), .int .i64 ((Hh : Nat) : Int), .slice (some ⟨bA, oA, none⟩) n cp], some (24, 3, 1))]) (fun _ => True) ?_ ?_
  · repeat' (first
      | ((with_reducible apply oq_id); first | (apply oq_fn; exact rfl; try first | exact trivial | (and_intros <;> omega)) | ((with_reducible apply oq_load); exact rfl; exact rfl) | ((with_reducible apply oq_loadAgg); exact rfl; exact rfl) | ((with_reducible apply oq_build); (iterate 3 exact rfl)) | ((with_reducible apply oq_buildA); (iterate 4 exact rfl)) | ((with_reducible apply oq_fieldAgg); (iterate 3 exact rfl)) | ((with_reducible apply oq_indexAgg); (iterate 4 exact rfl)))
      | ((with_reducible apply tl_id); first | (with_reducible apply tl_nil) | ((with_reducible apply u_q); (iterate 4 exact rfl)) | ((with_reducible apply u_s0); exact rfl; exact rfl) | ((with_reducible apply u_s); (iterate 3 exact rfl)) | ((with_reducible apply u_skip); (iterate 3 exact rfl)) | ((with_reducible apply u_splitD); exact rfl; exact rfl; all_goals first | (intro hp; try (exfalso; omega)) | skip) | ((with_reducible apply u_splitN); exact rfl; exact rfl; all_goals first | (intro hp; try (exfalso; omega)) | skip) | ((with_reducible apply u_split); exact rfl; exact rfl; all_goals first | intro hp | skip))
      | ((with_reducible apply gx_id); first | (with_reducible apply v_nil) | ((with_reducible apply v_q); (iterate 3 exact rfl)) | ((with_reducible apply v_skip); (iterate 3 exact rfl)) | ((with_reducible apply v_splitD); exact rfl; exact rfl; all_goals first | (intro hp; try (exfalso; omega)) | skip) | ((with_reducible apply v_splitN); exact rfl; exact rfl; all_goals first | (intro hp; try (exfalso; omega)) | skip) | ((with_reducible apply v_split); exact rfl; exact rfl; all_goals first | intro hp | skip))
      | ((with_reducible apply os_id); first | ((with_reducible apply os_x); exact rfl) | ((with_reducible apply os_store); (iterate 4 exact rfl)) | ((with_reducible apply os_storeAgg); (iterate 5 exact rfl)) | ((with_reducible apply os_append (hk := app_ok22)); exact rfl; exact rfl; (repeat (first | exact P0 | apply P1))) | ((with_reducible apply os_appendNil (hk := app_ok22)); exact rfl; exact rfl))
      | ((with_reducible apply ox_id); first | ((with_reducible apply ox_alloc); exact rfl; intro _) | ((with_reducible apply ox_box); exact rfl; exact rfl; intro _) | ((with_reducible apply ox_boxAgg); exact rfl; intro _) | ((with_reducible apply ox_buildSlice1); (iterate 6 exact rfl); intro _) | ((with_reducible apply ox_buildSlice2); (iterate 6 exact rfl); intro _) | ((with_reducible apply ox_buildSlice); (iterate 4 exact rfl)))
      | ((with_reducible apply rd_id); first | (apply Rd.own; (repeat (first | exact P0 | apply P1)); exact rfl; done) | (apply Rd.old; (first | (with_reducible assumption) | exact c0 | exact c1 | exact c2 | exact c3 | exact c4 | exact c5 | exact c6 | exact c7 | exact c8 | exact d0 | exact d1 | exact d2 | exact d3 | exact d4 | exact d5); first | exact List.not_mem_nil | exact m0 | exact m1 | exact m2 | exact m3 | exact m4 | exact m5 | exact m6 | exact m7 | exact m8 | exact m9))
      | ((with_reducible apply t_id); first | (with_reducible apply t_seq) | (apply t_region; kernel_rfl) | (apply t_drawn; kernel_rfl; decide +kernel; try simp only [List.append_eq, List.cons_append, List.nil_append]) | ((with_reducible apply t_condT); exact rfl) | ((with_reducible apply t_condF); exact rfl) | ((with_reducible apply t_condD); exact rfl; all_goals first | (intro hp; try (exfalso; omega)) | skip) | ((with_reducible apply t_condN); exact rfl; all_goals first | (intro hp; try (exfalso; omega)) | skip) | ((with_reducible apply t_cond); exact rfl; all_goals first | intro hp | skip) | (with_reducible apply t_ret) | (with_reducible apply t_skip) | (with_reducible apply t_exit) | (with_reducible apply t_block))
      | with_reducible apply q_thenN
      | with_reducible apply q_thenR
      | with_reducible apply q_blockR
      | with_reducible apply q_blockN
      | with_reducible apply q_thenE
      | ((with_reducible apply q_blockE); exact rfl)
      | ((with_reducible apply q_blockO); exact rfl)
      | exact P0
      | (with_reducible apply P1)
      | exact Rdn.zero
      | apply Rdn.succ
      | ((with_reducible apply Norm.nil); exact rfl)
      | ((with_reducible apply Norm.cons); exact rfl)
      | (with_reducible apply end_ret)
      | (with_reducible apply end_normal)
      | exact rvs_nil
      | (with_reducible apply rvs_cons)
      | ((with_reducible apply rv_tmp); exact rfl)
      | ((with_reducible apply rv_cell); exact rfl; exact rfl)
      | ((with_reducible apply rv_cellAgg); exact rfl; exact rfl)
      | exact Nat.le_of_ble_eq_true rfl
      | exact (rfl : (_ : Bool) = true)
      | omega
      | (intro _ _; with_reducible apply tl_id)
      | (intro _; with_reducible apply tl_id)
      | (intro _ _; with_reducible apply al_id)
      | (intro _; with_reducible apply al_id))
    all_goals exact ⟨rfl, _, trivial, by (repeat (first | exact FrSub.nil | (apply FrSub.cons; exact rfl))), by (repeat (first | exact HpSub.refl _ | (apply HpSub.consE; (repeat (first | exact P0 | apply P1)); exact rfl) | exact HpSub.nil))⟩
  rintro b3 -
  try dsimp only
  refine t_cut (ι := Unit) (fun _ => [(1, .int .i64 ((x : Nat) : Int)), (2, .int .i64 ((y : Nat) : Int)), (3, .pointer (some ⟨b3, 0, none⟩))]) (fun _ => [(b3, [.int .i64 ((W : Nat) : Int), .int .i64 ((Hh : Nat) : Int), .slice (some ⟨bA, oA, none⟩) n cp], some (24, 3, 1))]) (fun _ => True) ?_ ?_
  · repeat' (first
      | ((with_reducible apply oq_id); first | (apply oq_fn; exact rfl; try first | exact trivial | (and_intros <;> omega)) | ((with_reducible apply oq_load); exact rfl; exact rfl) | ((with_reducible apply oq_loadAgg); exact rfl; exact rfl) | ((with_reducible apply oq_call (k := 50) (hc := Try.call50)); exact rfl; exact rfl; exact fun D w1 hw1 => HT w1 (hr.ext hw1.ext.ext)) | ((with_reducible apply oq_build); (iterate 3 exact rfl)) | ((with_reducible apply oq_buildA); (iterate 4 exact rfl)) | ((with_reducible apply oq_fieldAgg); (iterate 3 exact rfl)) | ((with_reducible apply oq_indexAgg); (iterate 4 exact rfl)))
      | ((with_reducible apply tl_id); first | (with_reducible apply tl_nil) | ((with_reducible apply u_q); (iterate 4 exact rfl)) | ((with_reducible apply u_s0); exact rfl; exact rfl) | ((with_reducible apply u_s); (iterate 3 exact rfl)) | ((with_reducible apply u_skip); (iterate 3 exact rfl)) | ((with_reducible apply u_splitD); exact rfl; exact rfl; all_goals first | (intro hp; try (exfalso; omega)) | skip) | ((with_reducible apply u_splitN); exact rfl; exact rfl; all_goals first | (intro hp; try (exfalso; omega)) | skip) | ((with_reducible apply u_split); exact rfl; exact rfl; all_goals first | intro hp | skip))
      | ((with_reducible apply gx_id); first | (with_reducible apply v_nil) | ((with_reducible apply v_q); (iterate 3 exact rfl)) | ((with_reducible apply v_skip); (iterate 3 exact rfl)) | ((with_reducible apply v_splitD); exact rfl; exact rfl; all_goals first | (intro hp; try (exfalso; omega)) | skip) | ((with_reducible apply v_splitN); exact rfl; exact rfl; all_goals first | (intro hp; try (exfalso; omega)) | skip) | ((with_reducible apply v_split); exact rfl; exact rfl; all_goals first | intro hp | skip))
      | ((with_reducible apply os_id); first | ((with_reducible apply os_x); exact rfl) | ((with_reducible apply os_store); (iterate 4 exact rfl)) | ((with_reducible apply os_storeAgg); (iterate 5 exact rfl)) | ((with_reducible apply os_append (hk := app_ok22)); exact rfl; exact rfl; (repeat (first | exact P0 | apply P1))) | ((with_reducible apply os_appendNil (hk := app_ok22)); exact rfl; exact rfl))
      | ((with_reducible apply ox_id); first | ((with_reducible apply ox_alloc); exact rfl; intro _) | ((with_reducible apply ox_box); exact rfl; exact rfl; intro _) | ((with_reducible apply ox_boxAgg); exact rfl; intro _) | ((with_reducible apply ox_buildSlice1); (iterate 6 exact rfl); intro _) | ((with_reducible apply ox_buildSlice2); (iterate 6 exact rfl); intro _) | ((with_reducible apply ox_buildSlice); (iterate 4 exact rfl)))
      | ((with_reducible apply rd_id); first | (apply Rd.own; (repeat (first | exact P0 | apply P1)); exact rfl; done) | (apply Rd.old; (first | (with_reducible assumption) | exact c0 | exact c1 | exact c2 | exact c3 | exact c4 | exact c5 | exact c6 | exact c7 | exact c8 | exact d0 | exact d1 | exact d2 | exact d3 | exact d4 | exact d5); first | exact List.not_mem_nil | exact m0 | exact m1 | exact m2 | exact m3 | exact m4 | exact m5 | exact m6 | exact m7 | exact m8 | exact m9))
      | ((with_reducible apply t_id); first | (with_reducible apply t_seq) | (apply t_region; kernel_rfl) | (apply t_drawn; kernel_rfl; decide +kernel; try simp only [List.append_eq, List.cons_append, List.nil_append]) | ((with_reducible apply t_condT); exact rfl) | ((with_reducible apply t_condF); exact rfl) | ((with_reducible apply t_condD); exact rfl; all_goals first | (intro hp; try (exfalso; omega)) | skip) | ((with_reducible apply t_condN); exact rfl; all_goals first | (intro hp; try (exfalso; omega)) | skip) | ((with_reducible apply t_cond); exact rfl; all_goals first | intro hp | skip) | (with_reducible apply t_ret) | (with_reducible apply t_skip) | (with_reducible apply t_exit) | (with_reducible apply t_block))
      | with_reducible apply q_thenN
      | with_reducible apply q_thenR
      | with_reducible apply q_blockR
      | with_reducible apply q_blockN
      | with_reducible apply q_thenE
      | ((with_reducible apply q_blockE); exact rfl)
      | ((with_reducible apply q_blockO); exact rfl)
      | exact P0
      | (with_reducible apply P1)
      | exact Rdn.zero
      | apply Rdn.succ
      | ((with_reducible apply Norm.nil); exact rfl)
      | ((with_reducible apply Norm.cons); exact rfl)
      | (with_reducible apply end_ret)
      | (with_reducible apply end_normal)
      | exact rvs_nil
      | (with_reducible apply rvs_cons)
      | ((with_reducible apply rv_tmp); exact rfl)
      | ((with_reducible apply rv_cell); exact rfl; exact rfl)
      | ((with_reducible apply rv_cellAgg); exact rfl; exact rfl)
      | exact Nat.le_of_ble_eq_true rfl
      | exact (rfl : (_ : Bool) = true)
      | omega
      | (intro _ _; with_reducible apply tl_id)
      | (intro _; with_reducible apply tl_id)
      | (intro _ _; with_reducible apply al_id)
      | (intro _; with_reducible apply al_id))
    all_goals exact ⟨rfl, (), trivial, by (repeat (first | exact FrSub.nil | (apply FrSub.cons; exact rfl))), by (repeat (first | exact HpSub.refl _ | (apply HpSub.consE; (repeat (first | exact P0 | apply P1)); exact rfl) | exact HpSub.nil))⟩
  rintro ⟨⟩ -
  try dsimp only
  refine t_cut (ι := Unit) (fun _ => [(1, .int .i64 ((x : Nat) : Int)), (2, .int .i64 ((y : Nat) : Int)), (3, .pointer (some ⟨b3, 0, none⟩))]) (fun _ => [(b3, [.int .i64 ((W : Nat) : Int), .int .i64 ((Hh : Nat) : Int), .slice (some ⟨bA, oA, none⟩) n cp], some (24, 3, 1))]) (fun _ => True) ?_ ?_
  · repeat' (first
      | ((with_reducible apply oq_id); first | (apply oq_fn; exact rfl; try first | exact trivial | (and_intros <;> omega)) | ((with_reducible apply oq_load); exact rfl; exact rfl) | ((with_reducible apply oq_loadAgg); exact rfl; exact rfl) | ((with_reducible apply oq_call (k := 51) (hc := Try.call51)); exact rfl; exact rfl; (intro D w1 hw1; refine within6_t _ _ _ ?_ w1; omega)) | ((with_reducible apply oq_call (k := 51) (hc := Try.call51)); exact rfl; exact rfl; (intro D w1 hw1; refine within6_f _ _ _ ?_ w1; omega)) | ((with_reducible apply oq_build); (iterate 3 exact rfl)) | ((with_reducible apply oq_buildA); (iterate 4 exact rfl)) | ((with_reducible apply oq_fieldAgg); (iterate 3 exact rfl)) | ((with_reducible apply oq_indexAgg); (iterate 4 exact rfl)))
      | ((with_reducible apply tl_id); first | (with_reducible apply tl_nil) | ((with_reducible apply u_q); (iterate 4 exact rfl)) | ((with_reducible apply u_s0); exact rfl; exact rfl) | ((with_reducible apply u_s); (iterate 3 exact rfl)) | ((with_reducible apply u_skip); (iterate 3 exact rfl)) | ((with_reducible apply u_splitD); exact rfl; exact rfl; all_goals first | (intro hp; try (exfalso; omega)) | skip) | ((with_reducible apply u_splitN); exact rfl; exact rfl; all_goals first | (intro hp; try (exfalso; omega)) | skip) | ((with_reducible apply u_split); exact rfl; exact rfl; all_goals first | intro hp | skip))
      | ((with_reducible apply gx_id); first | (with_reducible apply v_nil) | ((with_reducible apply v_q); (iterate 3 exact rfl)) | ((with_reducible apply v_skip); (iterate 3 exact rfl)) | ((with_reducible apply v_splitD); exact rfl; exact rfl; all_goals first | (intro hp; try (exfalso; omega)) | skip) | ((with_reducible apply v_splitN); exact rfl; exact rfl; all_goals first | (intro hp; try (exfalso; omega)) | skip) | ((with_reducible apply v_split); exact rfl; exact rfl; all_goals first | intro hp | skip))
      | ((with_reducible apply os_id); first | ((with_reducible apply os_x); exact rfl) | ((with_reducible apply os_store); (iterate 4 exact rfl)) | ((with_reducible apply os_storeAgg); (iterate 5 exact rfl)) | ((with_reducible apply os_append (hk := app_ok22)); exact rfl; exact rfl; (repeat (first | exact P0 | apply P1))) | ((with_reducible apply os_appendNil (hk := app_ok22)); exact rfl; exact rfl))
      | ((with_reducible apply ox_id); first | ((with_reducible apply ox_alloc); exact rfl; intro _) | ((with_reducible apply ox_box); exact rfl; exact rfl; intro _) | ((with_reducible apply ox_boxAgg); exact rfl; intro _) | ((with_reducible apply ox_buildSlice1); (iterate 6 exact rfl); intro _) | ((with_reducible apply ox_buildSlice2); (iterate 6 exact rfl); intro _) | ((with_reducible apply ox_buildSlice); (iterate 4 exact rfl)))
      | ((with_reducible apply rd_id); first | (apply Rd.own; (repeat (first | exact P0 | apply P1)); exact rfl; done) | (apply Rd.old; (first | (with_reducible assumption) | exact c0 | exact c1 | exact c2 | exact c3 | exact c4 | exact c5 | exact c6 | exact c7 | exact c8 | exact d0 | exact d1 | exact d2 | exact d3 | exact d4 | exact d5); first | exact List.not_mem_nil | exact m0 | exact m1 | exact m2 | exact m3 | exact m4 | exact m5 | exact m6 | exact m7 | exact m8 | exact m9))
      | ((with_reducible apply t_id); first | (with_reducible apply t_seq) | (apply t_region; kernel_rfl) | (apply t_drawn; kernel_rfl; decide +kernel; try simp only [List.append_eq, List.cons_append, List.nil_append]) | ((with_reducible apply t_condT); exact rfl) | ((with_reducible apply t_condF); exact rfl) | ((with_reducible apply t_condD); exact rfl; all_goals first | (intro hp; try (exfalso; omega)) | skip) | ((with_reducible apply t_condN); exact rfl; all_goals first | (intro hp; try (exfalso; omega)) | skip) | ((with_reducible apply t_cond); exact rfl; all_goals first | intro hp | skip) | (with_reducible apply t_ret) | (with_reducible apply t_skip) | (with_reducible apply t_exit) | (with_reducible apply t_block))
      | with_reducible apply q_thenN
      | with_reducible apply q_thenR
      | with_reducible apply q_blockR
      | with_reducible apply q_blockN
      | with_reducible apply q_thenE
      | ((with_reducible apply q_blockE); exact rfl)
      | ((with_reducible apply q_blockO); exact rfl)
      | exact P0
      | (with_reducible apply P1)
      | exact Rdn.zero
      | apply Rdn.succ
      | ((with_reducible apply Norm.nil); exact rfl)
      | ((with_reducible apply Norm.cons); exact rfl)
      | (with_reducible apply end_ret)
      | (with_reducible apply end_normal)
      | exact rvs_nil
      | (with_reducible apply rvs_cons)
      | ((with_reducible apply rv_tmp); exact rfl)
      | ((with_reducible apply rv_cell); exact rfl; exact rfl)
      | ((with_reducible apply rv_cellAgg); exact rfl; exact rfl)
      | exact Nat.le_of_ble_eq_true rfl
      | exact (rfl : (_ : Bool) = true)
      | omega
      | (intro _ _; with_reducible apply tl_id)
      | (intro _; with_reducible apply tl_id)
      | (intro _ _; with_reducible apply al_id)
      | (intro _; with_reducible apply al_id))
    all_goals exact ⟨rfl, (), trivial, by (repeat (first | exact FrSub.nil | (apply FrSub.cons; exact rfl))), by (repeat (first | exact HpSub.refl _ | (apply HpSub.consE; (repeat (first | exact P0 | apply P1)); exact rfl) | exact HpSub.nil))⟩
  rintro ⟨⟩ -
  try dsimp only
  refine t_cut (ι := Unit) (fun _ => [(1, .int .i64 ((x : Nat) : Int)), (2, .int .i64 ((y : Nat) : Int)), (3, .pointer (some ⟨b3, 0, none⟩)), (9, .int .i64 (-500)), (10, .int .i64 9000)]) (fun _ => [(b3, [.int .i64 ((W : Nat) : Int), .int .i64 ((Hh : Nat) : Int), .slice (some ⟨bA, oA, none⟩) n cp], some (24, 3, 1))]) (fun _ => True) ?_ ?_
  · repeat' (first
      | ((with_reducible apply oq_id); first | (apply oq_fn; exact rfl; try first | exact trivial | (and_intros <;> omega)) | ((with_reducible apply oq_load); exact rfl; exact rfl) | ((with_reducible apply oq_loadAgg); exact rfl; exact rfl) | ((with_reducible apply oq_build); (iterate 3 exact rfl)) | ((with_reducible apply oq_buildA); (iterate 4 exact rfl)) | ((with_reducible apply oq_fieldAgg); (iterate 3 exact rfl)) | ((with_reducible apply oq_indexAgg); (iterate 4 exact rfl)))
      | ((with_reducible apply tl_id); first | (with_reducible apply tl_nil) | ((with_reducible apply u_q); (iterate 4 exact rfl)) | ((with_reducible apply u_s0); exact rfl; exact rfl) | ((with_reducible apply u_s); (iterate 3 exact rfl)) | ((with_reducible apply u_skip); (iterate 3 exact rfl)) | ((with_reducible apply u_splitD); exact rfl; exact rfl; all_goals first | (intro hp; try (exfalso; omega)) | skip) | ((with_reducible apply u_splitN); exact rfl; exact rfl; all_goals first | (intro hp; try (exfalso; omega)) | skip) | ((with_reducible apply u_split); exact rfl; exact rfl; all_goals first | intro hp | skip))
      | ((with_reducible apply gx_id); first | (with_reducible apply v_nil) | ((with_reducible apply v_q); (iterate 3 exact rfl)) | ((with_reducible apply v_skip); (iterate 3 exact rfl)) | ((with_reducible apply v_splitD); exact rfl; exact rfl; all_goals first | (intro hp; try (exfalso; omega)) | skip) | ((with_reducible apply v_splitN); exact rfl; exact rfl; all_goals first | (intro hp; try (exfalso; omega)) | skip) | ((with_reducible apply v_split); exact rfl; exact rfl; all_goals first | intro hp | skip))
      | ((with_reducible apply os_id); first | ((with_reducible apply os_x); exact rfl) | ((with_reducible apply os_store); (iterate 4 exact rfl)) | ((with_reducible apply os_storeAgg); (iterate 5 exact rfl)) | ((with_reducible apply os_append (hk := app_ok22)); exact rfl; exact rfl; (repeat (first | exact P0 | apply P1))) | ((with_reducible apply os_appendNil (hk := app_ok22)); exact rfl; exact rfl))
      | ((with_reducible apply ox_id); first | ((with_reducible apply ox_alloc); exact rfl; intro _) | ((with_reducible apply ox_box); exact rfl; exact rfl; intro _) | ((with_reducible apply ox_boxAgg); exact rfl; intro _) | ((with_reducible apply ox_buildSlice1); (iterate 6 exact rfl); intro _) | ((with_reducible apply ox_buildSlice2); (iterate 6 exact rfl); intro _) | ((with_reducible apply ox_buildSlice); (iterate 4 exact rfl)))
      | ((with_reducible apply rd_id); first | (apply Rd.own; (repeat (first | exact P0 | apply P1)); exact rfl; done) | (apply Rd.old; (first | (with_reducible assumption) | exact c0 | exact c1 | exact c2 | exact c3 | exact c4 | exact c5 | exact c6 | exact c7 | exact c8 | exact d0 | exact d1 | exact d2 | exact d3 | exact d4 | exact d5); first | exact List.not_mem_nil | exact m0 | exact m1 | exact m2 | exact m3 | exact m4 | exact m5 | exact m6 | exact m7 | exact m8 | exact m9))
      | ((with_reducible apply t_id); first | (with_reducible apply t_seq) | (apply t_region; kernel_rfl) | (apply t_drawn; kernel_rfl; decide +kernel; try simp only [List.append_eq, List.cons_append, List.nil_append]) | ((with_reducible apply t_condT); exact rfl) | ((with_reducible apply t_condF); exact rfl) | ((with_reducible apply t_condD); exact rfl; all_goals first | (intro hp; try (exfalso; omega)) | skip) | ((with_reducible apply t_condN); exact rfl; all_goals first | (intro hp; try (exfalso; omega)) | skip) | ((with_reducible apply t_cond); exact rfl; all_goals first | intro hp | skip) | (with_reducible apply t_ret) | (with_reducible apply t_skip) | (with_reducible apply t_exit) | (with_reducible apply t_block))
      | with_reducible apply q_thenN
      | with_reducible apply q_thenR
      | with_reducible apply q_blockR
      | with_reducible apply q_blockN
      | with_reducible apply q_thenE
      | ((with_reducible apply q_blockE); exact rfl)
      | ((with_reducible apply q_blockO); exact rfl)
      | exact P0
      | (with_reducible apply P1)
      | exact Rdn.zero
      | apply Rdn.succ
      | ((with_reducible apply Norm.nil); exact rfl)
      | ((with_reducible apply Norm.cons); exact rfl)
      | (with_reducible apply end_ret)
      | (with_reducible apply end_normal)
      | exact rvs_nil
      | (with_reducible apply rvs_cons)
      | ((with_reducible apply rv_tmp); exact rfl)
      | ((with_reducible apply rv_cell); exact rfl; exact rfl)
      | ((with_reducible apply rv_cellAgg); exact rfl; exact rfl)
      | exact Nat.le_of_ble_eq_true rfl
      | exact (rfl : (_ : Bool) = true)
      | omega
      | (intro _ _; with_reducible apply tl_id)
      | (intro _; with_reducible apply tl_id)
      | (intro _ _; with_reducible apply al_id)
      | (intro _; with_reducible apply al_id))
    all_goals exact ⟨rfl, (), trivial, by (repeat (first | exact FrSub.nil | (apply FrSub.cons; exact rfl))), by (repeat (first | exact HpSub.refl _ | (apply HpSub.consE; (repeat (first | exact P0 | apply P1)); exact rfl) | exact HpSub.nil))⟩
  rintro ⟨⟩ -
  try dsimp only
  refine t_cut (ι := Unit) (fun _ => [(1, .int .i64 ((x : Nat) : Int)), (2, .int .i64 ((y : Nat) : Int)), (3, .pointer (some ⟨b3, 0, none⟩)), (9, .int .i64 h)]) (fun _ => [(b3, [.int .i64 ((W : Nat) : Int), .int .i64 ((Hh : Nat) : Int), .slice (some ⟨bA, oA, none⟩) n cp], some (24, 3, 1))]) (fun _ => True) ?_ ?_
  · repeat' (first
      | ((with_reducible apply oq_id); first | (apply oq_fn; exact rfl; try first | exact trivial | (and_intros <;> omega)) | ((with_reducible apply oq_load); exact rfl; exact rfl) | ((with_reducible apply oq_loadAgg); exact rfl; exact rfl) | ((with_reducible apply oq_build); (iterate 3 exact rfl)) | ((with_reducible apply oq_buildA); (iterate 4 exact rfl)) | ((with_reducible apply oq_fieldAgg); (iterate 3 exact rfl)) | ((with_reducible apply oq_indexAgg); (iterate 4 exact rfl)))
      | ((with_reducible apply tl_id); first | (with_reducible apply tl_nil) | ((with_reducible apply u_q); (iterate 4 exact rfl)) | ((with_reducible apply u_s0); exact rfl; exact rfl) | ((with_reducible apply u_s); (iterate 3 exact rfl)) | ((with_reducible apply u_skip); (iterate 3 exact rfl)) | ((with_reducible apply u_splitD); exact rfl; exact rfl; all_goals first | (intro hp; try (exfalso; omega)) | skip) | ((with_reducible apply u_splitN); exact rfl; exact rfl; all_goals first | (intro hp; try (exfalso; omega)) | skip) | ((with_reducible apply u_split); exact rfl; exact rfl; all_goals first | intro hp | skip))
      | ((with_reducible apply gx_id); first | (with_reducible apply v_nil) | ((with_reducible apply v_q); (iterate 3 exact rfl)) | ((with_reducible apply v_skip); (iterate 3 exact rfl)) | ((with_reducible apply v_splitD); exact rfl; exact rfl; all_goals first | (intro hp; try (exfalso; omega)) | skip) | ((with_reducible apply v_splitN); exact rfl; exact rfl; all_goals first | (intro hp; try (exfalso; omega)) | skip) | ((with_reducible apply v_split); exact rfl; exact rfl; all_goals first | intro hp | skip))
      | ((with_reducible apply os_id); first | ((with_reducible apply os_x); exact rfl) | ((with_reducible apply os_store); (iterate 4 exact rfl)) | ((with_reducible apply os_storeAgg); (iterate 5 exact rfl)) | ((with_reducible apply os_append (hk := app_ok22)); exact rfl; exact rfl; (repeat (first | exact P0 | apply P1))) | ((with_reducible apply os_appendNil (hk := app_ok22)); exact rfl; exact rfl))
      | ((with_reducible apply ox_id); first | ((with_reducible apply ox_alloc); exact rfl; intro _) | ((with_reducible apply ox_box); exact rfl; exact rfl; intro _) | ((with_reducible apply ox_boxAgg); exact rfl; intro _) | ((with_reducible apply ox_buildSlice1); (iterate 6 exact rfl); intro _) | ((with_reducible apply ox_buildSlice2); (iterate 6 exact rfl); intro _) | ((with_reducible apply ox_buildSlice); (iterate 4 exact rfl)))
      | ((with_reducible apply rd_id); first | (apply Rd.own; (repeat (first | exact P0 | apply P1)); exact rfl; done) | (apply Rd.old; (first | (with_reducible assumption) | exact c0 | exact c1 | exact c2 | exact c3 | exact c4 | exact c5 | exact c6 | exact c7 | exact c8 | exact d0 | exact d1 | exact d2 | exact d3 | exact d4 | exact d5); first | exact List.not_mem_nil | exact m0 | exact m1 | exact m2 | exact m3 | exact m4 | exact m5 | exact m6 | exact m7 | exact m8 | exact m9))
      | ((with_reducible apply t_id); first | (with_reducible apply t_seq) | (apply t_region; kernel_rfl) | (apply t_drawn; kernel_rfl; decide +kernel; try simp only [List.append_eq, List.cons_append, List.nil_append]) | ((with_reducible apply t_condT); exact rfl) | ((with_reducible apply t_condF); exact rfl) | ((with_reducible apply t_condD); exact rfl; all_goals first | (intro hp; try (exfalso; omega)) | skip) | ((with_reducible apply t_condN); exact rfl; all_goals first | (intro hp; try (exfalso; omega)) | skip) | ((with_reducible apply t_cond); exact rfl; all_goals first | intro hp | skip) | (with_reducible apply t_ret) | (with_reducible apply t_skip) | (with_reducible apply t_exit) | (with_reducible apply t_block))
      | with_reducible apply q_thenN
      | with_reducible apply q_thenR
      | with_reducible apply q_blockR
      | with_reducible apply q_blockN
      | with_reducible apply q_thenE
      | ((with_reducible apply q_blockE); exact rfl)
      | ((with_reducible apply q_blockO); exact rfl)
      | exact P0
      | (with_reducible apply P1)
      | exact Rdn.zero
      | apply Rdn.succ
      | ((with_reducible apply Norm.nil); exact rfl)
      | ((with_reducible apply Norm.cons); exact rfl)
      | (with_reducible apply end_ret)
      | (with_reducible apply end_normal)
      | exact rvs_nil
      | (with_reducible apply rvs_cons)
      | ((with_reducible apply rv_tmp); exact rfl)
      | ((with_reducible apply rv_cell); exact rfl; exact rfl)
      | ((with_reducible apply rv_cellAgg); exact rfl; exact rfl)
      | exact Nat.le_of_ble_eq_true rfl
      | exact (rfl : (_ : Bool) = true)
      | omega
      | (intro _ _; with_reducible apply tl_id)
      | (intro _; with_reducible apply tl_id)
      | (intro _ _; with_reducible apply al_id)
      | (intro _; with_reducible apply al_id))
    apply t_loopK (ι := Int × Int) [1, 2, 3] (fun z => [(9, .int .i64 z.1), (10, .int .i64 z.2)]) (fun z => [(b3, [.int .i64 ((W : Nat) : Int), .int .i64 ((Hh : Nat) : Int), .slice (some ⟨bA, oA, none⟩) n cp], some (24, 3, 1))]) (fun z => -500 ≤ z.1 ∧ z.1 ≤ h ∧ h ≤ z.2 ∧ z.2 ≤ 9000) (fun z => (z.2 - z.1).toNat) ((-500, 9000))
    (repeat (first | exact KeepF.nil | (apply KeepF.cons; exact rfl) | apply KeepF.skip))
    (repeat (first | exact FrSub.nil | (apply FrSub.cons; exact rfl)))
    (repeat (first | exact HpSub.refl _ | (apply HpSub.consE; (repeat (first | exact P0 | apply P1)); exact rfl) | exact HpSub.nil))
    · exact ⟨by omega, hlo, hhi, by omega⟩
    rintro ⟨lo, hi⟩ ⟨l1, l2, l3, l4⟩
    simp only at l1 l2 l3 l4
    try simp only [List.cons_append, List.nil_append]
    by_cases hlt : lo < hi
    · obtain ⟨dd, hdd⟩ := Int.eq_ofNat_of_zero_le (show 0 ≤ hi - lo by omega)
      obtain ⟨q, hq⟩ : ∃ q, q = dd / 2 := ⟨_, rfl⟩
      obtain ⟨mid, hmid⟩ : ∃ mid, mid = lo + (q : Int) := ⟨_, rfl⟩
      by_cases hmy : mid < gr g y
      · have hxr : (List.replicate n (-1 : Int))[x]? = some (-1) := by rw [List.getElem?_replicate, if_pos xn]
        repeat' (first
          | ((with_reducible apply oq_id); first | ((with_reducible apply (oq_subE (k := ((dd : Nat) : Int)))); exact rfl; exact rfl; omega) | ((with_reducible apply (oq_quoE (k := ((q : Nat) : Int)))); exact rfl; exact rfl; (refine ⟨tdiv_nat (a := dd) (b := 2) (by omega) rfl (by omega), by omega, by omega, by omega⟩)) | ((with_reducible apply (oq_addE (k := mid))); exact rfl; exact rfl; omega) | (focus ((with_reducible apply oq_indexAddrN); (iterate 4 exact rfl); omega)) | ((with_reducible apply oq_lssT); exact rfl; exact rfl; omega) | ((with_reducible apply oq_lssF); exact rfl; exact rfl; omega) | ((with_reducible apply oq_geqT); exact rfl; exact rfl; omega) | ((with_reducible apply oq_geqF); exact rfl; exact rfl; omega) | (apply oq_fn; exact rfl; try first | exact trivial | (and_intros <;> omega)) | ((with_reducible apply oq_load); exact rfl; exact rfl) | ((with_reducible apply oq_loadAgg); exact rfl; exact rfl) | ((with_reducible apply oq_build); (iterate 3 exact rfl)) | ((with_reducible apply oq_buildA); (iterate 4 exact rfl)) | ((with_reducible apply oq_fieldAgg); (iterate 3 exact rfl)) | ((with_reducible apply oq_indexAgg); (iterate 4 exact rfl)))
          | ((with_reducible apply tl_id); first | (with_reducible apply tl_nil) | ((with_reducible apply u_s); (iterate 3 exact rfl); (with_reducible apply os_callF (PV := Own3 (List.replicate n (-1)) n) (k := 52) (hc := Try.call52)); exact rfl; exact rfl; exact fun D w1 hw1 => steps_no bA oA cp W Hh n y g mid t yn w1 (hr.ext hw1.ext.ext) hmy; rintro _ _ ⟨bs, rfl, rfl⟩; simp only [List.cons_append, List.nil_append]) | ((with_reducible apply u_q); (iterate 4 exact rfl)) | ((with_reducible apply u_s0); exact rfl; exact rfl) | ((with_reducible apply u_s); (iterate 3 exact rfl)) | ((with_reducible apply u_skip); (iterate 3 exact rfl)) | ((with_reducible apply u_splitD); exact rfl; exact rfl; all_goals first | (intro hp; try (exfalso; omega)) | skip) | ((with_reducible apply u_splitN); exact rfl; exact rfl; all_goals first | (intro hp; try (exfalso; omega)) | skip) | ((with_reducible apply u_split); exact rfl; exact rfl; all_goals first | intro hp | skip))
          | ((with_reducible apply gx_id); first | (with_reducible apply v_nil) | ((with_reducible apply v_q); (iterate 3 exact rfl)) | ((with_reducible apply v_skip); (iterate 3 exact rfl)) | ((with_reducible apply v_splitD); exact rfl; exact rfl; all_goals first | (intro hp; try (exfalso; omega)) | skip) | ((with_reducible apply v_splitN); exact rfl; exact rfl; all_goals first | (intro hp; try (exfalso; omega)) | skip) | ((with_reducible apply v_split); exact rfl; exact rfl; all_goals first | intro hp | skip))
          | ((with_reducible apply os_id); first | ((with_reducible apply os_x); exact rfl) | ((with_reducible apply os_store); (iterate 4 exact rfl)) | ((with_reducible apply os_storeAgg); (iterate 5 exact rfl)) | ((with_reducible apply os_append (hk := app_ok22)); exact rfl; exact rfl; (repeat (first | exact P0 | apply P1))) | ((with_reducible apply os_appendNil (hk := app_ok22)); exact rfl; exact rfl))
          | ((with_reducible apply ox_id); first | ((with_reducible apply ox_alloc); exact rfl; intro _) | ((with_reducible apply ox_box); exact rfl; exact rfl; intro _) | ((with_reducible apply ox_boxAgg); exact rfl; intro _) | ((with_reducible apply ox_buildSlice1); (iterate 6 exact rfl); intro _) | ((with_reducible apply ox_buildSlice2); (iterate 6 exact rfl); intro _) | ((with_reducible apply ox_buildSlice); (iterate 4 exact rfl)))
          | ((with_reducible apply rd_id); first | (apply rdI hxr; (repeat (first | exact P0 | apply P1)); done) | (apply Rd.own; (repeat (first | exact P0 | apply P1)); exact rfl; done) | (apply Rd.old; (first | (with_reducible assumption) | exact c0 | exact c1 | exact c2 | exact c3 | exact c4 | exact c5 | exact c6 | exact c7 | exact c8 | exact d0 | exact d1 | exact d2 | exact d3 | exact d4 | exact d5); first | exact List.not_mem_nil | exact m0 | exact m1 | exact m2 | exact m3 | exact m4 | exact m5 | exact m6 | exact m7 | exact m8 | exact m9))
          | ((with_reducible apply t_id); first | (with_reducible apply t_seq) | (apply t_region; kernel_rfl) | (apply t_drawn; kernel_rfl; decide +kernel; try simp only [List.append_eq, List.cons_append, List.nil_append]) | ((with_reducible apply t_condT); exact rfl) | ((with_reducible apply t_condF); exact rfl) | ((with_reducible apply t_condD); exact rfl; all_goals first | (intro hp; try (exfalso; omega)) | skip) | ((with_reducible apply t_condN); exact rfl; all_goals first | (intro hp; try (exfalso; omega)) | skip) | ((with_reducible apply t_cond); exact rfl; all_goals first | intro hp | skip) | (with_reducible apply t_ret) | (with_reducible apply t_skip) | (with_reducible apply t_exit) | (with_reducible apply t_block))
          | with_reducible apply q_thenN
          | with_reducible apply q_thenR
          | with_reducible apply q_blockR
          | with_reducible apply q_blockN
          | with_reducible apply q_thenE
          | ((with_reducible apply q_blockE); exact rfl)
          | ((with_reducible apply q_blockO); exact rfl)
          | exact P0
          | (with_reducible apply P1)
          | exact Rdn.zero
          | apply Rdn.succ
          | ((with_reducible apply Norm.nil); exact rfl)
          | ((with_reducible apply Norm.cons); exact rfl)
          | (with_reducible apply end_ret)
          | (with_reducible apply end_normal)
          | exact rvs_nil
          | (with_reducible apply rvs_cons)
          | ((with_reducible apply rv_tmp); exact rfl)
          | ((with_reducible apply rv_cell); exact rfl; exact rfl)
          | ((with_reducible apply rv_cellAgg); exact rfl; exact rfl)
          | exact Nat.le_of_ble_eq_true rfl
          | exact (rfl : (_ : Bool) = true)
          | omega
          | (intro _ _; with_reducible apply tl_id)
          | (intro _; with_reducible apply tl_id)
          | (intro _ _; with_reducible apply al_id)
          | (intro _; with_reducible apply al_id))
        all_goals (refine ⟨(mid + 1, hi), ⟨by simp only; omega, by simp only; omega, l3, l4⟩, (by simp only; omega), ?_, ?_⟩ <;> (try simp only [List.cons_append, List.nil_append]) <;> (repeat' (first | exact FrSub.nil | (apply FrSub.cons; exact rfl) | exact HpSub.refl _ | (apply HpSub.consE; (repeat (first | exact P0 | apply P1)); exact rfl) | exact HpSub.nil)))
      · have hmy2 : gr g y ≤ mid := by omega
        obtain ⟨k2, L2, hB2, hD2⟩ := BI.runs t _ rfl (bfs_start (g := g) (h := mid) t yn hmy2)
        have hxr := lvI_at (l := L2) (c := x) (by rw [hD2.len]; exact xn)
        by_cases hm : h ≤ mid
        · have hpos := hD2.reach t yn ((hh.is.mono hm).symm t xn)
          repeat' (first
            | ((with_reducible apply oq_id); first | ((with_reducible apply (oq_subE (k := ((dd : Nat) : Int)))); exact rfl; exact rfl; omega) | ((with_reducible apply (oq_quoE (k := ((q : Nat) : Int)))); exact rfl; exact rfl; (refine ⟨tdiv_nat (a := dd) (b := 2) (by omega) rfl (by omega), by omega, by omega, by omega⟩)) | ((with_reducible apply (oq_addE (k := mid))); exact rfl; exact rfl; omega) | (focus ((with_reducible apply oq_indexAddrN); (iterate 4 exact rfl); omega)) | ((with_reducible apply oq_lssT); exact rfl; exact rfl; omega) | ((with_reducible apply oq_lssF); exact rfl; exact rfl; omega) | ((with_reducible apply oq_geqT); exact rfl; exact rfl; omega) | ((with_reducible apply oq_geqF); exact rfl; exact rfl; omega) | (apply oq_fn; exact rfl; try first | exact trivial | (and_intros <;> omega)) | ((with_reducible apply oq_load); exact rfl; exact rfl) | ((with_reducible apply oq_loadAgg); exact rfl; exact rfl) | ((with_reducible apply oq_build); (iterate 3 exact rfl)) | ((with_reducible apply oq_buildA); (iterate 4 exact rfl)) | ((with_reducible apply oq_fieldAgg); (iterate 3 exact rfl)) | ((with_reducible apply oq_indexAgg); (iterate 4 exact rfl)))
            | ((with_reducible apply tl_id); first | (with_reducible apply tl_nil) | ((with_reducible apply u_s); (iterate 3 exact rfl); (with_reducible apply os_callF (PV := Own3 (lvI L2) n) (k := 52) (hc := Try.call52)); exact rfl; exact rfl; exact fun D w1 hw1 => steps_yes bA oA cp W Hh n y _ g mid L2 t yn w1 (hr.ext hw1.ext.ext) hmy2 hB2; rintro _ _ ⟨bs, rfl, rfl⟩; simp only [List.cons_append, List.nil_append]) | ((with_reducible apply u_q); (iterate 4 exact rfl)) | ((with_reducible apply u_s0); exact rfl; exact rfl) | ((with_reducible apply u_s); (iterate 3 exact rfl)) | ((with_reducible apply u_skip); (iterate 3 exact rfl)) | ((with_reducible apply u_splitD); exact rfl; exact rfl; all_goals first | (intro hp; try (exfalso; omega)) | skip) | ((with_reducible apply u_splitN); exact rfl; exact rfl; all_goals first | (intro hp; try (exfalso; omega)) | skip) | ((with_reducible apply u_split); exact rfl; exact rfl; all_goals first | intro hp | skip))
            | ((with_reducible apply gx_id); first | (with_reducible apply v_nil) | ((with_reducible apply v_q); (iterate 3 exact rfl)) | ((with_reducible apply v_skip); (iterate 3 exact rfl)) | ((with_reducible apply v_splitD); exact rfl; exact rfl; all_goals first | (intro hp; try (exfalso; omega)) | skip) | ((with_reducible apply v_splitN); exact rfl; exact rfl; all_goals first | (intro hp; try (exfalso; omega)) | skip) | ((with_reducible apply v_split); exact rfl; exact rfl; all_goals first | intro hp | skip))
            | ((with_reducible apply os_id); first | ((with_reducible apply os_x); exact rfl) | ((with_reducible apply os_store); (iterate 4 exact rfl)) | ((with_reducible apply os_storeAgg); (iterate 5 exact rfl)) | ((with_reducible apply os_append (hk := app_ok22)); exact rfl; exact rfl; (repeat (first | exact P0 | apply P1))) | ((with_reducible apply os_appendNil (hk := app_ok22)); exact rfl; exact rfl))
            | ((with_reducible apply ox_id); first | ((with_reducible apply ox_alloc); exact rfl; intro _) | ((with_reducible apply ox_box); exact rfl; exact rfl; intro _) | ((with_reducible apply ox_boxAgg); exact rfl; intro _) | ((with_reducible apply ox_buildSlice1); (iterate 6 exact rfl); intro _) | ((with_reducible apply ox_buildSlice2); (iterate 6 exact rfl); intro _) | ((with_reducible apply ox_buildSlice); (iterate 4 exact rfl)))
            | ((with_reducible apply rd_id); first | (apply rdI hxr; (repeat (first | exact P0 | apply P1)); done) | (apply Rd.own; (repeat (first | exact P0 | apply P1)); exact rfl; done) | (apply Rd.old; (first | (with_reducible assumption) | exact c0 | exact c1 | exact c2 | exact c3 | exact c4 | exact c5 | exact c6 | exact c7 | exact c8 | exact d0 | exact d1 | exact d2 | exact d3 | exact d4 | exact d5); first | exact List.not_mem_nil | exact m0 | exact m1 | exact m2 | exact m3 | exact m4 | exact m5 | exact m6 | exact m7 | exact m8 | exact m9))
            | ((with_reducible apply t_id); first | (with_reducible apply t_seq) | (apply t_region; kernel_rfl) | (apply t_drawn; kernel_rfl; decide +kernel; try simp only [List.append_eq, List.cons_append, List.nil_append]) | ((with_reducible apply t_condT); exact rfl) | ((with_reducible apply t_condF); exact rfl) | ((with_reducible apply t_condD); exact rfl; all_goals first | (intro hp; try (exfalso; omega)) | skip) | ((with_reducible apply t_condN); exact rfl; all_goals first | (intro hp; try (exfalso; omega)) | skip) | ((with_reducible apply t_cond); exact rfl; all_goals first | intro hp | skip) | (with_reducible apply t_ret) | (with_reducible apply t_skip) | (with_reducible apply t_exit) | (with_reducible apply t_block))
            | with_reducible apply q_thenN
            | with_reducible apply q_thenR
            | with_reducible apply q_blockR
            | with_reducible apply q_blockN
            | with_reducible apply q_thenE
            | ((with_reducible apply q_blockE); exact rfl)
            | ((with_reducible apply q_blockO); exact rfl)
            | exact P0
            | (with_reducible apply P1)
            | exact Rdn.zero
            | apply Rdn.succ
            | ((with_reducible apply Norm.nil); exact rfl)
            | ((with_reducible apply Norm.cons); exact rfl)
            | (with_reducible apply end_ret)
            | (with_reducible apply end_normal)
            | exact rvs_nil
            | (with_reducible apply rvs_cons)
            | ((with_reducible apply rv_tmp); exact rfl)
            | ((with_reducible apply rv_cell); exact rfl; exact rfl)
            | ((with_reducible apply rv_cellAgg); exact rfl; exact rfl)
            | exact Nat.le_of_ble_eq_true rfl
            | exact (rfl : (_ : Bool) = true)
            | omega
            | (intro _ _; with_reducible apply tl_id)
            | (intro _; with_reducible apply tl_id)
            | (intro _ _; with_reducible apply al_id)
            | (intro _; with_reducible apply al_id))
          all_goals (refine ⟨(lo, mid), ⟨l1, l2, hm, by simp only; omega⟩, (by simp only; omega), ?_, ?_⟩ <;> (try simp only [List.cons_append, List.nil_append]) <;> (repeat' (first | exact FrSub.nil | (apply FrSub.cons; exact rfl) | exact HpSub.refl _ | (apply HpSub.consE; (repeat (first | exact P0 | apply P1)); exact rfl) | exact HpSub.nil)))
        · have hz : L2.getD x 0 = 0 := by
            rcases Nat.eq_zero_or_pos (L2.getD x 0) with hz | hz
            · exact hz
            · exact absurd (hh.least _ ((hD2.back t hmy2 (L2.getD x 0 - 1) x xn (by omega)).symm t yn)) hm
          repeat' (first
            | ((with_reducible apply oq_id); first | ((with_reducible apply (oq_subE (k := ((dd : Nat) : Int)))); exact rfl; exact rfl; omega) | ((with_reducible apply (oq_quoE (k := ((q : Nat) : Int)))); exact rfl; exact rfl; (refine ⟨tdiv_nat (a := dd) (b := 2) (by omega) rfl (by omega), by omega, by omega, by omega⟩)) | ((with_reducible apply (oq_addE (k := mid))); exact rfl; exact rfl; omega) | (focus ((with_reducible apply oq_indexAddrN); (iterate 4 exact rfl); omega)) | ((with_reducible apply oq_lssT); exact rfl; exact rfl; omega) | ((with_reducible apply oq_lssF); exact rfl; exact rfl; omega) | ((with_reducible apply oq_geqT); exact rfl; exact rfl; omega) | ((with_reducible apply oq_geqF); exact rfl; exact rfl; omega) | (apply oq_fn; exact rfl; try first | exact trivial | (and_intros <;> omega)) | ((with_reducible apply oq_load); exact rfl; exact rfl) | ((with_reducible apply oq_loadAgg); exact rfl; exact rfl) | ((with_reducible apply oq_build); (iterate 3 exact rfl)) | ((with_reducible apply oq_buildA); (iterate 4 exact rfl)) | ((with_reducible apply oq_fieldAgg); (iterate 3 exact rfl)) | ((with_reducible apply oq_indexAgg); (iterate 4 exact rfl)))
            | ((with_reducible apply tl_id); first | (with_reducible apply tl_nil) | ((with_reducible apply u_s); (iterate 3 exact rfl); (with_reducible apply os_callF (PV := Own3 (lvI L2) n) (k := 52) (hc := Try.call52)); exact rfl; exact rfl; exact fun D w1 hw1 => steps_yes bA oA cp W Hh n y _ g mid L2 t yn w1 (hr.ext hw1.ext.ext) hmy2 hB2; rintro _ _ ⟨bs, rfl, rfl⟩; simp only [List.cons_append, List.nil_append]) | ((with_reducible apply u_q); (iterate 4 exact rfl)) | ((with_reducible apply u_s0); exact rfl; exact rfl) | ((with_reducible apply u_s); (iterate 3 exact rfl)) | ((with_reducible apply u_skip); (iterate 3 exact rfl)) | ((with_reducible apply u_splitD); exact rfl; exact rfl; all_goals first | (intro hp; try (exfalso; omega)) | skip) | ((with_reducible apply u_splitN); exact rfl; exact rfl; all_goals first | (intro hp; try (exfalso; omega)) | skip) | ((with_reducible apply u_split); exact rfl; exact rfl; all_goals first | intro hp | skip))
            | ((with_reducible apply gx_id); first | (with_reducible apply v_nil) | ((with_reducible apply v_q); (iterate 3 exact rfl)) | ((with_reducible apply v_skip); (iterate 3 exact rfl)) | ((with_reducible apply v_splitD); exact rfl; exact rfl; all_goals first | (intro hp; try (exfalso; omega)) | skip) | ((with_reducible apply v_splitN); exact rfl; exact rfl; all_goals first | (intro hp; try (exfalso; omega)) | skip) | ((with_reducible apply v_split); exact rfl; exact rfl; all_goals first | intro hp | skip))
            | ((with_reducible apply os_id); first | ((with_reducible apply os_x); exact rfl) | ((with_reducible apply os_store); (iterate 4 exact rfl)) | ((with_reducible apply os_storeAgg); (iterate 5 exact rfl)) | ((with_reducible apply os_append (hk := app_ok22)); exact rfl; exact rfl; (repeat (first | exact P0 | apply P1))) | ((with_reducible apply os_appendNil (hk := app_ok22)); exact rfl; exact rfl))
            | ((with_reducible apply ox_id); first | ((with_reducible apply ox_alloc); exact rfl; intro _) | ((with_reducible apply ox_box); exact rfl; exact rfl; intro _) | ((with_reducible apply ox_boxAgg); exact rfl; intro _) | ((with_reducible apply ox_buildSlice1); (iterate 6 exact rfl); intro _) | ((with_reducible apply ox_buildSlice2); (iterate 6 exact rfl); intro _) | ((with_reducible apply ox_buildSlice); (iterate 4 exact rfl)))
            | ((with_reducible apply rd_id); first | (apply rdI hxr; (repeat (first | exact P0 | apply P1)); done) | (apply Rd.own; (repeat (first | exact P0 | apply P1)); exact rfl; done) | (apply Rd.old; (first | (with_reducible assumption) | exact c0 | exact c1 | exact c2 | exact c3 | exact c4 | exact c5 | exact c6 | exact c7 | exact c8 | exact d0 | exact d1 | exact d2 | exact d3 | exact d4 | exact d5); first | exact List.not_mem_nil | exact m0 | exact m1 | exact m2 | exact m3 | exact m4 | exact m5 | exact m6 | exact m7 | exact m8 | exact m9))
            | ((with_reducible apply t_id); first | (with_reducible apply t_seq) | (apply t_region; kernel_rfl) | (apply t_drawn; kernel_rfl; decide +kernel; try simp only [List.append_eq, List.cons_append, List.nil_append]) | ((with_reducible apply t_condT); exact rfl) | ((with_reducible apply t_condF); exact rfl) | ((with_reducible apply t_condD); exact rfl; all_goals first | (intro hp; try (exfalso; omega)) | skip) | ((with_reducible apply t_condN); exact rfl; all_goals first | (intro hp; try (exfalso; omega)) | skip) | ((with_reducible apply t_cond); exact rfl; all_goals first | intro hp | skip) | (with_reducible apply t_ret) | (with_reducible apply t_skip) | (with_reducible apply t_exit) | (with_reducible apply t_block))
            | with_reducible apply q_thenN
            | with_reducible apply q_thenR
            | with_reducible apply q_blockR
            | with_reducible apply q_blockN
            | with_reducible apply q_thenE
            | ((with_reducible apply q_blockE); exact rfl)
            | ((with_reducible apply q_blockO); exact rfl)
            | exact P0
            | (with_reducible apply P1)
            | exact Rdn.zero
            | apply Rdn.succ
            | ((with_reducible apply Norm.nil); exact rfl)
            | ((with_reducible apply Norm.cons); exact rfl)
            | (with_reducible apply end_ret)
            | (with_reducible apply end_normal)
            | exact rvs_nil
            | (with_reducible apply rvs_cons)
            | ((with_reducible apply rv_tmp); exact rfl)
            | ((with_reducible apply rv_cell); exact rfl; exact rfl)
            | ((with_reducible apply rv_cellAgg); exact rfl; exact rfl)
            | exact Nat.le_of_ble_eq_true rfl
            | exact (rfl : (_ : Bool) = true)
            | omega
            | (intro _ _; with_reducible apply tl_id)
            | (intro _; with_reducible apply tl_id)
            | (intro _ _; with_reducible apply al_id)
            | (intro _; with_reducible apply al_id))
          all_goals (refine ⟨(mid + 1, hi), ⟨by simp only; omega, by simp only; omega, l3, l4⟩, (by simp only; omega), ?_, ?_⟩ <;> (try simp only [List.cons_append, List.nil_append]) <;> (repeat' (first | exact FrSub.nil | (apply FrSub.cons; exact rfl) | exact HpSub.refl _ | (apply HpSub.consE; (repeat (first | exact P0 | apply P1)); exact rfl) | exact HpSub.nil)))
    · obtain rfl : lo = h := by omega
      repeat' (first
        | ((with_reducible apply oq_id); first | ((with_reducible apply oq_lssT); exact rfl; exact rfl; omega) | ((with_reducible apply oq_lssF); exact rfl; exact rfl; omega) | (apply oq_fn; exact rfl; try first | exact trivial | (and_intros <;> omega)) | ((with_reducible apply oq_load); exact rfl; exact rfl) | ((with_reducible apply oq_loadAgg); exact rfl; exact rfl) | ((with_reducible apply oq_build); (iterate 3 exact rfl)) | ((with_reducible apply oq_buildA); (iterate 4 exact rfl)) | ((with_reducible apply oq_fieldAgg); (iterate 3 exact rfl)) | ((with_reducible apply oq_indexAgg); (iterate 4 exact rfl)))
        | ((with_reducible apply tl_id); first | (with_reducible apply tl_nil) | ((with_reducible apply u_q); (iterate 4 exact rfl)) | ((with_reducible apply u_s0); exact rfl; exact rfl) | ((with_reducible apply u_s); (iterate 3 exact rfl)) | ((with_reducible apply u_skip); (iterate 3 exact rfl)) | ((with_reducible apply u_splitD); exact rfl; exact rfl; all_goals first | (intro hp; try (exfalso; omega)) | skip) | ((with_reducible apply u_splitN); exact rfl; exact rfl; all_goals first | (intro hp; try (exfalso; omega)) | skip) | ((with_reducible apply u_split); exact rfl; exact rfl; all_goals first | intro hp | skip))
        | ((with_reducible apply gx_id); first | (with_reducible apply v_nil) | ((with_reducible apply v_q); (iterate 3 exact rfl)) | ((with_reducible apply v_skip); (iterate 3 exact rfl)) | ((with_reducible apply v_splitD); exact rfl; exact rfl; all_goals first | (intro hp; try (exfalso; omega)) | skip) | ((with_reducible apply v_splitN); exact rfl; exact rfl; all_goals first | (intro hp; try (exfalso; omega)) | skip) | ((with_reducible apply v_split); exact rfl; exact rfl; all_goals first | intro hp | skip))
        | ((with_reducible apply os_id); first | ((with_reducible apply os_x); exact rfl) | ((with_reducible apply os_store); (iterate 4 exact rfl)) | ((with_reducible apply os_storeAgg); (iterate 5 exact rfl)) | ((with_reducible apply os_append (hk := app_ok22)); exact rfl; exact rfl; (repeat (first | exact P0 | apply P1))) | ((with_reducible apply os_appendNil (hk := app_ok22)); exact rfl; exact rfl))
        | ((with_reducible apply ox_id); first | ((with_reducible apply ox_alloc); exact rfl; intro _) | ((with_reducible apply ox_box); exact rfl; exact rfl; intro _) | ((with_reducible apply ox_boxAgg); exact rfl; intro _) | ((with_reducible apply ox_buildSlice1); (iterate 6 exact rfl); intro _) | ((with_reducible apply ox_buildSlice2); (iterate 6 exact rfl); intro _) | ((with_reducible apply ox_buildSlice); (iterate 4 exact rfl)))
        | ((with_reducible apply rd_id); first | (apply Rd.own; (repeat (first | exact P0 | apply P1)); exact rfl; done) | (apply Rd.old; (first | (with_reducible assumption) | exact c0 | exact c1 | exact c2 | exact c3 | exact c4 | exact c5 | exact c6 | exact c7 | exact c8 | exact d0 | exact d1 | exact d2 | exact d3 | exact d4 | exact d5); first | exact List.not_mem_nil | exact m0 | exact m1 | exact m2 | exact m3 | exact m4 | exact m5 | exact m6 | exact m7 | exact m8 | exact m9))
        | ((with_reducible apply t_id); first | (with_reducible apply t_seq) | (apply t_region; kernel_rfl) | (apply t_drawn; kernel_rfl; decide +kernel; try simp only [List.append_eq, List.cons_append, List.nil_append]) | ((with_reducible apply t_condT); exact rfl) | ((with_reducible apply t_condF); exact rfl) | ((with_reducible apply t_condD); exact rfl; all_goals first | (intro hp; try (exfalso; omega)) | skip) | ((with_reducible apply t_condN); exact rfl; all_goals first | (intro hp; try (exfalso; omega)) | skip) | ((with_reducible apply t_cond); exact rfl; all_goals first | intro hp | skip) | (with_reducible apply t_ret) | (with_reducible apply t_skip) | (with_reducible apply t_exit) | (with_reducible apply t_block))
        | with_reducible apply q_thenN
        | with_reducible apply q_thenR
        | with_reducible apply q_blockR
        | with_reducible apply q_blockN
        | with_reducible apply q_thenE
        | ((with_reducible apply q_blockE); exact rfl)
        | ((with_reducible apply q_blockO); exact rfl)
        | exact P0
        | (with_reducible apply P1)
        | exact Rdn.zero
        | apply Rdn.succ
        | ((with_reducible apply Norm.nil); exact rfl)
        | ((with_reducible apply Norm.cons); exact rfl)
        | (with_reducible apply end_ret)
        | (with_reducible apply end_normal)
        | exact rvs_nil
        | (with_reducible apply rvs_cons)
        | ((with_reducible apply rv_tmp); exact rfl)
        | ((with_reducible apply rv_cell); exact rfl; exact rfl)
        | ((with_reducible apply rv_cellAgg); exact rfl; exact rfl)
        | exact Nat.le_of_ble_eq_true rfl
        | exact (rfl : (_ : Bool) = true)
        | omega
        | (intro _ _; with_reducible apply tl_id)
        | (intro _; with_reducible apply tl_id)
        | (intro _ _; with_reducible apply al_id)
        | (intro _; with_reducible apply al_id))
      all_goals exact ⟨rfl, (), trivial, by (repeat (first | exact FrSub.nil | (apply FrSub.cons; exact rfl))), by (repeat (first | exact HpSub.refl _ | (apply HpSub.consE; (repeat (first | exact P0 | apply P1)); exact rfl) | exact HpSub.nil))⟩
  rintro ⟨⟩ -
  try dsimp only
  refine t_cut (ι := Nat) (fun bl => [(1, .int .i64 ((x : Nat) : Int)), (2, .int .i64 ((y : Nat) : Int)), (3, .pointer (some ⟨b3, 0, none⟩)), (9, .int .i64 h), (12, .slice (some ⟨bl, 0, none⟩) n n)]) (fun bl => [(b3, [.int .i64 ((W : Nat) : Int), .int .i64 ((Hh : Nat) : Int), .slice (some ⟨bA, oA, none⟩) n cp], some (24, 3, 1)), (bl, (lvI L).map iv, some (3, 1, n))]) (fun _ => True) ?_ ?_
  · repeat' (first
      | ((with_reducible apply oq_id); first | (apply oq_fn; exact rfl; try first | exact trivial | (and_intros <;> omega)) | ((with_reducible apply oq_load); exact rfl; exact rfl) | ((with_reducible apply oq_loadAgg); exact rfl; exact rfl) | ((with_reducible apply oq_build); (iterate 3 exact rfl)) | ((with_reducible apply oq_buildA); (iterate 4 exact rfl)) | ((with_reducible apply oq_fieldAgg); (iterate 3 exact rfl)) | ((with_reducible apply oq_indexAgg); (iterate 4 exact rfl)))
      | ((with_reducible apply tl_id); first | (with_reducible apply tl_nil) | ((with_reducible apply u_s); (iterate 3 exact rfl); (with_reducible apply os_callF (PV := Own3 (lvI L) n) (k := 52) (hc := Try.call52)); exact rfl; exact rfl; exact fun D w1 hw1 => steps_yes bA oA cp W Hh n y _ g h L t yn w1 (hr.ext hw1.ext.ext) hgy hB; rintro _ _ ⟨bs, rfl, rfl⟩; simp only [List.cons_append, List.nil_append]) | ((with_reducible apply u_q); (iterate 4 exact rfl)) | ((with_reducible apply u_s0); exact rfl; exact rfl) | ((with_reducible apply u_s); (iterate 3 exact rfl)) | ((with_reducible apply u_skip); (iterate 3 exact rfl)) | ((with_reducible apply u_splitD); exact rfl; exact rfl; all_goals first | (intro hp; try (exfalso; omega)) | skip) | ((with_reducible apply u_splitN); exact rfl; exact rfl; all_goals first | (intro hp; try (exfalso; omega)) | skip) | ((with_reducible apply u_split); exact rfl; exact rfl; all_goals first | intro hp | skip))
      | ((with_reducible apply gx_id); first | (with_reducible apply v_nil) | ((with_reducible apply v_q); (iterate 3 exact rfl)) | ((with_reducible apply v_skip); (iterate 3 exact rfl)) | ((with_reducible apply v_splitD); exact rfl; exact rfl; all_goals first | (intro hp; try (exfalso; omega)) | skip) | ((with_reducible apply v_splitN); exact rfl; exact rfl; all_goals first | (intro hp; try (exfalso; omega)) | skip) | ((with_reducible apply v_split); exact rfl; exact rfl; all_goals first | intro hp | skip))
      | ((with_reducible apply os_id); first | ((with_reducible apply os_x); exact rfl) | ((with_reducible apply os_store); (iterate 4 exact rfl)) | ((with_reducible apply os_storeAgg); (iterate 5 exact rfl)) | ((with_reducible apply os_append (hk := app_ok22)); exact rfl; exact rfl; (repeat (first | exact P0 | apply P1))) | ((with_reducible apply os_appendNil (hk := app_ok22)); exact rfl; exact rfl))
      | ((with_reducible apply ox_id); first | ((with_reducible apply ox_alloc); exact rfl; intro _) | ((with_reducible apply ox_box); exact rfl; exact rfl; intro _) | ((with_reducible apply ox_boxAgg); exact rfl; intro _) | ((with_reducible apply ox_buildSlice1); (iterate 6 exact rfl); intro _) | ((with_reducible apply ox_buildSlice2); (iterate 6 exact rfl); intro _) | ((with_reducible apply ox_buildSlice); (iterate 4 exact rfl)))
      | ((with_reducible apply rd_id); first | (apply Rd.own; (repeat (first | exact P0 | apply P1)); exact rfl; done) | (apply Rd.old; (first | (with_reducible assumption) | exact c0 | exact c1 | exact c2 | exact c3 | exact c4 | exact c5 | exact c6 | exact c7 | exact c8 | exact d0 | exact d1 | exact d2 | exact d3 | exact d4 | exact d5); first | exact List.not_mem_nil | exact m0 | exact m1 | exact m2 | exact m3 | exact m4 | exact m5 | exact m6 | exact m7 | exact m8 | exact m9))
      | ((with_reducible apply t_id); first | (with_reducible apply t_seq) | (apply t_region; kernel_rfl) | (apply t_drawn; kernel_rfl; decide +kernel; try simp only [List.append_eq, List.cons_append, List.nil_append]) | ((with_reducible apply t_condT); exact rfl) | ((with_reducible apply t_condF); exact rfl) | ((with_reducible apply t_condD); exact rfl; all_goals first | (intro hp; try (exfalso; omega)) | skip) | ((with_reducible apply t_condN); exact rfl; all_goals first | (intro hp; try (exfalso; omega)) | skip) | ((with_reducible apply t_cond); exact rfl; all_goals first | intro hp | skip) | (with_reducible apply t_ret) | (with_reducible apply t_skip) | (with_reducible apply t_exit) | (with_reducible apply t_block))
      | with_reducible apply q_thenN
      | with_reducible apply q_thenR
      | with_reducible apply q_blockR
      | with_reducible apply q_blockN
      | with_reducible apply q_thenE
      | ((with_reducible apply q_blockE); exact rfl)
      | ((with_reducible apply q_blockO); exact rfl)
      | exact P0
      | (with_reducible apply P1)
      | exact Rdn.zero
      | apply Rdn.succ
      | ((with_reducible apply Norm.nil); exact rfl)
      | ((with_reducible apply Norm.cons); exact rfl)
      | (with_reducible apply end_ret)
      | (with_reducible apply end_normal)
      | exact rvs_nil
      | (with_reducible apply rvs_cons)
      | ((with_reducible apply rv_tmp); exact rfl)
      | ((with_reducible apply rv_cell); exact rfl; exact rfl)
      | ((with_reducible apply rv_cellAgg); exact rfl; exact rfl)
      | exact Nat.le_of_ble_eq_true rfl
      | exact (rfl : (_ : Bool) = true)
      | omega
      | (intro _ _; with_reducible apply tl_id)
      | (intro _; with_reducible apply tl_id)
      | (intro _ _; with_reducible apply al_id)
      | (intro _; with_reducible apply al_id))
    all_goals exact ⟨(by first | rfl | trivial), bs, trivial, by (repeat (first | exact FrSub.nil | (apply FrSub.cons; exact rfl))), by (repeat (first | exact HpSub.refl _ | (apply HpSub.consE; (repeat (first | exact P0 | apply P1)); exact rfl) | apply HpSub.skipX | exact HpSub.nil))⟩
  rintro bl -
  try dsimp only
  refine t_cut (ι := Nat × Nat) (fun z => [(1, .int .i64 ((x : Nat) : Int)), (2, .int .i64 ((y : Nat) : Int)), (3, .pointer (some ⟨b3, 0, none⟩)), (9, .int .i64 h), (12, .slice (some ⟨bl, 0, none⟩) n n), (13, sI (cI [x]) (some z))]) (fun z => [(b3, [.int .i64 ((W : Nat) : Int), .int .i64 ((Hh : Nat) : Int), .slice (some ⟨bA, oA, none⟩) n cp], some (24, 3, 1)), (bl, (lvI L).map iv, some (3, 1, n))] ++ hI (cI [x]) (some z)) (fun _ => True) ?_ ?_
  · repeat' (first
      | ((with_reducible apply oq_id); first | (apply oq_fn; exact rfl; try first | exact trivial | (and_intros <;> omega)) | ((with_reducible apply oq_load); exact rfl; exact rfl) | ((with_reducible apply oq_loadAgg); exact rfl; exact rfl) | ((with_reducible apply oq_build); (iterate 3 exact rfl)) | ((with_reducible apply oq_buildA); (iterate 4 exact rfl)) | ((with_reducible apply oq_fieldAgg); (iterate 3 exact rfl)) | ((with_reducible apply oq_indexAgg); (iterate 4 exact rfl)))
      | ((with_reducible apply tl_id); first | (with_reducible apply tl_nil) | ((with_reducible apply u_q); (iterate 4 exact rfl)) | ((with_reducible apply u_s0); exact rfl; exact rfl) | ((with_reducible apply u_s); (iterate 3 exact rfl)) | ((with_reducible apply u_skip); (iterate 3 exact rfl)) | ((with_reducible apply u_splitD); exact rfl; exact rfl; all_goals first | (intro hp; try (exfalso; omega)) | skip) | ((with_reducible apply u_splitN); exact rfl; exact rfl; all_goals first | (intro hp; try (exfalso; omega)) | skip) | ((with_reducible apply u_split); exact rfl; exact rfl; all_goals first | intro hp | skip))
      | ((with_reducible apply gx_id); first | (with_reducible apply v_nil) | ((with_reducible apply v_q); (iterate 3 exact rfl)) | ((with_reducible apply v_skip); (iterate 3 exact rfl)) | ((with_reducible apply v_splitD); exact rfl; exact rfl; all_goals first | (intro hp; try (exfalso; omega)) | skip) | ((with_reducible apply v_splitN); exact rfl; exact rfl; all_goals first | (intro hp; try (exfalso; omega)) | skip) | ((with_reducible apply v_split); exact rfl; exact rfl; all_goals first | intro hp | skip))
      | ((with_reducible apply os_id); first | ((with_reducible apply os_x); exact rfl) | ((with_reducible apply os_store); (iterate 4 exact rfl)) | ((with_reducible apply os_storeAgg); (iterate 5 exact rfl)) | ((with_reducible apply os_append (hk := app_ok22)); exact rfl; exact rfl; (repeat (first | exact P0 | apply P1))) | ((with_reducible apply os_appendNil (hk := app_ok22)); exact rfl; exact rfl))
      | ((with_reducible apply ox_id); first | ((with_reducible apply ox_alloc); exact rfl; intro _) | ((with_reducible apply ox_box); exact rfl; exact rfl; intro _) | ((with_reducible apply ox_boxAgg); exact rfl; intro _) | ((with_reducible apply ox_buildSlice1); (iterate 6 exact rfl); intro _) | ((with_reducible apply ox_buildSlice2); (iterate 6 exact rfl); intro _) | ((with_reducible apply ox_buildSlice); (iterate 4 exact rfl)))
      | ((with_reducible apply rd_id); first | (apply Rd.own; (repeat (first | exact P0 | apply P1)); exact rfl; done) | (apply Rd.old; (first | (with_reducible assumption) | exact c0 | exact c1 | exact c2 | exact c3 | exact c4 | exact c5 | exact c6 | exact c7 | exact c8 | exact d0 | exact d1 | exact d2 | exact d3 | exact d4 | exact d5); first | exact List.not_mem_nil | exact m0 | exact m1 | exact m2 | exact m3 | exact m4 | exact m5 | exact m6 | exact m7 | exact m8 | exact m9))
      | ((with_reducible apply t_id); first | (with_reducible apply t_seq) | (apply t_region; kernel_rfl) | (apply t_drawn; kernel_rfl; decide +kernel; try simp only [List.append_eq, List.cons_append, List.nil_append]) | ((with_reducible apply t_condT); exact rfl) | ((with_reducible apply t_condF); exact rfl) | ((with_reducible apply t_condD); exact rfl; all_goals first | (intro hp; try (exfalso; omega)) | skip) | ((with_reducible apply t_condN); exact rfl; all_goals first | (intro hp; try (exfalso; omega)) | skip) | ((with_reducible apply t_cond); exact rfl; all_goals first | intro hp | skip) | (with_reducible apply t_ret) | (with_reducible apply t_skip) | (with_reducible apply t_exit) | (with_reducible apply t_block))
      | with_reducible apply q_thenN
      | with_reducible apply q_thenR
      | with_reducible apply q_blockR
      | with_reducible apply q_blockN
      | with_reducible apply q_thenE
      | ((with_reducible apply q_blockE); exact rfl)
      | ((with_reducible apply q_blockO); exact rfl)
      | exact P0
      | (with_reducible apply P1)
      | exact Rdn.zero
      | apply Rdn.succ
      | ((with_reducible apply Norm.nil); exact rfl)
      | ((with_reducible apply Norm.cons); exact rfl)
      | (with_reducible apply end_ret)
      | (with_reducible apply end_normal)
      | exact rvs_nil
      | (with_reducible apply rvs_cons)
      | ((with_reducible apply rv_tmp); exact rfl)
      | ((with_reducible apply rv_cell); exact rfl; exact rfl)
      | ((with_reducible apply rv_cellAgg); exact rfl; exact rfl)
      | exact Nat.le_of_ble_eq_true rfl
      | exact (rfl : (_ : Bool) = true)
      | omega
      | (intro _ _; with_reducible apply tl_id)
      | (intro _; with_reducible apply tl_id)
      | (intro _ _; with_reducible apply al_id)
      | (intro _; with_reducible apply al_id))
    all_goals (rename_i bN; exact ⟨rfl, (bN, 1), trivial, by (repeat' (first | exact FrSub.nil | (apply FrSub.cons; exact rfl) | (apply FrSub.consE; exact rfl; first | (focus (simp [sI, cI, qS]; done)) | skip) | exact HpSub.refl _ | (apply HpSub.consE; (repeat (first | exact P0 | apply P1)); first | exact rfl | (focus (simp [iv, cI]; done))) | apply HpSub.skipX | exact HpSub.nil)), by (repeat' (first | exact FrSub.nil | (apply FrSub.cons; exact rfl) | (apply FrSub.consE; exact rfl; first | (focus (simp [sI, cI, qS]; done)) | skip) | exact HpSub.refl _ | (apply HpSub.consE; (repeat (first | exact P0 | apply P1)); first | exact rfl | (focus (simp [iv, cI]; done))) | apply HpSub.skipX | exact HpSub.nil))⟩)
  rintro ⟨bp, cq⟩ -
  try dsimp only
  obtain ⟨LX, hLX⟩ : ∃ LX, LX = L.getD x 0 := ⟨_, rfl⟩
  have hxpos : 0 < L.getD x 0 := hD.reach t yn (hh.is.symm t xn)
  have hLlen := hD.len
  have hLb := hD.bnd
  refine t_cut (ι := Nat × Nat) (fun z => [(9, .int .i64 h), (13, sI (cI P) (some z))]) (fun z => hI (cI P) (some z)) (fun _ => True) ?_ ?_
  · repeat' (first
      | ((with_reducible apply oq_id); first | (apply oq_fn; exact rfl; try first | exact trivial | (and_intros <;> omega)) | ((with_reducible apply oq_load); exact rfl; exact rfl) | ((with_reducible apply oq_loadAgg); exact rfl; exact rfl) | ((with_reducible apply oq_build); (iterate 3 exact rfl)) | ((with_reducible apply oq_buildA); (iterate 4 exact rfl)) | ((with_reducible apply oq_fieldAgg); (iterate 3 exact rfl)) | ((with_reducible apply oq_indexAgg); (iterate 4 exact rfl)))
      | ((with_reducible apply tl_id); first | (with_reducible apply tl_nil) | ((with_reducible apply u_q); (iterate 4 exact rfl)) | ((with_reducible apply u_s0); exact rfl; exact rfl) | ((with_reducible apply u_s); (iterate 3 exact rfl)) | ((with_reducible apply u_skip); (iterate 3 exact rfl)) | ((with_reducible apply u_splitD); exact rfl; exact rfl; all_goals first | (intro hp; try (exfalso; omega)) | skip) | ((with_reducible apply u_splitN); exact rfl; exact rfl; all_goals first | (intro hp; try (exfalso; omega)) | skip) | ((with_reducible apply u_split); exact rfl; exact rfl; all_goals first | intro hp | skip))
      | ((with_reducible apply gx_id); first | (with_reducible apply v_nil) | ((with_reducible apply v_q); (iterate 3 exact rfl)) | ((with_reducible apply v_skip); (iterate 3 exact rfl)) | ((with_reducible apply v_splitD); exact rfl; exact rfl; all_goals first | (intro hp; try (exfalso; omega)) | skip) | ((with_reducible apply v_splitN); exact rfl; exact rfl; all_goals first | (intro hp; try (exfalso; omega)) | skip) | ((with_reducible apply v_split); exact rfl; exact rfl; all_goals first | intro hp | skip))
      | ((with_reducible apply os_id); first | ((with_reducible apply os_x); exact rfl) | ((with_reducible apply os_store); (iterate 4 exact rfl)) | ((with_reducible apply os_storeAgg); (iterate 5 exact rfl)) | ((with_reducible apply os_append (hk := app_ok22)); exact rfl; exact rfl; (repeat (first | exact P0 | apply P1))) | ((with_reducible apply os_appendNil (hk := app_ok22)); exact rfl; exact rfl))
      | ((with_reducible apply ox_id); first | ((with_reducible apply ox_alloc); exact rfl; intro _) | ((with_reducible apply ox_box); exact rfl; exact rfl; intro _) | ((with_reducible apply ox_boxAgg); exact rfl; intro _) | ((with_reducible apply ox_buildSlice1); (iterate 6 exact rfl); intro _) | ((with_reducible apply ox_buildSlice2); (iterate 6 exact rfl); intro _) | ((with_reducible apply ox_buildSlice); (iterate 4 exact rfl)))
      | ((with_reducible apply rd_id); first | (apply Rd.own; (repeat (first | exact P0 | apply P1)); exact rfl; done) | (apply Rd.old; (first | (with_reducible assumption) | exact c0 | exact c1 | exact c2 | exact c3 | exact c4 | exact c5 | exact c6 | exact c7 | exact c8 | exact d0 | exact d1 | exact d2 | exact d3 | exact d4 | exact d5); first | exact List.not_mem_nil | exact m0 | exact m1 | exact m2 | exact m3 | exact m4 | exact m5 | exact m6 | exact m7 | exact m8 | exact m9))
      | ((with_reducible apply t_id); first | (with_reducible apply t_seq) | (apply t_region; kernel_rfl) | (apply t_drawn; kernel_rfl; decide +kernel; try simp only [List.append_eq, List.cons_append, List.nil_append]) | ((with_reducible apply t_condT); exact rfl) | ((with_reducible apply t_condF); exact rfl) | ((with_reducible apply t_condD); exact rfl; all_goals first | (intro hp; try (exfalso; omega)) | skip) | ((with_reducible apply t_condN); exact rfl; all_goals first | (intro hp; try (exfalso; omega)) | skip) | ((with_reducible apply t_cond); exact rfl; all_goals first | intro hp | skip) | (with_reducible apply t_ret) | (with_reducible apply t_skip) | (with_reducible apply t_exit) | (with_reducible apply t_block))
      | with_reducible apply q_thenN
      | with_reducible apply q_thenR
      | with_reducible apply q_blockR
      | with_reducible apply q_blockN
      | with_reducible apply q_thenE
      | ((with_reducible apply q_blockE); exact rfl)
      | ((with_reducible apply q_blockO); exact rfl)
      | exact P0
      | (with_reducible apply P1)
      | exact Rdn.zero
      | apply Rdn.succ
      | ((with_reducible apply Norm.nil); exact rfl)
      | ((with_reducible apply Norm.cons); exact rfl)
      | (with_reducible apply end_ret)
      | (with_reducible apply end_normal)
      | exact rvs_nil
      | (with_reducible apply rvs_cons)
      | ((with_reducible apply rv_tmp); exact rfl)
      | ((with_reducible apply rv_cell); exact rfl; exact rfl)
      | ((with_reducible apply rv_cellAgg); exact rfl; exact rfl)
      | exact Nat.le_of_ble_eq_true rfl
      | exact (rfl : (_ : Bool) = true)
      | omega
      | (intro _ _; with_reducible apply tl_id)
      | (intro _; with_reducible apply tl_id)
      | (intro _ _; with_reducible apply al_id)
      | (intro _; with_reducible apply al_id))
    apply t_loopK (GH := []) (ι := Nat × List Nat × Nat × Nat) [2, 3, 9, 12] (fun z => [(14, .int .i64 ((z.1 : Nat) : Int)), (13, sI (cI (z.2.1 ++ [z.1])) (some z.2.2))]) (fun z => [(b3, [.int .i64 ((W : Nat) : Int), .int .i64 ((Hh : Nat) : Int), .slice (some ⟨bA, oA, none⟩) n cp], some (24, 3, 1)), (bl, (lvI L).map iv, some (3, 1, n))] ++ hI (cI (z.2.1 ++ [z.1])) (some z.2.2)) (fun z => ∃ P2, P = z.2.1 ++ P2 ∧ Pth W n L y z.1 P2 ∧ z.1 < n ∧ 0 < L.getD z.1 0 ∧ z.2.1.length + L.getD z.1 0 = L.getD x 0) (fun z => L.getD z.1 0) ((x, [], bp, cq))
    (repeat (first | exact KeepF.nil | (apply KeepF.cons; exact rfl) | apply KeepF.skip))
    (repeat (first | exact FrSub.nil | (apply FrSub.cons; exact rfl)))
    (simp only [List.append_nil]; exact HpSub.refl _)
    · exact ⟨P, rfl, hPt, xn, hxpos, by simp⟩
    rintro ⟨at_, pre, bp, cq⟩ ⟨P2, hPp, hP2, han, hla, hlen⟩
    simp only at hPp hP2 han hla hlen
    try dsimp only
    simp only [List.append_nil, List.cons_append, List.nil_append]
    have hbx := hLb x
    cases hP2 with
    | done =>
      repeat' (first
        | ((with_reducible apply oq_id); first | ((with_reducible apply oq_neqT); exact rfl; exact rfl; omega) | ((with_reducible apply oq_neqF); exact rfl; exact rfl; omega) | (apply oq_fn; exact rfl; try first | exact trivial | (and_intros <;> omega)) | ((with_reducible apply oq_load); exact rfl; exact rfl) | ((with_reducible apply oq_loadAgg); exact rfl; exact rfl) | ((with_reducible apply oq_build); (iterate 3 exact rfl)) | ((with_reducible apply oq_buildA); (iterate 4 exact rfl)) | ((with_reducible apply oq_fieldAgg); (iterate 3 exact rfl)) | ((with_reducible apply oq_indexAgg); (iterate 4 exact rfl)))
        | ((with_reducible apply tl_id); first | (with_reducible apply tl_nil) | ((with_reducible apply u_q); (iterate 4 exact rfl)) | ((with_reducible apply u_s0); exact rfl; exact rfl) | ((with_reducible apply u_s); (iterate 3 exact rfl)) | ((with_reducible apply u_skip); (iterate 3 exact rfl)) | ((with_reducible apply u_splitD); exact rfl; exact rfl; all_goals first | (intro hp; try (exfalso; omega)) | skip) | ((with_reducible apply u_splitN); exact rfl; exact rfl; all_goals first | (intro hp; try (exfalso; omega)) | skip) | ((with_reducible apply u_split); exact rfl; exact rfl; all_goals first | intro hp | skip))
        | ((with_reducible apply gx_id); first | (with_reducible apply v_nil) | ((with_reducible apply v_q); (iterate 3 exact rfl)) | ((with_reducible apply v_skip); (iterate 3 exact rfl)) | ((with_reducible apply v_splitD); exact rfl; exact rfl; all_goals first | (intro hp; try (exfalso; omega)) | skip) | ((with_reducible apply v_splitN); exact rfl; exact rfl; all_goals first | (intro hp; try (exfalso; omega)) | skip) | ((with_reducible apply v_split); exact rfl; exact rfl; all_goals first | intro hp | skip))
        | ((with_reducible apply os_id); first | ((with_reducible apply os_x); exact rfl) | ((with_reducible apply os_store); (iterate 4 exact rfl)) | ((with_reducible apply os_storeAgg); (iterate 5 exact rfl)) | ((with_reducible apply os_append (hk := app_ok22)); exact rfl; exact rfl; (repeat (first | exact P0 | apply P1))) | ((with_reducible apply os_appendNil (hk := app_ok22)); exact rfl; exact rfl))
        | ((with_reducible apply ox_id); first | ((with_reducible apply ox_alloc); exact rfl; intro _) | ((with_reducible apply ox_box); exact rfl; exact rfl; intro _) | ((with_reducible apply ox_boxAgg); exact rfl; intro _) | ((with_reducible apply ox_buildSlice1); (iterate 6 exact rfl); intro _) | ((with_reducible apply ox_buildSlice2); (iterate 6 exact rfl); intro _) | ((with_reducible apply ox_buildSlice); (iterate 4 exact rfl)))
        | ((with_reducible apply rd_id); first | (apply Rd.own; (repeat (first | exact P0 | apply P1)); exact rfl; done) | (apply Rd.old; (first | (with_reducible assumption) | exact c0 | exact c1 | exact c2 | exact c3 | exact c4 | exact c5 | exact c6 | exact c7 | exact c8 | exact d0 | exact d1 | exact d2 | exact d3 | exact d4 | exact d5); first | exact List.not_mem_nil | exact m0 | exact m1 | exact m2 | exact m3 | exact m4 | exact m5 | exact m6 | exact m7 | exact m8 | exact m9))
        | ((with_reducible apply t_id); first | (with_reducible apply t_seq) | (apply t_region; kernel_rfl) | (apply t_drawn; kernel_rfl; decide +kernel; try simp only [List.append_eq, List.cons_append, List.nil_append]) | ((with_reducible apply t_condT); exact rfl) | ((with_reducible apply t_condF); exact rfl) | ((with_reducible apply t_condD); exact rfl; all_goals first | (intro hp; try (exfalso; omega)) | skip) | ((with_reducible apply t_condN); exact rfl; all_goals first | (intro hp; try (exfalso; omega)) | skip) | ((with_reducible apply t_cond); exact rfl; all_goals first | intro hp | skip) | (with_reducible apply t_ret) | (with_reducible apply t_skip) | (with_reducible apply t_exit) | (with_reducible apply t_block))
        | with_reducible apply q_thenN
        | with_reducible apply q_thenR
        | with_reducible apply q_blockR
        | with_reducible apply q_blockN
        | with_reducible apply q_thenE
        | ((with_reducible apply q_blockE); exact rfl)
        | ((with_reducible apply q_blockO); exact rfl)
        | exact P0
        | (with_reducible apply P1)
        | exact Rdn.zero
        | apply Rdn.succ
        | ((with_reducible apply Norm.nil); exact rfl)
        | ((with_reducible apply Norm.cons); exact rfl)
        | (with_reducible apply end_ret)
        | (with_reducible apply end_normal)
        | exact rvs_nil
        | (with_reducible apply rvs_cons)
        | ((with_reducible apply rv_tmp); exact rfl)
        | ((with_reducible apply rv_cell); exact rfl; exact rfl)
        | ((with_reducible apply rv_cellAgg); exact rfl; exact rfl)
        | exact Nat.le_of_ble_eq_true rfl
        | exact (rfl : (_ : Bool) = true)
        | omega
        | (intro _ _; with_reducible apply tl_id)
        | (intro _; with_reducible apply tl_id)
        | (intro _ _; with_reducible apply al_id)
        | (intro _; with_reducible apply al_id))
      all_goals (rw [hPp]; exact ⟨rfl, (bp, cq), trivial, by (repeat' (first | exact FrSub.nil | (apply FrSub.cons; exact rfl) | (apply FrSub.consE; exact rfl; first | (focus (simp [sI, cI, qS]; done)) | skip) | exact HpSub.refl _ | (apply HpSub.consE; (repeat (first | exact P0 | apply P1)); first | exact rfl | (focus (simp [iv, cI]; done))) | apply HpSub.skipX | exact HpSub.nil)), by (repeat' (first | exact FrSub.nil | (apply FrSub.cons; exact rfl) | (apply FrSub.consE; exact rfl; first | (focus (simp [sI, cI, qS]; done)) | skip) | exact HpSub.refl _ | (apply HpSub.consE; (repeat (first | exact P0 | apply P1)); first | exact rfl | (focus (simp [iv, cI]; done))) | apply HpSub.skipX | exact HpSub.nil))⟩)
    | @next _ c l2 hne hnx hk =>
    obtain ⟨hnx1, hnx2⟩ : c ∈ nb W n at_ ∧ L.getD c 0 + 1 = L.getD at_ 0 := by
      obtain ⟨c', h1, h2, h3⟩ := hD.nxt han hla hne
      rw [hnx] at h1
      obtain rfl := Option.some.inj h1
      exact ⟨h2, h3⟩
    have hcn := nb_lt t han hnx1
    have hc1 : 0 < L.getD c 0 := by
      have : L.getD at_ 0 ≠ 1 := fun e => hne ((hD.one at_ han).1 e)
      omega
    obtain ⟨aa, bs, hsp, has⟩ : ∃ aa bs, nb W n at_ = aa ++ c :: bs ∧ ∀ z ∈ aa, L.getD z 0 + 1 ≠ L.getD at_ 0 := by
      unfold nxt at hnx
      rw [List.find?_eq_some_iff_append] at hnx
      obtain ⟨_, aa, bs, h1, h2⟩ := hnx
      exact ⟨aa, bs, h1, fun z hz => by have := h2 z hz; simpa using this⟩
    have hnl := nb_len W n at_
    have hnlt : ∀ z ∈ nb W n at_, z < n := fun z hz => nb_lt t han hz
    rw [hsp] at hnl hnlt
    simp only [List.length_append, List.length_cons] at hnl
    have hcl : (cI (aa ++ c :: bs)).length = aa.length + (bs.length + 1) := by rw [cI_len]; simp
    have hpl := cI_len (pre ++ [at_])
    simp only [List.length_append, List.length_singleton] at hpl
    have hlat := lvI_at (l := L) (c := at_) (by rw [hLlen]; exact han)
    refine t_cut (ι := Unit) (fun _ => [(9, .int .i64 h), (2, .int .i64 ((y : Nat) : Int)), (3, .pointer (some ⟨b3, 0, none⟩)), (12, .slice (some ⟨bl, 0, none⟩) n n), (14, .int .i64 ((at_ : Nat) : Int)), (13, sI (cI (pre ++ [at_])) (some (bp, cq)))]) (fun _ => [(b3, [.int .i64 ((W : Nat) : Int), .int .i64 ((Hh : Nat) : Int), .slice (some ⟨bA, oA, none⟩) n cp], some (24, 3, 1)), (bl, (lvI L).map iv, some (3, 1, n)), (bp, (cI (pre ++ [at_])).map iv, some (3, 1, cq))]) (fun _ => True) ?_ ?_
    · repeat' (first
        | ((with_reducible apply oq_id); first | ((with_reducible apply oq_neqT); exact rfl; exact rfl; omega) | ((with_reducible apply oq_neqF); exact rfl; exact rfl; omega) | (apply oq_fn; exact rfl; try first | exact trivial | (and_intros <;> omega)) | ((with_reducible apply oq_load); exact rfl; exact rfl) | ((with_reducible apply oq_loadAgg); exact rfl; exact rfl) | ((with_reducible apply oq_build); (iterate 3 exact rfl)) | ((with_reducible apply oq_buildA); (iterate 4 exact rfl)) | ((with_reducible apply oq_fieldAgg); (iterate 3 exact rfl)) | ((with_reducible apply oq_indexAgg); (iterate 4 exact rfl)))
        | ((with_reducible apply tl_id); first | (with_reducible apply tl_nil) | ((with_reducible apply u_q); (iterate 4 exact rfl)) | ((with_reducible apply u_s0); exact rfl; exact rfl) | ((with_reducible apply u_s); (iterate 3 exact rfl)) | ((with_reducible apply u_skip); (iterate 3 exact rfl)) | ((with_reducible apply u_splitD); exact rfl; exact rfl; all_goals first | (intro hp; try (exfalso; omega)) | skip) | ((with_reducible apply u_splitN); exact rfl; exact rfl; all_goals first | (intro hp; try (exfalso; omega)) | skip) | ((with_reducible apply u_split); exact rfl; exact rfl; all_goals first | intro hp | skip))
        | ((with_reducible apply gx_id); first | (with_reducible apply v_nil) | ((with_reducible apply v_q); (iterate 3 exact rfl)) | ((with_reducible apply v_skip); (iterate 3 exact rfl)) | ((with_reducible apply v_splitD); exact rfl; exact rfl; all_goals first | (intro hp; try (exfalso; omega)) | skip) | ((with_reducible apply v_splitN); exact rfl; exact rfl; all_goals first | (intro hp; try (exfalso; omega)) | skip) | ((with_reducible apply v_split); exact rfl; exact rfl; all_goals first | intro hp | skip))
        | ((with_reducible apply os_id); first | ((with_reducible apply os_x); exact rfl) | ((with_reducible apply os_store); (iterate 4 exact rfl)) | ((with_reducible apply os_storeAgg); (iterate 5 exact rfl)) | ((with_reducible apply os_append (hk := app_ok22)); exact rfl; exact rfl; (repeat (first | exact P0 | apply P1))) | ((with_reducible apply os_appendNil (hk := app_ok22)); exact rfl; exact rfl))
        | ((with_reducible apply ox_id); first | ((with_reducible apply ox_alloc); exact rfl; intro _) | ((with_reducible apply ox_box); exact rfl; exact rfl; intro _) | ((with_reducible apply ox_boxAgg); exact rfl; intro _) | ((with_reducible apply ox_buildSlice1); (iterate 6 exact rfl); intro _) | ((with_reducible apply ox_buildSlice2); (iterate 6 exact rfl); intro _) | ((with_reducible apply ox_buildSlice); (iterate 4 exact rfl)))
        | ((with_reducible apply rd_id); first | (apply Rd.own; (repeat (first | exact P0 | apply P1)); exact rfl; done) | (apply Rd.old; (first | (with_reducible assumption) | exact c0 | exact c1 | exact c2 | exact c3 | exact c4 | exact c5 | exact c6 | exact c7 | exact c8 | exact d0 | exact d1 | exact d2 | exact d3 | exact d4 | exact d5); first | exact List.not_mem_nil | exact m0 | exact m1 | exact m2 | exact m3 | exact m4 | exact m5 | exact m6 | exact m7 | exact m8 | exact m9))
        | ((with_reducible apply t_id); first | (with_reducible apply t_seq) | (apply t_region; kernel_rfl) | (apply t_drawn; kernel_rfl; decide +kernel; try simp only [List.append_eq, List.cons_append, List.nil_append]) | ((with_reducible apply t_condT); exact rfl) | ((with_reducible apply t_condF); exact rfl) | ((with_reducible apply t_condD); exact rfl; all_goals first | (intro hp; try (exfalso; omega)) | skip) | ((with_reducible apply t_condN); exact rfl; all_goals first | (intro hp; try (exfalso; omega)) | skip) | ((with_reducible apply t_cond); exact rfl; all_goals first | intro hp | skip) | (with_reducible apply t_ret) | (with_reducible apply t_skip) | (with_reducible apply t_exit) | (with_reducible apply t_block))
        | with_reducible apply q_thenN
        | with_reducible apply q_thenR
        | with_reducible apply q_blockR
        | with_reducible apply q_blockN
        | with_reducible apply q_thenE
        | ((with_reducible apply q_blockE); exact rfl)
        | ((with_reducible apply q_blockO); exact rfl)
        | exact P0
        | (with_reducible apply P1)
        | exact Rdn.zero
        | apply Rdn.succ
        | ((with_reducible apply Norm.nil); exact rfl)
        | ((with_reducible apply Norm.cons); exact rfl)
        | (with_reducible apply end_ret)
        | (with_reducible apply end_normal)
        | exact rvs_nil
        | (with_reducible apply rvs_cons)
        | ((with_reducible apply rv_tmp); exact rfl)
        | ((with_reducible apply rv_cell); exact rfl; exact rfl)
        | ((with_reducible apply rv_cellAgg); exact rfl; exact rfl)
        | exact Nat.le_of_ble_eq_true rfl
        | exact (rfl : (_ : Bool) = true)
        | omega
        | (intro _ _; with_reducible apply tl_id)
        | (intro _; with_reducible apply tl_id)
        | (intro _ _; with_reducible apply al_id)
        | (intro _; with_reducible apply al_id))
      all_goals exact ⟨rfl, (), trivial, by (repeat (first | exact FrSub.nil | (apply FrSub.cons; exact rfl))), by (repeat (first | exact HpSub.refl _ | (apply HpSub.consE; (repeat (first | exact P0 | apply P1)); exact rfl) | exact HpSub.nil))⟩
    rintro ⟨⟩ -
    try dsimp only
    refine t_block ?_
    refine t_cut (ι := Nat × Nat) (fun z => [(9, .int .i64 h), (2, .int .i64 ((y : Nat) : Int)), (3, .pointer (some ⟨b3, 0, none⟩)), (12, .slice (some ⟨bl, 0, none⟩) n n), (14, .int .i64 ((at_ : Nat) : Int)), (13, sI (cI (pre ++ [at_])) (some (bp, cq))), (15, sI (cI (aa ++ c :: bs)) (some z))]) (fun z => [(b3, [.int .i64 ((W : Nat) : Int), .int .i64 ((Hh : Nat) : Int), .slice (some ⟨bA, oA, none⟩) n cp], some (24, 3, 1)), (bl, (lvI L).map iv, some (3, 1, n)), (bp, (cI (pre ++ [at_])).map iv, some (3, 1, cq)), (z.1, (cI (aa ++ c :: bs)).map iv, some (3, 1, z.2))]) (fun _ => True) ?_ ?_
    · repeat' (first
        | ((with_reducible apply oq_id); first | (apply oq_fn; exact rfl; try first | exact trivial | (and_intros <;> omega)) | ((with_reducible apply oq_load); exact rfl; exact rfl) | ((with_reducible apply oq_loadAgg); exact rfl; exact rfl) | ((with_reducible apply oq_build); (iterate 3 exact rfl)) | ((with_reducible apply oq_buildA); (iterate 4 exact rfl)) | ((with_reducible apply oq_fieldAgg); (iterate 3 exact rfl)) | ((with_reducible apply oq_indexAgg); (iterate 4 exact rfl)))
        | ((with_reducible apply tl_id); first | (with_reducible apply tl_nil) | ((with_reducible apply u_s); (iterate 3 exact rfl); (with_reducible apply os_callF (PV := LsI (cI (aa ++ c :: bs))) (k := 53) (hc := Try.call53)); exact rfl; exact rfl; exact fun D w1 hw1 => (hsp ▸ beside_calls (some ⟨bA, oA, none⟩) cp W Hh n at_ t han w1); rintro _ _ ⟨_ | ⟨bo, co⟩, ho, rfl, rfl⟩; (focus (have hee := ho rfl; simp [cI] at hee)); simp only [List.cons_append, List.nil_append]) | ((with_reducible apply u_q); (iterate 4 exact rfl)) | ((with_reducible apply u_s0); exact rfl; exact rfl) | ((with_reducible apply u_s); (iterate 3 exact rfl)) | ((with_reducible apply u_skip); (iterate 3 exact rfl)) | ((with_reducible apply u_splitD); exact rfl; exact rfl; all_goals first | (intro hp; try (exfalso; omega)) | skip) | ((with_reducible apply u_splitN); exact rfl; exact rfl; all_goals first | (intro hp; try (exfalso; omega)) | skip) | ((with_reducible apply u_split); exact rfl; exact rfl; all_goals first | intro hp | skip))
        | ((with_reducible apply gx_id); first | (with_reducible apply v_nil) | ((with_reducible apply v_q); (iterate 3 exact rfl)) | ((with_reducible apply v_skip); (iterate 3 exact rfl)) | ((with_reducible apply v_splitD); exact rfl; exact rfl; all_goals first | (intro hp; try (exfalso; omega)) | skip) | ((with_reducible apply v_splitN); exact rfl; exact rfl; all_goals first | (intro hp; try (exfalso; omega)) | skip) | ((with_reducible apply v_split); exact rfl; exact rfl; all_goals first | intro hp | skip))
        | ((with_reducible apply os_id); first | ((with_reducible apply os_x); exact rfl) | ((with_reducible apply os_store); (iterate 4 exact rfl)) | ((with_reducible apply os_storeAgg); (iterate 5 exact rfl)) | ((with_reducible apply os_append (hk := app_ok22)); exact rfl; exact rfl; (repeat (first | exact P0 | apply P1))) | ((with_reducible apply os_appendNil (hk := app_ok22)); exact rfl; exact rfl))
        | ((with_reducible apply ox_id); first | ((with_reducible apply ox_alloc); exact rfl; intro _) | ((with_reducible apply ox_box); exact rfl; exact rfl; intro _) | ((with_reducible apply ox_boxAgg); exact rfl; intro _) | ((with_reducible apply ox_buildSlice1); (iterate 6 exact rfl); intro _) | ((with_reducible apply ox_buildSlice2); (iterate 6 exact rfl); intro _) | ((with_reducible apply ox_buildSlice); (iterate 4 exact rfl)))
        | ((with_reducible apply rd_id); first | (apply Rd.own; (repeat (first | exact P0 | apply P1)); exact rfl; done) | (apply Rd.old; (first | (with_reducible assumption) | exact c0 | exact c1 | exact c2 | exact c3 | exact c4 | exact c5 | exact c6 | exact c7 | exact c8 | exact d0 | exact d1 | exact d2 | exact d3 | exact d4 | exact d5); first | exact List.not_mem_nil | exact m0 | exact m1 | exact m2 | exact m3 | exact m4 | exact m5 | exact m6 | exact m7 | exact m8 | exact m9))
        | ((with_reducible apply t_id); first | (with_reducible apply t_seq) | (apply t_region; kernel_rfl) | (apply t_drawn; kernel_rfl; decide +kernel; try simp only [List.append_eq, List.cons_append, List.nil_append]) | ((with_reducible apply t_condT); exact rfl) | ((with_reducible apply t_condF); exact rfl) | ((with_reducible apply t_condD); exact rfl; all_goals first | (intro hp; try (exfalso; omega)) | skip) | ((with_reducible apply t_condN); exact rfl; all_goals first | (intro hp; try (exfalso; omega)) | skip) | ((with_reducible apply t_cond); exact rfl; all_goals first | intro hp | skip) | (with_reducible apply t_ret) | (with_reducible apply t_skip) | (with_reducible apply t_exit) | (with_reducible apply t_block))
        | with_reducible apply q_thenN
        | with_reducible apply q_thenR
        | with_reducible apply q_blockR
        | with_reducible apply q_blockN
        | with_reducible apply q_thenE
        | ((with_reducible apply q_blockE); exact rfl)
        | ((with_reducible apply q_blockO); exact rfl)
        | exact P0
        | (with_reducible apply P1)
        | exact Rdn.zero
        | apply Rdn.succ
        | ((with_reducible apply Norm.nil); exact rfl)
        | ((with_reducible apply Norm.cons); exact rfl)
        | (with_reducible apply end_ret)
        | (with_reducible apply end_normal)
        | exact rvs_nil
        | (with_reducible apply rvs_cons)
        | ((with_reducible apply rv_tmp); exact rfl)
        | ((with_reducible apply rv_cell); exact rfl; exact rfl)
        | ((with_reducible apply rv_cellAgg); exact rfl; exact rfl)
        | exact Nat.le_of_ble_eq_true rfl
        | exact (rfl : (_ : Bool) = true)
        | omega
        | (intro _ _; with_reducible apply tl_id)
        | (intro _; with_reducible apply tl_id)
        | (intro _ _; with_reducible apply al_id)
        | (intro _; with_reducible apply al_id))
      all_goals exact ⟨(by first | rfl | trivial), (bo, co), trivial, by (repeat (first | exact FrSub.nil | (apply FrSub.cons; exact rfl))), by (repeat (first | exact HpSub.refl _ | (apply HpSub.consE; (repeat (first | exact P0 | apply P1)); exact rfl) | apply HpSub.skipX | exact HpSub.nil))⟩
    rintro ⟨bo, co⟩ -
    try dsimp only
    refine t_cut (ι := Unit) (fun _ => [(9, .int .i64 h), (2, .int .i64 ((y : Nat) : Int)), (3, .pointer (some ⟨b3, 0, none⟩)), (12, .slice (some ⟨bl, 0, none⟩) n n), (14, .int .i64 ((c : Nat) : Int)), (13, sI (cI (pre ++ [at_])) (some (bp, cq)))]) (fun _ => [(b3, [.int .i64 ((W : Nat) : Int), .int .i64 ((Hh : Nat) : Int), .slice (some ⟨bA, oA, none⟩) n cp], some (24, 3, 1)), (bl, (lvI L).map iv, some (3, 1, n)), (bp, (cI (pre ++ [at_])).map iv, some (3, 1, cq))]) (fun _ => True) ?_ ?_
    · repeat' (first
        | ((with_reducible apply oq_id); first | (apply oq_fn; exact rfl; try first | exact trivial | (and_intros <;> omega)) | ((with_reducible apply oq_load); exact rfl; exact rfl) | ((with_reducible apply oq_loadAgg); exact rfl; exact rfl) | ((with_reducible apply oq_build); (iterate 3 exact rfl)) | ((with_reducible apply oq_buildA); (iterate 4 exact rfl)) | ((with_reducible apply oq_fieldAgg); (iterate 3 exact rfl)) | ((with_reducible apply oq_indexAgg); (iterate 4 exact rfl)))
        | ((with_reducible apply tl_id); first | (with_reducible apply tl_nil) | ((with_reducible apply u_q); (iterate 4 exact rfl)) | ((with_reducible apply u_s0); exact rfl; exact rfl) | ((with_reducible apply u_s); (iterate 3 exact rfl)) | ((with_reducible apply u_skip); (iterate 3 exact rfl)) | ((with_reducible apply u_splitD); exact rfl; exact rfl; all_goals first | (intro hp; try (exfalso; omega)) | skip) | ((with_reducible apply u_splitN); exact rfl; exact rfl; all_goals first | (intro hp; try (exfalso; omega)) | skip) | ((with_reducible apply u_split); exact rfl; exact rfl; all_goals first | intro hp | skip))
        | ((with_reducible apply gx_id); first | (with_reducible apply v_nil) | ((with_reducible apply v_q); (iterate 3 exact rfl)) | ((with_reducible apply v_skip); (iterate 3 exact rfl)) | ((with_reducible apply v_splitD); exact rfl; exact rfl; all_goals first | (intro hp; try (exfalso; omega)) | skip) | ((with_reducible apply v_splitN); exact rfl; exact rfl; all_goals first | (intro hp; try (exfalso; omega)) | skip) | ((with_reducible apply v_split); exact rfl; exact rfl; all_goals first | intro hp | skip))
        | ((with_reducible apply os_id); first | ((with_reducible apply os_x); exact rfl) | ((with_reducible apply os_store); (iterate 4 exact rfl)) | ((with_reducible apply os_storeAgg); (iterate 5 exact rfl)) | ((with_reducible apply os_append (hk := app_ok22)); exact rfl; exact rfl; (repeat (first | exact P0 | apply P1))) | ((with_reducible apply os_appendNil (hk := app_ok22)); exact rfl; exact rfl))
        | ((with_reducible apply ox_id); first | ((with_reducible apply ox_alloc); exact rfl; intro _) | ((with_reducible apply ox_box); exact rfl; exact rfl; intro _) | ((with_reducible apply ox_boxAgg); exact rfl; intro _) | ((with_reducible apply ox_buildSlice1); (iterate 6 exact rfl); intro _) | ((with_reducible apply ox_buildSlice2); (iterate 6 exact rfl); intro _) | ((with_reducible apply ox_buildSlice); (iterate 4 exact rfl)))
        | ((with_reducible apply rd_id); first | (apply Rd.own; (repeat (first | exact P0 | apply P1)); exact rfl; done) | (apply Rd.old; (first | (with_reducible assumption) | exact c0 | exact c1 | exact c2 | exact c3 | exact c4 | exact c5 | exact c6 | exact c7 | exact c8 | exact d0 | exact d1 | exact d2 | exact d3 | exact d4 | exact d5); first | exact List.not_mem_nil | exact m0 | exact m1 | exact m2 | exact m3 | exact m4 | exact m5 | exact m6 | exact m7 | exact m8 | exact m9))
        | ((with_reducible apply t_id); first | (with_reducible apply t_seq) | (apply t_region; kernel_rfl) | (apply t_drawn; kernel_rfl; decide +kernel; try simp only [List.append_eq, List.cons_append, List.nil_append]) | ((with_reducible apply t_condT); exact rfl) | ((with_reducible apply t_condF); exact rfl) | ((with_reducible apply t_condD); exact rfl; all_goals first | (intro hp; try (exfalso; omega)) | skip) | ((with_reducible apply t_condN); exact rfl; all_goals first | (intro hp; try (exfalso; omega)) | skip) | ((with_reducible apply t_cond); exact rfl; all_goals first | intro hp | skip) | (with_reducible apply t_ret) | (with_reducible apply t_skip) | (with_reducible apply t_exit) | (with_reducible apply t_block))
        | with_reducible apply q_thenN
        | with_reducible apply q_thenR
        | with_reducible apply q_blockR
        | with_reducible apply q_blockN
        | with_reducible apply q_thenE
        | ((with_reducible apply q_blockE); exact rfl)
        | ((with_reducible apply q_blockO); exact rfl)
        | exact P0
        | (with_reducible apply P1)
        | exact Rdn.zero
        | apply Rdn.succ
        | ((with_reducible apply Norm.nil); exact rfl)
        | ((with_reducible apply Norm.cons); exact rfl)
        | (with_reducible apply end_ret)
        | (with_reducible apply end_normal)
        | exact rvs_nil
        | (with_reducible apply rvs_cons)
        | ((with_reducible apply rv_tmp); exact rfl)
        | ((with_reducible apply rv_cell); exact rfl; exact rfl)
        | ((with_reducible apply rv_cellAgg); exact rfl; exact rfl)
        | exact Nat.le_of_ble_eq_true rfl
        | exact (rfl : (_ : Bool) = true)
        | omega
        | (intro _ _; with_reducible apply tl_id)
        | (intro _; with_reducible apply tl_id)
        | (intro _ _; with_reducible apply al_id)
        | (intro _; with_reducible apply al_id))
      apply t_loopK (ι := Nat) [2, 3, 9, 12, 14, 15, 13] (fun i => [(16, .int .i64 ((i : Nat) : Int))]) (fun i => [(b3, [.int .i64 ((W : Nat) : Int), .int .i64 ((Hh : Nat) : Int), .slice (some ⟨bA, oA, none⟩) n cp], some (24, 3, 1)), (bl, (lvI L).map iv, some (3, 1, n)), (bo, (cI (aa ++ c :: bs)).map iv, some (3, 1, co))]) (fun i => i ≤ aa.length) (fun i => aa.length - i) (0)
      (repeat (first | exact KeepF.nil | (apply KeepF.cons; exact rfl) | apply KeepF.skip))
      (repeat (first | exact FrSub.nil | (apply FrSub.cons; exact rfl)))
      (repeat (first | exact HpSub.refl _ | (apply HpSub.consE; (repeat (first | exact P0 | apply P1)); exact rfl) | exact HpSub.nil))
      · exact Nat.zero_le _
      rintro i hi
      try simp only [List.cons_append, List.nil_append]
      by_cases hil : i < aa.length
      · have hz : aa[i]? = some aa[i] := List.getElem?_eq_getElem hil
        generalize aa[i] = z at hz
        have hzas := List.mem_of_getElem? hz
        have hzne := has z hzas
        have hzn := hnlt z (List.mem_append_left _ hzas)
        have hzk : (cI (aa ++ c :: bs))[i]? = some (z : Int) := by
          unfold cI
          rw [List.getElem?_map, List.getElem?_append_left hil, hz]; rfl
        have hzl := lvI_at (l := L) (c := z) (by rw [hLlen]; exact hzn)
        by_cases hz0 : L.getD z 0 = 0
        · repeat' (first
            | ((with_reducible apply oq_id); first | (focus ((with_reducible apply oq_indexAddrN); (iterate 4 exact rfl); omega)) | ((with_reducible apply oq_lssT); exact rfl; exact rfl; omega) | ((with_reducible apply oq_lssF); exact rfl; exact rfl; omega) | ((with_reducible apply oq_geqT); exact rfl; exact rfl; omega) | ((with_reducible apply oq_geqF); exact rfl; exact rfl; omega) | ((with_reducible apply oq_eqlT); exact rfl; exact rfl; omega) | ((with_reducible apply oq_eqlF); exact rfl; exact rfl; omega) | (apply oq_fn; exact rfl; try first | exact trivial | (and_intros <;> omega)) | ((with_reducible apply oq_load); exact rfl; exact rfl) | ((with_reducible apply oq_loadAgg); exact rfl; exact rfl) | ((with_reducible apply oq_build); (iterate 3 exact rfl)) | ((with_reducible apply oq_buildA); (iterate 4 exact rfl)) | ((with_reducible apply oq_fieldAgg); (iterate 3 exact rfl)) | ((with_reducible apply oq_indexAgg); (iterate 4 exact rfl)))
            | ((with_reducible apply tl_id); first | (with_reducible apply tl_nil) | ((with_reducible apply u_q); (iterate 4 exact rfl)) | ((with_reducible apply u_s0); exact rfl; exact rfl) | ((with_reducible apply u_s); (iterate 3 exact rfl)) | ((with_reducible apply u_skip); (iterate 3 exact rfl)) | ((with_reducible apply u_splitD); exact rfl; exact rfl; all_goals first | (intro hp; try (exfalso; omega)) | skip) | ((with_reducible apply u_splitN); exact rfl; exact rfl; all_goals first | (intro hp; try (exfalso; omega)) | skip) | ((with_reducible apply u_split); exact rfl; exact rfl; all_goals first | intro hp | skip))
            | ((with_reducible apply gx_id); first | (with_reducible apply v_nil) | ((with_reducible apply v_q); (iterate 3 exact rfl)) | ((with_reducible apply v_skip); (iterate 3 exact rfl)) | ((with_reducible apply v_splitD); exact rfl; exact rfl; all_goals first | (intro hp; try (exfalso; omega)) | skip) | ((with_reducible apply v_splitN); exact rfl; exact rfl; all_goals first | (intro hp; try (exfalso; omega)) | skip) | ((with_reducible apply v_split); exact rfl; exact rfl; all_goals first | intro hp | skip))
            | ((with_reducible apply os_id); first | ((with_reducible apply os_x); exact rfl) | ((with_reducible apply os_store); (iterate 4 exact rfl)) | ((with_reducible apply os_storeAgg); (iterate 5 exact rfl)) | ((with_reducible apply os_append (hk := app_ok22)); exact rfl; exact rfl; (repeat (first | exact P0 | apply P1))) | ((with_reducible apply os_appendNil (hk := app_ok22)); exact rfl; exact rfl))
            | ((with_reducible apply ox_id); first | ((with_reducible apply ox_alloc); exact rfl; intro _) | ((with_reducible apply ox_box); exact rfl; exact rfl; intro _) | ((with_reducible apply ox_boxAgg); exact rfl; intro _) | ((with_reducible apply ox_buildSlice1); (iterate 6 exact rfl); intro _) | ((with_reducible apply ox_buildSlice2); (iterate 6 exact rfl); intro _) | ((with_reducible apply ox_buildSlice); (iterate 4 exact rfl)))
            | ((with_reducible apply rd_id); first | (apply rdI hzk; (repeat (first | exact P0 | apply P1)); done) | (apply rdI hzl; (repeat (first | exact P0 | apply P1)); done) | (apply rdI hlat; (repeat (first | exact P0 | apply P1)); done) | (apply Rd.own; (repeat (first | exact P0 | apply P1)); exact rfl; done) | (apply Rd.old; (first | (with_reducible assumption) | exact c0 | exact c1 | exact c2 | exact c3 | exact c4 | exact c5 | exact c6 | exact c7 | exact c8 | exact d0 | exact d1 | exact d2 | exact d3 | exact d4 | exact d5); first | exact List.not_mem_nil | exact m0 | exact m1 | exact m2 | exact m3 | exact m4 | exact m5 | exact m6 | exact m7 | exact m8 | exact m9))
            | ((with_reducible apply t_id); first | (with_reducible apply t_seq) | (apply t_region; kernel_rfl) | (apply t_drawn; kernel_rfl; decide +kernel; try simp only [List.append_eq, List.cons_append, List.nil_append]) | ((with_reducible apply t_condT); exact rfl) | ((with_reducible apply t_condF); exact rfl) | ((with_reducible apply t_condD); exact rfl; all_goals first | (intro hp; try (exfalso; omega)) | skip) | ((with_reducible apply t_condN); exact rfl; all_goals first | (intro hp; try (exfalso; omega)) | skip) | ((with_reducible apply t_cond); exact rfl; all_goals first | intro hp | skip) | (with_reducible apply t_ret) | (with_reducible apply t_skip) | (with_reducible apply t_exit) | (with_reducible apply t_block))
            | with_reducible apply q_thenN
            | with_reducible apply q_thenR
            | with_reducible apply q_blockR
            | with_reducible apply q_blockN
            | with_reducible apply q_thenE
            | ((with_reducible apply q_blockE); exact rfl)
            | ((with_reducible apply q_blockO); exact rfl)
            | exact P0
            | (with_reducible apply P1)
            | exact Rdn.zero
            | apply Rdn.succ
            | ((with_reducible apply Norm.nil); exact rfl)
            | ((with_reducible apply Norm.cons); exact rfl)
            | (with_reducible apply end_ret)
            | (with_reducible apply end_normal)
            | exact rvs_nil
            | (with_reducible apply rvs_cons)
            | ((with_reducible apply rv_tmp); exact rfl)
            | ((with_reducible apply rv_cell); exact rfl; exact rfl)
            | ((with_reducible apply rv_cellAgg); exact rfl; exact rfl)
            | exact Nat.le_of_ble_eq_true rfl
            | exact (rfl : (_ : Bool) = true)
            | omega
            | (intro _ _; with_reducible apply tl_id)
            | (intro _; with_reducible apply tl_id)
            | (intro _ _; with_reducible apply al_id)
            | (intro _; with_reducible apply al_id))
          all_goals (refine ⟨(i + 1), (by omega), (by omega), ?_, ?_⟩ <;> (try simp only [List.cons_append, List.nil_append]) <;> (repeat' (first | exact FrSub.nil | (apply FrSub.cons; exact rfl) | exact HpSub.refl _ | (apply HpSub.consE; (repeat (first | exact P0 | apply P1)); exact rfl) | exact HpSub.nil)))
        · repeat' (first
            | ((with_reducible apply oq_id); first | (focus ((with_reducible apply oq_indexAddrN); (iterate 4 exact rfl); omega)) | ((with_reducible apply oq_lssT); exact rfl; exact rfl; omega) | ((with_reducible apply oq_lssF); exact rfl; exact rfl; omega) | ((with_reducible apply oq_geqT); exact rfl; exact rfl; omega) | ((with_reducible apply oq_geqF); exact rfl; exact rfl; omega) | ((with_reducible apply oq_eqlT); exact rfl; exact rfl; omega) | ((with_reducible apply oq_eqlF); exact rfl; exact rfl; omega) | (apply oq_fn; exact rfl; try first | exact trivial | (and_intros <;> omega)) | ((with_reducible apply oq_load); exact rfl; exact rfl) | ((with_reducible apply oq_loadAgg); exact rfl; exact rfl) | ((with_reducible apply oq_build); (iterate 3 exact rfl)) | ((with_reducible apply oq_buildA); (iterate 4 exact rfl)) | ((with_reducible apply oq_fieldAgg); (iterate 3 exact rfl)) | ((with_reducible apply oq_indexAgg); (iterate 4 exact rfl)))
            | ((with_reducible apply tl_id); first | (with_reducible apply tl_nil) | ((with_reducible apply u_q); (iterate 4 exact rfl)) | ((with_reducible apply u_s0); exact rfl; exact rfl) | ((with_reducible apply u_s); (iterate 3 exact rfl)) | ((with_reducible apply u_skip); (iterate 3 exact rfl)) | ((with_reducible apply u_splitD); exact rfl; exact rfl; all_goals first | (intro hp; try (exfalso; omega)) | skip) | ((with_reducible apply u_splitN); exact rfl; exact rfl; all_goals first | (intro hp; try (exfalso; omega)) | skip) | ((with_reducible apply u_split); exact rfl; exact rfl; all_goals first | intro hp | skip))
            | ((with_reducible apply gx_id); first | (with_reducible apply v_nil) | ((with_reducible apply v_q); (iterate 3 exact rfl)) | ((with_reducible apply v_skip); (iterate 3 exact rfl)) | ((with_reducible apply v_splitD); exact rfl; exact rfl; all_goals first | (intro hp; try (exfalso; omega)) | skip) | ((with_reducible apply v_splitN); exact rfl; exact rfl; all_goals first | (intro hp; try (exfalso; omega)) | skip) | ((with_reducible apply v_split); exact rfl; exact rfl; all_goals first | intro hp | skip))
            | ((with_reducible apply os_id); first | ((with_reducible apply os_x); exact rfl) | ((with_reducible apply os_store); (iterate 4 exact rfl)) | ((with_reducible apply os_storeAgg); (iterate 5 exact rfl)) | ((with_reducible apply os_append (hk := app_ok22)); exact rfl; exact rfl; (repeat (first | exact P0 | apply P1))) | ((with_reducible apply os_appendNil (hk := app_ok22)); exact rfl; exact rfl))
            | ((with_reducible apply ox_id); first | ((with_reducible apply ox_alloc); exact rfl; intro _) | ((with_reducible apply ox_box); exact rfl; exact rfl; intro _) | ((with_reducible apply ox_boxAgg); exact rfl; intro _) | ((with_reducible apply ox_buildSlice1); (iterate 6 exact rfl); intro _) | ((with_reducible apply ox_buildSlice2); (iterate 6 exact rfl); intro _) | ((with_reducible apply ox_buildSlice); (iterate 4 exact rfl)))
            | ((with_reducible apply rd_id); first | (apply rdI hzk; (repeat (first | exact P0 | apply P1)); done) | (apply rdI hzl; (repeat (first | exact P0 | apply P1)); done) | (apply rdI hlat; (repeat (first | exact P0 | apply P1)); done) | (apply Rd.own; (repeat (first | exact P0 | apply P1)); exact rfl; done) | (apply Rd.old; (first | (with_reducible assumption) | exact c0 | exact c1 | exact c2 | exact c3 | exact c4 | exact c5 | exact c6 | exact c7 | exact c8 | exact d0 | exact d1 | exact d2 | exact d3 | exact d4 | exact d5); first | exact List.not_mem_nil | exact m0 | exact m1 | exact m2 | exact m3 | exact m4 | exact m5 | exact m6 | exact m7 | exact m8 | exact m9))
            | ((with_reducible apply t_id); first | (with_reducible apply t_seq) | (apply t_region; kernel_rfl) | (apply t_drawn; kernel_rfl; decide +kernel; try simp only [List.append_eq, List.cons_append, List.nil_append]) | ((with_reducible apply t_condT); exact rfl) | ((with_reducible apply t_condF); exact rfl) | ((with_reducible apply t_condD); exact rfl; all_goals first | (intro hp; try (exfalso; omega)) | skip) | ((with_reducible apply t_condN); exact rfl; all_goals first | (intro hp; try (exfalso; omega)) | skip) | ((with_reducible apply t_cond); exact rfl; all_goals first | intro hp | skip) | (with_reducible apply t_ret) | (with_reducible apply t_skip) | (with_reducible apply t_exit) | (with_reducible apply t_block))
            | with_reducible apply q_thenN
            | with_reducible apply q_thenR
            | with_reducible apply q_blockR
            | with_reducible apply q_blockN
            | with_reducible apply q_thenE
            | ((with_reducible apply q_blockE); exact rfl)
            | ((with_reducible apply q_blockO); exact rfl)
            | exact P0
            | (with_reducible apply P1)
            | exact Rdn.zero
            | apply Rdn.succ
            | ((with_reducible apply Norm.nil); exact rfl)
            | ((with_reducible apply Norm.cons); exact rfl)
            | (with_reducible apply end_ret)
            | (with_reducible apply end_normal)
            | exact rvs_nil
            | (with_reducible apply rvs_cons)
            | ((with_reducible apply rv_tmp); exact rfl)
            | ((with_reducible apply rv_cell); exact rfl; exact rfl)
            | ((with_reducible apply rv_cellAgg); exact rfl; exact rfl)
            | exact Nat.le_of_ble_eq_true rfl
            | exact (rfl : (_ : Bool) = true)
            | omega
            | (intro _ _; with_reducible apply tl_id)
            | (intro _; with_reducible apply tl_id)
            | (intro _ _; with_reducible apply al_id)
            | (intro _; with_reducible apply al_id))
          all_goals (refine ⟨(i + 1), (by omega), (by omega), ?_, ?_⟩ <;> (try simp only [List.cons_append, List.nil_append]) <;> (repeat' (first | exact FrSub.nil | (apply FrSub.cons; exact rfl) | exact HpSub.refl _ | (apply HpSub.consE; (repeat (first | exact P0 | apply P1)); exact rfl) | exact HpSub.nil)))
      · obtain rfl : i = aa.length := by omega
        have hzk : (cI (aa ++ c :: bs))[aa.length]? = some (c : Int) := by
          unfold cI
          rw [List.getElem?_map, List.getElem?_append_right (Nat.le_refl _)]; simp
        have hzl := lvI_at (l := L) (c := c) (by rw [hLlen]; exact hcn)
        repeat' (first
          | ((with_reducible apply oq_id); first | (focus ((with_reducible apply oq_indexAddrN); (iterate 4 exact rfl); omega)) | ((with_reducible apply oq_lssT); exact rfl; exact rfl; omega) | ((with_reducible apply oq_lssF); exact rfl; exact rfl; omega) | ((with_reducible apply oq_geqT); exact rfl; exact rfl; omega) | ((with_reducible apply oq_geqF); exact rfl; exact rfl; omega) | ((with_reducible apply oq_eqlT); exact rfl; exact rfl; omega) | ((with_reducible apply oq_eqlF); exact rfl; exact rfl; omega) | (apply oq_fn; exact rfl; try first | exact trivial | (and_intros <;> omega)) | ((with_reducible apply oq_load); exact rfl; exact rfl) | ((with_reducible apply oq_loadAgg); exact rfl; exact rfl) | ((with_reducible apply oq_build); (iterate 3 exact rfl)) | ((with_reducible apply oq_buildA); (iterate 4 exact rfl)) | ((with_reducible apply oq_fieldAgg); (iterate 3 exact rfl)) | ((with_reducible apply oq_indexAgg); (iterate 4 exact rfl)))
          | ((with_reducible apply tl_id); first | (with_reducible apply tl_nil) | ((with_reducible apply u_q); (iterate 4 exact rfl)) | ((with_reducible apply u_s0); exact rfl; exact rfl) | ((with_reducible apply u_s); (iterate 3 exact rfl)) | ((with_reducible apply u_skip); (iterate 3 exact rfl)) | ((with_reducible apply u_splitD); exact rfl; exact rfl; all_goals first | (intro hp; try (exfalso; omega)) | skip) | ((with_reducible apply u_splitN); exact rfl; exact rfl; all_goals first | (intro hp; try (exfalso; omega)) | skip) | ((with_reducible apply u_split); exact rfl; exact rfl; all_goals first | intro hp | skip))
          | ((with_reducible apply gx_id); first | (with_reducible apply v_nil) | ((with_reducible apply v_q); (iterate 3 exact rfl)) | ((with_reducible apply v_skip); (iterate 3 exact rfl)) | ((with_reducible apply v_splitD); exact rfl; exact rfl; all_goals first | (intro hp; try (exfalso; omega)) | skip) | ((with_reducible apply v_splitN); exact rfl; exact rfl; all_goals first | (intro hp; try (exfalso; omega)) | skip) | ((with_reducible apply v_split); exact rfl; exact rfl; all_goals first | intro hp | skip))
          | ((with_reducible apply os_id); first | ((with_reducible apply os_x); exact rfl) | ((with_reducible apply os_store); (iterate 4 exact rfl)) | ((with_reducible apply os_storeAgg); (iterate 5 exact rfl)) | ((with_reducible apply os_append (hk := app_ok22)); exact rfl; exact rfl; (repeat (first | exact P0 | apply P1))) | ((with_reducible apply os_appendNil (hk := app_ok22)); exact rfl; exact rfl))
          | ((with_reducible apply ox_id); first | ((with_reducible apply ox_alloc); exact rfl; intro _) | ((with_reducible apply ox_box); exact rfl; exact rfl; intro _) | ((with_reducible apply ox_boxAgg); exact rfl; intro _) | ((with_reducible apply ox_buildSlice1); (iterate 6 exact rfl); intro _) | ((with_reducible apply ox_buildSlice2); (iterate 6 exact rfl); intro _) | ((with_reducible apply ox_buildSlice); (iterate 4 exact rfl)))
          | ((with_reducible apply rd_id); first | (apply rdI hzk; (repeat (first | exact P0 | apply P1)); done) | (apply rdI hzl; (repeat (first | exact P0 | apply P1)); done) | (apply rdI hlat; (repeat (first | exact P0 | apply P1)); done) | (apply Rd.own; (repeat (first | exact P0 | apply P1)); exact rfl; done) | (apply Rd.old; (first | (with_reducible assumption) | exact c0 | exact c1 | exact c2 | exact c3 | exact c4 | exact c5 | exact c6 | exact c7 | exact c8 | exact d0 | exact d1 | exact d2 | exact d3 | exact d4 | exact d5); first | exact List.not_mem_nil | exact m0 | exact m1 | exact m2 | exact m3 | exact m4 | exact m5 | exact m6 | exact m7 | exact m8 | exact m9))
          | ((with_reducible apply t_id); first | (with_reducible apply t_seq) | (apply t_region; kernel_rfl) | (apply t_drawn; kernel_rfl; decide +kernel; try simp only [List.append_eq, List.cons_append, List.nil_append]) | ((with_reducible apply t_condT); exact rfl) | ((with_reducible apply t_condF); exact rfl) | ((with_reducible apply t_condD); exact rfl; all_goals first | (intro hp; try (exfalso; omega)) | skip) | ((with_reducible apply t_condN); exact rfl; all_goals first | (intro hp; try (exfalso; omega)) | skip) | ((with_reducible apply t_cond); exact rfl; all_goals first | intro hp | skip) | (with_reducible apply t_ret) | (with_reducible apply t_skip) | (with_reducible apply t_exit) | (with_reducible apply t_block))
          | with_reducible apply q_thenN
          | with_reducible apply q_thenR
          | with_reducible apply q_blockR
          | with_reducible apply q_blockN
          | with_reducible apply q_thenE
          | ((with_reducible apply q_blockE); exact rfl)
          | ((with_reducible apply q_blockO); exact rfl)
          | exact P0
          | (with_reducible apply P1)
          | exact Rdn.zero
          | apply Rdn.succ
          | ((with_reducible apply Norm.nil); exact rfl)
          | ((with_reducible apply Norm.cons); exact rfl)
          | (with_reducible apply end_ret)
          | (with_reducible apply end_normal)
          | exact rvs_nil
          | (with_reducible apply rvs_cons)
          | ((with_reducible apply rv_tmp); exact rfl)
          | ((with_reducible apply rv_cell); exact rfl; exact rfl)
          | ((with_reducible apply rv_cellAgg); exact rfl; exact rfl)
          | exact Nat.le_of_ble_eq_true rfl
          | exact (rfl : (_ : Bool) = true)
          | omega
          | (intro _ _; with_reducible apply tl_id)
          | (intro _; with_reducible apply tl_id)
          | (intro _ _; with_reducible apply al_id)
          | (intro _; with_reducible apply al_id))
        all_goals exact ⟨rfl, (), trivial, by (repeat (first | exact FrSub.nil | (apply FrSub.cons; exact rfl))), by (repeat (first | exact HpSub.refl _ | (apply HpSub.consE; (repeat (first | exact P0 | apply P1)); exact rfl) | exact HpSub.nil))⟩
    rintro ⟨⟩ -
    try dsimp only
    repeat' (first
      | ((with_reducible apply oq_id); first | (apply oq_fn; exact rfl; try first | exact trivial | (and_intros <;> omega)) | ((with_reducible apply oq_load); exact rfl; exact rfl) | ((with_reducible apply oq_loadAgg); exact rfl; exact rfl) | ((with_reducible apply oq_build); (iterate 3 exact rfl)) | ((with_reducible apply oq_buildA); (iterate 4 exact rfl)) | ((with_reducible apply oq_fieldAgg); (iterate 3 exact rfl)) | ((with_reducible apply oq_indexAgg); (iterate 4 exact rfl)))
      | ((with_reducible apply tl_id); first | (with_reducible apply tl_nil) | ((with_reducible apply u_q); (iterate 4 exact rfl)) | ((with_reducible apply u_s0); exact rfl; exact rfl) | ((with_reducible apply u_s); (iterate 3 exact rfl)) | ((with_reducible apply u_skip); (iterate 3 exact rfl)) | ((with_reducible apply u_splitD); exact rfl; exact rfl; all_goals first | (intro hp; try (exfalso; omega)) | skip) | ((with_reducible apply u_splitN); exact rfl; exact rfl; all_goals first | (intro hp; try (exfalso; omega)) | skip) | ((with_reducible apply u_split); exact rfl; exact rfl; all_goals first | intro hp | skip))
      | ((with_reducible apply gx_id); first | (with_reducible apply v_nil) | ((with_reducible apply v_q); (iterate 3 exact rfl)) | ((with_reducible apply v_skip); (iterate 3 exact rfl)) | ((with_reducible apply v_splitD); exact rfl; exact rfl; all_goals first | (intro hp; try (exfalso; omega)) | skip) | ((with_reducible apply v_splitN); exact rfl; exact rfl; all_goals first | (intro hp; try (exfalso; omega)) | skip) | ((with_reducible apply v_split); exact rfl; exact rfl; all_goals first | intro hp | skip))
      | ((with_reducible apply os_id); first | ((with_reducible apply os_x); exact rfl) | ((with_reducible apply os_store); (iterate 4 exact rfl)) | ((with_reducible apply os_storeAgg); (iterate 5 exact rfl)) | ((with_reducible apply os_append (hk := app_ok22)); exact rfl; exact rfl; (repeat (first | exact P0 | apply P1))) | ((with_reducible apply os_appendNil (hk := app_ok22)); exact rfl; exact rfl))
      | ((with_reducible apply ox_id); first | ((with_reducible apply ox_alloc); exact rfl; intro _) | ((with_reducible apply ox_box); exact rfl; exact rfl; intro _) | ((with_reducible apply ox_boxAgg); exact rfl; intro _) | ((with_reducible apply ox_buildSlice1); (iterate 6 exact rfl); intro _) | ((with_reducible apply ox_buildSlice2); (iterate 6 exact rfl); intro _) | ((with_reducible apply ox_buildSlice); (iterate 4 exact rfl)))
      | ((with_reducible apply rd_id); first | (apply Rd.own; (repeat (first | exact P0 | apply P1)); exact rfl; done) | (apply Rd.old; (first | (with_reducible assumption) | exact c0 | exact c1 | exact c2 | exact c3 | exact c4 | exact c5 | exact c6 | exact c7 | exact c8 | exact d0 | exact d1 | exact d2 | exact d3 | exact d4 | exact d5); first | exact List.not_mem_nil | exact m0 | exact m1 | exact m2 | exact m3 | exact m4 | exact m5 | exact m6 | exact m7 | exact m8 | exact m9))
      | ((with_reducible apply t_id); first | (with_reducible apply t_seq) | (apply t_region; kernel_rfl) | (apply t_drawn; kernel_rfl; decide +kernel; try simp only [List.append_eq, List.cons_append, List.nil_append]) | ((with_reducible apply t_condT); exact rfl) | ((with_reducible apply t_condF); exact rfl) | ((with_reducible apply t_condD); exact rfl; all_goals first | (intro hp; try (exfalso; omega)) | skip) | ((with_reducible apply t_condN); exact rfl; all_goals first | (intro hp; try (exfalso; omega)) | skip) | ((with_reducible apply t_cond); exact rfl; all_goals first | intro hp | skip) | (with_reducible apply t_ret) | (with_reducible apply t_skip) | (with_reducible apply t_exit) | (with_reducible apply t_block))
      | with_reducible apply q_thenN
      | with_reducible apply q_thenR
      | with_reducible apply q_blockR
      | with_reducible apply q_blockN
      | with_reducible apply q_thenE
      | ((with_reducible apply q_blockE); exact rfl)
      | ((with_reducible apply q_blockO); exact rfl)
      | exact P0
      | (with_reducible apply P1)
      | exact Rdn.zero
      | apply Rdn.succ
      | ((with_reducible apply Norm.nil); exact rfl)
      | ((with_reducible apply Norm.cons); exact rfl)
      | (with_reducible apply end_ret)
      | (with_reducible apply end_normal)
      | exact rvs_nil
      | (with_reducible apply rvs_cons)
      | ((with_reducible apply rv_tmp); exact rfl)
      | ((with_reducible apply rv_cell); exact rfl; exact rfl)
      | ((with_reducible apply rv_cellAgg); exact rfl; exact rfl)
      | exact iv_len _
      | exact Nat.le_of_ble_eq_true rfl
      | exact (rfl : (_ : Bool) = true)
      | omega
      | (intro _ _; with_reducible apply tl_id)
      | (intro _; with_reducible apply tl_id)
      | (intro _ _; with_reducible apply al_id)
      | (intro _; with_reducible apply al_id))
    all_goals (rename_i bN cN; refine ⟨(c, pre ++ [at_], bN, cN), ⟨l2, (by rw [hPp, List.append_assoc]; rfl), hk, hcn, hc1, (by simp only [List.length_append, List.length_singleton]; omega)⟩, (by simp only; omega), ?_, ?_⟩)
    all_goals ((try simp only [List.cons_append, List.nil_append, List.append_nil, sI_snoc, hI_snoc]); (repeat' (first | exact FrSub.nil | (apply FrSub.cons; exact rfl) | (apply FrSub.consE; exact rfl; first | (focus (simp [sI, cI, qS]; done)) | skip) | exact HpSub.refl _ | (apply HpSub.consE; (repeat (first | exact P0 | apply P1)); first | exact rfl | (focus (simp [iv, cI]; done))) | apply HpSub.skipX | exact HpSub.nil)))
  rintro ⟨bp, cq⟩ -
  try dsimp only
  repeat' (first
    | ((with_reducible apply oq_id); first | (apply oq_fn; exact rfl; try first | exact trivial | (and_intros <;> omega)) | ((with_reducible apply oq_load); exact rfl; exact rfl) | ((with_reducible apply oq_loadAgg); exact rfl; exact rfl) | ((with_reducible apply oq_build); (iterate 3 exact rfl)) | ((with_reducible apply oq_buildA); (iterate 4 exact rfl)) | ((with_reducible apply oq_fieldAgg); (iterate 3 exact rfl)) | ((with_reducible apply oq_indexAgg); (iterate 4 exact rfl)))
    | ((with_reducible apply tl_id); first | (with_reducible apply tl_nil) | ((with_reducible apply u_q); (iterate 4 exact rfl)) | ((with_reducible apply u_s0); exact rfl; exact rfl) | ((with_reducible apply u_s); (iterate 3 exact rfl)) | ((with_reducible apply u_skip); (iterate 3 exact rfl)) | ((with_reducible apply u_splitD); exact rfl; exact rfl; all_goals first | (intro hp; try (exfalso; omega)) | skip) | ((with_reducible apply u_splitN); exact rfl; exact rfl; all_goals first | (intro hp; try (exfalso; omega)) | skip) | ((with_reducible apply u_split); exact rfl; exact rfl; all_goals first | intro hp | skip))
    | ((with_reducible apply gx_id); first | (with_reducible apply v_nil) | ((with_reducible apply v_q); (iterate 3 exact rfl)) | ((with_reducible apply v_skip); (iterate 3 exact rfl)) | ((with_reducible apply v_splitD); exact rfl; exact rfl; all_goals first | (intro hp; try (exfalso; omega)) | skip) | ((with_reducible apply v_splitN); exact rfl; exact rfl; all_goals first | (intro hp; try (exfalso; omega)) | skip) | ((with_reducible apply v_split); exact rfl; exact rfl; all_goals first | intro hp | skip))
    | ((with_reducible apply os_id); first | ((with_reducible apply os_x); exact rfl) | ((with_reducible apply os_store); (iterate 4 exact rfl)) | ((with_reducible apply os_storeAgg); (iterate 5 exact rfl)) | ((with_reducible apply os_append (hk := app_ok22)); exact rfl; exact rfl; (repeat (first | exact P0 | apply P1))) | ((with_reducible apply os_appendNil (hk := app_ok22)); exact rfl; exact rfl))
    | ((with_reducible apply ox_id); first | ((with_reducible apply ox_alloc); exact rfl; intro _) | ((with_reducible apply ox_box); exact rfl; exact rfl; intro _) | ((with_reducible apply ox_boxAgg); exact rfl; intro _) | ((with_reducible apply ox_buildSlice1); (iterate 6 exact rfl); intro _) | ((with_reducible apply ox_buildSlice2); (iterate 6 exact rfl); intro _) | ((with_reducible apply ox_buildSlice); (iterate 4 exact rfl)))
    | ((with_reducible apply rd_id); first | (apply Rd.own; (repeat (first | exact P0 | apply P1)); exact rfl; done) | (apply Rd.old; (first | (with_reducible assumption) | exact c0 | exact c1 | exact c2 | exact c3 | exact c4 | exact c5 | exact c6 | exact c7 | exact c8 | exact d0 | exact d1 | exact d2 | exact d3 | exact d4 | exact d5); first | exact List.not_mem_nil | exact m0 | exact m1 | exact m2 | exact m3 | exact m4 | exact m5 | exact m6 | exact m7 | exact m8 | exact m9))
    | ((with_reducible apply t_id); first | (with_reducible apply t_seq) | (apply t_region; kernel_rfl) | (apply t_drawn; kernel_rfl; decide +kernel; try simp only [List.append_eq, List.cons_append, List.nil_append]) | ((with_reducible apply t_condT); exact rfl) | ((with_reducible apply t_condF); exact rfl) | ((with_reducible apply t_condD); exact rfl; all_goals first | (intro hp; try (exfalso; omega)) | skip) | ((with_reducible apply t_condN); exact rfl; all_goals first | (intro hp; try (exfalso; omega)) | skip) | ((with_reducible apply t_cond); exact rfl; all_goals first | intro hp | skip) | (with_reducible apply t_ret) | (with_reducible apply t_skip) | (with_reducible apply t_exit) | (with_reducible apply t_block))
    | with_reducible apply q_thenN
    | with_reducible apply q_thenR
    | with_reducible apply q_blockR
    | with_reducible apply q_blockN
    | with_reducible apply q_thenE
    | ((with_reducible apply q_blockE); exact rfl)
    | ((with_reducible apply q_blockO); exact rfl)
    | exact P0
    | (with_reducible apply P1)
    | exact Rdn.zero
    | apply Rdn.succ
    | ((with_reducible apply Norm.nil); exact rfl)
    | ((with_reducible apply Norm.cons); exact rfl)
    | (with_reducible apply end_ret)
    | (with_reducible apply end_normal)
    | exact rvs_nil
    | (with_reducible apply rvs_cons)
    | ((with_reducible apply rv_tmp); exact rfl)
    | ((with_reducible apply rv_cell); exact rfl; exact rfl)
    | ((with_reducible apply rv_cellAgg); exact rfl; exact rfl)
    | exact Nat.le_of_ble_eq_true rfl
    | exact (rfl : (_ : Bool) = true)
    | omega
    | (intro _ _; with_reducible apply tl_id)
    | (intro _; with_reducible apply tl_id)
    | (intro _ _; with_reducible apply al_id)
    | (intro _; with_reducible apply al_id))
  all_goals exact ⟨_, ⟨some (bp, cq), (fun h => by cases h), rfl, rfl⟩, HpSub.refl _⟩
end Go.Proofs.Ytcjkndjjbjoehaa
namespace Go.Proofs.Ytcjkndjjbjoehaa
open Go.RowKit
theorem flatten_at {k : Nat} : ∀ {rows : List (List Value)}, (∀ r ∈ rows, r.length = k) → ∀ {j : Nat} {u : Value}, rows.flatten[j]? = some u → ∃ i r j', rows[i]? = some r ∧ r[j']? = some u ∧ j = i * k + j'
  | [], _, j, u, h => by simp at h
  | r :: rows, hk, j, u, h => by
    simp only [List.flatten_cons] at h
    have hr := hk r (List.mem_cons_self ..)
    by_cases hj : j < r.length
    · rw [List.getElem?_append_left hj] at h
      exact ⟨0, r, j, rfl, h, by simp⟩
    · rw [List.getElem?_append_right (by omega)] at h
      obtain ⟨i, r', j', h1, h2, h3⟩ := flatten_at (fun r hr => hk r (List.mem_cons_of_mem _ hr)) h
      exact ⟨i + 1, r', j', by simpa using h1, h2, by rw [Nat.succ_mul]; omega⟩
theorem flatten_len {k : Nat} : ∀ {rows : List (List Value)}, (∀ r ∈ rows, r.length = k) → rows.flatten.length = rows.length * k
  | [], _ => by simp
  | r :: rows, hk => by
    rw [List.flatten_cons, List.length_append, hk r (List.mem_cons_self ..), flatten_len fun r hr => hk r (List.mem_cons_of_mem _ hr), List.length_cons, Nat.succ_mul]
    omega
section
variable {c : Cx} {F : Fr} {H H' : Hp} {C : List Value} {K : Value → Hp → Prop} {d : Option Tmp} {ty : TypeId} {pos : String} {af : Array Edge} {g : Option (Nat × Bool)}
theorem append_run0 {g0 : Option (Nat × Bool)} {s x : Operand} {t e size bytes c2 n cap gb : Nat} {A : Option Addr} {a : Act} {w : World} (hk : AppOk c.P t e size bytes) (hs : a.eval s = .slice (some ⟨gb, 0, none⟩) n cap)
    (hx : a.eval x = .slice A 0 c2) (hn : n ≤ cap) : (execOp a.eval ⟨d, .call ⟨.builtin .append, #[s, x], #[t, t]⟩, ty, pos, af, g0⟩).run c.P w = .ok (.value (.slice (some ⟨gb, 0, none⟩) n cap)) w := by
  obtain ⟨i, z, k1, k2, k3, k4, k5⟩ := hk.info
  have ht := hk.und
  cases A <;>
  simp [execOp, resolve, invoke, builtin, Sem.run_bind, Sem.run_pure, Result.andThen, hs, hx, Builtin.append_, run_underlying ht, sizeOf, typeInfo, k1, Builtin.lenOf, Builtin.firstCells, loadCells, loadCellsFrom, hn, storeCells]
/-- append of a slice of rows onto a slice of the call's own. -/
theorem os_appendRows {s x : Operand} {t e size bytes m c2 n cap gb : Nat} {A : Option Addr} {rows : List (List Value)} (hk : AppOk c.P t e size bytes) (hs : ev F s = some (.slice (some ⟨gb, 0, none⟩) n cap)) (hx : ev F x = some (.slice A m c2))
    (hp : Pick H gb C (some (e, size, cap)) H') (hr : ∀ D w, Has c.w0 ⟨c.M, D⟩ H w → RdS w size A m rows) (hrk : ∀ r ∈ rows, r.length = size) (hC : C.length = n * size) (h1 : ∀ r ∈ rows, ∀ u ∈ r, u.oneCell' = true) (hn : n ≤ cap) (hb : (n + m) * bytes ≤ 140737488355328) (hmax : n + m ≤ 9223372036854775807)
    (k : ∀ b cap', K (.slice (some ⟨b, 0, none⟩) (n + m) cap') ((b, C ++ rows.flatten, some (e, size, cap')) :: H')) : OS c ⟨d, .call ⟨.builtin .append, #[s, x], #[t, t]⟩, ty, pos, af, g⟩ F H K := by
  intro D a w ha hw
  have hw' := hw.perm hp.perm
  have hR := hr D w hw
  have hlen := hR.len
  by_cases hm : m = 0
  · subst hm
    have : rows = [] := List.eq_nil_of_length_eq_zero hlen
    subst this
    rw [append_run0 (d := d) (ty := ty) (pos := pos) (af := af) (g0 := g) hk (ha.ev hs) (ha.ev hx) hn]
    exact ⟨_, k gb cap, by simpa using hw'⟩
  · obtain ⟨b2, o2, rfl, _, hc⟩ := hR.at_ (by omega)
    obtain ⟨g', cap', w', r1, r2, r3, r4⟩ := append_run (d := d) (ty := ty) (pos := pos) (af := af) (g0 := g) (news := rows.flatten) hk (ha.ev hs) (own_of_blk (hw'.blk _ (List.mem_cons_self ..)).2 hC hk.pos) (ha.ev hx) (by rw [flatten_len hrk, hlen])
      (fun j u hj => by
        obtain ⟨i, r, j', h2, h3, rfl⟩ := flatten_at hrk hj
        have := (hc i r h2).2 j' u h3
        rw [Nat.add_assoc] at this
        exact this)
      (fun u hu => by
        obtain ⟨r, h2, h3⟩ := List.mem_flatten.1 hu
        exact h1 r h2 u h3) (by omega) hb hmax
    rw [r1]
    have he : ExtM [gb] w w' := ExtM.of_grown r3 (fun k e => by simpa [Value.ownBlock] using e.symm)
    refine ⟨_, k g' cap', ?_⟩
    rcases r4 with r4 | r4
    · obtain rfl : g' = gb := by simpa [Value.ownBlock] using r4
      exact hw'.wrote he r2
    · subst r4
      exact (hw'.lost he).fresh' (w := w) hw.ext.size (fun y hy => (hw'.blk y (List.mem_cons_of_mem _ hy)).2.lt) r2
end
end Go.Proofs.Ytcjkndjjbjoehaa
namespace Go.Proofs.Ytcjkndjjbjoehaa
open Go.RowKit
attribute [local irreducible] OQ OS OX Rd T TL GX GL AL AI RV wpG SAny Calls
theorem sameInts_calls (A A' : Option Addr) (n c n' c' : Nat) (l m : List Int) (q : Bool) (hq : q = true ↔ l = m) (w : World) (hr : RdS w 1 A n (l.map inCells)) (hr' : RdS w 1 A' n' (m.map inCells)) (hn : n ≤ 1000000) (hn' : n' ≤ 1000000) :
    Calls Try.prog 54 #[.slice A n c, .slice A' n' c'] w fun e w' => e = .returned (.bool q) ∧ Ext w w' := by
  have hl := hr.len
  have hl' := hr'.len
  simp only [List.length_map] at hl hl'
  by_cases hnn : n = n'
  · subst hnn
    refine enterQ (c := cx w 26) Try.func54 rfl rfl rfl rfl ?_
    repeat' (first | ((with_reducible apply oq_id); first | (apply oq_fn; exact rfl; try first | exact trivial | (and_intros <;> omega))) | ((with_reducible apply tl_id); first | (with_reducible apply tl_nil) | ((with_reducible apply u_q); (iterate 4 exact rfl))) | ((with_reducible apply t_id); first | (with_reducible apply t_seq) | (apply t_region; kernel_rfl) | ((with_reducible apply t_condN); exact rfl; all_goals first | (intro hp; try (exfalso; omega)) | skip) | (with_reducible apply t_skip) | (with_reducible apply t_block)) | with_reducible apply q_thenN)
    apply t_loopK (ι := Nat) [0, 1] (fun k => [(5, .int .i64 (k : Nat))]) (fun _ => []) (fun k => k ≤ n ∧ ∀ j, j < k → l[j]? = m[j]?) (fun k => n - k) (0)
    (repeat (first | exact KeepF.nil | (apply KeepF.cons; exact rfl) | apply KeepF.skip))
    (repeat (first | exact FrSub.nil | (apply FrSub.cons; exact rfl)))
    (repeat (first | exact HpSub.refl _ | (apply HpSub.consE; (repeat (first | exact P0 | apply P1)); exact rfl) | exact HpSub.nil))
    · exact ⟨by omega, fun j hj => by omega⟩
    rintro k ⟨hk, hkp⟩
    try simp only [List.cons_append, List.nil_append]
    by_cases hlt : k < n
    · obtain ⟨b, o, x, rfl, _, hx, c0⟩ := in_read hr hlt
      obtain ⟨b', o', y, rfl, _, hy, d0⟩ := in_read hr' hlt
      by_cases hxy : x = y
      · subst hxy
        repeat' (first | ((with_reducible apply oq_id); first | (focus ((with_reducible apply oq_indexAddrN); (iterate 4 exact rfl); omega)) | (apply oq_fn; exact rfl; try first | exact trivial | (and_intros <;> omega)) | ((with_reducible apply oq_load); exact rfl; exact rfl)) | ((with_reducible apply tl_id); first | (with_reducible apply tl_nil) | ((with_reducible apply u_q); (iterate 4 exact rfl))) | ((with_reducible apply gx_id); first | (with_reducible apply v_nil) | ((with_reducible apply v_q); (iterate 3 exact rfl))) | ((with_reducible apply rd_id); first | (apply Rd.old; (first | (with_reducible assumption) | exact c0 | exact c1 | exact c2 | exact c3 | exact c4 | exact c5 | exact c6 | exact c7 | exact c8 | exact d0 | exact d1 | exact d2 | exact d3 | exact d4 | exact d5); first | exact List.not_mem_nil | exact m0 | exact m1 | exact m2 | exact m3 | exact m4 | exact m5 | exact m6 | exact m7 | exact m8 | exact m9)) | ((with_reducible apply t_id); first | (with_reducible apply t_seq) | (apply t_region; kernel_rfl) | (apply t_drawn; kernel_rfl; decide +kernel; try simp only [List.append_eq, List.cons_append, List.nil_append]) | ((with_reducible apply t_condD); exact rfl; all_goals first | (intro hp; try (exfalso; omega)) | skip) | ((with_reducible apply t_condN); exact rfl; all_goals first | (intro hp; try (exfalso; omega)) | skip) | (with_reducible apply t_skip) | (with_reducible apply t_block)) | with_reducible apply q_thenN | with_reducible apply q_blockN)
        refine ⟨k + 1, ⟨by omega, fun j hj => ?_⟩, by omega, ?_, ?_⟩
        · rcases Nat.lt_or_ge j k with h | h
          · exact hkp j h
          · obtain rfl : j = k := by omega
            rw [hx, hy]
        · try simp only [List.cons_append, List.nil_append]
          (repeat' (first | exact FrSub.nil | (apply FrSub.cons; exact rfl)))
        · try simp only [List.cons_append, List.nil_append]
          (repeat' (first | exact HpSub.refl _))
      · repeat' (first | ((with_reducible apply oq_id); first | (focus ((with_reducible apply oq_indexAddrN); (iterate 4 exact rfl); omega)) | (apply oq_fn; exact rfl; try first | exact trivial | (and_intros <;> omega)) | ((with_reducible apply oq_load); exact rfl; exact rfl)) | ((with_reducible apply tl_id); first | (with_reducible apply tl_nil) | ((with_reducible apply u_q); (iterate 4 exact rfl))) | ((with_reducible apply gx_id); first | (with_reducible apply v_nil) | ((with_reducible apply v_q); (iterate 3 exact rfl))) | ((with_reducible apply rd_id); first | (apply Rd.old; (first | (with_reducible assumption) | exact c0 | exact c1 | exact c2 | exact c3 | exact c4 | exact c5 | exact c6 | exact c7 | exact c8 | exact d0 | exact d1 | exact d2 | exact d3 | exact d4 | exact d5); first | exact List.not_mem_nil | exact m0 | exact m1 | exact m2 | exact m3 | exact m4 | exact m5 | exact m6 | exact m7 | exact m8 | exact m9)) | ((with_reducible apply t_id); first | (with_reducible apply t_seq) | (apply t_region; kernel_rfl) | (apply t_drawn; kernel_rfl; decide +kernel; try simp only [List.append_eq, List.cons_append, List.nil_append]) | ((with_reducible apply t_condD); exact rfl; all_goals first | (intro hp; try (exfalso; omega)) | skip) | ((with_reducible apply t_condN); exact rfl; all_goals first | (intro hp; try (exfalso; omega)) | skip) | (with_reducible apply t_ret) | (with_reducible apply t_skip) | (with_reducible apply t_block)) | with_reducible apply q_thenN | with_reducible apply q_thenR | with_reducible apply q_blockR | (with_reducible apply end_ret) | exact rvs_nil | (with_reducible apply rvs_cons) | ((with_reducible apply rv_tmp); exact rfl))
        have hf : q = false := by
          cases q with
          | false => rfl
          | true =>
            have e := hq.1 rfl
            rw [e, hy] at hx
            exact absurd (Option.some.inj hx).symm hxy
        rw [hf]; rfl
    · repeat' (first | ((with_reducible apply oq_id); first | (apply oq_fn; exact rfl; try first | exact trivial | (and_intros <;> omega))) | ((with_reducible apply tl_id); first | (with_reducible apply tl_nil) | ((with_reducible apply u_q); (iterate 4 exact rfl))) | ((with_reducible apply t_id); first | (with_reducible apply t_seq) | (apply t_region; kernel_rfl) | ((with_reducible apply t_condD); exact rfl; all_goals first | (intro hp; try (exfalso; omega)) | skip) | (with_reducible apply t_ret) | (with_reducible apply t_exit)) | with_reducible apply q_thenN | with_reducible apply q_thenE | ((with_reducible apply q_blockE); exact rfl) | (with_reducible apply end_ret) | exact rvs_nil | (with_reducible apply rvs_cons) | ((with_reducible apply rv_tmp); exact rfl))
      have : q = true := hq.2 (List.ext_getElem? fun j => by
        rcases Nat.lt_or_ge j n with h | h
        · exact hkp j (by omega)
        · rw [List.getElem?_eq_none (by omega), List.getElem?_eq_none (by omega)])
      rw [this]; rfl
  · have : q = false := by
      cases q with
      | false => rfl
      | true => exact absurd (by rw [← hl, ← hl', hq.1 rfl]) hnn
    refine enterQ (c := cx w 26) Try.func54 rfl rfl rfl rfl ?_
    repeat' (first | ((with_reducible apply oq_id); first | (apply oq_fn; exact rfl; try first | exact trivial | (and_intros <;> omega))) | ((with_reducible apply tl_id); first | (with_reducible apply tl_nil) | ((with_reducible apply u_q); (iterate 4 exact rfl))) | ((with_reducible apply t_id); first | (with_reducible apply t_seq) | (apply t_region; kernel_rfl) | ((with_reducible apply t_condN); exact rfl; all_goals first | (intro hp; try (exfalso; omega)) | skip) | (with_reducible apply t_ret)) | with_reducible apply q_thenN | with_reducible apply q_thenR | (with_reducible apply end_ret) | exact rvs_nil | (with_reducible apply rvs_cons) | ((with_reducible apply rv_tmp); exact rfl))
    rw [this]
    all_goals rfl
theorem in_len (l : List Int) : ∀ r ∈ l.map inCells, r.length = 1 := by simp only [List.mem_map]; rintro r ⟨x, _, rfl⟩; rfl
theorem in_one (l : List Int) : ∀ r ∈ l.map inCells, ∀ u ∈ r, u.oneCell' = true := by
  simp only [List.mem_map]
  rintro r ⟨x, _, rfl⟩ u hu
  obtain rfl : u = _ := by simpa [inCells] using hu
  rfl
theorem in_own {w0 : World} {M : Ms} {H H' : Hp} {w : World} {g n : Nat} {l : List Int} {tg : Tg} (hl : l.length = n) (h : Has w0 M H w) (q : Pick H g (l.map inCells).flatten tg H') : RdS w 1 (some ⟨g, 0, none⟩) n (l.map inCells) :=
  Blk.rows (h.blk _ q.mem).2 (by simpa using hl) (in_len l)
end Go.Proofs.Ytcjkndjjbjoehaa
