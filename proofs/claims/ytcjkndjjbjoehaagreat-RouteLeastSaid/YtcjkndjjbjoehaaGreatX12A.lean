/- A part of the proof: rules for walks, and contracts of functions (1). -/
import Derived.Test.YtcjkndjjbjoehaaGreatX8A
import Derived.Test.YtcjkndjjbjoehaaGreatX8B
import Derived.Test.YtcjkndjjbjoehaaGreatX8C
import Derived.Test.YtcjkndjjbjoehaaGreatX8D
import Derived.Test.YtcjkndjjbjoehaaGreatX8E
import Derived.Test.YtcjkndjjbjoehaaGreatX8F
import Derived.Test.YtcjkndjjbjoehaaGreatX8G
import Derived.Test.YtcjkndjjbjoehaaGreatX8H
import Derived.Test.YtcjkndjjbjoehaaGreatX8I
import Derived.Test.YtcjkndjjbjoehaaGreatX8J
import Derived.Test.YtcjkndjjbjoehaaGreatX8K
import Derived.Test.YtcjkndjjbjoehaaGreatX8L
import Derived.Test.YtcjkndjjbjoehaaGreatX8M
import Derived.Test.YtcjkndjjbjoehaaGreatX8N
import Derived.Test.YtcjkndjjbjoehaaGreatX8O
import Derived.Test.YtcjkndjjbjoehaaGreatX8P
import Derived.ProofKit
import Derived.Lib.SmallJoins
import Derived.RangeFuncNested
import Derived.RangeFuncCalls
import Derived.LoopIn
import Derived.RangeFuncLeaves
import Derived.RangeFuncRecord
import Derived.Maps.AppendAt
import Derived.IntWalk
import Derived.Orders
import Derived.Still
import Derived.WalkKit
import Derived.Lib.Hide
import Derived.OrdersIn
import Derived.TacticsIn
import Derived.Laws.MakeOwn
import Derived.Laws.StructEq
import Derived.Test.YtcjkndjjbjoehaaGreatChecked
import Derived.Carry
import Derived.MapKept
import Derived.Laws.IdiomCopy
import Derived.RangeFuncBound
import Derived.Shelf.Abstract
import Derived.Shelf.RegionOpen
import Derived.OwnWalkIn
import Derived.TacticsInMore
import Derived.LoopNIn
set_option linter.unusedVariables false
set_option linter.unusedSimpArgs false
set_option maxRecDepth 100000
set_option maxHeartbeats 2000000
namespace Go.Proofs.YtcjkndjjbjoehaaGreat
theorem gqA1201 {G A1 A2 A3 A4 A5 A6 A7 A8 A9 A10 A11 A12 A13 A14 A15 A16 : Prop} (p : GoP A1 A2 A3 A4 A5 A6 A7 A8 A9 A10 A11 A12 A13 A14 A15 A16) (h : GoL A1 → GoL A2 → GoL A3 → GoL A4 → GoL A5 → GoL A6 → GoL A7 → GoL A8 → GoL A9 → GoL A10 → GoL A11 → GoL A12 → GoL A13 → GoL A14 → GoL A15 → GoL A16 → GoM → G := by intro m1 m2 m3 m4 m5 m6 m7 m8 m9 m10 m11 m12 m13 m14 m15 m16 _; (repeat' (first | ((with_reducible apply oq_id); first | ((with_reducible apply oc_id); first | ((with_reducible apply oq_call (hc := Tryz.call81)); exact rfl; exact rfl; exact fun D w1 hw1 => HFu w1 hw1.ext.ext) | ((with_reducible apply oq_call (hc := Tryz.call57)); exact rfl; exact rfl; exact fun D w1 hw1 => HN w1 hw1.ext.ext) | ((with_reducible apply oq_call (hc := Tryz.call15)); exact rfl; exact rfl; exact fun D w1 hw1 => HG w1 hw1.ext.ext) | ((with_reducible apply oq_call (hc := Tryz.call27)); exact rfl; exact rfl; exact fun D w1 hw1 => H1 w1 hw1.ext.ext) | ((with_reducible apply oq_call (hc := Tryz.call27)); exact rfl; exact rfl; exact fun D w1 hw1 => H3 w1 hw1.ext.ext)) | ((with_reducible apply ob_id); first | (focus ((with_reducible apply (oq_subE (m := fu) (n := a.1) (k := fu - a.1))); exact rfl; exact rfl; omega)) | ((with_reducible apply oq_neqT); exact rfl; exact rfl; omega) | ((with_reducible apply oq_neqF); exact rfl; exact rfl; omega) | ((with_reducible apply oq_lssT); exact rfl; exact rfl; omega) | ((with_reducible apply oq_lssF); exact rfl; exact rfl; omega) | ((with_reducible apply oq_gtrT); exact rfl; exact rfl; omega) | ((with_reducible apply oq_gtrF); exact rfl; exact rfl; omega) | (focus ((with_reducible apply (oq_subE (k := l1 - 1))); exact rfl; exact rfl; omega)) | ((with_reducible apply oq_eqlT); exact rfl; exact rfl; omega) | ((with_reducible apply oq_eqlF); exact rfl; exact rfl; omega)) | (focus ((with_reducible apply oq_indexAddrN (i := i)); (iterate 4 exact rfl); omega)) | (focus ((with_reducible apply oq_indexAddrN (i := s)); (iterate 4 exact rfl); omega)) | (apply oq_fn; exact rfl; first | exact trivial | (constructor <;> omega) | omega | skip) | (apply oq_fn; exact rfl; first | exact trivial | (and_intros <;> omega) | omega | skip) | ((with_reducible apply oq_load); exact rfl; exact rfl) | ((with_reducible apply oq_loadAgg); exact rfl; exact rfl) | ((with_reducible apply oq_build); (iterate 3 exact rfl)) | ((with_reducible apply oq_buildA); (iterate 4 exact rfl)) | ((with_reducible apply oq_fieldAgg); (iterate 3 exact rfl)) | ((with_reducible apply oq_indexAgg); (iterate 4 exact rfl))) | ((with_reducible apply tl_id); first | (with_reducible apply tl_nil) | ((with_reducible apply u_q); (iterate 4 exact rfl)) | ((with_reducible apply u_s0); exact rfl; exact rfl) | ((with_reducible apply u_s); (iterate 3 exact rfl)) | ((with_reducible apply u_skip); (iterate 3 exact rfl)) | ((with_reducible apply u_splitD); exact rfl; exact rfl; all_goals first | (intro _; try (exfalso; omega)) | skip) | ((with_reducible apply u_splitN); exact rfl; exact rfl; all_goals first | (intro _; try (exfalso; omega)) | skip) | ((with_reducible apply u_split); exact rfl; exact rfl; all_goals first | intro _ | skip)) | ((with_reducible apply gx_id); first | (with_reducible apply v_nil) | ((with_reducible apply v_q); (iterate 3 exact rfl)) | ((with_reducible apply v_skip); (iterate 3 exact rfl)) | ((with_reducible apply v_splitD); exact rfl; exact rfl; all_goals first | (intro _; try (exfalso; omega)) | skip) | ((with_reducible apply v_splitN); exact rfl; exact rfl; all_goals first | (intro _; try (exfalso; omega)) | skip) | ((with_reducible apply v_split); exact rfl; exact rfl; all_goals first | intro _ | skip)) | ((with_reducible apply os_id); first | ((with_reducible apply os_x); exact rfl) | ((with_reducible apply os_store); (iterate 4 exact rfl)) | ((with_reducible apply os_storeAgg); (iterate 5 exact rfl)) | ((with_reducible apply os_appendNil (hk := app_ok132)); exact rfl; exact rfl) | ((with_reducible apply os_append (hk := app_ok132)); exact rfl; exact rfl; (repeat first | exact P0 | apply P1))) | ((with_reducible apply ox_id); first | ((with_reducible apply ox_alloc); exact rfl; intro _) | ((with_reducible apply ox_box); exact rfl; exact rfl; intro _) | ((with_reducible apply ox_boxAgg); exact rfl; intro _) | ((with_reducible apply ox_buildSlice1); (iterate 6 exact rfl); intro _) | ((with_reducible apply ox_buildSlice2); (iterate 6 exact rfl); intro _) | ((with_reducible apply ox_buildSlice); (iterate 4 exact rfl))) | ((with_reducible apply rd_id); first | (apply rd_pn0 hx; (repeat first | exact P0 | apply P1); done) | (apply rd_pn1 hx; (repeat first | exact P0 | apply P1); done) | (apply rd_pn2 hx; (repeat first | exact P0 | apply P1); done) | (apply Rd.own; (repeat first | exact P0 | apply P1); exact rfl; done) | (apply Rd.old; (first | (with_reducible assumption) | exact c0 | exact c1 | exact c2 | exact c3 | exact c4 | exact c5 | exact c6 | exact c7 | exact c8 | exact d0 | exact d1 | exact d2 | exact d3 | exact d4 | exact d5); first | exact List.not_mem_nil | exact m0 | exact m1 | exact m2 | exact m3 | exact m4 | exact m5 | exact m6 | exact m7 | exact m8 | exact m9)) | ((with_reducible apply t_id); first | (with_reducible apply t_seq) | (apply t_region; kernel_rfl) | (apply t_drawn; kernel_rfl; decide +kernel; try simp only [List.append_eq, List.cons_append, List.nil_append]) | ((with_reducible apply t_condT); exact rfl) | ((with_reducible apply t_condF); exact rfl) | ((with_reducible apply t_condD); exact rfl; all_goals first | (intro _; try (exfalso; omega)) | skip) | ((with_reducible apply t_condN); exact rfl; all_goals first | (intro _; try (exfalso; omega)) | skip) | ((with_reducible apply t_cond); exact rfl; all_goals first | intro _ | skip) | (with_reducible apply t_ret) | (with_reducible apply t_skip) | (with_reducible apply t_exit) | (with_reducible apply t_block)) | with_reducible apply q_thenN | with_reducible apply q_thenR | with_reducible apply q_blockR | with_reducible apply q_blockN | with_reducible apply q_thenE | ((with_reducible apply q_blockE); exact rfl) | ((with_reducible apply q_blockO); exact rfl) | exact P0 | (with_reducible apply P1) | exact Rdn.zero | apply Rdn.succ | ((with_reducible apply Norm.nil); exact rfl) | ((with_reducible apply Norm.cons); exact rfl) | (with_reducible apply end_ret) | (with_reducible apply end_normal) | exact rvs_nil | (with_reducible apply rvs_cons) | ((with_reducible apply rv_tmp); exact rfl) | exact pnF_len _ | ((with_reducible apply rv_cell); exact rfl; exact rfl) | ((with_reducible apply rv_cellAgg); exact rfl; exact rfl) | exact Nat.le_of_ble_eq_true rfl | exact (rfl : (_ : Bool) = true) | omega | (intro _ _; with_reducible apply tl_id) | (intro _; with_reducible apply tl_id) | (intro _ _; with_reducible apply al_id) | (intro _; with_reducible apply al_id))); (try focus (repeat (rename_i x; first | exact goD x m1.p | revert x))); (try focus (repeat (rename_i x; first | exact goD x m2.p | revert x))); (try focus (repeat (rename_i x; first | exact goD x m3.p | revert x))); (try focus (repeat (rename_i x; first | exact goD x m4.p | revert x))); (try focus (repeat (rename_i x; first | exact goD x m5.p | revert x))); (try focus (repeat (rename_i x; first | exact goD x m6.p | revert x))); (try focus (repeat (rename_i x; first | exact goD x m7.p | revert x))); (try focus (repeat (rename_i x; first | exact goD x m8.p | revert x))); (try focus (repeat (rename_i x; first | exact goD x m9.p | revert x))); (try focus (repeat (rename_i x; first | exact goD x m10.p | revert x))); (try focus (repeat (rename_i x; first | exact goD x m11.p | revert x))); (try focus (repeat (rename_i x; first | exact goD x m12.p | revert x))); (try focus (repeat (rename_i x; first | exact goD x m13.p | revert x))); (try focus (repeat (rename_i x; first | exact goD x m14.p | revert x))); (try focus (repeat (rename_i x; first | exact goD x m15.p | revert x))); (try focus (repeat (rename_i x; first | exact goD x m16.p | revert x)))) (e : GoTs A1 A2 A3 A4 A5 A6 A7 A8 A9 A10 A11 A12 A13 A14 A15 A16 := by constructor <;> first | (with_reducible exact GoT.t) | exact GoT.u) : G := p.run h
theorem gqA1204 {G A1 A2 A3 A4 A5 A6 A7 A8 A9 A10 A11 A12 A13 A14 A15 A16 : Prop} (p : GoP A1 A2 A3 A4 A5 A6 A7 A8 A9 A10 A11 A12 A13 A14 A15 A16) (h : GoL A1 → GoL A2 → GoL A3 → GoL A4 → GoL A5 → GoL A6 → GoL A7 → GoL A8 → GoL A9 → GoL A10 → GoL A11 → GoL A12 → GoL A13 → GoL A14 → GoL A15 → GoL A16 → GoM → G := by intro m1 m2 m3 m4 m5 m6 m7 m8 m9 m10 m11 m12 m13 m14 m15 m16 _; (repeat' (first | ((with_reducible apply oq_id); first | ((with_reducible apply oc_id); first | ((with_reducible apply oq_call (hc := Tryz.call34)); exact rfl; exact rfl; exact fun D w1 hw1 => alive_calls w1) | ((with_reducible apply oq_call (hc := Tryz.call15)); exact rfl; exact rfl; exact fun D w1 hw1 => HG w1 hw1.ext.ext) | ((with_reducible apply oq_call (hc := Tryz.call31)); exact rfl; exact rfl; exact fun D w1 hw1 => H31 w1 hw1.ext.ext) | ((with_reducible apply oq_call (hc := Tryz.call27)); exact rfl; exact rfl; exact fun D w1 hw1 => H1 w1 hw1.ext.ext)) | (apply oq_fn; exact rfl; first | exact trivial | (and_intros <;> omega) | omega | skip) | ((with_reducible apply oq_load); exact rfl; exact rfl) | ((with_reducible apply oq_loadAgg); exact rfl; exact rfl) | ((with_reducible apply oq_build); (iterate 3 exact rfl)) | ((with_reducible apply oq_buildA); (iterate 4 exact rfl)) | ((with_reducible apply oq_fieldAgg); (iterate 3 exact rfl)) | ((with_reducible apply oq_indexAgg); (iterate 4 exact rfl))) | ((with_reducible apply tl_id); first | (with_reducible apply tl_nil) | ((with_reducible apply u_q); (iterate 4 exact rfl)) | ((with_reducible apply u_s0); exact rfl; exact rfl) | ((with_reducible apply u_s); (iterate 3 exact rfl)) | ((with_reducible apply u_skip); (iterate 3 exact rfl)) | ((with_reducible apply u_splitD); exact rfl; exact rfl; all_goals first | (intro _; try (exfalso; omega)) | skip) | ((with_reducible apply u_splitN); exact rfl; exact rfl; all_goals first | (intro _; try (exfalso; omega)) | skip) | ((with_reducible apply u_split); exact rfl; exact rfl; all_goals first | intro _ | skip)) | ((with_reducible apply gx_id); first | (with_reducible apply v_nil) | ((with_reducible apply v_q); (iterate 3 exact rfl)) | ((with_reducible apply v_skip); (iterate 3 exact rfl)) | ((with_reducible apply v_splitD); exact rfl; exact rfl; all_goals first | (intro _; try (exfalso; omega)) | skip) | ((with_reducible apply v_splitN); exact rfl; exact rfl; all_goals first | (intro _; try (exfalso; omega)) | skip) | ((with_reducible apply v_split); exact rfl; exact rfl; all_goals first | intro _ | skip)) | ((with_reducible apply os_id); first | ((with_reducible apply os_x); exact rfl) | ((with_reducible apply os_store); (iterate 4 exact rfl)) | ((with_reducible apply os_storeAgg); (iterate 5 exact rfl))) | ((with_reducible apply ox_id); first | ((with_reducible apply ox_alloc); exact rfl; intro _) | ((with_reducible apply ox_box); exact rfl; exact rfl; intro _) | ((with_reducible apply ox_boxAgg); exact rfl; intro _) | ((with_reducible apply ox_buildSlice1); (iterate 6 exact rfl); intro _) | ((with_reducible apply ox_buildSlice2); (iterate 6 exact rfl); intro _) | ((with_reducible apply ox_buildSlice); (iterate 4 exact rfl))) | ((with_reducible apply rd_id); first | (apply Rd.own; (repeat first | exact P0 | apply P1); exact rfl; done) | (apply Rd.old; (first | (with_reducible assumption) | exact c0 | exact c1 | exact c2 | exact c3 | exact c4 | exact c5 | exact c6 | exact c7 | exact c8 | exact d0 | exact d1 | exact d2 | exact d3 | exact d4 | exact d5); first | exact List.not_mem_nil | exact m0 | exact m1 | exact m2 | exact m3 | exact m4 | exact m5 | exact m6 | exact m7 | exact m8 | exact m9)) | ((with_reducible apply t_id); first | (with_reducible apply t_seq) | (apply t_region; kernel_rfl) | (apply t_drawn; kernel_rfl; decide +kernel; try simp only [List.append_eq, List.cons_append, List.nil_append]) | ((with_reducible apply t_condT); exact rfl) | ((with_reducible apply t_condF); exact rfl) | ((with_reducible apply t_condD); exact rfl; all_goals first | (intro _; try (exfalso; omega)) | skip) | ((with_reducible apply t_condN); exact rfl; all_goals first | (intro _; try (exfalso; omega)) | skip) | ((with_reducible apply t_cond); exact rfl; all_goals first | intro _ | skip) | (with_reducible apply t_ret) | (with_reducible apply t_skip) | (with_reducible apply t_exit) | (with_reducible apply t_block)) | with_reducible apply q_thenN | with_reducible apply q_thenR | with_reducible apply q_blockR | with_reducible apply q_blockN | with_reducible apply q_thenE | ((with_reducible apply q_blockE); exact rfl) | ((with_reducible apply q_blockO); exact rfl) | exact P0 | (with_reducible apply P1) | exact Rdn.zero | apply Rdn.succ | ((with_reducible apply Norm.nil); exact rfl) | ((with_reducible apply Norm.cons); exact rfl) | (with_reducible apply end_ret) | (with_reducible apply end_normal) | exact rvs_nil | (with_reducible apply rvs_cons) | ((with_reducible apply rv_tmp); exact rfl) | ((with_reducible apply rv_cell); exact rfl; exact rfl) | ((with_reducible apply rv_cellAgg); exact rfl; exact rfl) | exact Nat.le_of_ble_eq_true rfl | exact (rfl : (_ : Bool) = true) | omega | (intro _ _; with_reducible apply tl_id) | (intro _; with_reducible apply tl_id) | (intro _ _; with_reducible apply al_id) | (intro _; with_reducible apply al_id))); (try focus (repeat (rename_i x; first | exact goD x m1.p | revert x))); (try focus (repeat (rename_i x; first | exact goD x m2.p | revert x))); (try focus (repeat (rename_i x; first | exact goD x m3.p | revert x))); (try focus (repeat (rename_i x; first | exact goD x m4.p | revert x))); (try focus (repeat (rename_i x; first | exact goD x m5.p | revert x))); (try focus (repeat (rename_i x; first | exact goD x m6.p | revert x))); (try focus (repeat (rename_i x; first | exact goD x m7.p | revert x))); (try focus (repeat (rename_i x; first | exact goD x m8.p | revert x))); (try focus (repeat (rename_i x; first | exact goD x m9.p | revert x))); (try focus (repeat (rename_i x; first | exact goD x m10.p | revert x))); (try focus (repeat (rename_i x; first | exact goD x m11.p | revert x))); (try focus (repeat (rename_i x; first | exact goD x m12.p | revert x))); (try focus (repeat (rename_i x; first | exact goD x m13.p | revert x))); (try focus (repeat (rename_i x; first | exact goD x m14.p | revert x))); (try focus (repeat (rename_i x; first | exact goD x m15.p | revert x))); (try focus (repeat (rename_i x; first | exact goD x m16.p | revert x)))) (e : GoTs A1 A2 A3 A4 A5 A6 A7 A8 A9 A10 A11 A12 A13 A14 A15 A16 := by constructor <;> first | (with_reducible exact GoT.t) | exact GoT.u) : G := p.run h
theorem gqT6e {G A1 A2 A3 A4 A5 A6 A7 A8 A9 A10 A11 A12 A13 A14 A15 A16 : Prop} (p : GoP A1 A2 A3 A4 A5 A6 A7 A8 A9 A10 A11 A12 A13 A14 A15 A16) (h : GoL A1 → GoL A2 → GoL A3 → GoL A4 → GoL A5 → GoL A6 → GoL A7 → GoL A8 → GoL A9 → GoL A10 → GoL A11 → GoL A12 → GoL A13 → GoL A14 → GoL A15 → GoL A16 → GoM → G := by intro m1 m2 m3 m4 m5 m6 m7 m8 m9 m10 m11 m12 m13 m14 m15 m16 _; (repeat' (first | ((with_reducible apply oq_id); first | ((with_reducible apply oq_call (hc := Tryz.call67)); exact rfl; exact rfl; (intro D w1 hw1; refine rfrom1_f ?_ hw1 (by (repeat first | exact P0 | apply P1)); omega)) | ((with_reducible apply oq_call (hc := Tryz.call71)); exact rfl; exact rfl; (intro D w1 hw1; refine within6_f _ _ _ ?_ w1; omega)) | ((with_reducible apply oq_call (hc := Tryz.call71)); exact rfl; exact rfl; (intro D w1 hw1; refine within6_t _ _ _ ?_ w1; omega)) | ((with_reducible apply oq_eqNilT); (iterate 3 exact rfl)) | (focus ((with_reducible apply (oq_subE (k := (m : Int) - 1))); exact rfl; exact rfl; omega)) | (apply oq_fn; exact rfl; first | exact trivial | (constructor <;> omega) | omega | skip) | ((with_reducible apply oq_load); exact rfl; exact rfl)) | ((with_reducible apply tl_id); first | (with_reducible apply tl_nil) | ((with_reducible apply u_q); (iterate 4 exact rfl)) | ((with_reducible apply u_s); (iterate 3 exact rfl))) | ((with_reducible apply os_id); first | ((with_reducible apply os_x); exact rfl)) | ((with_reducible apply ox_id); first | ((with_reducible apply ox_boxAgg); exact rfl; intro _) | ((with_reducible apply ox_buildSlice1); (iterate 6 exact rfl); intro _)) | ((with_reducible apply rd_id); first | (apply Rd.own; (repeat first | exact P0 | apply P1); exact rfl; done)) | ((with_reducible apply t_id); first | (with_reducible apply t_seq) | (apply t_region; kernel_rfl) | ((with_reducible apply t_condT); exact rfl) | (with_reducible apply t_ret) | ((with_reducible apply t_condF); exact rfl) | (with_reducible apply t_skip) | (with_reducible apply t_block)) | with_reducible apply q_thenN | with_reducible apply q_thenR | (with_reducible apply end_ret) | exact rvs_nil | (with_reducible apply rvs_cons) | ((with_reducible apply rv_tmp); exact rfl))); (try focus (repeat (rename_i x; first | exact goD x m1.p | revert x))); (try focus (repeat (rename_i x; first | exact goD x m2.p | revert x))); (try focus (repeat (rename_i x; first | exact goD x m3.p | revert x))); (try focus (repeat (rename_i x; first | exact goD x m4.p | revert x))); (try focus (repeat (rename_i x; first | exact goD x m5.p | revert x))); (try focus (repeat (rename_i x; first | exact goD x m6.p | revert x))); (try focus (repeat (rename_i x; first | exact goD x m7.p | revert x))); (try focus (repeat (rename_i x; first | exact goD x m8.p | revert x))); (try focus (repeat (rename_i x; first | exact goD x m9.p | revert x))); (try focus (repeat (rename_i x; first | exact goD x m10.p | revert x))); (try focus (repeat (rename_i x; first | exact goD x m11.p | revert x))); (try focus (repeat (rename_i x; first | exact goD x m12.p | revert x))); (try focus (repeat (rename_i x; first | exact goD x m13.p | revert x))); (try focus (repeat (rename_i x; first | exact goD x m14.p | revert x))); (try focus (repeat (rename_i x; first | exact goD x m15.p | revert x))); (try focus (repeat (rename_i x; first | exact goD x m16.p | revert x)))) (e : GoTs A1 A2 A3 A4 A5 A6 A7 A8 A9 A10 A11 A12 A13 A14 A15 A16 := by constructor <;> first | (with_reducible exact GoT.t) | exact GoT.u) : G := p.run h
open Go.ChangeShapes Go.WideShapes Go.ChangeAt Go.RowKit
section
variable {H : Type} {enc : TypeId × Value → H} {P : Program} {W : World} {held : Bool}
theorem in_openO {x : List Value} (h : LfsOk [.int .i64] x) : ∃ y : Int, x = inCells y ∧ True := by
 obtain ⟨z0, u0, rfl, _, h⟩ := h.int
 obtain rfl := h.nil
 exact ⟨z0, rfl, trivial⟩
end
end Go.Proofs.YtcjkndjjbjoehaaGreat
namespace Go.Proofs.YtcjkndjjbjoehaaGreat
open Go.RowKit
attribute [local irreducible] OQ OS OX Rd T TL GX GL AL AI RV wpG SAny Calls
def chkF (need : Nat → Pl) (cst : Nat × Bool → Int) (q : Int) : Nat → List Nat → List (Nat × Bool) → Int → Int × Int
 | _, [], _, _ => (0, 0)
 | i, s :: ss, g, fu => match need s with
   | none => ((i : Int), 64)
   | some a => if fu < a.1 + q then ((i : Int), 64) else match g with
     | [] => ((i : Int), 0)
     | x :: g => if cst x < 0 then ((i : Int), 63) else chkF need cst q (i + 1) ss g (fu - cst x)
theorem travel_no (AM A : Option Addr) (m cM n cp : Nat) (L : List Lg) (w : World) (hr : RdS w 5 A n (L.map lgCells)) (hn : n ≤ 1000000) (hm : m ≤ 1000000) (v q1 q2 q3 q4 g0 g1 : Int) (AC : Option Addr) (nC cC : Nat) (C : List Wn) (hrc : CastR w AC nC C) (hs : ∀ z ∈ C, z.n ≤ 1000000) (s : Int) (AR : Option Addr) (nR cR : Nat) (rs : List Int) (hR : RdS w 1 AR nR (rs.map inCells)) (hnR : nR ≤ 1000000) (hE : askE m L v q1 q2 q3 q4 g0 g1 C ≠ 0) : Calls Tryz.prog 57 #[.agg #[.slice AM m cM, .slice A n cp], .agg #[.int .i64 v, .int .i64 q1, .int .i64 q2, .int .i64 q3, .int .i64 q4, .int .i64 g0, .int .i64 g1], .slice AC nC cC, .int .i64 s, .slice AR nR cR] w fun e w' => e = .returned (.tuple #[.pointer none, .int .i64 (askE m L v q1 q2 q3 q4 g0 g1 C)]) ∧ Ext w w' := by
 have HN := fun w1 (hx : Ext w w1) => open_no AM A m cM n cp L w1 (hr.ext hx) hn hm v q1 q2 q3 q4 g0 g1 AC nC cC C (hrc.ext hx) hs hE
 generalize askE m L v q1 q2 q3 q4 g0 g1 C = e at *
 refine enterQ (c := cx w 123) Tryz.func57 rfl rfl rfl rfl ?_
 ((all_goals refine gqT0e ?_); (all_goals constructor); (any_goals exact trivial); all_goals intros)
 all_goals rfl
theorem travel_many (AM A : Option Addr) (m cM n cp : Nat) (L : List Lg) (w : World) (hr : RdS w 5 A n (L.map lgCells)) (hn : n ≤ 1000000) (hm : m ≤ 1000000) (v q1 q2 q3 q4 g0 g1 : Int) (AC : Option Addr) (nC cC : Nat) (C : List Wn) (hrc : CastR w AC nC C) (hs : ∀ z ∈ C, z.n ≤ 1000000) (s : Int) (AR : Option Addr) (nR cR : Nat) (rs : List Int) (hR : RdS w 1 AR nR (rs.map inCells)) (hnR : nR ≤ 1000000) (hE : askE m L v q1 q2 q3 q4 g0 g1 C = 0) (h20 : 20 < rs.length) : Calls Tryz.prog 57 #[.agg #[.slice AM m cM, .slice A n cp], .agg #[.int .i64 v, .int .i64 q1, .int .i64 q2, .int .i64 q3, .int .i64 q4, .int .i64 g0, .int .i64 g1], .slice AC nC cC, .int .i64 s, .slice AR nR cR] w fun e w' => e = .returned (.tuple #[.pointer none, .int .i64 4]) ∧ Ext w w' := by
 have hl : rs.length = nR := by simpa using hR.len
 have HO := fun w1 (hx : Ext w w1) => open_ok AM A m cM n cp L w1 (hr.ext hx) hn hm v q1 q2 q3 q4 g0 g1 AC nC cC C (hrc.ext hx) hs hE
 refine enterQ (c := cx w 123) Tryz.func57 rfl rfl rfl rfl ?_
 ((all_goals refine gqT0e ?_); (all_goals constructor); (any_goals exact trivial); all_goals intros)
 all_goals rfl
def pnS (l : List Pn) : Option (Nat × Nat) → Value
 | none => .slice none 0 0
 | some (g, c) => .slice (some ⟨g, 0, none⟩) l.length c
def pnH (l : List Pn) : Option (Nat × Nat) → Hp
 | none => []
 | some (g, c) => [(g, (l.map pnCells).flatten, some (131, 3, c))]
def ChkV (need : Nat → Pl) (S : List Nat) (r : Int × Int) (u : Value) (H : Hp) : Prop := ∃ l P o, u = .tuple #[.int .i64 r.1, pnS l o, .int .i64 r.2] ∧ (r.2 = 0 → l.map (·.p) = S.map need) ∧ (r.2 ≠ 0 → l = []) ∧ (∀ x ∈ l, InP P x) ∧ (o = none → l = []) ∧ H = pnH l o ++ poolH P
theorem pn_snoc1 (l : List Pn) (p : Pl) (A : Option Addr) (n c : Nat) : (l.map pnCells).flatten ++ [.int .i64 (plF p), .slice A n c, .bool p.isNone] = ((l ++ [(⟨p, A, n, c⟩ : Pn)]).map pnCells).flatten := by simp [pnCells]
theorem check76_calls (bT bD bM : Nat) (AS : Option Addr) (cS : Nat) (AG : Option Addr) (cG : Nat) (AP AT : Option Addr) (m cM n cp : Nat) (L : List Lg) (v q1 q2 q3 q4 : Int) (g0 g1 : Nat) (E : List En) (C : List Wn) (T : List Bool) (p : Trp) (rs : List Int) (w : World) (ht : TrpR w bT bD bM AS cS AG cG AP AT m cM n cp v q1 q2 q3 q4 g0 g1 E p) (hTI : TI L m rs p) (hE : E.map keyOf = deskE v q1 q2 q3 C L n) (hr : RdS w 5 AT n (L.map lgCells)) (hT : RdS w 1 AP m (T.map blCells)) (hn : n ≤ 40) (hm : m ≤ 12) (h20 : rs.length ≤ 20) (hL : ∀ z ∈ L, LegOk m z) (hp : PaceOk v q1 q2 q3 q4 g0 g1) (hcw : ∀ x ∈ C, windB x.l = true) (hC : C.length ≤ 4) (fu : Int) (hfu : 0 ≤ fu ∧ fu ≤ 1099511627776) (r : Int × Int) (hck0 : chkF (fun s => (plansF (arcs (legC v q1 q2 q3 g0 g1 C) L) m (fun s => T.getD s false) m).getD s none) (flC v q1 q2 q3 g0 g1 C L) q4 0 p.2 p.1 fu = r) : Calls Tryz.prog 76 #[.pointer (some ⟨bT, 0, none⟩), .int .i64 fu] w fun e w' => ∃ u H', e = .returned u ∧ ChkV (fun s => (plansF (arcs (legC v q1 q2 q3 g0 g1 C) L) m (fun s => T.getD s false) m).getD s none) p.2 r u H' ∧ Has w ⟨[], []⟩ H' w' := by
 obtain ⟨c0, c1, c2, hs, hg, hd⟩ := ht
 obtain ⟨hg1, hg2, hg3, hg4⟩ := hTI
 have d0 := hd.c6
 have hl : L.length = n := by simpa using hr.len
 obtain ⟨_, _, _, _, p5, _⟩ := id hp
 have hleg : ∀ (i : Nat) (x : Nat × Bool), p.1[i]? = some x → ∃ z, L[x.1]? = some z := fun i x hx => by
   have hi := (List.getElem?_eq_some_iff.1 hx).1
   obtain ⟨r', hr'⟩ : ∃ r', rs[i]? = some r' := ⟨_, List.getElem?_eq_getElem (by omega)⟩
   obtain ⟨z, t, bk, _, _, e1, _, e3, _⟩ := hg4 i r' hr'
   rw [hx] at e1
   obtain rfl := Option.some.inj e1
   exact ⟨z, e3⟩
 have hbd := fun s a (h : (plansF (arcs (legC v q1 q2 q3 g0 g1 C) L) m (fun s => T.getD s false) m).getD s none = some a) => need_bound hp hcw hL hm h
 have HA := fun w1 (hx : Ext w w1) => alternates_calls bD bM AP AT m cM n cp L v q1 q2 q3 q4 g0 g1 E C w1 (hd.ext hx) hE (hr.ext hx) hn hm hL hp hcw hC T (hT.ext hx)
 refine enterF (c := cx w 94) Tryz.func76 rfl rfl rfl rfl ?_
 repeat' (first | ((with_reducible apply oq_id); first | (apply oq_fn; exact rfl; first | exact trivial | (constructor <;> omega) | omega | skip) | ((with_reducible apply oq_load); exact rfl; exact rfl) | ((with_reducible apply oq_call (hc := Tryz.call67)); exact rfl; exact rfl; (intro D w1 hw1; refine rfrom1_t ?_ hw1 (by (repeat first | exact P0 | apply P1)); omega))) | ((with_reducible apply tl_id); first | (with_reducible apply tl_nil) | ((with_reducible apply u_s); (iterate 3 exact rfl); (with_reducible apply os_callF (PV := PlansV _ m) (hc := Tryz.call74)); exact rfl; exact rfl; exact fun D w1 hw1 => HA w1 hw1.ext.ext; rintro _ _ ⟨l, P, g0', c, hlp, hlP, rfl, rfl⟩; simp only [List.cons_append, List.nil_append]) | ((with_reducible apply u_q); (iterate 4 exact rfl)) | ((with_reducible apply u_s); (iterate 3 exact rfl))) | ((with_reducible apply os_id); first | ((with_reducible apply os_x); exact rfl)) | ((with_reducible apply ox_id); first | ((with_reducible apply ox_buildSlice1); (iterate 6 exact rfl); intro _)) | ((with_reducible apply rd_id); first | (apply Rd.old; (first | (with_reducible assumption) | exact c0 | exact c1 | exact c2 | exact c3 | exact c4 | exact c5 | exact c6 | exact c7 | exact c8 | exact d0 | exact d1 | exact d2 | exact d3 | exact d4 | exact d5); first | exact List.not_mem_nil | exact m0 | exact m1 | exact m2 | exact m3 | exact m4 | exact m5 | exact m6 | exact m7 | exact m8 | exact m9)) | ((with_reducible apply t_id); first | (with_reducible apply t_seq) | (apply t_region; kernel_rfl) | ((with_reducible apply t_condF); exact rfl) | (with_reducible apply t_skip) | (with_reducible apply t_block)) | with_reducible apply q_thenN)
 apply t_loopP (ι := Nat × Int × List Pn × Option (Nat × Nat)) [0, 8, 26, 27] (fun z => [(28, .int .i64 ((z.1 : Nat) : Int)), (1, .int .i64 z.2.1), (7, pnS z.2.2.1 z.2.2.2)]) (fun z => pnH z.2.2.1 z.2.2.2 ++ ((g0', (l.map pnCells).flatten, some (131, 3, c)) :: poolH P)) (fun z => z.1 ≤ p.1.length ∧ z.2.2.1.map (·.p) = (p.2.take z.1).map ((fun s => (plansF (arcs (legC v q1 q2 q3 g0 g1 C) L) m (fun s => T.getD s false) m).getD s none)) ∧ chkF (fun s => (plansF (arcs (legC v q1 q2 q3 g0 g1 C) L) m (fun s => T.getD s false) m).getD s none) (flC v q1 q2 q3 g0 g1 C L) q4 z.1 (p.2.drop z.1) (p.1.drop z.1) z.2.1 = r ∧ (∀ x ∈ z.2.2.1, InP P x) ∧ (z.2.2.2 = none → z.2.2.1 = []) ∧ -166666666667 ≤ z.2.1 ∧ z.2.1 ≤ 1099511627776) (fun z => p.2.length - z.1) (0, fu, [], none)
 (repeat (first | exact KeepF.nil | (apply KeepF.cons; exact rfl) | apply KeepF.skip))
 (repeat first | exact FrSub.nil | (apply FrSub.cons; exact rfl))
 (try simp only [List.cons_append, List.nil_append])
 (repeat' (first | exact HpSub.appLeft | (apply HpSub.consE; (repeat first | exact P0 | apply P1); first | exact rfl | exact pn_snoc _ _ | exact pn_snoc1 _ _ _ _ _ | (simp [pnCells, pnS]; done) | skip)))
 · refine ⟨Nat.zero_le _, rfl, by simpa using hck0, fun x hx => (by cases hx), fun _ => rfl, by simp only; omega, by simp only; omega⟩
 rintro ⟨i, fu, lo, o⟩ ⟨hi, hlo, hck, hlI, ho, hf0, hf1⟩
 simp only at hi hlo hck hlI ho hf0 hf1
 try simp only [List.cons_append, List.nil_append]
 have hll : l.length = m := by have := congrArg List.length hlp; simpa [plansF_len] using this
 obtain ⟨s, hsi⟩ : ∃ s, p.2[i]? = some s := ⟨_, List.getElem?_eq_getElem (by omega)⟩
 have hsm := hg3 s (List.mem_of_getElem? hsi)
 obtain ⟨bS', oS', rfl, c3⟩ := st_read hs (show i < p.2.length by omega) hsi
 obtain ⟨x, hx⟩ : ∃ x, l[s]? = some x := ⟨_, List.getElem?_eq_getElem (by omega)⟩
 have hxp : x.p = (plansF (arcs (legC v q1 q2 q3 g0 g1 C) L) m (fun s => T.getD s false) m).getD s none := (getD_map hlp hx).symm
 have hls : (lo ++ [x]).map (·.p) = (p.2.take (i + 1)).map (fun s => (plansF (arcs (legC v q1 q2 q3 g0 g1 C) L) m (fun s => T.getD s false) m).getD s none) := by
   rw [List.take_add_one, hsi, List.map_append, List.map_append, hlo]
   simp [hxp]
 have hlI : ∀ y ∈ lo ++ [x], InP P y := fun y hy => by
   rcases List.mem_append.1 hy with hy | hy
   · exact hlI y hy
   · obtain rfl := List.mem_singleton.1 hy
     exact hlP _ (List.mem_of_getElem? hx)
 have hlen : lo.length = i := by have := congrArg List.length hlo; simpa [List.length_take, Nat.min_eq_left (show i ≤ p.2.length by omega)] using this
 rw [List.drop_eq_getElem_cons (show i < p.2.length by omega), (List.getElem?_eq_some_iff.1 hsi).2] at hck
 simp only [chkF] at hck
 rcases o with _ | ⟨gO, cO⟩
 · obtain rfl := ho rfl
   simp only [pnS, pnH, List.nil_append, List.cons_append]
   obtain ⟨xp, xA, xn, xc⟩ := x
   simp only at hxp
   rcases xp with _ | a
   · rw [← hxp] at hck
     simp only at hck
     subst hck
     ((all_goals refine gqA1201 ?_); (all_goals constructor); (any_goals exact trivial); all_goals intros)
     all_goals exact ⟨_, ⟨[], [], none, rfl, fun h => (by cases h), fun _ => rfl, fun x hx => (by cases hx), fun _ => rfl, rfl⟩, HpSub.nil⟩
   obtain ⟨ha0, ha1, _⟩ := hbd s a hxp.symm
   rw [← hxp] at hck
   simp only at hck
   by_cases hlow : fu < a.1 + q4
   · rw [if_pos hlow] at hck
     subst hck
     ((all_goals refine gqA1201 ?_); (all_goals constructor); (any_goals exact trivial); all_goals intros)
     all_goals exact ⟨_, ⟨[], [], none, rfl, fun h => (by cases h), fun _ => rfl, fun x hx => (by cases hx), fun _ => rfl, rfl⟩, HpSub.nil⟩
   rw [if_neg hlow] at hck
   by_cases hig : i = p.1.length
   · rw [List.drop_of_length_le (by omega)] at hck
     simp only at hck
     subst hck
     have hfin : List.map (fun y : Pn => y.p) ([] ++ [⟨some a, xA, xn, xc⟩]) = p.2.map (fun s => (plansF (arcs (legC v q1 q2 q3 g0 g1 C) L) m (fun s => T.getD s false) m).getD s none) := by
       rw [hls, List.take_of_length_le (by omega)]
     ((all_goals refine gqA1201 ?_); (all_goals constructor); (any_goals exact trivial); all_goals intros)
     all_goals (rename_i b11 b39 gN cN; refine ⟨_, ⟨[] ++ [⟨some a, xA, xn, xc⟩], P, some (gN, cN), ?_, fun _ => hfin, fun h => absurd rfl h, hlI, fun h => (by cases h), rfl⟩, ?_⟩)
     all_goals first | (simp only [pnS, List.length_append, List.length_singleton, List.length_nil, List.nil_append, hig]; rfl) | (simp only [pnH, List.cons_append, List.nil_append]; (repeat' (first | exact HpSub.refl _ | (apply HpSub.consE; (repeat first | exact P0 | apply P1); first | exact rfl | exact pn_snoc _ _ | exact pn_snoc1 _ _ _ _ _ | (simp [pnCells, pnS]; done) | skip) | apply HpSub.skipX)))
   obtain ⟨bG, oG, t, bk, rfl, hgi, e0, e1⟩ := fl_read hg (show i < p.1.length by omega)
   obtain ⟨z, hz⟩ := hleg i (t, bk) hgi
   rw [List.drop_eq_getElem_cons (show i < p.1.length by omega), (List.getElem?_eq_some_iff.1 hgi).2] at hck
   simp only at hck
   have hfl : flC v q1 q2 q3 g0 g1 C L (t, bk) = legC v q1 q2 q3 g0 g1 C z bk := by unfold flC; rw [hz]
   rw [hfl] at hck
   have HFu := fun w1 (hx : Ext w w1) => fuel_calls bD bM AP AT m cM n cp v q1 q2 q3 q4 g0 g1 E C L t z bk w1 (hd.ext hx) hE (hr.ext hx) (by omega) (by have := (List.getElem?_eq_some_iff.1 hz).1; omega) hz (hL z (List.mem_of_getElem? hz)) hp hcw hC
   unfold fuelV at HFu
   have hcb := (legC_le hcw hp (hL z (List.mem_of_getElem? hz)) bk).1
   by_cases hop : legC v q1 q2 q3 g0 g1 C z bk < 0
   · rw [if_pos hop] at hck
     subst hck
     simp only [if_neg (show ¬ 0 ≤ legC v q1 q2 q3 g0 g1 C z bk by omega), decide_eq_false (show ¬ 0 ≤ legC v q1 q2 q3 g0 g1 C z bk by omega)] at HFu
     ((all_goals refine gqA1201 ?_); (all_goals constructor); (any_goals exact trivial); all_goals intros)
     all_goals exact ⟨_, ⟨[], [], none, rfl, fun h => (by cases h), fun _ => rfl, fun x hx => (by cases hx), fun _ => rfl, rfl⟩, HpSub.nil⟩
   rw [if_neg hop] at hck
   simp only [if_pos (show 0 ≤ legC v q1 q2 q3 g0 g1 C z bk by omega), decide_eq_true (show 0 ≤ legC v q1 q2 q3 g0 g1 C z bk by omega)] at HFu
   ((all_goals refine gqA1201 ?_); (all_goals constructor); (any_goals exact trivial); all_goals intros)
   all_goals (rename_i b11 b39 gN cN; refine ⟨(i + 1, fu - legC v q1 q2 q3 g0 g1 C z bk, [] ++ [⟨some a, xA, xn, xc⟩], some (gN, cN)), ⟨by simp only; omega, hls, hck, hlI, fun h => (by cases h), by simp only; omega, by simp only; omega⟩, by simp only; omega, ?_, ?_⟩ <;> (try simp only [pnS, pnH, List.nil_append, List.cons_append, List.length_append, List.length_singleton, List.length_nil]) <;> (repeat' (first | exact FrSub.nil | (apply FrSub.cons; exact rfl) | exact HpSub.refl _ | (apply HpSub.consE; (repeat first | exact P0 | apply P1); first | exact rfl | exact pn_snoc _ _ | exact pn_snoc1 _ _ _ _ _ | (simp [pnCells, pnS]; done) | skip) | apply HpSub.skipX)))
 · simp only [pnS, pnH, List.nil_append, List.cons_append]
   obtain ⟨xp, xA, xn, xc⟩ := x
   simp only at hxp
   rcases xp with _ | a
   · rw [← hxp] at hck
     simp only at hck
     subst hck
     ((all_goals refine gqA1201 ?_); (all_goals constructor); (any_goals exact trivial); all_goals intros)
     all_goals exact ⟨_, ⟨[], [], none, rfl, fun h => (by cases h), fun _ => rfl, fun x hx => (by cases hx), fun _ => rfl, rfl⟩, HpSub.nil⟩
   obtain ⟨ha0, ha1, _⟩ := hbd s a hxp.symm
   rw [← hxp] at hck
   simp only at hck
   by_cases hlow : fu < a.1 + q4
   · rw [if_pos hlow] at hck
     subst hck
     ((all_goals refine gqA1201 ?_); (all_goals constructor); (any_goals exact trivial); all_goals intros)
     all_goals exact ⟨_, ⟨[], [], none, rfl, fun h => (by cases h), fun _ => rfl, fun x hx => (by cases hx), fun _ => rfl, rfl⟩, HpSub.nil⟩
   rw [if_neg hlow] at hck
   by_cases hig : i = p.1.length
   · rw [List.drop_of_length_le (by omega)] at hck
     simp only at hck
     subst hck
     have hfin : List.map (fun y : Pn => y.p) (lo ++ [⟨some a, xA, xn, xc⟩]) = p.2.map (fun s => (plansF (arcs (legC v q1 q2 q3 g0 g1 C) L) m (fun s => T.getD s false) m).getD s none) := by
       rw [hls, List.take_of_length_le (by omega)]
     ((all_goals refine gqA1201 ?_); (all_goals constructor); (any_goals exact trivial); all_goals intros)
     all_goals (rename_i b11 b39 gN cN; refine ⟨_, ⟨lo ++ [⟨some a, xA, xn, xc⟩], P, some (gN, cN), ?_, fun _ => hfin, fun h => absurd rfl h, hlI, fun h => (by cases h), rfl⟩, ?_⟩)
     all_goals first | (simp only [pnS, List.length_append, List.length_singleton, List.length_nil, List.nil_append, hig]; rfl) | (simp only [pnH, List.cons_append, List.nil_append]; (repeat' (first | exact HpSub.refl _ | (apply HpSub.consE; (repeat first | exact P0 | apply P1); first | exact rfl | exact pn_snoc _ _ | exact pn_snoc1 _ _ _ _ _ | (simp [pnCells, pnS]; done) | skip) | apply HpSub.skipX)))
   obtain ⟨bG, oG, t, bk, rfl, hgi, e0, e1⟩ := fl_read hg (show i < p.1.length by omega)
   obtain ⟨z, hz⟩ := hleg i (t, bk) hgi
   rw [List.drop_eq_getElem_cons (show i < p.1.length by omega), (List.getElem?_eq_some_iff.1 hgi).2] at hck
   simp only at hck
   have hfl : flC v q1 q2 q3 g0 g1 C L (t, bk) = legC v q1 q2 q3 g0 g1 C z bk := by unfold flC; rw [hz]
   rw [hfl] at hck
   have HFu := fun w1 (hx : Ext w w1) => fuel_calls bD bM AP AT m cM n cp v q1 q2 q3 q4 g0 g1 E C L t z bk w1 (hd.ext hx) hE (hr.ext hx) (by omega) (by have := (List.getElem?_eq_some_iff.1 hz).1; omega) hz (hL z (List.mem_of_getElem? hz)) hp hcw hC
   unfold fuelV at HFu
   have hcb := (legC_le hcw hp (hL z (List.mem_of_getElem? hz)) bk).1
   by_cases hop : legC v q1 q2 q3 g0 g1 C z bk < 0
   · rw [if_pos hop] at hck
     subst hck
     simp only [if_neg (show ¬ 0 ≤ legC v q1 q2 q3 g0 g1 C z bk by omega), decide_eq_false (show ¬ 0 ≤ legC v q1 q2 q3 g0 g1 C z bk by omega)] at HFu
     ((all_goals refine gqA1201 ?_); (all_goals constructor); (any_goals exact trivial); all_goals intros)
     all_goals exact ⟨_, ⟨[], [], none, rfl, fun h => (by cases h), fun _ => rfl, fun x hx => (by cases hx), fun _ => rfl, rfl⟩, HpSub.nil⟩
   rw [if_neg hop] at hck
   simp only [if_pos (show 0 ≤ legC v q1 q2 q3 g0 g1 C z bk by omega), decide_eq_true (show 0 ≤ legC v q1 q2 q3 g0 g1 C z bk by omega)] at HFu
   ((all_goals refine gqA1201 ?_); (all_goals constructor); (any_goals exact trivial); all_goals intros)
   all_goals (rename_i b11 b39 gN cN; refine ⟨(i + 1, fu - legC v q1 q2 q3 g0 g1 C z bk, lo ++ [⟨some a, xA, xn, xc⟩], some (gN, cN)), ⟨by simp only; omega, hls, hck, hlI, fun h => (by cases h), by simp only; omega, by simp only; omega⟩, by simp only; omega, ?_, ?_⟩ <;> (try simp only [pnS, pnH, List.nil_append, List.cons_append, List.length_append, List.length_singleton, List.length_nil]) <;> (repeat' (first | exact FrSub.nil | (apply FrSub.cons; exact rfl) | exact HpSub.refl _ | (apply HpSub.consE; (repeat first | exact P0 | apply P1); first | exact rfl | exact pn_snoc _ _ | exact pn_snoc1 _ _ _ _ _ | (simp [pnCells, pnS]; done) | skip) | apply HpSub.skipX)))
theorem check76_no (bT bD bM : Nat) (AS : Option Addr) (cS : Nat) (AG : Option Addr) (cG : Nat) (AP AT : Option Addr) (m cM n cp : Nat) (L : List Lg) (v q1 q2 q3 q4 : Int) (g0 g1 : Nat) (E : List En) (C : List Wn) (T : List Bool) (p : Trp) (rs : List Int) (w : World) (ht : TrpR w bT bD bM AS cS AG cG AP AT m cM n cp v q1 q2 q3 q4 g0 g1 E p) (hTI : TI L m rs p) (hE : E.map keyOf = deskE v q1 q2 q3 C L n) (hr : RdS w 5 AT n (L.map lgCells)) (hT : RdS w 1 AP m (T.map blCells)) (hn : n ≤ 40) (hm : m ≤ 12) (h20 : rs.length ≤ 20) (hL : ∀ z ∈ L, LegOk m z) (hp : PaceOk v q1 q2 q3 q4 g0 g1) (hcw : ∀ x ∈ C, windB x.l = true) (hC : C.length ≤ 4) (fu : Int) (hfu : ¬ (0 ≤ fu ∧ fu ≤ 1099511627776)) : Calls Tryz.prog 76 #[.pointer (some ⟨bT, 0, none⟩), .int .i64 fu] w fun e w' => ∃ u H', e = .returned u ∧ ChkV (fun s => (plansF (arcs (legC v q1 q2 q3 g0 g1 C) L) m (fun s => T.getD s false) m).getD s none) p.2 (0, 2) u H' ∧ Has w ⟨[], []⟩ H' w' := by
 refine enterF (c := cx w 94) Tryz.func76 rfl rfl rfl rfl ?_
 ((all_goals refine gqT6e ?_); (all_goals constructor); (any_goals exact trivial); all_goals intros)
 all_goals exact ⟨_, ⟨[], [], none, rfl, fun h => (by cases h), fun _ => rfl, fun x hx => (by cases hx), fun _ => rfl, rfl⟩, HpSub.nil⟩
def ledE (m : Nat) (L : List Lg) (v q1 q2 q3 q4 g0 g1 : Int) (C : List Wn) (s : Int) (rs : List Int) : Int :=
 if askE m L v q1 q2 q3 q4 g0 g1 C = 0 then (if rs.length ≤ 20 then (match tripI m L s rs with | none => 2 | some _ => 0) else 4) else askE m L v q1 q2 q3 q4 g0 g1 C
theorem led_zero {m : Nat} {L : List Lg} {v q1 q2 q3 q4 g0 g1 : Int} {C : List Wn} {s : Int} {rs : List Int} (h : ledE m L v q1 q2 q3 q4 g0 g1 C s rs = 0) : askE m L v q1 q2 q3 q4 g0 g1 C = 0 ∧ rs.length ≤ 20 ∧ ∃ p, tripI m L s rs = some p := by
 unfold ledE at h
 split at h
 · rename_i h1
   split at h
   · rename_i h2
     cases hp : tripI m L s rs with
     | none => rw [hp] at h; cases h
     | some p => exact ⟨h1, h2, p, rfl⟩
   · cases h
 · rename_i h1
   exact absurd h h1
theorem travel_err (AM A : Option Addr) (m cM n cp : Nat) (L : List Lg) (w : World) (hr : RdS w 5 A n (L.map lgCells)) (hn : n ≤ 1000000) (hm : m ≤ 1000000) (v q1 q2 q3 q4 g0 g1 : Int) (AC : Option Addr) (nC cC : Nat) (C : List Wn) (hrc : CastR w AC nC C) (hs : ∀ z ∈ C, z.n ≤ 1000000) (s : Int) (AR : Option Addr) (nR cR : Nat) (rs : List Int) (hR : RdS w 1 AR nR (rs.map inCells)) (hnR : nR ≤ 1000000) (he : ledE m L v q1 q2 q3 q4 g0 g1 C s rs ≠ 0) : Calls Tryz.prog 57 #[.agg #[.slice AM m cM, .slice A n cp], .agg #[.int .i64 v, .int .i64 q1, .int .i64 q2, .int .i64 q3, .int .i64 q4, .int .i64 g0, .int .i64 g1], .slice AC nC cC, .int .i64 s, .slice AR nR cR] w fun e w' => e = .returned (.tuple #[.pointer none, .int .i64 (ledE m L v q1 q2 q3 q4 g0 g1 C s rs)]) ∧ Ext w w' := by
 by_cases hE : askE m L v q1 q2 q3 q4 g0 g1 C = 0
 rotate_left
 · rw [show ledE m L v q1 q2 q3 q4 g0 g1 C s rs = askE m L v q1 q2 q3 q4 g0 g1 C from if_neg hE]
   exact travel_no AM A m cM n cp L w hr hn hm v q1 q2 q3 q4 g0 g1 AC nC cC C hrc hs s AR nR cR rs hR hnR hE
 by_cases h20 : rs.length ≤ 20
 rotate_left
 · rw [show ledE m L v q1 q2 q3 q4 g0 g1 C s rs = 4 by unfold ledE; rw [if_pos hE, if_neg h20]]
   exact travel_many AM A m cM n cp L w hr hn hm v q1 q2 q3 q4 g0 g1 AC nC cC C hrc hs s AR nR cR rs hR hnR hE (by omega)
 cases hp : tripI m L s rs with
 | some p => exact absurd (by unfold ledE; rw [if_pos hE, if_pos h20, hp]) he
 | none =>
   rw [show ledE m L v q1 q2 q3 q4 g0 g1 C s rs = 2 by unfold ledE; rw [if_pos hE, if_pos h20, hp]]
   have h := travel_ok AM A m cM n cp L w hr hn hm v q1 q2 q3 q4 g0 g1 AC nC cC C hrc hs s AR nR cR rs hR hnR hE h20
   rw [hp] at h
   exact h.mono fun e w' ⟨u, H', h1, ⟨h2, h3⟩, h4⟩ => ⟨by rw [h1, h2], h4.ext.ext⟩
noncomputable def chkE (m : Nat) (L : List Lg) (T : List Bool) (v q1 q2 q3 q4 : Int) (g0 g1 : Nat) (C : List Wn) (p : Trp) (fu : Int) : Int × Int := if 0 ≤ fu ∧ fu ≤ 1099511627776 then chkF (fun s => (plansF (arcs (legC v q1 q2 q3 g0 g1 C) L) m (fun s => T.getD s false) m).getD s none) (flC v q1 q2 q3 g0 g1 C L) q4 0 p.2 p.1 fu else (0, 2)
theorem check27_err (AM A : Option Addr) (m cM n cp : Nat) (L : List Lg) (w : World) (hr : RdS w 5 A n (L.map lgCells)) (hn : n ≤ 1000000) (hm : m ≤ 1000000) (v q1 q2 q3 q4 g0 g1 : Int) (AC : Option Addr) (nC cC : Nat) (C : List Wn) (hrc : CastR w AC nC C) (hs : ∀ z ∈ C, z.n ≤ 1000000) (s : Int) (AR : Option Addr) (nR cR : Nat) (rs : List Int) (hR : RdS w 1 AR nR (rs.map inCells)) (hnR : nR ≤ 1000000) (he : ledE m L v q1 q2 q3 q4 g0 g1 C s rs ≠ 0) (fu : Int) : Calls Tryz.prog 27 #[.agg #[.slice AM m cM, .slice A n cp], .agg #[.int .i64 v, .int .i64 q1, .int .i64 q2, .int .i64 q3, .int .i64 q4, .int .i64 g0, .int .i64 g1], .slice AC nC cC, .int .i64 s, .slice AR nR cR, .int .i64 fu] w fun e w' => e = .returned (.tuple #[.int .i64 0, .int .i64 (ledE m L v q1 q2 q3 q4 g0 g1 C s rs)]) ∧ Ext w w' := by
 have HN := fun w1 (hx : Ext w w1) => travel_err AM A m cM n cp L w1 (hr.ext hx) hn hm v q1 q2 q3 q4 g0 g1 AC nC cC C (hrc.ext hx) hs s AR nR cR rs (hR.ext hx) hnR he
 generalize ledE m L v q1 q2 q3 q4 g0 g1 C s rs = e0 at *
 refine enterQ (c := cx w 36) Tryz.func27 rfl rfl rfl rfl ?_
 ((all_goals refine gqT0e ?_); (all_goals constructor); (any_goals exact trivial); all_goals intros)
 all_goals rfl
theorem check27_ok (AM A : Option Addr) (m cM n cp : Nat) (L : List Lg) (w : World) (hr : RdS w 5 A n (L.map lgCells)) (hn : n ≤ 1000000) (hm : m ≤ 1000000) (v q1 q2 q3 q4 : Int) (g0 g1 : Nat) (AC : Option Addr) (nC cC : Nat) (C : List Wn) (hrc : CastR w AC nC C) (hs : ∀ z ∈ C, z.n ≤ 1000000) (s : Int) (AR : Option Addr) (nR cR : Nat) (rs : List Int) (hR : RdS w 1 AR nR (rs.map inCells)) (hnR : nR ≤ 1000000) (hE : askE m L v q1 q2 q3 q4 (g0 : Nat) (g1 : Nat) C = 0) (h20 : rs.length ≤ 20) (p : Trp) (htr : tripI m L s rs = some p) (T : List Bool) (hT : RdS w 1 AM m (T.map blCells)) (fu : Int) : Calls Tryz.prog 27 #[.agg #[.slice AM m cM, .slice A n cp], .agg #[.int .i64 v, .int .i64 q1, .int .i64 q2, .int .i64 q3, .int .i64 q4, .int .i64 (g0 : Nat), .int .i64 (g1 : Nat)], .slice AC nC cC, .int .i64 s, .slice AR nR cR, .int .i64 fu] w fun e w' => e = .returned (.tuple #[.int .i64 (chkE m L T v q1 q2 q3 q4 g0 g1 C p fu).1, .int .i64 (chkE m L T v q1 q2 q3 q4 g0 g1 C p fu).2]) ∧ Ext w w' := by
 have HO := fun w1 (hx : Ext w w1) => travel_ok AM A m cM n cp L w1 (hr.ext hx) hn hm v q1 q2 q3 q4 g0 g1 AC nC cC C (hrc.ext hx) hs s AR nR cR rs (hR.ext hx) hnR hE h20
 rw [htr] at HO
 obtain ⟨hch, hpk, hk0⟩ := askE_ok hE
 obtain ⟨hcl, hcw⟩ := castE_zero.1 hk0
 have hlc := hrc.len
 obtain ⟨hm1, hL40, hLk⟩ := chartB_iff.1 hch
 have hl : L.length = n := by simpa using hr.len
 have hTI := trip_in hLk htr
 have HK := fun bT bD bM bS cS E AG cG w1 (hx : Ext w w1) (ht : TrpR w1 bT bD bM (some ⟨bS, 0, none⟩) cS AG cG AM A m cM n cp v q1 q2 q3 q4 g0 g1 E p) hE2 => (by
   unfold chkE
   split
   · rename_i hfu
     exact check76_calls bT bD bM (some ⟨bS, 0, none⟩) cS AG cG AM A m cM n cp L v q1 q2 q3 q4 g0 g1 E C T p rs w1 ht hTI hE2 (hr.ext hx) (hT.ext hx) (by omega) (by omega) h20 hLk hpk hcw (by omega) fu hfu _ rfl
   · rename_i hfu
     exact check76_no bT bD bM (some ⟨bS, 0, none⟩) cS AG cG AM A m cM n cp L v q1 q2 q3 q4 g0 g1 E C T p rs w1 ht hTI hE2 (hr.ext hx) (hT.ext hx) (by omega) (by omega) h20 hLk hpk hcw (by omega) fu hfu : Calls Tryz.prog 76 #[.pointer (some ⟨bT, 0, none⟩), .int .i64 fu] w1 fun e w' => ∃ u H', e = .returned u ∧ ChkV (fun s => (plansF (arcs (legC v q1 q2 q3 g0 g1 C) L) m (fun s => T.getD s false) m).getD s none) p.2 (chkE m L T v q1 q2 q3 q4 g0 g1 C p fu) u H' ∧ Has w1 ⟨[], []⟩ H' w')
 obtain ⟨ce, hce⟩ : ∃ ce, chkE m L T v q1 q2 q3 q4 g0 g1 C p fu = ce := ⟨_, rfl⟩
 rw [hce] at HK ⊢
 refine enterQ (c := cx w 36) Tryz.func27 rfl rfl rfl rfl ?_
 repeat' (first | ((with_reducible apply oq_id); first | ((with_reducible apply oq_neqF); exact rfl; exact rfl; omega) | (apply oq_fn; exact rfl; first | exact trivial | (constructor <;> omega) | omega | skip) | ((with_reducible apply oq_loadAgg); exact rfl; exact rfl)) | ((with_reducible apply tl_id); first | (with_reducible apply tl_nil) | ((with_reducible apply u_s); (iterate 3 exact rfl); (with_reducible apply os_callS (PV := TravV AM _ m cM n cp v q1 q2 q3 q4 g0 g1 C L (some p)) (hc := Tryz.call57)); exact rfl; exact rfl; exact fun D w1 hw1 => HO w1 hw1.ext.ext; rintro _ _ ⟨bT, bD, bM, bS, cS, E, o, rfl, ho, rfl, hE2, hnl⟩; simp only [List.cons_append, List.nil_append]) | ((with_reducible apply u_s); (iterate 3 exact rfl); (with_reducible apply os_callS (PV := ChkV _ p.2 ce) (hc := Tryz.call76)); exact rfl; exact rfl; exact fun D w1 hw1 => (by obtain ⟨AG, cG, ht⟩ := TrpR.of_has (hw1.sub (by repeat (first | exact HpSub.refl _ | apply HpSub.skipX))) ho hnl; exact HK bT bD bM bS cS E AG cG w1 hw1.ext.ext ht hE2); rintro _ _ ⟨l, P, o2, rfl, hl1, hl2, hlI, ho2, rfl⟩; simp only [List.cons_append, List.nil_append]) | ((with_reducible apply u_q); (iterate 4 exact rfl)) | ((with_reducible apply u_s); (iterate 3 exact rfl))) | ((with_reducible apply os_id); first | ((with_reducible apply os_x); exact rfl)) | ((with_reducible apply ox_id); first | ((with_reducible apply ox_boxAgg); exact rfl; intro _)) | ((with_reducible apply rd_id); first | (apply Rd.own; (repeat first | exact P0 | apply P1); exact rfl; done)) | ((with_reducible apply t_id); first | (with_reducible apply t_seq) | (apply t_region; kernel_rfl) | ((with_reducible apply t_condF); exact rfl) | (with_reducible apply t_ret) | (with_reducible apply t_skip)) | with_reducible apply q_thenN | exact Rdn.zero | apply Rdn.succ | (with_reducible apply end_ret) | exact rvs_nil | (with_reducible apply rvs_cons) | ((with_reducible apply rv_tmp); exact rfl))
 all_goals rfl
theorem least31_err (AM A : Option Addr) (m cM n cp : Nat) (L : List Lg) (w : World) (hr : RdS w 5 A n (L.map lgCells)) (hn : n ≤ 1000000) (hm : m ≤ 1000000) (v q1 q2 q3 q4 g0 g1 : Int) (AC : Option Addr) (nC cC : Nat) (C : List Wn) (hrc : CastR w AC nC C) (hs : ∀ z ∈ C,z.n ≤ 1000000) (s : Int) (AR : Option Addr) (nR cR : Nat) (rs : List Int) (hR : RdS w 1 AR nR (rs.map inCells)) (hnR : nR ≤ 1000000) (he : ledE m L v q1 q2 q3 q4 g0 g1 C s rs ≠ 0) : Calls Tryz.prog 31 #[.agg #[.slice AM m cM,.slice A n cp],.agg #[.int .i64 v,.int .i64 q1,.int .i64 q2,.int .i64 q3,.int .i64 q4,.int .i64 g0,.int .i64 g1],.slice AC nC cC,.int .i64 s,.slice AR nR cR] w fun e w' => e = .returned (.tuple #[.int .i64 0,.int .i64 (ledE m L v q1 q2 q3 q4 g0 g1 C s rs)]) ∧ Ext w w' := by
 have HN := fun w1 (hx : Ext w w1) => travel_err AM A m cM n cp L w1 (hr.ext hx) hn hm v q1 q2 q3 q4 g0 g1 AC nC cC C (hrc.ext hx) hs s AR nR cR rs (hR.ext hx) hnR he
 generalize ledE m L v q1 q2 q3 q4 g0 g1 C s rs = e0 at *
 refine enterQ (c := cx w 89) Tryz.func31 rfl rfl rfl rfl ?_
 ((all_goals refine gqA1201 ?_); (all_goals constructor); (any_goals exact trivial); all_goals intros)
 all_goals rfl
end Go.Proofs.YtcjkndjjbjoehaaGreat
namespace Go.Proofs.YtcjkndjjbjoehaaGreat
open Go.RowKit
section
variable {L : List Lg} {cst : Lg → Bool → Int} {m : Nat}
/-! Along a trip -/
def smC (fc : Nat × Bool → Int) (g : List (Nat × Bool)) : Nat → Int
 | 0 => 0
 | k + 1 => smC fc g k + (match g[k]? with | none => 0 | some x => fc x)
end
section
variable {need : Nat → Pl} {cst : Nat × Bool → Int} {q : Int}
def ChL (g : Nat) (i : Nat) (fu : Int) (r : Int × Int) : Option Int → Prop
 | none => r.2 = 63 ∨ r.2 = 64
 | some w => (w ≤ fu → r = (((i + g : Nat) : Int), 0)) ∧ (fu < w → r.2 = 64)
theorem chk_lb (hn : ∀ s a, need s = some a → 0 ≤ a.1 + q) : ∀ (g : List (Nat × Bool)) (S : List Nat) (i : Nat) (fu : Int), S.length = g.length + 1 → ChL g.length i fu (chkF need cst q i S g fu) (lbF need cst q S g)
 | [], S, i, fu, h => by
   obtain ⟨s, rfl⟩ : ∃ s, S = [s] := List.length_eq_one_iff.1 (by simpa using h)
   simp only [chkF, lbF, List.tail_nil]
   cases hs : need s with
   | none => exact .inr rfl
   | some a =>
     have := hn s a hs
     simp only [ChL]
     refine ⟨fun hw => ?_, fun hw => ?_⟩
     · rw [if_neg (by omega)]; rfl
     · rw [if_pos (by omega)]
 | x :: g, S, i, fu, h => by
   rcases S with _ | ⟨s, S⟩
   · simp at h
   have ih := chk_lb hn g S (i + 1) (fu - cst x) (by simpa using h)
   simp only [chkF, lbF, List.tail_cons]
   cases hs : need s with
   | none =>
     cases lbF need cst q S g <;> exact .inr rfl
   | some a =>
     simp only
     by_cases hx : cst x < 0
     · simp only [if_pos hx]
       have hr : ∀ o : Option Int, (o = none) → ChL (x :: g).length i fu (if fu < a.1 + q then ((i : Int), 64) else ((i : Int), 63)) o := by
         rintro o rfl
         simp only [ChL]
         split <;> simp
       cases lbF need cst q S g <;> exact hr _ rfl
     · simp only [if_neg hx]
       cases hl : lbF need cst q S g with
       | none =>
         rw [hl] at ih
         simp only [ChL] at ih ⊢
         split
         · exact .inr rfl
         · exact ih
       | some w =>
         rw [hl] at ih
         simp only [ChL] at ih ⊢
         obtain ⟨i1, i2⟩ := ih
         refine ⟨fun hw => ?_, fun hw => ?_⟩
         · rw [if_neg (by omega), i1 (by omega)]
           simp only [List.length_cons]
           rw [show i + 1 + g.length = i + (g.length + 1) by omega]
         · split
           · rfl
           · exact i2 (by omega)
theorem lb_ge (h0 : ∀ s a, need s = some a → 0 ≤ a.1) {s : Nat} {S : List Nat} {g : List (Nat × Bool)} {w : Int} (h : lbF need cst q (s :: S) g = some w) : q ≤ w := by
 simp only [lbF] at h
 split at h
 · cases h
 split at h
 · cases h
 rename_i a hs
 have := h0 s a hs
 split at h
 · obtain rfl := Option.some.inj h; omega
 · split at h
   · cases h
   · obtain rfl := Option.some.inj h; omega
def SiteOk (need : Nat → Pl) (cst : Nat × Bool → Int) (q : Int) (S : List Nat) (g : List (Nat × Bool)) (fu : Int) (j : Nat) : Prop := ∃ s a, S[j]? = some s ∧ need s = some a ∧ a.1 + q ≤ fu - smC cst g j
def SiteNo (need : Nat → Pl) (cst : Nat × Bool → Int) (q : Int) (S : List Nat) (g : List (Nat × Bool)) (fu : Int) (j : Nat) : Prop := ∃ s, S[j]? = some s ∧ ∀ a, need s = some a → fu - smC cst g j < a.1 + q
structure ChkIs (need : Nat → Pl) (cst : Nat × Bool → Int) (q : Int) (S : List Nat) (g : List (Nat × Bool)) (fu : Int) (j : Nat) (e : Int) : Prop where
 le : j ≤ g.length
 ok : ∀ k, k < j → SiteOk need cst q S g fu k ∧ ∃ x, g[k]? = some x ∧ 0 ≤ cst x
 end_ : (e = 64 ∧ SiteNo need cst q S g fu j) ∨ (e = 63 ∧ SiteOk need cst q S g fu j ∧ ∃ x, g[j]? = some x ∧ cst x < 0) ∨ (e = 0 ∧ SiteOk need cst q S g fu j ∧ j = g.length)
end
theorem askE_bad {m : Nat} {L : List Lg} {v q1 q2 q3 q4 g0 g1 : Int} {C : List Wn} (h : askE m L v q1 q2 q3 q4 g0 g1 C ≠ 0) : askE m L v q1 q2 q3 q4 g0 g1 C ∈ [61, 62, 4, 22] := by
 have key : askE m L v q1 q2 q3 q4 g0 g1 C = 61 ∨ askE m L v q1 q2 q3 q4 g0 g1 C = 62 ∨ askE m L v q1 q2 q3 q4 g0 g1 C = 4 ∨ askE m L v q1 q2 q3 q4 g0 g1 C = 22 ∨ askE m L v q1 q2 q3 q4 g0 g1 C = 0 := by
   unfold askE castE
   (repeat' split) <;> simp
 rcases key with e | e | e | e | e <;> rw [e] <;> first | decide | exact absurd e h
end Go.Proofs.YtcjkndjjbjoehaaGreat
namespace Go.Proofs.YtcjkndjjbjoehaaGreat
open Go.RowKit
attribute [local irreducible] OQ OS OX Rd T TL GX GL AL AI RV wpG SAny Calls
theorem led_bad {m : Nat} {L : List Lg} {v q1 q2 q3 q4 g0 g1 : Int} {C : List Wn} {s : Int} {rs : List Int} (h : ledE m L v q1 q2 q3 q4 g0 g1 C s rs ≠ 0) : ledE m L v q1 q2 q3 q4 g0 g1 C s rs = 61 ∨ ledE m L v q1 q2 q3 q4 g0 g1 C s rs = 62 ∨ ledE m L v q1 q2 q3 q4 g0 g1 C s rs = 4 ∨ ledE m L v q1 q2 q3 q4 g0 g1 C s rs = 22 ∨ ledE m L v q1 q2 q3 q4 g0 g1 C s rs = 2 := by
 by_cases hA : askE m L v q1 q2 q3 q4 g0 g1 C = 0
 · unfold ledE at h ⊢
   rw [if_pos hA] at h ⊢
   by_cases h2 : rs.length ≤ 20
   · rw [if_pos h2] at h ⊢
     cases ht : tripI m L s rs with
     | none => simp
     | some p => rw [ht] at h; exact absurd rfl h
   · rw [if_neg h2]; simp
 · have := askE_bad hA
   unfold ledE
   rw [if_neg hA]
   simp at this
   omega
theorem need_nn {v q1 q2 q3 q4 : Int} {g0 g1 : Nat} {C : List Wn} {L : List Lg} {m : Nat} {T : List Bool} (hpk : PaceOk v q1 q2 q3 q4 g0 g1) (hcw : ∀ x ∈ C, windB x.l = true) (hLk : ∀ z ∈ L, LegOk m z) (hm : m ≤ 12) : ∀ s a, (fun s => (plansF (arcs (legC v q1 q2 q3 g0 g1 C) L) m (fun s => T.getD s false) m).getD s none) s = some a → 0 ≤ a.1 := fun s a h => (need_bound hpk hcw hLk hm h).1
structure LesF (n : Nat) (q4 : Int) (l : Int × Int) (c : Int → Int × Int) : Prop where
 bad : l.2 ≠ 0 → l.1 = 0 ∧ ((l.2 = 6 ∧ ((c 1099511627776).2 = 64 ∨ (c 1099511627776).2 = 63)) ∨ (l.2 ≠ 6 ∧ (c 1099511627776).2 = l.2))
 ok : l.2 = 0 → c l.1 = ((n : Int), 0) ∧ (∀ f, l.1 ≤ f → f ≤ 1099511627776 → (c f).2 = 0) ∧ q4 ≤ l.1 ∧ 0 ≤ l.1 ∧ l.1 ≤ 1099511627776 ∧ (0 < l.1 → (c (l.1 - 1)).2 = 64)
theorem lst_law {v q1 q2 q3 q4 : Int} {g0 g1 : Nat} {C : List Wn} {L : List Lg} {m : Nat} {T : List Bool} {rs : List Int} {p : Trp} (hpk : PaceOk v q1 q2 q3 q4 g0 g1) (hcw : ∀ x ∈ C, windB x.l = true) (hLk : ∀ z ∈ L, LegOk m z) (hm : m ≤ 12) (hTI : TI L m rs p) : LesF rs.length q4 (lstE m L T v q1 q2 q3 q4 g0 g1 C p) (chkE m L T v q1 q2 q3 q4 g0 g1 C p) := by
 have hn0 := need_nn (T := T) hpk hcw hLk hm
 obtain ⟨_, _, _, _, p5, _⟩ := id hpk
 have hn1 : ∀ s a, (fun s => (plansF (arcs (legC v q1 q2 q3 g0 g1 C) L) m (fun s => T.getD s false) m).getD s none) s = some a → 0 ≤ a.1 + q4 := fun s a h => by have := hn0 s a h; omega
 obtain ⟨t1, t2, _, _⟩ := hTI
 have key := fun fu => chk_lb (need := (fun s => (plansF (arcs (legC v q1 q2 q3 g0 g1 C) L) m (fun s => T.getD s false) m).getD s none)) (cst := (flC v q1 q2 q3 g0 g1 C L)) (q := q4) hn1 p.1 p.2 0 fu (by omega)
 have hge : ∀ w, lbF (fun s => (plansF (arcs (legC v q1 q2 q3 g0 g1 C) L) m (fun s => T.getD s false) m).getD s none) (flC v q1 q2 q3 g0 g1 C L) q4 p.2 p.1 = some w → q4 ≤ w := fun w h => by
   rcases hp : p.2 with _ | ⟨a, S⟩
   · rw [hp] at t2; simp at t2
   · rw [hp] at h
     exact lb_ge hn0 h
 unfold lstE chkE
 generalize lbF (fun s => (plansF (arcs (legC v q1 q2 q3 g0 g1 C) L) m (fun s => T.getD s false) m).getD s none) (flC v q1 q2 q3 g0 g1 C L) q4 p.2 p.1 = o at key hge ⊢
 rw [← t1]
 rcases o with _ | t
 · refine ⟨fun _ => ⟨rfl, .inl ⟨rfl, ?_⟩⟩, fun e => by cases e⟩
   rw [if_pos (by decide)]
   exact (key 1099511627776).symm
 · have hq := hge t rfl
   by_cases ht : t > 1099511627776
   · simp only [if_pos ht]
     refine ⟨fun _ => ⟨rfl, .inl ⟨rfl, .inl ?_⟩⟩, fun e => by cases e⟩
     rw [if_pos (by decide)]
     exact (key 1099511627776).2 (by omega)
   · simp only [if_neg ht]
     refine ⟨fun e => absurd rfl e, fun _ => ⟨?_, fun f h1 h2 => ?_, hq, by omega, by omega, fun h0 => ?_⟩⟩
     · rw [if_pos (by omega), (key t).1 (by omega), Nat.zero_add]
     · rw [if_pos (by omega), (key f).1 h1]
     · rw [if_pos (by omega)]
       exact (key (t - 1)).2 (by omega)
theorem least_both (AM A : Option Addr) (m cM n cp : Nat) (L : List Lg) (w : World) (hr : RdS w 5 A n (L.map lgCells)) (v q1 q2 q3 q4 g0 g1 : Int) (AC : Option Addr) (nC cC : Nat) (C : List Wn) (hrc : CastR w AC nC C) (T : List Bool) (hT : RdS w 1 AM m (T.map blCells)) (hs : ∀ z ∈ C, z.n ≤ 1000000) (hm : m ≤ 1000000) (hn : n ≤ 1000000) (s : Int) (AR : Option Addr) (nR cR : Nat) (rs : List Int) (hR : RdS w 1 AR nR (rs.map inCells)) (hnR : nR ≤ 1000000) : ∃ (l : Int × Int) (c : Int → Int × Int), LesF nR q4 l c ∧ ∀ w1, Ext w w1 → (Calls Tryz.prog 31 #[.agg #[.slice AM m cM, .slice A n cp], .agg #[.int .i64 v, .int .i64 q1, .int .i64 q2, .int .i64 q3, .int .i64 q4, .int .i64 g0, .int .i64 g1], .slice AC nC cC, .int .i64 s, .slice AR nR cR] w1 fun e w' => e = .returned (.tuple #[.int .i64 l.1, .int .i64 l.2]) ∧ Ext w1 w') ∧ ∀ fu : Int, (Calls Tryz.prog 27 #[.agg #[.slice AM m cM, .slice A n cp], .agg #[.int .i64 v, .int .i64 q1, .int .i64 q2, .int .i64 q3, .int .i64 q4, .int .i64 g0, .int .i64 g1], .slice AC nC cC, .int .i64 s, .slice AR nR cR, .int .i64 fu] w1 fun e w' => e = .returned (.tuple #[.int .i64 (c fu).1, .int .i64 (c fu).2]) ∧ Ext w1 w') := by
 have hlr : rs.length = nR := by simpa using hR.len
 by_cases he : ledE m L v q1 q2 q3 q4 g0 g1 C s rs = 0
 · obtain ⟨hE, h20, p, htr⟩ := led_zero he
   obtain ⟨hch, hpk, hk0⟩ := askE_ok hE
   obtain ⟨hcl, hcw⟩ := castE_zero.1 hk0
   obtain ⟨hm1, hL40, hLk⟩ := chartB_iff.1 hch
   have hti := trip_in hLk htr
   obtain ⟨_, _, _, _, _, kg⟩ := id hpk
   obtain ⟨g0, rfl⟩ := Int.eq_ofNat_of_zero_le kg.1
   obtain ⟨g1, rfl⟩ := Int.eq_ofNat_of_zero_le (show 0 ≤ g1 by omega)
   exact ⟨lstE m L T v q1 q2 q3 q4 g0 g1 C p, chkE m L T v q1 q2 q3 q4 g0 g1 C p, hlr ▸ lst_law hpk hcw hLk (by omega) hti, fun w1 hx => ⟨least31_ok AM A m cM n cp L w1 (hr.ext hx) hn hm v q1 q2 q3 q4 g0 g1 AC nC cC C (hrc.ext hx) hs s AR nR cR rs (hR.ext hx) hnR hE h20 p htr T (hT.ext hx), fun fu => check27_ok AM A m cM n cp L w1 (hr.ext hx) hn hm v q1 q2 q3 q4 g0 g1 AC nC cC C (hrc.ext hx) hs s AR nR cR rs (hR.ext hx) hnR hE h20 p htr T (hT.ext hx) fu⟩⟩
 · refine ⟨(0, ledE m L v q1 q2 q3 q4 g0 g1 C s rs), fun _ => (0, ledE m L v q1 q2 q3 q4 g0 g1 C s rs), ⟨fun _ => ⟨rfl, .inr ⟨?_, rfl⟩⟩, fun e => absurd e he⟩, fun w1 hx => ⟨least31_err AM A m cM n cp L w1 (hr.ext hx) hn hm v q1 q2 q3 q4 g0 g1 AC nC cC C (hrc.ext hx) hs s AR nR cR rs (hR.ext hx) hnR he, fun fu => check27_err AM A m cM n cp L w1 (hr.ext hx) hn hm v q1 q2 q3 q4 g0 g1 AC nC cC C (hrc.ext hx) hs s AR nR cR rs (hR.ext hx) hnR he fu⟩⟩
   have := led_bad he
   simp only
   omega
theorem routeLeast_T (AM A : Option Addr) (m cM n cp : Nat) (L : List Lg) (w : World) (hr : RdS w 5 A n (L.map lgCells)) (v q1 q2 q3 q4 g0 g1 : Int) (AC : Option Addr) (nC cC : Nat) (C : List Wn) (hrc : CastR w AC nC C) (T : List Bool) (hT : RdS w 1 AM m (T.map blCells)) (s : Int) (AR : Option Addr) (nR cR : Nat) (rs : List Int) (hR : RdS w 1 AR nR (rs.map inCells)) (mo : Int) (hmo : 0 ≤ mo ∧ mo ≤ 4294967295) : Calls Tryz.prog 12 #[.agg #[.slice AM m cM, .slice A n cp], .agg #[.int .i64 v, .int .i64 q1, .int .i64 q2, .int .i64 q3, .int .i64 q4, .int .i64 g0, .int .i64 g1], .slice AC nC cC, .int .i64 s, .slice AR nR cR, .int .u32 mo] w fun e w' => e = .returned (.bool true) ∧ Ext w w' := by
 have HG := fun w1 (hx : Ext w w1) => great_calls AM A m cM n cp AC nC cC C w1 (hrc.ext hx)
 refine enterQ (c := cx w 149) Tryz.func12 rfl rfl rfl rfl ?_
 refine t_cut (ι := Nat × Nat) (fun z => [(2, .slice AC nC cC), (3, .int .i64 s), (4, .slice AR nR cR), (5, .int .u32 mo), (6, .pointer (some ⟨z.1, 0, none⟩)), (7, .pointer (some ⟨z.2, 0, none⟩))]) (fun z => (z.1, [.slice AM m cM, .slice A n cp], some (25, 2, 1)) :: (z.2, [.int .i64 v, .int .i64 q1, .int .i64 q2, .int .i64 q3, .int .i64 q4, .int .i64 g0, .int .i64 g1], some (29, 7, 1)) :: []) (fun _ => True) ?_ ?_
 · ((all_goals refine gqA1204 ?_); (all_goals constructor); (any_goals exact trivial); all_goals intros)
   all_goals exact ⟨rfl, (_, _), trivial, by (repeat first | exact FrSub.nil | (apply FrSub.cons; exact rfl)), by (repeat' (first | exact HpSub.refl _ | (apply HpSub.consE; (repeat first | exact P0 | apply P1); first | exact rfl | (simp; done)) | apply HpSub.skipX | exact HpSub.nil))⟩
 rintro ⟨b6, b7⟩ -
 simp only
 refine t_cut (ι := Unit) (fun _ => [(2, .slice AC nC cC), (3, .int .i64 s), (4, .slice AR nR cR), (5, .int .u32 mo), (6, .pointer (some ⟨b6, 0, none⟩)), (7, .pointer (some ⟨b7, 0, none⟩)), (13, .bool true)]) (fun _ => (b6, [.slice AM m cM, .slice A n cp], some (25, 2, 1)) :: (b7, [.int .i64 v, .int .i64 q1, .int .i64 q2, .int .i64 q3, .int .i64 q4, .int .i64 g0, .int .i64 g1], some (29, 7, 1)) :: []) (fun _ => True) ?_ ?_
 · ((all_goals refine gqA1204 ?_); (all_goals constructor); (any_goals exact trivial); all_goals intros)
   all_goals exact ⟨by trivial, (), trivial, by (repeat first | exact FrSub.nil | (apply FrSub.cons; exact rfl)), by (repeat' (first | exact HpSub.refl _ | (apply HpSub.consE; (repeat first | exact P0 | apply P1); first | exact rfl | (simp; done)) | apply HpSub.skipX | exact HpSub.nil))⟩
 rintro ⟨⟩ -
 by_cases hbig : ¬ Small m n C ∨ 20 < nR
 · by_cases hS : Small m n C
   · rw [decide_eq_true hS] at HG
     have h0 := hbig.resolve_left (fun h => h hS)
     ((all_goals refine gqA1201 ?_); (all_goals constructor); (any_goals exact trivial); all_goals intros)
     all_goals rfl
   · rw [decide_eq_false hS] at HG
     ((all_goals refine gqA1204 ?_); (all_goals constructor); (any_goals exact trivial); all_goals intros)
     all_goals rfl
 obtain ⟨hS, hR20⟩ : Small m n C ∧ nR ≤ 20 := ⟨Classical.byContradiction fun h => hbig (.inl h), Nat.le_of_not_lt fun h => hbig (.inr h)⟩
 rw [decide_eq_true hS] at HG
 obtain ⟨hm, hn, hc8, hs24⟩ := hS
 have hs : ∀ z ∈ C, z.n ≤ 1000000 := fun z hz => by have := hs24 z hz; omega
 refine t_cut (ι := Unit) (fun _ => [(2, .slice AC nC cC), (3, .int .i64 s), (4, .slice AR nR cR), (5, .int .u32 mo), (6, .pointer (some ⟨b6, 0, none⟩)), (7, .pointer (some ⟨b7, 0, none⟩)), (13, .bool true)]) (fun _ => (b6, [.slice AM m cM, .slice A n cp], some (25, 2, 1)) :: (b7, [.int .i64 v, .int .i64 q1, .int .i64 q2, .int .i64 q3, .int .i64 q4, .int .i64 g0, .int .i64 g1], some (29, 7, 1)) :: []) (fun _ => True) ?_ ?_
 · ((all_goals refine gqA1201 ?_); (all_goals constructor); (any_goals exact trivial); all_goals intros)
   all_goals exact ⟨by trivial, (), trivial, by (repeat first | exact FrSub.nil | (apply FrSub.cons; exact rfl)), by (repeat' (first | exact HpSub.refl _ | (apply HpSub.consE; (repeat first | exact P0 | apply P1); first | exact rfl | (simp; done)) | apply HpSub.skipX | exact HpSub.nil))⟩
 rintro ⟨⟩ -
 obtain ⟨⟨l1, l2⟩, c, hF, hB⟩ := least_both AM A m cM n cp L w hr v q1 q2 q3 q4 g0 g1 AC nC cC C hrc T hT hs (by omega) (by omega) s AR nR cR rs hR (by omega)
 obtain ⟨hbad, hok⟩ := hF
 simp only at hbad hok hB
 have H31 := fun w1 (hx : Ext w w1) => (hB w1 hx).1
 have H27 := fun (fu : Int) w1 (hx : Ext w w1) => (hB w1 hx).2 fu
 clear hB
 refine t_cut (ι := Unit) (fun _ => [(2, .slice AC nC cC), (3, .int .i64 s), (4, .slice AR nR cR), (5, .int .u32 mo), (6, .pointer (some ⟨b6, 0, none⟩)), (7, .pointer (some ⟨b7, 0, none⟩)), (13, .bool true), (14, .int .i64 l1), (15, .int .i64 l2)]) (fun _ => (b6, [.slice AM m cM, .slice A n cp], some (25, 2, 1)) :: (b7, [.int .i64 v, .int .i64 q1, .int .i64 q2, .int .i64 q3, .int .i64 q4, .int .i64 g0, .int .i64 g1], some (29, 7, 1)) :: []) (fun _ => True) ?_ ?_
 · ((all_goals refine gqA1204 ?_); (all_goals constructor); (any_goals exact trivial); all_goals intros)
   all_goals exact ⟨by trivial, (), trivial, by (repeat first | exact FrSub.nil | (apply FrSub.cons; exact rfl)), by (repeat' (first | exact HpSub.refl _ | (apply HpSub.consE; (repeat first | exact P0 | apply P1); first | exact rfl | (simp; done)) | apply HpSub.skipX | exact HpSub.nil))⟩
 rintro ⟨⟩ -
 by_cases h2 : l2 = 0
 rotate_left
 · obtain ⟨rfl, hb⟩ := hbad h2
   have H1 := H27 1099511627776
   obtain ⟨⟨d1, d2⟩, hd⟩ : ∃ x, c 1099511627776 = x := ⟨_, rfl⟩
   rw [hd] at H1 hb
   simp only at H1 hb
   rcases hb with ⟨rfl, rfl | rfl⟩ | ⟨hb, rfl⟩
   · ((all_goals refine gqA1201 ?_); (all_goals constructor); (any_goals exact trivial); all_goals intros)
     all_goals rfl
   · ((all_goals refine gqA1201 ?_); (all_goals constructor); (any_goals exact trivial); all_goals intros)
     all_goals rfl
   · ((all_goals refine gqA1201 ?_); (all_goals constructor); (any_goals exact trivial); all_goals intros)
     all_goals rfl
 subst h2
 obtain ⟨hc1, hcf, hq, h0, hmx, hc3⟩ := hok rfl
 have H1 := H27 l1
 rw [hc1] at H1
 obtain ⟨K, hK⟩ : ∃ x, min (l1 + mo) 1099511627776 = x := ⟨_, rfl⟩
 have H2 := H27 K
 have hc2 := hcf K (by omega) (by omega)
 obtain ⟨⟨d1, d2⟩, hd⟩ : ∃ x, c K = x := ⟨_, rfl⟩
 rw [hd] at H2 hc2
 simp only at H1 H2 hc2
 subst hc2
 refine t_cut (ι := Unit) (fun _ => [(2, .slice AC nC cC), (3, .int .i64 s), (4, .slice AR nR cR), (5, .int .u32 mo), (6, .pointer (some ⟨b6, 0, none⟩)), (7, .pointer (some ⟨b7, 0, none⟩)), (13, .bool true), (14, .int .i64 l1)]) (fun _ => (b6, [.slice AM m cM, .slice A n cp], some (25, 2, 1)) :: (b7, [.int .i64 v, .int .i64 q1, .int .i64 q2, .int .i64 q3, .int .i64 q4, .int .i64 g0, .int .i64 g1], some (29, 7, 1)) :: []) (fun _ => True) ?_ ?_
 · ((all_goals refine gqA1201 ?_); (all_goals constructor); (any_goals exact trivial); all_goals intros)
   all_goals exact ⟨by trivial, (), trivial, by (repeat first | exact FrSub.nil | (apply FrSub.cons; exact rfl)), by (repeat' (first | exact HpSub.refl _ | (apply HpSub.consE; (repeat first | exact P0 | apply P1); first | exact rfl | (simp; done)) | apply HpSub.skipX | exact HpSub.nil))⟩
 rintro ⟨⟩ -
 refine t_cut (ι := Unit) (fun _ => [(2, .slice AC nC cC), (3, .int .i64 s), (4, .slice AR nR cR), (5, .int .u32 mo), (6, .pointer (some ⟨b6, 0, none⟩)), (7, .pointer (some ⟨b7, 0, none⟩)), (13, .bool true), (14, .int .i64 l1), (18, .int .i64 ((nR : Nat) : Int)), (19, .int .i64 0)]) (fun _ => (b6, [.slice AM m cM, .slice A n cp], some (25, 2, 1)) :: (b7, [.int .i64 v, .int .i64 q1, .int .i64 q2, .int .i64 q3, .int .i64 q4, .int .i64 g0, .int .i64 g1], some (29, 7, 1)) :: []) (fun _ => True) ?_ ?_
 · ((all_goals refine gqA1204 ?_); (all_goals constructor); (any_goals exact trivial); all_goals intros)
   all_goals exact ⟨by trivial, (), trivial, by (repeat first | exact FrSub.nil | (apply FrSub.cons; exact rfl)), by (repeat' (first | exact HpSub.refl _ | (apply HpSub.consE; (repeat first | exact P0 | apply P1); first | exact rfl | (simp; done)) | apply HpSub.skipX | exact HpSub.nil))⟩
 rintro ⟨⟩ -
 refine t_cut (ι := Unit) (fun _ => [(2, .slice AC nC cC), (3, .int .i64 s), (4, .slice AR nR cR), (5, .int .u32 mo), (6, .pointer (some ⟨b6, 0, none⟩)), (7, .pointer (some ⟨b7, 0, none⟩)), (13, .bool true), (14, .int .i64 l1), (18, .int .i64 ((nR : Nat) : Int)), (19, .int .i64 0), (21, .int .i64 0)]) (fun _ => (b6, [.slice AM m cM, .slice A n cp], some (25, 2, 1)) :: (b7, [.int .i64 v, .int .i64 q1, .int .i64 q2, .int .i64 q3, .int .i64 q4, .int .i64 g0, .int .i64 g1], some (29, 7, 1)) :: []) (fun _ => True) ?_ ?_
 · repeat' (first
     | ((with_reducible apply oq_id); first | ((with_reducible apply (oq_min2E (k := K))); exact rfl; exact rfl; exact hK) | (apply oq_fn; exact rfl; first | exact trivial | (and_intros <;> omega) | omega | skip) | ((with_reducible apply oq_load); exact rfl; exact rfl) | ((with_reducible apply oq_loadAgg); exact rfl; exact rfl) | ((with_reducible apply oq_call (hc := Tryz.call27)); exact rfl; exact rfl; exact fun D w1 hw1 => H2 w1 hw1.ext.ext) | ((with_reducible apply oq_build); (iterate 3 exact rfl)) | ((with_reducible apply oq_buildA); (iterate 4 exact rfl)) | ((with_reducible apply oq_fieldAgg); (iterate 3 exact rfl)) | ((with_reducible apply oq_indexAgg); (iterate 4 exact rfl)))
     | ((with_reducible apply tl_id); first | (with_reducible apply tl_nil) | ((with_reducible apply u_q); (iterate 4 exact rfl)) | ((with_reducible apply u_s0); exact rfl; exact rfl) | ((with_reducible apply u_s); (iterate 3 exact rfl)) | ((with_reducible apply u_skip); (iterate 3 exact rfl)) | ((with_reducible apply u_splitD); exact rfl; exact rfl; all_goals first | (intro hp; try (exfalso; omega)) | skip) | ((with_reducible apply u_splitN); exact rfl; exact rfl; all_goals first | (intro hp; try (exfalso; omega)) | skip) | ((with_reducible apply u_split); exact rfl; exact rfl; all_goals first | intro hp | skip))
     | ((with_reducible apply gx_id); first | (with_reducible apply v_nil) | ((with_reducible apply v_q); (iterate 3 exact rfl)) | ((with_reducible apply v_skip); (iterate 3 exact rfl)) | ((with_reducible apply v_splitD); exact rfl; exact rfl; all_goals first | (intro hp; try (exfalso; omega)) | skip) | ((with_reducible apply v_splitN); exact rfl; exact rfl; all_goals first | (intro hp; try (exfalso; omega)) | skip) | ((with_reducible apply v_split); exact rfl; exact rfl; all_goals first | intro hp | skip))
     | ((with_reducible apply os_id); first | ((with_reducible apply os_x); exact rfl) | ((with_reducible apply os_store); (iterate 4 exact rfl)) | ((with_reducible apply os_storeAgg); (iterate 5 exact rfl)))
     | ((with_reducible apply ox_id); first | ((with_reducible apply ox_alloc); exact rfl; intro _) | ((with_reducible apply ox_box); exact rfl; exact rfl; intro _) | ((with_reducible apply ox_boxAgg); exact rfl; intro _) | ((with_reducible apply ox_buildSlice1); (iterate 6 exact rfl); intro _) | ((with_reducible apply ox_buildSlice2); (iterate 6 exact rfl); intro _) | ((with_reducible apply ox_buildSlice); (iterate 4 exact rfl)))
     | ((with_reducible apply rd_id); first | (apply Rd.own; (repeat first | exact P0 | apply P1); exact rfl; done) | (apply Rd.old; (first | (with_reducible assumption) | exact c0 | exact c1 | exact c2 | exact c3 | exact c4 | exact c5 | exact c6 | exact c7 | exact c8 | exact d0 | exact d1 | exact d2 | exact d3 | exact d4 | exact d5); first | exact List.not_mem_nil | exact m0 | exact m1 | exact m2 | exact m3 | exact m4 | exact m5 | exact m6 | exact m7 | exact m8 | exact m9))
     | ((with_reducible apply t_id); first | (with_reducible apply t_seq) | (apply t_region; kernel_rfl) | (apply t_drawn; kernel_rfl; decide +kernel; try simp only [List.append_eq, List.cons_append, List.nil_append]) | ((with_reducible apply t_condT); exact rfl) | ((with_reducible apply t_condF); exact rfl) | ((with_reducible apply t_condD); exact rfl; all_goals first | (intro hp; try (exfalso; omega)) | skip) | ((with_reducible apply t_condN); exact rfl; all_goals first | (intro hp; try (exfalso; omega)) | skip) | ((with_reducible apply t_cond); exact rfl; all_goals first | intro hp | skip) | (with_reducible apply t_ret) | (with_reducible apply t_skip) | (with_reducible apply t_exit) | (with_reducible apply t_block))
     | with_reducible apply q_thenN
     | with_reducible apply q_thenR
     | with_reducible apply q_blockR
     | with_reducible apply q_blockN
     | with_reducible apply q_thenE
     | ((with_reducible apply q_blockE); exact rfl)
     | ((with_reducible apply q_blockO); exact rfl)
     | exact P0
     | (with_reducible apply P1)
     | exact Rdn.zero
     | apply Rdn.succ
     | ((with_reducible apply Norm.nil); exact rfl)
     | ((with_reducible apply Norm.cons); exact rfl)
     | (with_reducible apply end_ret)
     | (with_reducible apply end_normal)
     | exact rvs_nil
     | (with_reducible apply rvs_cons)
     | ((with_reducible apply rv_tmp); exact rfl)
     | ((with_reducible apply rv_cell); exact rfl; exact rfl)
     | ((with_reducible apply rv_cellAgg); exact rfl; exact rfl)
     | exact Nat.le_of_ble_eq_true rfl
     | exact (rfl : (_ : Bool) = true)
     | omega
     | (intro _ _; with_reducible apply tl_id)
     | (intro _; with_reducible apply tl_id)
     | (intro _ _; with_reducible apply al_id)
     | (intro _; with_reducible apply al_id))
   all_goals exact ⟨by trivial, (), trivial, by (repeat first | exact FrSub.nil | (apply FrSub.cons; exact rfl)), by (repeat' (first | exact HpSub.refl _ | (apply HpSub.consE; (repeat first | exact P0 | apply P1); first | exact rfl | (simp; done)) | apply HpSub.skipX | exact HpSub.nil))⟩
 rintro ⟨⟩ -
 refine t_cut (ι := Unit) (fun _ => [(2, .slice AC nC cC), (3, .int .i64 s), (4, .slice AR nR cR), (5, .int .u32 mo), (6, .pointer (some ⟨b6, 0, none⟩)), (7, .pointer (some ⟨b7, 0, none⟩)), (13, .bool true), (14, .int .i64 l1)]) (fun _ => (b6, [.slice AM m cM, .slice A n cp], some (25, 2, 1)) :: (b7, [.int .i64 v, .int .i64 q1, .int .i64 q2, .int .i64 q3, .int .i64 q4, .int .i64 g0, .int .i64 g1], some (29, 7, 1)) :: []) (fun _ => True) ?_ ?_
 · ((all_goals refine gqA1201 ?_); (all_goals constructor); (any_goals exact trivial); all_goals intros)
   all_goals exact ⟨by trivial, (), trivial, by (repeat first | exact FrSub.nil | (apply FrSub.cons; exact rfl)), by (repeat' (first | exact HpSub.refl _ | (apply HpSub.consE; (repeat first | exact P0 | apply P1); first | exact rfl | (simp; done)) | apply HpSub.skipX | exact HpSub.nil))⟩
 rintro ⟨⟩ -
 by_cases hz : l1 = 0
 · ((all_goals refine gqA1201 ?_); (all_goals constructor); (any_goals exact trivial); all_goals intros)
   all_goals rfl
 have H3 := H27 (l1 - 1)
 have hc4 := hc3 (by omega)
 obtain ⟨⟨f1, f2⟩, hd3⟩ : ∃ x, c (l1 - 1) = x := ⟨_, rfl⟩
 rw [hd3] at H3 hc4
 simp only at H3 hc4
 subst hc4
 ((all_goals refine gqA1201 ?_); (all_goals constructor); (any_goals exact trivial); all_goals intros)
 all_goals rfl
end Go.Proofs.YtcjkndjjbjoehaaGreat
