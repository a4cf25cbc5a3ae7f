/- A part of the proof: rules for walks, and contracts of functions (2). -/
import Derived.Test.YtcjkndjjbjoehaaGreatX8A
import Derived.Test.YtcjkndjjbjoehaaGreatX8B
import Derived.Test.YtcjkndjjbjoehaaGreatX8C
import Derived.Test.YtcjkndjjbjoehaaGreatX8D
import Derived.Test.YtcjkndjjbjoehaaGreatX8E
import Derived.Test.YtcjkndjjbjoehaaGreatX8F
import Derived.Test.YtcjkndjjbjoehaaGreatX8G
import Derived.Test.YtcjkndjjbjoehaaGreatX8H
import Derived.Test.YtcjkndjjbjoehaaGreatX8I
import Derived.Test.YtcjkndjjbjoehaaGreatX8J
import Derived.Test.YtcjkndjjbjoehaaGreatX8K
import Derived.Test.YtcjkndjjbjoehaaGreatX8L
import Derived.Test.YtcjkndjjbjoehaaGreatX8M
import Derived.Test.YtcjkndjjbjoehaaGreatX8N
import Derived.Test.YtcjkndjjbjoehaaGreatX8O
import Derived.Test.YtcjkndjjbjoehaaGreatX8P
import Derived.Test.YtcjkndjjbjoehaaGreatX11A
import Derived.Laws.MakeOwn
import Derived.Laws.StructEq
import Derived.RangeFuncNested
import Derived.RangeFuncCalls
import Derived.LoopIn
import Derived.RangeFuncLeaves
import Derived.RangeFuncRecord
import Derived.Maps.AppendAt
import Derived.IntWalk
import Derived.Orders
import Derived.Still
import Derived.WalkKit
import Derived.Lib.Hide
import Derived.OrdersIn
import Derived.TacticsIn
import Derived.Test.YtcjkndjjbjoehaaGreatChecked
import Derived.RangeFuncBound
import Derived.Shelf.Abstract
import Derived.Shelf.RegionOpen
import Derived.OwnWalkIn
import Derived.TacticsInMore
import Derived.LoopNIn
import Derived.ProofKit
import Derived.Lib.SmallJoins
import Derived.Carry
import Derived.MapKept
import Derived.Laws.IdiomCopy
import Derived.Test.YtcjkndjjbjoehaaGreatRows
set_option linter.unusedVariables false
set_option linter.unusedSimpArgs false
set_option maxRecDepth 100000
set_option maxHeartbeats 2000000
namespace Go.Proofs.YtcjkndjjbjoehaaGreat
theorem gqB1100 {G A1 A2 A3 A4 A5 A6 A7 A8 A9 A10 A11 A12 A13 A14 A15 A16 : Prop} (p : GoP A1 A2 A3 A4 A5 A6 A7 A8 A9 A10 A11 A12 A13 A14 A15 A16) (h : GoL A1 → GoL A2 → GoL A3 → GoL A4 → GoL A5 → GoL A6 → GoL A7 → GoL A8 → GoL A9 → GoL A10 → GoL A11 → GoL A12 → GoL A13 → GoL A14 → GoL A15 → GoL A16 → GoM → G := by intro m1 m2 m3 m4 m5 m6 m7 m8 m9 m10 m11 m12 m13 m14 m15 m16 _; (repeat' (first | ((with_reducible apply oq_id); first | ((with_reducible apply oc_id); first | ((with_reducible apply oq_call (hc := Tryz.call34)); exact rfl; exact rfl; exact fun D w1 hw1 => alive_calls w1) | ((with_reducible apply oq_call (hc := Tryz.call15)); exact rfl; exact rfl; exact fun D w1 hw1 => HG w1 hw1.ext.ext) | ((with_reducible apply oq_call (hc := Tryz.call48)); exact rfl; exact rfl; exact fun D w1 hw1 => HF w1 hw1.ext.ext) | ((with_reducible apply oq_call (hc := Tryz.call48)); exact rfl; exact rfl; exact fun D w1 hw1 => HF2 _ _ w1 hw1.ext.ext (sn_rows ho (hw1.sub (by (repeat apply HpSub.skipX); exact HpSub.refl _))))) | (focus ((with_reducible apply oq_indexAddrN (i := j)); (iterate 4 exact rfl); omega)) | (apply oq_fn; exact rfl; first | exact trivial | (and_intros <;> omega) | omega | skip) | ((with_reducible apply oq_load); exact rfl; exact rfl) | ((with_reducible apply oq_loadAgg); exact rfl; exact rfl) | ((with_reducible apply oq_build); (iterate 3 exact rfl)) | ((with_reducible apply oq_buildA); (iterate 4 exact rfl)) | ((with_reducible apply oq_fieldAgg); (iterate 3 exact rfl)) | ((with_reducible apply oq_indexAgg); (iterate 4 exact rfl))) | ((with_reducible apply tl_id); first | (with_reducible apply tl_nil) | ((with_reducible apply u_q); (iterate 4 exact rfl)) | ((with_reducible apply u_s0); exact rfl; exact rfl) | ((with_reducible apply u_s); (iterate 3 exact rfl)) | ((with_reducible apply u_skip); (iterate 3 exact rfl)) | ((with_reducible apply u_splitD); exact rfl; exact rfl; all_goals first | (intro _; try (exfalso; omega)) | skip) | ((with_reducible apply u_splitN); exact rfl; exact rfl; all_goals first | (intro _; try (exfalso; omega)) | skip) | ((with_reducible apply u_split); exact rfl; exact rfl; all_goals first | intro _ | skip)) | ((with_reducible apply gx_id); first | (with_reducible apply v_nil) | ((with_reducible apply v_q); (iterate 3 exact rfl)) | ((with_reducible apply v_skip); (iterate 3 exact rfl)) | ((with_reducible apply v_splitD); exact rfl; exact rfl; all_goals first | (intro _; try (exfalso; omega)) | skip) | ((with_reducible apply v_splitN); exact rfl; exact rfl; all_goals first | (intro _; try (exfalso; omega)) | skip) | ((with_reducible apply v_split); exact rfl; exact rfl; all_goals first | intro _ | skip)) | ((with_reducible apply os_id); first | ((with_reducible apply os_x); exact rfl) | ((with_reducible apply os_store); (iterate 4 exact rfl)) | ((with_reducible apply os_storeAgg); (iterate 5 exact rfl))) | ((with_reducible apply ox_id); first | ((with_reducible apply ox_alloc); exact rfl; intro _) | ((with_reducible apply ox_box); exact rfl; exact rfl; intro _) | ((with_reducible apply ox_boxAgg); exact rfl; intro _) | ((with_reducible apply ox_buildSlice1); (iterate 6 exact rfl); intro _) | ((with_reducible apply ox_buildSlice2); (iterate 6 exact rfl); intro _) | ((with_reducible apply ox_buildSlice); (iterate 4 exact rfl))) | ((with_reducible apply rd_id); first | (apply Rd.own; (repeat first | exact P0 | apply P1); exact rfl; done) | (apply Rd.old; (first | (with_reducible assumption) | exact c0 | exact c1 | exact c2 | exact c3 | exact c4 | exact c5 | exact c6 | exact c7 | exact c8 | exact d0 | exact d1 | exact d2 | exact d3 | exact d4 | exact d5); first | exact List.not_mem_nil | exact m0 | exact m1 | exact m2 | exact m3 | exact m4 | exact m5 | exact m6 | exact m7 | exact m8 | exact m9)) | ((with_reducible apply t_id); first | (with_reducible apply t_seq) | (apply t_region; kernel_rfl) | (apply t_drawn; kernel_rfl; decide +kernel; try simp only [List.append_eq, List.cons_append, List.nil_append]) | ((with_reducible apply t_condT); exact rfl) | ((with_reducible apply t_condF); exact rfl) | ((with_reducible apply t_condD); exact rfl; all_goals first | (intro _; try (exfalso; omega)) | skip) | ((with_reducible apply t_condN); exact rfl; all_goals first | (intro _; try (exfalso; omega)) | skip) | ((with_reducible apply t_cond); exact rfl; all_goals first | intro _ | skip) | (with_reducible apply t_ret) | (with_reducible apply t_skip) | (with_reducible apply t_exit) | (with_reducible apply t_block)) | with_reducible apply q_thenN | with_reducible apply q_thenR | with_reducible apply q_blockR | with_reducible apply q_blockN | with_reducible apply q_thenE | ((with_reducible apply q_blockE); exact rfl) | ((with_reducible apply q_blockO); exact rfl) | exact P0 | (with_reducible apply P1) | exact Rdn.zero | apply Rdn.succ | ((with_reducible apply Norm.nil); exact rfl) | ((with_reducible apply Norm.cons); exact rfl) | (with_reducible apply end_ret) | (with_reducible apply end_normal) | exact rvs_nil | (with_reducible apply rvs_cons) | ((with_reducible apply rv_tmp); exact rfl) | ((with_reducible apply rv_cell); exact rfl; exact rfl) | ((with_reducible apply rv_cellAgg); exact rfl; exact rfl) | exact Nat.le_of_ble_eq_true rfl | exact (rfl : (_ : Bool) = true) | omega | (intro _ _; with_reducible apply tl_id) | (intro _; with_reducible apply tl_id) | (intro _ _; with_reducible apply al_id) | (intro _; with_reducible apply al_id))); (try focus (repeat (rename_i x; first | exact goD x m1.p | revert x))); (try focus (repeat (rename_i x; first | exact goD x m2.p | revert x))); (try focus (repeat (rename_i x; first | exact goD x m3.p | revert x))); (try focus (repeat (rename_i x; first | exact goD x m4.p | revert x))); (try focus (repeat (rename_i x; first | exact goD x m5.p | revert x))); (try focus (repeat (rename_i x; first | exact goD x m6.p | revert x))); (try focus (repeat (rename_i x; first | exact goD x m7.p | revert x))); (try focus (repeat (rename_i x; first | exact goD x m8.p | revert x))); (try focus (repeat (rename_i x; first | exact goD x m9.p | revert x))); (try focus (repeat (rename_i x; first | exact goD x m10.p | revert x))); (try focus (repeat (rename_i x; first | exact goD x m11.p | revert x))); (try focus (repeat (rename_i x; first | exact goD x m12.p | revert x))); (try focus (repeat (rename_i x; first | exact goD x m13.p | revert x))); (try focus (repeat (rename_i x; first | exact goD x m14.p | revert x))); (try focus (repeat (rename_i x; first | exact goD x m15.p | revert x))); (try focus (repeat (rename_i x; first | exact goD x m16.p | revert x)))) (e : GoTs A1 A2 A3 A4 A5 A6 A7 A8 A9 A10 A11 A12 A13 A14 A15 A16 := by constructor <;> first | (with_reducible exact GoT.t) | exact GoT.u) : G := p.run h
theorem gqB1101 {G A1 A2 A3 A4 A5 A6 A7 A8 A9 A10 A11 A12 A13 A14 A15 A16 : Prop} (p : GoP A1 A2 A3 A4 A5 A6 A7 A8 A9 A10 A11 A12 A13 A14 A15 A16) (h : GoL A1 → GoL A2 → GoL A3 → GoL A4 → GoL A5 → GoL A6 → GoL A7 → GoL A8 → GoL A9 → GoL A10 → GoL A11 → GoL A12 → GoL A13 → GoL A14 → GoL A15 → GoL A16 → GoM → G := by intro m1 m2 m3 m4 m5 m6 m7 m8 m9 m10 m11 m12 m13 m14 m15 m16 _; (repeat' (first | ((with_reducible apply oq_id); first | ((with_reducible apply oq_call (hc := Tryz.call15)); exact rfl; exact rfl; exact fun D w1 hw1 => HG w1 hw1.ext.ext) | ((with_reducible apply oq_call (hc := Tryz.call48)); exact rfl; exact rfl; exact fun D w1 hw1 => HF w1 hw1.ext.ext) | ((with_reducible apply oq_call (hc := Tryz.call23)); exact rfl; exact rfl; exact fun D w1 hw1 => HN2 w1 hw1.ext.ext) | ((with_reducible apply ob_id); first | ((with_reducible apply oq_gtrT); exact rfl; exact rfl; omega) | ((with_reducible apply oq_gtrF); exact rfl; exact rfl; omega) | ((with_reducible apply oq_lssT); exact rfl; exact rfl; omega) | ((with_reducible apply oq_lssF); exact rfl; exact rfl; omega) | ((with_reducible apply oq_eqlT); exact rfl; exact rfl; omega) | ((with_reducible apply oq_eqlF); exact rfl; exact rfl; omega) | ((with_reducible apply oq_leqT); exact rfl; exact rfl; omega) | ((with_reducible apply oq_leqF); exact rfl; exact rfl; omega) | ((with_reducible apply oq_geqT); exact rfl; exact rfl; omega) | ((with_reducible apply oq_geqF); exact rfl; exact rfl; omega) | ((with_reducible apply oq_neqT); exact rfl; exact rfl; omega) | ((with_reducible apply oq_neqF); exact rfl; exact rfl; omega)) | (focus ((with_reducible apply oq_indexAddrN (i := k)); (iterate 4 exact rfl); omega)) | (focus ((with_reducible apply oq_indexAddrN (i := j)); (iterate 4 exact rfl); omega)) | (apply oq_fn; exact rfl; first | exact trivial | (and_intros <;> omega) | omega | skip) | ((with_reducible apply oq_load); exact rfl; exact rfl) | ((with_reducible apply oq_loadAgg); exact rfl; exact rfl) | ((with_reducible apply oq_build); (iterate 3 exact rfl)) | ((with_reducible apply oq_buildA); (iterate 4 exact rfl)) | ((with_reducible apply oq_fieldAgg); (iterate 3 exact rfl)) | ((with_reducible apply oq_indexAgg); (iterate 4 exact rfl))) | ((with_reducible apply tl_id); first | (with_reducible apply tl_nil) | ((with_reducible apply u_s); (iterate 3 exact rfl); (with_reducible apply os_callS (PV := BestV _) (hc := Tryz.call21)); exact rfl; exact rfl; exact fun D w1 hw1 => HBs w1 hw1.ext.ext; rintro _ _ ⟨o, ho, rfl, rfl⟩; simp only [List.cons_append, List.nil_append]) | ((with_reducible apply u_q); (iterate 4 exact rfl)) | ((with_reducible apply u_s0); exact rfl; exact rfl) | ((with_reducible apply u_s); (iterate 3 exact rfl)) | ((with_reducible apply u_skip); (iterate 3 exact rfl)) | ((with_reducible apply u_splitD); exact rfl; exact rfl; all_goals first | (intro _; try (exfalso; omega)) | skip) | ((with_reducible apply u_splitN); exact rfl; exact rfl; all_goals first | (intro _; try (exfalso; omega)) | skip) | ((with_reducible apply u_split); exact rfl; exact rfl; all_goals first | intro _ | skip)) | ((with_reducible apply gx_id); first | (with_reducible apply v_nil) | ((with_reducible apply v_q); (iterate 3 exact rfl)) | ((with_reducible apply v_skip); (iterate 3 exact rfl)) | ((with_reducible apply v_splitD); exact rfl; exact rfl; all_goals first | (intro _; try (exfalso; omega)) | skip) | ((with_reducible apply v_splitN); exact rfl; exact rfl; all_goals first | (intro _; try (exfalso; omega)) | skip) | ((with_reducible apply v_split); exact rfl; exact rfl; all_goals first | intro _ | skip)) | ((with_reducible apply os_id); first | ((with_reducible apply os_x); exact rfl) | ((with_reducible apply os_store); (iterate 4 exact rfl)) | ((with_reducible apply os_storeAgg); (iterate 5 exact rfl))) | ((with_reducible apply ox_id); first | ((with_reducible apply ox_alloc); exact rfl; intro _) | ((with_reducible apply ox_box); exact rfl; exact rfl; intro _) | ((with_reducible apply ox_boxAgg); exact rfl; intro _) | ((with_reducible apply ox_buildSlice1); (iterate 6 exact rfl); intro _) | ((with_reducible apply ox_buildSlice2); (iterate 6 exact rfl); intro _) | ((with_reducible apply ox_buildSlice); (iterate 4 exact rfl))) | ((with_reducible apply rd_id); first | (apply Rd.own; (repeat first | exact P0 | apply P1); exact hrd; done) | (apply Rd.own; (repeat first | exact P0 | apply P1); exact rfl; done) | (apply Rd.old; (first | (with_reducible assumption) | exact c0 | exact c1 | exact c2 | exact c3 | exact c4 | exact c5 | exact c6 | exact c7 | exact c8 | exact d0 | exact d1 | exact d2 | exact d3 | exact d4 | exact d5); first | exact List.not_mem_nil | exact m0 | exact m1 | exact m2 | exact m3 | exact m4 | exact m5 | exact m6 | exact m7 | exact m8 | exact m9)) | ((with_reducible apply t_id); first | (with_reducible apply t_seq) | (apply t_region; kernel_rfl) | (apply t_drawn; kernel_rfl; decide +kernel; try simp only [List.append_eq, List.cons_append, List.nil_append]) | ((with_reducible apply t_condT); exact rfl) | ((with_reducible apply t_condF); exact rfl) | ((with_reducible apply t_condD); exact rfl; all_goals first | (intro _; try (exfalso; omega)) | skip) | ((with_reducible apply t_condN); exact rfl; all_goals first | (intro _; try (exfalso; omega)) | skip) | ((with_reducible apply t_cond); exact rfl; all_goals first | intro _ | skip) | (with_reducible apply t_ret) | (with_reducible apply t_skip) | (with_reducible apply t_exit) | (with_reducible apply t_block)) | with_reducible apply q_thenN | with_reducible apply q_thenR | with_reducible apply q_blockR | with_reducible apply q_blockN | with_reducible apply q_thenE | ((with_reducible apply q_blockE); exact rfl) | ((with_reducible apply q_blockO); exact rfl) | exact P0 | (with_reducible apply P1) | exact Rdn.zero | apply Rdn.succ | ((with_reducible apply Norm.nil); exact rfl) | ((with_reducible apply Norm.cons); exact rfl) | (with_reducible apply end_ret) | (with_reducible apply end_normal) | exact rvs_nil | (with_reducible apply rvs_cons) | ((with_reducible apply rv_tmp); exact rfl) | ((with_reducible apply rv_cell); exact rfl; exact rfl) | ((with_reducible apply rv_cellAgg); exact rfl; exact rfl) | exact Nat.le_of_ble_eq_true rfl | exact (rfl : (_ : Bool) = true) | omega | (intro _ _; with_reducible apply tl_id) | (intro _; with_reducible apply tl_id) | (intro _ _; with_reducible apply al_id) | (intro _; with_reducible apply al_id))); (try focus (repeat (rename_i x; first | exact goD x m1.p | revert x))); (try focus (repeat (rename_i x; first | exact goD x m2.p | revert x))); (try focus (repeat (rename_i x; first | exact goD x m3.p | revert x))); (try focus (repeat (rename_i x; first | exact goD x m4.p | revert x))); (try focus (repeat (rename_i x; first | exact goD x m5.p | revert x))); (try focus (repeat (rename_i x; first | exact goD x m6.p | revert x))); (try focus (repeat (rename_i x; first | exact goD x m7.p | revert x))); (try focus (repeat (rename_i x; first | exact goD x m8.p | revert x))); (try focus (repeat (rename_i x; first | exact goD x m9.p | revert x))); (try focus (repeat (rename_i x; first | exact goD x m10.p | revert x))); (try focus (repeat (rename_i x; first | exact goD x m11.p | revert x))); (try focus (repeat (rename_i x; first | exact goD x m12.p | revert x))); (try focus (repeat (rename_i x; first | exact goD x m13.p | revert x))); (try focus (repeat (rename_i x; first | exact goD x m14.p | revert x))); (try focus (repeat (rename_i x; first | exact goD x m15.p | revert x))); (try focus (repeat (rename_i x; first | exact goD x m16.p | revert x)))) (e : GoTs A1 A2 A3 A4 A5 A6 A7 A8 A9 A10 A11 A12 A13 A14 A15 A16 := by constructor <;> first | (with_reducible exact GoT.t) | exact GoT.u) : G := p.run h
open Go.RowKit
attribute [local irreducible] OQ OS OX Rd T TL GX GL AL AI RV wpG SAny Calls
theorem sn_rows {w0 : World} {M : Ms} {w : World} {l : List Nat} {o : Option (Nat × Nat)} (ho : o = none → l = []) (h : Has w0 M (hN l o) w) : RdS w 1 (rzA (l, o)) l.length ((cI l).map inCells) := by
 rcases o with _ | ⟨b, c⟩
 · rw [ho rfl]
   exact ⟨rfl, fun h => absurd h (by decide)⟩
 · exact in_rows1 (by simp [cI]) h P0
theorem kst_ok {m : Nat} {L : List Lg} {v q1 q2 q3 q4 : Int} {g0 g1 : Nat} {C : List Wn} (hE : askE m L v q1 q2 q3 q4 (g0 : Nat) (g1 : Nat) C = 0) : kst m L v q1 q2 q3 q4 (g0 : Nat) (g1 : Nat) C = (legC v q1 q2 q3 g0 g1 C) := by
 funext z bk
 unfold kst
 rw [if_pos hE, Int.toNat_natCast, Int.toNat_natCast]
theorem kst_bad {m : Nat} {L : List Lg} {v q1 q2 q3 q4 g0 g1 : Int} {C : List Wn} (hE : askE m L v q1 q2 q3 q4 g0 g1 C ≠ 0) {s : Int} {rs : List Int} {x : Int × Int} (h : fuF L (kst m L v q1 q2 q3 q4 g0 g1 C) s rs = some x) : rs = [] ∧ x = (0, s) := by
 have hk : ∀ z ∈ L, ∀ bk, (kst m L v q1 q2 q3 q4 g0 g1 C) z bk < 0 := fun z _ bk => by unfold kst; rw [if_neg hE]; decide
 by_cases hr : rs = []
 · rw [hr] at h
   exact ⟨hr, (Option.some.inj h).symm⟩
 · rw [fuF_bad hk hr] at h; cases h
theorem routeBest_T (AM A : Option Addr) (m cM n cp : Nat) (L : List Lg) (w : World) (hr : RdS w 5 A n (L.map lgCells)) (v q1 q2 q3 q4 g0 g1 : Int) (AC : Option Addr) (nC cC : Nat) (C : List Wn) (hrc : CastR w AC nC C) (T : List Bool) (hT : RdS w 1 AM m (T.map blCells)) (s : Int) (AR : Option Addr) (nR cR : Nat) (rs : List Int) (hR : RdS w 1 AR nR (rs.map inCells)) : Calls Tryz.prog 11 #[.agg #[.slice AM m cM, .slice A n cp], .agg #[.int .i64 v, .int .i64 q1, .int .i64 q2, .int .i64 q3, .int .i64 q4, .int .i64 g0, .int .i64 g1], .slice AC nC cC, .int .i64 s, .slice AR nR cR] w fun e w' => e = .returned (.bool true) ∧ Ext w w' := by
 have hlr : rs.length = nR := by simpa using hR.len
 have hln : L.length = n := by simpa using hr.len
 have HG := fun w1 (hx : Ext w w1) => great_calls AM A m cM n cp AC nC cC C w1 (hrc.ext hx)
 refine enterQ (c := cx w 195) Tryz.func11 rfl rfl rfl rfl ?_
 refine t_cut (ι := Nat × Nat) (fun z => [(2, .slice AC nC cC), (3, .int .i64 s), (4, .slice AR nR cR), (5, .pointer (some ⟨z.1, 0, none⟩)), (6, .pointer (some ⟨z.2, 0, none⟩))]) (fun z => (z.1, [.slice AM m cM, .slice A n cp], some (25, 2, 1)) :: (z.2, [.int .i64 v, .int .i64 q1, .int .i64 q2, .int .i64 q3, .int .i64 q4, .int .i64 g0, .int .i64 g1], some (29, 7, 1)) :: []) (fun _ => True) ?_ ?_
 · ((all_goals refine gqB1100 ?_); (all_goals constructor); (any_goals exact trivial); all_goals intros)
   all_goals exact ⟨rfl, (_, _), trivial, by (repeat first | exact FrSub.nil | (apply FrSub.cons; exact rfl)), by (repeat' (first | exact HpSub.refl _ | (apply HpSub.consE; (repeat first | exact P0 | apply P1); first | exact rfl | (simp; done)) | apply HpSub.skipX | exact HpSub.nil))⟩
 rintro ⟨b1, b2⟩ -
 try simp only
 refine t_cut (ι := Unit) (fun _ => [(2, .slice AC nC cC), (3, .int .i64 s), (4, .slice AR nR cR), (5, .pointer (some ⟨b1, 0, none⟩)), (6, .pointer (some ⟨b2, 0, none⟩)), (11, .bool true)]) (fun _ => (b1, [.slice AM m cM, .slice A n cp], some (25, 2, 1)) :: (b2, [.int .i64 v, .int .i64 q1, .int .i64 q2, .int .i64 q3, .int .i64 q4, .int .i64 g0, .int .i64 g1], some (29, 7, 1)) :: []) (fun _ => True) ?_ ?_
 · ((all_goals refine gqB1100 ?_); (all_goals constructor); (any_goals exact trivial); all_goals intros)
   all_goals exact ⟨by trivial, (), trivial, by (repeat first | exact FrSub.nil | (apply FrSub.cons; exact rfl)), by (repeat' (first | exact HpSub.refl _ | (apply HpSub.consE; (repeat first | exact P0 | apply P1); first | exact rfl | (simp; done)) | apply HpSub.skipX | exact HpSub.nil))⟩
 rintro ⟨⟩ -
 by_cases hbig : ¬ Small m n C ∨ 20 < nR ∨ s < 0 ∨ (m : Int) ≤ s
 · by_cases hS : Small m n C
   · rw [decide_eq_true hS] at HG
     by_cases g3 : 20 < nR
     · ((all_goals refine gqB1101 ?_); (all_goals constructor); (any_goals exact trivial); all_goals intros)
       all_goals rfl
     by_cases g2 : s < 0
     · ((all_goals refine gqB1101 ?_); (all_goals constructor); (any_goals exact trivial); all_goals intros)
       all_goals rfl
     by_cases g1 : (m : Int) ≤ s
     · ((all_goals refine gqB1101 ?_); (all_goals constructor); (any_goals exact trivial); all_goals intros)
       all_goals rfl
     exact absurd (hbig.resolve_left (fun h => h hS)) (by omega)
   · rw [decide_eq_false hS] at HG
     ((all_goals refine gqB1100 ?_); (all_goals constructor); (any_goals exact trivial); all_goals intros)
     all_goals rfl
 obtain ⟨hS, gg0, gg1, gg2⟩ : Small m n C ∧ ¬ (20 < nR) ∧ ¬ (s < 0) ∧ ¬ ((m : Int) ≤ s) := ⟨Classical.byContradiction fun h => hbig (.inl h), fun h => hbig (.inr (.inl h)), fun h => hbig (.inr (.inr (.inl h))), fun h => hbig (.inr (.inr (.inr (h))))⟩
 rw [decide_eq_true hS] at HG
 obtain ⟨hm, hn, hc8, hs24⟩ := hS
 have hs : ∀ z ∈ C, z.n ≤ 1000000 := fun z hz => by have := hs24 z hz; omega
 have hm6 : m ≤ 1000000 := by omega
 have hn6 : n ≤ 1000000 := by omega
 refine t_cut (ι := Unit) (fun _ => [(2, .slice AC nC cC), (3, .int .i64 s), (4, .slice AR nR cR), (5, .pointer (some ⟨b1, 0, none⟩)), (6, .pointer (some ⟨b2, 0, none⟩)), (11, .bool true)]) (fun _ => (b1, [.slice AM m cM, .slice A n cp], some (25, 2, 1)) :: (b2, [.int .i64 v, .int .i64 q1, .int .i64 q2, .int .i64 q3, .int .i64 q4, .int .i64 g0, .int .i64 g1], some (29, 7, 1)) :: []) (fun _ => True) ?_ ?_
 · ((all_goals refine gqB1101 ?_); (all_goals constructor); (any_goals exact trivial); all_goals intros)
   all_goals exact ⟨by trivial, (), trivial, by (repeat first | exact FrSub.nil | (apply FrSub.cons; exact rfl)), by (repeat' (first | exact HpSub.refl _ | (apply HpSub.consE; (repeat first | exact P0 | apply P1); first | exact rfl | (simp; done)) | apply HpSub.skipX | exact HpSub.nil))⟩
 rintro ⟨⟩ -
 clear hbig HG
 have hnR : nR ≤ 1000000 := by omega
 have HF := fun w1 (hx : Ext w w1) => fuels_calls AM A m cM n cp L w1 (hr.ext hx) hn6 hm6 v q1 q2 q3 q4 g0 g1 AC nC cC C (hrc.ext hx) hs s AR nR cR hnR rs (hR.ext hx)
 obtain ⟨x, hfx⟩ : ∃ x, fuF L (kst m L v q1 q2 q3 q4 g0 g1 C) s rs = x := ⟨_, rfl⟩
 rw [hfx] at HF
 rcases x with _ | ⟨qs, to⟩
 · simp only [fuO] at HF
   ((all_goals refine gqB1100 ?_); (all_goals constructor); (any_goals exact trivial); all_goals intros)
   all_goals rfl
 simp only [fuO] at HF
 by_cases hE : askE m L v q1 q2 q3 q4 g0 g1 C = 0
 rotate_left
 · obtain ⟨hr0, hx0⟩ := kst_bad hE hfx
   obtain ⟨rfl, rfl⟩ := Prod.mk.inj hx0
   have HBs := fun w1 (hx : Ext w w1) => best21_no AM A m cM n cp L w1 (hr.ext hx) hn6 hm6 v q1 q2 q3 q4 g0 g1 AC nC cC C (hrc.ext hx) hs hE to to
   have hbad := askE_bad hE
   generalize askE m L v q1 q2 q3 q4 g0 g1 C = E at *
   have hb2 : E ≠ 6 := by intro e; rw [e] at hbad; simp at hbad
   ((all_goals refine gqB1101 ?_); (all_goals constructor); (any_goals exact trivial); all_goals intros)
   all_goals rfl
 obtain ⟨hch, hpk, hk0⟩ := askE_ok hE
 obtain ⟨hcl, hcw⟩ := castE_zero.1 hk0
 obtain ⟨hm1, hL40, hLk⟩ := chartB_iff.1 hch
 obtain ⟨_, _, _, _, p5, kg⟩ := id hpk
 obtain ⟨g0, rfl⟩ := Int.eq_ofNat_of_zero_le kg.1
 obtain ⟨g1, rfl⟩ := Int.eq_ofNat_of_zero_le (show 0 ≤ g1 by omega)
 obtain ⟨s, rfl⟩ := Int.eq_ofNat_of_zero_le (show 0 ≤ s by omega)
 have hsm : s < m := by omega
 rw [kst_ok hE] at hfx
 obtain ⟨j, a, rfl, hj, hro, hfa, hal, ha0, has, hle, hlx, hT2⟩ := best_law hLk hsm hfx
 have hbd := fuS_bound (L := L) (cst := (legC v q1 q2 q3 g0 g1 C)) (B := 166666666667) (fun z hz bk => by have := kst_le (m := m) (L := L) (v := v) (q1 := q1) (q2 := q2) (q3 := q3) (q4 := q4) (g0 := (g0 : Nat)) (g1 := (g1 : Nat)) (C := C) z hz bk; rw [kst_ok hE] at this; exact this) (by decide) rs _ _ (Int.le_refl 0) hfx
 simp only at hbd
 have hbest : bestR m L v q1 q2 q3 q4 g0 g1 C (s : Nat) (j : Nat) = (a.2, a.1, 0) := by
   unfold bestR
   rw [if_pos hE, if_pos (by omega), Int.toNat_natCast, Int.toNat_natCast, hro]
 have HBs := fun w1 (hx : Ext w w1) => best21_calls AM A m cM n cp L w1 (hr.ext hx) hn6 hm6 v q1 q2 q3 q4 g0 g1 AC nC cC C (hrc.ext hx) hs (s : Nat) (j : Nat)
 rw [hbest] at HBs
 have HF2 := fun (AB : Option Addr) (cB : Nat) w1 (hx : Ext w w1) (hB : RdS w1 1 AB a.2.length ((cI a.2).map inCells)) => fuels_calls AM A m cM n cp L w1 (hr.ext hx) hn6 hm6 v q1 q2 q3 q4 (g0 : Nat) (g1 : Nat) AC nC cC C (hrc.ext hx) hs (s : Nat) AB a.2.length cB (by omega) (cI a.2) hB
 rw [kst_ok hE, hfa] at HF2
 simp only [fuO] at HF2
 refine t_cut (ι := Unit) (fun _ => [(2, .slice AC nC cC), (3, .int .i64 (s : Nat)), (4, .slice AR nR cR), (5, .pointer (some ⟨b1, 0, none⟩)), (6, .pointer (some ⟨b2, 0, none⟩)), (11, .bool true), (12, .int .i64 qs), (13, .int .i64 ((j : Nat) : Int)), (14, .bool true)]) (fun _ => (b1, [.slice AM m cM, .slice A n cp], some (25, 2, 1)) :: (b2, [.int .i64 v, .int .i64 q1, .int .i64 q2, .int .i64 q3, .int .i64 q4, .int .i64 (g0 : Nat), .int .i64 (g1 : Nat)], some (29, 7, 1)) :: []) (fun _ => True) ?_ ?_
 · ((all_goals refine gqB1100 ?_); (all_goals constructor); (any_goals exact trivial); all_goals intros)
   all_goals exact ⟨by trivial, (), trivial, by (repeat first | exact FrSub.nil | (apply FrSub.cons; exact rfl)), by (repeat' (first | exact HpSub.refl _ | (apply HpSub.consE; (repeat first | exact P0 | apply P1); first | exact rfl | (simp; done)) | apply HpSub.skipX | exact HpSub.nil))⟩
 rintro ⟨⟩ -
 refine t_cut (ι := Unit) (fun _ => [(2, .slice AC nC cC), (3, .int .i64 (s : Nat)), (4, .slice AR nR cR), (5, .pointer (some ⟨b1, 0, none⟩)), (6, .pointer (some ⟨b2, 0, none⟩)), (11, .bool true), (12, .int .i64 qs), (13, .int .i64 ((j : Nat) : Int))]) (fun _ => (b1, [.slice AM m cM, .slice A n cp], some (25, 2, 1)) :: (b2, [.int .i64 v, .int .i64 q1, .int .i64 q2, .int .i64 q3, .int .i64 q4, .int .i64 (g0 : Nat), .int .i64 (g1 : Nat)], some (29, 7, 1)) :: []) (fun _ => True) ?_ ?_
 · ((all_goals refine gqB1100 ?_); (all_goals constructor); (any_goals exact trivial); all_goals intros)
   all_goals exact ⟨by trivial, (), trivial, by (repeat first | exact FrSub.nil | (apply FrSub.cons; exact rfl)), by (repeat' (first | exact HpSub.refl _ | (apply HpSub.consE; (repeat first | exact P0 | apply P1); first | exact rfl | (simp; done)) | apply HpSub.skipX | exact HpSub.nil))⟩
 rintro ⟨⟩ -
 refine t_cut (ι := Unit) (fun _ => [(2, .slice AC nC cC), (3, .int .i64 (s : Nat)), (4, .slice AR nR cR), (5, .pointer (some ⟨b1, 0, none⟩)), (6, .pointer (some ⟨b2, 0, none⟩)), (11, .bool true), (12, .int .i64 qs), (13, .int .i64 ((j : Nat) : Int))]) (fun _ => (b1, [.slice AM m cM, .slice A n cp], some (25, 2, 1)) :: (b2, [.int .i64 v, .int .i64 q1, .int .i64 q2, .int .i64 q3, .int .i64 q4, .int .i64 (g0 : Nat), .int .i64 (g1 : Nat)], some (29, 7, 1)) :: []) (fun _ => True) ?_ ?_
 · ((all_goals refine gqB1101 ?_); (all_goals constructor); (any_goals exact trivial); all_goals intros)
   all_goals exact ⟨by trivial, (), trivial, by (repeat first | exact FrSub.nil | (apply FrSub.cons; exact rfl)), by (repeat' (first | exact HpSub.refl _ | (apply HpSub.consE; (repeat first | exact P0 | apply P1); first | exact rfl | (simp; done)) | apply HpSub.skipX | exact HpSub.nil))⟩
 rintro ⟨⟩ -
 refine t_cut (ι := Option (Nat × Nat)) (fun o => [(2, .slice AC nC cC), (3, .int .i64 (s : Nat)), (4, .slice AR nR cR), (5, .pointer (some ⟨b1, 0, none⟩)), (6, .pointer (some ⟨b2, 0, none⟩)), (11, .bool true), (12, .int .i64 qs), (13, .int .i64 ((j : Nat) : Int)), (15, .slice (rzA (a.2, o)) a.2.length (rzC (a.2, o))), (16, .int .i64 a.1), (17, .int .i64 0)]) (fun o => (b1, [.slice AM m cM, .slice A n cp], some (25, 2, 1)) :: (b2, [.int .i64 v, .int .i64 q1, .int .i64 q2, .int .i64 q3, .int .i64 q4, .int .i64 (g0 : Nat), .int .i64 (g1 : Nat)], some (29, 7, 1)) :: hN a.2 o) (fun o => o = none → a.2 = []) ?_ ?_
 · repeat' (first
     | ((with_reducible apply oq_id); first | (apply oq_fn; exact rfl; first | exact trivial | (and_intros <;> omega) | omega | skip) | ((with_reducible apply oq_load); exact rfl; exact rfl) | ((with_reducible apply oq_loadAgg); exact rfl; exact rfl) | ((with_reducible apply oq_build); (iterate 3 exact rfl)) | ((with_reducible apply oq_buildA); (iterate 4 exact rfl)) | ((with_reducible apply oq_fieldAgg); (iterate 3 exact rfl)) | ((with_reducible apply oq_indexAgg); (iterate 4 exact rfl)))
     | ((with_reducible apply tl_id); first | (with_reducible apply tl_nil) | ((with_reducible apply u_s); (iterate 3 exact rfl); (with_reducible apply os_callS (PV := BestV _) (hc := Tryz.call21)); exact rfl; exact rfl; exact fun D w1 hw1 => HBs w1 hw1.ext.ext; rintro _ _ ⟨o, ho, rfl, rfl⟩; rw [show sN a.2 o = .slice (rzA (a.2, o)) a.2.length (rzC (a.2, o)) from rzV_form (r := (a.2, o)) ho]; simp only [List.cons_append, List.nil_append]) | ((with_reducible apply u_q); (iterate 4 exact rfl)) | ((with_reducible apply u_s0); exact rfl; exact rfl) | ((with_reducible apply u_s); (iterate 3 exact rfl)) | ((with_reducible apply u_skip); (iterate 3 exact rfl)) | ((with_reducible apply u_splitD); exact rfl; exact rfl; all_goals first | (intro hp; try (exfalso; omega)) | skip) | ((with_reducible apply u_splitN); exact rfl; exact rfl; all_goals first | (intro hp; try (exfalso; omega)) | skip) | ((with_reducible apply u_split); exact rfl; exact rfl; all_goals first | intro hp | skip))
     | ((with_reducible apply gx_id); first | (with_reducible apply v_nil) | ((with_reducible apply v_q); (iterate 3 exact rfl)) | ((with_reducible apply v_skip); (iterate 3 exact rfl)) | ((with_reducible apply v_splitD); exact rfl; exact rfl; all_goals first | (intro hp; try (exfalso; omega)) | skip) | ((with_reducible apply v_splitN); exact rfl; exact rfl; all_goals first | (intro hp; try (exfalso; omega)) | skip) | ((with_reducible apply v_split); exact rfl; exact rfl; all_goals first | intro hp | skip))
     | ((with_reducible apply os_id); first | ((with_reducible apply os_x); exact rfl) | ((with_reducible apply os_store); (iterate 4 exact rfl)) | ((with_reducible apply os_storeAgg); (iterate 5 exact rfl)))
     | ((with_reducible apply ox_id); first | ((with_reducible apply ox_alloc); exact rfl; intro _) | ((with_reducible apply ox_box); exact rfl; exact rfl; intro _) | ((with_reducible apply ox_boxAgg); exact rfl; intro _) | ((with_reducible apply ox_buildSlice1); (iterate 6 exact rfl); intro _) | ((with_reducible apply ox_buildSlice2); (iterate 6 exact rfl); intro _) | ((with_reducible apply ox_buildSlice); (iterate 4 exact rfl)))
     | ((with_reducible apply rd_id); first | (apply Rd.own; (repeat first | exact P0 | apply P1); exact rfl; done) | (apply Rd.old; (first | (with_reducible assumption) | exact c0 | exact c1 | exact c2 | exact c3 | exact c4 | exact c5 | exact c6 | exact c7 | exact c8 | exact d0 | exact d1 | exact d2 | exact d3 | exact d4 | exact d5); first | exact List.not_mem_nil | exact m0 | exact m1 | exact m2 | exact m3 | exact m4 | exact m5 | exact m6 | exact m7 | exact m8 | exact m9))
     | ((with_reducible apply t_id); first | (with_reducible apply t_seq) | (apply t_region; kernel_rfl) | (apply t_drawn; kernel_rfl; decide +kernel; try simp only [List.append_eq, List.cons_append, List.nil_append]) | ((with_reducible apply t_condT); exact rfl) | ((with_reducible apply t_condF); exact rfl) | ((with_reducible apply t_condD); exact rfl; all_goals first | (intro hp; try (exfalso; omega)) | skip) | ((with_reducible apply t_condN); exact rfl; all_goals first | (intro hp; try (exfalso; omega)) | skip) | ((with_reducible apply t_cond); exact rfl; all_goals first | intro hp | skip) | (with_reducible apply t_ret) | (with_reducible apply t_skip) | (with_reducible apply t_exit) | (with_reducible apply t_block))
     | with_reducible apply q_thenN
     | with_reducible apply q_thenR
     | with_reducible apply q_blockR
     | with_reducible apply q_blockN
     | with_reducible apply q_thenE
     | ((with_reducible apply q_blockE); exact rfl)
     | ((with_reducible apply q_blockO); exact rfl)
     | exact P0
     | (with_reducible apply P1)
     | exact Rdn.zero
     | apply Rdn.succ
     | ((with_reducible apply Norm.nil); exact rfl)
     | ((with_reducible apply Norm.cons); exact rfl)
     | (with_reducible apply end_ret)
     | (with_reducible apply end_normal)
     | exact rvs_nil
     | (with_reducible apply rvs_cons)
     | ((with_reducible apply rv_tmp); exact rfl)
     | ((with_reducible apply rv_cell); exact rfl; exact rfl)
     | ((with_reducible apply rv_cellAgg); exact rfl; exact rfl)
     | exact Nat.le_of_ble_eq_true rfl
     | exact (rfl : (_ : Bool) = true)
     | omega
     | (intro _ _; with_reducible apply tl_id)
     | (intro _; with_reducible apply tl_id)
     | (intro _ _; with_reducible apply al_id)
     | (intro _; with_reducible apply al_id))
   all_goals exact ⟨by trivial, o, ho, by (repeat first | exact FrSub.nil | (apply FrSub.cons; exact rfl)), by (repeat' (first | exact HpSub.refl _ | (apply HpSub.consE; (repeat first | exact P0 | apply P1); first | exact rfl | (simp; done)) | apply HpSub.skipX | exact HpSub.nil))⟩
 rintro o ho
 try simp only at ho ⊢
 refine t_cut (ι := Unit) (fun _ => [(2, .slice AC nC cC), (3, .int .i64 (s : Nat)), (4, .slice AR nR cR), (5, .pointer (some ⟨b1, 0, none⟩)), (6, .pointer (some ⟨b2, 0, none⟩)), (11, .bool true), (12, .int .i64 qs), (13, .int .i64 ((j : Nat) : Int)), (15, .slice (rzA (a.2, o)) a.2.length (rzC (a.2, o))), (16, .int .i64 a.1)]) (fun _ => (b1, [.slice AM m cM, .slice A n cp], some (25, 2, 1)) :: (b2, [.int .i64 v, .int .i64 q1, .int .i64 q2, .int .i64 q3, .int .i64 q4, .int .i64 (g0 : Nat), .int .i64 (g1 : Nat)], some (29, 7, 1)) :: hN a.2 o) (fun _ => True) ?_ ?_
 · ((all_goals refine gqB1101 ?_); (all_goals constructor); (any_goals exact trivial); all_goals intros)
   all_goals exact ⟨by trivial, (), trivial, by (repeat first | exact FrSub.nil | (apply FrSub.cons; exact rfl)), by (repeat' (first | exact HpSub.refl _ | (apply HpSub.consE; (repeat first | exact P0 | apply P1); first | exact rfl | (simp; done)) | apply HpSub.skipX | exact HpSub.nil))⟩
 rintro ⟨⟩ -
 refine t_cut (ι := Unit) (fun _ => [(2, .slice AC nC cC), (3, .int .i64 (s : Nat)), (4, .slice AR nR cR), (5, .pointer (some ⟨b1, 0, none⟩)), (6, .pointer (some ⟨b2, 0, none⟩)), (11, .bool true), (12, .int .i64 qs), (13, .int .i64 ((j : Nat) : Int)), (15, .slice (rzA (a.2, o)) a.2.length (rzC (a.2, o))), (16, .int .i64 a.1), (18, .int .i64 a.1), (19, .int .i64 ((j : Nat) : Int)), (20, .bool true)]) (fun _ => (b1, [.slice AM m cM, .slice A n cp], some (25, 2, 1)) :: (b2, [.int .i64 v, .int .i64 q1, .int .i64 q2, .int .i64 q3, .int .i64 q4, .int .i64 (g0 : Nat), .int .i64 (g1 : Nat)], some (29, 7, 1)) :: hN a.2 o) (fun _ => True) ?_ ?_
 · ((all_goals refine gqB1100 ?_); (all_goals constructor); (any_goals exact trivial); all_goals intros)
   all_goals exact ⟨by trivial, (), trivial, by (repeat first | exact FrSub.nil | (apply FrSub.cons; exact rfl)), by (repeat' (first | exact HpSub.refl _ | (apply HpSub.consE; (repeat first | exact P0 | apply P1); first | exact rfl | (simp; done)) | apply HpSub.skipX | exact HpSub.nil))⟩
 rintro ⟨⟩ -
 refine t_cut (ι := Unit) (fun _ => [(2, .slice AC nC cC), (3, .int .i64 (s : Nat)), (4, .slice AR nR cR), (5, .pointer (some ⟨b1, 0, none⟩)), (6, .pointer (some ⟨b2, 0, none⟩)), (11, .bool true), (12, .int .i64 qs), (13, .int .i64 ((j : Nat) : Int)), (15, .slice (rzA (a.2, o)) a.2.length (rzC (a.2, o))), (16, .int .i64 a.1)]) (fun _ => (b1, [.slice AM m cM, .slice A n cp], some (25, 2, 1)) :: (b2, [.int .i64 v, .int .i64 q1, .int .i64 q2, .int .i64 q3, .int .i64 q4, .int .i64 (g0 : Nat), .int .i64 (g1 : Nat)], some (29, 7, 1)) :: hN a.2 o) (fun _ => True) ?_ ?_
 · by_cases ce : a.1 = qs
   · have := hle ce
     ((all_goals refine gqB1101 ?_); (all_goals constructor); (any_goals exact trivial); all_goals intros)
     all_goals exact ⟨by trivial, (), trivial, by (repeat first | exact FrSub.nil | (apply FrSub.cons; exact rfl)), by (repeat' (first | exact HpSub.refl _ | (apply HpSub.consE; (repeat first | exact P0 | apply P1); first | exact rfl | (simp; done)) | apply HpSub.skipX | exact HpSub.nil))⟩
   · ((all_goals refine gqB1101 ?_); (all_goals constructor); (any_goals exact trivial); all_goals intros)
     all_goals exact ⟨by trivial, (), trivial, by (repeat first | exact FrSub.nil | (apply FrSub.cons; exact rfl)), by (repeat' (first | exact HpSub.refl _ | (apply HpSub.consE; (repeat first | exact P0 | apply P1); first | exact rfl | (simp; done)) | apply HpSub.skipX | exact HpSub.nil))⟩
 rintro ⟨⟩ -
 refine t_cut (ι := Unit) (fun _ => [(2, .slice AC nC cC), (3, .int .i64 (s : Nat)), (4, .slice AR nR cR), (5, .pointer (some ⟨b1, 0, none⟩)), (6, .pointer (some ⟨b2, 0, none⟩)), (11, .bool true), (12, .int .i64 qs), (13, .int .i64 ((j : Nat) : Int)), (15, .slice (rzA (a.2, o)) a.2.length (rzC (a.2, o))), (16, .int .i64 a.1)]) (fun _ => (b1, [.slice AM m cM, .slice A n cp], some (25, 2, 1)) :: (b2, [.int .i64 v, .int .i64 q1, .int .i64 q2, .int .i64 q3, .int .i64 q4, .int .i64 (g0 : Nat), .int .i64 (g1 : Nat)], some (29, 7, 1)) :: hN a.2 o) (fun _ => True) ?_ ?_
 · by_cases ce : a.1 = qs
   rotate_left
   · ((all_goals refine gqB1101 ?_); (all_goals constructor); (any_goals exact trivial); all_goals intros)
     all_goals exact ⟨by trivial, (), trivial, by (repeat first | exact FrSub.nil | (apply FrSub.cons; exact rfl)), by (repeat' (first | exact HpSub.refl _ | (apply HpSub.consE; (repeat first | exact P0 | apply P1); first | exact rfl | (simp; done)) | apply HpSub.skipX | exact HpSub.nil))⟩
   by_cases cl : a.2.length = rs.length
   rotate_left
   · ((all_goals refine gqB1101 ?_); (all_goals constructor); (any_goals exact trivial); all_goals intros)
     all_goals exact ⟨by trivial, (), trivial, by (repeat first | exact FrSub.nil | (apply FrSub.cons; exact rfl)), by (repeat' (first | exact HpSub.refl _ | (apply HpSub.consE; (repeat first | exact P0 | apply P1); first | exact rfl | (simp; done)) | apply HpSub.skipX | exact HpSub.nil))⟩
   ((all_goals refine gqB1101 ?_); (all_goals constructor); (any_goals exact trivial); all_goals intros)
   apply t_loopP (ι := Nat) [2, 3, 4, 5, 6, 11, 12, 13, 15, 16, 138] (fun k => [(139, .int .i64 ((k : Nat) : Int))]) (fun _ => (b1, [.slice AM m cM, .slice A n cp], some (25, 2, 1)) :: (b2, [.int .i64 v, .int .i64 q1, .int .i64 q2, .int .i64 q3, .int .i64 q4, .int .i64 (g0 : Nat), .int .i64 (g1 : Nat)], some (29, 7, 1)) :: hN a.2 o) (fun k => k ≤ rs.length ∧ ∀ i, i < k → (cI a.2)[i]? = rs[i]?) (fun k => rs.length - k) (0)
   (repeat (first | exact KeepF.nil | (apply KeepF.cons; exact rfl) | apply KeepF.skip))
   (repeat first | exact FrSub.nil | (apply FrSub.cons; exact rfl))
   (try simp only [List.cons_append, List.nil_append])
   (repeat' (first | exact HpSub.refl _ | (apply HpSub.consE; (repeat first | exact P0 | apply P1); first | exact rfl | (simp; done)) | apply HpSub.skipX | exact HpSub.nil))
   · exact ⟨Nat.zero_le _, fun i hi => absurd hi (Nat.not_lt_zero _)⟩
   rintro k ⟨hk, hpre⟩
   try simp only [List.cons_append, List.nil_append]
   by_cases hkl : k < rs.length
   rotate_left
   · ((all_goals refine gqB1101 ?_); (all_goals constructor); (any_goals exact trivial); all_goals intros)
     all_goals exact ⟨by trivial, (), trivial, by (repeat first | exact FrSub.nil | (apply FrSub.cons; exact rfl)), by (repeat' (first | exact HpSub.refl _ | (apply HpSub.consE; (repeat first | exact P0 | apply P1); first | exact rfl | (simp; done)) | apply HpSub.skipX | exact HpSub.nil))⟩
   obtain ⟨y, hy⟩ : ∃ y, rs[k]? = some y := ⟨_, List.getElem?_eq_getElem hkl⟩
   obtain ⟨x, hx'⟩ : ∃ x, (cI a.2)[k]? = some x := ⟨_, List.getElem?_eq_getElem (by simp only [cI, List.length_map]; omega)⟩
   have hxy := hlx ce cl k x y hpre hx' hy
   obtain ⟨bR, oR, y', rfl, _, hy', c9⟩ := in_read hR (show k < nR by omega)
   rw [hy] at hy'
   obtain rfl := Option.some.inj hy'
   obtain ⟨gB, cB, rfl⟩ : ∃ b c, o = some (b, c) := by
     rcases o with _ | ⟨b, c⟩
     · rw [ho rfl] at cl
       simp only [List.length_nil] at cl
       omega
     · exact ⟨b, c, rfl⟩
   have hrd : ((cI a.2).map iv)[0 + k * 1]? = some (.int .i64 x) := by rw [Nat.zero_add, Nat.mul_one, List.getElem?_map, hx']; rfl
   simp only [hN, rzA, rzC]
   by_cases hne : x = y
   · ((all_goals refine gqB1101 ?_); (all_goals constructor); (any_goals exact trivial); all_goals intros)
     all_goals (refine ⟨k + 1, ⟨by omega, fun i hi => ?_⟩, by omega, ?_, ?_⟩; rotate_left)
     any_goals (repeat' (first | exact HpSub.refl _ | (apply HpSub.consE; (repeat first | exact P0 | apply P1); first | exact rfl | (simp; done)) | apply HpSub.skipX | exact HpSub.nil))
     any_goals (repeat first | exact FrSub.nil | (apply FrSub.cons; exact rfl))
     all_goals (rcases Nat.lt_or_ge i k with h1 | h1; (exact hpre i h1); (obtain rfl : i = k := by omega); rw [hx', hy, hne])
   · ((all_goals refine gqB1101 ?_); (all_goals constructor); (any_goals exact trivial); all_goals intros)
     all_goals exact ⟨by trivial, (), trivial, by (repeat first | exact FrSub.nil | (apply FrSub.cons; exact rfl)), by (repeat' (first | exact HpSub.refl _ | (apply HpSub.consE; (repeat first | exact P0 | apply P1); first | exact rfl | (simp; done)) | apply HpSub.skipX | exact HpSub.nil))⟩
 rintro ⟨⟩ -
 obtain ⟨bT, oT, tb, rfl, _, htb, c8⟩ := bl_read hT (show j < m by omega)
 cases tb with
 | false =>
   ((all_goals refine gqB1100 ?_); (all_goals constructor); (any_goals exact trivial); all_goals intros)
   all_goals rfl
 | true =>
   obtain ⟨b, hb1, hb2, hb3⟩ := hT2 T (by rw [List.getD_eq_getElem?_getD, htb]; rfl)
   have hneed : needR m L T v q1 q2 q3 q4 g0 g1 C (s : Nat) = (b.1 + q4, 0) := by
     unfold needR
     rw [if_pos hE, if_pos (by omega), Int.toNat_natCast, hb1]
   have HN2 := fun w1 (hx : Ext w w1) => need23_calls (some ⟨bT, oT, none⟩) A m cM n cp L T w1 (hT.ext hx) (hr.ext hx) hn6 hm6 v q1 q2 q3 q4 g0 g1 AC nC cC C (hrc.ext hx) hs (s : Nat)
   rw [hneed] at HN2
   simp only at HN2
   ((all_goals refine gqB1101 ?_); (all_goals constructor); (any_goals exact trivial); all_goals intros)
   all_goals rfl
end Go.Proofs.YtcjkndjjbjoehaaGreat
namespace Go.Proofs.YtcjkndjjbjoehaaGreat
open Go.ChangeShapes Go.WideShapes Go.ChangeAt Go.RowKit
theorem Tryz.own : ownKnob Tryz.prog.godebug = none := by kernel_rfl
theorem Tryz.laidOut : laidOutB Tryz.prog = true := by kernel_rfl
section
variable {H : Type} {enc : TypeId × Value → H} {P : Program}
theorem trodAll_ext (hl : laidOutB P = true) {W W' : World} (hb : Ext W W') : ∀ {ts : List TypeId} {vs : List Value} {ds : List (DataW H)} {p : List MemPlace}, (ts.all fun t => P.readableRec t && decide (t < P.types.size)) = true →
   DataW.TrodAll enc P W 0 (fun _ => true) true ts vs ds p → (∀ x ∈ p, x.block < W.heap.size) → DataW.TrodAll enc P W' 0 (fun b => decide (b < W.heap.size)) true ts vs ds p
 | [], vs, ds, p, _, h, _ => by
   obtain ⟨rfl, rfl, rfl⟩ := trodAll_nil h
   exact trodAll_mk0
 | t :: ts, vs, ds, p, ht, h, hlt => by
   obtain ⟨v, vs', d, ds', p0, q0, rfl, rfl, rfl, h1, h2⟩ := trodAll_cons h
   simp only [List.all_cons, Bool.and_eq_true, decide_eq_true_eq] at ht
   exact ⟨p0, q0, Below.trod hl ht.1.1 ht.1.2 h1 hb (fun x hx => hlt x (List.mem_append_left _ hx)), trodAll_ext hl hb ht.2 h2 (fun x hx => hlt x (List.mem_append_right _ hx)), rfl⟩
end
end Go.Proofs.YtcjkndjjbjoehaaGreat
