/- A part of the proof: rules for walks, and contracts of functions (1). -/
import Derived.Test.YtcjkndjjbjoehaaGreatX8A
import Derived.Test.YtcjkndjjbjoehaaGreatX8B
import Derived.Test.YtcjkndjjbjoehaaGreatX8C
import Derived.Test.YtcjkndjjbjoehaaGreatX8D
import Derived.Test.YtcjkndjjbjoehaaGreatX8E
import Derived.Test.YtcjkndjjbjoehaaGreatX8F
import Derived.Test.YtcjkndjjbjoehaaGreatX8G
import Derived.Test.YtcjkndjjbjoehaaGreatX8H
import Derived.Test.YtcjkndjjbjoehaaGreatX8I
import Derived.Test.YtcjkndjjbjoehaaGreatX8J
import Derived.Test.YtcjkndjjbjoehaaGreatX8K
import Derived.Test.YtcjkndjjbjoehaaGreatX8L
import Derived.Test.YtcjkndjjbjoehaaGreatX8M
import Derived.Test.YtcjkndjjbjoehaaGreatX8N
import Derived.Test.YtcjkndjjbjoehaaGreatX8O
import Derived.Test.YtcjkndjjbjoehaaGreatX8P
import Derived.WalkKit
import Derived.Lib.Hide
import Derived.Test.YtcjkndjjbjoehaaGreatChecked
import Derived.Orders
import Derived.Still
import Derived.Laws.StructEq
import Derived.RangeFuncNested
import Derived.RangeFuncCalls
import Derived.LoopIn
import Derived.RangeFuncLeaves
import Derived.RangeFuncRecord
import Derived.Maps.AppendAt
import Derived.IntWalk
import Derived.OrdersIn
import Derived.TacticsIn
import Derived.Laws.MakeOwn
import Derived.ProofKit
import Derived.Lib.SmallJoins
import Derived.Carry
import Derived.MapKept
import Derived.Laws.IdiomCopy
import Derived.RangeFuncBound
import Derived.Shelf.Abstract
import Derived.Shelf.RegionOpen
import Derived.OwnWalkIn
import Derived.TacticsInMore
import Derived.LoopNIn
import Derived.Test.YtcjkndjjbjoehaaGreatRows
set_option linter.unusedVariables false
set_option linter.unusedSimpArgs false
set_option maxRecDepth 100000
set_option maxHeartbeats 2000000
namespace Go.Proofs.YtcjkndjjbjoehaaGreat
theorem gqA700 {G A1 A2 A3 A4 A5 A6 A7 A8 A9 A10 A11 A12 A13 A14 A15 A16 : Prop} (p : GoP A1 A2 A3 A4 A5 A6 A7 A8 A9 A10 A11 A12 A13 A14 A15 A16) (h : GoL A1 → GoL A2 → GoL A3 → GoL A4 → GoL A5 → GoL A6 → GoL A7 → GoL A8 → GoL A9 → GoL A10 → GoL A11 → GoL A12 → GoL A13 → GoL A14 → GoL A15 → GoL A16 → GoM → G := by intro m1 m2 m3 m4 m5 m6 m7 m8 m9 m10 m11 m12 m13 m14 m15 m16 _; (repeat' (first | ((with_reducible apply oq_id); first | ((with_reducible apply oc_id); first | ((with_reducible apply oq_call (hc := Tryz.call34)); exact rfl; exact rfl; exact fun D w1 hw1 => alive_calls w1) | ((with_reducible apply oq_call (hc := Tryz.call15)); exact rfl; exact rfl; exact fun D w1 hw1 => HG w1 hw1.ext.ext) | ((with_reducible apply oq_call (hc := Tryz.call37)); exact rfl; exact rfl; exact fun D w1 hw1 => HP w1 hw1.ext.ext) | ((with_reducible apply oq_call (hc := Tryz.call38)); exact rfl; exact rfl; exact fun D w1 hw1 => HR w1) | ((with_reducible apply oq_call (hc := Tryz.call40)); exact rfl; exact rfl; exact fun D w1 hw1 => span40_calls _ _ w1) | ((with_reducible apply oq_call (hc := Tryz.call39)); exact rfl; exact rfl; exact fun D w1 hw1 => HW w1 hw1.ext.ext) | ((with_reducible apply oq_call (hc := Tryz.call41)); exact rfl; exact rfl; exact fun D w1 hw1 => HU w1) | ((with_reducible apply oq_call (hc := Tryz.call41)); exact rfl; exact rfl; exact fun D w1 hw1 => HT w1) | ((with_reducible apply oq_call (hc := Tryz.call43)); exact rfl; exact rfl; exact fun D w1 hw1 => HA3 w1)) | ((with_reducible apply ob_id); first | (focus ((with_reducible apply (oq_subE (k := hi - lo))); exact rfl; exact rfl; omega)) | (focus ((with_reducible apply (oq_mulE (k := PP))); exact rfl; exact rfl; exact hP; omega)) | (focus ((with_reducible apply (oq_quoX (k := QQ))); exact rfl; exact rfl; exact ⟨hQ, by decide⟩; omega)) | (focus ((with_reducible apply (oq_addE (k := lo + QQ))); exact rfl; exact rfl; omega)) | (focus ((with_reducible apply (oq_mulE (k := X2))); exact rfl; exact rfl; exact hX2; omega)) | (focus ((with_reducible apply (oq_mulE (k := Y2))); exact rfl; exact rfl; exact hY2; omega)) | (focus ((with_reducible apply (oq_addE (k := X2 + Y2))); exact rfl; exact rfl; omega)) | (focus ((with_reducible apply (oq_addE (k := z.h + q2))); exact rfl; exact rfl; omega)) | ((with_reducible apply oq_remX (k := ((jm : Nat) : Int))); exact rfl; exact rfl; exact ⟨hjm, by omega⟩) | (focus ((with_reducible apply (oq_mulE (k := MP1))); exact rfl; exact rfl; exact hMP1; omega)) | (focus ((with_reducible apply (oq_mulE (k := MP2))); exact rfl; exact rfl; exact hMP2; omega)) | (focus ((with_reducible apply (oq_mulE (k := MP3))); exact rfl; exact rfl; exact hMP3; omega)) | (focus ((with_reducible apply (oq_mulE (k := MP4))); exact rfl; exact rfl; exact hMP4; omega)) | (focus ((with_reducible apply (oq_addE (k := N))); exact rfl; exact rfl; omega)) | (focus ((with_reducible apply (oq_subE (k := AC'))); exact rfl; exact rfl; omega)) | (focus ((with_reducible apply (oq_mulE (k := VV))); exact rfl; exact rfl; exact hVV; omega)) | (focus ((with_reducible apply (oq_mulE (k := VR))); exact rfl; exact rfl; exact hVR; omega)) | (focus ((with_reducible apply (oq_mulE (k := VS))); exact rfl; exact rfl; exact hVS; omega)) | (focus ((with_reducible apply (oq_mulE (k := AA))); exact rfl; exact rfl; exact hAA; omega)) | (focus ((with_reducible apply (oq_subE (k := Q))); exact rfl; exact rfl; omega)) | (focus ((with_reducible apply (oq_mulE (k := NU))); exact rfl; exact rfl; exact hNU; omega)) | (focus ((with_reducible apply (oq_mulE (k := QU))); exact rfl; exact rfl; exact hQU; omega)) | (focus ((with_reducible apply (oq_mulE (k := QUU))); exact rfl; exact rfl; exact hQUU; omega)) | (focus ((with_reducible apply (oq_mulE (k := 10 * ((k : Nat) : Int)))); (iterate 3 exact rfl); omega)) | (focus ((with_reducible apply (oq_mulE (k := MR))); exact rfl; exact rfl; exact hMR; omega))) | (focus ((with_reducible apply oq_indexAddrN (i := jt)); (iterate 4 exact rfl); omega)) | ((with_reducible apply (oq_max2E (k := upV q1 q2 z.h))); exact rfl; exact rfl; rfl) | (focus ((with_reducible apply oq_indexAddrN (i := jm)); (iterate 4 exact rfl); omega)) | (apply oq_fn; exact rfl; first | exact trivial | (and_intros <;> omega) | omega | skip) | ((with_reducible apply oq_load); exact rfl; exact rfl) | ((with_reducible apply oq_loadAgg); exact rfl; exact rfl)) | ((with_reducible apply tl_id); first | (with_reducible apply tl_nil) | ((with_reducible apply u_q); (iterate 4 exact rfl)) | ((with_reducible apply u_skip); (iterate 3 exact rfl)) | ((with_reducible apply u_s0); exact rfl; exact rfl) | ((with_reducible apply u_s); (iterate 3 exact rfl))) | ((with_reducible apply gx_id); first | (with_reducible apply v_nil) | ((with_reducible apply v_q); (iterate 3 exact rfl))) | ((with_reducible apply os_id); first | ((with_reducible apply os_x); exact rfl) | ((with_reducible apply os_storeAgg); (iterate 5 exact rfl))) | ((with_reducible apply ox_id); first | ((with_reducible apply ox_boxAgg); exact rfl; intro _) | ((with_reducible apply ox_alloc); exact rfl; intro _)) | ((with_reducible apply ai_id); first | ((with_reducible apply ai_q); (iterate 5 exact rfl)) | ((with_reducible apply ai_x); (iterate 5 exact rfl)) | ((with_reducible apply ai_n0); (iterate 3 exact rfl))) | ((with_reducible apply al_keep); focus (repeat (first | exact HpSub.refl _ | (apply HpSub.cons; (repeat first | exact P0 | apply P1)) | apply HpSub.skipX | exact HpSub.nil))) | ((with_reducible apply rd_id); first | (apply Rd.own; (repeat first | exact P0 | apply P1); exact rfl; done) | (apply Rd.old; (first | (with_reducible assumption) | exact c0 | exact c1 | exact c2 | exact c3 | exact c4 | exact c5 | exact c6 | exact c7 | exact c8 | exact d0 | exact d1 | exact d2 | exact d3 | exact d4 | exact d5); first | exact List.not_mem_nil | exact m0 | exact m1 | exact m2 | exact m3 | exact m4 | exact m5 | exact m6 | exact m7 | exact m8 | exact m9)) | ((with_reducible apply t_id); first | (with_reducible apply t_seq) | (apply t_region; kernel_rfl) | (with_reducible apply t_block) | ((with_reducible apply t_condT); exact rfl) | (with_reducible apply t_ret) | ((with_reducible apply t_condF); exact rfl) | (with_reducible apply t_skip) | (apply t_mix (id := 14) [0, 1, 2, 3, 4, 5, 6, 7, 8, 9, 10, 11, 12, 13, 14] 3 #[false, false, false, false, false, false, false, false, false, false, false, false, false, false, false, false, false, false]; kernel_rfl; kernel_rfl; exact rfl) | (apply t_drawn; kernel_rfl; decide +kernel; try simp only [List.append_eq, List.cons_append, List.nil_append])) | with_reducible apply q_thenN | with_reducible apply q_thenR | exact P0 | (with_reducible apply P1) | exact Rdn.zero | apply Rdn.succ | (with_reducible apply end_ret) | exact rvs_nil | (with_reducible apply rvs_cons) | ((with_reducible apply rv_tmp); exact rfl) | ((with_reducible apply Norm.nil); exact rfl) | ((with_reducible apply Norm.cons); exact rfl) | ((with_reducible apply al_id); first | (apply al_done; decide +kernel) | (apply al_one 15; decide +kernel) | (apply al_one 16; decide +kernel) | (apply al_one 17; decide +kernel)) | exact Nat.le_of_ble_eq_true rfl)); (try focus (repeat (rename_i x; first | exact goD x m1.p | revert x))); (try focus (repeat (rename_i x; first | exact goD x m2.p | revert x))); (try focus (repeat (rename_i x; first | exact goD x m3.p | revert x))); (try focus (repeat (rename_i x; first | exact goD x m4.p | revert x))); (try focus (repeat (rename_i x; first | exact goD x m5.p | revert x))); (try focus (repeat (rename_i x; first | exact goD x m6.p | revert x))); (try focus (repeat (rename_i x; first | exact goD x m7.p | revert x))); (try focus (repeat (rename_i x; first | exact goD x m8.p | revert x))); (try focus (repeat (rename_i x; first | exact goD x m9.p | revert x))); (try focus (repeat (rename_i x; first | exact goD x m10.p | revert x))); (try focus (repeat (rename_i x; first | exact goD x m11.p | revert x))); (try focus (repeat (rename_i x; first | exact goD x m12.p | revert x))); (try focus (repeat (rename_i x; first | exact goD x m13.p | revert x))); (try focus (repeat (rename_i x; first | exact goD x m14.p | revert x))); (try focus (repeat (rename_i x; first | exact goD x m15.p | revert x))); (try focus (repeat (rename_i x; first | exact goD x m16.p | revert x)))) (e : GoTs A1 A2 A3 A4 A5 A6 A7 A8 A9 A10 A11 A12 A13 A14 A15 A16 := by constructor <;> first | (with_reducible exact GoT.t) | exact GoT.u) : G := p.run h
theorem gqA701 {G A1 A2 A3 A4 A5 A6 A7 A8 A9 A10 A11 A12 A13 A14 A15 A16 : Prop} (p : GoP A1 A2 A3 A4 A5 A6 A7 A8 A9 A10 A11 A12 A13 A14 A15 A16) (h : GoL A1 → GoL A2 → GoL A3 → GoL A4 → GoL A5 → GoL A6 → GoL A7 → GoL A8 → GoL A9 → GoL A10 → GoL A11 → GoL A12 → GoL A13 → GoL A14 → GoL A15 → GoL A16 → GoM → G := by intro m1 m2 m3 m4 m5 m6 m7 m8 m9 m10 m11 m12 m13 m14 m15 m16 _; (repeat' (first | ((with_reducible apply oq_id); first | ((with_reducible apply oc_id); first | ((with_reducible apply oq_call (hc := Tryz.call37)); exact rfl; exact rfl; exact fun D w1 hw1 => HP w1 hw1.ext.ext) | ((with_reducible apply oq_call (hc := Tryz.call42)); exact rfl; exact rfl; exact fun D w1 hw1 => HA1 w1) | ((with_reducible apply oq_call (hc := Tryz.call42)); exact rfl; exact rfl; exact fun D w1 hw1 => HA2 w1) | ((with_reducible apply oq_call (hc := Tryz.call41)); exact rfl; exact rfl; exact fun D w1 hw1 => HB w1)) | ((with_reducible apply ob_id); first | (focus ((with_reducible apply (oq_subE (k := lo + 1 - lo))); exact rfl; exact rfl; omega)) | (focus ((with_reducible apply (oq_mulE (k := LL))); exact rfl; exact rfl; exact hLL; omega)) | (focus ((with_reducible apply (oq_subE (k := hi - lo))); exact rfl; exact rfl; omega)) | (focus ((with_reducible apply (oq_addE (k := lo + hi))); exact rfl; exact rfl; omega)) | (focus ((with_reducible apply (oq_quoX (k := mm))); exact rfl; exact rfl; exact ⟨hmm, by decide⟩; omega)) | (focus ((with_reducible apply (oq_mulE (k := MM))); exact rfl; exact rfl; exact hMM; omega)) | (focus ((with_reducible apply (oq_subE (k := m - n))); exact rfl; exact rfl; omega)) | (focus ((with_reducible apply (oq_mulE (k := D2))); exact rfl; exact rfl; exact hD; omega)) | ((with_reducible apply oq_eqSpT); exact rfl; exact rfl; (focus (constructor <;> rfl))) | ((with_reducible apply oq_neqT); exact rfl; exact rfl; omega) | ((with_reducible apply oq_neqF); exact rfl; exact rfl; omega) | (focus ((with_reducible apply (oq_mulE (k := NT))); exact rfl; exact rfl; exact hNT; omega)) | (focus ((with_reducible apply (oq_mulE (k := QT))); exact rfl; exact rfl; exact hQT; omega)) | (focus ((with_reducible apply (oq_mulE (k := QTT))); exact rfl; exact rfl; exact hQTT; omega)) | (focus ((with_reducible apply (oq_mulE (k := 10 * ((k : Nat) : Int)))); (iterate 3 exact rfl); omega)) | (focus ((with_reducible apply (oq_mulE (k := MR))); exact rfl; exact rfl; exact hMR; omega)) | ((with_reducible apply oq_gtrT); exact rfl; exact rfl; omega) | ((with_reducible apply oq_gtrF); exact rfl; exact rfl; omega) | ((with_reducible apply oq_eqlT); exact rfl; exact rfl; omega) | ((with_reducible apply oq_lssF); exact rfl; exact rfl; omega) | ((with_reducible apply oq_geqF); exact rfl; exact rfl; omega) | ((with_reducible apply oq_eqlF); exact rfl; exact rfl; omega) | (focus ((with_reducible apply (oq_mulE (k := fl * 60))); (iterate 3 exact rfl); omega)) | (focus ((with_reducible apply (oq_mulE (k := fh * 60))); (iterate 3 exact rfl); omega)) | (focus ((with_reducible apply (oq_mulE (k := LB))); exact rfl; exact rfl; exact hLB; omega)) | (focus ((with_reducible apply (oq_mulE (k := HB'))); exact rfl; exact rfl; exact hHB; omega)) | ((with_reducible apply oq_leqT); exact rfl; exact rfl; omega) | ((with_reducible apply oq_leqF); exact rfl; exact rfl; omega) | ((with_reducible apply oq_geqT); exact rfl; exact rfl; omega)) | (apply oq_fn; exact rfl; first | exact trivial | (and_intros <;> omega) | omega | skip) | ((with_reducible apply oq_load); exact rfl; exact rfl) | ((with_reducible apply oq_loadAgg); exact rfl; exact rfl) | ((with_reducible apply oq_build); (iterate 3 exact rfl))) | ((with_reducible apply tl_id); first | (with_reducible apply tl_nil) | ((with_reducible apply u_q); (iterate 4 exact rfl)) | ((with_reducible apply u_skip); (iterate 3 exact rfl)) | ((with_reducible apply u_s0); exact rfl; exact rfl) | ((with_reducible apply u_s); (iterate 3 exact rfl))) | ((with_reducible apply os_id); first | ((with_reducible apply os_x); exact rfl) | ((with_reducible apply os_storeAgg); (iterate 5 exact rfl))) | ((with_reducible apply ox_id); first | ((with_reducible apply ox_alloc); exact rfl; intro _)) | ((with_reducible apply rd_id); first | (apply Rd.own; (repeat first | exact P0 | apply P1); exact rfl; done)) | ((with_reducible apply t_id); first | (with_reducible apply t_seq) | (apply t_region; kernel_rfl) | ((with_reducible apply t_condT); exact rfl) | ((with_reducible apply t_condF); exact rfl) | (with_reducible apply t_ret) | (with_reducible apply t_exit) | (with_reducible apply t_skip) | (with_reducible apply t_block)) | with_reducible apply q_thenN | with_reducible apply q_thenE | ((with_reducible apply q_blockE); exact rfl) | with_reducible apply q_blockN | with_reducible apply q_thenR | exact P0 | (with_reducible apply P1) | exact Rdn.zero | apply Rdn.succ | ((with_reducible apply Norm.nil); exact rfl) | ((with_reducible apply Norm.cons); exact rfl) | (with_reducible apply end_ret) | exact rvs_nil | (with_reducible apply rvs_cons) | ((with_reducible apply rv_tmp); exact rfl) | exact Nat.le_of_ble_eq_true rfl)); (try focus (repeat (rename_i x; first | exact goD x m1.p | revert x))); (try focus (repeat (rename_i x; first | exact goD x m2.p | revert x))); (try focus (repeat (rename_i x; first | exact goD x m3.p | revert x))); (try focus (repeat (rename_i x; first | exact goD x m4.p | revert x))); (try focus (repeat (rename_i x; first | exact goD x m5.p | revert x))); (try focus (repeat (rename_i x; first | exact goD x m6.p | revert x))); (try focus (repeat (rename_i x; first | exact goD x m7.p | revert x))); (try focus (repeat (rename_i x; first | exact goD x m8.p | revert x))); (try focus (repeat (rename_i x; first | exact goD x m9.p | revert x))); (try focus (repeat (rename_i x; first | exact goD x m10.p | revert x))); (try focus (repeat (rename_i x; first | exact goD x m11.p | revert x))); (try focus (repeat (rename_i x; first | exact goD x m12.p | revert x))); (try focus (repeat (rename_i x; first | exact goD x m13.p | revert x))); (try focus (repeat (rename_i x; first | exact goD x m14.p | revert x))); (try focus (repeat (rename_i x; first | exact goD x m15.p | revert x))); (try focus (repeat (rename_i x; first | exact goD x m16.p | revert x)))) (e : GoTs A1 A2 A3 A4 A5 A6 A7 A8 A9 A10 A11 A12 A13 A14 A15 A16 := by constructor <;> first | (with_reducible exact GoT.t) | exact GoT.u) : G := p.run h
open Go.RowKit
theorem PtIs.bound {m : Nat} {L : List Lg} {v q1 q2 q3 q4 g0 g1 : Int} {C : List Wn} {i : Int} {bk : Bool} {me : Int} {P : Pt} (h : PtIs m L v q1 q2 q3 q4 g0 g1 C i bk me P) : (0 ≤ P.1.1 ∧ P.1.1 ≤ P.1.2 ∧ P.1.2 ≤ 10000000) ∧ (0 ≤ P.2.1.1 ∧ P.2.1.1 ≤ P.2.1.2 ∧ P.2.1.2 ≤ 166666666667) := by
 rcases h.inv with ⟨h1, h2, h3⟩ | ⟨z, k, hk, rfl⟩
 · rw [h2, h3]; decide
 · obtain ⟨_, ⟨_, _, _, _, _, p6⟩, _, _, k5, k6⟩ := hk.facts
   have hb := hullT_bound k5 _ k6
   have h1 : (hullT k (legRz v q1 q2 q3 z bk C)).1 * g0.toNat ≤ (hullT k (legRz v q1 q2 q3 z bk C)).2 * g1.toNat := Nat.mul_le_mul hb.1 (by omega)
   have h2 : (hullT k (legRz v q1 q2 q3 z bk C)).2 * g1.toNat ≤ 10000000 * 1000000 := Nat.mul_le_mul (by omega) (by omega)
   have h3 := qf_bound (m := (hullT k (legRz v q1 q2 q3 z bk C)).2 * g1.toNat) h2
   have h4 := qf_mono h1
   simp only [partF]
   omega
theorem sh_le {n r k : Int} (hr : 0 < r) (h : ShP n (r * r) k) : k * r ≤ n := by
 have e : k * k * (r * r) = (k * r) * (k * r) := by ac_rfl
 rcases h with ⟨h0, h1 | h1⟩ | ⟨h0, h1, h2⟩
 · have := Int.mul_nonneg (show 0 ≤ -k by omega) (show 0 ≤ r by omega)
   rw [Int.neg_mul] at this
   omega
 · rw [e] at h1
   rcases Int.lt_or_le n (k * r) with g | g
   · have := sq_lt h0 g
     omega
   · exact g
 · rw [e, sq_neg n, sq_neg (k * r)] at h2
   rcases Int.lt_or_le n (k * r) with g | g
   · have hk : 0 ≤ -(k * r) := by
       have := Int.mul_nonneg (show 0 ≤ -k by omega) (show 0 ≤ r by omega)
       rw [Int.neg_mul] at this
       omega
     have := sq_lt hk (show -(k * r) < -n by omega)
     omega
   · exact g
theorem mul_btw {a b w x : Int} (h1 : a ≤ w) (h2 : w ≤ b) : min (a * x) (b * x) ≤ w * x ∧ w * x ≤ max (a * x) (b * x) := by
 rcases Int.le_total 0 x with h | h
 · have e1 := Int.mul_le_mul_of_nonneg_right h1 h
   have e2 := Int.mul_le_mul_of_nonneg_right h2 h
   omega
 · have e1 := Int.mul_le_mul_of_nonpos_right h1 h
   have e2 := Int.mul_le_mul_of_nonpos_right h2 h
   omega
theorem along_true {a b c d x y r u t : Int} (h : WOk a b c d) (hw : WayIn x y) (hr : 0 < r) (hq : x * x + y * y = r * r) (hu : a ≤ u ∧ u ≤ b) (ht : c ≤ t ∧ t ≤ d) : (alongV a b c d x y).1 * r ≤ u * x + t * y ∧ u * x + t * y ≤ (alongV a b c d x y).2.1 * r := by
 have hq1 := hw.q
 have hy : wayOk x y = true := by
   unfold wayOk
   rw [Bool.and_eq_true, allFrom_two]
   unfold WayIn at hw
   refine ⟨by omega, ?_⟩
   simp
   omega
 have f1 : farV a b ≤ 2000 ∧ 0 ≤ farV a b := by obtain ⟨h1, h2, h3, h4, h5, h6⟩ := h; unfold farV; omega
 have f2 : farV c d ≤ 2000 ∧ 0 ≤ farV c d := by obtain ⟨h1, h2, h3, h4, h5, h6⟩ := h; unfold farV; omega
 have g1 := Int.mul_le_mul f1.1 f1.1 f1.2 (by omega)
 have g2 := Int.mul_le_mul f2.1 f2.1 f2.2 (by omega)
 have h8 : ∀ n, (n = alongLo a b c d x y ∨ n = alongHi a b c d x y) → n * n ≤ 8000000 * (x * x + y * y) := fun n hn =>
   Int.le_trans (ends_sq h.ab h.cd hn) (Int.mul_le_mul_of_nonneg_right (by omega) (by omega))
 have k1 := h8 _ (.inl rfl)
 have k2 := h8 _ (.inr rfl)
 rw [sq_neg (alongHi a b c d x y)] at k2
 have s1 := (shV_ex hq1 k1).1.1
 have s2 := (shV_ex hq1 k2).1.1
 have m1 := mul_btw (x := x) hu.1 hu.2
 have m2 := mul_btw (x := y) ht.1 ht.2
 have b1 : alongLo a b c d x y ≤ u * x + t * y := by unfold alongLo; omega
 have b2 : u * x + t * y ≤ alongHi a b c d x y := by unfold alongHi; omega
 unfold alongV
 rw [if_pos h.windE, if_pos hy]
 simp only
 rw [hq] at s1 s2 ⊢
 have e1 := sh_le hr s1
 have e2 := sh_le hr s2
 rw [Int.neg_mul]
 omega
structure Spd (n q r s f A B : Int) : Prop where
 a0 : 0 ≤ A
 b0 : 0 ≤ B
 aq : A * A ≤ q
 qb : q ≤ B * B
 lo : r * s ≤ n + A
 hi : n + B ≤ r * f
theorem sq_of_abs {x y : Int} (h1 : -y ≤ x) (h2 : x ≤ y) : x * x ≤ y * y := by
 rcases Int.le_total 0 x with h | h
 · exact Int.mul_le_mul h2 h2 h (by omega)
 · rw [sq_neg x]
   exact Int.mul_le_mul (by omega) (by omega) (by omega) (by omega)
theorem rate_true {v al ah cl ch r n ac s f : Int} (hF : Fast v al ah cl ch) (hr : 0 < r) (h : rate v al ah cl ch = some (s, f)) (hn : al * r ≤ n ∧ n ≤ ah * r) (hc : cl * r ≤ ac ∧ ac ≤ ch * r) : ∃ A B, Spd n (v * v * (r * r) - ac * ac) r s f A B := by
 unfold rate at h
 split at h
 · cases h
 rename_i hv
 split at h
 · cases h
 obtain ⟨rfl, rfl⟩ := Prod.mk.inj (Option.some.inj h)
 obtain ⟨q1, q2, q3, _, _, _⟩ := hF.sqs hv
 obtain ⟨r1, r2, r3⟩ := rt_spec (v * v - farR cl ch * farR cl ch) q1
 obtain ⟨t1, t2, t3⟩ := rt_spec (v * v - nearR cl ch * nearR cl ch) (by omega)
 obtain ⟨S, hS⟩ : ∃ S, rt (v * v - farR cl ch * farR cl ch) = S := ⟨_, rfl⟩
 obtain ⟨T, hT⟩ : ∃ T, rtHi (v * v - nearR cl ch * nearR cl ch) = T := ⟨_, rfl⟩
 have hT2 : 0 ≤ T ∧ v * v - nearR cl ch * nearR cl ch ≤ T * T := by
   rw [← hT]
   unfold rtHi
   split
   · rename_i e; rw [e]; exact ⟨t1, Int.le_refl _⟩
   · exact ⟨by omega, by omega⟩
 rw [hS] at r1 r2 ⊢
 rw [hT]
 -- how far across
 have hr0 : 0 ≤ r * r := Int.mul_nonneg (by omega) (by omega)
 have f0 : -(farR cl ch * r) ≤ ac ∧ ac ≤ farR cl ch * r := by
   have e1 := Int.mul_le_mul_of_nonneg_right (show -cl ≤ farR cl ch by unfold farR; omega) (show 0 ≤ r by omega)
   have e2 := Int.mul_le_mul_of_nonneg_right (show ch ≤ farR cl ch by unfold farR; omega) (show 0 ≤ r by omega)
   rw [Int.neg_mul] at e1
   omega
 have f1 : ac * ac ≤ farR cl ch * farR cl ch * (r * r) := by
   have := sq_of_abs f0.1 f0.2
   have e : farR cl ch * r * (farR cl ch * r) = farR cl ch * farR cl ch * (r * r) := by ac_rfl
   omega
 have f2 : nearR cl ch * nearR cl ch * (r * r) ≤ ac * ac := by
   have e : nearR cl ch * r * (nearR cl ch * r) = nearR cl ch * nearR cl ch * (r * r) := by ac_rfl
   rw [← e]
   have n0 : 0 ≤ nearR cl ch := by unfold nearR; omega
   have n1 := Int.mul_nonneg n0 (show 0 ≤ r by omega)
   by_cases h0 : 0 ≤ cl
   · have : nearR cl ch = max 0 cl ∨ nearR cl ch = 0 := by have := hF.c1; unfold nearR; omega
     refine sq_mono n1 ?_
     have e1 : nearR cl ch ≤ cl := by have := hF.c1; unfold nearR; omega
     have := Int.mul_le_mul_of_nonneg_right e1 (show 0 ≤ r by omega)
     omega
   · rw [sq_neg ac]
     by_cases h1 : ch ≤ 0
     · refine sq_mono n1 ?_
       have e1 : nearR cl ch ≤ -ch := by unfold nearR; omega
       have := Int.mul_le_mul_of_nonneg_right e1 (show 0 ≤ r by omega)
       rw [Int.neg_mul] at this
       omega
     · have e1 : nearR cl ch = 0 := by unfold nearR; omega
       rw [e1, Int.zero_mul, Int.zero_mul]
       exact sq_nn _
 refine ⟨S * r, T * r, Int.mul_nonneg r1 (by omega), Int.mul_nonneg hT2.1 (by omega), ?_, ?_, ?_, ?_⟩
 · have e : S * r * (S * r) = S * S * (r * r) := by ac_rfl
   have e1 := Int.mul_le_mul_of_nonneg_right r2 hr0
   rw [Int.sub_mul] at e1
   omega
 · have e : T * r * (T * r) = T * T * (r * r) := by ac_rfl
   have e1 := Int.mul_le_mul_of_nonneg_right hT2.2 hr0
   rw [Int.sub_mul] at e1
   omega
 · rw [Int.mul_add, Int.mul_comm r al, Int.mul_comm r S]
   omega
 · rw [Int.mul_add, Int.mul_comm r ah, Int.mul_comm r T]
   omega
def AtL (n q m : Int) : Prop := m ≤ n ∨ (m - n) * (m - n) ≤ q
def Abv (n q m : Int) : Prop := m < n ∨ (m - n) * (m - n) < q
theorem Spd.q0 {n q r s f A B : Int} (h : Spd n q r s f A B) : 0 ≤ q := Int.le_trans (sq_nn A) h.aq
theorem Spd.least {n q r s f A B : Int} (h : Spd n q r s f A B) {T M : Int} (hT : 0 ≤ T) (hM : M ≤ T * (r * s)) : AtL (n * T) (q * (T * T)) M := by
 unfold AtL
 by_cases h1 : M ≤ n * T
 · exact .inl h1
 · refine .inr ?_
   have e1 := Int.mul_le_mul_of_nonneg_left h.lo hT
   rw [Int.mul_add, Int.mul_comm T n] at e1
   have e2 := sq_mono (show 0 ≤ M - n * T by omega) (show M - n * T ≤ T * A by omega)
   have e3 := Int.mul_le_mul_of_nonneg_right h.aq (sq_nn T)
   have e : T * A * (T * A) = A * A * (T * T) := by ac_rfl
   omega
theorem Spd.most {n q r s f A B : Int} (h : Spd n q r s f A B) {T M : Int} (hT : 0 ≤ T) (hM : T * (r * f) ≤ M) : ¬ Abv (n * T) (q * (T * T)) M := by
 have e1 := Int.mul_le_mul_of_nonneg_left h.hi hT
 rw [Int.mul_add, Int.mul_comm T n] at e1
 have e0 := Int.mul_nonneg hT h.b0
 have e2 := sq_mono e0 (show T * B ≤ M - n * T by omega)
 have e3 := Int.mul_le_mul_of_nonneg_right h.qb (sq_nn T)
 have e : T * B * (T * B) = B * B * (T * T) := by ac_rfl
 unfold Abv
 omega
theorem hull_all {m : Nat} : ∀ (l : List (Int × Int)) (z : Nat × Nat) (r : Int × Int), ((l.foldl (fun a r => (min a.1 (tLo m r), max a.2 (tHi m r))) z).1 ≤ z.1 ∧ z.2 ≤ (l.foldl (fun a r => (min a.1 (tLo m r), max a.2 (tHi m r))) z).2) ∧ (r ∈ l → (l.foldl (fun a r => (min a.1 (tLo m r), max a.2 (tHi m r))) z).1 ≤ tLo m r ∧ tHi m r ≤ (l.foldl (fun a r => (min a.1 (tLo m r), max a.2 (tHi m r))) z).2)
 | [], z, r => ⟨⟨Nat.le_refl _, Nat.le_refl _⟩, fun h => (List.not_mem_nil h).elim⟩
 | a :: l, z, r => by
   obtain ⟨⟨h1, h2⟩, h3⟩ := hull_all l (min z.1 (tLo m a), max z.2 (tHi m a)) r
   simp only [List.foldl_cons]
   simp only at h1 h2
   refine ⟨⟨Nat.le_trans h1 (Nat.min_le_left ..), Nat.le_trans (Nat.le_max_left ..) h2⟩, fun h => ?_⟩
   rcases List.mem_cons.1 h with rfl | h
   · exact ⟨Nat.le_trans h1 (Nat.min_le_right ..), Nat.le_trans (Nat.le_max_right ..) h2⟩
   · exact h3 h
theorem hull_mem {m : Nat} {R : List (Int × Int)} {r : Int × Int} (h : r ∈ R) : (hullT m R).1 ≤ tLo m r ∧ tHi m r ≤ (hullT m R).2 := by
 cases R with
 | nil => exact (List.not_mem_nil h).elim
 | cons a l =>
   unfold hullT
   obtain ⟨⟨h1, h2⟩, h3⟩ := hull_all l (tLo m a, tHi m a) r
   rcases List.mem_cons.1 h with rfl | h
   · exact ⟨h1, h2⟩
   · exact h3 h
theorem t_true {m : Nat} {r : Int × Int} (h : RtOk r) : ((tLo m r : Nat) : Int) * r.2 ≤ 10 * m ∧ 10 * (m : Int) ≤ ((tHi m r : Nat) : Int) * r.1 := by
 obtain ⟨h1, h2, h3⟩ := h
 obtain ⟨s, hs⟩ := Int.eq_ofNat_of_zero_le (show 0 ≤ r.1 by omega)
 obtain ⟨f, hf⟩ := Int.eq_ofNat_of_zero_le (show 0 ≤ r.2 by omega)
 unfold tLo tHi
 rw [hs, hf, Int.toNat_natCast, Int.toNat_natCast]
 have e1 : 10 * m / f * f ≤ 10 * m := Nat.div_mul_le_self _ _
 have hs0 : 0 < s := by omega
 have e2 : 10 * m ≤ (10 * m + s - 1) / s * s := by
   have := Nat.lt_mul_div_succ (10 * m + s - 1) hs0
   rw [Nat.mul_add, Nat.mul_comm s ((10 * m + s - 1) / s)] at this
   omega
 constructor
 · exact_mod_cast e1
 · exact_mod_cast e2
theorem fuel_true {lo hi g0 g1 : Nat} {u : Int} (h0 : (g0 : Int) ≤ u) (h1 : u ≤ g1) : ((qf (lo * g0) : Nat) : Int) * 60 ≤ (lo : Int) * u ∧ (hi : Int) * u ≤ ((qc (hi * g1) : Nat) : Int) * 60 := by
 have a1 : qf (lo * g0) * 60 ≤ lo * g0 := Nat.div_mul_le_self _ _
 have a2 : hi * g1 ≤ qc (hi * g1) * 60 := by unfold qc; split <;> omega
 have b1 := Int.mul_le_mul_of_nonneg_left h0 (show 0 ≤ (lo : Int) by omega)
 have b2 := Int.mul_le_mul_of_nonneg_left h1 (show 0 ≤ (hi : Int) by omega)
 have c1 : ((qf (lo * g0) * 60 : Nat) : Int) ≤ ((lo * g0 : Nat) : Int) := by exact_mod_cast a1
 have c2 : ((hi * g1 : Nat) : Int) ≤ ((qc (hi * g1) * 60 : Nat) : Int) := by exact_mod_cast a2
 simp only [Int.natCast_mul] at c1 c2
 refine ⟨?_, ?_⟩
 · have : ((60 : Nat) : Int) = 60 := rfl
   omega
 · have : ((60 : Nat) : Int) = 60 := rfl
   omega
theorem rates_mem {v up x y : Int} {C : List Wn} {w : Wn} (h : ratesV v up x y C ≠ []) (hw : w ∈ C) : ∃ r, wrate v up x y w = some r ∧ r ∈ ratesV v up x y C := by
 unfold ratesV at h ⊢
 split at h
 · rename_i ha
   rw [if_pos ha]
   obtain ⟨r, hr⟩ := Option.isSome_iff_exists.1 (List.all_eq_true.1 ha w hw)
   exact ⟨r, hr, List.mem_filterMap.2 ⟨w, hw, hr⟩⟩
 · exact absurd rfl h
theorem true_all {m : Nat} {L : List Lg} {v q1 q2 q3 q4 g0 g1 : Int} {C : List Wn} {i : Int} {bk : Bool} {me : Int} {z : Lg} {k : Nat} (h : PtOk m L v q1 q2 q3 q4 g0 g1 C i bk me z k) {w : Wn} (hw : w ∈ C) {r : Int} (hr : 0 < r) (hq : z.x * z.x + z.y * z.y = r * r) :
   upV q1 q2 z.h ≤ q3 ∧ ∃ a b c d, windV w.l (upV q1 q2 z.h) (upV q1 q2 z.h) = ((a, b), (c, d), 0) ∧ WOk a b c d ∧ ∀ u t, a ≤ u → u ≤ b → c ≤ t → t ≤ d → ∃ n q, n = u * turnX bk z.x + t * turnX bk z.y ∧ q = v * v * (r * r) - (t * turnX bk z.x - u * turnX bk z.y) * (t * turnX bk z.x - u * turnX bk z.y) ∧ 0 ≤ q ∧ AtL n q 1 ∧ (0 < k → 1 ≤ (hullT k (legRz v q1 q2 q3 z bk C)).2) ∧ AtL (n * ((hullT k (legRz v q1 q2 q3 z bk C)).2 : Nat)) (q * (((hullT k (legRz v q1 q2 q3 z bk C)).2 : Nat) * ((hullT k (legRz v q1 q2 q3 z bk C)).2 : Nat))) (10 * k * r) ∧ ¬ Abv (n * ((hullT k (legRz v q1 q2 q3 z bk C)).1 : Nat)) (q * (((hullT k (legRz v q1 q2 q3 z bk C)).1 : Nat) * ((hullT k (legRz v q1 q2 q3 z bk C)).1 : Nat))) (10 * k * r) := by
 obtain ⟨f1, f2, f3, f4, f5, f6⟩ := h.facts
 obtain ⟨_, _, zi, _, _, hR⟩ := h
 obtain ⟨_, _, _, zx, zy, z0, zh⟩ := f1
 obtain ⟨hv, h1, h3, h2, _, _⟩ := f2
 have hup : ¬ q3 < upV q1 q2 z.h := fun e => hR (by unfold legRz legR; rw [if_pos e])
 have hRe : legRz v q1 q2 q3 z bk C = ratesV v (upV q1 q2 z.h) (turnX bk z.x) (turnX bk z.y) C := by unfold legRz legR; rw [if_neg hup]
 have hway : WayIn (turnX bk z.x) (turnX bk z.y) := turn_way ⟨zx, zy, z0⟩ bk
 have hq' : turnX bk z.x * turnX bk z.x + turnX bk z.y * turnX bk z.y = r * r := by
   cases bk
   · exact hq
   · show -z.x * -z.x + -z.y * -z.y = r * r
     rw [Int.neg_mul_neg, Int.neg_mul_neg]; exact hq
 obtain ⟨a, b, c, d, al, ah, cl, ch, e1, e2, e3, hF, e4, _⟩ := wn_all (f3 w hw) hv (show -500 ≤ upV q1 q2 z.h ∧ upV q1 q2 z.h ≤ 20000 by unfold upV at *; omega) hway
 have hf : fineS (upV q1 q2 z.h, upV q1 q2 z.h) = true := (fineS_iff _).2 ⟨Int.le_refl _, by show _ ≤ upV q1 q2 z.h; unfold upV at *; omega, by show upV q1 q2 z.h ≤ _; unfold upV at *; omega⟩
 obtain ⟨a', b', c', d', e5, k1, k2, k3, k4, k5, k6⟩ := windV_ok (f3 w hw) hf
 rw [e1] at e5
 obtain ⟨e6, e7⟩ := Prod.mk.inj e5
 obtain ⟨e8, _⟩ := Prod.mk.inj e7
 obtain ⟨rfl, rfl⟩ := Prod.mk.inj e6
 obtain ⟨rfl, rfl⟩ := Prod.mk.inj e8
 have hok : WOk a b c d := ⟨k1, k2, k3, k4, k5, k6⟩
 rw [hRe] at hR f6 ⊢
 obtain ⟨⟨s, f⟩, hr1, hr2⟩ := rates_mem hR hw
 rw [e4] at hr1
 refine ⟨by omega, a, b, c, d, e1, hok, fun u t u1 u2 t1 t2 => ⟨_, _, rfl, rfl, ?_⟩⟩
 have n1 := along_true hok hway hr hq' ⟨u1, u2⟩ ⟨t1, t2⟩
 have n2 := along_true hok hway.turn hr (by rw [Int.neg_mul_neg]; omega) ⟨u1, u2⟩ ⟨t1, t2⟩
 rw [e2] at n1
 rw [e3] at n2
 simp only at n1 n2
 have hac : u * -turnX bk z.y + t * turnX bk z.x = t * turnX bk z.x - u * turnX bk z.y := by rw [Int.mul_neg]; omega
 rw [hac] at n2
 obtain ⟨A, B, hS⟩ := rate_true hF hr hr1 n1 n2
 have hro := f6 _ hr2
 obtain ⟨t1', t2'⟩ := t_true (m := k) hro
 obtain ⟨m1, m2⟩ := hull_mem (m := k) hr2
 obtain ⟨o1, o2, o3⟩ := hro
 simp only at t1' t2' o1 o2 o3
 obtain ⟨T, hT⟩ : ∃ T, (hullT k (ratesV v (upV q1 q2 z.h) (turnX bk z.x) (turnX bk z.y) C)).2 = T := ⟨_, rfl⟩
 obtain ⟨U, hU⟩ : ∃ U, (hullT k (ratesV v (upV q1 q2 z.h) (turnX bk z.x) (turnX bk z.y) C)).1 = U := ⟨_, rfl⟩
 rw [hT] at m2 ⊢
 rw [hU] at m1 ⊢
 have hTs : 10 * (k : Int) ≤ (T : Int) * s := Int.le_trans t2' (Int.mul_le_mul_of_nonneg_right (by omega) (by omega))
 have hUf : (U : Int) * f ≤ 10 * k := Int.le_trans (Int.mul_le_mul_of_nonneg_right (by omega) (by omega)) t1'
 have hrs : 1 ≤ r * s := by have := Int.mul_pos hr (show 0 < s by omega); omega
 refine ⟨hS.q0, ?_, fun hk => ?_, ?_, ?_⟩
 · have := hS.least (T := 1) (M := 1) (by omega) (by omega)
   rw [Int.mul_one, Int.mul_one, Int.mul_one] at this
   exact this
 · rcases Nat.eq_zero_or_pos T with e | e
   · rw [e] at hTs
     simp only [Int.natCast_zero, Int.zero_mul] at hTs
     omega
   · exact e
 · refine hS.least (by omega) ?_
   have := Int.mul_le_mul_of_nonneg_right hTs (show 0 ≤ r by omega)
   have e : (T : Int) * s * r = T * (r * s) := by ac_rfl
   omega
 · refine hS.most (by omega) ?_
   have := Int.mul_le_mul_of_nonneg_right hUf (show 0 ≤ r by omega)
   have e : (U : Int) * f * r = U * (r * f) := by ac_rfl
   omega
end Go.Proofs.YtcjkndjjbjoehaaGreat
namespace Go.Proofs.YtcjkndjjbjoehaaGreat
open Go.RowKit
attribute [local irreducible] OQ OS OX Rd T TL GX GL AL AI RV wpG SAny Calls
theorem oq_quoX {c : Cx} {F : Fr} {H : Hp} {d : Option Tmp} {ty t t' : TypeId} {pos : String} {af : Array Edge} {g : Option (Nat × Bool)} {x y : Operand} {m n k : Int} (hx : ev F x = some (.int .i64 m)) (hy : ev F y = some (.int .i64 n)) (e : m.tdiv n = k ∧ n ≠ 0) (hb : -9223372036854775808 ≤ k ∧ k ≤ 9223372036854775807) : OQ c ⟨d, .binOp .quo t x y t', ty, pos, af, g⟩ F H (.int .i64 k) :=
 oq_quoI hx hy ⟨e.1, e.2, hb.1, hb.2⟩
theorem oq_remX {c : Cx} {F : Fr} {H : Hp} {d : Option Tmp} {ty t t' : TypeId} {pos : String} {af : Array Edge} {g : Option (Nat × Bool)} {x y : Operand} {m n k : Int} (hx : ev F x = some (.int .i64 m)) (hy : ev F y = some (.int .i64 n)) (e : m.tmod n = k ∧ n ≠ 0) : OQ c ⟨d, .binOp .rem t x y t', ty, pos, af, g⟩ F H (.int .i64 k) :=
 (oq_rem hx hy e.2).as (by rw [e.1])
theorem root38_calls (n : Int) (hn : 0 ≤ n ∧ n ≤ 100000000) (w : World) : Calls Tryz.prog 38 #[.int .i64 n] w fun e w' => e = .returned (.tuple #[.int .i64 (rt n), .bool (decide (rt n * rt n = n))]) ∧ Ext w w' := by
 refine enterQ (c := cx w 28) Tryz.func38 rfl rfl rfl rfl ?_
 ((all_goals refine gqA700 ?_); (all_goals constructor); (any_goals exact trivial); all_goals intros)
 apply t_loopP (ι := Int × Int) [0] (fun z => [(4, .int .i64 z.1), (5, .int .i64 z.2)]) (fun _ => []) (fun z => 0 ≤ z.1 ∧ z.1 < z.2 ∧ z.2 ≤ 10001 ∧ z.1 * z.1 ≤ n ∧ n < z.2 * z.2) (fun z => (z.2 - z.1).toNat) (0, 10001)
 (repeat (first | exact KeepF.nil | (apply KeepF.cons; exact rfl) | apply KeepF.skip))
 (repeat first | exact FrSub.nil | (apply FrSub.cons; exact rfl))
 (try simp only [List.cons_append, List.nil_append])
 (repeat' (first | exact HpSub.refl _))
 · exact ⟨by decide, by decide, by decide, by simp only; omega, by simp only; omega⟩
 rintro ⟨lo, hi⟩ ⟨h0, h1, h2, h3, h4⟩
 simp only at h0 h1 h2 h3 h4
 try simp only [List.cons_append, List.nil_append]
 by_cases hlt : 1 < hi - lo
 rotate_left
 · obtain rfl : hi = lo + 1 := by omega
   have hr : rt n = lo := IsR.rt ⟨h0, h3, h4⟩
   rw [hr]
   obtain ⟨LL, hLL⟩ : ∃ x, lo * lo = x := ⟨_, rfl⟩
   rw [hLL] at h3 ⊢
   have hL0 : 0 ≤ LL := by rw [← hLL]; exact Int.mul_nonneg h0 h0
   by_cases he : LL = n
   · rw [decide_eq_true he]
     ((all_goals refine gqA701 ?_); (all_goals constructor); (any_goals exact trivial); all_goals intros)
     all_goals rfl
   · rw [decide_eq_false he]
     ((all_goals refine gqA701 ?_); (all_goals constructor); (any_goals exact trivial); all_goals intros)
     all_goals rfl
 have hq : (lo + hi).tdiv 2 = (lo + hi) / 2 := Int.tdiv_eq_ediv_of_nonneg (by omega)
 obtain ⟨mm, hmm⟩ : ∃ x, (lo + hi).tdiv 2 = x := ⟨_, rfl⟩
 have hm1 : lo < mm ∧ mm < hi := by omega
 have hb := mul_abs (x := mm) (y := mm) (a := 10001) (b := 10001) (by omega) (by omega)
 obtain ⟨MM, hMM⟩ : ∃ x, mm * mm = x := ⟨_, rfl⟩
 rw [hMM] at hb
 have hQ : ∀ x, x = lo + hi → x.tdiv 2 = mm := fun x hx => hx ▸ hmm
 by_cases hc : MM ≤ n
 · ((all_goals refine gqA701 ?_); (all_goals constructor); (any_goals exact trivial); all_goals intros)
   all_goals (refine ⟨(mm, hi), ⟨by simp only; omega, by simp only; omega, h2, by simp only; omega, h4⟩, by simp only; omega, ?_, ?_⟩ <;> (repeat' (first | exact FrSub.nil | (apply FrSub.cons; exact rfl) | exact HpSub.refl _)))
 · ((all_goals refine gqA701 ?_); (all_goals constructor); (any_goals exact trivial); all_goals intros)
   all_goals (refine ⟨(lo, mm), ⟨h0, by simp only; omega, by simp only; omega, h3, by simp only; omega⟩, by simp only; omega, ?_, ?_⟩ <;> (repeat' (first | exact FrSub.nil | (apply FrSub.cons; exact rfl) | exact HpSub.refl _)))
theorem atl_calls (n q m : Int) (h : AtL n q m) (hb : -3000000000 ≤ n ∧ -3000000000 ≤ m ∧ m - n ≤ 3000000000) (w : World) : Calls Tryz.prog 42 #[.int .i64 n, .int .i64 q, .int .i64 m] w fun e w' => e = .returned (.bool true) ∧ Ext w w' := by
 by_cases hc : m ≤ n
 · refine enterQ (c := cx w 21) Tryz.func42 rfl rfl rfl rfl ?_
   ((all_goals refine gqA701 ?_); (all_goals constructor); (any_goals exact trivial); all_goals intros)
   all_goals rfl
 · have h2 : (m - n) * (m - n) ≤ q := h.resolve_left hc
   have hb2 := mul_abs (x := m - n) (y := m - n) (a := 3000000000) (b := 3000000000) (by omega) (by omega)
   obtain ⟨D2, hD⟩ : ∃ x, (m - n) * (m - n) = x := ⟨_, rfl⟩
   rw [hD] at h2 hb2
   refine enterQ (c := cx w 21) Tryz.func42 rfl rfl rfl rfl ?_
   ((all_goals refine gqA701 ?_); (all_goals constructor); (any_goals exact trivial); all_goals intros)
   all_goals rfl
theorem abv_calls (n q m : Int) (h : ¬ Abv n q m) (hb : -3000000000 ≤ n ∧ m - n ≤ 3000000000) (w : World) : Calls Tryz.prog 43 #[.int .i64 n, .int .i64 q, .int .i64 m] w fun e w' => e = .returned (.bool false) ∧ Ext w w' := by
 unfold Abv at h
 have h1 : n ≤ m := by omega
 have h2 : q ≤ (m - n) * (m - n) := by omega
 have hb2 := mul_abs (x := m - n) (y := m - n) (a := 3000000000) (b := 3000000000) (by omega) (by omega)
 obtain ⟨D2, hD⟩ : ∃ x, (m - n) * (m - n) = x := ⟨_, rfl⟩
 rw [hD] at h2 hb2
 refine enterQ (c := cx w 21) Tryz.func43 rfl rfl rfl rfl ?_
 ((all_goals refine gqA701 ?_); (all_goals constructor); (any_goals exact trivial); all_goals intros)
 all_goals rfl
theorem of_calls (lo hi b : Int) (h1 : lo ≤ hi) (hb1 : -2000000 ≤ lo) (hb2 : hi ≤ 2000000) (hb : 0 ≤ b ∧ b ≤ 255) : ∃ u, lo ≤ u ∧ u ≤ hi ∧ ∀ w : World, Calls Tryz.prog 41 #[.agg #[.int .i64 lo, .int .i64 hi], .int .u8 b] w fun e w' => e = .returned (.int .i64 u) ∧ Ext w w' := by
 have hd : 0 ≤ hi - lo := by omega
 have p0 := Int.mul_nonneg hb.1 hd
 have p1 := Int.mul_le_mul_of_nonneg_right hb.2 hd
 obtain ⟨PP, hP⟩ : ∃ x, b * (hi - lo) = x := ⟨_, rfl⟩
 rw [hP] at p0 p1
 have hq : PP.tdiv 255 = PP / 255 := Int.tdiv_eq_ediv_of_nonneg p0
 obtain ⟨QQ, hQ⟩ : ∃ x, PP.tdiv 255 = x := ⟨_, rfl⟩
 have hq0 : 0 ≤ QQ ∧ QQ ≤ hi - lo := by omega
 refine ⟨lo + QQ, by omega, by omega, fun w => ?_⟩
 refine enterQ (c := cx w 17) Tryz.func41 rfl rfl rfl rfl ?_
 ((all_goals refine gqA700 ?_); (all_goals constructor); (any_goals exact trivial); all_goals intros)
 all_goals rfl
theorem routeTrue_T (AM A : Option Addr) (m cM n cp : Nat) (L : List Lg) (w : World) (hr : RdS w 5 A n (L.map lgCells)) (v q1 q2 q3 q4 g0 g1 : Int) (AC : Option Addr) (nC cC : Nat) (C : List Wn) (hrc : CastR w AC nC C) (i : Int) (bk : Bool) (me y6 y7 y8 y9 : Int) (h6 : 0 ≤ y6 ∧ y6 ≤ 255) (h7 : 0 ≤ y7 ∧ y7 ≤ 255) (h8 : 0 ≤ y8 ∧ y8 ≤ 255) (h9 : 0 ≤ y9 ∧ y9 ≤ 255) : Calls Tryz.prog 7 #[.agg #[.slice AM m cM, .slice A n cp], .agg #[.int .i64 v, .int .i64 q1, .int .i64 q2, .int .i64 q3, .int .i64 q4, .int .i64 g0, .int .i64 g1], .slice AC nC cC, .int .i64 i, .bool bk, .int .i64 me, .int .u8 y6, .int .u8 y7, .int .u8 y8, .int .u8 y9] w fun e w' => e = .returned (.bool true) ∧ Ext w w' := by
 have hln : L.length = n := by simpa using hr.len
 have hlC : C.length = nC := hrc.len
 have HG := fun w1 (hx : Ext w w1) => great_calls AM A m cM n cp AC nC cC C w1 (hrc.ext hx)
 refine enterQ (c := cx w 272) Tryz.func7 rfl rfl rfl rfl ?_
 refine t_cut (ι := Nat × Nat) (fun z => [(2, .slice AC nC cC), (3, .int .i64 i), (4, .bool bk), (5, .int .i64 me), (6, .int .u8 y6), (7, .int .u8 y7), (8, .int .u8 y8), (9, .int .u8 y9), (10, .pointer (some ⟨z.1, 0, none⟩)), (11, .pointer (some ⟨z.2, 0, none⟩))]) (fun z => (z.1, [.slice AM m cM, .slice A n cp], some (25, 2, 1)) :: (z.2, [.int .i64 v, .int .i64 q1, .int .i64 q2, .int .i64 q3, .int .i64 q4, .int .i64 g0, .int .i64 g1], some (29, 7, 1)) :: []) (fun _ => True) ?_ ?_
 · ((all_goals refine gqA700 ?_); (all_goals constructor); (any_goals exact trivial); all_goals intros)
   all_goals exact ⟨rfl, (_, _), trivial, by (repeat first | exact FrSub.nil | (apply FrSub.cons; exact rfl)), by (repeat' (first | exact HpSub.refl _ | (apply HpSub.consE; (repeat first | exact P0 | apply P1); first | exact rfl | (simp; done))))⟩
 rintro ⟨b1, b2⟩ -
 try simp only
 refine t_cut (ι := Unit) (fun _ => [(2, .slice AC nC cC), (3, .int .i64 i), (4, .bool bk), (5, .int .i64 me), (6, .int .u8 y6), (7, .int .u8 y7), (8, .int .u8 y8), (9, .int .u8 y9), (10, .pointer (some ⟨b1, 0, none⟩)), (11, .pointer (some ⟨b2, 0, none⟩)), (21, .bool true)]) (fun _ => (b1, [.slice AM m cM, .slice A n cp], some (25, 2, 1)) :: (b2, [.int .i64 v, .int .i64 q1, .int .i64 q2, .int .i64 q3, .int .i64 q4, .int .i64 g0, .int .i64 g1], some (29, 7, 1)) :: []) (fun _ => True) ?_ ?_
 · ((all_goals refine gqA700 ?_); (all_goals constructor); (any_goals exact trivial); all_goals intros)
   all_goals exact ⟨by trivial, (), trivial, by (repeat first | exact FrSub.nil | (apply FrSub.cons; exact rfl)), by (repeat' (first | exact HpSub.refl _))⟩
 rintro ⟨⟩ -
 by_cases hbig : ¬ Small m n C
 · by_cases hS : Small m n C
   · rw [decide_eq_true hS] at HG
     exact absurd hS hbig
   · rw [decide_eq_false hS] at HG
     ((all_goals refine gqA700 ?_); (all_goals constructor); (any_goals exact trivial); all_goals intros)
     all_goals rfl
 obtain ⟨hS, _⟩ : Small m n C ∧ True := ⟨Classical.byContradiction fun h => hbig h, trivial⟩
 rw [decide_eq_true hS] at HG
 obtain ⟨hm, hn, hc8, hs24⟩ := hS
 have hs : ∀ z ∈ C, z.n ≤ 1000000 := fun z hz => by have := hs24 z hz; omega
 have hm6 : m ≤ 1000000 := by omega
 have hn6 : n ≤ 1000000 := by omega
 refine t_cut (ι := Unit) (fun _ => [(2, .slice AC nC cC), (3, .int .i64 i), (4, .bool bk), (5, .int .i64 me), (6, .int .u8 y6), (7, .int .u8 y7), (8, .int .u8 y8), (9, .int .u8 y9), (10, .pointer (some ⟨b1, 0, none⟩)), (11, .pointer (some ⟨b2, 0, none⟩)), (21, .bool true)]) (fun _ => (b1, [.slice AM m cM, .slice A n cp], some (25, 2, 1)) :: (b2, [.int .i64 v, .int .i64 q1, .int .i64 q2, .int .i64 q3, .int .i64 q4, .int .i64 g0, .int .i64 g1], some (29, 7, 1)) :: []) (fun _ => True) ?_ ?_
 · ((all_goals refine gqA700 ?_); (all_goals constructor); (any_goals exact trivial); all_goals intros)
   all_goals exact ⟨by trivial, (), trivial, by (repeat first | exact FrSub.nil | (apply FrSub.cons; exact rfl)), by (repeat' (first | exact HpSub.refl _))⟩
 rintro ⟨⟩ -
 clear hbig HG
 obtain ⟨P, hPe, hPi⟩ := partR_is m L v q1 q2 q3 q4 g0 g1 C i bk me
 have HP := fun w1 (hx : Ext w w1) => part16_calls AM A m cM n cp L w1 (hr.ext hx) hn6 hm6 v q1 q2 q3 q4 g0 g1 AC nC cC C (hrc.ext hx) hs i bk me
 rw [hPe] at HP
 rcases hPi.inv with ⟨hE, hP1, hP2⟩ | ⟨z, k, hk, rfl⟩
 · obtain ⟨⟨p1, p2⟩, ⟨p3, p4⟩, pe⟩ := P
   simp only at hE hP1 hP2
   obtain ⟨rfl, rfl⟩ := Prod.mk.inj hP1
   obtain ⟨rfl, rfl⟩ := Prod.mk.inj hP2
   simp only [ptV] at HP
   ((all_goals refine gqA701 ?_); (all_goals constructor); (any_goals exact trivial); all_goals intros)
   all_goals rfl
 obtain ⟨f1, f2, f3, f4, f5, f6⟩ := hk.facts
 have hk' := hk
 obtain ⟨hE, hi0, hz, rfl, hkl, hRn⟩ := hk
 obtain ⟨jt, rfl⟩ := Int.eq_ofNat_of_zero_le hi0
 rw [Int.toNat_natCast] at hz
 have hjl := (List.getElem?_eq_some_iff.1 hz).1
 obtain ⟨bA, oA, z', rfl, _, hz', c0, c1, c2, c3, c4⟩ := lg_read hr (show jt < n by omega)
 rw [hz] at hz'
 obtain rfl := Option.some.inj hz'
 have hln2 := (lenV_sq f1).2
 have f1' := f1
 obtain ⟨_, _, _, kx, ky, k0, kh⟩ := f1
 obtain ⟨hv, hq1, hq3, hq2, hq4, hg⟩ := f2
 obtain ⟨g0, rfl⟩ := Int.eq_ofNat_of_zero_le hg.1
 obtain ⟨g1, rfl⟩ := Int.eq_ofNat_of_zero_le (show 0 ≤ g1 by omega)
 have hbx := mul_abs (x := z.x) (y := z.x) (a := 7000) (b := 7000) (by omega) (by omega)
 have hby := mul_abs (x := z.y) (y := z.y) (a := 7000) (b := 7000) (by omega) (by omega)
 have hx0 := sq_nn z.x
 have hy0 := sq_nn z.y
 have hqq := WayIn.q (p := z.x) (q := z.y) ⟨kx, ky, k0⟩
 obtain ⟨X2, hX2⟩ : ∃ x, z.x * z.x = x := ⟨_, rfl⟩
 obtain ⟨Y2, hY2⟩ : ∃ x, z.y * z.y = x := ⟨_, rfl⟩
 rw [hX2] at hbx hx0 hqq hln2
 rw [hY2] at hby hy0 hqq hln2
 have HR := fun w1 => root38_calls (X2 + Y2) (by omega) w1
 obtain ⟨rr0, rr1, rr2⟩ := rt_spec (X2 + Y2) (by omega)
 obtain ⟨r, hrr⟩ : ∃ r, rt (X2 + Y2) = r := ⟨_, rfl⟩
 rw [hrr] at HR rr0 rr1 rr2
 obtain ⟨lo, hlo⟩ : ∃ x, (hullT k (legRz v q1 q2 q3 z bk C)).1 = x := ⟨_, rfl⟩
 obtain ⟨hi, hhi⟩ : ∃ x, (hullT k (legRz v q1 q2 q3 z bk C)).2 = x := ⟨_, rfl⟩
 have hbd := hullT_bound f5 _ f6
 rw [hlo, hhi] at hbd
 obtain ⟨fl, hfl⟩ : ∃ x : Int, ((qf (lo * g0) : Nat) : Int) = x := ⟨_, rfl⟩
 obtain ⟨fh, hfh⟩ : ∃ x : Int, ((qc (hi * g1) : Nat) : Int) = x := ⟨_, rfl⟩
 simp only [ptV, partF, Int.toNat_natCast, hlo, hhi, hfl, hfh] at HP
 refine t_cut (ι := Nat × Nat) (fun z' => [(2, .slice AC nC cC), (3, .int .i64 ((jt : Nat) : Int)), (4, .bool bk), (5, .int .i64 ((k : Nat) : Int)), (6, .int .u8 y6), (7, .int .u8 y7), (8, .int .u8 y8), (9, .int .u8 y9), (10, .pointer (some ⟨b1, 0, none⟩)), (11, .pointer (some ⟨b2, 0, none⟩)), (21, .bool true), (22, .pointer (some ⟨z'.1, 0, none⟩)), (23, .pointer (some ⟨z'.2, 0, none⟩)), (24, .int .i64 0)]) (fun z' => (z'.1, [.int .i64 ((lo : Nat) : Int), .int .i64 ((hi : Nat) : Int)], some (27, 2, 1)) :: (z'.2, [.int .i64 fl, .int .i64 fh], some (27, 2, 1)) :: (b1, [.slice AM m cM, .slice (some ⟨bA, oA, none⟩) n cp], some (25, 2, 1)) :: (b2, [.int .i64 v, .int .i64 q1, .int .i64 q2, .int .i64 q3, .int .i64 q4, .int .i64 ((g0 : Nat) : Int), .int .i64 ((g1 : Nat) : Int)], some (29, 7, 1)) :: []) (fun _ => True) ?_ ?_
 · ((all_goals refine gqA700 ?_); (all_goals constructor); (any_goals exact trivial); all_goals intros)
   all_goals exact ⟨by trivial, (_, _), trivial, by (repeat first | exact FrSub.nil | (apply FrSub.cons; exact rfl)), by (repeat' (first | exact HpSub.refl _ | (apply HpSub.consE; (repeat first | exact P0 | apply P1); first | exact rfl | (simp; done))))⟩
 rintro ⟨b22, b23⟩ -
 try simp only
 refine t_cut (ι := Unit) (fun _ => [(2, .slice AC nC cC), (3, .int .i64 ((jt : Nat) : Int)), (4, .bool bk), (5, .int .i64 ((k : Nat) : Int)), (6, .int .u8 y6), (7, .int .u8 y7), (8, .int .u8 y8), (9, .int .u8 y9), (10, .pointer (some ⟨b1, 0, none⟩)), (11, .pointer (some ⟨b2, 0, none⟩)), (21, .bool true), (22, .pointer (some ⟨b22, 0, none⟩)), (23, .pointer (some ⟨b23, 0, none⟩))]) (fun _ => (b22, [.int .i64 ((lo : Nat) : Int), .int .i64 ((hi : Nat) : Int)], some (27, 2, 1)) :: (b23, [.int .i64 fl, .int .i64 fh], some (27, 2, 1)) :: (b1, [.slice AM m cM, .slice (some ⟨bA, oA, none⟩) n cp], some (25, 2, 1)) :: (b2, [.int .i64 v, .int .i64 q1, .int .i64 q2, .int .i64 q3, .int .i64 q4, .int .i64 ((g0 : Nat) : Int), .int .i64 ((g1 : Nat) : Int)], some (29, 7, 1)) :: []) (fun _ => True) ?_ ?_
 · ((all_goals refine gqA701 ?_); (all_goals constructor); (any_goals exact trivial); all_goals intros)
   all_goals exact ⟨by trivial, (), trivial, by (repeat first | exact FrSub.nil | (apply FrSub.cons; exact rfl)), by (repeat' (first | exact HpSub.refl _))⟩
 rintro ⟨⟩ -
 refine t_cut (ι := Unit) (fun _ => [(2, .slice AC nC cC), (3, .int .i64 ((jt : Nat) : Int)), (4, .bool bk), (5, .int .i64 ((k : Nat) : Int)), (6, .int .u8 y6), (7, .int .u8 y7), (8, .int .u8 y8), (9, .int .u8 y9), (10, .pointer (some ⟨b1, 0, none⟩)), (11, .pointer (some ⟨b2, 0, none⟩)), (21, .bool true), (22, .pointer (some ⟨b22, 0, none⟩)), (23, .pointer (some ⟨b23, 0, none⟩))]) (fun _ => (b22, [.int .i64 ((lo : Nat) : Int), .int .i64 ((hi : Nat) : Int)], some (27, 2, 1)) :: (b23, [.int .i64 fl, .int .i64 fh], some (27, 2, 1)) :: (b1, [.slice AM m cM, .slice (some ⟨bA, oA, none⟩) n cp], some (25, 2, 1)) :: (b2, [.int .i64 v, .int .i64 q1, .int .i64 q2, .int .i64 q3, .int .i64 q4, .int .i64 ((g0 : Nat) : Int), .int .i64 ((g1 : Nat) : Int)], some (29, 7, 1)) :: []) (fun _ => True) ?_ ?_
 · ((all_goals refine gqA701 ?_); (all_goals constructor); (any_goals exact trivial); all_goals intros)
   all_goals exact ⟨by trivial, (), trivial, by (repeat first | exact FrSub.nil | (apply FrSub.cons; exact rfl)), by (repeat' (first | exact HpSub.refl _))⟩
 rintro ⟨⟩ -
 refine t_cut (ι := Nat) (fun z' => [(2, .slice AC nC cC), (3, .int .i64 ((jt : Nat) : Int)), (4, .bool bk), (5, .int .i64 ((k : Nat) : Int)), (6, .int .u8 y6), (7, .int .u8 y7), (8, .int .u8 y8), (9, .int .u8 y9), (10, .pointer (some ⟨b1, 0, none⟩)), (11, .pointer (some ⟨b2, 0, none⟩)), (21, .bool true), (22, .pointer (some ⟨b22, 0, none⟩)), (23, .pointer (some ⟨b23, 0, none⟩)), (25, .pointer (some ⟨z', 0, none⟩))]) (fun z' => (z', [.int .i64 z.a, .int .i64 z.b, .int .i64 z.x, .int .i64 z.y, .int .i64 z.h], some (78, 5, 1)) :: (b22, [.int .i64 ((lo : Nat) : Int), .int .i64 ((hi : Nat) : Int)], some (27, 2, 1)) :: (b23, [.int .i64 fl, .int .i64 fh], some (27, 2, 1)) :: (b1, [.slice AM m cM, .slice (some ⟨bA, oA, none⟩) n cp], some (25, 2, 1)) :: (b2, [.int .i64 v, .int .i64 q1, .int .i64 q2, .int .i64 q3, .int .i64 q4, .int .i64 ((g0 : Nat) : Int), .int .i64 ((g1 : Nat) : Int)], some (29, 7, 1)) :: []) (fun _ => True) ?_ ?_
 · ((all_goals refine gqA700 ?_); (all_goals constructor); (any_goals exact trivial); all_goals intros)
   all_goals exact ⟨by trivial, _, trivial, by (repeat first | exact FrSub.nil | (apply FrSub.cons; exact rfl)), by (repeat' (first | exact HpSub.refl _))⟩
 rintro b25 -
 try simp only
 refine t_cut (ι := Unit) (fun _ => [(2, .slice AC nC cC), (3, .int .i64 ((jt : Nat) : Int)), (4, .bool bk), (5, .int .i64 ((k : Nat) : Int)), (6, .int .u8 y6), (7, .int .u8 y7), (8, .int .u8 y8), (9, .int .u8 y9), (10, .pointer (some ⟨b1, 0, none⟩)), (11, .pointer (some ⟨b2, 0, none⟩)), (21, .bool true), (22, .pointer (some ⟨b22, 0, none⟩)), (23, .pointer (some ⟨b23, 0, none⟩)), (25, .pointer (some ⟨b25, 0, none⟩)), (26, .int .i64 r), (27, .bool (decide (r * r = X2 + Y2)))]) (fun _ => (b25, [.int .i64 z.a, .int .i64 z.b, .int .i64 z.x, .int .i64 z.y, .int .i64 z.h], some (78, 5, 1)) :: (b22, [.int .i64 ((lo : Nat) : Int), .int .i64 ((hi : Nat) : Int)], some (27, 2, 1)) :: (b23, [.int .i64 fl, .int .i64 fh], some (27, 2, 1)) :: (b1, [.slice AM m cM, .slice (some ⟨bA, oA, none⟩) n cp], some (25, 2, 1)) :: (b2, [.int .i64 v, .int .i64 q1, .int .i64 q2, .int .i64 q3, .int .i64 q4, .int .i64 ((g0 : Nat) : Int), .int .i64 ((g1 : Nat) : Int)], some (29, 7, 1)) :: []) (fun _ => True) ?_ ?_
 · ((all_goals refine gqA700 ?_); (all_goals constructor); (any_goals exact trivial); all_goals intros)
   all_goals exact ⟨by trivial, (), trivial, by (repeat first | exact FrSub.nil | (apply FrSub.cons; exact rfl)), by (repeat' (first | exact HpSub.refl _))⟩
 rintro ⟨⟩ -
 by_cases hbig : ¬ (r * r = X2 + Y2) ∨ 100 < r ∨ 5000 < (hi : Int)
 · by_cases w1' : r * r = X2 + Y2
   · rw [decide_eq_true w1']
     have hb3 := hbig.resolve_left (fun h => h w1')
     by_cases w2' : 100 < r
     · ((all_goals refine gqA701 ?_); (all_goals constructor); (any_goals exact trivial); all_goals intros)
       all_goals rfl
     · ((all_goals refine gqA701 ?_); (all_goals constructor); (any_goals exact trivial); all_goals intros)
       all_goals rfl
   · rw [decide_eq_false w1']
     ((all_goals refine gqA700 ?_); (all_goals constructor); (any_goals exact trivial); all_goals intros)
     all_goals rfl
 obtain ⟨hwh, hr100, hhi5⟩ : r * r = X2 + Y2 ∧ r ≤ 100 ∧ (hi : Int) ≤ 5000 := ⟨Classical.byContradiction fun h => hbig (.inl h), by omega, by omega⟩
 rw [decide_eq_true hwh]
 refine t_cut (ι := Unit) (fun _ => [(2, .slice AC nC cC), (3, .int .i64 ((jt : Nat) : Int)), (4, .bool bk), (5, .int .i64 ((k : Nat) : Int)), (6, .int .u8 y6), (7, .int .u8 y7), (8, .int .u8 y8), (9, .int .u8 y9), (10, .pointer (some ⟨b1, 0, none⟩)), (11, .pointer (some ⟨b2, 0, none⟩)), (21, .bool true), (22, .pointer (some ⟨b22, 0, none⟩)), (23, .pointer (some ⟨b23, 0, none⟩)), (25, .pointer (some ⟨b25, 0, none⟩)), (26, .int .i64 r)]) (fun _ => (b25, [.int .i64 z.a, .int .i64 z.b, .int .i64 z.x, .int .i64 z.y, .int .i64 z.h], some (78, 5, 1)) :: (b22, [.int .i64 ((lo : Nat) : Int), .int .i64 ((hi : Nat) : Int)], some (27, 2, 1)) :: (b23, [.int .i64 fl, .int .i64 fh], some (27, 2, 1)) :: (b1, [.slice AM m cM, .slice (some ⟨bA, oA, none⟩) n cp], some (25, 2, 1)) :: (b2, [.int .i64 v, .int .i64 q1, .int .i64 q2, .int .i64 q3, .int .i64 q4, .int .i64 ((g0 : Nat) : Int), .int .i64 ((g1 : Nat) : Int)], some (29, 7, 1)) :: []) (fun _ => True) ?_ ?_
 · ((all_goals refine gqA701 ?_); (all_goals constructor); (any_goals exact trivial); all_goals intros)
   all_goals exact ⟨by trivial, (), trivial, by (repeat first | exact FrSub.nil | (apply FrSub.cons; exact rfl)), by (repeat' (first | exact HpSub.refl _))⟩
 rintro ⟨⟩ -
 clear hbig
 have hr1 : 1 ≤ r := by
   rcases Int.lt_or_le r 1 with h | h
   · have : r = 0 := by omega
     rw [this] at hwh; omega
   · exact h
 have hrb := mul_abs (x := r) (y := r) (a := 100) (b := 100) (by omega) (by omega)
 have hk1 : (k : Int) ≤ 10000 := by
   have h1 : (lenV z.x z.y - 1) * (lenV z.x z.y - 1) < 10000 * (r * r) := by rw [hwh]; exact hln2
   rcases Int.lt_or_le 10000 (k : Int) with h | h
   · have := sq_mono (show (0 : Int) ≤ 10000 by decide) (show 10000 ≤ lenV z.x z.y - 1 by omega)
     omega
   · exact h
 have hdx : -100 ≤ z.x ∧ z.x ≤ 100 := by
   rcases Int.lt_or_le 100 z.x with h | h
   · have := sq_mono (show (0 : Int) ≤ 101 by decide) (show 101 ≤ z.x by omega); omega
   · rcases Int.lt_or_le z.x (-100) with h' | h'
     · have := sq_mono (show (0 : Int) ≤ 101 by decide) (show 101 ≤ -z.x by omega)
       rw [Int.neg_mul_neg] at this; omega
     · exact ⟨h', h⟩
 have hdy : -100 ≤ z.y ∧ z.y ≤ 100 := by
   rcases Int.lt_or_le 100 z.y with h | h
   · have := sq_mono (show (0 : Int) ≤ 101 by decide) (show 101 ≤ z.y by omega); omega
   · rcases Int.lt_or_le z.y (-100) with h' | h'
     · have := sq_mono (show (0 : Int) ≤ 101 by decide) (show 101 ≤ -z.y by omega)
       rw [Int.neg_mul_neg] at this; omega
     · exact ⟨h', h⟩
 refine t_cut (ι := Unit) (fun _ => [(2, .slice AC nC cC), (3, .int .i64 ((jt : Nat) : Int)), (4, .bool bk), (5, .int .i64 ((k : Nat) : Int)), (6, .int .u8 y6), (7, .int .u8 y7), (8, .int .u8 y8), (9, .int .u8 y9), (10, .pointer (some ⟨b1, 0, none⟩)), (11, .pointer (some ⟨b2, 0, none⟩)), (21, .bool true), (22, .pointer (some ⟨b22, 0, none⟩)), (23, .pointer (some ⟨b23, 0, none⟩)), (25, .pointer (some ⟨b25, 0, none⟩)), (26, .int .i64 r), (28, .int .i64 (upV q1 q2 z.h))]) (fun _ => (b25, [.int .i64 z.a, .int .i64 z.b, .int .i64 z.x, .int .i64 z.y, .int .i64 z.h], some (78, 5, 1)) :: (b22, [.int .i64 ((lo : Nat) : Int), .int .i64 ((hi : Nat) : Int)], some (27, 2, 1)) :: (b23, [.int .i64 fl, .int .i64 fh], some (27, 2, 1)) :: (b1, [.slice AM m cM, .slice (some ⟨bA, oA, none⟩) n cp], some (25, 2, 1)) :: (b2, [.int .i64 v, .int .i64 q1, .int .i64 q2, .int .i64 q3, .int .i64 q4, .int .i64 ((g0 : Nat) : Int), .int .i64 ((g1 : Nat) : Int)], some (29, 7, 1)) :: []) (fun _ => True) ?_ ?_
 · ((all_goals refine gqA700 ?_); (all_goals constructor); (any_goals exact trivial); all_goals intros)
   all_goals exact ⟨by trivial, (), trivial, by (repeat first | exact FrSub.nil | (apply FrSub.cons; exact rfl)), by (repeat' (first | exact HpSub.refl _))⟩
 rintro ⟨⟩ -
 -- the member
 have hnC : 0 < nC := by omega
 obtain ⟨jc, hjc⟩ := Int.eq_ofNat_of_zero_le h6.1
 have hjm : y6.tmod ((nC : Nat) : Int) = ((jc % nC : Nat) : Int) := by rw [hjc]; rfl
 have hjlt : jc % nC < nC := Nat.mod_lt _ hnC
 obtain ⟨jm, hjmm⟩ : ∃ x, jc % nC = x := ⟨_, rfl⟩
 rw [hjmm] at hjm hjlt
 obtain ⟨bC, oC, cw, rfl, _, hcw, d0, hgr, hgc⟩ := hrc.read hjlt
 obtain ⟨hup, wa, wb, wc, wd, hwv, hok, htrue⟩ := true_all hk' (List.mem_of_getElem? hcw) (r := r) (by omega) (by rw [hX2, hY2]; exact hwh.symm)
 have hok' := hok
 obtain ⟨o1, o2, o3, o4, o5, o6⟩ := hok
 have HW := fun w1 (hx : Ext w w1) => windAt_calls cw.A cw.n cw.c cw.l (upV q1 q2 z.h) (upV q1 q2 z.h) w1 (hgr.ext hx) (hs cw (List.mem_of_getElem? hcw)) hgc
 rw [hwv] at HW
 simp only [windO] at HW
 obtain ⟨u, hu1, hu2, HU⟩ := of_calls wa wb y7 o1 (by omega) (by omega) h7
 obtain ⟨t, ht1, ht2, HT⟩ := of_calls wc wd y8 o2 (by omega) (by omega) h8
 obtain ⟨bu, hbu1, hbu2, HB⟩ := of_calls ((g0 : Nat) : Int) ((g1 : Nat) : Int) y9 (by omega) (by omega) (by omega) h9
 obtain ⟨N, Q, hN, hQ, hQ0, hA1, hHi, hA2, hA3⟩ := htrue u t hu1 hu2 ht1 ht2
 rw [hlo] at hA3
 rw [hhi] at hHi hA2
 have hfu := fuel_true (lo := lo) (hi := hi) (g0 := g0) (g1 := g1) (u := bu) hbu1 hbu2
 rw [hfl, hfh] at hfu
 obtain ⟨dx, hdxe⟩ : ∃ x, turnX bk z.x = x := ⟨_, rfl⟩
 obtain ⟨dy, hdye⟩ : ∃ x, turnX bk z.y = x := ⟨_, rfl⟩
 rw [hdxe, hdye] at hN hQ
 have hdx' : -100 ≤ dx ∧ dx ≤ 100 := by rw [← hdxe]; unfold turnX; split <;> omega
 have hdy' : -100 ≤ dy ∧ dy ≤ 100 := by rw [← hdye]; unfold turnX; split <;> omega
 have b1' := mul_abs (x := u) (y := dx) (a := 2000) (b := 100) (by omega) hdx'
 have b2' := mul_abs (x := t) (y := dy) (a := 2000) (b := 100) (by omega) hdy'
 have b3' := mul_abs (x := t) (y := dx) (a := 2000) (b := 100) (by omega) hdx'
 have b4' := mul_abs (x := u) (y := dy) (a := 2000) (b := 100) (by omega) hdy'
 obtain ⟨MP1, hMP1⟩ : ∃ x, u * dx = x := ⟨_, rfl⟩
 obtain ⟨MP2, hMP2⟩ : ∃ x, t * dy = x := ⟨_, rfl⟩
 obtain ⟨MP3, hMP3⟩ : ∃ x, t * dx = x := ⟨_, rfl⟩
 obtain ⟨MP4, hMP4⟩ : ∃ x, u * dy = x := ⟨_, rfl⟩
 rw [hMP1, hMP2] at hN
 rw [hMP3, hMP4] at hQ
 rw [hMP1] at b1'
 rw [hMP2] at b2'
 rw [hMP3] at b3'
 rw [hMP4] at b4'
 obtain ⟨AC', hAC⟩ : ∃ x, MP3 - MP4 = x := ⟨_, rfl⟩
 rw [hAC] at hQ
 have b5' := mul_abs (x := AC') (y := AC') (a := 400000) (b := 400000) (by omega) (by omega)
 have b6' := mul_abs (x := v) (y := v) (a := 1000) (b := 1000) (by omega) (by omega)
 have hv0 := sq_nn v
 have hac0 := sq_nn AC'
 obtain ⟨AA, hAA⟩ : ∃ x, AC' * AC' = x := ⟨_, rfl⟩
 obtain ⟨VV, hVV⟩ : ∃ x, v * v = x := ⟨_, rfl⟩
 rw [hAA] at hQ b5' hac0
 rw [hVV] at hQ b6' hv0
 have b7' := mul_abs (x := VV) (y := r) (a := 1000000) (b := 100) (by omega) (by omega)
 obtain ⟨VR, hVR⟩ : ∃ x, VV * r = x := ⟨_, rfl⟩
 have hQ2 : VV * (r * r) = VR * r := by rw [← hVR, Int.mul_assoc]
 rw [hQ2] at hQ
 rw [hVR] at b7'
 have b8' := mul_abs (x := VR) (y := r) (a := 100000000) (b := 100) (by omega) (by omega)
 obtain ⟨VS, hVS⟩ : ∃ x, VR * r = x := ⟨_, rfl⟩
 rw [hVS] at hQ b8'
 have hNb : -400000 ≤ N ∧ N ≤ 400000 := by omega
 have hQb : Q ≤ 10000000000 := by omega
 -- times the time
 have e1' := mul_abs (x := N) (y := ((hi : Nat) : Int)) (a := 400000) (b := 5000) (by omega) (by omega)
 have e2' := mul_abs (x := Q) (y := ((hi : Nat) : Int)) (a := 10000000000) (b := 5000) (by omega) (by omega)
 have e3' := mul_abs (x := N) (y := ((lo : Nat) : Int)) (a := 400000) (b := 5000) (by omega) (by omega)
 have e4' := mul_abs (x := Q) (y := ((lo : Nat) : Int)) (a := 10000000000) (b := 5000) (by omega) (by omega)
 rw [← Int.mul_assoc] at hA2 hA3
 obtain ⟨NT, hNT⟩ : ∃ x, N * ((hi : Nat) : Int) = x := ⟨_, rfl⟩
 obtain ⟨QT, hQT⟩ : ∃ x, Q * ((hi : Nat) : Int) = x := ⟨_, rfl⟩
 obtain ⟨NU, hNU⟩ : ∃ x, N * ((lo : Nat) : Int) = x := ⟨_, rfl⟩
 obtain ⟨QU, hQU⟩ : ∃ x, Q * ((lo : Nat) : Int) = x := ⟨_, rfl⟩
 rw [hNT, hQT] at hA2
 rw [hNU, hQU] at hA3
 rw [hNT] at e1'
 rw [hQT] at e2'
 rw [hNU] at e3'
 rw [hQU] at e4'
 have e5' := mul_abs (x := QT) (y := ((hi : Nat) : Int)) (a := 50000000000000) (b := 5000) (by omega) (by omega)
 have e6' := mul_abs (x := QU) (y := ((lo : Nat) : Int)) (a := 50000000000000) (b := 5000) (by omega) (by omega)
 have e7' := mul_abs (x := 10 * ((k : Nat) : Int)) (y := r) (a := 100000) (b := 100) (by omega) (by omega)
 obtain ⟨QTT, hQTT⟩ : ∃ x, QT * ((hi : Nat) : Int) = x := ⟨_, rfl⟩
 obtain ⟨QUU, hQUU⟩ : ∃ x, QU * ((lo : Nat) : Int) = x := ⟨_, rfl⟩
 obtain ⟨MR, hMR⟩ : ∃ x, 10 * ((k : Nat) : Int) * r = x := ⟨_, rfl⟩
 rw [hQTT, hMR] at hA2
 rw [hQUU, hMR] at hA3
 rw [hQTT] at e5'
 rw [hQUU] at e6'
 rw [hMR] at e7'
 have g1' := mul_abs (x := ((lo : Nat) : Int)) (y := bu) (a := 5000) (b := 1000000) (by omega) (by omega)
 have g2' := mul_abs (x := ((hi : Nat) : Int)) (y := bu) (a := 5000) (b := 1000000) (by omega) (by omega)
 obtain ⟨LB, hLB⟩ : ∃ x, ((lo : Nat) : Int) * bu = x := ⟨_, rfl⟩
 obtain ⟨HB', hHB⟩ : ∃ x, ((hi : Nat) : Int) * bu = x := ⟨_, rfl⟩
 rw [hLB, hHB] at hfu
 rw [hLB] at g1'
 rw [hHB] at g2'
 have hfb := hPi.bound
 simp only [partF, Int.toNat_natCast, hlo, hhi, hfl, hfh] at hfb
 have HA1 := fun w1 => atl_calls N Q 1 hA1 (by omega) w1
 have HA2 := fun w1 => atl_calls NT QTT MR hA2 (by omega) w1
 have HA3 := fun w1 => abv_calls NU QUU MR hA3 (by omega) w1
 refine t_cut (ι := Nat) (fun z' => [(2, .slice (some ⟨bC, oC, none⟩) nC cC), (3, .int .i64 ((jt : Nat) : Int)), (4, .bool bk), (5, .int .i64 ((k : Nat) : Int)), (6, .int .u8 y6), (7, .int .u8 y7), (8, .int .u8 y8), (9, .int .u8 y9), (10, .pointer (some ⟨b1, 0, none⟩)), (11, .pointer (some ⟨b2, 0, none⟩)), (21, .bool true), (22, .pointer (some ⟨b22, 0, none⟩)), (23, .pointer (some ⟨b23, 0, none⟩)), (25, .pointer (some ⟨b25, 0, none⟩)), (26, .int .i64 r), (29, .pointer (some ⟨z', 0, none⟩)), (28, .int .i64 (upV q1 q2 z.h)), (30, .int .i64 0)]) (fun z' => (z', [.int .i64 wa, .int .i64 wb, .int .i64 wc, .int .i64 wd], some (81, 4, 1)) :: (b25, [.int .i64 z.a, .int .i64 z.b, .int .i64 z.x, .int .i64 z.y, .int .i64 z.h], some (78, 5, 1)) :: (b22, [.int .i64 ((lo : Nat) : Int), .int .i64 ((hi : Nat) : Int)], some (27, 2, 1)) :: (b23, [.int .i64 fl, .int .i64 fh], some (27, 2, 1)) :: (b1, [.slice AM m cM, .slice (some ⟨bA, oA, none⟩) n cp], some (25, 2, 1)) :: (b2, [.int .i64 v, .int .i64 q1, .int .i64 q2, .int .i64 q3, .int .i64 q4, .int .i64 ((g0 : Nat) : Int), .int .i64 ((g1 : Nat) : Int)], some (29, 7, 1)) :: []) (fun _ => True) ?_ ?_
 · ((all_goals refine gqA700 ?_); (all_goals constructor); (any_goals exact trivial); all_goals intros)
   all_goals exact ⟨by trivial, _, trivial, by (repeat first | exact FrSub.nil | (apply FrSub.cons; exact rfl)), by (repeat' (first | exact HpSub.refl _))⟩
 rintro b29 -
 try simp only
 refine t_cut (ι := Unit) (fun _ => [(2, .slice (some ⟨bC, oC, none⟩) nC cC), (3, .int .i64 ((jt : Nat) : Int)), (4, .bool bk), (5, .int .i64 ((k : Nat) : Int)), (6, .int .u8 y6), (7, .int .u8 y7), (8, .int .u8 y8), (9, .int .u8 y9), (10, .pointer (some ⟨b1, 0, none⟩)), (11, .pointer (some ⟨b2, 0, none⟩)), (21, .bool true), (22, .pointer (some ⟨b22, 0, none⟩)), (23, .pointer (some ⟨b23, 0, none⟩)), (25, .pointer (some ⟨b25, 0, none⟩)), (26, .int .i64 r), (29, .pointer (some ⟨b29, 0, none⟩))]) (fun _ => (b29, [.int .i64 wa, .int .i64 wb, .int .i64 wc, .int .i64 wd], some (81, 4, 1)) :: (b25, [.int .i64 z.a, .int .i64 z.b, .int .i64 z.x, .int .i64 z.y, .int .i64 z.h], some (78, 5, 1)) :: (b22, [.int .i64 ((lo : Nat) : Int), .int .i64 ((hi : Nat) : Int)], some (27, 2, 1)) :: (b23, [.int .i64 fl, .int .i64 fh], some (27, 2, 1)) :: (b1, [.slice AM m cM, .slice (some ⟨bA, oA, none⟩) n cp], some (25, 2, 1)) :: (b2, [.int .i64 v, .int .i64 q1, .int .i64 q2, .int .i64 q3, .int .i64 q4, .int .i64 ((g0 : Nat) : Int), .int .i64 ((g1 : Nat) : Int)], some (29, 7, 1)) :: []) (fun _ => True) ?_ ?_
 · ((all_goals refine gqA701 ?_); (all_goals constructor); (any_goals exact trivial); all_goals intros)
   all_goals exact ⟨by trivial, (), trivial, by (repeat first | exact FrSub.nil | (apply FrSub.cons; exact rfl)), by (repeat' (first | exact HpSub.refl _))⟩
 rintro ⟨⟩ -
 refine t_cut (ι := Unit) (fun _ => [(2, .slice (some ⟨bC, oC, none⟩) nC cC), (3, .int .i64 ((jt : Nat) : Int)), (4, .bool bk), (5, .int .i64 ((k : Nat) : Int)), (6, .int .u8 y6), (7, .int .u8 y7), (8, .int .u8 y8), (9, .int .u8 y9), (10, .pointer (some ⟨b1, 0, none⟩)), (11, .pointer (some ⟨b2, 0, none⟩)), (21, .bool true), (22, .pointer (some ⟨b22, 0, none⟩)), (23, .pointer (some ⟨b23, 0, none⟩)), (25, .pointer (some ⟨b25, 0, none⟩)), (26, .int .i64 r), (29, .pointer (some ⟨b29, 0, none⟩)), (31, (.func (.func 41) #[] #[]))]) (fun _ => (b29, [.int .i64 wa, .int .i64 wb, .int .i64 wc, .int .i64 wd], some (81, 4, 1)) :: (b25, [.int .i64 z.a, .int .i64 z.b, .int .i64 z.x, .int .i64 z.y, .int .i64 z.h], some (78, 5, 1)) :: (b22, [.int .i64 ((lo : Nat) : Int), .int .i64 ((hi : Nat) : Int)], some (27, 2, 1)) :: (b23, [.int .i64 fl, .int .i64 fh], some (27, 2, 1)) :: (b1, [.slice AM m cM, .slice (some ⟨bA, oA, none⟩) n cp], some (25, 2, 1)) :: (b2, [.int .i64 v, .int .i64 q1, .int .i64 q2, .int .i64 q3, .int .i64 q4, .int .i64 ((g0 : Nat) : Int), .int .i64 ((g1 : Nat) : Int)], some (29, 7, 1)) :: []) (fun _ => True) ?_ ?_
 · ((all_goals refine gqA700 ?_); (all_goals constructor); (any_goals exact trivial); all_goals intros)
   all_goals exact ⟨by trivial, (), trivial, by (repeat first | exact FrSub.nil | (apply FrSub.cons; exact rfl)), by (repeat' (first | exact HpSub.refl _))⟩
 rintro ⟨⟩ -
 refine t_cut (ι := Unit) (fun _ => [(2, .slice (some ⟨bC, oC, none⟩) nC cC), (3, .int .i64 ((jt : Nat) : Int)), (4, .bool bk), (5, .int .i64 ((k : Nat) : Int)), (6, .int .u8 y6), (7, .int .u8 y7), (8, .int .u8 y8), (9, .int .u8 y9), (10, .pointer (some ⟨b1, 0, none⟩)), (11, .pointer (some ⟨b2, 0, none⟩)), (21, .bool true), (22, .pointer (some ⟨b22, 0, none⟩)), (23, .pointer (some ⟨b23, 0, none⟩)), (25, .pointer (some ⟨b25, 0, none⟩)), (26, .int .i64 r), (31, (.func (.func 41) #[] #[])), (32, .int .i64 u), (33, .int .i64 t)]) (fun _ => (b25, [.int .i64 z.a, .int .i64 z.b, .int .i64 z.x, .int .i64 z.y, .int .i64 z.h], some (78, 5, 1)) :: (b22, [.int .i64 ((lo : Nat) : Int), .int .i64 ((hi : Nat) : Int)], some (27, 2, 1)) :: (b23, [.int .i64 fl, .int .i64 fh], some (27, 2, 1)) :: (b1, [.slice AM m cM, .slice (some ⟨bA, oA, none⟩) n cp], some (25, 2, 1)) :: (b2, [.int .i64 v, .int .i64 q1, .int .i64 q2, .int .i64 q3, .int .i64 q4, .int .i64 ((g0 : Nat) : Int), .int .i64 ((g1 : Nat) : Int)], some (29, 7, 1)) :: []) (fun _ => True) ?_ ?_
 · ((all_goals refine gqA700 ?_); (all_goals constructor); (any_goals exact trivial); all_goals intros)
   all_goals exact ⟨by trivial, (), trivial, by (repeat first | exact FrSub.nil | (apply FrSub.cons; exact rfl)), by (repeat' (first | exact HpSub.refl _ | (apply HpSub.consE; (repeat first | exact P0 | apply P1); first | exact rfl | (simp; done)) | apply HpSub.skipX))⟩
 rintro ⟨⟩ -
 refine t_cut (ι := Unit) (fun _ => [(2, .slice (some ⟨bC, oC, none⟩) nC cC), (3, .int .i64 ((jt : Nat) : Int)), (4, .bool bk), (5, .int .i64 ((k : Nat) : Int)), (6, .int .u8 y6), (7, .int .u8 y7), (8, .int .u8 y8), (9, .int .u8 y9), (10, .pointer (some ⟨b1, 0, none⟩)), (11, .pointer (some ⟨b2, 0, none⟩)), (21, .bool true), (22, .pointer (some ⟨b22, 0, none⟩)), (23, .pointer (some ⟨b23, 0, none⟩)), (25, .pointer (some ⟨b25, 0, none⟩)), (26, .int .i64 r), (31, (.func (.func 41) #[] #[])), (32, .int .i64 u), (33, .int .i64 t), (34, .int .i64 z.x), (35, .int .i64 z.y)]) (fun _ => (b25, [.int .i64 z.a, .int .i64 z.b, .int .i64 z.x, .int .i64 z.y, .int .i64 z.h], some (78, 5, 1)) :: (b22, [.int .i64 ((lo : Nat) : Int), .int .i64 ((hi : Nat) : Int)], some (27, 2, 1)) :: (b23, [.int .i64 fl, .int .i64 fh], some (27, 2, 1)) :: (b1, [.slice AM m cM, .slice (some ⟨bA, oA, none⟩) n cp], some (25, 2, 1)) :: (b2, [.int .i64 v, .int .i64 q1, .int .i64 q2, .int .i64 q3, .int .i64 q4, .int .i64 ((g0 : Nat) : Int), .int .i64 ((g1 : Nat) : Int)], some (29, 7, 1)) :: []) (fun _ => True) ?_ ?_
 · ((all_goals refine gqA700 ?_); (all_goals constructor); (any_goals exact trivial); all_goals intros)
   all_goals exact ⟨by trivial, (), trivial, by (repeat first | exact FrSub.nil | (apply FrSub.cons; exact rfl)), by (repeat' (first | exact HpSub.refl _))⟩
 rintro ⟨⟩ -
 refine t_cut (ι := Unit) (fun _ => [(2, .slice (some ⟨bC, oC, none⟩) nC cC), (3, .int .i64 ((jt : Nat) : Int)), (4, .bool bk), (5, .int .i64 ((k : Nat) : Int)), (6, .int .u8 y6), (7, .int .u8 y7), (8, .int .u8 y8), (9, .int .u8 y9), (10, .pointer (some ⟨b1, 0, none⟩)), (11, .pointer (some ⟨b2, 0, none⟩)), (21, .bool true), (22, .pointer (some ⟨b22, 0, none⟩)), (23, .pointer (some ⟨b23, 0, none⟩)), (25, .pointer (some ⟨b25, 0, none⟩)), (26, .int .i64 r), (31, (.func (.func 41) #[] #[])), (32, .int .i64 u), (33, .int .i64 t), (34, .int .i64 dx), (35, .int .i64 dy)]) (fun _ => (b25, [.int .i64 z.a, .int .i64 z.b, .int .i64 z.x, .int .i64 z.y, .int .i64 z.h], some (78, 5, 1)) :: (b22, [.int .i64 ((lo : Nat) : Int), .int .i64 ((hi : Nat) : Int)], some (27, 2, 1)) :: (b23, [.int .i64 fl, .int .i64 fh], some (27, 2, 1)) :: (b1, [.slice AM m cM, .slice (some ⟨bA, oA, none⟩) n cp], some (25, 2, 1)) :: (b2, [.int .i64 v, .int .i64 q1, .int .i64 q2, .int .i64 q3, .int .i64 q4, .int .i64 ((g0 : Nat) : Int), .int .i64 ((g1 : Nat) : Int)], some (29, 7, 1)) :: []) (fun _ => True) ?_ ?_
 · subst hdxe hdye
   cases bk with
   | false =>
     ((all_goals refine gqA700 ?_); (all_goals constructor); (any_goals exact trivial); all_goals intros)
     all_goals exact ⟨by trivial, (), trivial, by (repeat first | exact FrSub.nil | (apply FrSub.cons; exact rfl)), by (repeat' (first | exact HpSub.refl _))⟩
   | true =>
     ((all_goals refine gqA700 ?_); (all_goals constructor); (any_goals exact trivial); all_goals intros)
     all_goals exact ⟨by trivial, (), trivial, by (repeat first | exact FrSub.nil | (apply FrSub.cons; exact rfl)), by (repeat' (first | exact HpSub.refl _))⟩
 rintro ⟨⟩ -
 refine t_cut (ι := Unit) (fun _ => [(2, .slice (some ⟨bC, oC, none⟩) nC cC), (3, .int .i64 ((jt : Nat) : Int)), (4, .bool bk), (5, .int .i64 ((k : Nat) : Int)), (6, .int .u8 y6), (7, .int .u8 y7), (8, .int .u8 y8), (9, .int .u8 y9), (10, .pointer (some ⟨b1, 0, none⟩)), (11, .pointer (some ⟨b2, 0, none⟩)), (21, .bool true), (22, .pointer (some ⟨b22, 0, none⟩)), (23, .pointer (some ⟨b23, 0, none⟩)), (25, .pointer (some ⟨b25, 0, none⟩)), (26, .int .i64 r), (31, (.func (.func 41) #[] #[])), (36, .int .i64 N), (37, .int .i64 AC')]) (fun _ => (b22, [.int .i64 ((lo : Nat) : Int), .int .i64 ((hi : Nat) : Int)], some (27, 2, 1)) :: (b23, [.int .i64 fl, .int .i64 fh], some (27, 2, 1)) :: (b1, [.slice AM m cM, .slice (some ⟨bA, oA, none⟩) n cp], some (25, 2, 1)) :: (b2, [.int .i64 v, .int .i64 q1, .int .i64 q2, .int .i64 q3, .int .i64 q4, .int .i64 ((g0 : Nat) : Int), .int .i64 ((g1 : Nat) : Int)], some (29, 7, 1)) :: []) (fun _ => True) ?_ ?_
 · ((all_goals refine gqA700 ?_); (all_goals constructor); (any_goals exact trivial); all_goals intros)
   all_goals exact ⟨by trivial, (), trivial, by (repeat first | exact FrSub.nil | (apply FrSub.cons; exact rfl)), by (repeat' (first | exact HpSub.refl _ | (apply HpSub.consE; (repeat first | exact P0 | apply P1); first | exact rfl | (simp; done)) | apply HpSub.skipX))⟩
 rintro ⟨⟩ -
 refine t_cut (ι := Unit) (fun _ => [(2, .slice (some ⟨bC, oC, none⟩) nC cC), (3, .int .i64 ((jt : Nat) : Int)), (4, .bool bk), (5, .int .i64 ((k : Nat) : Int)), (6, .int .u8 y6), (7, .int .u8 y7), (8, .int .u8 y8), (9, .int .u8 y9), (10, .pointer (some ⟨b1, 0, none⟩)), (11, .pointer (some ⟨b2, 0, none⟩)), (21, .bool true), (22, .pointer (some ⟨b22, 0, none⟩)), (23, .pointer (some ⟨b23, 0, none⟩)), (25, .pointer (some ⟨b25, 0, none⟩)), (26, .int .i64 r), (31, (.func (.func 41) #[] #[])), (36, .int .i64 N), (38, .int .i64 Q)]) (fun _ => (b22, [.int .i64 ((lo : Nat) : Int), .int .i64 ((hi : Nat) : Int)], some (27, 2, 1)) :: (b23, [.int .i64 fl, .int .i64 fh], some (27, 2, 1)) :: (b1, [.slice AM m cM, .slice (some ⟨bA, oA, none⟩) n cp], some (25, 2, 1)) :: (b2, [.int .i64 v, .int .i64 q1, .int .i64 q2, .int .i64 q3, .int .i64 q4, .int .i64 ((g0 : Nat) : Int), .int .i64 ((g1 : Nat) : Int)], some (29, 7, 1)) :: []) (fun _ => True) ?_ ?_
 · ((all_goals refine gqA700 ?_); (all_goals constructor); (any_goals exact trivial); all_goals intros)
   all_goals exact ⟨by trivial, (), trivial, by (repeat first | exact FrSub.nil | (apply FrSub.cons; exact rfl)), by (repeat' (first | exact HpSub.refl _))⟩
 rintro ⟨⟩ -
 refine t_cut (ι := Unit) (fun _ => [(2, .slice (some ⟨bC, oC, none⟩) nC cC), (3, .int .i64 ((jt : Nat) : Int)), (4, .bool bk), (5, .int .i64 ((k : Nat) : Int)), (6, .int .u8 y6), (7, .int .u8 y7), (8, .int .u8 y8), (9, .int .u8 y9), (10, .pointer (some ⟨b1, 0, none⟩)), (11, .pointer (some ⟨b2, 0, none⟩)), (21, .bool true), (22, .pointer (some ⟨b22, 0, none⟩)), (23, .pointer (some ⟨b23, 0, none⟩)), (25, .pointer (some ⟨b25, 0, none⟩)), (26, .int .i64 r), (31, (.func (.func 41) #[] #[])), (36, .int .i64 N), (38, .int .i64 Q)]) (fun _ => (b22, [.int .i64 ((lo : Nat) : Int), .int .i64 ((hi : Nat) : Int)], some (27, 2, 1)) :: (b23, [.int .i64 fl, .int .i64 fh], some (27, 2, 1)) :: (b1, [.slice AM m cM, .slice (some ⟨bA, oA, none⟩) n cp], some (25, 2, 1)) :: (b2, [.int .i64 v, .int .i64 q1, .int .i64 q2, .int .i64 q3, .int .i64 q4, .int .i64 ((g0 : Nat) : Int), .int .i64 ((g1 : Nat) : Int)], some (29, 7, 1)) :: []) (fun _ => True) ?_ ?_
 · ((all_goals refine gqA701 ?_); (all_goals constructor); (any_goals exact trivial); all_goals intros)
   all_goals exact ⟨by trivial, (), trivial, by (repeat first | exact FrSub.nil | (apply FrSub.cons; exact rfl)), by (repeat' (first | exact HpSub.refl _))⟩
 rintro ⟨⟩ -
 refine t_cut (ι := Unit) (fun _ => [(2, .slice (some ⟨bC, oC, none⟩) nC cC), (3, .int .i64 ((jt : Nat) : Int)), (4, .bool bk), (5, .int .i64 ((k : Nat) : Int)), (6, .int .u8 y6), (7, .int .u8 y7), (8, .int .u8 y8), (9, .int .u8 y9), (10, .pointer (some ⟨b1, 0, none⟩)), (11, .pointer (some ⟨b2, 0, none⟩)), (21, .bool true), (22, .pointer (some ⟨b22, 0, none⟩)), (23, .pointer (some ⟨b23, 0, none⟩)), (25, .pointer (some ⟨b25, 0, none⟩)), (26, .int .i64 r), (31, (.func (.func 41) #[] #[])), (36, .int .i64 N), (38, .int .i64 Q)]) (fun _ => (b22, [.int .i64 ((lo : Nat) : Int), .int .i64 ((hi : Nat) : Int)], some (27, 2, 1)) :: (b23, [.int .i64 fl, .int .i64 fh], some (27, 2, 1)) :: (b1, [.slice AM m cM, .slice (some ⟨bA, oA, none⟩) n cp], some (25, 2, 1)) :: (b2, [.int .i64 v, .int .i64 q1, .int .i64 q2, .int .i64 q3, .int .i64 q4, .int .i64 ((g0 : Nat) : Int), .int .i64 ((g1 : Nat) : Int)], some (29, 7, 1)) :: []) (fun _ => True) ?_ ?_
 · by_cases hk0 : 0 < k
   · have := hHi hk0
     ((all_goals refine gqA701 ?_); (all_goals constructor); (any_goals exact trivial); all_goals intros)
     all_goals exact ⟨by trivial, (), trivial, by (repeat first | exact FrSub.nil | (apply FrSub.cons; exact rfl)), by (repeat' (first | exact HpSub.refl _))⟩
   · ((all_goals refine gqA701 ?_); (all_goals constructor); (any_goals exact trivial); all_goals intros)
     all_goals exact ⟨by trivial, (), trivial, by (repeat first | exact FrSub.nil | (apply FrSub.cons; exact rfl)), by (repeat' (first | exact HpSub.refl _))⟩
 rintro ⟨⟩ -
 refine t_cut (ι := Unit) (fun _ => [(2, .slice (some ⟨bC, oC, none⟩) nC cC), (3, .int .i64 ((jt : Nat) : Int)), (4, .bool bk), (5, .int .i64 ((k : Nat) : Int)), (6, .int .u8 y6), (7, .int .u8 y7), (8, .int .u8 y8), (9, .int .u8 y9), (10, .pointer (some ⟨b1, 0, none⟩)), (11, .pointer (some ⟨b2, 0, none⟩)), (21, .bool true), (22, .pointer (some ⟨b22, 0, none⟩)), (23, .pointer (some ⟨b23, 0, none⟩)), (25, .pointer (some ⟨b25, 0, none⟩)), (26, .int .i64 r), (31, (.func (.func 41) #[] #[]))]) (fun _ => (b22, [.int .i64 ((lo : Nat) : Int), .int .i64 ((hi : Nat) : Int)], some (27, 2, 1)) :: (b23, [.int .i64 fl, .int .i64 fh], some (27, 2, 1)) :: (b1, [.slice AM m cM, .slice (some ⟨bA, oA, none⟩) n cp], some (25, 2, 1)) :: (b2, [.int .i64 v, .int .i64 q1, .int .i64 q2, .int .i64 q3, .int .i64 q4, .int .i64 ((g0 : Nat) : Int), .int .i64 ((g1 : Nat) : Int)], some (29, 7, 1)) :: []) (fun _ => True) ?_ ?_
 · ((all_goals refine gqA700 ?_); (all_goals constructor); (any_goals exact trivial); all_goals intros)
   all_goals exact ⟨by trivial, (), trivial, by (repeat first | exact FrSub.nil | (apply FrSub.cons; exact rfl)), by (repeat' (first | exact HpSub.refl _))⟩
 rintro ⟨⟩ -
 ((all_goals refine gqA701 ?_); (all_goals constructor); (any_goals exact trivial); all_goals intros)
 all_goals rfl
end Go.Proofs.YtcjkndjjbjoehaaGreat
namespace Go.Proofs.YtcjkndjjbjoehaaGreat
open Go.ChangeShapes Go.WideShapes Go.ChangeAt Go.RowKit
theorem Tryz.own : ownKnob Tryz.prog.godebug = none := by kernel_rfl
theorem Tryz.laidOut : laidOutB Tryz.prog = true := by kernel_rfl
section
variable {H : Type} {enc : TypeId × Value → H} {P : Program}
theorem trodAll_ext (hl : laidOutB P = true) {W W' : World} (hb : Ext W W') : ∀ {ts : List TypeId} {vs : List Value} {ds : List (DataW H)} {p : List MemPlace}, (ts.all fun t => P.readableRec t && decide (t < P.types.size)) = true →
   DataW.TrodAll enc P W 0 (fun _ => true) true ts vs ds p → (∀ x ∈ p, x.block < W.heap.size) → DataW.TrodAll enc P W' 0 (fun b => decide (b < W.heap.size)) true ts vs ds p
 | [], vs, ds, p, _, h, _ => by
   obtain ⟨rfl, rfl, rfl⟩ := trodAll_nil h
   exact trodAll_mk0
 | t :: ts, vs, ds, p, ht, h, hlt => by
   obtain ⟨v, vs', d, ds', p0, q0, rfl, rfl, rfl, h1, h2⟩ := trodAll_cons h
   simp only [List.all_cons, Bool.and_eq_true, decide_eq_true_eq] at ht
   exact ⟨p0, q0, Below.trod hl ht.1.1 ht.1.2 h1 hb (fun x hx => hlt x (List.mem_append_left _ hx)), trodAll_ext hl hb ht.2 h2 (fun x hx => hlt x (List.mem_append_right _ hx)), rfl⟩
end
end Go.Proofs.YtcjkndjjbjoehaaGreat
