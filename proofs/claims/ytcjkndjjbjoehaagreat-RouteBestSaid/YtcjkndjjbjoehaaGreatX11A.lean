/- A part of the proof: rules for walks, and contracts of functions (1). -/
import Derived.Test.YtcjkndjjbjoehaaGreatX8A
import Derived.Test.YtcjkndjjbjoehaaGreatX8B
import Derived.Test.YtcjkndjjbjoehaaGreatX8C
import Derived.Test.YtcjkndjjbjoehaaGreatX8D
import Derived.Test.YtcjkndjjbjoehaaGreatX8E
import Derived.Test.YtcjkndjjbjoehaaGreatX8F
import Derived.Test.YtcjkndjjbjoehaaGreatX8G
import Derived.Test.YtcjkndjjbjoehaaGreatX8H
import Derived.Test.YtcjkndjjbjoehaaGreatX8I
import Derived.Test.YtcjkndjjbjoehaaGreatX8J
import Derived.Test.YtcjkndjjbjoehaaGreatX8K
import Derived.Test.YtcjkndjjbjoehaaGreatX8L
import Derived.Test.YtcjkndjjbjoehaaGreatX8M
import Derived.Test.YtcjkndjjbjoehaaGreatX8N
import Derived.Test.YtcjkndjjbjoehaaGreatX8O
import Derived.Test.YtcjkndjjbjoehaaGreatX8P
import Derived.ProofKit
import Derived.Lib.SmallJoins
import Derived.RangeFuncNested
import Derived.RangeFuncCalls
import Derived.LoopIn
import Derived.RangeFuncLeaves
import Derived.RangeFuncRecord
import Derived.Maps.AppendAt
import Derived.IntWalk
import Derived.Orders
import Derived.Still
import Derived.WalkKit
import Derived.Lib.Hide
import Derived.OrdersIn
import Derived.TacticsIn
import Derived.Laws.MakeOwn
import Derived.Laws.StructEq
import Derived.Test.YtcjkndjjbjoehaaGreatChecked
import Derived.Carry
import Derived.MapKept
import Derived.Laws.IdiomCopy
import Derived.RangeFuncBound
import Derived.Shelf.Abstract
import Derived.Shelf.RegionOpen
import Derived.OwnWalkIn
import Derived.TacticsInMore
import Derived.LoopNIn
set_option linter.unusedVariables false
set_option linter.unusedSimpArgs false
set_option maxRecDepth 100000
set_option maxHeartbeats 2000000
namespace Go.Proofs.YtcjkndjjbjoehaaGreat
theorem gqA1102 {G A1 A2 A3 A4 A5 A6 A7 A8 A9 A10 A11 A12 A13 A14 A15 A16 : Prop} (p : GoP A1 A2 A3 A4 A5 A6 A7 A8 A9 A10 A11 A12 A13 A14 A15 A16) (h : GoL A1 → GoL A2 → GoL A3 → GoL A4 → GoL A5 → GoL A6 → GoL A7 → GoL A8 → GoL A9 → GoL A10 → GoL A11 → GoL A12 → GoL A13 → GoL A14 → GoL A15 → GoL A16 → GoM → G := by intro m1 m2 m3 m4 m5 m6 m7 m8 m9 m10 m11 m12 m13 m14 m15 m16 _; (repeat' (first | ((with_reducible apply oq_id); first | ((with_reducible apply oq_call (hc := Tryz.call44)); exact rfl; exact rfl; exact fun D w1 hw1 => HL w1 hw1.ext.ext) | ((with_reducible apply oq_call (hc := Tryz.call37)); exact rfl; exact rfl; exact fun D w1 hw1 => HP w1 hw1.ext.ext) | ((with_reducible apply ob_id); first | ((with_reducible apply oq_lssT); exact rfl; exact rfl; omega) | ((with_reducible apply oq_lssF); exact rfl; exact rfl; omega) | ((with_reducible apply oq_geqT); exact rfl; exact rfl; omega) | ((with_reducible apply oq_geqF); exact rfl; exact rfl; omega) | ((with_reducible apply oq_neqT); exact rfl; exact rfl; omega) | ((with_reducible apply oq_neqF); exact rfl; exact rfl; omega) | ((with_reducible apply oq_eqlT); exact rfl; exact rfl; omega) | ((with_reducible apply oq_eqlF); exact rfl; exact rfl; omega)) | (focus ((with_reducible apply oq_indexAddrN (i := i)); (iterate 4 exact rfl); omega)) | (focus ((with_reducible apply oq_indexAddrN (i := t)); (iterate 4 exact rfl); omega)) | ((with_reducible apply oq_load); exact rfl; exact rfl) | ((with_reducible apply oq_loadAgg); exact rfl; exact rfl) | ((with_reducible apply oq_build); (iterate 3 exact rfl)) | ((with_reducible apply oq_buildA); (iterate 4 exact rfl)) | ((with_reducible apply oq_fieldAgg); (iterate 3 exact rfl)) | ((with_reducible apply oq_indexAgg); (iterate 4 exact rfl)) | (apply oq_fn; exact rfl; first | exact trivial | (and_intros <;> omega) | omega | skip)) | ((with_reducible apply tl_id); first | (with_reducible apply tl_nil) | ((with_reducible apply u_q); (iterate 4 exact rfl)) | ((with_reducible apply u_s0); exact rfl; exact rfl) | ((with_reducible apply u_s); (iterate 3 exact rfl)) | ((with_reducible apply u_skip); (iterate 3 exact rfl)) | ((with_reducible apply u_splitD); exact rfl; exact rfl; all_goals first | (intro _; try (exfalso; omega)) | skip) | ((with_reducible apply u_splitN); exact rfl; exact rfl; all_goals first | (intro _; try (exfalso; omega)) | skip) | ((with_reducible apply u_split); exact rfl; exact rfl; all_goals first | intro _ | skip)) | ((with_reducible apply gx_id); first | (with_reducible apply v_nil) | ((with_reducible apply v_q); (iterate 3 exact rfl)) | ((with_reducible apply v_skip); (iterate 3 exact rfl)) | ((with_reducible apply v_splitD); exact rfl; exact rfl; all_goals first | (intro _; try (exfalso; omega)) | skip) | ((with_reducible apply v_splitN); exact rfl; exact rfl; all_goals first | (intro _; try (exfalso; omega)) | skip) | ((with_reducible apply v_split); exact rfl; exact rfl; all_goals first | intro _ | skip)) | ((with_reducible apply os_id); first | ((with_reducible apply os_x); exact rfl) | ((with_reducible apply os_store); (iterate 4 exact rfl)) | ((with_reducible apply os_storeAgg); (iterate 5 exact rfl))) | ((with_reducible apply ox_id); first | ((with_reducible apply ox_alloc); exact rfl; intro _) | ((with_reducible apply ox_box); exact rfl; exact rfl; intro _) | ((with_reducible apply ox_boxAgg); exact rfl; intro _) | ((with_reducible apply ox_buildSlice1); (iterate 6 exact rfl); intro _) | ((with_reducible apply ox_buildSlice2); (iterate 6 exact rfl); intro _) | ((with_reducible apply ox_buildSlice); (iterate 4 exact rfl))) | ((with_reducible apply rd_id); first | (apply Rd.own; (repeat first | exact P0 | apply P1); exact rfl; done) | (apply Rd.old; (first | (with_reducible assumption) | exact c0 | exact c1 | exact c2 | exact c3 | exact c4 | exact c5 | exact c6 | exact c7 | exact c8 | exact d0 | exact d1 | exact d2 | exact d3 | exact d4 | exact d5); first | exact List.not_mem_nil | exact m0 | exact m1 | exact m2 | exact m3 | exact m4 | exact m5 | exact m6 | exact m7 | exact m8 | exact m9)) | ((with_reducible apply t_id); first | (with_reducible apply t_seq) | (apply t_region; kernel_rfl) | (apply t_drawn; kernel_rfl; decide +kernel; try simp only [List.append_eq, List.cons_append, List.nil_append]) | ((with_reducible apply t_condT); exact rfl) | ((with_reducible apply t_condF); exact rfl) | ((with_reducible apply t_condD); exact rfl; all_goals first | (intro _; try (exfalso; omega)) | skip) | ((with_reducible apply t_condN); exact rfl; all_goals first | (intro _; try (exfalso; omega)) | skip) | ((with_reducible apply t_cond); exact rfl; all_goals first | intro _ | skip) | (with_reducible apply t_ret) | (with_reducible apply t_skip) | (with_reducible apply t_exit) | (with_reducible apply t_block)) | with_reducible apply q_thenN | with_reducible apply q_thenR | with_reducible apply q_blockR | with_reducible apply q_blockN | with_reducible apply q_thenE | ((with_reducible apply q_blockE); exact rfl) | ((with_reducible apply q_blockO); exact rfl) | exact P0 | (with_reducible apply P1) | exact Rdn.zero | apply Rdn.succ | ((with_reducible apply Norm.nil); exact rfl) | ((with_reducible apply Norm.cons); exact rfl) | (with_reducible apply end_ret) | (with_reducible apply end_normal) | exact rvs_nil | (with_reducible apply rvs_cons) | ((with_reducible apply rv_tmp); exact rfl) | ((with_reducible apply rv_cell); exact rfl; exact rfl) | ((with_reducible apply rv_cellAgg); exact rfl; exact rfl) | exact Nat.le_of_ble_eq_true rfl | exact (rfl : (_ : Bool) = true) | omega | (intro _ _; with_reducible apply tl_id) | (intro _; with_reducible apply tl_id) | (intro _ _; with_reducible apply al_id) | (intro _; with_reducible apply al_id))); (try focus (repeat (rename_i x; first | exact goD x m1.p | revert x))); (try focus (repeat (rename_i x; first | exact goD x m2.p | revert x))); (try focus (repeat (rename_i x; first | exact goD x m3.p | revert x))); (try focus (repeat (rename_i x; first | exact goD x m4.p | revert x))); (try focus (repeat (rename_i x; first | exact goD x m5.p | revert x))); (try focus (repeat (rename_i x; first | exact goD x m6.p | revert x))); (try focus (repeat (rename_i x; first | exact goD x m7.p | revert x))); (try focus (repeat (rename_i x; first | exact goD x m8.p | revert x))); (try focus (repeat (rename_i x; first | exact goD x m9.p | revert x))); (try focus (repeat (rename_i x; first | exact goD x m10.p | revert x))); (try focus (repeat (rename_i x; first | exact goD x m11.p | revert x))); (try focus (repeat (rename_i x; first | exact goD x m12.p | revert x))); (try focus (repeat (rename_i x; first | exact goD x m13.p | revert x))); (try focus (repeat (rename_i x; first | exact goD x m14.p | revert x))); (try focus (repeat (rename_i x; first | exact goD x m15.p | revert x))); (try focus (repeat (rename_i x; first | exact goD x m16.p | revert x)))) (e : GoTs A1 A2 A3 A4 A5 A6 A7 A8 A9 A10 A11 A12 A13 A14 A15 A16 := by constructor <;> first | (with_reducible exact GoT.t) | exact GoT.u) : G := p.run h
open Go.ChangeShapes Go.WideShapes Go.ChangeAt Go.RowKit
section
variable {H : Type} {enc : TypeId × Value → H} {P : Program} {W : World} {held : Bool}
theorem in_openO {x : List Value} (h : LfsOk [.int .i64] x) : ∃ y : Int, x = inCells y ∧ True := by
 obtain ⟨z0, u0, rfl, _, h⟩ := h.int
 obtain rfl := h.nil
 exact ⟨z0, rfl, trivial⟩
end
end Go.Proofs.YtcjkndjjbjoehaaGreat
namespace Go.Proofs.YtcjkndjjbjoehaaGreat
open Go.RowKit
attribute [local irreducible] OQ OS OX Rd T TL GX GL AL AI RV wpG SAny Calls
noncomputable def needR (m : Nat) (L : List Lg) (T : List Bool) (v q1 q2 q3 q4 : Int) (g0 g1 : Nat) (C : List Wn) (i : Int) : Int × Int :=
 if askE m L v q1 q2 q3 q4 g0 g1 C = 0 then (if 0 ≤ i ∧ i ≤ (m : Int) - 1 then (match routedF (arcs (legC v q1 q2 q3 g0 g1 C) L) (lfG (legC v q1 q2 q3 g0 g1 C) L m T) m i.toNat with
   | none => (0, 6)
   | some a => (a.1 + q4, 0)) else (0, 2)) else (0, askE m L v q1 q2 q3 q4 g0 g1 C)
end Go.Proofs.YtcjkndjjbjoehaaGreat
namespace Go.Proofs.YtcjkndjjbjoehaaGreat
open Go.RowKit
def fuS (L : List Lg) (cst : Lg → Bool → Int) : Option (Int × Int) → Int → Option (Int × Int)
 | none, _ => none
 | some x, r => if 0 ≤ r ∧ r < (L.length : Int) then (match L[r.toNat]? with
   | none => none
   | some z => if x.2 = z.a ∨ x.2 = z.b then (if 0 ≤ cst z (decide (x.2 = z.b)) then some (x.1 + cst z (decide (x.2 = z.b)), z.a + z.b - x.2) else none) else none) else none
def fuF (L : List Lg) (cst : Lg → Bool → Int) (a : Int) (rs : List Int) : Option (Int × Int) := rs.foldl (fuS L cst) (some (0, a))
theorem fuS_none (L : List Lg) (cst : Lg → Bool → Int) : ∀ rs : List Int, rs.foldl (fuS L cst) none = none
 | [] => rfl
 | _ :: rs => fuS_none L cst rs
theorem fuF_take {L : List Lg} {cst : Lg → Bool → Int} {a : Int} {rs : List Int} {k : Nat} {r : Int} (h : rs[k]? = some r) : fuF L cst a (rs.take (k + 1)) = fuS L cst (fuF L cst a (rs.take k)) r := by
 unfold fuF
 rw [List.take_add_one, h]
 simp
theorem fuF_cut {L : List Lg} {cst : Lg → Bool → Int} {a : Int} {rs : List Int} {k : Nat} (h : fuF L cst a (rs.take k) = none) : fuF L cst a rs = none := by
 unfold fuF at *
 conv => lhs; rw [← List.take_append_drop k rs]
 rw [List.foldl_append, h, fuS_none]
theorem fuS_bound {L : List Lg} {cst : Lg → Bool → Int} {B : Int} (hB : ∀ z ∈ L, ∀ bk, cst z bk ≤ B) (hB0 : 0 ≤ B) : ∀ (rs : List Int) (x y : Int × Int), 0 ≤ x.1 → rs.foldl (fuS L cst) (some x) = some y → 0 ≤ y.1 ∧ y.1 ≤ x.1 + rs.length * B
 | [], x, y, h0, h => by
   obtain rfl := Option.some.inj h
   exact ⟨h0, by simp⟩
 | r :: rs, x, y, h0, h => by
   rw [List.foldl_cons] at h
   cases hs : fuS L cst (some x) r with
   | none => rw [hs, fuS_none] at h; cases h
   | some x' =>
     rw [hs] at h
     simp only [fuS] at hs
     split at hs
     rotate_left
     · cases hs
     split at hs
     · cases hs
     rename_i z hz
     split at hs
     rotate_left
     · cases hs
     split at hs
     rotate_left
     · cases hs
     rename_i hc
     obtain rfl := Option.some.inj hs
     have := fuS_bound hB hB0 rs _ y (by simp only; omega) h
     have hb := hB z (List.mem_of_getElem? hz) (decide (x.2 = z.b))
     simp only at this
     refine ⟨this.1, ?_⟩
     have e : (((r :: rs).length : Nat) : Int) * B = (rs.length : Int) * B + B := by
       rw [List.length_cons, Int.natCast_add, Int.add_mul]; simp
     omega
section
variable {L : List Lg} {cst : Lg → Bool → Int} {m : Nat}
theorem arc_step (hL : ∀ z ∈ L, LegOk m z) {i t s : Nat} {c : Int} (h : (t, s, c) ∈ arcs cst L i) (a : Int) : fuS L cst (some (a, (i : Int))) (t : Int) = some (a + c, (s : Int)) := by
 obtain ⟨_, z, hz, h0, h⟩ := arcT_some (arcs_mem h)
 obtain ⟨z1, z2, z3, _⟩ := hL z (List.mem_of_getElem? hz)
 have ht := (List.getElem?_eq_some_iff.1 hz).1
 simp only at hz ht h0
 simp only [fuS]
 rw [if_pos (by omega), Int.toNat_natCast, hz]
 simp only
 rcases h with ⟨e, h⟩ | ⟨e, h⟩
 · obtain ⟨_, h⟩ := Prod.mk.inj h
   obtain ⟨rfl, rfl⟩ := Prod.mk.inj h
   rw [decide_eq_false (show ¬ ((i : Nat) : Int) = z.b by omega), if_pos (by omega), if_pos h0]
   refine congrArg some (Prod.ext rfl ?_)
   simp only; omega
 · obtain ⟨_, h⟩ := Prod.mk.inj h
   obtain ⟨rfl, rfl⟩ := Prod.mk.inj h
   rw [decide_eq_true (show ((i : Nat) : Int) = z.b by omega), if_pos (by omega), if_pos h0]
   refine congrArg some (Prod.ext rfl ?_)
   simp only; omega
theorem step_arc (hL : ∀ z ∈ L, LegOk m z) {i : Nat} {a : Int} {r : Int} {x : Int × Int} (h : fuS L cst (some (a, (i : Int))) r = some x) : ∃ (t s : Nat) (c : Int), r = (t : Int) ∧ x = (a + c, (s : Int)) ∧ s < m ∧ (t, s, c) ∈ arcs cst L i := by
 simp only [fuS] at h
 split at h
 rotate_left
 · cases h
 rename_i hr
 obtain ⟨t, rfl⟩ := Int.eq_ofNat_of_zero_le hr.1
 rw [Int.toNat_natCast] at h
 split at h
 · cases h
 rename_i z hz
 obtain ⟨z1, z2, z3, _⟩ := hL z (List.mem_of_getElem? hz)
 split at h
 rotate_left
 · cases h
 rename_i hab
 split at h
 rotate_left
 · cases h
 rename_i hc
 obtain rfl := Option.some.inj h
 have htl := (List.getElem?_eq_some_iff.1 hz).1
 rcases hab with e | e
 · rw [decide_eq_false (show ¬ ((i : Nat) : Int) = z.b by omega)] at hc ⊢
   refine ⟨t, z.b.toNat, _, rfl, Prod.ext rfl (by simp only; omega), by omega, ?_⟩
   refine List.mem_filterMap.2 ⟨t, List.mem_range.2 htl, ?_⟩
   unfold arcT arcOf
   rw [hz]
   simp only [Option.bind_some]
   rw [if_pos e.symm, if_pos hc]
 · rw [decide_eq_true e] at hc ⊢
   refine ⟨t, z.a.toNat, _, rfl, Prod.ext rfl (by simp only; omega), by omega, ?_⟩
   refine List.mem_filterMap.2 ⟨t, List.mem_range.2 htl, ?_⟩
   unfold arcT arcOf
   rw [hz]
   simp only [Option.bind_some]
   rw [if_neg (by omega), if_pos e.symm, if_pos hc]
theorem fu_rte (hL : ∀ z ∈ L, LegOk m z) {i j : Nat} {r : List Nat} {c : Int} (h : Rte (arcs cst L) i r j c) : ∀ a : Int, (cI r).foldl (fuS L cst) (some (a, (i : Int))) = some (a + c, (j : Int)) := by
 induction h with
 | nil i => intro a; show some (a, (i : Int)) = _; rw [Int.add_zero]
 | cons h k ih =>
   intro a
   simp only [cI, List.map_cons, List.foldl_cons]
   rw [arc_step hL h a]
   refine (ih _).trans ?_
   rw [Int.add_assoc]
theorem rte_fu (hL : ∀ z ∈ L, LegOk m z) : ∀ {rs : List Int} {i : Nat} {a : Int} {x : Int × Int}, rs.foldl (fuS L cst) (some (a, (i : Int))) = some x → ∃ (r : List Nat) (j : Nat) (c : Int), rs = cI r ∧ x = (a + c, (j : Int)) ∧ Rte (arcs cst L) i r j c
 | [], i, a, x, h => ⟨[], i, 0, rfl, by rw [Int.add_zero]; exact (Option.some.inj h).symm, .nil i⟩
 | r :: rs, i, a, x, h => by
   rw [List.foldl_cons] at h
   cases hs : fuS L cst (some (a, (i : Int))) r with
   | none => rw [hs, fuS_none] at h; cases h
   | some y =>
     rw [hs] at h
     obtain ⟨t, s, c, rfl, rfl, _, hm⟩ := step_arc hL hs
     obtain ⟨l, j, d, rfl, rfl, hR⟩ := rte_fu hL h
     exact ⟨t :: l, j, c + d, rfl, by rw [Int.add_assoc], .cons hm hR⟩
theorem fuF_rte (hL : ∀ z ∈ L, LegOk m z) {i j : Nat} {r : List Nat} {c : Int} (h : Rte (arcs cst L) i r j c) : fuF L cst (i : Int) (cI r) = some (c, (j : Int)) := by
 have := fu_rte hL h 0
 rw [Int.zero_add] at this
 exact this
theorem rte_fuF (hL : ∀ z ∈ L, LegOk m z) {rs : List Int} {i : Nat} {x : Int × Int} (h : fuF L cst (i : Int) rs = some x) : ∃ (r : List Nat) (j : Nat), rs = cI r ∧ x.2 = (j : Int) ∧ Rte (arcs cst L) i r j x.1 := by
 obtain ⟨r, j, c, h1, rfl, h3⟩ := rte_fu hL h
 exact ⟨r, j, h1, rfl, by simpa using h3⟩
theorem fuF_bad (h : ∀ z ∈ L, ∀ bk, cst z bk < 0) {a : Int} {rs : List Int} (hne : rs ≠ []) : fuF L cst a rs = none := by
 cases rs with
 | nil => exact absurd rfl hne
 | cons r rs =>
   unfold fuF
   rw [List.foldl_cons]
   have : fuS L cst (some (0, a)) r = none := by
     simp only [fuS]
     split
     · split
       · rfl
       · rename_i z hz
         have := h z (List.mem_of_getElem? hz) (decide (a = z.b))
         split
         · rw [if_neg (by omega)]
         · rfl
     · rfl
   rw [this, fuS_none]
/-! Along a trip -/
end
end Go.Proofs.YtcjkndjjbjoehaaGreat
namespace Go.Proofs.YtcjkndjjbjoehaaGreat
open Go.RowKit
attribute [local irreducible] OQ OS OX Rd T TL GX GL AL AI RV wpG SAny Calls
theorem need23_no (AM A : Option Addr) (m cM n cp : Nat) (L : List Lg) (w : World) (hr : RdS w 5 A n (L.map lgCells)) (hn : n ≤ 1000000) (hm : m ≤ 1000000) (v q1 q2 q3 q4 g0 g1 : Int) (AC : Option Addr) (nC cC : Nat) (C : List Wn) (hrc : CastR w AC nC C) (hs : ∀ z ∈ C, z.n ≤ 1000000) (hE : askE m L v q1 q2 q3 q4 g0 g1 C ≠ 0) (i : Int) : Calls Tryz.prog 23 #[.agg #[.slice AM m cM, .slice A n cp], .agg #[.int .i64 v, .int .i64 q1, .int .i64 q2, .int .i64 q3, .int .i64 q4, .int .i64 g0, .int .i64 g1], .slice AC nC cC, .int .i64 i] w fun e w' => e = .returned (.tuple #[.int .i64 0, .int .i64 (askE m L v q1 q2 q3 q4 g0 g1 C)]) ∧ Ext w w' := by
 have HN := fun w1 (hx : Ext w w1) => open_no AM A m cM n cp L w1 (hr.ext hx) hn hm v q1 q2 q3 q4 g0 g1 AC nC cC C (hrc.ext hx) hs hE
 generalize askE m L v q1 q2 q3 q4 g0 g1 C = e at *
 refine enterQ (c := cx w 43) Tryz.func23 rfl rfl rfl rfl ?_
 ((all_goals refine goT0d ?_); (all_goals constructor); (any_goals exact trivial); all_goals intros)
 all_goals rfl
theorem need23_calls (AM A : Option Addr) (m cM n cp : Nat) (L : List Lg) (T : List Bool) (w : World) (hT : RdS w 1 AM m (T.map blCells)) (hr : RdS w 5 A n (L.map lgCells)) (hn : n ≤ 1000000) (hm : m ≤ 1000000) (v q1 q2 q3 q4 : Int) (g0 g1 : Nat) (AC : Option Addr) (nC cC : Nat) (C : List Wn) (hrc : CastR w AC nC C) (hs : ∀ z ∈ C, z.n ≤ 1000000) (i : Int) : Calls Tryz.prog 23 #[.agg #[.slice AM m cM, .slice A n cp], .agg #[.int .i64 v, .int .i64 q1, .int .i64 q2, .int .i64 q3, .int .i64 q4, .int .i64 (g0 : Nat), .int .i64 (g1 : Nat)], .slice AC nC cC, .int .i64 i] w fun e w' => e = .returned (.tuple #[.int .i64 (needR m L T v q1 q2 q3 q4 g0 g1 C i).1, .int .i64 (needR m L T v q1 q2 q3 q4 g0 g1 C i).2]) ∧ Ext w w' := by
 have hl : L.length = n := by simpa using hr.len
 unfold needR
 by_cases hE : askE m L v q1 q2 q3 q4 g0 g1 C = 0
 rotate_left
 · rw [if_neg hE]
   exact need23_no AM A m cM n cp L w hr hn hm v q1 q2 q3 q4 g0 g1 AC nC cC C hrc hs hE i
 rw [if_pos hE]
 have HO := fun w1 (hx : Ext w w1) => open_ok AM A m cM n cp L w1 (hr.ext hx) hn hm v q1 q2 q3 q4 g0 g1 AC nC cC C (hrc.ext hx) hs hE
 obtain ⟨hch, hpk, hk0⟩ := askE_ok hE
 obtain ⟨hcl, hcw⟩ := castE_zero.1 hk0
 have hlc := hrc.len
 clear hE
 obtain ⟨hm1, hL40, hLk⟩ := chartB_iff.1 hch
 by_cases hi : 0 ≤ i ∧ i ≤ (m : Int) - 1
 rotate_left
 · rw [if_neg hi]
   refine enterQ (c := cx w 43) Tryz.func23 rfl rfl rfl rfl ?_
   ((all_goals refine goT0d ?_); (all_goals constructor); (any_goals exact trivial); all_goals intros)
   all_goals rfl
 rw [if_pos hi]
 obtain ⟨i, rfl⟩ := Int.eq_ofNat_of_zero_le hi.1
 rw [Int.toNat_natCast]
 have HB : (plansF (arcs (legC v q1 q2 q3 g0 g1 C) L) m (fun s => T.getD s false) m).getD i none = routedF (arcs (legC v q1 q2 q3 g0 g1 C) L) (lfG (legC v q1 q2 q3 g0 g1 C) L m T) m i := best_same (arcs_net hLk) (arcs_sorted _ _) (by omega)
 have HP := fun bd bM E w1 (hx : Ext w w1) hd hE2 => alternates_calls bd bM AM A m cM n cp L v q1 q2 q3 q4 g0 g1 E C w1 hd hE2 (hr.ext hx) (by omega) (by omega) hLk hpk hcw (by omega) T (hT.ext hx)
 have hbd := fun a (h : (plansF (arcs (legC v q1 q2 q3 g0 g1 C) L) m (fun s => T.getD s false) m).getD i none = some a) => need_bound hpk hcw hLk (by omega) h
 obtain ⟨rp, hrp⟩ : ∃ p, routedF (arcs (legC v q1 q2 q3 g0 g1 C) L) (lfG (legC v q1 q2 q3 g0 g1 C) L m T) m i = p := ⟨_, rfl⟩
 rw [hrp] at HB ⊢
 rw [HB] at hbd
 clear hrp
 obtain ⟨_, _, _, _, p5, _⟩ := id hpk
 rcases rp with _ | a
 · simp only
   refine enterQ (c := cx w 43) Tryz.func23 rfl rfl rfl rfl ?_
   ((all_goals refine goT0d ?_); (all_goals constructor); (any_goals exact trivial); all_goals intros)
   all_goals rfl
 · obtain ⟨ha0, ha1, _⟩ := hbd a rfl
   simp only
   refine enterQ (c := cx w 43) Tryz.func23 rfl rfl rfl rfl ?_
   ((all_goals refine goT0d ?_); (all_goals constructor); (any_goals exact trivial); all_goals intros)
   all_goals rfl
end Go.Proofs.YtcjkndjjbjoehaaGreat
namespace Go.Proofs.YtcjkndjjbjoehaaGreat
open Go.RowKit
theorem askE_bad {m : Nat} {L : List Lg} {v q1 q2 q3 q4 g0 g1 : Int} {C : List Wn} (h : askE m L v q1 q2 q3 q4 g0 g1 C ≠ 0) : askE m L v q1 q2 q3 q4 g0 g1 C ∈ [61, 62, 4, 22] := by
 have key : askE m L v q1 q2 q3 q4 g0 g1 C = 61 ∨ askE m L v q1 q2 q3 q4 g0 g1 C = 62 ∨ askE m L v q1 q2 q3 q4 g0 g1 C = 4 ∨ askE m L v q1 q2 q3 q4 g0 g1 C = 22 ∨ askE m L v q1 q2 q3 q4 g0 g1 C = 0 := by
   unfold askE castE
   (repeat' split) <;> simp
 rcases key with e | e | e | e | e <;> rw [e] <;> first | decide | exact absurd e h
end Go.Proofs.YtcjkndjjbjoehaaGreat
namespace Go.Proofs.YtcjkndjjbjoehaaGreat
open Go.RowKit
attribute [local irreducible] OQ OS OX Rd T TL GX GL AL AI RV wpG SAny Calls
abbrev Rz := List Nat × Option (Nat × Nat)
def rzV (r : Rz) : Value := sN r.1 r.2
noncomputable def kst (m : Nat) (L : List Lg) (v q1 q2 q3 q4 g0 g1 : Int) (C : List Wn) (z : Lg) (bk : Bool) : Int := if askE m L v q1 q2 q3 q4 g0 g1 C = 0 then legC v q1 q2 q3 g0.toNat g1.toNat C z bk else -1
def fuO : Option (Int × Int) → Value
 | none => .tuple #[.int .i64 0, .int .i64 0, .bool false]
 | some x => .tuple #[.int .i64 x.1, .int .i64 x.2, .bool true]
theorem kst_le {m : Nat} {L : List Lg} {v q1 q2 q3 q4 g0 g1 : Int} {C : List Wn} : ∀ z ∈ L, ∀ bk, (kst m L v q1 q2 q3 q4 g0 g1 C) z bk ≤ 166666666667 := by
 intro z hz bk
 unfold kst
 split
 · rename_i hE
   obtain ⟨h1, h2, h3⟩ := askE_all hE
   obtain ⟨_, h5⟩ := castE_zero.1 h3
   obtain ⟨_, _, _, _, _, kg⟩ := id h2
   obtain ⟨a, rfl⟩ := Int.eq_ofNat_of_zero_le kg.1
   obtain ⟨b, rfl⟩ := Int.eq_ofNat_of_zero_le (show 0 ≤ g1 by omega)
   have hz2 := (chartB_iff.1 h1).2.2 z hz
   have hlb := lenV_bound hz2.2.2.2.1 hz2.2.2.2.2.1
   unfold legC
   split
   · omega
   · have hb := hullT_bound (m := (lenV z.x z.y).toNat) (by omega) _ (legRz_in (bk := bk) hz2 h2 h5)
     have := (a_bound (a := (hullT (lenV z.x z.y).toNat (legRz v q1 q2 q3 z bk C)).1) (b := (hullT (lenV z.x z.y).toNat (legRz v q1 q2 q3 z bk C)).2) (c := a) (d := b) hb.1 (by omega) (by omega) (by omega) 8).2
     rw [Int.toNat_natCast, Int.toNat_natCast]
     omega
 · omega
theorem leg_pt {m : Nat} {L : List Lg} {v q1 q2 q3 q4 g0 g1 : Int} {C : List Wn} {t : Nat} {z : Lg} (hz : L[t]? = some z) (bk : Bool) : ∃ P : Pt, partR m L v q1 q2 q3 q4 g0 g1 C (t : Nat) bk (lenV z.x z.y) = ptV P ∧ ((kst m L v q1 q2 q3 q4 g0 g1 C) z bk < 0 → P.2.2 ≠ 0) ∧ (0 ≤ (kst m L v q1 q2 q3 q4 g0 g1 C) z bk → P.2.2 = 0 ∧ P.2.1.2 = (kst m L v q1 q2 q3 q4 g0 g1 C) z bk) := by
 obtain ⟨P, h1, h2⟩ := partR_is m L v q1 q2 q3 q4 g0 g1 C (t : Nat) bk (lenV z.x z.y)
 refine ⟨P, h1, ?_⟩
 unfold kst
 by_cases hE : askE m L v q1 q2 q3 q4 g0 g1 C = 0
 rotate_left
 · rw [if_neg hE]
   refine ⟨fun _ => ?_, fun h => absurd h (by decide)⟩
   rcases h2.inv with ⟨h, _⟩ | ⟨_, _, hk, _⟩
   · exact h
   · exact absurd hk.1 hE
 rw [if_pos hE]
 obtain ⟨c1, c2, c3⟩ := askE_all hE
 have hz2 := (chartB_iff.1 c1).2.2 z (List.mem_of_getElem? hz)
 have hlb := lenV_bound hz2.2.2.2.1 hz2.2.2.2.2.1
 obtain ⟨ln, hln⟩ := Int.eq_ofNat_of_zero_le hlb.1
 by_cases hR : legRz v q1 q2 q3 z bk C = []
 · have e : legC v q1 q2 q3 g0.toNat g1.toNat C z bk = -1 := by unfold legC; rw [if_pos hR]
   rw [e]
   refine ⟨fun _ => ?_, fun h => absurd h (by decide)⟩
   rcases h2.inv with ⟨h, _⟩ | ⟨z', _, hk, _⟩
   · exact h
   · obtain ⟨_, _, k3, _, _, k6⟩ := hk
     rw [Int.toNat_natCast, hz] at k3
     obtain rfl := Option.some.inj k3
     exact absurd hR k6
 · have hk : PtOk m L v q1 q2 q3 q4 g0 g1 C (t : Nat) bk (lenV z.x z.y) z ln := ⟨hE, by omega, by rw [Int.toNat_natCast]; exact hz, hln, by omega, hR⟩
   obtain ⟨_, ⟨_, _, _, _, _, p6⟩, _, _, k5, k6⟩ := hk.facts
   have hb := hullT_bound k5 _ k6
   have e : legC v q1 q2 q3 g0.toNat g1.toNat C z bk = ((qc ((hullT ln (legRz v q1 q2 q3 z bk C)).2 * g1.toNat) : Nat) : Int) := by
     unfold legC
     rw [if_neg hR, hln, Int.toNat_natCast, aH_eq hb.1 (by omega)]
   rw [h2.det hk, e]
   exact ⟨fun h => absurd h (by omega), fun _ => ⟨rfl, rfl⟩⟩
theorem fuels_calls (AM A : Option Addr) (m cM n cp : Nat) (L : List Lg) (w : World) (hr : RdS w 5 A n (L.map lgCells)) (hn : n ≤ 1000000) (hm : m ≤ 1000000) (v q1 q2 q3 q4 g0 g1 : Int) (AC : Option Addr) (nC cC : Nat) (C : List Wn) (hrc : CastR w AC nC C) (hs : ∀ z ∈ C, z.n ≤ 1000000) (s : Int) (AR : Option Addr) (nR cR : Nat) (hnR : nR ≤ 1000000) (rs : List Int) (hR : RdS w 1 AR nR (rs.map inCells)) : Calls Tryz.prog 48 #[.agg #[.slice AM m cM, .slice A n cp], .agg #[.int .i64 v, .int .i64 q1, .int .i64 q2, .int .i64 q3, .int .i64 q4, .int .i64 g0, .int .i64 g1], .slice AC nC cC, .int .i64 s, .slice AR nR cR] w fun e w' => e = .returned (fuO (fuF L (kst m L v q1 q2 q3 q4 g0 g1 C) s rs)) ∧ Ext w w' := by
 have hln : L.length = n := by simpa using hr.len
 have hlr : rs.length = nR := by simpa using hR.len
 refine enterQ (c := cx w 94) Tryz.func48 rfl rfl rfl rfl ?_
 repeat' (first
   | ((with_reducible apply oq_id); first | (apply oq_fn; exact rfl; first | exact trivial | (and_intros <;> omega) | omega | skip) | ((with_reducible apply oq_load); exact rfl; exact rfl) | ((with_reducible apply oq_loadAgg); exact rfl; exact rfl) | ((with_reducible apply oq_build); (iterate 3 exact rfl)) | ((with_reducible apply oq_buildA); (iterate 4 exact rfl)) | ((with_reducible apply oq_fieldAgg); (iterate 3 exact rfl)) | ((with_reducible apply oq_indexAgg); (iterate 4 exact rfl)))
   | ((with_reducible apply tl_id); first | (with_reducible apply tl_nil) | ((with_reducible apply u_q); (iterate 4 exact rfl)) | ((with_reducible apply u_s0); exact rfl; exact rfl) | ((with_reducible apply u_s); (iterate 3 exact rfl)) | ((with_reducible apply u_skip); (iterate 3 exact rfl)) | ((with_reducible apply u_splitD); exact rfl; exact rfl; all_goals first | (intro hp; try (exfalso; omega)) | skip) | ((with_reducible apply u_splitN); exact rfl; exact rfl; all_goals first | (intro hp; try (exfalso; omega)) | skip) | ((with_reducible apply u_split); exact rfl; exact rfl; all_goals first | intro hp | skip))
   | ((with_reducible apply gx_id); first | (with_reducible apply v_nil) | ((with_reducible apply v_q); (iterate 3 exact rfl)) | ((with_reducible apply v_skip); (iterate 3 exact rfl)) | ((with_reducible apply v_splitD); exact rfl; exact rfl; all_goals first | (intro hp; try (exfalso; omega)) | skip) | ((with_reducible apply v_splitN); exact rfl; exact rfl; all_goals first | (intro hp; try (exfalso; omega)) | skip) | ((with_reducible apply v_split); exact rfl; exact rfl; all_goals first | intro hp | skip))
   | ((with_reducible apply os_id); first | ((with_reducible apply os_x); exact rfl) | ((with_reducible apply os_store); (iterate 4 exact rfl)) | ((with_reducible apply os_storeAgg); (iterate 5 exact rfl)))
   | ((with_reducible apply ox_id); first | ((with_reducible apply ox_alloc); exact rfl; intro _) | ((with_reducible apply ox_box); exact rfl; exact rfl; intro _) | ((with_reducible apply ox_boxAgg); exact rfl; intro _) | ((with_reducible apply ox_buildSlice1); (iterate 6 exact rfl); intro _) | ((with_reducible apply ox_buildSlice2); (iterate 6 exact rfl); intro _) | ((with_reducible apply ox_buildSlice); (iterate 4 exact rfl)))
   | ((with_reducible apply rd_id); first | (apply Rd.own; (repeat first | exact P0 | apply P1); exact rfl; done) | (apply Rd.old; (first | (with_reducible assumption) | exact c0 | exact c1 | exact c2 | exact c3 | exact c4 | exact c5 | exact c6 | exact c7 | exact c8 | exact d0 | exact d1 | exact d2 | exact d3 | exact d4 | exact d5); first | exact List.not_mem_nil | exact m0 | exact m1 | exact m2 | exact m3 | exact m4 | exact m5 | exact m6 | exact m7 | exact m8 | exact m9))
   | ((with_reducible apply t_id); first | (with_reducible apply t_seq) | (apply t_region; kernel_rfl) | (apply t_drawn; kernel_rfl; decide +kernel; try simp only [List.append_eq, List.cons_append, List.nil_append]) | ((with_reducible apply t_condT); exact rfl) | ((with_reducible apply t_condF); exact rfl) | ((with_reducible apply t_condD); exact rfl; all_goals first | (intro hp; try (exfalso; omega)) | skip) | ((with_reducible apply t_condN); exact rfl; all_goals first | (intro hp; try (exfalso; omega)) | skip) | ((with_reducible apply t_cond); exact rfl; all_goals first | intro hp | skip) | (with_reducible apply t_ret) | (with_reducible apply t_skip) | (with_reducible apply t_exit) | (with_reducible apply t_block))
   | with_reducible apply q_thenN
   | with_reducible apply q_thenR
   | with_reducible apply q_blockR
   | with_reducible apply q_blockN
   | with_reducible apply q_thenE
   | ((with_reducible apply q_blockE); exact rfl)
   | ((with_reducible apply q_blockO); exact rfl)
   | exact P0
   | (with_reducible apply P1)
   | exact Rdn.zero
   | apply Rdn.succ
   | ((with_reducible apply Norm.nil); exact rfl)
   | ((with_reducible apply Norm.cons); exact rfl)
   | (with_reducible apply end_ret)
   | (with_reducible apply end_normal)
   | exact rvs_nil
   | (with_reducible apply rvs_cons)
   | ((with_reducible apply rv_tmp); exact rfl)
   | ((with_reducible apply rv_cell); exact rfl; exact rfl)
   | ((with_reducible apply rv_cellAgg); exact rfl; exact rfl)
   | exact Nat.le_of_ble_eq_true rfl
   | exact (rfl : (_ : Bool) = true)
   | omega
   | (intro _ _; with_reducible apply tl_id)
   | (intro _; with_reducible apply tl_id)
   | (intro _ _; with_reducible apply al_id)
   | (intro _; with_reducible apply al_id))
 rename_i b5 b6
 apply t_loopP (ι := Nat × Int × Int) [2, 5, 6, 24, 25] (fun z => [(26, .int .i64 ((z.1 : Nat) : Int)), (13, .int .i64 z.2.1), (14, .int .i64 z.2.2)]) (fun _ => (b5, [.slice AM m cM, .slice A n cp], some (25, 2, 1)) :: (b6, [.int .i64 v, .int .i64 q1, .int .i64 q2, .int .i64 q3, .int .i64 q4, .int .i64 g0, .int .i64 g1], some (29, 7, 1)) :: []) (fun z => z.1 ≤ rs.length ∧ fuF L (kst m L v q1 q2 q3 q4 g0 g1 C) s (rs.take z.1) = some z.2 ∧ 0 ≤ z.2.1 ∧ z.2.1 ≤ z.1 * 166666666667) (fun z => rs.length - z.1) (0, 0, s)
 (repeat (first | exact KeepF.nil | (apply KeepF.cons; exact rfl) | apply KeepF.skip))
 (repeat first | exact FrSub.nil | (apply FrSub.cons; exact rfl))
 (try simp only [List.cons_append, List.nil_append])
 (repeat' (first | exact FrSub.nil | (apply FrSub.cons; exact rfl) | (apply FrSub.consE; exact rfl; first | rfl | skip) | exact HpSub.refl _ | (apply HpSub.consE; (repeat first | exact P0 | apply P1); first | exact rfl | skip) | apply HpSub.skipX | exact HpSub.nil))
 · exact ⟨Nat.zero_le _, rfl, Int.le_refl _, by simp⟩
 rintro ⟨i, sm, a⟩ ⟨hi, hf, hs0, hs1⟩
 simp only at hi hf hs0 hs1
 try simp only [List.cons_append, List.nil_append]
 by_cases hlt : i < rs.length
 rotate_left
 · obtain rfl : i = rs.length := by omega
   rw [List.take_length] at hf
   rw [hf]
   ((all_goals refine gqA1102 ?_); (all_goals constructor); (any_goals exact trivial); all_goals intros)
   all_goals rfl
 obtain ⟨r, hri⟩ : ∃ r, rs[i]? = some r := ⟨_, List.getElem?_eq_getElem hlt⟩
 have hnx := fuF_take (L := L) (cst := (kst m L v q1 q2 q3 q4 g0 g1 C)) (a := s) hri
 rw [hf] at hnx
 obtain ⟨bR, oR, r', rfl, _, hri', c9⟩ := in_read hR (show i < nR by omega)
 rw [hri] at hri'
 obtain rfl := Option.some.inj hri'
 by_cases hrn : 0 ≤ r ∧ r < (L.length : Int)
 rotate_left
 · simp only [fuS] at hnx
   rw [if_neg hrn] at hnx
   rw [fuF_cut hnx]
   by_cases h0 : r < 0
   · ((all_goals refine gqA1102 ?_); (all_goals constructor); (any_goals exact trivial); all_goals intros)
     all_goals rfl
   · ((all_goals refine gqA1102 ?_); (all_goals constructor); (any_goals exact trivial); all_goals intros)
     all_goals rfl
 obtain ⟨t, rfl⟩ := Int.eq_ofNat_of_zero_le hrn.1
 obtain ⟨z, hz⟩ : ∃ z, L[t]? = some z := ⟨_, List.getElem?_eq_getElem (by omega)⟩
 simp only [fuS] at hnx
 rw [if_pos hrn, Int.toNat_natCast, hz] at hnx
 simp only at hnx
 obtain ⟨bA, oA, z', rfl, _, hz', c0, c1, c2, c3, c4⟩ := lg_read hr (show t < n by omega)
 rw [hz] at hz'
 obtain rfl := Option.some.inj hz'
 by_cases hab : a = z.a ∨ a = z.b
 rotate_left
 · rw [if_neg hab] at hnx
   rw [fuF_cut hnx]
   ((all_goals refine gqA1102 ?_); (all_goals constructor); (any_goals exact trivial); all_goals intros)
   all_goals rfl
 rw [if_pos hab] at hnx
 have HL := fun w1 (hx : Ext w w1) => routeLength_calls AM (some ⟨bA, oA, none⟩) m cM n cp L w1 (hr.ext hx) hn hm ((t : Nat) : Int)
 cases hch : chartB m L with
 | false =>
   rw [lengthR_bad hch] at HL
   have hkn : (kst m L v q1 q2 q3 q4 g0 g1 C) z (decide (a = z.b)) = -1 := by
     unfold kst
     rw [if_neg]
     unfold askE
     rw [hch]
     simp
   rw [hkn, if_neg (by decide)] at hnx
   rw [fuF_cut hnx]
   obtain ⟨P, hPe, _⟩ := partR_is m L v q1 q2 q3 q4 g0 g1 C (t : Nat) (decide (a = z.b)) 0
   have HP := fun w1 (hx : Ext w w1) => part16_calls AM (some ⟨bA, oA, none⟩) m cM n cp L w1 (hr.ext hx) hn hm v q1 q2 q3 q4 g0 g1 AC nC cC C (hrc.ext hx) hs (t : Nat) (decide (a = z.b)) 0
   rw [hPe] at HP
   obtain ⟨⟨p1, p2⟩, ⟨p3, p4⟩, pe⟩ := P
   simp only [ptV] at HP
   by_cases hb : a = z.b
   · rw [decide_eq_true hb] at HP
     ((all_goals refine gqA1102 ?_); (all_goals constructor); (any_goals exact trivial); all_goals intros)
     all_goals rfl
   · rw [decide_eq_false hb] at HP
     ((all_goals refine gqA1102 ?_); (all_goals constructor); (any_goals exact trivial); all_goals intros)
     all_goals rfl
 | true =>
   rw [lengthR_in hch hz] at HL
   obtain ⟨za, zb, zab, kx, ky, kz, kh⟩ := (chartB_iff.1 hch).2.2 z (List.mem_of_getElem? hz)
   have lb := lenV_bound kx ky
   obtain ⟨P, hPe, hc1, hc2⟩ := leg_pt (m := m) (v := v) (q1 := q1) (q2 := q2) (q3 := q3) (q4 := q4) (g0 := g0) (g1 := g1) (C := C) hz (decide (a = z.b))
   have HP := fun w1 (hx : Ext w w1) => part16_calls AM (some ⟨bA, oA, none⟩) m cM n cp L w1 (hr.ext hx) hn hm v q1 q2 q3 q4 g0 g1 AC nC cC C (hrc.ext hx) hs (t : Nat) (decide (a = z.b)) (lenV z.x z.y)
   rw [hPe] at HP
   have hkb := kst_le (v := v) (q1 := q1) (q2 := q2) (q3 := q3) (q4 := q4) (g0 := g0) (g1 := g1) (C := C) (m := m) z (List.mem_of_getElem? hz) (decide (a = z.b))
   generalize (kst m L v q1 q2 q3 q4 g0 g1 C) z (decide (a = z.b)) = c at hc1 hc2 hnx hkb
   generalize lenV z.x z.y = ln at HL HP lb
   obtain ⟨⟨p1, p2⟩, ⟨p3, p4⟩, pe⟩ := P
   simp only [ptV] at HP hc1 hc2
   by_cases hc : 0 ≤ c
   · obtain ⟨rfl, rfl⟩ := hc2 hc
     rw [if_pos hc] at hnx
     by_cases hb : a = z.b
     · rw [decide_eq_true hb] at HP
       ((all_goals refine gqA1102 ?_); (all_goals constructor); (any_goals exact trivial); all_goals intros)
       all_goals (refine ⟨(i + 1, sm + p4, z.a + z.b - a), ⟨by simp only; omega, hnx, by simp only; omega, by simp only; omega⟩, by simp only; omega, ?_, ?_⟩ <;> (repeat' (first | exact FrSub.nil | (apply FrSub.cons; exact rfl) | (apply FrSub.consE; exact rfl; first | rfl | skip) | exact HpSub.refl _ | (apply HpSub.consE; (repeat first | exact P0 | apply P1); first | exact rfl | skip) | apply HpSub.skipX | exact HpSub.nil)))
     · rw [decide_eq_false hb] at HP
       ((all_goals refine gqA1102 ?_); (all_goals constructor); (any_goals exact trivial); all_goals intros)
       all_goals (refine ⟨(i + 1, sm + p4, z.a + z.b - a), ⟨by simp only; omega, hnx, by simp only; omega, by simp only; omega⟩, by simp only; omega, ?_, ?_⟩ <;> (repeat' (first | exact FrSub.nil | (apply FrSub.cons; exact rfl) | (apply FrSub.consE; exact rfl; first | rfl | skip) | exact HpSub.refl _ | (apply HpSub.consE; (repeat first | exact P0 | apply P1); first | exact rfl | skip) | apply HpSub.skipX | exact HpSub.nil)))
   · have hpe := hc1 (by omega)
     rw [if_neg hc] at hnx
     rw [fuF_cut hnx]
     by_cases hb : a = z.b
     · rw [decide_eq_true hb] at HP
       ((all_goals refine gqA1102 ?_); (all_goals constructor); (any_goals exact trivial); all_goals intros)
       all_goals rfl
     · rw [decide_eq_false hb] at HP
       ((all_goals refine gqA1102 ?_); (all_goals constructor); (any_goals exact trivial); all_goals intros)
       all_goals rfl
end Go.Proofs.YtcjkndjjbjoehaaGreat
namespace Go.Proofs.YtcjkndjjbjoehaaGreat
open Go.RowKit
theorem lexLe_at : ∀ {l m : List Nat}, lexLe l m = true → ∀ (k x y : Nat), (∀ i : Nat, i < k → l[i]? = m[i]?) → l[k]? = some x → m[k]? = some y → x ≤ y
 | [], _, _, k, x, y, _, hx, _ => by simp at hx
 | _ :: _, [], h, _, _, _, _, _, _ => by simp [lexLe] at h
 | a :: l, b :: m, h, k, x, y, he, hx, hy => by
   unfold lexLe at h
   rcases k with _ | k
   · simp only [List.getElem?_cons_zero, Option.some.injEq] at hx hy
     subst hx hy
     split at h
     · omega
     · simp only [decide_eq_true_eq] at h; omega
   · have h0 := he 0 (by omega)
     simp only [List.getElem?_cons_zero, Option.some.injEq] at h0
     rw [if_pos h0] at h
     rw [List.getElem?_cons_succ] at hx hy
     exact lexLe_at h k x y (fun i hi => by have := he (i + 1) (by omega); simpa using this) hx hy
section
variable {L : List Lg} {cst : Lg → Bool → Int} {m : Nat}
theorem routed_best (hL : ∀ z ∈ L, LegOk m z) {T : List Bool} {i j : Nat} {r : List Nat} {c : Int} (hi : i < m) (h : Rte (arcs cst L) i r j c) (hj : T.getD j false = true) : ∃ a : Int × List Nat, routedF (arcs cst L) (lfG cst L m T) m i = some a ∧ rLe a (c, r) ∧ a.2.length < m ∧ 0 ≤ a.1 ∧ ∃ j', T.getD j' false = true ∧ Rte (arcs cst L) i a.2 j' a.1 := by
 have N := arcs_net (cst := cst) hL
 have h1 : IsB (arcs cst L) (fun j => T.getD j false) (m - 1) i (routedF (arcs cst L) (lfG cst L m T) m i) := routedF_is N (arcs_sorted _ _) (fun k s hs => leadF_is N k s hs) hi
 have h2 := h1.enough N hi (m := max (m - 1) r.length) (by omega)
 have hg : Gd (arcs cst L) (fun j => T.getD j false) i (c, r) := ⟨j, h, hj⟩
 cases ho : routedF (arcs cst L) (lfG cst L m T) m i with
 | none => exact (h2.none_ ho _ hg (Nat.le_max_right ..)).elim
 | some a =>
   obtain ⟨⟨j', k1, k2⟩, k3, _⟩ := h1.some_ a ho
   obtain ⟨_, _, k4⟩ := h2.some_ a ho
   exact ⟨a, rfl, k4 _ hg (Nat.le_max_right ..), by omega, k1.pos N, j', k2, k1⟩
theorem goal_is {m j j' : Nat} (h : (goalL m j).getD j' false = true) : j' = j := by
 unfold goalL at h
 rw [List.getD_eq_getElem?_getD, List.getElem?_set] at h
 by_cases e : j = j'
 · exact e.symm
 · rw [if_neg e, List.getElem?_replicate] at h
   split at h <;> simp at h
theorem goal_at {m j : Nat} (h : j < m) : (goalL m j).getD j false = true := by
 unfold goalL
 rw [List.getD_eq_getElem?_getD, List.getElem?_set]
 simp [h]
theorem rte_lt (hL : ∀ z ∈ L, LegOk m z) {i j : Nat} {r : List Nat} {c : Int} (hi : i < m) (h : Rte (arcs cst L) i r j c) : j < m := h.lt (arcs_net hL) hi
theorem best_law (hL : ∀ z ∈ L, LegOk m z) {i : Nat} {rs : List Int} {s to : Int} (hi : i < m) (h : fuF L cst (i : Int) rs = some (s, to)) : ∃ (j : Nat) (a : Int × List Nat), to = (j : Int) ∧ j < m ∧ routedF (arcs cst L) (lfG cst L m (goalL m j)) m i = some a ∧ fuF L cst (i : Int) (cI a.2) = some (a.1, (j : Int)) ∧ a.2.length < m ∧ 0 ≤ a.1 ∧ a.1 ≤ s ∧ (a.1 = s → (a.2.length : Int) ≤ (rs.length : Int)) ∧ (a.1 = s → a.2.length = rs.length → ∀ (k : Nat) (x y : Int), (∀ i : Nat, i < k → (cI a.2)[i]? = rs[i]?) → (cI a.2)[k]? = some x → rs[k]? = some y → x ≤ y) ∧ ∀ T : List Bool, T.getD j false = true → ∃ b, routedF (arcs cst L) (lfG cst L m T) m i = some b ∧ 0 ≤ b.1 ∧ b.1 ≤ s := by
 obtain ⟨r, j, rfl, e2, hR⟩ := rte_fuF hL h
 simp only at e2 hR
 have hj := rte_lt hL hi hR
 obtain ⟨a, a1, a2, a3, a4, j', a5, a6⟩ := routed_best hL hi hR (goal_at hj)
 obtain rfl := goal_is a5
 unfold rLe at a2
 simp only at a2
 refine ⟨j', a, e2, hj, a1, fuF_rte hL a6, a3, a4, by omega, fun e => ?_, fun e el k x y he hx hy => ?_, fun T hT => ?_⟩
 · simp only [cI, List.length_map]; omega
 · simp only [cI, List.length_map] at el
   have hl : lexLe a.2 r = true := by
     rcases a2 with a2 | ⟨_, a2 | ⟨_, a2⟩⟩
     · omega
     · omega
     · exact a2
   simp only [cI, List.getElem?_map] at he hx hy
   cases hx' : a.2[k]? with
   | none => rw [hx'] at hx; cases hx
   | some x' =>
     cases hy' : r[k]? with
     | none => rw [hy'] at hy; cases hy
     | some y' =>
       rw [hx'] at hx
       rw [hy'] at hy
       have := lexLe_at hl k x' y' (fun i hi => by
         have := he i hi
         cases h1 : a.2[i]? with
         | none =>
           cases h2 : r[i]? with
           | none => rfl
           | some v => rw [h1, h2] at this; cases this
         | some u =>
           cases h2 : r[i]? with
           | none => rw [h1, h2] at this; cases this
           | some v =>
             rw [h1, h2] at this
             have e2 : (u : Int) = (v : Int) := Option.some.inj this
             congr 1
             omega) hx' hy'
       have hx2 : (x' : Int) = x := Option.some.inj hx
       have hy2 : (y' : Int) = y := Option.some.inj hy
       omega
 · obtain ⟨b, b1, b2, _, b4, _⟩ := routed_best hL hi hR hT
   unfold rLe at b2
   simp only at b2
   exact ⟨b, b1, b4, by omega⟩
end
end Go.Proofs.YtcjkndjjbjoehaaGreat
namespace Go.Proofs.YtcjkndjjbjoehaaGreat
open Go.RowKit
attribute [local irreducible] OQ OS OX Rd T TL GX GL AL AI RV wpG SAny Calls
structure LisZ (w : World) (A : Option Addr) (n : Nat) (L : List (List Nat)) : Prop where
 len : L.length = n
 ex : ∃ R : List (List Nat × Option Addr × Nat), RdS w 1 A n (R.map fun r => [Value.slice r.2.1 r.1.length r.2.2]) ∧ R.map Prod.fst = L ∧ ∀ r ∈ R, RdS w 1 r.2.1 r.1.length ((cI r.1).map inCells)
def rzA (r : Rz) : Option Addr := match r.2 with
 | none => none
 | some (b, _) => some ⟨b, 0, none⟩
def rzC (r : Rz) : Nat := match r.2 with
 | none => 0
 | some (_, c) => c
theorem rzV_form {r : Rz} (h : r.2 = none → r.1 = []) : rzV r = .slice (rzA r) r.1.length (rzC r) := by
 obtain ⟨l, o⟩ := r
 rcases o with _ | ⟨b, c⟩
 · obtain rfl : l = [] := h rfl
   rfl
 · rfl
end Go.Proofs.YtcjkndjjbjoehaaGreat
