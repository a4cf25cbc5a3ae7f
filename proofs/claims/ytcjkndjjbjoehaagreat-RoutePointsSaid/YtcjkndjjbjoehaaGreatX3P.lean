/- A part of the proof: rules for walks, and contracts of functions (16). -/
import Derived.Test.YtcjkndjjbjoehaaGreatX3O
import Derived.Test.YtcjkndjjbjoehaaGreatX3B
import Derived.Test.YtcjkndjjbjoehaaGreatX3C
import Derived.Test.YtcjkndjjbjoehaaGreatX3A
import Derived.Test.YtcjkndjjbjoehaaGreatChecked
import Derived.Test.YtcjkndjjbjoehaaGreatRows
import Derived.ProofKit
import Derived.Lib.SmallJoins
import Derived.Carry
set_option linter.unusedVariables false
set_option linter.unusedSimpArgs false
set_option maxRecDepth 100000
set_option maxHeartbeats 2000000
namespace Go.Proofs.YtcjkndjjbjoehaaGreat
open Go.RowKit
attribute [local irreducible] OQ OS OX Rd T TL GX GL AL AI RV wpG SAny Calls
theorem eq_pt {w : World} {d : Nat} (a b : Int) : (Op.equalIn (d + 2) 34 (.agg ⟨[.int .i64 a, .int .i64 b]⟩) (.agg ⟨[.int .i64 a, .int .i64 b]⟩)).run Tryz.prog w = .ok true w := by
  rw [run_equalIn_struct w (d + 1) 34 _ _ (by kernel_rfl) (by kernel_rfl)]
  simp only [Program.fieldsOf, Tryz.underlying34]
  refine (eqF_int rfl rfl rfl rfl rfl (eqF_int rfl rfl rfl rfl rfl eqF_nil)).trans ?_
  simp
theorem oq_eqPt {w : World} {N : Nat} {F : Fr} {H : Hp} {M : List Nat} {d : Option Tmp} {ty t' : TypeId} {pos : String} {af : Array Edge} {g : Option (Nat × Bool)} {x y : Operand} (a b : Int) (hx : ev F x = some (.agg ⟨[.int .i64 a, .int .i64 b]⟩)) (hy : ev F y = some (.agg ⟨[.int .i64 a, .int .i64 b]⟩)) : OQ (cxM M w N) ⟨d, .binOp .eql 34 x y t', ty, pos, af, g⟩ F H (.bool true) :=
  oq_eqS (by kernel_rfl) (fun w => eq_pt (d := 9998) a b) hx hy
theorem points_both (AM A : Option Addr) (m cM n cp : Nat) (L : List Lg) (w : World) (hr : RdS w 5 A n (L.map lgCells)) (v q1 q2 q3 q4 g0 g1 : Int) (AC : Option Addr) (nC cC : Nat) (C : List Wn) (hrc : CastR w AC nC C) (hs : ∀ z ∈ C, z.n ≤ 1000000) (hm : m ≤ 1000000) (hn : n ≤ 1000000) (s : Int) (AR : Option Addr) (nR cR : Nat) (hnR : nR ≤ 1000000) (rs : List Int) (hR : RdS w 1 AR nR (rs.map inCells)) (fu : Int) (hfu : fu ≤ 9223372036854775807) : ∃ (c d : (Nat × Nat) × Int), ∀ w1 : World, Ext w w1 → (Calls Tryz.prog 16 #[.agg #[.slice AM m cM, .slice A n cp], .agg #[.int .i64 v, .int .i64 q1, .int .i64 q2, .int .i64 q3, .int .i64 q4, .int .i64 g0, .int .i64 g1], .slice AC nC cC, .int .i64 s, .slice AR nR cR, .int .i64 fu] w1 fun e w' => e = .returned (.tuple #[.agg #[.int .i64 (c.1.1 : Nat), .int .i64 (c.1.2 : Nat)], .int .i64 c.2]) ∧ Ext w1 w') ∧ (Calls Tryz.prog 17 #[.agg #[.slice AM m cM, .slice A n cp], .agg #[.int .i64 v, .int .i64 q1, .int .i64 q2, .int .i64 q3, .int .i64 q4, .int .i64 g0, .int .i64 g1], .slice AC nC cC, .int .i64 s, .slice AR nR cR, .int .i64 fu] w1 fun e w' => e = .returned (.tuple #[.agg #[.int .i64 (c.1.1 : Nat), .int .i64 (c.1.2 : Nat)], .int .i64 c.2]) ∧ Ext w1 w') ∧ (Calls Tryz.prog 18 #[.agg #[.slice AM m cM, .slice A n cp], .agg #[.int .i64 v, .int .i64 q1, .int .i64 q2, .int .i64 q3, .int .i64 q4, .int .i64 g0, .int .i64 g1], .slice AC nC cC, .int .i64 s, .slice AR nR cR] w1 fun e w' => e = .returned (.tuple #[.agg #[.int .i64 (d.1.1 : Nat), .int .i64 (d.1.2 : Nat)], .int .i64 d.2]) ∧ Ext w1 w') ∧ (Calls Tryz.prog 19 #[.agg #[.slice AM m cM, .slice A n cp], .agg #[.int .i64 v, .int .i64 q1, .int .i64 q2, .int .i64 q3, .int .i64 q4, .int .i64 g0, .int .i64 g1], .slice AC nC cC, .int .i64 s, .slice AR nR cR] w1 fun e w' => e = .returned (.tuple #[.agg #[.int .i64 (d.1.1 : Nat), .int .i64 (d.1.2 : Nat)], .int .i64 d.2]) ∧ Ext w1 w') := by
  by_cases he : ledE m L v q1 q2 q3 q4 g0 g1 C s rs = 0
  · obtain ⟨hE, h20, p, htr⟩ := led_zero he
    obtain ⟨hch, hpk, hk0⟩ := askE_ok hE
    obtain ⟨_, _, _, _, _, kg⟩ := id hpk
    obtain ⟨g0, rfl⟩ := Int.eq_ofNat_of_zero_le kg.1
    obtain ⟨g1, rfl⟩ := Int.eq_ofNat_of_zero_le (show 0 ≤ g1 by omega)
    exact ⟨ptR v q1 q2 q3 g0 g1 C L p (noP fu q4), ptR v q1 q2 q3 g0 g1 C L p eqP, fun w1 hx => ⟨noret16_ok AM A m cM n cp L w1 (hr.ext hx) hn hm v q1 q2 q3 q4 g0 g1 AC nC cC C (hrc.ext hx) hs s AR nR cR rs (hR.ext hx) hnR hE h20 p htr fu hfu, refNoret_ok AM A m cM n cp L w1 (hr.ext hx) hn hm v q1 q2 q3 q4 g0 g1 AC nC cC C (hrc.ext hx) hs s AR nR cR rs (hR.ext hx) hnR hE h20 p htr fu hfu, equal18_ok AM A m cM n cp L w1 (hr.ext hx) hn hm v q1 q2 q3 q4 g0 g1 AC nC cC C (hrc.ext hx) hs s AR nR cR rs (hR.ext hx) hnR hE h20 p htr, refEqual_ok AM A m cM n cp L w1 (hr.ext hx) hn hm v q1 q2 q3 q4 g0 g1 AC nC cC C (hrc.ext hx) hs s AR nR cR rs (hR.ext hx) hnR hE h20 p htr⟩⟩
  · exact ⟨((0, 0), ledE m L v q1 q2 q3 q4 g0 g1 C s rs), ((0, 0), ledE m L v q1 q2 q3 q4 g0 g1 C s rs), fun w1 hx => ⟨noret16_err AM A m cM n cp L w1 (hr.ext hx) hn hm v q1 q2 q3 q4 g0 g1 AC nC cC C (hrc.ext hx) hs s AR nR cR rs (hR.ext hx) hnR he fu, refNoret_err AM A m cM n cp L w1 (hr.ext hx) hn hm v q1 q2 q3 q4 g0 g1 AC nC cC C (hrc.ext hx) hs s AR nR cR rs (hR.ext hx) hnR he fu, equal18_err AM A m cM n cp L w1 (hr.ext hx) hn hm v q1 q2 q3 q4 g0 g1 AC nC cC C (hrc.ext hx) hs s AR nR cR rs (hR.ext hx) hnR he, refEqual_err AM A m cM n cp L w1 (hr.ext hx) hn hm v q1 q2 q3 q4 g0 g1 AC nC cC C (hrc.ext hx) hs s AR nR cR rs (hR.ext hx) hnR he⟩⟩
theorem routePoints_T (AM A : Option Addr) (m cM n cp : Nat) (L : List Lg) (w : World) (hr : RdS w 5 A n (L.map lgCells)) (v q1 q2 q3 q4 g0 g1 : Int) (AC : Option Addr) (nC cC : Nat) (C : List Wn) (hrc : CastR w AC nC C) (s : Int) (AR : Option Addr) (nR cR : Nat) (rs : List Int) (hR : RdS w 1 AR nR (rs.map inCells)) (fu : Int) (hfu : fu ≤ 9223372036854775807) : Calls Tryz.prog 3 #[.agg #[.slice AM m cM, .slice A n cp], .agg #[.int .i64 v, .int .i64 q1, .int .i64 q2, .int .i64 q3, .int .i64 q4, .int .i64 g0, .int .i64 g1], .slice AC nC cC, .int .i64 s, .slice AR nR cR, .int .i64 fu] w fun e w' => e = .returned (.bool true) ∧ Ext w w' := by
  have HG := fun w1 (hx : Ext w w1) => great_calls AM A m cM n cp AC nC cC C w1 (hrc.ext hx)
  by_cases hS : Small m n C
  rotate_left
  · rw [decide_eq_false hS] at HG
    refine enterQ (c := cx w 85) Tryz.func3 rfl rfl rfl rfl ?_
    repeat' (first | ((with_reducible apply oq_id); first | (apply oq_fn; exact rfl; first | exact trivial | (refine ⟨?_, ?_⟩ <;> omega) | (refine ⟨?_, ?_, ?_⟩ <;> omega) | omega | skip) | ((with_reducible apply oq_loadAgg); exact rfl; exact rfl) | ((with_reducible apply oq_call (k := 15) (hc := Tryz.call15)); exact rfl; exact rfl; exact fun D w1 hw1 => HG w1 hw1.ext.ext)) | ((with_reducible apply tl_id); first | ((with_reducible apply tl_nil)) | ((with_reducible apply u_q); exact rfl; exact rfl; exact rfl; exact rfl) | ((with_reducible apply u_s); exact rfl; exact rfl; exact rfl) | ((with_reducible apply u_skip); exact rfl; exact rfl; exact rfl)) | ((with_reducible apply os_id); first | ((with_reducible apply os_x); exact rfl)) | ((with_reducible apply ox_id); first | ((with_reducible apply ox_boxAgg); exact rfl; intro _)) | ((with_reducible apply rd_id); first | (apply Rd.own; (repeat (first | exact P0 | apply P1)); exact rfl; done)) | ((with_reducible apply t_id); first | ((with_reducible apply t_seq)) | (apply t_region; kernel_rfl) | ((with_reducible apply t_condT); exact rfl) | ((with_reducible apply t_ret))) | with_reducible apply q_thenN | with_reducible apply q_thenR | exact Rdn.zero | apply Rdn.succ | ((with_reducible apply end_ret)) | exact rvs_nil | ((with_reducible apply rvs_cons)) | ((with_reducible apply rv_tmp); exact rfl))
    all_goals rfl
  rw [decide_eq_true hS] at HG
  by_cases h30 : 30 < nR
  · refine enterQ (c := cx w 85) Tryz.func3 rfl rfl rfl rfl ?_
    repeat' (first | ((with_reducible apply oq_id); first | ((with_reducible apply oq_gtrT); exact rfl; exact rfl; omega) | (apply oq_fn; exact rfl; first | exact trivial | (refine ⟨?_, ?_⟩ <;> omega) | (refine ⟨?_, ?_, ?_⟩ <;> omega) | omega | skip) | ((with_reducible apply oq_loadAgg); exact rfl; exact rfl) | ((with_reducible apply oq_call (k := 15) (hc := Tryz.call15)); exact rfl; exact rfl; exact fun D w1 hw1 => HG w1 hw1.ext.ext)) | ((with_reducible apply tl_id); first | ((with_reducible apply tl_nil)) | ((with_reducible apply u_q); exact rfl; exact rfl; exact rfl; exact rfl) | ((with_reducible apply u_s); exact rfl; exact rfl; exact rfl)) | ((with_reducible apply os_id); first | ((with_reducible apply os_x); exact rfl)) | ((with_reducible apply ox_id); first | ((with_reducible apply ox_boxAgg); exact rfl; intro _)) | ((with_reducible apply rd_id); first | (apply Rd.own; (repeat (first | exact P0 | apply P1)); exact rfl; done)) | ((with_reducible apply t_id); first | ((with_reducible apply t_seq)) | (apply t_region; kernel_rfl) | ((with_reducible apply t_condT); exact rfl) | ((with_reducible apply t_ret))) | with_reducible apply q_thenN | with_reducible apply q_thenR | exact Rdn.zero | apply Rdn.succ | ((with_reducible apply end_ret)) | exact rvs_nil | ((with_reducible apply rvs_cons)) | ((with_reducible apply rv_tmp); exact rfl))
    all_goals rfl
  obtain ⟨hm, hn, hc8, hs24⟩ := hS
  have hs : ∀ z ∈ C, z.n ≤ 1000000 := fun z hz => by have := hs24 z hz; omega
  obtain ⟨⟨⟨c1, c2⟩, c3⟩, ⟨⟨d1, d2⟩, d3⟩, hB⟩ := points_both AM A m cM n cp L w hr v q1 q2 q3 q4 g0 g1 AC nC cC C hrc hs (by omega) (by omega) s AR nR cR (by omega) rs hR fu hfu
  simp only at hB
  refine enterQ (c := cx w 85) Tryz.func3 rfl rfl rfl rfl ?_
  repeat' (first | ((with_reducible apply oq_id); first | ((with_reducible apply (oq_eqPt (c1 : Int) (c2 : Int))); exact rfl; exact rfl) | ((with_reducible apply (oq_eqPt (d1 : Int) (d2 : Int))); exact rfl; exact rfl) | ((with_reducible apply oq_eqlT); exact rfl; exact rfl; omega) | ((with_reducible apply oq_gtrF); exact rfl; exact rfl; omega) | (apply oq_fn; exact rfl; first | exact trivial | (refine ⟨?_, ?_⟩ <;> omega) | (refine ⟨?_, ?_, ?_⟩ <;> omega) | omega | skip) | ((with_reducible apply oq_loadAgg); exact rfl; exact rfl) | ((with_reducible apply oq_call (k := 15) (hc := Tryz.call15)); exact rfl; exact rfl; exact fun D w1 hw1 => HG w1 hw1.ext.ext) | ((with_reducible apply oq_call (k := 16) (hc := Tryz.call16)); exact rfl; exact rfl; exact fun D w1 hw1 => (hB w1 hw1.ext.ext).1) | ((with_reducible apply oq_call (k := 17) (hc := Tryz.call17)); exact rfl; exact rfl; exact fun D w1 hw1 => (hB w1 hw1.ext.ext).2.1) | ((with_reducible apply oq_call (k := 18) (hc := Tryz.call18)); exact rfl; exact rfl; exact fun D w1 hw1 => (hB w1 hw1.ext.ext).2.2.1) | ((with_reducible apply oq_call (k := 19) (hc := Tryz.call19)); exact rfl; exact rfl; exact fun D w1 hw1 => (hB w1 hw1.ext.ext).2.2.2)) | ((with_reducible apply tl_id); first | ((with_reducible apply tl_nil)) | ((with_reducible apply u_q); exact rfl; exact rfl; exact rfl; exact rfl) | ((with_reducible apply u_s0); exact rfl; exact rfl) | ((with_reducible apply u_s); exact rfl; exact rfl; exact rfl)) | ((with_reducible apply os_id); first | ((with_reducible apply os_x); exact rfl) | ((with_reducible apply os_storeAgg); exact rfl; exact rfl; exact rfl; exact rfl; exact rfl)) | ((with_reducible apply ox_id); first | ((with_reducible apply ox_alloc); exact rfl; intro _) | ((with_reducible apply ox_boxAgg); exact rfl; intro _)) | ((with_reducible apply rd_id); first | (apply Rd.own; (repeat (first | exact P0 | apply P1)); exact rfl; done)) | ((with_reducible apply t_id); first | ((with_reducible apply t_seq)) | (apply t_region; kernel_rfl) | ((with_reducible apply t_condF); exact rfl) | ((with_reducible apply t_ret)) | ((with_reducible apply t_skip))) | with_reducible apply q_thenN | exact P0 | exact Rdn.zero | apply Rdn.succ | ((with_reducible apply Norm.nil); exact rfl) | ((with_reducible apply Norm.cons); exact rfl) | ((with_reducible apply end_ret)) | exact rvs_nil | ((with_reducible apply rvs_cons)) | ((with_reducible apply rv_tmp); exact rfl) | exact Nat.le_of_ble_eq_true rfl)
  all_goals rfl
end Go.Proofs.YtcjkndjjbjoehaaGreat
namespace Go.Proofs.YtcjkndjjbjoehaaGreat
open Go.ChangeShapes Go.WideShapes Go.ChangeAt Go.RowKit
theorem Tryz.own : ownKnob Tryz.prog.godebug = none := by kernel_rfl
theorem Tryz.laidOut : laidOutB Tryz.prog = true := by kernel_rfl
section
variable {H : Type} {enc : TypeId × Value → H} {P : Program}
theorem trodAll_ext (hl : laidOutB P = true) {W W' : World} (hb : Ext W W') : ∀ {ts : List TypeId} {vs : List Value} {ds : List (DataW H)} {p : List MemPlace}, (ts.all fun t => P.readableRec t && decide (t < P.types.size)) = true →
    DataW.TrodAll enc P W 0 (fun _ => true) true ts vs ds p → (∀ x ∈ p, x.block < W.heap.size) → DataW.TrodAll enc P W' 0 (fun b => decide (b < W.heap.size)) true ts vs ds p
  | [], vs, ds, p, _, h, _ => by
    obtain ⟨rfl, rfl, rfl⟩ := trodAll_nil h
    exact trodAll_mk0
  | t :: ts, vs, ds, p, ht, h, hlt => by
    obtain ⟨v, vs', d, ds', p0, q0, rfl, rfl, rfl, h1, h2⟩ := trodAll_cons h
    simp only [List.all_cons, Bool.and_eq_true, decide_eq_true_eq] at ht
    exact ⟨p0, q0, Below.trod hl ht.1.1 ht.1.2 h1 hb (fun x hx => hlt x (List.mem_append_left _ hx)), trodAll_ext hl hb ht.2 h2 (fun x hx => hlt x (List.mem_append_right _ hx)), rfl⟩
end
end Go.Proofs.YtcjkndjjbjoehaaGreat

