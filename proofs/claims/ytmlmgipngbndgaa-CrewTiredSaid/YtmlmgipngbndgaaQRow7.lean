/- CrewTired returns true whatever the input: limits of duty, rosters and who is tired are the specification's. No condition. -/
import Derived.Test.YtmlmgipngbndgaaPkA
import Derived.Test.YtmlmgipngbndgaaChecked
import Derived.Test.YtmlmgipngbndgaaRows
import Derived.ProofKit
import Derived.Lib.SmallJoins
import Derived.Carry
import Derived.Test.YtmlmgipngbndgaaLRow7
import Derived.Test.YtmlmgipngbndgaaPkN
import Derived.Test.YtmlmgipngbndgaaPkB
/- Arguments are read again behind a call that only adds to the world. -/
namespace Go.Proofs.Ytmlmgipngbndgaa
open Go.ChangeShapes Go.WideShapes Go.ChangeAt Go.RowKit
set_option maxRecDepth 100000

theorem Try.own : ownKnob Try.prog.godebug = none := by kernel_rfl
theorem Try.laidOut : laidOutB Try.prog = true := by kernel_rfl
section
variable {H : Type} {enc : TypeId × Value → H} {P : Program}
theorem trodAll_ext (hl : laidOutB P = true) {W W' : World} (hb : Ext W W') : ∀ {ts : List TypeId} {vs : List Value} {ds : List (DataW H)} {p : List MemPlace}, (ts.all fun t => P.readableRec t && decide (t < P.types.size)) = true →
    DataW.TrodAll enc P W 0 (fun _ => true) true ts vs ds p → (∀ x ∈ p, x.block < W.heap.size) → DataW.TrodAll enc P W' 0 (fun b => decide (b < W.heap.size)) true ts vs ds p
  | [], vs, ds, p, _, h, _ => by
    obtain ⟨rfl, rfl, rfl⟩ := trodAll_nil h
    exact trodAll_mk0
  | t :: ts, vs, ds, p, ht, h, hlt => by
    obtain ⟨v, vs', d, ds', p0, q0, rfl, rfl, rfl, h1, h2⟩ := trodAll_cons h
    simp only [List.all_cons, Bool.and_eq_true, decide_eq_true_eq] at ht
    exact ⟨p0, q0, Below.trod hl ht.1.1 ht.1.2 h1 hb (fun x hx => hlt x (List.mem_append_left _ hx)), trodAll_ext hl hb ht.2 h2 (fun x hx => hlt x (List.mem_append_right _ hx)), rfl⟩
end
end Go.Proofs.Ytmlmgipngbndgaa
/- CrewTired returns true whatever the input, and leaves it as it was. No condition. -/
namespace Go.Proofs.Ytmlmgipngbndgaa
open Go.ChangeShapes Go.WideShapes Go.ChangeAt Go.RowKit
set_option linter.unusedVariables false
set_option linter.unusedSimpArgs false
set_option maxRecDepth 100000

theorem sh_open {x : List Value} (h : LfsOk [.int .i64, .int .i64, .int .i64] x) : ∃ y : Sh, x = shCells y ∧ True := by
  obtain ⟨z0, u0, rfl, _, h⟩ := h.int
  obtain ⟨z1, u1, rfl, _, h⟩ := h.int
  obtain ⟨z2, u2, rfl, _, h⟩ := h.int
  obtain rfl := h.nil
  exact ⟨⟨z0, z1, z2⟩, rfl, trivial⟩
theorem crewTired_lifted (os : Os) (started : os.Started) (H : Type) (enc : TypeId × Value → H) :
    ReturnsInHanded {} Try.checked os 7 .any (Rows.crewTiredSpec.pre6 enc Try.prog Try.f7 Rows.crewTiredRow.domain false) (Rows.crewTiredSpec.post enc Try.prog Try.f7 false true false false) := by
  refine returnsInHanded_of_change (C := Try.checked) Try.own started (by kernel_rfl) Try.func7
    (ChangeSpec.witness6 (enc := enc) (C := Try.checked) false ⟨#[], #[.agg #[.int .i64 0, .int .i64 0, .int .i64 0, .int .i64 0], .slice none 0 0], []⟩ 8 (by kernel_rfl) (by kernel_rfl) (by kernel_rfl) (by kernel_rfl)) ?_
  intro W base args ds gs before hval0 hW hcnd _
  have hval : ∀ (j : Nat) t v, Try.f7.params[j]? = some t → args[j]? = some v → Value.okWide Try.prog W .any base t v := hval0
  have hW' := hW
  obtain ⟨p, q, hA0, hV, rfl, hfz, hnd⟩ := hW
  have hA : DataW.TrodAll enc Try.prog W 0 (fun _ => true) true Try.f7.params.toList args.toList ds p := hA0
  obtain ⟨rfl, rfl⟩ := trodVars_none hV
  simp only [List.append_nil] at hW'
  have hlt : ∀ x ∈ p, x.block < W.heap.size := fun x hx => by simpa using hW'.lt x hx
  have hargs : ∀ W', Ext W W' → DataW.TrodAll enc Try.prog W' 0 (fun b => decide (b < W.heap.size)) true Try.f7.params.toList args.toList ds p := fun W' hb => trodAll_ext Try.laidOut hb (by kernel_rfl) hA hlt
  clear hA0 hval0
  obtain ⟨args⟩ := args
  rw [Try.params7] at hA hval
  simp only at hA
  obtain ⟨v0, as0, d0, ds0, p0, q0, rfl, rfl, rfl, h0, hA0⟩ := trodAll_cons hA
  obtain ⟨v1, as1, d1, ds1, p1, q1, rfl, rfl, rfl, h1, hA1⟩ := trodAll_cons hA0
  obtain ⟨rfl, rfl, rfl⟩ := trodAll_nil hA1
  obtain ⟨cs0, rfl, g0⟩ := open_struct Try.underlying74 (show ksOf Try.prog 6 74 = some [.int .i64, .int .i64, .int .i64, .int .i64] by kernel_rfl) (hval 0 74 v0 rfl rfl) h0
  obtain ⟨x0_0, us0_0, rfl, w0_0, g0⟩ := g0.int
  obtain ⟨x0_1, us0_1, rfl, w0_1, g0⟩ := g0.int
  obtain ⟨x0_2, us0_2, rfl, w0_2, g0⟩ := g0.int
  obtain ⟨x0_3, us0_3, rfl, w0_3, g0⟩ := g0.int
  obtain rfl := g0.nil
  obtain ⟨A1, n1, c1, rows1, rfl, hr1, hm1⟩ := open_rows Try.underlying75 (show ksOf Try.prog 6 101 = some [.int .i64, .int .i64, .int .i64] by kernel_rfl) (by kernel_rfl) (by decide) (hval 1 75 v1 rfl rfl) h1
  obtain ⟨l1, rfl, hp1⟩ := rows_ofP (f := shCells) (p := fun _ => True) (fun x hx => sh_open (hm1 x hx))
  refine (crewTired_T ⟨x0_0, x0_1, x0_2, x0_3⟩ A1 n1 c1 l1 W hr1 (open_cap (r := .any) Try.underlying75 h1)).mono fun e W' ⟨he, hw⟩ => ?_
  subst he
  exact ⟨_, rfl, ⟨_, _, _, [], _, [], hW', trodAll_mk1 (shut_bool (by kernel_rfl) true), hargs W' hw, rfl, hw.frame _, fun h => by cases h⟩⟩

theorem crewTired_holds : Rows.CrewTiredSaid :=
  OpenClaim.holds_of_wide 7 Try.f7 rfl rfl rfl rfl rfl rfl rfl ⟨rfl, rfl, rfl, rfl, rfl⟩ rfl rfl rfl rfl rfl (by kernel_rfl) Try.func7 (by kernel_rfl)
    (of_decide_eq_true (by kernel_rfl)) (by unfold Func.isWrapper; first | (rw [if_pos (by decide +kernel)]; kernel_rfl) | (rw [if_neg (by decide +kernel)]; exact ⟨rfl, rfl⟩))
    (fun os started H enc _ => crewTired_lifted os started H enc)
#print axioms crewTired_holds
end Go.Proofs.Ytmlmgipngbndgaa
