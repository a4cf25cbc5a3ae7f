/- CrewCares returns true whatever the input, and leaves it as it was. No condition. -/
import Derived.Test.YtmlmgipngbndgaaLaw4
import Derived.Test.YtmlmgipngbndgaaRead
import Derived.Test.YtmlmgipngbndgaaShut0
namespace Go.Proofs.Ytmlmgipngbndgaa
open Go.ChangeShapes Go.WideShapes Go.ChangeAt Go.RowKit
set_option linter.unusedVariables false
set_option linter.unusedSimpArgs false
set_option maxRecDepth 100000

theorem crewCares_lifted (os : Os) (started : os.Started) (H : Type) (enc : TypeId × Value → H) :
    ReturnsInHanded {} Try.checked os 4 .any (Rows.crewCaresSpec.pre6 enc Try.prog Try.f4 Rows.crewCaresRow.domain false) (Rows.crewCaresSpec.post enc Try.prog Try.f4 false true false false) := by
  refine returnsInHanded_of_change (C := Try.checked) Try.own started (by kernel_rfl) Try.func4
    (ChangeSpec.witness6 (enc := enc) (C := Try.checked) false ⟨#[], #[.agg #[.int .i64 0, .int .i64 0, .int .i64 0], .slice none 0 0, .slice none 0 0], []⟩ 8 (by kernel_rfl) (by kernel_rfl) (by kernel_rfl) (by kernel_rfl)) ?_
  intro W base args ds gs before hval0 hW hcnd _
  have hval : ∀ (j : Nat) t v, Try.f4.params[j]? = some t → args[j]? = some v → Value.okWide Try.prog W .any base t v := hval0
  have hW' := hW
  obtain ⟨p, q, hA0, hV, rfl, hfz, hnd⟩ := hW
  have hA : DataW.TrodAll enc Try.prog W 0 (fun _ => true) true Try.f4.params.toList args.toList ds p := hA0
  obtain ⟨rfl, rfl⟩ := trodVars_none hV
  simp only [List.append_nil] at hW'
  have hlt : ∀ x ∈ p, x.block < W.heap.size := fun x hx => by simpa using hW'.lt x hx
  have hargs : ∀ W', Ext W W' → DataW.TrodAll enc Try.prog W' 0 (fun b => decide (b < W.heap.size)) true Try.f4.params.toList args.toList ds p := fun W' hb => trodAll_ext Try.laidOut hb (by kernel_rfl) hA hlt
  clear hA0 hval0
  obtain ⟨args⟩ := args
  rw [Try.params4] at hA hval
  simp only at hA
  obtain ⟨v0, as0, d0, ds0, p0, q0, rfl, rfl, rfl, h0, hA0⟩ := trodAll_cons hA
  obtain ⟨v1, as1, d1, ds1, p1, q1, rfl, rfl, rfl, h1, hA1⟩ := trodAll_cons hA0
  obtain ⟨v2, as2, d2, ds2, p2, q2, rfl, rfl, rfl, h2, hA2⟩ := trodAll_cons hA1
  obtain ⟨rfl, rfl, rfl⟩ := trodAll_nil hA2
  obtain ⟨cs0, rfl, g0⟩ := open_struct Try.underlying40 (show ksOf Try.prog 6 40 = some [.int .i64, .int .i64, .int .i64] by kernel_rfl) (hval 0 40 v0 rfl rfl) h0
  obtain ⟨x0_0, us0_0, rfl, w0_0, g0⟩ := g0.int
  obtain ⟨x0_1, us0_1, rfl, w0_1, g0⟩ := g0.int
  obtain ⟨x0_2, us0_2, rfl, w0_2, g0⟩ := g0.int
  obtain rfl := g0.nil
  obtain ⟨A1, n1, c1, rows1, rfl, hr1, hm1⟩ := open_rows Try.underlying41 (show ksOf Try.prog 6 3 = some [.int .i64] by kernel_rfl) (by kernel_rfl) (by decide) (hval 1 41 v1 rfl rfl) h1
  obtain ⟨l1, rfl, hp1⟩ := rows_ofP (f := inCells) (p := fun _ => True) (fun x hx => in_open (hm1 x hx))
  obtain ⟨A2, n2, c2, rows2, rfl, hr2, hm2⟩ := open_rows Try.underlying41 (show ksOf Try.prog 6 3 = some [.int .i64] by kernel_rfl) (by kernel_rfl) (by decide) (hval 2 41 v2 rfl rfl) h2
  obtain ⟨l2, rfl, hp2⟩ := rows_ofP (f := inCells) (p := fun _ => True) (fun x hx => in_open (hm2 x hx))
  refine (crewCares_T x0_0 x0_1 x0_2 A1 n1 c1 l1 A2 n2 c2 l2 W hr1 (open_cap (r := .any) Try.underlying41 h1) hr2).mono fun e W' ⟨he, hw⟩ => ?_
  subst he
  exact ⟨_, rfl, ⟨_, _, _, [], _, [], hW', trodAll_mk1 (shut_bool (by kernel_rfl) true), hargs W' hw, rfl, hw.frame _, fun h => by cases h⟩⟩

theorem crewCares_holds : Rows.CrewCaresSaid :=
  OpenClaim.holds_of_wide 4 Try.f4 rfl rfl rfl rfl rfl rfl rfl ⟨rfl, rfl, rfl, rfl, rfl⟩ rfl rfl rfl rfl rfl (by kernel_rfl) Try.func4 (by kernel_rfl)
    (of_decide_eq_true (by kernel_rfl)) (by unfold Func.isWrapper; first | (rw [if_pos (by decide +kernel)]; kernel_rfl) | (rw [if_neg (by decide +kernel)]; exact ⟨rfl, rfl⟩))
    (fun os started H enc _ => crewCares_lifted os started H enc)
#print axioms crewCares_holds
end Go.Proofs.Ytmlmgipngbndgaa
