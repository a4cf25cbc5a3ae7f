/- Assign is the specification's, and leaves its roster alone -/
import Derived.Test.YtmlmgipngbndgaaX8G
import Derived.Test.YtmlmgipngbndgaaX8F
set_option linter.unusedVariables false
set_option linter.unusedSimpArgs false
set_option maxRecDepth 100000
set_option maxHeartbeats 2000000
namespace Go.Proofs.Ytmlmgipngbndgaa
open Go.ChangeShapes Go.WideShapes Go.ChangeAt Go.RowKit
set_option linter.unusedVariables false
set_option linter.unusedSimpArgs false
set_option maxRecDepth 100000
theorem sh_open {x : List Value} (h : LfsOk [.int .i64, .int .i64, .int .i64] x) : ∃ y : Sh, x = shCells y ∧ True := by
  obtain ⟨z0, u0, rfl, _, h⟩ := h.int
  obtain ⟨z1, u1, rfl, _, h⟩ := h.int
  obtain ⟨z2, u2, rfl, _, h⟩ := h.int
  obtain rfl := h.nil
  exact ⟨⟨z0, z1, z2⟩, rfl, trivial⟩
theorem tr_open {x : List Value} (h : LfsOk [.int .i64, .int .i64, .int .i64] x) : ∃ y : Tr, x = trCells y ∧ True := by
  obtain ⟨z0, u0, rfl, _, h⟩ := h.int
  obtain ⟨z1, u1, rfl, _, h⟩ := h.int
  obtain ⟨z2, u2, rfl, _, h⟩ := h.int
  obtain rfl := h.nil
  exact ⟨⟨z0, z1, z2⟩, rfl, trivial⟩
theorem crewAssigns_lifted (os : Os) (started : os.Started) (H : Type) (enc : TypeId × Value → H) :
    ReturnsInHanded {} Try.checked os 8 .any (Rows.crewAssignsSpec.pre6 enc Try.prog Try.f8 Rows.crewAssignsRow.domain false) (Rows.crewAssignsSpec.post enc Try.prog Try.f8 false true false false) := by
  refine returnsInHanded_of_change (C := Try.checked) Try.own started (by kernel_rfl) Try.func8
    (ChangeSpec.witness6 (enc := enc) (C := Try.checked) false ⟨#[], #[.agg #[.int .i64 0, .int .i64 0, .int .i64 0, .int .i64 0], .slice none 0 0, .int .i64 0, .slice none 0 0], []⟩ 8 (by kernel_rfl) (by kernel_rfl) (by kernel_rfl) (by kernel_rfl)) ?_
  intro W base args ds gs before hval0 hW hcnd _
  have hval : ∀ (j : Nat) t v, Try.f8.params[j]? = some t → args[j]? = some v → Value.okWide Try.prog W .any base t v := hval0
  have hW' := hW
  obtain ⟨p, q, hA0, hV, rfl, hfz, hnd⟩ := hW
  have hA : DataW.TrodAll enc Try.prog W 0 (fun _ => true) true Try.f8.params.toList args.toList ds p := hA0
  obtain ⟨rfl, rfl⟩ := trodVars_none hV
  simp only [List.append_nil] at hW'
  have hlt : ∀ x ∈ p, x.block < W.heap.size := fun x hx => by simpa using hW'.lt x hx
  have hargs : ∀ W', Ext W W' → DataW.TrodAll enc Try.prog W' 0 (fun b => decide (b < W.heap.size)) true Try.f8.params.toList args.toList ds p := fun W' hb => trodAll_ext Try.laidOut hb (by kernel_rfl) hA hlt
  clear hA0 hval0
  obtain ⟨args⟩ := args
  rw [Try.params8] at hA hval
  simp only at hA
  obtain ⟨v0, as0, d0, ds0, p0, q0, rfl, rfl, rfl, h0, hA0⟩ := trodAll_cons hA
  obtain ⟨v1, as1, d1, ds1, p1, q1, rfl, rfl, rfl, h1, hA1⟩ := trodAll_cons hA0
  obtain ⟨v2, as2, d2, ds2, p2, q2, rfl, rfl, rfl, h2, hA2⟩ := trodAll_cons hA1
  obtain ⟨v3, as3, d3, ds3, p3, q3, rfl, rfl, rfl, h3, hA3⟩ := trodAll_cons hA2
  obtain ⟨rfl, rfl, rfl⟩ := trodAll_nil hA3
  obtain ⟨cs0, rfl, g0⟩ := open_struct Try.underlying74 (show ksOf Try.prog 6 74 = some [.int .i64, .int .i64, .int .i64, .int .i64] by kernel_rfl) (hval 0 74 v0 rfl rfl) h0
  obtain ⟨x0_0, us0_0, rfl, w0_0, g0⟩ := g0.int
  obtain ⟨x0_1, us0_1, rfl, w0_1, g0⟩ := g0.int
  obtain ⟨x0_2, us0_2, rfl, w0_2, g0⟩ := g0.int
  obtain ⟨x0_3, us0_3, rfl, w0_3, g0⟩ := g0.int
  obtain rfl := g0.nil
  obtain ⟨A1, n1, c1, rows1, rfl, hr1, hm1⟩ := open_rows Try.underlying75 (show ksOf Try.prog 6 101 = some [.int .i64, .int .i64, .int .i64] by kernel_rfl) (by kernel_rfl) (by decide) (hval 1 75 v1 rfl rfl) h1
  obtain ⟨l1, rfl, hp1⟩ := rows_ofP (f := shCells) (p := fun _ => True) (fun x hx => sh_open (hm1 x hx))
  obtain ⟨a2, rfl, _, _, w2⟩ := open_int Try.underlying3 (hval 2 3 v2 rfl rfl) h2
  obtain ⟨A3, n3, c3, rows3, rfl, hr3, hm3⟩ := open_rows Try.underlying89 (show ksOf Try.prog 6 114 = some [.int .i64, .int .i64, .int .i64] by kernel_rfl) (by kernel_rfl) (by decide) (hval 3 89 v3 rfl rfl) h3
  obtain ⟨l3, rfl, hp3⟩ := rows_ofP (f := trCells) (p := fun _ => True) (fun x hx => tr_open (hm3 x hx))
  refine (crewAssigns_T ⟨x0_0, x0_1, x0_2, x0_3⟩ A1 n1 c1 l1 a2 A3 n3 c3 l3 W hr1 hr3 (open_cap (r := .any) Try.underlying89 h3)).mono fun e W' ⟨he, hw⟩ => ?_
  subst he
  exact ⟨_, rfl, ⟨_, _, _, [], _, [], hW', trodAll_mk1 (shut_bool (by kernel_rfl) true), hargs W' hw, rfl, hw.frame _, fun h => by cases h⟩⟩
theorem crewAssigns_holds : Rows.CrewAssignsSaid :=
  OpenClaim.holds_of_wide 8 Try.f8 rfl rfl rfl rfl rfl rfl rfl ⟨rfl, rfl, rfl, rfl, rfl⟩ rfl rfl rfl rfl rfl (by kernel_rfl) Try.func8 (by kernel_rfl)
    (of_decide_eq_true (by kernel_rfl)) (by unfold Func.isWrapper; first | (rw [if_pos (by decide +kernel)]; kernel_rfl) | (rw [if_neg (by decide +kernel)]; exact ⟨rfl, rfl⟩))
    (fun os started H enc _ => crewAssigns_lifted os started H enc)
#print axioms crewAssigns_holds
end Go.Proofs.Ytmlmgipngbndgaa
