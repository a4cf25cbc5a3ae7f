/- Charts, paces, forecasts and parts of tracks are the specification's -/
import Derived.Test.YtcjkndjjbjoehaaX4N
set_option linter.unusedVariables false
set_option linter.unusedSimpArgs false
set_option maxRecDepth 100000
set_option maxHeartbeats 2000000
namespace Go.Proofs.Ytcjkndjjbjoehaa
open Go.ChangeShapes Go.WideShapes Go.ChangeAt Go.RowKit
set_option linter.unusedVariables false
set_option linter.unusedSimpArgs false
set_option maxRecDepth 100000
theorem routeParts_lifted (os : Os) (started : os.Started) (H : Type) (enc : TypeId × Value → H) :
    ReturnsInHanded {} Try.checked os 4 .any (Rows.routePartsSpec.pre6 enc Try.prog Try.f4 Rows.routePartsRow.domain false) (Rows.routePartsSpec.post enc Try.prog Try.f4 false true false false) := by
  refine returnsInHanded_of_change (C := Try.checked) Try.own started (by kernel_rfl) Try.func4
    (ChangeSpec.witness6 (enc := enc) (C := Try.checked) false ⟨#[], #[.agg #[.slice none 0 0, .slice none 0 0], .agg #[.int .i64 0, .int .i64 0, .int .i64 0, .int .i64 0, .int .i64 0, .int .i64 0, .int .i64 0], .slice none 0 0, .int .i64 0, .bool false, .int .i64 0], []⟩ 8 (by kernel_rfl) (by kernel_rfl) (by kernel_rfl) (by kernel_rfl)) ?_
  intro W base args ds gs before hval0 hW hcnd _
  have hval : ∀ (j : Nat) t v, Try.f4.params[j]? = some t → args[j]? = some v → Value.okWide Try.prog W .any base t v := hval0
  have hW' := hW
  obtain ⟨p, q, hA0, hV, rfl, hfz, hnd⟩ := hW
  have hA : DataW.TrodAll enc Try.prog W 0 (fun _ => true) true Try.f4.params.toList args.toList ds p := hA0
  obtain ⟨rfl, rfl⟩ := trodVars_none hV
  simp only [List.append_nil] at hW'
  have hlt : ∀ x ∈ p, x.block < W.heap.size := fun x hx => by simpa using hW'.lt x hx
  have hargs : ∀ W', Ext W W' → DataW.TrodAll enc Try.prog W' 0 (fun b => decide (b < W.heap.size)) true Try.f4.params.toList args.toList ds p := fun W' hb => trodAll_ext Try.laidOut hb (by kernel_rfl) hA hlt
  clear hA0 hval0
  obtain ⟨args⟩ := args
  rw [Try.params4] at hA hval
  simp only at hA
  obtain ⟨v0, as0, d0, ds0, p0, q0, rfl, rfl, rfl, h0, hA0⟩ := trodAll_cons hA
  obtain ⟨v1, as1, d1, ds1, p1, q1, rfl, rfl, rfl, h1, hA1⟩ := trodAll_cons hA0
  obtain ⟨v2, as2, d2, ds2, p2, q2, rfl, rfl, rfl, h2, hA2⟩ := trodAll_cons hA1
  obtain ⟨v3, as3, d3, ds3, p3, q3, rfl, rfl, rfl, h3, hA3⟩ := trodAll_cons hA2
  obtain ⟨v4, as4, d4, ds4, p4, q4, rfl, rfl, rfl, h4, hA4⟩ := trodAll_cons hA3
  obtain ⟨v5, as5, d5, ds5, p5, q5, rfl, rfl, rfl, h5, hA5⟩ := trodAll_cons hA4
  obtain ⟨rfl, rfl, rfl⟩ := trodAll_nil hA5
  obtain ⟨B0, L0, A1, n1, c1, A2, n2, c2, rfl, hp0, hr0⟩ := open_chart (hval 0 37 v0 rfl rfl) h0
  obtain ⟨cs1, rfl, g1⟩ := open_struct Try.underlying41 (show ksOf Try.prog 6 41 = some [.int .i64, .int .i64, .int .i64, .int .i64, .int .i64, .int .i64, .int .i64] by kernel_rfl) (hval 1 41 v1 rfl rfl) h1
  obtain ⟨x1_0, us1_0, rfl, w1_0, g1⟩ := g1.int
  obtain ⟨x1_1, us1_1, rfl, w1_1, g1⟩ := g1.int
  obtain ⟨x1_2, us1_2, rfl, w1_2, g1⟩ := g1.int
  obtain ⟨x1_3, us1_3, rfl, w1_3, g1⟩ := g1.int
  obtain ⟨x1_4, us1_4, rfl, w1_4, g1⟩ := g1.int
  obtain ⟨x1_5, us1_5, rfl, w1_5, g1⟩ := g1.int
  obtain ⟨x1_6, us1_6, rfl, w1_6, g1⟩ := g1.int
  obtain rfl := g1.nil
  obtain ⟨A3, n3, c3, C0, rfl, hrc0⟩ := open_cast (hval 2 42 v2 rfl rfl) h2
  obtain ⟨a3, rfl, _, _, w3⟩ := open_int Try.underlying3 (hval 3 3 v3 rfl rfl) h3
  obtain ⟨bb4, rfl, _, _⟩ := Go.RowKit.open_bool Try.underlying4 (hval 4 4 v4 rfl rfl) h4
  obtain ⟨a5, rfl, _, _, w5⟩ := open_int Try.underlying3 (hval 5 3 v5 rfl rfl) h5
  refine (routeParts_T A1 A2 n1 c1 n2 c2 L0 W hr0 x1_0 x1_1 x1_2 x1_3 x1_4 x1_5 x1_6 A3 n3 c3 C0 hrc0 a3 bb4 a5).mono fun e W' ⟨he, hw⟩ => ?_
  subst he
  exact ⟨_, rfl, ⟨_, _, _, [], _, [], hW', trodAll_mk1 (shut_bool (by kernel_rfl) true), hargs W' hw, rfl, hw.frame _, fun h => by cases h⟩⟩
theorem routeParts_holds : Rows.RoutePartsSaid :=
  OpenClaim.holds_of_wide 4 Try.f4 rfl rfl rfl rfl rfl rfl rfl ⟨rfl, rfl, rfl, rfl, rfl⟩ rfl rfl rfl rfl rfl (by kernel_rfl) Try.func4 (by kernel_rfl)
    (of_decide_eq_true (by kernel_rfl)) (by unfold Func.isWrapper; first | (rw [if_pos (by decide +kernel)]; kernel_rfl) | (rw [if_neg (by decide +kernel)]; exact ⟨rfl, rfl⟩))
    (fun os started H enc _ => routeParts_lifted os started H enc)
#print axioms routeParts_holds
end Go.Proofs.Ytcjkndjjbjoehaa
