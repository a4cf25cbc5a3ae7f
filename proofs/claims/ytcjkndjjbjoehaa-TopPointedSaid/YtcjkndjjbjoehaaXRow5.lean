/- TopPointed returns true whatever the input, and leaves it as it was. -/
import Derived.Test.YtcjkndjjbjoehaaX5G
set_option linter.unusedVariables false
set_option linter.unusedSimpArgs false
set_option maxRecDepth 100000
set_option maxHeartbeats 2000000
namespace Go.Proofs.Ytcjkndjjbjoehaa
open Go.ChangeShapes Go.WideShapes Go.ChangeAt Go.RowKit
set_option linter.unusedVariables false
set_option linter.unusedSimpArgs false
set_option maxRecDepth 100000
theorem topPointed_lifted (os : Os) (started : os.Started) (H : Type) (enc : TypeId × Value → H) :
    ReturnsInHanded {} Try.checked os 5 .any (Rows.topPointedSpec.pre6 enc Try.prog Try.f5 Rows.topPointedRow.domain false) (Rows.topPointedSpec.post enc Try.prog Try.f5 false true false false) := by
  refine returnsInHanded_of_change (C := Try.checked) Try.own started (by kernel_rfl) Try.func5
    (ChangeSpec.witness6 (enc := enc) (C := Try.checked) false ⟨#[], #[.slice none 0 0, .agg #[.int .i64 0, .int .i64 0], .agg #[.int .i64 0, .int .i64 0], .int .i64 0, .int .u16 0, .int .u16 0], []⟩ 8 (by kernel_rfl) (by kernel_rfl) (by kernel_rfl) (by kernel_rfl)) ?_
  intro W base args ds gs before hval0 hW hcnd _
  have hval : ∀ (j : Nat) t v, Try.f5.params[j]? = some t → args[j]? = some v → Value.okWide Try.prog W .any base t v := hval0
  have hW' := hW
  obtain ⟨p, q, hA0, hV, rfl, hfz, hnd⟩ := hW
  have hA : DataW.TrodAll enc Try.prog W 0 (fun _ => true) true Try.f5.params.toList args.toList ds p := hA0
  obtain ⟨rfl, rfl⟩ := trodVars_none hV
  simp only [List.append_nil] at hW'
  have hlt : ∀ x ∈ p, x.block < W.heap.size := fun x hx => by simpa using hW'.lt x hx
  have hargs : ∀ W', Ext W W' → DataW.TrodAll enc Try.prog W' 0 (fun b => decide (b < W.heap.size)) true Try.f5.params.toList args.toList ds p := fun W' hb => trodAll_ext Try.laidOut hb (by kernel_rfl) hA hlt
  clear hA0 hval0
  obtain ⟨args⟩ := args
  rw [Try.params5] at hA hval
  simp only at hA
  obtain ⟨v0, as0, d0, ds0, p0, q0, rfl, rfl, rfl, h0, hA0⟩ := trodAll_cons hA
  obtain ⟨v1, as1, d1, ds1, p1, q1, rfl, rfl, rfl, h1, hA1⟩ := trodAll_cons hA0
  obtain ⟨v2, as2, d2, ds2, p2, q2, rfl, rfl, rfl, h2, hA2⟩ := trodAll_cons hA1
  obtain ⟨v3, as3, d3, ds3, p3, q3, rfl, rfl, rfl, h3, hA3⟩ := trodAll_cons hA2
  obtain ⟨v4, as4, d4, ds4, p4, q4, rfl, rfl, rfl, h4, hA4⟩ := trodAll_cons hA3
  obtain ⟨v5, as5, d5, ds5, p5, q5, rfl, rfl, rfl, h5, hA5⟩ := trodAll_cons hA4
  obtain ⟨rfl, rfl, rfl⟩ := trodAll_nil hA5
  obtain ⟨A0, n0, c0, rows0, rfl, hr0, hm0⟩ := open_rows Try.underlying59 (show ksOf Try.prog 6 142 = some [.int .i64, .int .i64, .int .i64, .int .i64, .int .i64, .int .i64] by kernel_rfl) (by kernel_rfl) (by decide) (hval 0 59 v0 rfl rfl) h0
  obtain ⟨l0, rfl, hp0⟩ := rows_ofP (f := glCells) (p := fun _ => True) (fun x hx => gl_open (hm0 x hx))
  obtain ⟨cs1, rfl, g1⟩ := open_struct Try.underlying39 (show ksOf Try.prog 6 39 = some [.int .i64, .int .i64] by kernel_rfl) (hval 1 39 v1 rfl rfl) h1
  obtain ⟨x1_0, us1_0, rfl, w1_0, g1⟩ := g1.int
  obtain ⟨x1_1, us1_1, rfl, w1_1, g1⟩ := g1.int
  obtain rfl := g1.nil
  obtain ⟨cs2, rfl, g2⟩ := open_struct Try.underlying61 (show ksOf Try.prog 6 61 = some [.int .i64, .int .i64] by kernel_rfl) (hval 2 61 v2 rfl rfl) h2
  obtain ⟨x2_0, us2_0, rfl, w2_0, g2⟩ := g2.int
  obtain ⟨x2_1, us2_1, rfl, w2_1, g2⟩ := g2.int
  obtain rfl := g2.nil
  obtain ⟨a3, rfl, _, _, w3⟩ := open_int Try.underlying3 (hval 3 3 v3 rfl rfl) h3
  obtain ⟨a4, rfl, _, _, w4⟩ := open_int Try.underlying62 (hval 4 62 v4 rfl rfl) h4
  obtain ⟨a5, rfl, _, _, w5⟩ := open_int Try.underlying62 (hval 5 62 v5 rfl rfl) h5
  have g4 := u16_in13 w4
  have g5 := u16_in13 w5
  obtain ⟨u, rfl⟩ := Int.eq_ofNat_of_zero_le g4.1
  obtain ⟨v, rfl⟩ := Int.eq_ofNat_of_zero_le g5.1
  refine (topPointed_T A0 n0 c0 l0 x1_0 x1_1 x2_0 x2_1 a3 u v (by omega) (by omega) W hr0 (open_cap (r := .any) Try.underlying59 h0)).mono fun e W' ⟨he, hw⟩ => ?_
  subst he
  exact ⟨_, rfl, ⟨_, _, _, [], _, [], hW', trodAll_mk1 (shut_bool (by kernel_rfl) true), hargs W' hw, rfl, hw.frame _, fun h => by cases h⟩⟩
theorem topPointed_holds : Rows.TopPointedSaid :=
  OpenClaim.holds_of_wide 5 Try.f5 rfl rfl rfl rfl rfl rfl rfl ⟨rfl, rfl, rfl, rfl, rfl⟩ rfl rfl rfl rfl rfl (by kernel_rfl) Try.func5 (by kernel_rfl)
    (of_decide_eq_true (by kernel_rfl)) (by unfold Func.isWrapper; first | (rw [if_pos (by decide +kernel)]; kernel_rfl) | (rw [if_neg (by decide +kernel)]; exact ⟨rfl, rfl⟩))
    (fun os started H enc _ => topPointed_lifted os started H enc)
#print axioms topPointed_holds
end Go.Proofs.Ytcjkndjjbjoehaa
