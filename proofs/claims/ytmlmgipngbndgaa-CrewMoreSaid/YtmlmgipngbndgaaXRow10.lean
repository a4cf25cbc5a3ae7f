/- CrewMore returns true whatever the input: more shifts take no case away, and the order of shifts does not matter. No condition. -/
import Derived.Test.YtmlmgipngbndgaaX10I
import Derived.Test.YtmlmgipngbndgaaX10G
namespace Go.Proofs.Ytmlmgipngbndgaa
open Go.ChangeShapes Go.WideShapes Go.ChangeAt Go.RowKit
set_option linter.unusedVariables false
set_option linter.unusedSimpArgs false
set_option maxRecDepth 100000
theorem sh_open {x : List Value} (h : LfsOk [.int .i64, .int .i64, .int .i64] x) : ∃ y : Sh, x = shCells y ∧ True := by
  obtain ⟨z0, u0, rfl, _, h⟩ := h.int
  obtain ⟨z1, u1, rfl, _, h⟩ := h.int
  obtain ⟨z2, u2, rfl, _, h⟩ := h.int
  obtain rfl := h.nil
  exact ⟨⟨z0, z1, z2⟩, rfl, trivial⟩
theorem open_nilO {H : Type} {enc : TypeId × Value → H} {P : Program} {W : World} {held : Bool} {t e : TypeId} {A : Option Addr} {m c : Nat} {d : DataW H} {p : List MemPlace} (hs : P.underlying t = some (.slice e))
    (h : DataW.Trod enc P W 0 (fun _ => true) held t (.slice A m c) d p) : A = none → m = 0 ∧ c = 0 := by
  obtain ⟨fuel, hf⟩ := h
  intro hA
  rcases Go.Deep.open_slice hs hf with ⟨h1, _⟩ | ⟨a, len, cap, m', k, D, Pl, h1, _, hlc, _⟩
  · simp only [Value.cells, List.cons.injEq, Value.slice.injEq, and_true] at h1
    omega
  · simp only [Value.cells, List.cons.injEq, Value.slice.injEq, and_true] at h1
    rw [h1.1] at hA
    cases hA
theorem crewMore_lifted (os : Os) (started : os.Started) (H : Type) (enc : TypeId × Value → H) :
    ReturnsInHanded {} Try.checked os 10 .any (Rows.crewMoreSpec.pre6 enc Try.prog Try.f10 Rows.crewMoreRow.domain false) (Rows.crewMoreSpec.post enc Try.prog Try.f10 false true false false) := by
  refine returnsInHanded_of_change (C := Try.checked) Try.own started (by kernel_rfl) Try.func10
    (ChangeSpec.witness6 (enc := enc) (C := Try.checked) false ⟨#[], #[.agg #[.int .i64 0, .int .i64 0, .int .i64 0, .int .i64 0], .slice none 0 0, .agg #[.int .i64 0, .int .i64 0, .int .i64 0]], []⟩ 8 (by kernel_rfl) (by kernel_rfl) (by kernel_rfl) (by kernel_rfl)) ?_
  intro W base args ds gs before hval0 hW hcnd _
  have hval : ∀ (j : Nat) t v, Try.f10.params[j]? = some t → args[j]? = some v → Value.okWide Try.prog W .any base t v := hval0
  have hW' := hW
  obtain ⟨p, q, hA0, hV, rfl, hfz, hnd⟩ := hW
  have hA : DataW.TrodAll enc Try.prog W 0 (fun _ => true) true Try.f10.params.toList args.toList ds p := hA0
  obtain ⟨rfl, rfl⟩ := trodVars_none hV
  simp only [List.append_nil] at hW'
  have hlt : ∀ x ∈ p, x.block < W.heap.size := fun x hx => by simpa using hW'.lt x hx
  have hargs : ∀ W', Ext W W' → DataW.TrodAll enc Try.prog W' 0 (fun b => decide (b < W.heap.size)) true Try.f10.params.toList args.toList ds p := fun W' hb => trodAll_ext Try.laidOut hb (by kernel_rfl) hA hlt
  clear hA0 hval0
  obtain ⟨args⟩ := args
  rw [Try.params10] at hA hval
  simp only at hA
  obtain ⟨v0, as0, d0, ds0, p0, q0, rfl, rfl, rfl, h0, hA0⟩ := trodAll_cons hA
  obtain ⟨v1, as1, d1, ds1, p1, q1, rfl, rfl, rfl, h1, hA1⟩ := trodAll_cons hA0
  obtain ⟨v2, as2, d2, ds2, p2, q2, rfl, rfl, rfl, h2, hA2⟩ := trodAll_cons hA1
  obtain ⟨rfl, rfl, rfl⟩ := trodAll_nil hA2
  obtain ⟨cs0, rfl, g0⟩ := open_struct Try.underlying74 (show ksOf Try.prog 6 74 = some [.int .i64, .int .i64, .int .i64, .int .i64] by kernel_rfl) (hval 0 74 v0 rfl rfl) h0
  obtain ⟨x0_0, us0_0, rfl, w0_0, g0⟩ := g0.int
  obtain ⟨x0_1, us0_1, rfl, w0_1, g0⟩ := g0.int
  obtain ⟨x0_2, us0_2, rfl, w0_2, g0⟩ := g0.int
  obtain ⟨x0_3, us0_3, rfl, w0_3, g0⟩ := g0.int
  obtain rfl := g0.nil
  obtain ⟨A1, n1, c1, rows1, rfl, hr1, hm1⟩ := open_rows Try.underlying75 (show ksOf Try.prog 6 101 = some [.int .i64, .int .i64, .int .i64] by kernel_rfl) (by kernel_rfl) (by decide) (hval 1 75 v1 rfl rfl) h1
  obtain ⟨l1, rfl, hp1⟩ := rows_ofP (f := shCells) (p := fun _ => True) (fun x hx => sh_open (hm1 x hx))
  obtain ⟨cs2, rfl, g2⟩ := open_struct Try.underlying101 (show ksOf Try.prog 6 101 = some [.int .i64, .int .i64, .int .i64] by kernel_rfl) (hval 2 101 v2 rfl rfl) h2
  obtain ⟨x2_0, us2_0, rfl, w2_0, g2⟩ := g2.int
  obtain ⟨x2_1, us2_1, rfl, w2_1, g2⟩ := g2.int
  obtain ⟨x2_2, us2_2, rfl, w2_2, g2⟩ := g2.int
  obtain rfl := g2.nil
  refine (crewMore_T ⟨x0_0, x0_1, x0_2, x0_3⟩ A1 n1 c1 l1 ⟨x2_0, x2_1, x2_2⟩ W hr1 (open_nilO Try.underlying75 h1)).mono fun e W' ⟨he, hw⟩ => ?_
  subst he
  exact ⟨_, rfl, ⟨_, _, _, [], _, [], hW', trodAll_mk1 (shut_bool (by kernel_rfl) true), hargs W' hw, rfl, hw.frame _, fun h => by cases h⟩⟩
theorem crewMore_holds : Rows.CrewMoreSaid :=
  OpenClaim.holds_of_wide 10 Try.f10 rfl rfl rfl rfl rfl rfl rfl ⟨rfl, rfl, rfl, rfl, rfl⟩ rfl rfl rfl rfl rfl (by kernel_rfl) Try.func10 (by kernel_rfl)
    (of_decide_eq_true (by kernel_rfl)) (by unfold Func.isWrapper; first | (rw [if_pos (by decide +kernel)]; kernel_rfl) | (rw [if_neg (by decide +kernel)]; exact ⟨rfl, rfl⟩))
    (fun os started H enc _ => crewMore_lifted os started H enc)
#print axioms crewMore_holds
end Go.Proofs.Ytmlmgipngbndgaa
