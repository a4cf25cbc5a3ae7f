/- CrewLate returns true whatever the input: what is left is told flight by flight. No condition. -/
import Derived.Test.YtmlmgipngbndgaaPkA
import Derived.Test.YtmlmgipngbndgaaChecked
import Derived.Test.YtmlmgipngbndgaaRows
import Derived.ProofKit
import Derived.Lib.SmallJoins
import Derived.Carry
import Derived.Test.YtmlmgipngbndgaaLRow15
import Derived.Test.YtmlmgipngbndgaaPkN
import Derived.Test.YtmlmgipngbndgaaPkB
/- Arguments are read again behind a call that only adds to the world. -/
namespace Go.Proofs.Ytmlmgipngbndgaa
open Go.ChangeShapes Go.WideShapes Go.ChangeAt Go.RowKit
set_option maxRecDepth 100000

theorem Try.own : ownKnob Try.prog.godebug = none := by kernel_rfl
theorem Try.laidOut : laidOutB Try.prog = true := by kernel_rfl
section
variable {H : Type} {enc : TypeId × Value → H} {P : Program}
theorem trodAll_ext (hl : laidOutB P = true) {W W' : World} (hb : Ext W W') : ∀ {ts : List TypeId} {vs : List Value} {ds : List (DataW H)} {p : List MemPlace}, (ts.all fun t => P.readableRec t && decide (t < P.types.size)) = true →
    DataW.TrodAll enc P W 0 (fun _ => true) true ts vs ds p → (∀ x ∈ p, x.block < W.heap.size) → DataW.TrodAll enc P W' 0 (fun b => decide (b < W.heap.size)) true ts vs ds p
  | [], vs, ds, p, _, h, _ => by
    obtain ⟨rfl, rfl, rfl⟩ := trodAll_nil h
    exact trodAll_mk0
  | t :: ts, vs, ds, p, ht, h, hlt => by
    obtain ⟨v, vs', d, ds', p0, q0, rfl, rfl, rfl, h1, h2⟩ := trodAll_cons h
    simp only [List.all_cons, Bool.and_eq_true, decide_eq_true_eq] at ht
    exact ⟨p0, q0, Below.trod hl ht.1.1 ht.1.2 h1 hb (fun x hx => hlt x (List.mem_append_left _ hx)), trodAll_ext hl hb ht.2 h2 (fun x hx => hlt x (List.mem_append_right _ hx)), rfl⟩
end
end Go.Proofs.Ytmlmgipngbndgaa
/- CrewLate returns true whatever the input, and leaves it as it was. No condition. -/
namespace Go.Proofs.Ytmlmgipngbndgaa
open Go.ChangeShapes Go.WideShapes Go.ChangeAt Go.RowKit
set_option linter.unusedVariables false
set_option linter.unusedSimpArgs false
set_option maxRecDepth 100000

theorem u8_open {x : List Value} (h : LfsOk [.int .u8] x) : ∃ y : Int, x = u8Cells y ∧ (0 ≤ y ∧ y ≤ 255) := by
  obtain ⟨z0, u0, rfl, hw, h⟩ := h.int
  obtain rfl := h.nil
  refine ⟨z0, rfl, ?_⟩
  simp only [Lit.wf, Bool.and_eq_true, decide_eq_true_eq] at hw
  exact hw
theorem open_nilO {H : Type} {enc : TypeId × Value → H} {P : Program} {W : World} {held : Bool} {t e : TypeId} {A : Option Addr} {m c : Nat} {d : DataW H} {p : List MemPlace} (hs : P.underlying t = some (.slice e))
    (h : DataW.Trod enc P W 0 (fun _ => true) held t (.slice A m c) d p) : A = none → m = 0 ∧ c = 0 := by
  obtain ⟨fuel, hf⟩ := h
  intro hA
  rcases Go.Deep.open_slice hs hf with ⟨h1, _⟩ | ⟨a, len, cap, m', k, D, Pl, h1, _, hlc, _⟩
  · simp only [Value.cells, List.cons.injEq, Value.slice.injEq, and_true] at h1
    omega
  · simp only [Value.cells, List.cons.injEq, Value.slice.injEq, and_true] at h1
    rw [h1.1] at hA
    cases hA
theorem crewLate_lifted (os : Os) (started : os.Started) (H : Type) (enc : TypeId × Value → H) :
    ReturnsInHanded {} Try.checked os 15 .any (Rows.crewLateSpec.pre6 enc Try.prog Try.f15 Rows.crewLateRow.domain false) (Rows.crewLateSpec.post enc Try.prog Try.f15 false true false false) := by
  refine returnsInHanded_of_change (C := Try.checked) Try.own started (by kernel_rfl) Try.func15
    (ChangeSpec.witness6 (enc := enc) (C := Try.checked) false ⟨#[], #[.agg #[.int .i64 0, .int .i64 0, .int .i64 0], .slice none 0 0, .slice none 0 0, .int .i64 0], []⟩ 8 (by kernel_rfl) (by kernel_rfl) (by kernel_rfl) (by kernel_rfl)) ?_
  intro W base args ds gs before hval0 hW hcnd _
  have hval : ∀ (j : Nat) t v, Try.f15.params[j]? = some t → args[j]? = some v → Value.okWide Try.prog W .any base t v := hval0
  have hW' := hW
  obtain ⟨p, q, hA0, hV, rfl, hfz, hnd⟩ := hW
  have hA : DataW.TrodAll enc Try.prog W 0 (fun _ => true) true Try.f15.params.toList args.toList ds p := hA0
  obtain ⟨rfl, rfl⟩ := trodVars_none hV
  simp only [List.append_nil] at hW'
  have hlt : ∀ x ∈ p, x.block < W.heap.size := fun x hx => by simpa using hW'.lt x hx
  have hargs : ∀ W', Ext W W' → DataW.TrodAll enc Try.prog W' 0 (fun b => decide (b < W.heap.size)) true Try.f15.params.toList args.toList ds p := fun W' hb => trodAll_ext Try.laidOut hb (by kernel_rfl) hA hlt
  clear hA0 hval0
  obtain ⟨args⟩ := args
  rw [Try.params15] at hA hval
  simp only at hA
  obtain ⟨v0, as0, d0, ds0, p0, q0, rfl, rfl, rfl, h0, hA0⟩ := trodAll_cons hA
  obtain ⟨v1, as1, d1, ds1, p1, q1, rfl, rfl, rfl, h1, hA1⟩ := trodAll_cons hA0
  obtain ⟨v2, as2, d2, ds2, p2, q2, rfl, rfl, rfl, h2, hA2⟩ := trodAll_cons hA1
  obtain ⟨v3, as3, d3, ds3, p3, q3, rfl, rfl, rfl, h3, hA3⟩ := trodAll_cons hA2
  obtain ⟨rfl, rfl, rfl⟩ := trodAll_nil hA3
  obtain ⟨cs0, rfl, g0⟩ := open_struct Try.underlying40 (show ksOf Try.prog 6 40 = some [.int .i64, .int .i64, .int .i64] by kernel_rfl) (hval 0 40 v0 rfl rfl) h0
  obtain ⟨x0_0, us0_0, rfl, w0_0, g0⟩ := g0.int
  obtain ⟨x0_1, us0_1, rfl, w0_1, g0⟩ := g0.int
  obtain ⟨x0_2, us0_2, rfl, w0_2, g0⟩ := g0.int
  obtain rfl := g0.nil
  obtain ⟨A1, n1, c1, rows1, rfl, hr1, hm1⟩ := open_rows Try.underlying41 (show ksOf Try.prog 6 3 = some [.int .i64] by kernel_rfl) (by kernel_rfl) (by decide) (hval 1 41 v1 rfl rfl) h1
  obtain ⟨l1, rfl, hp1⟩ := rows_ofP (f := inCells) (p := fun _ => True) (fun x hx => in_open (hm1 x hx))
  obtain ⟨A2, n2, c2, rows2, rfl, hr2, hm2⟩ := open_rows Try.underlying109 (show ksOf Try.prog 6 5 = some [.int .u8] by kernel_rfl) (by kernel_rfl) (by decide) (hval 2 109 v2 rfl rfl) h2
  obtain ⟨l2, rfl, hp2⟩ := rows_ofP (f := u8Cells) (p := fun z => 0 ≤ z ∧ z ≤ 255) (fun x hx => u8_open (hm2 x hx))
  obtain ⟨a3, rfl, _, _, w3⟩ := open_int Try.underlying3 (hval 3 3 v3 rfl rfl) h3
  refine (crewLate_T W x0_0 x0_1 x0_2 A1 n1 c1 l1 hr1 A2 n2 c2 l2 hr2 (open_nilO Try.underlying41 h1) (open_cap (r := .any) Try.underlying41 h1) a3).mono fun e W' ⟨he, hw⟩ => ?_
  subst he
  exact ⟨_, rfl, ⟨_, _, _, [], _, [], hW', trodAll_mk1 (shut_bool (by kernel_rfl) true), hargs W' hw, rfl, hw.frame _, fun h => by cases h⟩⟩

theorem crewLate_holds : Rows.CrewLateSaid :=
  OpenClaim.holds_of_wide 15 Try.f15 rfl rfl rfl rfl rfl rfl rfl ⟨rfl, rfl, rfl, rfl, rfl⟩ rfl rfl rfl rfl rfl (by kernel_rfl) Try.func15 (by kernel_rfl)
    (of_decide_eq_true (by kernel_rfl)) (by unfold Func.isWrapper; first | (rw [if_pos (by decide +kernel)]; kernel_rfl) | (rw [if_neg (by decide +kernel)]; exact ⟨rfl, rfl⟩))
    (fun os started H enc _ => crewLate_lifted os started H enc)
#print axioms crewLate_holds
end Go.Proofs.Ytmlmgipngbndgaa
