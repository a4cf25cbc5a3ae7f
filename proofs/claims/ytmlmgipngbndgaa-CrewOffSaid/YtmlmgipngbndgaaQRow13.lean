/- A departure called off, one that leaves, a booking sold and cancelled: CrewOff returns true whatever the input. -/
import Derived.Test.YtmlmgipngbndgaaPkB
import Derived.Test.YtmlmgipngbndgaaPkC
import Derived.Test.YtmlmgipngbndgaaPkA
import Derived.Test.YtmlmgipngbndgaaChecked
import Derived.Test.YtmlmgipngbndgaaRows
import Derived.ProofKit
import Derived.Lib.SmallJoins
import Derived.Carry
import Derived.Test.YtmlmgipngbndgaaLRow13
/- An office as an argument: a struct that holds slices. -/
namespace Go.Proofs.Ytmlmgipngbndgaa
open Go.ChangeShapes Go.WideShapes Go.ChangeAt Go.RowKit
set_option linter.unusedVariables false
set_option maxRecDepth 100000
set_option linter.unusedSimpArgs false
section
variable {H : Type} {enc : TypeId × Value → H} {P : Program} {W : World} {held : Bool}
theorem open_rowsT {t e : TypeId} {n fuel : Nat} {ks : List Lf} {cs : List Value} {x : DataW H × List MemPlace} (hs : P.underlying t = some (.slice e)) (hk : ksOf P n e = some ks) (hc : P.cellsOf e = ks.length) (hpos : 0 < ks.length)
    (hf : DataW.trod enc P W 0 (fun _ => true) held fuel t cs = some x) :
    ∃ (A : Option Addr) (m c : Nat) (rows : List (List Value)), cs = [.slice A m c] ∧ RdS W ks.length A m rows ∧ (A = none → m = 0 ∧ c = 0) ∧ ∀ x ∈ rows, LfsOk ks x := by
  rcases Go.Deep.open_slice hs hf with ⟨h1, _⟩ | ⟨a, m, c, m', k, D, Pl, h1, _, hlc, _, hm, _, hi⟩
  · exact ⟨none, 0, 0, [], h1, RdS.nil _ _ _, fun _ => ⟨rfl, rfl⟩, fun x hx => (List.not_mem_nil hx).elim⟩
  · simp only [if_true] at hm
    subst hm
    rw [hc] at hi
    have key : ∀ i, i < m → ∃ y : List Value, LfsOk ks y ∧ ∀ j u, y[j]? = some u → W.cell? ((a.add (i * ks.length)).add j) = some u := fun i hin => by
      obtain ⟨cs, hc, ht⟩ := hi i (by omega)
      obtain ⟨_, hlc, hat⟩ := World.cells?_some hc
      exact ⟨cs, ksOf_ok hk ht, fun j u hu => by rw [hat j (by rw [← hlc]; exact (List.getElem?_eq_some_iff.1 hu).1)]; exact hu⟩
    let f : Nat → List Value := fun i => if h : i < m then Classical.choose (key i h) else []
    have hfk : ∀ i, i < m → LfsOk ks (f i) ∧ ∀ j u, (f i)[j]? = some u → W.cell? ((a.add (i * ks.length)).add j) = some u := fun i hin => by
      simp only [f, dif_pos hin]
      exact Classical.choose_spec (key i hin)
    have hmem : ∀ x ∈ (List.range m).map f, LfsOk ks x := fun x hx => by
      obtain ⟨i, hi, rfl⟩ := List.mem_map.1 hx
      exact (hfk i (List.mem_range.1 hi)).1
    refine ⟨some a, m, _, (List.range m).map f, h1, ⟨by simp, fun h0 => ?_⟩, fun h => (by cases h), hmem⟩
    have l0 := (hfk 0 h0).1.len
    have c0 := (hfk 0 h0).2 0 _ (List.getElem?_eq_getElem (by omega))
    obtain ⟨b, o, sp⟩ := a
    have hsp : sp = none := by simpa [Addr.add] using World.cell?_spot c0
    subst hsp
    refine ⟨b, o, rfl, by simpa [Addr.add] using cell_lt c0, fun i x hx => ⟨(hmem x (List.mem_of_getElem? hx)).len, fun j u hu => ?_⟩⟩
    rw [List.getElem?_map, Option.map_eq_some_iff] at hx
    obtain ⟨i', h2, rfl⟩ := hx
    obtain ⟨h3, h4⟩ := List.getElem?_eq_some_iff.1 h2
    simp only [List.getElem_range, List.length_range] at h3 h4
    subst h4
    have := (hfk i h3).2 j u hu
    rw [add_eq, add_eq] at this
    exact this
theorem dep_openO {x : List Value} (h : LfsOk [.int .i64, .int .i64, .int .i64, .int .u8] x) : ∃ y : Dep, x = depCells y ∧ 0 ≤ y.state := by
  obtain ⟨z0, u0, rfl, _, h⟩ := h.int
  obtain ⟨z1, u1, rfl, _, h⟩ := h.int
  obtain ⟨z2, u2, rfl, _, h⟩ := h.int
  obtain ⟨z3, u3, rfl, hw, h⟩ := h.int
  obtain rfl := h.nil
  refine ⟨⟨z0, z1, z2, z3⟩, rfl, ?_⟩
  have h2 : 0 ≤ z3 := by
    simp only [Lit.wf, Bool.and_eq_true, decide_eq_true_eq] at hw
    exact hw.1
  exact h2
theorem bk_openO {x : List Value} (h : LfsOk [.int .i64, .int .u8, .int .i64] x) : ∃ y : Bk, x = bkCells y ∧ True := by
  obtain ⟨z0, u0, rfl, _, h⟩ := h.int
  obtain ⟨z1, u1, rfl, _, h⟩ := h.int
  obtain ⟨z2, u2, rfl, _, h⟩ := h.int
  obtain rfl := h.nil
  exact ⟨⟨z0, z1, z2⟩, rfl, trivial⟩
theorem sing {a b : Value} (h : [a] = [b]) : a = b := by simpa using h
theorem list7 {l : List Value} (h : l.length = 7) : ∃ a b c d e f g, l = [a, b, c, d, e, f, g] := by
  match l, h with
  | [a, b, c, d, e, f, g], _ => exact ⟨a, b, c, d, e, f, g, rfl⟩
theorem open_off {r : Reach} {b0 : Nat} {v : Value} {d : DataW H} {p : List MemPlace} (hv : Value.okWide Try.prog W r b0 25 v) (h : DataW.Trod enc Try.prog W 0 (fun _ => true) held 25 v d p) :
    ∃ (o : Off) (A : Option Addr) (cf : Nat) (B : Option Addr) (cb : Nat), v = .agg ⟨offCells o A cf B cb⟩ ∧ RdS W 4 A o.fl.length (o.fl.map depCells) ∧ RdS W 3 B o.bk.length (o.bk.map bkCells) ∧ (A = none → o.fl.length = 0 ∧ cf = 0) ∧ (B = none → o.bk.length = 0 ∧ cb = 0) ∧ ∀ d ∈ o.fl, 0 ≤ d.state := by
  obtain ⟨cs, rfl, _⟩ := okWide_struct Try.underlying25 hv
  obtain ⟨fuel, hf⟩ := h
  obtain ⟨cs⟩ := cs
  have hf' : DataW.trod enc Try.prog W 0 (fun _ => true) held fuel 25 cs = some (d, p) := hf
  obtain ⟨xs, k, _, _, hl, hlen, hx⟩ := DataW.trod_struct Try.underlying25 hf'
  have c25 : Try.prog.cellsOf 25 = 7 := by kernel_rfl
  have c3 : Try.prog.cellsOf 3 = 1 := by kernel_rfl
  have c22 : Try.prog.cellsOf 22 = 1 := by kernel_rfl
  have c23 : Try.prog.cellsOf 23 = 1 := by kernel_rfl
  rw [c25] at hl
  obtain ⟨v0, v1, v2, v3, v4, v5, v6, rfl⟩ := list7 hl
  have h7 : xs.length = 7 := hlen
  have u3 : Try.prog.underlying 3 = some (.int .i64) := Try.underlying3
  have g0 := hx 0 _ rfl
  have g1 := hx 1 _ rfl
  have g2 := hx 2 _ rfl
  have g3 := hx 3 _ rfl
  have g4 := hx 4 _ rfl
  have g5 := hx 5 _ rfl
  have g6 := hx 6 _ rfl
  rw [List.getElem?_eq_getElem (by omega)] at g0 g1 g2 g3 g4 g5 g6
  obtain ⟨z0, e0, _, _⟩ := DataW.trod_int u3 g0
  obtain ⟨z1, e1, _, _⟩ := DataW.trod_int u3 g1
  obtain ⟨z2, e2, _, _⟩ := DataW.trod_int u3 g2
  obtain ⟨z5, e5, _, _⟩ := DataW.trod_int u3 g5
  obtain ⟨z6, e6, _, _⟩ := DataW.trod_int u3 g6
  obtain ⟨A, n1, cf, rows1, e3, hr1, hn1, hm1⟩ := open_rowsT Try.underlying22 (show ksOf Try.prog 6 106 = some [.int .i64, .int .i64, .int .i64, .int .u8] by kernel_rfl) (by kernel_rfl) (by decide) g3
  obtain ⟨B, n2, cb, rows2, e4, hr2, hn2, hm2⟩ := open_rowsT Try.underlying23 (show ksOf Try.prog 6 71 = some [.int .i64, .int .u8, .int .i64] by kernel_rfl) (by kernel_rfl) (by decide) g4
  obtain ⟨l1, rfl, hp1⟩ := rows_ofP (f := depCells) (p := fun y => 0 ≤ y.state) (fun x hx => dep_openO (hm1 x hx))
  obtain ⟨l2, rfl, hp2⟩ := rows_ofP (f := bkCells) (p := fun _ => True) (fun x hx => bk_openO (hm2 x hx))
  have q1 := hr1.len
  have q2 := hr2.len
  simp only [List.length_map] at q1 q2
  subst q1 q2
  have e0' : [v0] = [.int .i64 z0] := e0
  have e1' : [v1] = [.int .i64 z1] := e1
  have e2' : [v2] = [.int .i64 z2] := e2
  have e3' : [v3] = [.slice A l1.length cf] := e3
  have e4' : [v4] = [.slice B l2.length cb] := e4
  have e5' : [v5] = [.int .i64 z5] := e5
  have e6' : [v6] = [.int .i64 z6] := e6
  clear e0 e1 e2 e3 e4 e5 e6 g0 g1 g2 g3 g4 g5 g6
  obtain rfl := sing e0'
  obtain rfl := sing e1'
  obtain rfl := sing e2'
  obtain rfl := sing e3'
  obtain rfl := sing e4'
  obtain rfl := sing e5'
  obtain rfl := sing e6'
  exact ⟨⟨z0, z1, z2, z5, z6, l1, l2⟩, A, cf, B, cb, rfl, hr1, hr2, hn1, hn2, hp1⟩
end
end Go.Proofs.Ytmlmgipngbndgaa
/- Arguments are read again behind a call that only adds to the world. -/
namespace Go.Proofs.Ytmlmgipngbndgaa
open Go.ChangeShapes Go.WideShapes Go.ChangeAt Go.RowKit
set_option maxRecDepth 100000

theorem Try.own : ownKnob Try.prog.godebug = none := by kernel_rfl
theorem Try.laidOut : laidOutB Try.prog = true := by kernel_rfl
section
variable {H : Type} {enc : TypeId × Value → H} {P : Program}
theorem trodAll_ext (hl : laidOutB P = true) {W W' : World} (hb : Ext W W') : ∀ {ts : List TypeId} {vs : List Value} {ds : List (DataW H)} {p : List MemPlace}, (ts.all fun t => P.readableRec t && decide (t < P.types.size)) = true →
    DataW.TrodAll enc P W 0 (fun _ => true) true ts vs ds p → (∀ x ∈ p, x.block < W.heap.size) → DataW.TrodAll enc P W' 0 (fun b => decide (b < W.heap.size)) true ts vs ds p
  | [], vs, ds, p, _, h, _ => by
    obtain ⟨rfl, rfl, rfl⟩ := trodAll_nil h
    exact trodAll_mk0
  | t :: ts, vs, ds, p, ht, h, hlt => by
    obtain ⟨v, vs', d, ds', p0, q0, rfl, rfl, rfl, h1, h2⟩ := trodAll_cons h
    simp only [List.all_cons, Bool.and_eq_true, decide_eq_true_eq] at ht
    exact ⟨p0, q0, Below.trod hl ht.1.1 ht.1.2 h1 hb (fun x hx => hlt x (List.mem_append_left _ hx)), trodAll_ext hl hb ht.2 h2 (fun x hx => hlt x (List.mem_append_right _ hx)), rfl⟩
end
end Go.Proofs.Ytmlmgipngbndgaa
/- CrewOff returns true whatever the input, and leaves it as it was. No condition. -/
namespace Go.Proofs.Ytmlmgipngbndgaa
open Go.ChangeShapes Go.WideShapes Go.ChangeAt Go.RowKit
set_option linter.unusedVariables false
set_option linter.unusedSimpArgs false
set_option maxRecDepth 100000

theorem crewOff_lifted (os : Os) (started : os.Started) (H : Type) (enc : TypeId × Value → H) :
    ReturnsInHanded {} Try.checked os 13 .any (Rows.crewOffSpec.pre6 enc Try.prog Try.f13 Rows.crewOffRow.domain false) (Rows.crewOffSpec.post enc Try.prog Try.f13 false true false false) := by
  refine returnsInHanded_of_change (C := Try.checked) Try.own started (by kernel_rfl) Try.func13
    (ChangeSpec.witness6 (enc := enc) (C := Try.checked) false ⟨#[], #[.agg #[.int .i64 0, .int .i64 0, .int .i64 0, .slice none 0 0, .slice none 0 0, .int .i64 0, .int .i64 0], .int .i64 0], []⟩ 8 (by kernel_rfl) (by kernel_rfl) (by kernel_rfl) (by kernel_rfl)) ?_
  intro W base args ds gs before hval0 hW hcnd _
  have hval : ∀ (j : Nat) t v, Try.f13.params[j]? = some t → args[j]? = some v → Value.okWide Try.prog W .any base t v := hval0
  have hW' := hW
  obtain ⟨p, q, hA0, hV, rfl, hfz, hnd⟩ := hW
  have hA : DataW.TrodAll enc Try.prog W 0 (fun _ => true) true Try.f13.params.toList args.toList ds p := hA0
  obtain ⟨rfl, rfl⟩ := trodVars_none hV
  simp only [List.append_nil] at hW'
  have hlt : ∀ x ∈ p, x.block < W.heap.size := fun x hx => by simpa using hW'.lt x hx
  have hargs : ∀ W', Ext W W' → DataW.TrodAll enc Try.prog W' 0 (fun b => decide (b < W.heap.size)) true Try.f13.params.toList args.toList ds p := fun W' hb => trodAll_ext Try.laidOut hb (by kernel_rfl) hA hlt
  clear hA0 hval0
  obtain ⟨args⟩ := args
  rw [Try.params13] at hA hval
  simp only at hA
  obtain ⟨v0, as0, d0, ds0, p0, q0, rfl, rfl, rfl, h0, hA0⟩ := trodAll_cons hA
  obtain ⟨v1, as1, d1, ds1, p1, q1, rfl, rfl, rfl, h1, hA1⟩ := trodAll_cons hA0
  obtain ⟨rfl, rfl, rfl⟩ := trodAll_nil hA1
  obtain ⟨o0, A0, cf0, B0, cb0, rfl, ha0, hb0, hna0, hnb0, hu0⟩ := open_off (hval 0 25 v0 rfl rfl) h0
  obtain ⟨a1, rfl, _, _, w1⟩ := open_int Try.underlying3 (hval 1 3 v1 rfl rfl) h1
  refine (crewOff_T o0 A0 cf0 B0 cb0 W ha0 hb0 hna0 hnb0 hu0 a1).mono fun e W' ⟨he, hw⟩ => ?_
  subst he
  exact ⟨_, rfl, ⟨_, _, _, [], _, [], hW', trodAll_mk1 (shut_bool (by kernel_rfl) true), hargs W' hw, rfl, hw.frame _, fun h => by cases h⟩⟩

theorem crewOff_holds : Rows.CrewOffSaid :=
  OpenClaim.holds_of_wide 13 Try.f13 rfl rfl rfl rfl rfl rfl rfl ⟨rfl, rfl, rfl, rfl, rfl⟩ rfl rfl rfl rfl rfl (by kernel_rfl) Try.func13 (by kernel_rfl)
    (of_decide_eq_true (by kernel_rfl)) (by unfold Func.isWrapper; first | (rw [if_pos (by decide +kernel)]; kernel_rfl) | (rw [if_neg (by decide +kernel)]; exact ⟨rfl, rfl⟩))
    (fun os started H enc _ => crewOff_lifted os started H enc)
#print axioms crewOff_holds
end Go.Proofs.Ytmlmgipngbndgaa
