/- Arguments are read, and read again behind a call that only adds to the world. -/
import Derived.Test.YtalidommelefaaaAir2
import Derived.Test.YtalidommelefaaaRows
import Derived.ProofKit
import Derived.Lib.SmallJoins
import Derived.Carry
namespace Go.Proofs.Ytalidommelefaaa
open Go.ChangeShapes Go.WideShapes Go.ChangeAt Go.RowKit
set_option maxRecDepth 100000

theorem Try.own : ownKnob Try.prog.godebug = none := by kernel_rfl
theorem Try.laidOut : laidOutB Try.prog = true := by kernel_rfl
theorem Try.cells3 : Try.prog.cellsOf 3 = 1 := by kernel_rfl
theorem Try.cells26 : Try.prog.cellsOf 26 = 2 := by kernel_rfl
theorem Try.cells102 : Try.prog.cellsOf 102 = 6 := by kernel_rfl

section
variable {H : Type} {enc : TypeId × Value → H} {P : Program}
theorem trodAll_ext (hl : laidOutB P = true) {W W' : World} (hb : Ext W W') : ∀ {ts : List TypeId} {vs : List Value} {ds : List (DataW H)} {p : List MemPlace}, (ts.all fun t => P.readableRec t && decide (t < P.types.size)) = true →
    DataW.TrodAll enc P W 0 (fun _ => true) true ts vs ds p → (∀ x ∈ p, x.block < W.heap.size) → DataW.TrodAll enc P W' 0 (fun b => decide (b < W.heap.size)) true ts vs ds p
  | [], vs, ds, p, _, h, _ => by
    obtain ⟨rfl, rfl, rfl⟩ := trodAll_nil h
    exact trodAll_mk0
  | t :: ts, vs, ds, p, ht, h, hlt => by
    obtain ⟨v, vs', d, ds', p0, q0, rfl, rfl, rfl, h1, h2⟩ := trodAll_cons h
    simp only [List.all_cons, Bool.and_eq_true, decide_eq_true_eq] at ht
    exact ⟨p0, q0, Below.trod hl ht.1.1 ht.1.2 h1 hb (fun x hx => hlt x (List.mem_append_left _ hx)), trodAll_ext hl hb ht.2 h2 (fun x hx => hlt x (List.mem_append_right _ hx)), rfl⟩
end
section
variable {H : Type} {enc : TypeId × Value → H} {W : World} {base : Nat} {spare : Nat → Bool} {held : Bool}
theorem trod_int1 {n : Nat} {c : Value} {y : Option (DataW H × List MemPlace)} (h : DataW.trod enc Try.prog W base spare held n 3 [c] = y) (hy : y.isSome = true) : ∃ z, c = .int .i64 z := by
  cases y with
  | none => cases hy
  | some x =>
    obtain ⟨z, h1, _⟩ := DataW.trod_int Try.underlying3 h
    exact ⟨z, by simpa using h1⟩
theorem trod_news {n : Nat} {cs : List Value} {x : DataW H × List MemPlace} (h : DataW.trod enc Try.prog W base spare held n 102 cs = some x) : ∃ y : News, cs = y.cells := by
  obtain ⟨xs, k, _, _, hl, hlen, hf⟩ := DataW.trod_struct Try.underlying102 h
  rw [Try.cells102] at hl
  match cs, hl with
  | [c0, c1, c2, c3, c4, c5], _ =>
    match xs, hlen with
    | [y0, y1, y2, y3, y4], _ =>
      have g0 : DataW.trod enc Try.prog W base spare held k 3 (List.take (Try.prog.cellsOf 3) (List.drop 0 [c0, c1, c2, c3, c4, c5])) = some y0 := hf 0 ⟨"Post", 3, 0, false, "", "", 0⟩ rfl
      have g1 : DataW.trod enc Try.prog W base spare held k 3 (List.take (Try.prog.cellsOf 3) (List.drop 1 [c0, c1, c2, c3, c4, c5])) = some y1 := hf 1 ⟨"Kind", 3, 1, false, "", "", 8⟩ rfl
      have g2 : DataW.trod enc Try.prog W base spare held k 3 (List.take (Try.prog.cellsOf 3) (List.drop 2 [c0, c1, c2, c3, c4, c5])) = some y2 := hf 2 ⟨"Seen", 3, 2, false, "", "", 16⟩ rfl
      have g3 : DataW.trod enc Try.prog W base spare held k 3 (List.take (Try.prog.cellsOf 3) (List.drop 3 [c0, c1, c2, c3, c4, c5])) = some y3 := hf 3 ⟨"Came", 3, 3, false, "", "", 24⟩ rfl
      have g4 : DataW.trod enc Try.prog W base spare held k 26 (List.take (Try.prog.cellsOf 26) (List.drop 4 [c0, c1, c2, c3, c4, c5])) = some y4 := hf 4 ⟨"Val", 26, 4, false, "", "", 32⟩ rfl
      simp only [Try.cells3, Try.cells26, List.drop, List.take] at g0 g1 g2 g3 g4
      obtain ⟨a0, rfl⟩ := trod_int1 g0 rfl
      obtain ⟨a1, rfl⟩ := trod_int1 g1 rfl
      obtain ⟨a2, rfl⟩ := trod_int1 g2 rfl
      obtain ⟨a3, rfl⟩ := trod_int1 g3 rfl
      obtain ⟨zs, k', _, _, _, hlen', hf'⟩ := DataW.trod_struct Try.underlying26 g4
      match zs, hlen' with
      | [z0, z1], _ =>
        have e0 : DataW.trod enc Try.prog W base spare held k' 3 (List.take (Try.prog.cellsOf 3) (List.drop 0 [c4, c5])) = some z0 := hf' 0 ⟨"Lo", 3, 0, false, "", "", 0⟩ rfl
        have e1 : DataW.trod enc Try.prog W base spare held k' 3 (List.take (Try.prog.cellsOf 3) (List.drop 1 [c4, c5])) = some z1 := hf' 1 ⟨"Hi", 3, 1, false, "", "", 8⟩ rfl
        simp only [Try.cells3, List.drop, List.take] at e0 e1
        obtain ⟨a4, rfl⟩ := trod_int1 e0 rfl
        obtain ⟨a5, rfl⟩ := trod_int1 e1 rfl
        exact ⟨⟨a0, a1, a2, a3, a4, a5⟩, rfl⟩
/-- A slice of reports. -/
theorem open_news {r : Reach} {b0 : Nat} {v : Value} {d : DataW H} {p : List MemPlace} (hv : Value.okWide Try.prog W r b0 24 v) (h : DataW.Trod enc Try.prog W 0 (fun _ => true) held 24 v d p) :
    ∃ (A : Option Addr) (n c : Nat) (l : List News), v = .slice A n c ∧ RdS W 6 A n (l.map News.cells) := by
  obtain ⟨A, n, c, rfl⟩ := okWide_slice Try.underlying24 hv
  obtain ⟨fuel, hf⟩ := h
  refine ⟨A, n, c, ?_⟩
  rcases Go.Deep.open_slice Try.underlying24 hf with ⟨h1, _⟩ | ⟨a, len, cap, m, k, D, Pl, h1, _, hlc, _, hm, _, hi⟩
  · simp only [Value.cells, List.cons.injEq, Value.slice.injEq, and_true] at h1
    obtain ⟨rfl, rfl, rfl⟩ := h1
    exact ⟨[], rfl, RdS.nil _ _ _⟩
  · simp only [Value.cells, List.cons.injEq, Value.slice.injEq, and_true] at h1
    obtain ⟨rfl, rfl, rfl⟩ := h1
    simp only [if_true] at hm
    subst hm
    rw [Try.cells102] at hi
    have key : ∀ i, i < n → ∃ y : News, ∀ j u, y.cells[j]? = some u → W.cell? ((a.add (i * 6)).add j) = some u := fun i hin => by
      obtain ⟨cs, hc, ht⟩ := hi i (by omega)
      obtain ⟨y, rfl⟩ := trod_news ht
      obtain ⟨_, _, hat⟩ := World.cells?_some hc
      refine ⟨y, fun j u hu => ?_⟩
      rw [hat j (List.getElem?_eq_some_iff.1 hu).1]
      exact hu
    let f : Nat → News := fun i => if h : i < n then Classical.choose (key i h) else ⟨0, 0, 0, 0, 0, 0⟩
    have hfk : ∀ i, i < n → ∀ j u, (f i).cells[j]? = some u → W.cell? ((a.add (i * 6)).add j) = some u := fun i hin => by
      simp only [f, dif_pos hin]
      exact Classical.choose_spec (key i hin)
    refine ⟨(List.range n).map f, rfl, by simp, fun h0 => ?_⟩
    have c0 := hfk 0 h0 0 _ rfl
    obtain ⟨b, o, sp⟩ := a
    have hsp : sp = none := by simpa [Addr.add] using World.cell?_spot c0
    subst hsp
    refine ⟨b, o, rfl, by simpa [Addr.add] using cell_lt c0, fun i x hx => ?_⟩
    rw [List.map_map, List.getElem?_map, Option.map_eq_some_iff] at hx
    obtain ⟨i', h2, rfl⟩ := hx
    obtain ⟨h3, h4⟩ := List.getElem?_eq_some_iff.1 h2
    simp only [List.getElem_range, List.length_range] at h3 h4
    subst h4
    refine ⟨rfl, fun j u hu => ?_⟩
    have := hfk i h3 j u hu
    rw [add_eq, add_eq] at this
    exact this
/-- The rates, by value. -/
theorem open_rates {r : Reach} {b0 : Nat} {v : Value} {d : DataW H} {p : List MemPlace} (hv : Value.okWide Try.prog W r b0 23 v) (h : DataW.Trod enc Try.prog W base spare held 23 v d p) :
    ∃ a b c, v = .agg #[.int .i64 a, .int .i64 b, .int .i64 c] := by
  obtain ⟨v0, v1, v2, y0, y1, y2, n, rfl, _, _, h0, h1, h2⟩ := Go.Joins.open_agg3 Try.underlying23 (by kernel_rfl) (by kernel_rfl) hv h
  obtain ⟨a, rfl⟩ := trod_int1 h0 rfl
  obtain ⟨b, rfl⟩ := trod_int1 h1 rfl
  obtain ⟨c, rfl⟩ := trod_int1 h2 rfl
  exact ⟨a, b, c, rfl⟩
end
end Go.Proofs.Ytalidommelefaaa
