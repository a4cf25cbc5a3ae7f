/- Winds: valid ones. Plain laws. -/
import Derived.Test.YtalidommelefaaaLvP
namespace Go.Proofs.Ytalidommelefaaa
set_option linter.unusedVariables false
set_option linter.unusedSimpArgs false
structure Gl where
  h : Int
  xlo : Int
  xhi : Int
  ylo : Int
  yhi : Int
  gust : Int
def glCells (x : Gl) : List Value := [.int .i64 x.h, .int .i64 x.xlo, .int .i64 x.xhi, .int .i64 x.ylo, .int .i64 x.yhi, .int .i64 x.gust]
theorem gl_read {w : World} {A : Option Addr} {n : Nat} {l : List Gl} (h : RdS w 6 A n (l.map glCells)) {i : Nat} (hi : i < n) :
    ∃ b o x, A = some ⟨b, o, none⟩ ∧ b < w.heap.size ∧ l[i]? = some x ∧ w.cell? ⟨b, o + i * 6, none⟩ = some (.int .i64 x.h) ∧ w.cell? ⟨b, o + i * 6 + 1, none⟩ = some (.int .i64 x.xlo) ∧ w.cell? ⟨b, o + i * 6 + 2, none⟩ = some (.int .i64 x.xhi) ∧
      w.cell? ⟨b, o + i * 6 + 3, none⟩ = some (.int .i64 x.ylo) ∧ w.cell? ⟨b, o + i * 6 + 4, none⟩ = some (.int .i64 x.yhi) ∧ w.cell? ⟨b, o + i * 6 + 5, none⟩ = some (.int .i64 x.gust) := by
  obtain ⟨b, o, cs, hA, hb, hx, _, hc⟩ := h.row hi
  simp only [List.getElem?_map, Option.map_eq_some_iff] at hx
  obtain ⟨x, hx, rfl⟩ := hx
  exact ⟨b, o, x, hA, hb, hx, hc 0 _ rfl, hc 1 _ rfl, hc 2 _ rfl, hc 3 _ rfl, hc 4 _ rfl, hc 5 _ rfl⟩
/-- A gale, and the one below it. -/
def galeOk (x : Gl) (y : Option Gl) : Bool :=
  decide (-500 ≤ x.h ∧ x.h ≤ 9000) && ((match y with | some y => decide (y.h < x.h) | none => true) && (decide (0 ≤ x.gust ∧ x.gust ≤ 500) && (decide (x.xlo ≤ x.xhi ∧ -1000 ≤ x.xlo ∧ x.xhi ≤ 1000) && decide (x.ylo ≤ x.yhi ∧ -1000 ≤ x.ylo ∧ x.yhi ≤ 1000))))
def prevG (l : List Gl) : Nat → Option Gl | 0 => none | j + 1 => l[j]?
def galeAt (l : List Gl) (i : Nat) : Bool := match l[i]? with | some x => galeOk x (prevG l i) | none => true
def windB (l : List Gl) : Bool := decide (1 ≤ (l.length : Int) ∧ (l.length : Int) ≤ 16) && (List.range l.length).all (galeAt l)
theorem galeAt_eq {l : List Gl} {i : Nat} {x : Gl} (h : l[i]? = some x) : galeAt l i = galeOk x (prevG l i) := by unfold galeAt; rw [h]
theorem windB_no {l : List Gl} {k n : Nat} (hl : l.length = n) (hk : k < n) (h : galeAt l k = false) : windB l = false := by
  unfold windB
  rw [all_range_no (by simpa [hl] using hk) h, Bool.and_false]
theorem windB_short {l : List Gl} {n : Nat} (hl : l.length = n) (h : decide (1 ≤ (n : Int) ∧ (n : Int) ≤ 16) = false) : windB l = false := by
  unfold windB
  rw [hl, h, Bool.false_and]
theorem windB_yes {l : List Gl} {n : Nat} (hl : l.length = n) (h1 : decide (1 ≤ (n : Int) ∧ (n : Int) ≤ 16) = true) (h : ∀ j, j < n → galeAt l j = true) : windB l = true := by
  unfold windB
  rw [hl, h1, all_range_yes h, Bool.and_true]
/-- Valid winds. -/
structure Wnd (l : List Gl) : Prop where
  n1 : 1 ≤ l.length
  n16 : l.length ≤ 16
  ok : ∀ x ∈ l, -500 ≤ x.h ∧ x.h ≤ 9000 ∧ 0 ≤ x.gust ∧ x.gust ≤ 500 ∧ x.xlo ≤ x.xhi ∧ -1000 ≤ x.xlo ∧ x.xhi ≤ 1000 ∧ x.ylo ≤ x.yhi ∧ -1000 ≤ x.ylo ∧ x.yhi ≤ 1000
  rise : ∀ {i : Nat} {x y : Gl}, l[i]? = some x → l[i + 1]? = some y → x.h < y.h
theorem windB_iff (l : List Gl) : windB l = true ↔ Wnd l := by
  unfold windB
  simp only [Bool.and_eq_true, List.all_eq_true, List.mem_range, decide_eq_true_eq]
  constructor
  · rintro ⟨h1, h2⟩
    refine ⟨by omega, by omega, fun x hx => ?_, fun {i x y} hx hy => ?_⟩
    · obtain ⟨i, hi, rfl⟩ := List.getElem_of_mem hx
      have h3 := h2 i hi
      rw [galeAt_eq (List.getElem?_eq_getElem hi)] at h3
      unfold galeOk at h3
      simp only [Bool.and_eq_true, decide_eq_true_eq] at h3
      omega
    · have h3 := h2 (i + 1) (List.getElem?_eq_some_iff.1 hy).1
      rw [galeAt_eq hy, show prevG l (i + 1) = some x from hx] at h3
      unfold galeOk at h3
      simp only [Bool.and_eq_true, decide_eq_true_eq] at h3
      omega
  · rintro ⟨h1, h2, h3, h4⟩
    refine ⟨by omega, fun i hi => ?_⟩
    have hx : l[i]? = some l[i] := List.getElem?_eq_getElem hi
    have hb := h3 _ (List.mem_of_getElem? hx)
    rw [galeAt_eq hx]
    cases i with
    | zero =>
      unfold galeOk prevG
      simp only [Bool.and_eq_true, decide_eq_true_eq, true_and]; omega
    | succ j =>
      have hy : l[j]? = some l[j] := List.getElem?_eq_getElem (by omega)
      have := h4 hy hx
      rw [show prevG l (j + 1) = some l[j] from hy]
      unfold galeOk
      simp only [Bool.and_eq_true, decide_eq_true_eq]; omega
end Go.Proofs.Ytalidommelefaaa
