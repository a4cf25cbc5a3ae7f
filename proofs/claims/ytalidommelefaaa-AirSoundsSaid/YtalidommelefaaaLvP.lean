/- Levels: what is valid of their heights. Plain laws. -/
import Derived.Test.YtalidommelefaaaBase
namespace Go.Proofs.Ytalidommelefaaa
set_option linter.unusedVariables false
set_option linter.unusedSimpArgs false
/-- A level: its height, pressure and temperature. -/
structure Lv where
  h : Int
  plo : Int
  phi : Int
  tlo : Int
  thi : Int
def Lv.press (x : Lv) : Int × Int := (x.plo, x.phi)
def Lv.temp (x : Lv) : Int × Int := (x.tlo, x.thi)
def Lv.put (x : Lv) (s : Int × Int) : Lv := ⟨x.h, s.1, s.2, x.tlo, x.thi⟩

def lvCells (x : Lv) : List Value := [.int .i64 x.h, .int .i64 x.plo, .int .i64 x.phi, .int .i64 x.tlo, .int .i64 x.thi]
theorem lv_read {w : World} {A : Option Addr} {n : Nat} {l : List Lv} (h : RdS w 5 A n (l.map lvCells)) {i : Nat} (hi : i < n) :
    ∃ b o x, A = some ⟨b, o, none⟩ ∧ b < w.heap.size ∧ l[i]? = some x ∧ w.cell? ⟨b, o + i * 5, none⟩ = some (.int .i64 x.h) ∧ w.cell? ⟨b, o + i * 5 + 1, none⟩ = some (.int .i64 x.plo) ∧ w.cell? ⟨b, o + i * 5 + 2, none⟩ = some (.int .i64 x.phi) ∧
      w.cell? ⟨b, o + i * 5 + 3, none⟩ = some (.int .i64 x.tlo) ∧ w.cell? ⟨b, o + i * 5 + 4, none⟩ = some (.int .i64 x.thi) := by
  obtain ⟨b, o, cs, hA, hb, hx, _, hc⟩ := h.row hi
  simp only [List.getElem?_map, Option.map_eq_some_iff] at hx
  obtain ⟨x, hx, rfl⟩ := hx
  exact ⟨b, o, x, hA, hb, hx, hc 0 _ rfl, hc 1 _ rfl, hc 2 _ rfl, hc 3 _ rfl, hc 4 _ rfl⟩
/-- A level of a valid sounding, but for its height. -/
def lvOk (x : Lv) : Bool := decide (x.plo ≤ x.phi ∧ 1000 ≤ x.plo ∧ x.phi ≤ 12000) && decide (x.tlo ≤ x.thi ∧ 1500 ≤ x.tlo ∧ x.thi ≤ 3500)
/-- The height of a level, and how far it is above the one below it. -/
def stepOk (l : List Int) (i : Nat) : Bool := match l[i]? with
  | some x => decide (-500 ≤ x ∧ x ≤ 9000) && (match i with | 0 => true | j + 1 => match l[j]? with | some y => decide (1 ≤ x - y ∧ x - y ≤ 2000) | none => true)
  | none => true
def climbsV (l : List Int) : Bool := (List.range l.length).all (stepOk l) && decide (2 ≤ l.length ∧ l.length ≤ 16)
def soundB (l : List Lv) : Bool := climbsV (l.map Lv.h) && l.all lvOk
theorem all_range_no {n k : Nat} {p : Nat → Bool} (hk : k < n) (h : p k = false) : (List.range n).all p = false := by
  rw [Bool.eq_false_iff, Ne, List.all_eq_true]
  intro h2
  have := h2 k (List.mem_range.2 hk)
  rw [h] at this
  cases this
theorem all_range_yes {n : Nat} {p : Nat → Bool} (h : ∀ k, k < n → p k = true) : (List.range n).all p = true :=
  List.all_eq_true.2 fun k hk => h k (List.mem_range.1 hk)
theorem stepOk_zero {l : List Int} {x : Int} (h : l[0]? = some x) : stepOk l 0 = decide (-500 ≤ x ∧ x ≤ 9000) := by unfold stepOk; simp [h]
theorem stepOk_succ {l : List Int} {x y : Int} {j : Nat} (h : l[j + 1]? = some x) (hy : l[j]? = some y) : stepOk l (j + 1) = (decide (-500 ≤ x ∧ x ≤ 9000) && decide (1 ≤ x - y ∧ x - y ≤ 2000)) := by unfold stepOk; simp [h, hy]
theorem stepOk_h {l : List Int} {x : Int} {i : Nat} (h : l[i]? = some x) (hs : stepOk l i = true) : -500 ≤ x ∧ x ≤ 9000 := by
  unfold stepOk at hs
  rw [h] at hs
  simp only [Bool.and_eq_true, decide_eq_true_eq] at hs
  exact hs.1
end Go.Proofs.Ytalidommelefaaa
