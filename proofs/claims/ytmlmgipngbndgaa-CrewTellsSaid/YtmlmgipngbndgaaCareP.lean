/- Care and flights: plain laws. -/
import Derived.Test.YtmlmgipngbndgaaInt1
namespace Go.Proofs.Ytmlmgipngbndgaa
set_option linter.unusedVariables false
set_option linter.unusedSimpArgs false
def careOk (ev gr du : Int) : Bool := decide (1 ≤ ev ∧ ev ≤ 100000 ∧ 0 ≤ gr ∧ gr ≤ 100000 ∧ -gr ≤ du ∧ du ≤ 100000)
def careE (ev gr du : Int) : Int := if careOk ev gr du then 0 else 82
theorem careOk_all (ev gr du : Int) : (allFrom 1 100000 [ev] && (allFrom 0 100000 [gr] && allFrom (-gr) 100000 [du])) = careOk ev gr du := by
  unfold careOk allFrom
  rw [Bool.eq_iff_iff]
  simp
  omega
/-- The error of care and flights. -/
def caredE (ev gr du : Int) (fs : List Int) : Int := if careOk ev gr du then (if 60 < fs.length then 4 else if allFrom 1 10000 fs then 0 else 2) else 82
theorem cared_ok {ev gr du : Int} {fs : List Int} (h : caredE ev gr du fs = 0) : 1 ≤ ev ∧ ev ≤ 100000 ∧ 0 ≤ gr ∧ gr ≤ 100000 ∧ -gr ≤ du ∧ du ≤ 100000 ∧ fs.length ≤ 60 ∧ ∀ f ∈ fs, 1 ≤ f ∧ f ≤ 10000 := by
  unfold caredE at h
  by_cases h1 : careOk ev gr du = true
  · rw [if_pos h1] at h
    by_cases h2 : 60 < fs.length
    · rw [if_pos h2] at h; cases h
    · rw [if_neg h2] at h
      by_cases h3 : allFrom 1 10000 fs = true
      · unfold careOk at h1
        simp only [decide_eq_true_eq] at h1
        refine ⟨h1.1, h1.2.1, h1.2.2.1, h1.2.2.2.1, h1.2.2.2.2.1, h1.2.2.2.2.2, by omega, fun f hf => ?_⟩
        unfold allFrom at h3
        have := List.all_eq_true.1 h3 f hf
        simpa using this
      · rw [if_neg h3] at h; cases h
  · rw [if_neg h1] at h; cases h
/-- Is the j-th number of a plan for n flights as it has to be? -/
def plAt (n : Nat) (pl : List Int) (j : Nat) : Bool := match pl[j]? with
  | none => true
  | some x => decide (0 ≤ x) && decide (x < n) && (decide (j = 0) || match pl[j - 1]? with | some y => decide (y < x) | none => true)
def planB (n : Nat) (pl : List Int) : Bool := (List.range pl.length).all (plAt n pl)
theorem planB_no {n : Nat} {pl : List Int} {j : Nat} (hj : j < pl.length) (h : plAt n pl j = false) : planB n pl = false := by
  unfold planB
  rw [Bool.eq_false_iff, Ne, List.all_eq_true]
  intro h2
  rw [h2 j (List.mem_range.2 hj)] at h; cases h
theorem planB_yes {n : Nat} {pl : List Int} (h : ∀ j, j < pl.length → plAt n pl j = true) : planB n pl = true := by
  unfold planB
  rw [List.all_eq_true]
  exact fun j hj => h j (List.mem_range.1 hj)
theorem planB_at {n : Nat} {pl : List Int} (h : planB n pl = true) {j : Nat} (hj : j < pl.length) : plAt n pl j = true := by
  unfold planB at h
  exact List.all_eq_true.1 h j (List.mem_range.2 hj)
theorem planB_incr {n : Nat} {pl : List Int} (h : planB n pl = true) {i : Nat} : ∀ {j : Nat} {x y : Int}, i < j → pl[i]? = some x → pl[j]? = some y → x < y := by
  intro j
  induction j with
  | zero => intro x y hi; omega
  | succ j ih =>
    intro x y hi hx hy
    have hj : j + 1 < pl.length := (List.getElem?_eq_some_iff.1 hy).1
    have hp : pl[j]? = some pl[j] := List.getElem?_eq_getElem (by omega)
    have h1 := planB_at h hj
    unfold plAt at h1
    rw [hy] at h1
    simp only [Nat.add_sub_cancel, hp, Bool.and_eq_true, Bool.or_eq_true, decide_eq_true_eq] at h1
    have h2 : pl[j] < y := by
      rcases h1.2 with h2 | h2
      · omega
      · exact h2
    rcases Nat.lt_or_ge i j with h3 | h3
    · exact Int.lt_trans (ih h3 hx hp) h2
    · obtain rfl : i = j := by omega
      rw [hp] at hx
      obtain rfl := Option.some.inj hx
      exact h2
theorem planB_in {n : Nat} {pl : List Int} (h : planB n pl = true) {j : Nat} {x : Int} (hx : pl[j]? = some x) : 0 ≤ x ∧ x < n := by
  have h1 := planB_at h (List.getElem?_eq_some_iff.1 hx).1
  unfold plAt at h1
  rw [hx] at h1
  simp only [Bool.and_eq_true, decide_eq_true_eq] at h1
  exact h1.1
/-- Is there an inspection before flight i? -/
def inPl (pl : List Int) (i : Nat) : Bool := pl.any fun x => decide ((i : Int) = x)
/-- What is left after a flight. -/
def stp (ev : Int) (ins : Bool) (left f : Int) : Int := (if ins then min left 0 + ev else left) - f
/-- What is left before flight k. -/
def leftK (ev du : Int) (fs pl : List Int) : Nat → Int
  | 0 => du
  | k + 1 => stp ev (inPl pl k) (leftK ev du fs pl k) (fs[k]?.getD 0)
def lateAt (ev gr du : Int) (fs pl : List Int) (k : Nat) : Bool := decide (leftK ev du fs pl (k + 1) < -gr)
/-- What Late returns: what is left, the flight, the error. -/
def lateV (ev gr du : Int) (fs pl : List Int) : Int × Int × Int := match (List.range fs.length).find? (lateAt ev gr du fs pl) with
  | some k => (0, (k : Int), 83)
  | none => (leftK ev du fs pl fs.length, 0, 0)
def lateS (ev gr du : Int) (fs pl : List Int) : Int × Int × Int :=
  if caredE ev gr du fs = 0 then (if planB fs.length pl then lateV ev gr du fs pl else (0, 0, 2)) else (0, 0, caredE ev gr du fs)
theorem lateV_at {ev gr du : Int} {fs pl : List Int} {k : Nat} (hk : k < fs.length) (h : lateAt ev gr du fs pl k = true) (hb : ∀ j, j < k → lateAt ev gr du fs pl j = false) : lateV ev gr du fs pl = (0, (k : Int), 83) := by
  have : (List.range fs.length).find? (lateAt ev gr du fs pl) = some k := by
    rw [List.find?_range_eq_some]
    exact ⟨h, by simpa using hk, fun j hj => by rw [hb j hj]; rfl⟩
  unfold lateV
  rw [this]
theorem lateV_no {ev gr du : Int} {fs pl : List Int} (hb : ∀ j, j < fs.length → lateAt ev gr du fs pl j = false) : lateV ev gr du fs pl = (leftK ev du fs pl fs.length, 0, 0) := by
  have : (List.range fs.length).find? (lateAt ev gr du fs pl) = none := by
    rw [List.find?_eq_none]
    intro j hj
    rw [hb j (List.mem_range.1 hj)]; simp
  unfold lateV
  rw [this]
theorem leftK_in {ev gr du : Int} {fs pl : List Int} (h : caredE ev gr du fs = 0) : ∀ {k : Nat}, k ≤ fs.length → (∀ j, j < k → lateAt ev gr du fs pl j = false) → -100000 ≤ leftK ev du fs pl k ∧ leftK ev du fs pl k ≤ 100000 := by
  obtain ⟨e1, e2, g1, g2, d1, d2, _, hf⟩ := cared_ok h
  intro k
  induction k with
  | zero => intro _ _; unfold leftK; omega
  | succ k ih =>
    intro hk hb
    have h1 := ih (by omega) fun j hj => hb j (by omega)
    have h2 := hb k (by omega)
    unfold lateAt at h2
    simp only [decide_eq_false_iff_not] at h2
    have hx : fs[k]? = some fs[k] := List.getElem?_eq_getElem (by omega)
    have h3 := hf fs[k] (List.getElem_mem (by omega))
    refine ⟨by omega, ?_⟩
    unfold leftK stp
    rw [hx]
    simp only [Option.getD_some]
    split <;> omega
end Go.Proofs.Ytmlmgipngbndgaa
