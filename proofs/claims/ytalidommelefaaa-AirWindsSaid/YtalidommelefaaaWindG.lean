/- Gusts between two heights. Plain laws. -/
import Derived.Test.YtalidommelefaaaWindP
namespace Go.Proofs.Ytalidommelefaaa
set_option linter.unusedVariables false
set_option linter.unusedSimpArgs false
/-- Is another gale between gale i and the heights, above it? -/
def belowG (l : List Gl) (p : Int) (i : Nat) : Bool := match l[i]?, l[i + 1]? with | some x, some y => decide (x.h < p) && decide (y.h < p) | _, _ => false
def aboveG (l : List Gl) (q : Int) (i : Nat) : Bool := match l[i]?, prevG l i with | some x, some y => decide (q < x.h) && decide (q < y.h) | _, _ => false
def cntG (l : List Gl) (p q : Int) (i : Nat) : Bool := !belowG l p i && !aboveG l q i
def guAt (l : List Gl) (i : Nat) : Int := match l[i]? with | some x => x.gust | none => 0
def gustR (l : List Gl) (p q : Int) : Nat → Int | 0 => 0 | k + 1 => if cntG l p q k then max (gustR l p q k) (guAt l k) else gustR l p q k
/-- The gust between two heights. -/
def gustV (l : List Gl) (p q : Int) : Int := gustR l p q l.length
theorem gustR_yes {l : List Gl} {p q : Int} {k : Nat} {x : Gl} (hx : l[k]? = some x) (h : cntG l p q k = true) : gustR l p q (k + 1) = max (gustR l p q k) x.gust := by
  simp only [gustR, h, if_true, guAt, hx]
theorem gustR_no {l : List Gl} {p q : Int} {k : Nat} (h : cntG l p q k = false) : gustR l p q (k + 1) = gustR l p q k := by
  simp only [gustR, h, Bool.false_eq_true, if_false]
theorem below_last {l : List Gl} {p : Int} {i : Nat} (h : l[i + 1]? = none) : belowG l p i = false := by unfold belowG; rw [h]; cases l[i]? <;> rfl
theorem below_at {l : List Gl} {p : Int} {i : Nat} {x y : Gl} (hx : l[i]? = some x) (hy : l[i + 1]? = some y) : belowG l p i = (decide (x.h < p) && decide (y.h < p)) := by unfold belowG; rw [hx, hy]
theorem above_zero {l : List Gl} {q : Int} : aboveG l q 0 = false := by unfold aboveG prevG; cases l[0]? <;> rfl
theorem above_at {l : List Gl} {q : Int} {i : Nat} {x y : Gl} (hx : l[i + 1]? = some x) (hy : l[i]? = some y) : aboveG l q (i + 1) = (decide (q < x.h) && decide (q < y.h)) := by
  unfold aboveG
  rw [hx, show prevG l (i + 1) = some y from hy]
theorem gustR_bounds {l : List Gl} {p q : Int} (h : ∀ x ∈ l, 0 ≤ x.gust ∧ x.gust ≤ 500) : ∀ k, 0 ≤ gustR l p q k ∧ gustR l p q k ≤ 500
  | 0 => by simp [gustR]
  | k + 1 => by
    have ih := gustR_bounds h (p := p) (q := q) k
    simp only [gustR]
    split
    · unfold guAt
      cases hk : l[k]? with
      | none => simp only; omega
      | some x =>
        have := h x (List.mem_of_getElem? hk)
        simp only; omega
    · exact ih
theorem Wnd.mono {l : List Gl} (h : Wnd l) {i : Nat} {x : Gl} (hx : l[i]? = some x) : ∀ {j : Nat} {y : Gl}, l[j]? = some y → i ≤ j → x.h ≤ y.h ∧ (i < j → x.h < y.h)
  | 0, y, hy, hij => by
    obtain rfl : i = 0 := by omega
    rw [hx] at hy
    obtain rfl := Option.some.inj hy
    exact ⟨Int.le_refl _, fun h => absurd h (Nat.lt_irrefl _)⟩
  | j + 1, y, hy, hij => by
    rcases Nat.lt_or_ge i (j + 1) with k | k
    · have hj : j < l.length := by have := (List.getElem?_eq_some_iff.1 hy).1; omega
      have hz : l[j]? = some l[j] := List.getElem?_eq_getElem hj
      have h1 := (h.mono hx hz (by omega)).1
      have h2 := h.rise hz hy
      exact ⟨by omega, fun _ => by omega⟩
    · obtain rfl : i = j + 1 := by omega
      rw [hx] at hy
      obtain rfl := Option.some.inj hy
      exact ⟨Int.le_refl _, fun h => absurd h (Nat.lt_irrefl _)⟩
/-- How many gales are below a height. -/
theorem wnd_split {l : List Gl} (h : Wnd l) (f : Int → Bool) (hf : ∀ a b, a ≤ b → f a = true → f b = true) : ∃ r, r ≤ l.length ∧ (∀ j x, j < r → l[j]? = some x → f x.h = false) ∧ (∀ j x, r ≤ j → l[j]? = some x → f x.h = true) := by
  have key : ∀ n, n ≤ l.length → ∃ r, r ≤ n ∧ (∀ j x, j < r → l[j]? = some x → f x.h = false) ∧ (∀ j x, r ≤ j → j < n → l[j]? = some x → f x.h = true) := by
    intro n
    induction n with
    | zero => exact fun _ => ⟨0, Nat.le_refl _, fun j x hj => absurd hj (by omega), fun j x h1 h2 => by omega⟩
    | succ n ih =>
      intro hn
      obtain ⟨r, hr, h1, h2⟩ := ih (by omega)
      have hk : l[n]? = some l[n] := List.getElem?_eq_getElem (by omega)
      by_cases hrn : r = n
      · subst hrn
        cases hv : f l[r].h with
        | true =>
          refine ⟨r, by omega, h1, fun j x hj hj2 hx => ?_⟩
          obtain rfl : j = r := by omega
          rw [hk] at hx
          obtain rfl := Option.some.inj hx
          exact hv
        | false =>
          refine ⟨r + 1, by omega, fun j x hj hx => ?_, fun j x hj hj2 => by omega⟩
          rcases Nat.lt_or_ge j r with k | k
          · exact h1 j x k hx
          · obtain rfl : j = r := by omega
            rw [hk] at hx
            obtain rfl := Option.some.inj hx
            exact hv
      · refine ⟨r, by omega, h1, fun j x hj hj2 hx => ?_⟩
        rcases Nat.lt_or_ge j n with k | k
        · exact h2 j x hj k hx
        · obtain rfl : j = n := by omega
          have hr' : l[r]? = some l[r] := List.getElem?_eq_getElem (by omega)
          exact hf _ _ (h.mono hr' hx hj).1 (h2 r _ (Nat.le_refl _) (by omega) hr')
  obtain ⟨r, h0, h1, h2⟩ := key l.length (Nat.le_refl _)
  exact ⟨r, h0, h1, fun j x hj hx => h2 j x hj (List.getElem?_eq_some_iff.1 hx).1 hx⟩
theorem belowG_iff {l : List Gl} {p : Int} {a i : Nat} (h : Wnd l) (h1 : ∀ j x, j < a → l[j]? = some x → x.h < p) (h2 : ∀ j x, a ≤ j → l[j]? = some x → p ≤ x.h) (hi : i < l.length) : belowG l p i = decide (i + 1 < a ∧ i + 1 < l.length) := by
  have hx : l[i]? = some l[i] := List.getElem?_eq_getElem hi
  by_cases hn : i + 1 < l.length
  · have hy : l[i + 1]? = some l[i + 1] := List.getElem?_eq_getElem hn
    rw [below_at hx hy]
    by_cases ha : i + 1 < a
    · have k1 := h1 _ _ ha hy
      have k2 := h1 _ _ (by omega) hx
      simp [ha, hn, k1, k2]
    · have k1 := h2 _ _ (by omega) hy
      have : ¬ l[i + 1].h < p := by omega
      simp [ha, this]
  · rw [below_last (List.getElem?_eq_none (by omega))]
    simp [hn]
theorem aboveG_iff {l : List Gl} {q : Int} {b i : Nat} (h : Wnd l) (h1 : ∀ j x, j < b → l[j]? = some x → x.h ≤ q) (h2 : ∀ j x, b ≤ j → l[j]? = some x → q < x.h) (hi : i < l.length) : aboveG l q i = decide (b + 1 ≤ i) := by
  have hx : l[i]? = some l[i] := List.getElem?_eq_getElem hi
  cases i with
  | zero => rw [above_zero]; simp
  | succ j =>
    have hy : l[j]? = some l[j] := List.getElem?_eq_getElem (by omega)
    rw [above_at hx hy]
    by_cases hb : b ≤ j
    · have k1 := h2 _ _ hb hy
      have k2 := h2 _ _ (by omega) hx
      simp [hb, k1, k2]
    · have k1 := h1 _ _ (by omega) hy
      have : ¬ q < l[j].h := by omega
      simp [hb, this]
theorem cntG_iff {l : List Gl} {p q : Int} {a b i : Nat} (h : Wnd l) (h1 : ∀ j x, j < a → l[j]? = some x → x.h < p) (h2 : ∀ j x, a ≤ j → l[j]? = some x → p ≤ x.h)
    (h3 : ∀ j x, j < b → l[j]? = some x → x.h ≤ q) (h4 : ∀ j x, b ≤ j → l[j]? = some x → q < x.h) (ha : a ≤ l.length) (hi : i < l.length) : cntG l p q i = decide (a - 1 ≤ i ∧ i < b + 1) := by
  unfold cntG
  rw [belowG_iff h h1 h2 hi, aboveG_iff h h3 h4 hi, Bool.eq_iff_iff]
  simp only [Bool.and_eq_true, Bool.not_eq_true', decide_eq_false_iff_not, decide_eq_true_eq]
  omega
theorem gustR_from {l : List Gl} {p q : Int} {a : Nat} : ∀ k, k ≤ a → (∀ i, i < a → cntG l p q i = false) → gustR l p q k = 0
  | 0, _, _ => rfl
  | k + 1, hk, h => by rw [gustR_no (h k (by omega))]; exact gustR_from k (by omega) h
theorem gustR_to {l : List Gl} {p q : Int} {b : Nat} : ∀ k, b ≤ k → (∀ i, b ≤ i → i < k → cntG l p q i = false) → gustR l p q k = gustR l p q b
  | 0, hk, _ => by obtain rfl : b = 0 := by omega
                   rfl
  | k + 1, hk, h => by
    rcases Nat.lt_or_ge k b with h1 | h1
    · obtain rfl : b = k + 1 := by omega
      rfl
    · rw [gustR_no (h k h1 (by omega))]
      exact gustR_to k h1 fun i hi hik => h i hi (by omega)
end Go.Proofs.Ytalidommelefaaa
