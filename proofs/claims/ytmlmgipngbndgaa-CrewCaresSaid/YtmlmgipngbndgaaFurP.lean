/- What may be due at most, row by row. Plain laws. -/
import Derived.Test.YtmlmgipngbndgaaInsP
namespace Go.Proofs.Ytmlmgipngbndgaa
set_option linter.unusedVariables false
set_option linter.unusedSimpArgs false
def flK (fs : List Int) (fl : Int) : Nat → Int
  | 0 => fl
  | k + 1 => flK fs fl k + fs[k]?.getD 0
def rowK (ev gr : Int) (fs : List Int) (fl : Int) (b : List Int) : Nat → List Int
  | 0 => b
  | k + 1 => nxRow ev gr (flK fs fl k) (fs[k]?.getD 0) (rowK ev gr fs fl b k)
theorem flK_cons (f : Int) (t : List Int) (fl : Int) : ∀ k, flK (f :: t) fl (k + 1) = flK t (fl + f) k
  | 0 => by simp [flK]
  | k + 1 => by
    have := flK_cons f t fl k
    rw [show flK (f :: t) fl (k + 1 + 1) = flK (f :: t) fl (k + 1) + (f :: t)[k + 1]?.getD 0 from rfl, this]
    rfl
theorem rowK_cons (ev gr f : Int) (t : List Int) (fl : Int) (b : List Int) : ∀ k, rowK ev gr (f :: t) fl b (k + 1) = rowK ev gr t (fl + f) (nxRow ev gr fl f b) k
  | 0 => rfl
  | k + 1 => by
    have h1 := rowK_cons ev gr f t fl b k
    have h2 := flK_cons f t fl k
    rw [show rowK ev gr (f :: t) fl b (k + 1 + 1) = nxRow ev gr (flK (f :: t) fl (k + 1)) ((f :: t)[k + 1]?.getD 0) (rowK ev gr (f :: t) fl b (k + 1)) from rfl, h1, h2]
    rfl
theorem frL_rowK (ev gr : Int) : ∀ (t : List Int) (fl : Int) (b : List Int), frL ev gr t fl b = rowK ev gr t fl b t.length
  | [], _, _ => rfl
  | f :: t, fl, b => by
    rw [List.length_cons, rowK_cons, ← frL_rowK ev gr t]
    rfl
theorem rowK_len (ev gr : Int) (fs : List Int) (fl : Int) (b : List Int) : ∀ k, (rowK ev gr fs fl b k).length = b.length + k
  | 0 => rfl
  | k + 1 => by
    have := rowK_len ev gr fs fl b k
    simp only [rowK, nxRow, List.length_map, List.length_range, this]
    omega
theorem flK_in {fs : List Int} (hf : FsOk fs) {fl : Int} (h0 : 0 ≤ fl) : ∀ {k : Nat}, k ≤ fs.length → fl ≤ flK fs fl k ∧ flK fs fl k ≤ fl + 10000 * (k : Int)
  | 0, _ => by simp [flK]
  | k + 1, hk => by
    have ih := flK_in hf h0 (k := k) (by omega)
    have hx : fs[k]? = some fs[k] := List.getElem?_eq_getElem (by omega)
    have := hf fs[k] (List.getElem_mem (by omega))
    rw [show flK fs fl (k + 1) = flK fs fl k + fs[k]?.getD 0 from rfl, hx]
    simp only [Option.getD_some]
    omega
theorem rowK_ok {ev gr : Int} (he : 1 ≤ ev ∧ ev ≤ 100000) (hg : 0 ≤ gr ∧ gr ≤ 100000) {fs : List Int} (hf : FsOk fs) {fl : Int} (h0 : 0 ≤ fl) {b : List Int} (h : RowOk fl b) : ∀ {k : Nat}, k ≤ fs.length → RowOk (flK fs fl k) (rowK ev gr fs fl b k)
  | 0, _ => h
  | k + 1, hk => by
    have ih := rowK_ok he hg hf h0 h (k := k) (by omega)
    have hx : fs[k]? = some fs[k] := List.getElem?_eq_getElem (by omega)
    have := hf fs[k] (List.getElem_mem (by omega))
    have h2 := (flK_in hf h0 (k := k) (by omega)).1
    rw [show flK fs fl (k + 1) = flK fs fl k + fs[k]?.getD 0 from rfl, show rowK ev gr fs fl b (k + 1) = nxRow ev gr (flK fs fl k) (fs[k]?.getD 0) (rowK ev gr fs fl b k) from rfl, hx]
    exact nxRow_ok he hg this (by omega) ih
theorem nxC_0 {ev fl : Int} {b : List Int} {x : Int} (h : b[0]? = some x) : nxC ev fl b 0 = x := by unfold nxC; rw [if_neg (fun hc => by omega), atD_some h]
theorem nxC_in {ev fl : Int} {b : List Int} {k : Nat} {x y : Int} (h : b[k + 1]? = some x) (h2 : b[k]? = some y) : nxC ev fl b (k + 1) = if -never < y then max x (min fl y + ev) else x := by
  unfold nxC
  rw [Nat.add_sub_cancel, atD_some h, atD_some h2]
  by_cases hc : -never < y
  · rw [if_pos ⟨by omega, hc⟩, if_pos hc]
  · rw [if_neg (fun h => hc h.2), if_neg hc]
theorem nxC_end {ev fl : Int} {b : List Int} {k : Nat} {y : Int} (h : b.length = k + 1) (h2 : b[k]? = some y) : nxC ev fl b (k + 1) = if -never < y then max (-never) (min fl y + ev) else -never := by
  have e : atD b (k + 1) = -never := by unfold atD; rw [List.getElem?_eq_none (by omega)]; rfl
  unfold nxC
  rw [Nat.add_sub_cancel, e, atD_some h2]
  by_cases hc : -never < y
  · rw [if_pos ⟨by omega, hc⟩, if_pos hc]
  · rw [if_neg (fun h => hc h.2), if_neg hc]
end Go.Proofs.Ytmlmgipngbndgaa
