/- Plans of inspections: plain laws, part 2. -/
import Derived.Test.YtmlmgipngbndgaaFurP
namespace Go.Proofs.Ytmlmgipngbndgaa
set_option linter.unusedVariables false
set_option linter.unusedSimpArgs false
theorem FsOk.drop {fs : List Int} (h : FsOk fs) (i : Nat) : FsOk (fs.drop i) := fun x hx => h x (List.mem_of_mem_drop hx)
theorem row_ok1 {fl b : Int} (h : -100000 ≤ b ∧ b ≤ fl + 100000) : RowOk fl [b] := by
  intro x hx
  obtain rfl : x = b := by simpa using hx
  exact .inr h
theorem row_iff {ev gr : Int} (he : 1 ≤ ev ∧ ev ≤ 100000) (hg : 0 ≤ gr ∧ gr ≤ 100000) {fs : List Int} (hf : FsOk fs) (hn : fs.length ≤ 60) {fl b : Int} (h0 : 0 ≤ fl ∧ fl ≤ 1000000) (hb : -100000 ≤ b ∧ b ≤ fl + 100000) (K : Nat) :
    -100000 ≤ atD (rowK ev gr fs fl [b] fs.length) K ↔ ndL ev gr fs K ≤ b - fl := by
  have hnv : never = 1099511627776 := rfl
  rw [← frL_rowK, frL_iff he hg hf h0.1 (by omega) (row_ok1 hb)]
  constructor
  · rintro ⟨j, hj, hv, hd⟩
    cases j with
    | zero => exact hd
    | succ j =>
      have : atD [b] (j + 1) = -never := rfl
      omega
  · intro h
    exact ⟨0, Nat.zero_le _, hb.1, h⟩
theorem few_at {ev gr du : Int} {fs : List Int} {k : Nat} (hk : k ≤ fs.length) (h : ndL ev gr fs k ≤ du) (hb : ∀ j, j < k → ¬ ndL ev gr fs j ≤ du) : fewV ev gr du fs = (k : Int) := by
  unfold fewV
  refine idxV_some (x := ndL ev gr fs k) (by rw [List.getElem?_map, List.getElem?_range (by omega)]; rfl) (by simpa using h) fun y hy => ?_
  obtain ⟨j, hj⟩ := List.mem_iff_getElem?.1 hy
  rw [List.getElem?_take] at hj
  split at hj
  · rename_i hlt
    have h2 := hb j hlt
    simp only [List.getElem?_map, Option.map_eq_some_iff] at hj
    obtain ⟨j', h3, rfl⟩ := hj
    obtain rfl : j = j' := by
      have := (List.getElem?_eq_some_iff.1 h3).2
      simpa using this
    simpa using h2
  · cases hj
theorem few_no {ev gr du : Int} {fs : List Int} (hb : ∀ j, j < fs.length + 1 → ¬ ndL ev gr fs j ≤ du) : fewV ev gr du fs = -1 := by
  unfold fewV
  refine idxV_none fun y hy => ?_
  obtain ⟨j, hj, rfl⟩ := List.mem_map.1 hy
  simpa using hb j (List.mem_range.1 hj)
theorem skip_iff {ev gr : Int} (he : 1 ≤ ev ∧ ev ≤ 100000) (hg : 0 ≤ gr ∧ gr ≤ 100000) {x : Int} {t : List Int} (hf : FsOk t) (hn : t.length ≤ 60) (hx : 1 ≤ x ∧ x ≤ 10000) {fl b : Int} (h0 : 0 ≤ fl ∧ fl + x ≤ 1000000) (hb : -100000 ≤ b ∧ b ≤ fl + 100000) (k : Nat) :
    befV gr x (ndL ev gr t k) ≤ b - fl ↔ fl + x ≤ b + gr ∧ k ≤ t.length ∧ -100000 ≤ atD (rowK ev gr t (fl + x) [b] t.length) k := by
  have hnv : never = 1099511627776 := rfl
  rw [row_iff he hg hf hn (by omega) (by omega)]
  unfold befV
  constructor
  · intro h
    refine ⟨by omega, ?_, by omega⟩
    refine Decidable.by_contra fun hc => ?_
    have := nd_big (gr := gr) he hf (show t.length < k by omega)
    omega
  · rintro ⟨h1, _, h2⟩
    omega
theorem insG_skip {ev gr x : Int} {t : List Int} {i k : Nat} {L : Int} (h : befV gr x (ndL ev gr t k) ≤ L) : insG ev gr (x :: t) i k L = insG ev gr t (i + 1) k (L - x) := by
  rw [insG, if_pos h]
theorem insG_ins {ev gr x : Int} {t : List Int} {i k : Nat} {L : Int} (h : ¬ befV gr x (ndL ev gr t k) ≤ L) : insG ev gr (x :: t) i k L = (i : Int) :: insG ev gr t (i + 1) (k - 1) (min L 0 + ev - x) := by
  rw [insG, if_neg h]
/-- What is needed behind a flight, where there is an inspection before it or not. -/
theorem nd_skip {ev gr x : Int} {t : List Int} {k : Nat} {L : Int} (h : befV gr x (ndL ev gr t k) ≤ L) : ndL ev gr t k ≤ L - x := by unfold befV at h; omega
theorem nd_ins {ev gr x : Int} {t : List Int} {k : Nat} {L : Int} (h0 : ndL ev gr (x :: t) k ≤ L) (h : ¬ befV gr x (ndL ev gr t k) ≤ L) : 1 ≤ k ∧ ndL ev gr t (k - 1) ≤ min L 0 + ev - x ∧ x - gr ≤ min L 0 + ev := by
  rcases nd_iff.1 h0 with h1 | ⟨j, rfl, h1⟩
  · exact absurd h1 h
  · unfold befV at h1
    rw [Nat.add_sub_cancel]
    exact ⟨by omega, by omega, by omega⟩
end Go.Proofs.Ytmlmgipngbndgaa
