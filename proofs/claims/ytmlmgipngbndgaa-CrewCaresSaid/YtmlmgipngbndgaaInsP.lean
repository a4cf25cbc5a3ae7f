/- Inspections: plain laws. What is needed at least, from the back; what may be due at most, from the front: the same plans. -/
import Derived.Test.YtmlmgipngbndgaaCareP
namespace Go.Proofs.Ytmlmgipngbndgaa
set_option linter.unusedVariables false
set_option linter.unusedSimpArgs false
def never : Int := 1099511627776
/-- What has to be left before a flight, after the inspection, if there is one; r: what is needed behind it. -/
def befV (gr f r : Int) : Int := max (f - gr) (r + f)
/-- What has to be left at least, with k inspections from there on. -/
def ndL (ev gr : Int) : List Int → Nat → Int
  | [], k => if k = 0 then -never else never
  | f :: t, 0 => befV gr f (ndL ev gr t 0)
  | f :: t, k + 1 => if befV gr f (ndL ev gr t k) ≤ ev then min (befV gr f (ndL ev gr t (k + 1))) (befV gr f (ndL ev gr t k) - ev) else befV gr f (ndL ev gr t (k + 1))
theorem nd_zero (ev gr f : Int) (t : List Int) : ndL ev gr (f :: t) 0 = befV gr f (ndL ev gr t 0) := rfl
theorem nd_succ (ev gr f : Int) (t : List Int) (k : Nat) : ndL ev gr (f :: t) (k + 1) = if befV gr f (ndL ev gr t k) ≤ ev then min (befV gr f (ndL ev gr t (k + 1))) (befV gr f (ndL ev gr t k) - ev) else befV gr f (ndL ev gr t (k + 1)) := rfl
theorem nd_nil (ev gr : Int) (k : Nat) : ndL ev gr [] k = if k = 0 then -never else never := rfl
def FsOk (fs : List Int) : Prop := ∀ f ∈ fs, 1 ≤ f ∧ f ≤ 10000
theorem nd_in {ev gr : Int} (he : 1 ≤ ev ∧ ev ≤ 100000) (hg : 0 ≤ gr ∧ gr ≤ 100000) : ∀ {fs : List Int}, FsOk fs → ∀ k, -never ≤ ndL ev gr fs k ∧ ndL ev gr fs k ≤ never + 10000 * (fs.length : Int)
  | [], _, k => by rw [nd_nil]; unfold never; split <;> simp
  | f :: t, h, k => by
    have hf := h f (List.mem_cons_self ..)
    have ih := fun k => nd_in he hg (fs := t) (fun x hx => h x (List.mem_cons_of_mem _ hx)) k
    have hn : never = 1099511627776 := rfl
    rw [List.length_cons]
    cases k with
    | zero =>
      have i0 := ih 0
      rw [nd_zero]
      unfold befV
      omega
    | succ k =>
      have i0 := ih k
      have i1 := ih (k + 1)
      rw [nd_succ]
      unfold befV
      split <;> omega
theorem nd_big {ev gr : Int} (he : 1 ≤ ev ∧ ev ≤ 100000) : ∀ {fs : List Int}, FsOk fs → ∀ {k : Nat}, fs.length < k → never ≤ ndL ev gr fs k
  | [], _, k, hk => by rw [nd_nil, if_neg (by simp at hk; omega)]; exact Int.le_refl _
  | f :: t, h, 0, hk => by omega
  | f :: t, h, k + 1, hk => by
    have hf := h f (List.mem_cons_self ..)
    have hn : never = 1099511627776 := rfl
    rw [List.length_cons] at hk
    have i0 := nd_big (gr := gr) he (fs := t) (fun x hx => h x (List.mem_cons_of_mem _ hx)) (k := k) (by omega)
    have i1 := nd_big (gr := gr) he (fs := t) (fun x hx => h x (List.mem_cons_of_mem _ hx)) (k := k + 1) (by omega)
    rw [nd_succ]
    unfold befV
    split <;> omega
theorem nd_iff {ev gr f L : Int} {t : List Int} {k : Nat} : ndL ev gr (f :: t) k ≤ L ↔ befV gr f (ndL ev gr t k) ≤ L ∨ ∃ j, k = j + 1 ∧ befV gr f (ndL ev gr t j) ≤ min L 0 + ev := by
  cases k with
  | zero =>
    rw [nd_zero]
    refine ⟨.inl, ?_⟩
    rintro (h | ⟨j, h, _⟩)
    · exact h
    · omega
  | succ k =>
    rw [nd_succ]
    obtain ⟨p, hp⟩ : ∃ p, befV gr f (ndL ev gr t k) = p := ⟨_, rfl⟩
    obtain ⟨q, hq⟩ : ∃ q, befV gr f (ndL ev gr t (k + 1)) = q := ⟨_, rfl⟩
    rw [hp, hq]
    constructor
    · intro h
      by_cases h2 : q ≤ L
      · exact .inl h2
      · refine .inr ⟨k, rfl, ?_⟩
        rw [hp]
        split at h <;> omega
    · rintro (h | ⟨j, hj, h⟩)
      · split <;> omega
      · obtain rfl : k = j := by omega
        rw [hp] at h
        rw [if_pos (by omega)]
        omega
/-! From the front -/
def RowOk (fl : Int) (b : List Int) : Prop := ∀ x ∈ b, x = -never ∨ (-100000 ≤ x ∧ x ≤ fl + 100000)
def atD (b : List Int) (k : Nat) : Int := b[k]?.getD (-never)
/-- An entry of the next row, before it is looked at whether the flight is late. -/
def nxC (ev fl : Int) (b : List Int) (k : Nat) : Int := if 0 < k ∧ -never < atD b (k - 1) then max (atD b k) (min fl (atD b (k - 1)) + ev) else atD b k
/-- An entry of the next row. -/
def nxV (ev gr fl f : Int) (b : List Int) (k : Nat) : Int := if nxC ev fl b k + gr < fl + f then -never else nxC ev fl b k
def nxRow (ev gr fl f : Int) (b : List Int) : List Int := (List.range (b.length + 1)).map (nxV ev gr fl f b)
def frL (ev gr : Int) : List Int → Int → List Int → List Int
  | [], _, b => b
  | f :: t, fl, b => frL ev gr t (fl + f) (nxRow ev gr fl f b)
theorem atD_ok {fl : Int} {b : List Int} (h : RowOk fl b) (k : Nat) : atD b k = -never ∨ (-100000 ≤ atD b k ∧ atD b k ≤ fl + 100000 ∧ b[k]? = some (atD b k)) := by
  unfold atD
  cases hb : b[k]? with
  | none => exact .inl rfl
  | some x =>
    rcases h x (List.mem_of_getElem? hb) with h1 | h1
    · exact .inl (by simpa using h1)
    · exact .inr ⟨by simpa using h1.1, by simpa using h1.2, rfl⟩
theorem atD_some {b : List Int} {k : Nat} {x : Int} (h : b[k]? = some x) : atD b k = x := by unfold atD; rw [h]; rfl
theorem nx_ok {ev gr fl f : Int} {b : List Int} (he : 1 ≤ ev ∧ ev ≤ 100000) (hg : 0 ≤ gr ∧ gr ≤ 100000) (hf : 1 ≤ f ∧ f ≤ 10000) (h0 : 0 ≤ fl) (h : RowOk fl b) (k : Nat) : nxV ev gr fl f b k = -never ∨ (-100000 ≤ nxV ev gr fl f b k ∧ nxV ev gr fl f b k ≤ fl + f + 100000) := by
  have h1 := atD_ok h k
  have h2 := atD_ok h (k - 1)
  have hn : never = 1099511627776 := rfl
  have h3 : nxC ev fl b k = atD b k ∨ (-never < atD b (k - 1) ∧ nxC ev fl b k = max (atD b k) (min fl (atD b (k - 1)) + ev)) := by
    unfold nxC
    split
    · rename_i hc; exact .inr ⟨hc.2, rfl⟩
    · exact .inl rfl
  unfold nxV
  split <;> omega
theorem nxRow_ok {ev gr fl f : Int} {b : List Int} (he : 1 ≤ ev ∧ ev ≤ 100000) (hg : 0 ≤ gr ∧ gr ≤ 100000) (hf : 1 ≤ f ∧ f ≤ 10000) (h0 : 0 ≤ fl) (h : RowOk fl b) : RowOk (fl + f) (nxRow ev gr fl f b) := by
  intro x hx
  unfold nxRow at hx
  obtain ⟨k, _, rfl⟩ := List.mem_map.1 hx
  exact nx_ok he hg hf h0 h k
theorem nxRow_at {ev gr fl f : Int} {b : List Int} {k : Nat} (hk : k < b.length + 1) : (nxRow ev gr fl f b)[k]? = some (nxV ev gr fl f b k) := by
  unfold nxRow
  simp [hk]
theorem nx_iff {ev gr fl f R : Int} {b : List Int} (he : 1 ≤ ev ∧ ev ≤ 100000) (hg : 0 ≤ gr ∧ gr ≤ 100000) (hf : 1 ≤ f ∧ f ≤ 10000) (h0 : 0 ≤ fl) (h : RowOk fl b) {j : Nat} :
    (-100000 ≤ nxV ev gr fl f b j ∧ R ≤ nxV ev gr fl f b j - (fl + f)) ↔ ((-100000 ≤ atD b j ∧ befV gr f R ≤ atD b j - fl) ∨ (∃ i, j = i + 1 ∧ -100000 ≤ atD b i ∧ befV gr f R ≤ min (atD b i - fl) 0 + ev)) := by
  have h1 := atD_ok h j
  have hn : never = 1099511627776 := rfl
  have hC : nxV ev gr fl f b j = (if nxC ev fl b j + gr < fl + f then -never else nxC ev fl b j) := rfl
  rw [hC]
  unfold befV
  cases j with
  | zero =>
    have e : nxC ev fl b 0 = atD b 0 := by unfold nxC; rw [if_neg (fun hc => by omega)]
    rw [e]
    constructor
    · intro hh
      refine .inl ?_
      split at hh <;> omega
    · rintro (hh | ⟨i, hi, _⟩)
      · rw [if_neg (by omega)]; omega
      · omega
  | succ i =>
    have h2 := atD_ok h i
    by_cases hv : -never < atD b i
    · have e : nxC ev fl b (i + 1) = max (atD b (i + 1)) (min fl (atD b i) + ev) := by unfold nxC; rw [Nat.add_sub_cancel, if_pos ⟨by omega, hv⟩]
      rw [e]
      constructor
      · intro hh
        by_cases hm : -100000 ≤ atD b (i + 1) ∧ max (f - gr) (R + f) ≤ atD b (i + 1) - fl
        · exact .inl hm
        · refine .inr ⟨i, rfl, ?_⟩
          split at hh <;> omega
      · rintro (hh | ⟨i', hi, hh⟩)
        · rw [if_neg (by omega)]; omega
        · obtain rfl : i = i' := by omega
          rw [if_neg (by omega)]; omega
    · have e : nxC ev fl b (i + 1) = atD b (i + 1) := by unfold nxC; rw [Nat.add_sub_cancel, if_neg (fun hc => hv hc.2)]
      rw [e]
      constructor
      · intro hh
        refine .inl ?_
        split at hh <;> omega
      · rintro (hh | ⟨i', hi, hh⟩)
        · rw [if_neg (by omega)]; omega
        · obtain rfl : i = i' := by omega
          omega
theorem frL_len {ev gr : Int} : ∀ {t : List Int} {fl : Int} {b : List Int}, (frL ev gr t fl b).length = b.length + t.length
  | [], _, _ => rfl
  | f :: t, fl, b => by
    unfold frL
    rw [frL_len]
    simp [nxRow]
    omega
theorem frL_ok {ev gr : Int} (he : 1 ≤ ev ∧ ev ≤ 100000) (hg : 0 ≤ gr ∧ gr ≤ 100000) : ∀ {t : List Int} {fl : Int} {b : List Int}, FsOk t → 0 ≤ fl → RowOk fl b → RowOk (fl + t.sum) (frL ev gr t fl b)
  | [], fl, b, _, _, h => by simpa [frL] using h
  | f :: t, fl, b, hf, h0, h => by
    have hf0 := hf f (List.mem_cons_self ..)
    have := frL_ok he hg (t := t) (fl := fl + f) (fun x hx => hf x (List.mem_cons_of_mem _ hx)) (by omega) (nxRow_ok he hg hf0 h0 h)
    unfold frL
    rw [List.sum_cons, ← Int.add_assoc]
    exact this
theorem frL_iff {ev gr : Int} (he : 1 ≤ ev ∧ ev ≤ 100000) (hg : 0 ≤ gr ∧ gr ≤ 100000) : ∀ {t : List Int} {fl : Int} {b : List Int}, FsOk t → 0 ≤ fl → fl + 10000 * (t.length : Int) ≤ 10000000 → RowOk fl b → ∀ K : Nat,
    (-100000 ≤ atD (frL ev gr t fl b) K ↔ ∃ j, j ≤ K ∧ -100000 ≤ atD b j ∧ ndL ev gr t (K - j) ≤ atD b j - fl)
  | [], fl, b, _, h0, hu, h, K => by
    have hn : never = 1099511627776 := rfl
    simp only [List.length_nil] at hu
    unfold frL
    constructor
    · intro hk
      refine ⟨K, Nat.le_refl _, hk, ?_⟩
      rw [Nat.sub_self]
      rw [nd_nil, if_pos rfl]
      omega
    · rintro ⟨j, hj, hv, hd⟩
      rw [nd_nil] at hd
      rcases (by omega : K = j ∨ j < K) with rfl | hlt
      · exact hv
      · rw [if_neg (by omega)] at hd
        have := atD_ok h j
        omega
  | f :: t, fl, b, hf, h0, hu, h, K => by
    have hf0 := hf f (List.mem_cons_self ..)
    have ih := frL_iff he hg (t := t) (fl := fl + f) (b := nxRow ev gr fl f b) (fun x hx => hf x (List.mem_cons_of_mem _ hx))
    rw [List.length_cons] at hu
    have hi := ih (by omega) (by omega) (nxRow_ok he hg hf0 h0 h) K
    have hn : never = 1099511627776 := rfl
    rw [show frL ev gr (f :: t) fl b = frL ev gr t (fl + f) (nxRow ev gr fl f b) from rfl, hi]
    -- an entry of the next row
    have hat : ∀ j, -100000 ≤ atD (nxRow ev gr fl f b) j ↔ (-100000 ≤ nxV ev gr fl f b j ∧ atD (nxRow ev gr fl f b) j = nxV ev gr fl f b j) := fun j => by
      rcases Nat.lt_or_ge j (b.length + 1) with hj | hj
      · rw [atD_some (nxRow_at hj)]; simp
      · have e1 : atD (nxRow ev gr fl f b) j = -never := by
          unfold atD
          rw [List.getElem?_eq_none (by unfold nxRow; simpa using hj)]; rfl
        have e2 : atD b j = -never := by unfold atD; rw [List.getElem?_eq_none (by omega)]; rfl
        have e3 : atD b (j - 1) = -never := by unfold atD; rw [List.getElem?_eq_none (by omega)]; rfl
        have e4 : nxV ev gr fl f b j = -never := by
          have e5 : nxC ev fl b j = -never := by unfold nxC; rw [e2, e3, if_neg (fun hc => by omega)]
          unfold nxV
          rw [e5]
          split <;> rfl
        rw [e1, e4]; simp
    constructor
    · rintro ⟨j, hj, hv, hd⟩
      obtain ⟨hv2, he2⟩ := (hat j).1 hv
      rw [he2] at hd
      rcases (nx_iff he hg hf0 h0 h).1 ⟨hv2, hd⟩ with ⟨a1, a2⟩ | ⟨i, rfl, a1, a2⟩
      · exact ⟨j, hj, a1, nd_iff.2 (.inl a2)⟩
      · exact ⟨i, by omega, a1, nd_iff.2 (.inr ⟨K - (i + 1), by omega, a2⟩)⟩
    · rintro ⟨j, hj, hv, hd⟩
      rcases nd_iff.1 hd with a | ⟨r, hr, a⟩
      · obtain ⟨c1, c2⟩ := (nx_iff he hg hf0 h0 h (j := j)).2 (.inl ⟨hv, a⟩)
        have h3 : -100000 ≤ atD (nxRow ev gr fl f b) j ∧ atD (nxRow ev gr fl f b) j = nxV ev gr fl f b j := by
          have hjl : j < b.length := by
            refine Decidable.by_contra fun hc => ?_
            have : atD b j = -never := by unfold atD; rw [List.getElem?_eq_none (by omega)]; rfl
            omega
          rw [atD_some (nxRow_at (by omega))]; exact ⟨c1, rfl⟩
        exact ⟨j, hj, h3.1, by rw [h3.2]; exact c2⟩
      · obtain ⟨c1, c2⟩ := (nx_iff he hg hf0 h0 h (j := j + 1)).2 (.inr ⟨j, rfl, hv, a⟩)
        have h3 : -100000 ≤ atD (nxRow ev gr fl f b) (j + 1) ∧ atD (nxRow ev gr fl f b) (j + 1) = nxV ev gr fl f b (j + 1) := by
          have hjl : j < b.length := by
            refine Decidable.by_contra fun hc => ?_
            have : atD b j = -never := by unfold atD; rw [List.getElem?_eq_none (by omega)]; rfl
            omega
          rw [atD_some (nxRow_at (by omega))]; exact ⟨c1, rfl⟩
        refine ⟨j + 1, by omega, h3.1, ?_⟩
        rw [h3.2, show K - (j + 1) = r by omega]; exact c2
/-! The plan -/
/-- Is there a plan with so many inspections? -/
def canB (ev gr L : Int) (fs : List Int) (k : Nat) : Bool := decide (ndL ev gr fs k ≤ L)
/-- The fewest inspections; below zero: there is no plan. -/
def fewV (ev gr du : Int) (fs : List Int) : Int := idxV (fun x => decide (x ≤ du)) ((List.range (fs.length + 1)).map (ndL ev gr fs))
def insG (ev gr : Int) : List Int → Nat → Nat → Int → List Int
  | [], _, _, _ => []
  | f :: t, i, k, L => if befV gr f (ndL ev gr t k) ≤ L then insG ev gr t (i + 1) k (L - f) else (i : Int) :: insG ev gr t (i + 1) (k - 1) (min L 0 + ev - f)
/-- What Inspect returns: the plan, and the error. -/
def insE (ev gr du : Int) (fs : List Int) : Int := if caredE ev gr du fs = 0 then (if fewV ev gr du fs < 0 then 6 else 0) else caredE ev gr du fs
def insV (ev gr du : Int) (fs : List Int) : List Int := insG ev gr fs 0 (fewV ev gr du fs).toNat du
end Go.Proofs.Ytmlmgipngbndgaa
