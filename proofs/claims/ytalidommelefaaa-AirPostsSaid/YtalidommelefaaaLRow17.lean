/- What the statement computes, walked. -/
import Derived.Test.YtalidommelefaaaPkG
import Derived.Test.YtalidommelefaaaPkI
import Derived.Test.YtalidommelefaaaPkC
import Derived.Test.YtalidommelefaaaPkD
import Derived.Test.YtalidommelefaaaPkM
/- What is known of reports: plain laws. -/
namespace Go.Proofs.Ytalidommelefaaa
set_option linter.unusedVariables false
set_option linter.unusedSimpArgs false
theorem pairs_spec {r : Int} {l : List News} {post kind now : Int} {i k : Nat} : pairs r l post kind now i k = true ↔ i < k ∧ ∃ x y, l[i]? = some x ∧ l[k]? = some y ∧ x.hand post kind now = true ∧ y.hand post kind now = true ∧ contra r x y = true := by
  unfold pairs
  rw [Bool.and_eq_true, decide_eq_true_eq]
  refine and_congr_right fun _ => ?_
  constructor
  · intro h
    split at h
    · rename_i x y h1 h2
      simp only [Bool.and_eq_true] at h
      exact ⟨x, y, h1, h2, h.1.1, h.1.2, h.2⟩
    · cases h
  · rintro ⟨x, y, h1, h2, h3, h4, h5⟩
    rw [h1, h2]
    simp [h3, h4, h5]
theorem conflict_some {r : Int} {l : List News} {post kind now : Int} {i k : Nat} (h : conflictF r l post kind now = some (i, k)) : i < k ∧ k < l.length ∧ pairs r l post kind now i k = true := by
  unfold conflictF at h
  obtain ⟨a, ha, h1⟩ := List.exists_of_findSome?_eq_some h
  unfold conflictRow at h1
  obtain ⟨b, hb, h2⟩ := List.exists_of_findSome?_eq_some h1
  split at h2
  · rename_i hp
    cases h2
    exact ⟨(pairs_spec.1 hp).1, List.mem_range.1 hb, hp⟩
  · cases h2
theorem conflict_none {r : Int} {l : List News} {post kind now : Int} (h : conflictF r l post kind now = none) (i k : Nat) : pairs r l post kind now i k = false := by
  cases hp : pairs r l post kind now i k with
  | false => rfl
  | true =>
    exfalso
    obtain ⟨hik, x, y, h1, h2, _⟩ := pairs_spec.1 hp
    have hi := (List.getElem?_eq_some_iff.1 h1).1
    have hk := (List.getElem?_eq_some_iff.1 h2).1
    unfold conflictF at h
    rw [List.findSome?_eq_none_iff] at h
    have h3 := h i (List.mem_range.2 hi)
    unfold conflictRow at h3
    rw [List.findSome?_eq_none_iff] at h3
    have h4 := h3 k (List.mem_range.2 hk)
    rw [if_pos hp] at h4
    cases h4
theorem contra_comm (r : Int) (x y : News) : contra r x y = contra r y x := by
  unfold contra
  rw [absd_comm, Int.max_comm]
theorem contra_self {r : Int} (hr : 0 ≤ r) {x : News} (h : x.lo ≤ x.hi) : contra r x x = false := by
  unfold contra
  have : 0 ≤ r * absd x.seen x.seen := Int.mul_nonneg hr (absd_nonneg _ _)
  simp only [decide_eq_false_iff_not]
  omega
/-- No two reports at hand contradict each other. -/
theorem no_contra {r : Int} (hr : 0 ≤ r) {l : List News} (hok : ∀ x ∈ l, x.ok = true) {post kind now : Int} (h : conflictF r l post kind now = none) {x y : News} (hx : x ∈ l.filter (News.hand post kind now)) (hy : y ∈ l.filter (News.hand post kind now)) : contra r x y = false := by
  obtain ⟨hx1, hx2⟩ := List.mem_filter.1 hx
  obtain ⟨hy1, hy2⟩ := List.mem_filter.1 hy
  obtain ⟨i, hi, rfl⟩ := List.getElem_of_mem hx1
  obtain ⟨j, hj, rfl⟩ := List.getElem_of_mem hy1
  cases hc : contra r l[i] l[j] with
  | false => rfl
  | true =>
    exfalso
    rcases Nat.lt_trichotomy i j with g | g | g
    · have := conflict_none h i j
      rw [pairs_spec.2 ⟨g, _, _, List.getElem?_eq_getElem hi, List.getElem?_eq_getElem hj, hx2, hy2, hc⟩] at this
      cases this
    · subst g
      rw [contra_self hr (by have := (News.ok_iff _).1 (hok _ hx1); omega)] at hc
      cases hc
    · have := conflict_none h j i
      rw [pairs_spec.2 ⟨g, _, _, List.getElem?_eq_getElem hj, List.getElem?_eq_getElem hi, hy2, hx2, by rw [contra_comm]; exact hc⟩] at this
      cases this
theorem meetLo_le {r at_ b : Int} : ∀ {l : List News} {z : Int}, l.foldl (fun m x => max m (sayLo r at_ x)) z ≤ b ↔ z ≤ b ∧ ∀ x ∈ l, sayLo r at_ x ≤ b
  | [], z => by simp
  | x :: l, z => by
    rw [List.foldl_cons, meetLo_le]
    simp only [List.mem_cons, forall_eq_or_imp]
    constructor
    · rintro ⟨h1, h2⟩
      exact ⟨by omega, by omega, h2⟩
    · rintro ⟨h1, h2, h3⟩
      exact ⟨by omega, h3⟩
theorem le_meetHi {r at_ b : Int} : ∀ {l : List News} {z : Int}, b ≤ l.foldl (fun m x => min m (sayHi r at_ x)) z ↔ b ≤ z ∧ ∀ x ∈ l, b ≤ sayHi r at_ x
  | [], z => by simp
  | x :: l, z => by
    rw [List.foldl_cons, le_meetHi]
    simp only [List.mem_cons, forall_eq_or_imp]
    constructor
    · rintro ⟨h1, h2⟩
      exact ⟨by omega, by omega, h2⟩
    · rintro ⟨h1, h2, h3⟩
      exact ⟨by omega, h3⟩
theorem say_of_no_contra {r : Int} (hr : 0 ≤ r) {x y : News} (hx : x.lo ≤ x.hi) (h : contra r x y = false) (at_ : Int) : sayLo r at_ x ≤ sayHi r at_ y := by
  unfold contra at h
  have h1 := of_decide_eq_false h
  have h2 : r * absd x.seen y.seen ≤ r * (absd x.seen at_ + absd y.seen at_) := Int.mul_le_mul_of_nonneg_left (by unfold absd; omega) hr
  rw [Int.mul_add] at h2
  unfold sayLo sayHi
  omega
theorem say_bounds {r at_ : Int} (hr : 0 ≤ r ∧ r ≤ 100) (ha : 0 ≤ at_ ∧ at_ ≤ 1000000) {x : News} (hx : x.ok = true) : -1099511627776 ≤ sayLo r at_ x ∧ sayLo r at_ x ≤ 1099511627776 ∧ -1099511627776 ≤ sayHi r at_ x ∧ sayHi r at_ x ≤ 1099511627776 := by
  have o := (News.ok_iff x).1 hx
  have h2 : absd x.seen at_ ≤ 1000000 := by unfold absd; omega
  have h3 := absd_nonneg x.seen at_
  have h4 : 0 ≤ r * absd x.seen at_ := Int.mul_nonneg hr.1 h3
  have h5 : r * absd x.seen at_ ≤ 100 * 1000000 := Int.mul_le_mul hr.2 h2 h3 (by omega)
  unfold sayLo sayHi
  omega
/-- Spans that agree pair by pair have something in common. -/
theorem meet_ok {r at_ : Int} (hr : 0 ≤ r ∧ r ≤ 100) (ha : 0 ≤ at_ ∧ at_ ≤ 1000000) {l : List News} (hok : ∀ x ∈ l, x.ok = true) {post kind now : Int} (h : conflictF r l post kind now = none) :
    meetLo r at_ (l.filter (News.hand post kind now)) ≤ meetHi r at_ (l.filter (News.hand post kind now)) := by
  unfold meetLo meetHi
  rw [meetLo_le]
  have hm : ∀ x ∈ l.filter (News.hand post kind now), x.ok = true := fun x hx => hok x (List.mem_filter.1 hx).1
  refine ⟨le_meetHi.2 ⟨by omega, fun y hy => (say_bounds hr ha (hm y hy)).2.2.1⟩, fun x hx => le_meetHi.2 ⟨(say_bounds hr ha (hm x hx)).2.1, fun y hy => ?_⟩⟩
  exact say_of_no_contra hr.1 (by have := (News.ok_iff x).1 (hm x hx); omega) (no_contra hr.1 hok h hx hy) at_
/-- A report of a value. -/
def repN (post kind at_ val : Int) : News := ⟨post, kind, at_, at_, val, val⟩
theorem contra_rep {r post kind at_ val : Int} {x : News} : contra r x (repN post kind at_ val) = false ↔ sayLo r at_ x ≤ val ∧ val ≤ sayHi r at_ x := by
  unfold contra sayLo sayHi repN
  simp only [decide_eq_false_iff_not]
  omega
theorem holds_meet {r at_ val : Int} (hv : -12000 ≤ val ∧ val ≤ 12000) {hs : List News} : (meetLo r at_ hs ≤ val ∧ val ≤ meetHi r at_ hs) ↔ ∀ x ∈ hs, sayLo r at_ x ≤ val ∧ val ≤ sayHi r at_ x := by
  unfold meetLo meetHi
  rw [meetLo_le, le_meetHi]
  constructor
  · rintro ⟨⟨_, h1⟩, _, h2⟩ x hx
    exact ⟨h1 x hx, h2 x hx⟩
  · intro h
    exact ⟨⟨by omega, fun x hx => (h x hx).1⟩, by omega, fun x hx => (h x hx).2⟩
theorem filter_more {l : List News} {post kind now at_ val : Int} (hn : at_ ≤ now) : (l ++ [repN post kind at_ val]).filter (News.hand post kind now) = l.filter (News.hand post kind now) ++ [repN post kind at_ val] := by
  rw [List.filter_append]
  have : (repN post kind at_ val).hand post kind now = true := by unfold News.hand repN; simp [hn]
  simp [this]
theorem pairs_old {r : Int} {l : List News} {x : News} {post kind now : Int} {i k : Nat} (hk : k < l.length) : pairs r (l ++ [x]) post kind now i k = pairs r l post kind now i k := by
  unfold pairs
  by_cases h : i < k
  · rw [List.getElem?_append_left (by omega), List.getElem?_append_left hk]
  · simp [h]
theorem conf_more_no {r : Int} {l : List News} {post kind now at_ val : Int} (h : conflictF r l post kind now = none) (hv : ∀ x ∈ l.filter (News.hand post kind now), sayLo r at_ x ≤ val ∧ val ≤ sayHi r at_ x) : conflictF r (l ++ [repN post kind at_ val]) post kind now = none := by
  refine conflictF_none _ _ _ _ _ fun i k hi hk => ?_
  rw [List.length_append, List.length_singleton] at hk
  rcases Nat.lt_or_ge k l.length with g | g
  · rw [pairs_old g]; exact conflict_none h i k
  · obtain rfl : k = l.length := by omega
    cases hp : pairs r (l ++ [repN post kind at_ val]) post kind now i l.length with
    | false => rfl
    | true =>
      exfalso
      obtain ⟨hik, x, y, h1, h2, h3, h4, h5⟩ := pairs_spec.1 hp
      rw [List.getElem?_append_left hik] at h1
      rw [List.getElem?_append_right (Nat.le_refl _)] at h2
      simp at h2
      subst h2
      have := (contra_rep (post := post) (kind := kind)).2 (hv x (List.mem_filter.2 ⟨List.mem_of_getElem? h1, h3⟩))
      rw [this] at h5
      cases h5
theorem conf_more_yes {r : Int} {l : List News} {post kind now at_ val : Int} (hn : at_ ≤ now) (h : conflictF r l post kind now = none) (hv : ¬ ∀ x ∈ l.filter (News.hand post kind now), sayLo r at_ x ≤ val ∧ val ≤ sayHi r at_ x) : ∃ i, i < l.length ∧ conflictF r (l ++ [repN post kind at_ val]) post kind now = some (i, l.length) := by
  cases hc : conflictF r (l ++ [repN post kind at_ val]) post kind now with
  | none =>
    exfalso
    refine hv fun x hx => ?_
    obtain ⟨hx1, hx2⟩ := List.mem_filter.1 hx
    obtain ⟨i, hi, rfl⟩ := List.getElem_of_mem hx1
    have := conflict_none hc i l.length
    refine (contra_rep (post := post) (kind := kind)).1 ?_
    cases hq : contra r l[i] (repN post kind at_ val) with
    | false => rfl
    | true =>
      rw [pairs_spec.2 ⟨hi, l[i], repN post kind at_ val, by rw [List.getElem?_append_left hi]; exact List.getElem?_eq_getElem hi, by rw [List.getElem?_append_right (Nat.le_refl _)]; simp, hx2, by unfold News.hand repN; simp [hn], hq⟩] at this
      cases this
  | some q =>
    obtain ⟨i, k⟩ := q
    obtain ⟨h1, h2, h3⟩ := conflict_some hc
    rw [List.length_append, List.length_singleton] at h2
    rcases Nat.lt_or_ge k l.length with g | g
    · rw [pairs_old g, conflict_none h i k] at h3
      cases h3
    · obtain rfl : k = l.length := by omega
      exact ⟨i, h1, rfl⟩
theorem known_more {r : Int} {l : List News} {post kind now at_ val : Int} (hn : at_ ≤ now) (hv : -12000 ≤ val ∧ val ≤ 12000) (h : conflictF r l post kind now = none) (hh : ∀ x ∈ l.filter (News.hand post kind now), sayLo r at_ x ≤ val ∧ val ≤ sayHi r at_ x) :
    knownF r (l ++ [repN post kind at_ val]) post kind at_ now = (val, val, 0) := by
  have hm := (holds_meet (r := r) (at_ := at_) hv).2 hh
  have e1 : sayLo r at_ (repN post kind at_ val) = val := by
    unfold sayLo repN absd
    simp
  have e2 : sayHi r at_ (repN post kind at_ val) = val := by
    unfold sayHi repN absd
    simp
  unfold knownF
  simp only
  rw [filter_more hn, conf_more_no h hh]
  rw [if_neg (by simp)]
  unfold meetLo meetHi at hm ⊢
  rw [List.foldl_append, List.foldl_append]
  simp only [List.foldl_cons, List.foldl_nil, Option.isSome_none, Bool.false_eq_true, if_false, e1, e2]
  rw [show max (List.foldl (fun m x => max m (sayLo r at_ x)) (-1099511627776) (l.filter (News.hand post kind now))) val = val by omega, show min (List.foldl (fun m x => min m (sayHi r at_ x)) 1099511627776 (l.filter (News.hand post kind now))) val = val by omega]
theorem known_conf {r : Int} {l : List News} {post kind now at_ : Int} {q : Nat × Nat} (h : conflictF r l post kind now = some q) : knownF r l post kind at_ now = (0, 0, 24) := by
  obtain ⟨i, k⟩ := q
  obtain ⟨_, _, h3⟩ := conflict_some h
  obtain ⟨_, x, y, h1, _, h4, _⟩ := pairs_spec.1 h3
  have : l.filter (News.hand post kind now) ≠ [] := List.ne_nil_of_mem (List.mem_filter.2 ⟨List.mem_of_getElem? h1, h4⟩)
  unfold knownF
  simp only
  rw [if_neg this, h]
  rfl
theorem conf_of_nil {r : Int} {l : List News} {post kind now : Int} (h : l.filter (News.hand post kind now) = []) : conflictF r l post kind now = none := by
  cases hc : conflictF r l post kind now with
  | none => rfl
  | some q =>
    exfalso
    obtain ⟨i, k⟩ := q
    obtain ⟨_, _, h3⟩ := conflict_some hc
    obtain ⟨_, x, y, h1, _, h4, _⟩ := pairs_spec.1 h3
    have : x ∈ l.filter (News.hand post kind now) := List.mem_filter.2 ⟨List.mem_of_getElem? h1, h4⟩
    rw [h] at this
    cases this
theorem known_nil {r : Int} {l : List News} {post kind now at_ : Int} (h : l.filter (News.hand post kind now) = []) : knownF r l post kind at_ now = (0, 0, 6) := by
  unfold knownF
  simp only
  rw [if_pos h]
theorem known_ok {r : Int} {l : List News} {post kind now at_ : Int} (h : ¬ l.filter (News.hand post kind now) = []) (hc : conflictF r l post kind now = none) : knownF r l post kind at_ now = (meetLo r at_ (l.filter (News.hand post kind now)), meetHi r at_ (l.filter (News.hand post kind now)), 0) := by
  unfold knownF
  simp only
  rw [if_neg h, hc]
  rfl
end Go.Proofs.Ytalidommelefaaa
/- Soundings from posts: plain laws. -/
namespace Go.Proofs.Ytalidommelefaaa
set_option linter.unusedVariables false
set_option linter.unusedSimpArgs false
theorem stepOk_rise {l : List Int} {i : Nat} {x y : Int} (h : stepOk l (i + 1) = true) (hy : l[i + 1]? = some y) (hx : l[i]? = some x) : 1 ≤ y - x ∧ y - x ≤ 2000 := by
  rw [stepOk_succ hy hx] at h
  simp only [Bool.and_eq_true, decide_eq_true_eq] at h
  exact h.2
theorem posts_at {ps : List Po} (h : postsB ps = true) : (∀ (i : Nat) (x : Po), ps[i]? = some x → -500 ≤ x.h ∧ x.h ≤ 9000 ∧ 0 ≤ x.g ∧ x.g ≤ 500) ∧ ∀ (i : Nat) (x y : Po), ps[i]? = some x → ps[i + 1]? = some y → 1 ≤ y.h - x.h := by
  unfold postsB climbsV at h
  simp only [Bool.and_eq_true, List.all_eq_true, List.mem_range, List.length_map, decide_eq_true_eq] at h
  obtain ⟨⟨h1, h2⟩, h3⟩ := h
  refine ⟨fun i x hx => ?_, fun i x y hx hy => ?_⟩
  · have a := stepOk_h (l := ps.map Po.h) (i := i) (x := x.h) (by simp [hx]) (h1 i (List.getElem?_eq_some_iff.1 hx).1)
    have b := h3 x (List.mem_of_getElem? hx)
    unfold poOk at b
    have b := of_decide_eq_true b
    omega
  · have a := stepOk_rise (l := ps.map Po.h) (i := i) (x := x.h) (y := y.h) (h1 (i + 1) (List.getElem?_eq_some_iff.1 hy).1) (by simp [hy]) (by simp [hx])
    omega
section
variable {p t v : Int} {l : List News} {at_ now : Int} {ps : List Po}
theorem allE_rows {n : Nat} (h : allE p t v l at_ now n = 0) : ∀ i, i < n → rowE p t v l at_ now i = 0 := by
  intro i hi
  unfold allE at h
  cases hc : (List.range n).findSome? fun i => if rowE p t v l at_ now i = 0 then none else some (rowE p t v l at_ now i) with
  | none =>
    rw [List.findSome?_eq_none_iff] at hc
    have := hc i (List.mem_range.2 hi)
    split at this
    · assumption
    · cases this
  | some E =>
    rw [hc] at h
    obtain ⟨a, _, ha⟩ := List.exists_of_findSome?_eq_some hc
    split at ha
    · cases ha
    · rename_i hne
      cases ha
      exact absurd h hne
theorem rowE_kinds {i : Nat} (h : rowE p t v l at_ now i = 0) : ∀ k ∈ [(1 : Int), 2, 3, 4], knE p t v l at_ now i k = 0 := by
  intro k hk
  unfold rowE at h
  cases hc : [(1 : Int), 2, 3, 4].findSome? fun k => if knE p t v l at_ now i k = 0 then none else some (knE p t v l at_ now i k) with
  | none =>
    rw [List.findSome?_eq_none_iff] at hc
    have := hc k hk
    split at this
    · assumption
    · cases this
  | some E =>
    rw [hc] at h
    obtain ⟨a, _, ha⟩ := List.exists_of_findSome?_eq_some hc
    split at ha
    · cases ha
    · rename_i hne
      cases ha
      exact absurd h hne
theorem odd_kinds {n : Nat} (h : oddAll p t v l at_ now n = false) {i : Nat} (hi : i < n) {k : Nat} (h1 : 1 ≤ k) (h4 : k ≤ 4) : vLo p t v l at_ now i k ≤ vHi p t v l at_ now i k := by
  unfold oddAll at h
  rw [List.any_eq_false] at h
  have h2 := h i (List.mem_range.2 hi)
  have h2' : oddUpTo p t v l at_ now i 5 = false := by simpa using h2
  unfold oddUpTo at h2'
  rw [List.any_eq_false] at h2'
  have h3 := h2' k (List.mem_range.2 (by omega))
  unfold oddV at h3
  simp only [Bool.and_eq_true, decide_eq_true_eq, not_and] at h3
  have := h3 h1
  omega
/-- What is known of a kind at a post, all being well. -/
theorem kn_at {n : Nat} (hE : souE p t v l at_ now ps = 0) (hn : ps.length = n) {i : Nat} (hi : i < n) {k : Nat} (h1 : 1 ≤ k) (h4 : k ≤ 4) :
    ∃ a b, knownS p t v l i k at_ now = (a, b, 0) ∧ fineS (a, b) = true ∧ max a (limLo k) = vLo p t v l at_ now i k ∧ min b (limHi k) = vHi p t v l at_ now i k ∧ vLo p t v l at_ now i k ≤ vHi p t v l at_ now i k := by
  unfold souE at hE
  split at hE
  · rename_i hA
    split at hE
    · rename_i hR
      split at hE
      · omega
      · rename_i hO
        rw [hn] at hR hO
        have hO' : oddAll p t v l at_ now n = false := by simpa using hO
        have hk : knE p t v l at_ now i k = 0 := rowE_kinds (allE_rows hR i hi) k (by
          simp only [List.mem_cons, List.not_mem_nil, or_false]
          omega)
        unfold souA at hA
        split at hA
        · rename_i hAs
          have hn16 : n ≤ 16 := by
            split at hA
            · rename_i hp; have := postsB_n hp; omega
            · omega
          obtain ⟨hok, p0, p1, t0, t1, v0, v1, s0, s1, d0, d1, a0, a1, n0, n1⟩ := asked_all hAs
          have hrr : 0 ≤ rateOf p t v k ∧ rateOf p t v k ≤ 100 := by unfold rateOf; (repeat' split) <;> omega
          have hask : asked p t v l i k at_ now = 0 := by
            unfold asked at hAs ⊢
            split at hAs
            · rename_i hc
              rw [if_pos hc, if_pos (by unfold askedOk; simp only [decide_eq_true_eq]; omega)]
            · rename_i hc; exact absurd hAs hc
          have e : knownS p t v l i k at_ now = knownF (rateOf p t v k) l i k at_ now := by unfold knownS; rw [if_pos hask]
          have hb := knownF_lo (post := i) (kind := k) (now := now) hok hrr ⟨a0, a1⟩
          have hm : (knownF (rateOf p t v k) l i k at_ now).1 ≤ (knownF (rateOf p t v k) l i k at_ now).2.1 := by
            unfold knE at hk
            by_cases hf : l.filter (News.hand i k now) = []
            · rw [known_nil hf] at hk; simp at hk
            · cases hc : conflictF (rateOf p t v k) l i k now with
              | some q => rw [known_conf hc] at hk; simp at hk
              | none =>
                rw [known_ok hf hc]
                exact meet_ok hrr ⟨a0, a1⟩ hok hc
          refine ⟨(knownF (rateOf p t v k) l i k at_ now).1, (knownF (rateOf p t v k) l i k at_ now).2.1, ?_, ?_, rfl, rfl, odd_kinds hO' hi h1 h4⟩
          · rw [e]
            unfold knE at hk
            exact Prod.ext rfl (Prod.ext rfl hk)
          · rw [fineS_iff]
            simp only
            omega
        · rename_i h; exact absurd hA h
    · rename_i h; exact absurd hE h
  · rename_i h; exact absurd hE h
theorem sou_posts (hE : souE p t v l at_ now ps = 0) : postsB ps = true := by
  unfold souE at hE
  split at hE
  · rename_i hA
    unfold souA at hA
    split at hA
    · split at hA
      · assumption
      · omega
    · rename_i h; exact absurd hA h
  · rename_i h; exact absurd hE h
theorem souLvs_at {n i : Nat} (hi : i < n) : (souLvs p t v l at_ now ps n)[i]? = some (souLv p t v l at_ now ps i) := by
  unfold souLvs
  rw [List.getElem?_map, List.getElem?_range hi]; rfl
theorem souGls_at {n i : Nat} (hi : i < n) : (souGls p t v l at_ now ps n)[i]? = some (souGl p t v l at_ now ps i) := by
  unfold souGls
  rw [List.getElem?_map, List.getElem?_range hi]; rfl
theorem sou_sound {n : Nat} (hE : souE p t v l at_ now ps = 0) (hn : ps.length = n) : soundB (souLvs p t v l at_ now ps n) = true := by
  have hp := sou_posts hE
  have e : (souLvs p t v l at_ now ps n).map Lv.h = ps.map Po.h := by
    refine List.ext_getElem? fun i => ?_
    rcases Nat.lt_or_ge i n with h | h
    · have hx : ps[i]? = some ps[i] := List.getElem?_eq_getElem (by omega)
      rw [List.getElem?_map, souLvs_at h, List.getElem?_map, hx]
      simp only [Option.map_some, souLv, hx]
    · rw [List.getElem?_eq_none (by simp [souLvs]; omega), List.getElem?_eq_none (by simp; omega)]
  unfold soundB
  rw [e]
  unfold postsB at hp
  rw [Bool.and_eq_true] at hp ⊢
  refine ⟨hp.1, List.all_eq_true.2 fun x hx => ?_⟩
  unfold souLvs at hx
  obtain ⟨i, hi, rfl⟩ := List.mem_map.1 hx
  have hi := List.mem_range.1 hi
  obtain ⟨a1, b1, _, _, m1, m2, m3⟩ := kn_at hE hn hi (k := 1) (by omega) (by omega)
  obtain ⟨a2, b2, _, _, m4, m5, m6⟩ := kn_at hE hn hi (k := 2) (by omega) (by omega)
  have l1 : limLo ((1 : Nat) : Int) = 1000 := rfl
  have l2 : limHi ((1 : Nat) : Int) = 12000 := rfl
  have l3 : limLo ((2 : Nat) : Int) = 1500 := rfl
  have l4 : limHi ((2 : Nat) : Int) = 3500 := rfl
  rw [l1] at m1
  rw [l2] at m2
  rw [l3] at m4
  rw [l4] at m5
  have c1 : ((1 : Nat) : Int) = 1 := rfl
  have c2 : ((2 : Nat) : Int) = 2 := rfl
  rw [c1] at m1 m2 m3
  rw [c2] at m4 m5 m6
  unfold lvOk souLv
  simp only [Bool.and_eq_true, decide_eq_true_eq]
  omega
theorem sou_winds {n : Nat} (hE : souE p t v l at_ now ps = 0) (hn : ps.length = n) : windB (souGls p t v l at_ now ps n) = true := by
  have hp := sou_posts hE
  have hn2 := postsB_n hp
  obtain ⟨pa, pb⟩ := posts_at hp
  rw [windB_iff]
  have hl : (souGls p t v l at_ now ps n).length = n := by simp [souGls]
  refine ⟨by omega, by omega, fun x hx => ?_, fun {i x y} hx hy => ?_⟩
  · unfold souGls at hx
    obtain ⟨i, hi, rfl⟩ := List.mem_map.1 hx
    have hi := List.mem_range.1 hi
    obtain ⟨a1, b1, _, _, m1, m2, m3⟩ := kn_at hE hn hi (k := 3) (by omega) (by omega)
    obtain ⟨a2, b2, _, _, m4, m5, m6⟩ := kn_at hE hn hi (k := 4) (by omega) (by omega)
    have l1 : limLo ((3 : Nat) : Int) = -1000 := rfl
    have l2 : limHi ((3 : Nat) : Int) = 1000 := rfl
    have l3 : limLo ((4 : Nat) : Int) = -1000 := rfl
    have l4 : limHi ((4 : Nat) : Int) = 1000 := rfl
    rw [l1] at m1
    rw [l2] at m2
    rw [l3] at m4
    rw [l4] at m5
    have c1 : ((3 : Nat) : Int) = 3 := rfl
    have c2 : ((4 : Nat) : Int) = 4 := rfl
    rw [c1] at m1 m2 m3
    rw [c2] at m4 m5 m6
    have hx : ps[i]? = some ps[i] := List.getElem?_eq_getElem (by omega)
    have := pa i _ hx
    unfold souGl
    simp only [hx]
    omega
  · have hi : i + 1 < n := by have := (List.getElem?_eq_some_iff.1 hy).1; omega
    rw [souGls_at (by omega)] at hx hy
    cases hx
    cases hy
    have h1 : ps[i]? = some ps[i] := List.getElem?_eq_getElem (by omega)
    have h2 : ps[i + 1]? = some ps[i + 1] := List.getElem?_eq_getElem (by omega)
    have := pb i _ _ h1 h2
    unfold souGl
    simp only [h1, h2]
    omega
end
end Go.Proofs.Ytalidommelefaaa
/- Law 17: soundings from posts. -/
namespace Go.Proofs.Ytalidommelefaaa
open Go.RowKit
attribute [local irreducible] OQ OS OX Rd T TL GX GL AL AI RV wpG SAny Calls
set_option maxRecDepth 100000
set_option maxHeartbeats 2000000
set_option linter.unusedVariables false
set_option linter.unusedSimpArgs false


def SouY (n : Nat) (ls : List Lv) (gs : List Gl) (V : Value) (H : Hp) : Prop :=
  ∃ g1 c1 g2 c2, V = .tuple #[.slice (some ⟨g1, 0, none⟩) n c1, .slice (some ⟨g2, 0, none⟩) n c2, .int .i64 0] ∧
    H = [(g1, (ls.map lvCells).flatten, some (76, 5, c1)), (g2, (gs.map glCells).flatten, some (96, 6, c2))]
def SouN (E : Int) (V : Value) (H : Hp) : Prop := V = .tuple #[.slice none 0 0, .slice none 0 0, .int .i64 E] ∧ H = []
theorem souY {E : Int} {n : Nat} {ls : List Lv} {gs : List Gl} {V : Value} {H : Hp} (he : E = 0) (h : SouV E n ls gs V H) : SouY n ls gs V H := by
  rcases h with ⟨h, _⟩ | ⟨_, h⟩
  · exact absurd he h
  · exact h
theorem souN {E : Int} {n : Nat} {ls : List Lv} {gs : List Gl} {V : Value} {H : Hp} (he : E ≠ 0) (h : SouV E n ls gs V H) : SouN E V H := by
  rcases h with ⟨_, h⟩ | ⟨h, _⟩
  · exact h
  · exact absurd h he
def jK : Nat → Int | 0 => 0 | 1 => 1 | 2 => 2 | 3 => 3 | _ => 4
theorem gl_flat_get : ∀ {l : List Gl} {i j : Nat} {x : Gl} {v : Value}, l[i]? = some x → (glCells x)[j]? = some v → (l.map glCells).flatten[0 + i * 6 + j]? = some v
  | [], i, j, x, v, h, _ => by simp at h
  | y :: l, 0, j, x, v, h, hv => by
    obtain rfl : y = x := by simpa using h
    have hj := (List.getElem?_eq_some_iff.1 hv).1
    rw [List.map_cons, List.flatten_cons, List.getElem?_append_left (by omega)]
    rw [show 0 + 0 * 6 + j = j by omega]; exact hv
  | y :: l, i + 1, j, x, v, h, hv => by
    have ih := gl_flat_get (l := l) (i := i) (j := j) (by simpa using h) hv
    rw [List.map_cons, List.flatten_cons, List.getElem?_append_right (by simp [glCells]; omega)]
    rw [← ih]; congr 1; simp [glCells]; omega
theorem rdgl {c : Cx} {H H' : Hp} {g : Nat} {tg : Tg} {l : List Gl} {i : Nat} (j : Nat) {x : Gl} {v : Value} (ha : l[i]? = some x) (hv : (glCells x)[j]? = some v) (p : Pick H g (l.map glCells).flatten tg H') : Rd c H ⟨g, 0 + i * 6 + j, none⟩ v := Rd.own p (gl_flat_get ha hv)
theorem fine2P {w0 : World} {M : Ms} {H H' : Hp} {w : World} {g : Nat} {a b c d : Int} {tg : Tg} {cp : Nat} {q : Bool} (hq : [(a, b), (c, d)].all fineS = q) (h : Has w0 M H w) (p : Pick H g [.int .i64 a, .int .i64 b, .int .i64 c, .int .i64 d] tg H') :
    Calls Try.prog 121 #[.slice (some ⟨g, 0, none⟩) 2 cp] w fun e w' => e = .returned (.bool q) ∧ Ext w w' :=
  hq ▸ fine_calls (some ⟨g, 0, none⟩) 2 cp [(a, b), (c, d)] w (Blk.rows (k := 2) (rows := [(a, b), (c, d)].map spanCells) (h.blk _ p.mem).2 rfl (by simp [spanCells])) (by omega)
theorem meet_calls (a b c d : Int) (h1 : fineS (a, b) = true) (h2 : fineS (c, d) = true) (h3 : max a c ≤ min b d) (w : World) : Calls Try.prog 56 #[.agg #[.int .i64 a, .int .i64 b], .agg #[.int .i64 c, .int .i64 d]] w fun e w' => e = .returned (.tuple #[.agg #[.int .i64 (max a c), .int .i64 (min b d)], .int .i64 0]) ∧ Ext w w' := by
  have hq : [(a, b), (c, d)].all fineS = true := by simp [h1, h2]
  refine enterQ (c := cx w 31) Try.func56 rfl rfl rfl rfl ?_
  repeat' (first | ((with_reducible apply oq_id); first | ((with_reducible apply oq_leqT); exact rfl; exact rfl; omega) | (apply oq_fn; exact rfl; first | exact trivial | (refine ⟨?_, ?_⟩ <;> omega) | (refine ⟨?_, ?_, ?_⟩ <;> omega) | omega | skip) | ((with_reducible apply oq_load); exact rfl; exact rfl) | ((with_reducible apply oq_loadAgg); exact rfl; exact rfl) | ((with_reducible apply oq_call (k := 121) (hc := Try.call121)); exact rfl; exact rfl; exact fun D w1 hw1 => fine2P hq hw1 (by (repeat (first | exact P0 | apply P1)))) | ((with_reducible apply oq_build); exact rfl; exact rfl; exact rfl)) | ((with_reducible apply tl_id); first | ((with_reducible apply tl_nil)) | ((with_reducible apply u_q); exact rfl; exact rfl; exact rfl; exact rfl) | ((with_reducible apply u_s0); exact rfl; exact rfl) | ((with_reducible apply u_s); exact rfl; exact rfl; exact rfl)) | ((with_reducible apply os_id); first | ((with_reducible apply os_x); exact rfl) | ((with_reducible apply os_storeAgg); exact rfl; exact rfl; exact rfl; exact rfl; exact rfl)) | ((with_reducible apply ox_id); first | ((with_reducible apply ox_alloc); exact rfl; intro _) | ((with_reducible apply ox_boxAgg); exact rfl; intro _) | ((with_reducible apply ox_buildSlice2); exact rfl; exact rfl; exact rfl; exact rfl; exact rfl; exact rfl; intro _)) | ((with_reducible apply rd_id); first | (apply Rd.own; (repeat (first | exact P0 | apply P1)); exact rfl; done)) | ((with_reducible apply t_id); first | ((with_reducible apply t_seq)) | (apply t_region; kernel_rfl) | ((with_reducible apply t_condT); exact rfl) | ((with_reducible apply t_condF); exact rfl) | ((with_reducible apply t_ret)) | ((with_reducible apply t_skip))) | with_reducible apply q_thenN | with_reducible apply q_thenR | exact P0 | ((with_reducible apply P1)) | exact Rdn.zero | apply Rdn.succ | ((with_reducible apply Norm.nil); exact rfl) | ((with_reducible apply Norm.cons); exact rfl) | ((with_reducible apply end_ret)) | exact rvs_nil | ((with_reducible apply rvs_cons)) | ((with_reducible apply rv_tmp); exact rfl) | ((with_reducible apply rv_cellAgg); exact rfl; exact rfl) | exact Nat.le_of_ble_eq_true rfl)
  all_goals rfl
theorem airPosts_T (Ap : Option Addr) (np cp : Nat) (ps : List Po) (p t v : Int) (A : Option Addr) (n c : Nat) (l : List News) (at_ now : Int) (w : World) (hpp : RdS w 2 Ap np (ps.map poCells)) (hr : RdS w 6 A n (l.map News.cells)) :
    Calls Try.prog 17 #[.slice Ap np cp, .agg #[.int .i64 p, .int .i64 t, .int .i64 v], .slice A n c, .int .i64 at_, .int .i64 now] w fun e w' => e = .returned (.bool true) ∧ Ext w w' := by
  have hl := hr.len
  have hlp := hpp.len
  simp only [List.length_map] at hl hlp
  by_cases hb1 : np ≤ 24
  · by_cases hb2 : n ≤ 120
    · have hn : n ≤ 1000000 := by omega
      have hnp : np ≤ 1000000 := by omega
      have hls : (souLvs p t v l at_ now ps np).length = np := by simp [souLvs]
      have hgs : (souGls p t v l at_ now ps np).length = np := by simp [souGls]
      by_cases hE : souE p t v l at_ now ps = 0
      · have H28 : ∀ w1, Ext w w1 → Calls Try.prog 28 #[.slice Ap np cp, .agg #[.int .i64 p, .int .i64 t, .int .i64 v], .slice A n c, .int .i64 at_, .int .i64 now] w1 fun e w' => ∃ V H', e = .returned V ∧ SouY np (souLvs p t v l at_ now ps np) (souGls p t v l at_ now ps np) V H' ∧ Has w1 ⟨[], []⟩ H' w' :=
          fun w1 hx => (sound_T Ap np cp ps p t v A n c l at_ now w1 (hpp.ext hx) hnp (hr.ext hx) hn).mono fun e w' ⟨V, H', h1, h2, h3⟩ => ⟨V, H', h1, souY hE h2, h3⟩
        have HA := fun g cq w1 h => checkAir_calls (some ⟨g, 0, none⟩) np cq (souLvs p t v l at_ now ps np) w1 h hnp
        have HB := fun g cq w1 h => checkWinds_calls (some ⟨g, 0, none⟩) np cq (souGls p t v l at_ now ps np) w1 h hnp
        rw [sou_sound hE hlp] at HA
        rw [sou_winds hE hlp] at HB
        simp only [if_true] at HA HB
        refine enterQ (c := cx w 186) Try.func17 rfl rfl rfl rfl ?_
        repeat' (first | ((with_reducible apply oq_id); first | ((with_reducible apply oq_gtrF); exact rfl; exact rfl; omega) | ((with_reducible apply oq_neqF); exact rfl; exact rfl; omega) | (apply oq_fn; exact rfl; first | exact trivial | (refine ⟨?_, ?_⟩ <;> omega) | (refine ⟨?_, ?_, ?_⟩ <;> omega) | omega | skip) | ((with_reducible apply oq_loadAgg); exact rfl; exact rfl) | ((with_reducible apply oq_call (k := 48) (hc := Try.call48)); exact rfl; exact rfl; exact fun D w1 hw1 => alive_calls w1) | ((with_reducible apply oq_call (k := 27) (hc := Try.call27)); exact rfl; exact rfl; exact fun D w1 hw1 => greatS_calls _ w1) | ((with_reducible apply oq_call (k := 38) (hc := Try.call38)); exact rfl; exact rfl; exact fun D w1 hw1 => HA _ _ w1 (lvS_rows hls hw1 (by (repeat (first | exact P0 | apply P1))))) | ((with_reducible apply oq_call (k := 34) (hc := Try.call34)); exact rfl; exact rfl; exact fun D w1 hw1 => HB _ _ w1 (glS_rows hgs hw1 (by (repeat (first | exact P0 | apply P1)))))) | ((with_reducible apply tl_id); first | ((with_reducible apply tl_nil)) | ((with_reducible apply u_s); exact rfl; exact rfl; exact rfl; (with_reducible apply os_callF (PV := SouY np (souLvs p t v l at_ now ps np) (souGls p t v l at_ now ps np)) (k := 28) (hc := Try.call28)); exact rfl; exact rfl; exact fun D w1 hw1 => H28 w1 hw1.ext.ext; rintro V' H' ⟨g1, c1', g2, c2', rfl, rfl⟩; simp only [List.cons_append, List.nil_append]) | ((with_reducible apply u_q); exact rfl; exact rfl; exact rfl; exact rfl) | ((with_reducible apply u_s); exact rfl; exact rfl; exact rfl) | ((with_reducible apply u_splitD); exact rfl; exact rfl; all_goals first | (intro hp; try (exfalso; omega)) | skip)) | ((with_reducible apply os_id); first | ((with_reducible apply os_x); exact rfl)) | ((with_reducible apply ox_id); first | ((with_reducible apply ox_boxAgg); exact rfl; intro _)) | ((with_reducible apply rd_id); first | (apply Rd.own; (repeat (first | exact P0 | apply P1)); exact rfl; done)) | ((with_reducible apply t_id); first | ((with_reducible apply t_seq)) | (apply t_region; kernel_rfl) | ((with_reducible apply t_condF); exact rfl) | ((with_reducible apply t_skip)) | ((with_reducible apply t_block))) | with_reducible apply q_thenN | exact Rdn.zero | apply Rdn.succ)
        apply t_loopK (ι := Nat) [2, 3, 4, 6, 11, 12, 13, 83, 84, 185] (fun k => [(85, .int .i64 (k : Nat))]) (fun _ => []) (fun k => k ≤ np) (fun k => np - k) (0)
        (repeat (first | exact KeepF.nil | (apply KeepF.cons; exact rfl) | apply KeepF.skip))
        (repeat (first | exact FrSub.nil | (apply FrSub.cons; exact rfl)))
        (repeat (first | exact HpSub.refl _ | (apply HpSub.consE; (repeat (first | exact P0 | apply P1)); exact rfl) | exact HpSub.nil))
        · omega
        intro i hk
        try simp only [List.cons_append, List.nil_append]
        by_cases hlt : i < np
        · obtain ⟨b, o, x, rfl, _, hx, c0, c1⟩ := po_read hpp hlt
          obtain ⟨z1, hz1, eh1, e1, e2, e3, e4⟩ : ∃ z1, (souLvs p t v l at_ now ps np)[i]? = some z1 ∧ z1.h = x.h ∧ vLo p t v l at_ now i ((1 : Nat) : Int) = z1.plo ∧ vHi p t v l at_ now i ((1 : Nat) : Int) = z1.phi ∧ vLo p t v l at_ now i ((2 : Nat) : Int) = z1.tlo ∧ vHi p t v l at_ now i ((2 : Nat) : Int) = z1.thi :=
            ⟨_, souLvs_at hlt, by simp [souLv, hx], rfl, rfl, rfl, rfl⟩
          obtain ⟨z2, hz2, eh2, eg2, e5, e6, e7, e8⟩ : ∃ z2, (souGls p t v l at_ now ps np)[i]? = some z2 ∧ z2.h = x.h ∧ z2.gust = x.g ∧ vLo p t v l at_ now i ((3 : Nat) : Int) = z2.xlo ∧ vHi p t v l at_ now i ((3 : Nat) : Int) = z2.xhi ∧ vLo p t v l at_ now i ((4 : Nat) : Int) = z2.ylo ∧ vHi p t v l at_ now i ((4 : Nat) : Int) = z2.yhi :=
            ⟨_, souGls_at hlt, by simp [souGl, hx], by simp [souGl, hx], rfl, rfl, rfl, rfl⟩
          repeat' (first | ((with_reducible apply oq_id); first | (focus ((with_reducible apply oq_indexAddrN); exact rfl; exact rfl; exact rfl; exact rfl; omega)) | ((with_reducible apply oq_lssT); exact rfl; exact rfl; omega) | ((with_reducible apply oq_neqF); exact rfl; exact rfl; omega) | (apply oq_fn; exact rfl; first | exact trivial | (refine ⟨?_, ?_⟩ <;> omega) | (refine ⟨?_, ?_, ?_⟩ <;> omega) | omega | skip) | ((with_reducible apply oq_load); exact rfl; exact rfl) | ((with_reducible apply oq_loadAgg); exact rfl; exact rfl) | ((with_reducible apply oq_call (k := 52) (hc := Try.call52)); exact rfl; exact rfl; exact fun D w1 hw1 => span_calls _ _ w1)) | ((with_reducible apply tl_id); first | ((with_reducible apply tl_nil)) | ((with_reducible apply u_q); exact rfl; exact rfl; exact rfl; exact rfl) | ((with_reducible apply u_s0); exact rfl; exact rfl) | ((with_reducible apply u_s); exact rfl; exact rfl; exact rfl)) | ((with_reducible apply gx_id); first | ((with_reducible apply v_nil)) | ((with_reducible apply v_q); exact rfl; exact rfl; exact rfl)) | ((with_reducible apply os_id); first | ((with_reducible apply os_x); exact rfl) | ((with_reducible apply os_storeAgg); exact rfl; exact rfl; exact rfl; exact rfl; exact rfl)) | ((with_reducible apply ox_id); first | ((with_reducible apply ox_alloc); exact rfl; intro _) | ((with_reducible apply ox_buildSlice2); exact rfl; exact rfl; exact rfl; exact rfl; exact rfl; exact rfl; intro _)) | ((with_reducible apply ai_id); first | ((with_reducible apply ai_q); exact rfl; exact rfl; exact rfl; exact rfl; exact rfl) | ((with_reducible apply ai_x); exact rfl; exact rfl; exact rfl; exact rfl; exact rfl)) | ((with_reducible apply rd_id); first | (apply Rd.old; (first | exact c0 | exact c1); exact List.not_mem_nil) | (apply rdlv 0 hz1 rfl; (repeat (first | exact P0 | apply P1)); done) | (apply rdlv 1 hz1 rfl; (repeat (first | exact P0 | apply P1)); done) | (apply rdlv 2 hz1 rfl; (repeat (first | exact P0 | apply P1)); done) | (apply rdlv 3 hz1 rfl; (repeat (first | exact P0 | apply P1)); done) | (apply rdlv 4 hz1 rfl; (repeat (first | exact P0 | apply P1)); done) | (apply rdgl 0 hz2 rfl; (repeat (first | exact P0 | apply P1)); done) | (apply rdgl 1 hz2 rfl; (repeat (first | exact P0 | apply P1)); done) | (apply rdgl 2 hz2 rfl; (repeat (first | exact P0 | apply P1)); done) | (apply rdgl 3 hz2 rfl; (repeat (first | exact P0 | apply P1)); done) | (apply rdgl 4 hz2 rfl; (repeat (first | exact P0 | apply P1)); done) | (apply rdgl 5 hz2 rfl; (repeat (first | exact P0 | apply P1)); done) | (apply Rd.own; (repeat (first | exact P0 | apply P1)); exact rfl; done)) | ((with_reducible apply t_id); first | ((with_reducible apply t_seq)) | (apply t_region; kernel_rfl) | (apply t_drawn; kernel_rfl; decide +kernel; try simp only [List.append_eq, List.cons_append, List.nil_append]) | ((with_reducible apply t_condT); exact rfl) | ((with_reducible apply t_condF); exact rfl) | ((with_reducible apply t_skip)) | ((with_reducible apply t_block))) | with_reducible apply q_thenN | exact P0 | exact Rdn.zero | apply Rdn.succ | ((with_reducible apply Norm.nil); exact rfl) | ((with_reducible apply Norm.cons); exact rfl) | (apply t_mix (id := 15) [0, 1, 2, 3, 4, 5, 6, 7, 8, 9, 10, 11, 12, 13, 14, 15, 16, 17, 18, 19, 20, 21, 24] 2 #[false, false, false, false, false, false, false, false, false, false, false, false, false, false, false, false, false, false, false, false, false, false, false, false, false]; kernel_rfl; kernel_rfl; exact rfl) | ((with_reducible apply al_id); first | (apply al_done; decide +kernel) | (apply al_one 22; decide +kernel) | (apply al_one 23; decide +kernel)) | exact Nat.le_of_ble_eq_true rfl)
          apply t_loopK (ι := Nat) [2, 3, 4, 6, 11, 12, 13, 15, 16, 17, 83, 84, 85, 86, 87, 88, 89, 90, 91, 92, 93, 94, 95, 96, 97, 98, 99, 100, 101, 102, 103, 104, 105, 106, 107, 108, 109, 110, 111, 112, 113, 114, 115, 116, 117, 118, 119, 120, 121, 122, 123, 124, 125, 126, 127, 128, 129, 130, 131, 132, 133, 134, 135, 136, 137, 138, 139, 140, 141, 142, 143, 144, 145, 146, 184, 185] (fun k => [(147, .int .i64 (jK k))]) (fun _ => []) (fun k => k ≤ 4) (fun k => 4 - k) (0)
          (repeat (first | exact KeepF.nil | (apply KeepF.cons; exact rfl) | apply KeepF.skip))
          (repeat (first | exact FrSub.nil | (apply FrSub.cons; exact rfl)))
          (repeat (first | exact HpSub.refl _ | (apply HpSub.consE; (repeat (first | exact P0 | apply P1)); exact rfl) | exact HpSub.nil))
          · omega
          intro k hk4
          try simp only [List.cons_append, List.nil_append]
          rcases (by omega : k = 0 ∨ k = 1 ∨ k = 2 ∨ k = 3 ∨ k = 4) with rfl | rfl | rfl | rfl | rfl
          · obtain ⟨a, b', hkn, hfi, hm1, hm2, hm3⟩ := kn_at hE hlp hlt (k := 1) (by omega) (by omega)
            have HK := fun w1 (hx : Ext w w1) => airKnown_T p t v A n c l i 1 at_ now w1 (hr.ext hx) hn
            rw [show (1 : Int) = ((1 : Nat) : Int) from rfl, hkn] at HK
            dsimp only at HK
            have HM := fun w1 => meet_calls a b' (limLo ((1 : Nat) : Int)) (limHi ((1 : Nat) : Int)) hfi (by decide) (by rw [hm1, hm2]; exact hm3) w1
            simp only [jK]
            repeat' (first | ((with_reducible apply oq_id); first | ((with_reducible apply oq_neX26F); exact rfl; exact rfl; first | exact ⟨hm1.trans e1, hm2.trans e2⟩ | exact ⟨hm1.trans e3, hm2.trans e4⟩ | exact ⟨hm1.trans e5, hm2.trans e6⟩ | exact ⟨hm1.trans e7, hm2.trans e8⟩) | ((with_reducible apply oq_lssT); exact rfl; exact rfl; omega) | ((with_reducible apply oq_neqF); exact rfl; exact rfl; omega) | (apply oq_fn; exact rfl; first | exact trivial | (refine ⟨?_, ?_⟩ <;> omega) | (refine ⟨?_, ?_, ?_⟩ <;> omega) | omega | skip) | ((with_reducible apply oq_loadAgg); exact rfl; exact rfl) | ((with_reducible apply oq_call (k := 20) (hc := Try.call20)); exact rfl; exact rfl; exact fun D w1 hw1 => HK w1 hw1.ext.ext) | ((with_reducible apply oq_call (k := 56) (hc := Try.call56)); exact rfl; exact rfl; exact fun D w1 hw1 => HM w1)) | ((with_reducible apply tl_id); first | ((with_reducible apply tl_nil)) | ((with_reducible apply u_q); exact rfl; exact rfl; exact rfl; exact rfl) | ((with_reducible apply u_s0); exact rfl; exact rfl) | ((with_reducible apply u_s); exact rfl; exact rfl; exact rfl)) | ((with_reducible apply gx_id); first | ((with_reducible apply v_nil)) | ((with_reducible apply v_q); exact rfl; exact rfl; exact rfl)) | ((with_reducible apply os_id); first | ((with_reducible apply os_x); exact rfl) | ((with_reducible apply os_storeAgg); exact rfl; exact rfl; exact rfl; exact rfl; exact rfl)) | ((with_reducible apply ox_id); first | ((with_reducible apply ox_alloc); exact rfl; intro _)) | ((with_reducible apply ai_id); first | ((with_reducible apply ai_q); exact rfl; exact rfl; exact rfl; exact rfl; exact rfl) | ((with_reducible apply ai_x); exact rfl; exact rfl; exact rfl; exact rfl; exact rfl) | ((with_reducible apply ai_n0); exact rfl; exact rfl; exact rfl)) | ((with_reducible apply al_keep); focus (repeat (first | exact HpSub.refl _ | (apply HpSub.cons; (repeat (first | exact P0 | apply P1))) | exact HpSub.nil))) | ((with_reducible apply rd_id); first | (apply Rd.own; (repeat (first | exact P0 | apply P1)); exact rfl; done)) | ((with_reducible apply t_id); first | ((with_reducible apply t_seq)) | (apply t_region; kernel_rfl) | ((with_reducible apply t_condT); exact rfl) | ((with_reducible apply t_condF); exact rfl) | ((with_reducible apply t_skip)) | ((with_reducible apply t_block))) | with_reducible apply q_thenN | with_reducible apply q_blockN | exact P0 | exact Rdn.zero | apply Rdn.succ | ((with_reducible apply Norm.nil); exact rfl) | ((with_reducible apply Norm.cons); exact rfl) | (apply t_mix (id := 19) [0, 1, 2, 3, 4, 5, 6, 7, 8] 3 #[false, false, false, false, false, false, false, false, false, false, false, false]; kernel_rfl; kernel_rfl; exact rfl) | ((with_reducible apply al_id); first | (apply al_done; decide +kernel) | (apply al_one 9; decide +kernel) | (apply al_one 10; decide +kernel) | (apply al_one 11; decide +kernel)) | exact Nat.le_of_ble_eq_true rfl)
            all_goals (refine ⟨1, by omega, by omega, ?_, ?_⟩ <;> ((try simp only [jK, List.cons_append, List.nil_append])) <;> (repeat' (first | exact FrSub.nil | (apply FrSub.cons; exact rfl) | (apply HpSub.consE; (repeat (first | exact P0 | apply P1)); exact rfl) | exact HpSub.nil)))
          · obtain ⟨a, b', hkn, hfi, hm1, hm2, hm3⟩ := kn_at hE hlp hlt (k := 2) (by omega) (by omega)
            have HK := fun w1 (hx : Ext w w1) => airKnown_T p t v A n c l i 2 at_ now w1 (hr.ext hx) hn
            rw [show (2 : Int) = ((2 : Nat) : Int) from rfl, hkn] at HK
            dsimp only at HK
            have HM := fun w1 => meet_calls a b' (limLo ((2 : Nat) : Int)) (limHi ((2 : Nat) : Int)) hfi (by decide) (by rw [hm1, hm2]; exact hm3) w1
            simp only [jK]
            repeat' (first | ((with_reducible apply oq_id); first | ((with_reducible apply oq_neX26F); exact rfl; exact rfl; first | exact ⟨hm1.trans e1, hm2.trans e2⟩ | exact ⟨hm1.trans e3, hm2.trans e4⟩ | exact ⟨hm1.trans e5, hm2.trans e6⟩ | exact ⟨hm1.trans e7, hm2.trans e8⟩) | ((with_reducible apply oq_lssT); exact rfl; exact rfl; omega) | ((with_reducible apply oq_neqF); exact rfl; exact rfl; omega) | (apply oq_fn; exact rfl; first | exact trivial | (refine ⟨?_, ?_⟩ <;> omega) | (refine ⟨?_, ?_, ?_⟩ <;> omega) | omega | skip) | ((with_reducible apply oq_loadAgg); exact rfl; exact rfl) | ((with_reducible apply oq_call (k := 20) (hc := Try.call20)); exact rfl; exact rfl; exact fun D w1 hw1 => HK w1 hw1.ext.ext) | ((with_reducible apply oq_call (k := 56) (hc := Try.call56)); exact rfl; exact rfl; exact fun D w1 hw1 => HM w1)) | ((with_reducible apply tl_id); first | ((with_reducible apply tl_nil)) | ((with_reducible apply u_q); exact rfl; exact rfl; exact rfl; exact rfl) | ((with_reducible apply u_s0); exact rfl; exact rfl) | ((with_reducible apply u_s); exact rfl; exact rfl; exact rfl)) | ((with_reducible apply gx_id); first | ((with_reducible apply v_nil)) | ((with_reducible apply v_q); exact rfl; exact rfl; exact rfl)) | ((with_reducible apply os_id); first | ((with_reducible apply os_x); exact rfl) | ((with_reducible apply os_storeAgg); exact rfl; exact rfl; exact rfl; exact rfl; exact rfl)) | ((with_reducible apply ox_id); first | ((with_reducible apply ox_alloc); exact rfl; intro _)) | ((with_reducible apply ai_id); first | ((with_reducible apply ai_q); exact rfl; exact rfl; exact rfl; exact rfl; exact rfl) | ((with_reducible apply ai_x); exact rfl; exact rfl; exact rfl; exact rfl; exact rfl) | ((with_reducible apply ai_n0); exact rfl; exact rfl; exact rfl)) | ((with_reducible apply al_keep); focus (repeat (first | exact HpSub.refl _ | (apply HpSub.cons; (repeat (first | exact P0 | apply P1))) | exact HpSub.nil))) | ((with_reducible apply rd_id); first | (apply Rd.own; (repeat (first | exact P0 | apply P1)); exact rfl; done)) | ((with_reducible apply t_id); first | ((with_reducible apply t_seq)) | (apply t_region; kernel_rfl) | ((with_reducible apply t_condT); exact rfl) | ((with_reducible apply t_condF); exact rfl) | ((with_reducible apply t_skip)) | ((with_reducible apply t_block))) | with_reducible apply q_thenN | with_reducible apply q_blockN | exact P0 | exact Rdn.zero | apply Rdn.succ | ((with_reducible apply Norm.nil); exact rfl) | ((with_reducible apply Norm.cons); exact rfl) | (apply t_mix (id := 19) [0, 1, 2, 3, 4, 5, 6, 7, 8] 3 #[false, false, false, false, false, false, false, false, false, false, false, false]; kernel_rfl; kernel_rfl; exact rfl) | ((with_reducible apply al_id); first | (apply al_done; decide +kernel) | (apply al_one 9; decide +kernel) | (apply al_one 10; decide +kernel) | (apply al_one 11; decide +kernel)) | exact Nat.le_of_ble_eq_true rfl)
            all_goals (refine ⟨2, by omega, by omega, ?_, ?_⟩ <;> ((try simp only [jK, List.cons_append, List.nil_append])) <;> (repeat' (first | exact FrSub.nil | (apply FrSub.cons; exact rfl) | (apply HpSub.consE; (repeat (first | exact P0 | apply P1)); exact rfl) | exact HpSub.nil)))
          · obtain ⟨a, b', hkn, hfi, hm1, hm2, hm3⟩ := kn_at hE hlp hlt (k := 3) (by omega) (by omega)
            have HK := fun w1 (hx : Ext w w1) => airKnown_T p t v A n c l i 3 at_ now w1 (hr.ext hx) hn
            rw [show (3 : Int) = ((3 : Nat) : Int) from rfl, hkn] at HK
            dsimp only at HK
            have HM := fun w1 => meet_calls a b' (limLo ((3 : Nat) : Int)) (limHi ((3 : Nat) : Int)) hfi (by decide) (by rw [hm1, hm2]; exact hm3) w1
            simp only [jK]
            repeat' (first | ((with_reducible apply oq_id); first | ((with_reducible apply oq_neX26F); exact rfl; exact rfl; first | exact ⟨hm1.trans e1, hm2.trans e2⟩ | exact ⟨hm1.trans e3, hm2.trans e4⟩ | exact ⟨hm1.trans e5, hm2.trans e6⟩ | exact ⟨hm1.trans e7, hm2.trans e8⟩) | ((with_reducible apply oq_lssT); exact rfl; exact rfl; omega) | ((with_reducible apply oq_neqF); exact rfl; exact rfl; omega) | (apply oq_fn; exact rfl; first | exact trivial | (refine ⟨?_, ?_⟩ <;> omega) | (refine ⟨?_, ?_, ?_⟩ <;> omega) | omega | skip) | ((with_reducible apply oq_loadAgg); exact rfl; exact rfl) | ((with_reducible apply oq_call (k := 20) (hc := Try.call20)); exact rfl; exact rfl; exact fun D w1 hw1 => HK w1 hw1.ext.ext) | ((with_reducible apply oq_call (k := 56) (hc := Try.call56)); exact rfl; exact rfl; exact fun D w1 hw1 => HM w1)) | ((with_reducible apply tl_id); first | ((with_reducible apply tl_nil)) | ((with_reducible apply u_q); exact rfl; exact rfl; exact rfl; exact rfl) | ((with_reducible apply u_s0); exact rfl; exact rfl) | ((with_reducible apply u_s); exact rfl; exact rfl; exact rfl)) | ((with_reducible apply gx_id); first | ((with_reducible apply v_nil)) | ((with_reducible apply v_q); exact rfl; exact rfl; exact rfl)) | ((with_reducible apply os_id); first | ((with_reducible apply os_x); exact rfl) | ((with_reducible apply os_storeAgg); exact rfl; exact rfl; exact rfl; exact rfl; exact rfl)) | ((with_reducible apply ox_id); first | ((with_reducible apply ox_alloc); exact rfl; intro _)) | ((with_reducible apply ai_id); first | ((with_reducible apply ai_q); exact rfl; exact rfl; exact rfl; exact rfl; exact rfl) | ((with_reducible apply ai_x); exact rfl; exact rfl; exact rfl; exact rfl; exact rfl) | ((with_reducible apply ai_n0); exact rfl; exact rfl; exact rfl)) | ((with_reducible apply al_keep); focus (repeat (first | exact HpSub.refl _ | (apply HpSub.cons; (repeat (first | exact P0 | apply P1))) | exact HpSub.nil))) | ((with_reducible apply rd_id); first | (apply Rd.own; (repeat (first | exact P0 | apply P1)); exact rfl; done)) | ((with_reducible apply t_id); first | ((with_reducible apply t_seq)) | (apply t_region; kernel_rfl) | ((with_reducible apply t_condT); exact rfl) | ((with_reducible apply t_condF); exact rfl) | ((with_reducible apply t_skip)) | ((with_reducible apply t_block))) | with_reducible apply q_thenN | with_reducible apply q_blockN | exact P0 | exact Rdn.zero | apply Rdn.succ | ((with_reducible apply Norm.nil); exact rfl) | ((with_reducible apply Norm.cons); exact rfl) | (apply t_mix (id := 19) [0, 1, 2, 3, 4, 5, 6, 7, 8] 3 #[false, false, false, false, false, false, false, false, false, false, false, false]; kernel_rfl; kernel_rfl; exact rfl) | ((with_reducible apply al_id); first | (apply al_done; decide +kernel) | (apply al_one 9; decide +kernel) | (apply al_one 10; decide +kernel) | (apply al_one 11; decide +kernel)) | exact Nat.le_of_ble_eq_true rfl)
            all_goals (refine ⟨3, by omega, by omega, ?_, ?_⟩ <;> ((try simp only [jK, List.cons_append, List.nil_append])) <;> (repeat' (first | exact FrSub.nil | (apply FrSub.cons; exact rfl) | (apply HpSub.consE; (repeat (first | exact P0 | apply P1)); exact rfl) | exact HpSub.nil)))
          · obtain ⟨a, b', hkn, hfi, hm1, hm2, hm3⟩ := kn_at hE hlp hlt (k := 4) (by omega) (by omega)
            have HK := fun w1 (hx : Ext w w1) => airKnown_T p t v A n c l i 4 at_ now w1 (hr.ext hx) hn
            rw [show (4 : Int) = ((4 : Nat) : Int) from rfl, hkn] at HK
            dsimp only at HK
            have HM := fun w1 => meet_calls a b' (limLo ((4 : Nat) : Int)) (limHi ((4 : Nat) : Int)) hfi (by decide) (by rw [hm1, hm2]; exact hm3) w1
            simp only [jK]
            repeat' (first | ((with_reducible apply oq_id); first | ((with_reducible apply oq_neX26F); exact rfl; exact rfl; first | exact ⟨hm1.trans e1, hm2.trans e2⟩ | exact ⟨hm1.trans e3, hm2.trans e4⟩ | exact ⟨hm1.trans e5, hm2.trans e6⟩ | exact ⟨hm1.trans e7, hm2.trans e8⟩) | ((with_reducible apply oq_lssT); exact rfl; exact rfl; omega) | ((with_reducible apply oq_neqF); exact rfl; exact rfl; omega) | (apply oq_fn; exact rfl; first | exact trivial | (refine ⟨?_, ?_⟩ <;> omega) | (refine ⟨?_, ?_, ?_⟩ <;> omega) | omega | skip) | ((with_reducible apply oq_loadAgg); exact rfl; exact rfl) | ((with_reducible apply oq_call (k := 20) (hc := Try.call20)); exact rfl; exact rfl; exact fun D w1 hw1 => HK w1 hw1.ext.ext) | ((with_reducible apply oq_call (k := 56) (hc := Try.call56)); exact rfl; exact rfl; exact fun D w1 hw1 => HM w1)) | ((with_reducible apply tl_id); first | ((with_reducible apply tl_nil)) | ((with_reducible apply u_q); exact rfl; exact rfl; exact rfl; exact rfl) | ((with_reducible apply u_s0); exact rfl; exact rfl) | ((with_reducible apply u_s); exact rfl; exact rfl; exact rfl)) | ((with_reducible apply gx_id); first | ((with_reducible apply v_nil)) | ((with_reducible apply v_q); exact rfl; exact rfl; exact rfl)) | ((with_reducible apply os_id); first | ((with_reducible apply os_x); exact rfl) | ((with_reducible apply os_storeAgg); exact rfl; exact rfl; exact rfl; exact rfl; exact rfl)) | ((with_reducible apply ox_id); first | ((with_reducible apply ox_alloc); exact rfl; intro _)) | ((with_reducible apply ai_id); first | ((with_reducible apply ai_q); exact rfl; exact rfl; exact rfl; exact rfl; exact rfl) | ((with_reducible apply ai_x); exact rfl; exact rfl; exact rfl; exact rfl; exact rfl) | ((with_reducible apply ai_n0); exact rfl; exact rfl; exact rfl)) | ((with_reducible apply al_keep); focus (repeat (first | exact HpSub.refl _ | (apply HpSub.cons; (repeat (first | exact P0 | apply P1))) | exact HpSub.nil))) | ((with_reducible apply rd_id); first | (apply Rd.own; (repeat (first | exact P0 | apply P1)); exact rfl; done)) | ((with_reducible apply t_id); first | ((with_reducible apply t_seq)) | (apply t_region; kernel_rfl) | ((with_reducible apply t_condT); exact rfl) | ((with_reducible apply t_condF); exact rfl) | ((with_reducible apply t_skip)) | ((with_reducible apply t_block))) | with_reducible apply q_thenN | with_reducible apply q_blockN | exact P0 | exact Rdn.zero | apply Rdn.succ | ((with_reducible apply Norm.nil); exact rfl) | ((with_reducible apply Norm.cons); exact rfl) | (apply t_mix (id := 19) [0, 1, 2, 3, 4, 5, 6, 7, 8] 3 #[false, false, false, false, false, false, false, false, false, false, false, false]; kernel_rfl; kernel_rfl; exact rfl) | ((with_reducible apply al_id); first | (apply al_done; decide +kernel) | (apply al_one 9; decide +kernel) | (apply al_one 10; decide +kernel) | (apply al_one 11; decide +kernel)) | exact Nat.le_of_ble_eq_true rfl)
            all_goals (refine ⟨4, by omega, by omega, ?_, ?_⟩ <;> ((try simp only [jK, List.cons_append, List.nil_append])) <;> (repeat' (first | exact FrSub.nil | (apply FrSub.cons; exact rfl) | (apply HpSub.consE; (repeat (first | exact P0 | apply P1)); exact rfl) | exact HpSub.nil)))
          · simp only [jK]
            repeat' (first | ((with_reducible apply oq_id); first | ((with_reducible apply oq_lssF); exact rfl; exact rfl; omega) | (apply oq_fn; exact rfl; first | exact trivial | (refine ⟨?_, ?_⟩ <;> omega) | (refine ⟨?_, ?_, ?_⟩ <;> omega) | omega | skip)) | ((with_reducible apply tl_id); first | ((with_reducible apply tl_nil)) | ((with_reducible apply u_q); exact rfl; exact rfl; exact rfl; exact rfl)) | ((with_reducible apply t_id); first | ((with_reducible apply t_seq)) | (apply t_region; kernel_rfl) | ((with_reducible apply t_condF); exact rfl) | ((with_reducible apply t_exit))) | with_reducible apply q_thenN | with_reducible apply q_blockN | with_reducible apply q_thenE | ((with_reducible apply q_blockE); exact rfl))
            all_goals (refine ⟨i + 1, by omega, by omega, ?_, ?_⟩ <;> (try simp only [List.cons_append, List.nil_append]) <;> (repeat' (first | exact FrSub.nil | (apply FrSub.cons; exact rfl) | (apply HpSub.consE; (repeat (first | exact P0 | apply P1)); exact rfl) | exact HpSub.nil)))
        · obtain rfl : i = np := by omega
          repeat' (first | ((with_reducible apply oq_id); first | ((with_reducible apply oq_lssF); exact rfl; exact rfl; omega) | (apply oq_fn; exact rfl; first | exact trivial | (refine ⟨?_, ?_⟩ <;> omega) | (refine ⟨?_, ?_, ?_⟩ <;> omega) | omega | skip)) | ((with_reducible apply tl_id); first | ((with_reducible apply tl_nil)) | ((with_reducible apply u_q); exact rfl; exact rfl; exact rfl; exact rfl)) | ((with_reducible apply t_id); first | ((with_reducible apply t_seq)) | (apply t_region; kernel_rfl) | ((with_reducible apply t_condF); exact rfl) | ((with_reducible apply t_ret)) | ((with_reducible apply t_exit))) | with_reducible apply q_thenN | with_reducible apply q_thenE | ((with_reducible apply q_blockE); exact rfl) | ((with_reducible apply end_ret)) | exact rvs_nil | ((with_reducible apply rvs_cons)) | ((with_reducible apply rv_tmp); exact rfl))
          all_goals rfl
      · have H28 : ∀ w1, Ext w w1 → Calls Try.prog 28 #[.slice Ap np cp, .agg #[.int .i64 p, .int .i64 t, .int .i64 v], .slice A n c, .int .i64 at_, .int .i64 now] w1 fun e w' => ∃ V H', e = .returned V ∧ SouN (souE p t v l at_ now ps) V H' ∧ Has w1 ⟨[], []⟩ H' w' :=
          fun w1 hx => (sound_T Ap np cp ps p t v A n c l at_ now w1 (hpp.ext hx) hnp (hr.ext hx) hn).mono fun e w' ⟨V, H', h1, h2, h3⟩ => ⟨V, H', h1, souN hE h2, h3⟩
        generalize souE p t v l at_ now ps = E at *
        refine enterQ (c := cx w 186) Try.func17 rfl rfl rfl rfl ?_
        repeat' (first | ((with_reducible apply oq_id); first | ((with_reducible apply oq_gtrF); exact rfl; exact rfl; omega) | ((with_reducible apply oq_eqlT); exact rfl; exact rfl; omega) | ((with_reducible apply oq_neqT); exact rfl; exact rfl; omega) | (apply oq_fn; exact rfl; first | exact trivial | (refine ⟨?_, ?_⟩ <;> omega) | (refine ⟨?_, ?_, ?_⟩ <;> omega) | omega | skip) | ((with_reducible apply oq_loadAgg); exact rfl; exact rfl) | ((with_reducible apply oq_call (k := 48) (hc := Try.call48)); exact rfl; exact rfl; exact fun D w1 hw1 => alive_calls w1) | ((with_reducible apply oq_call (k := 27) (hc := Try.call27)); exact rfl; exact rfl; exact fun D w1 hw1 => greatS_calls _ w1)) | ((with_reducible apply tl_id); first | ((with_reducible apply tl_nil)) | ((with_reducible apply u_s); exact rfl; exact rfl; exact rfl; (with_reducible apply os_callF (PV := SouN E) (k := 28) (hc := Try.call28)); exact rfl; exact rfl; exact fun D w1 hw1 => H28 w1 hw1.ext.ext; rintro V' H' ⟨rfl, rfl⟩; simp only [List.cons_append, List.nil_append]) | ((with_reducible apply u_q); exact rfl; exact rfl; exact rfl; exact rfl) | ((with_reducible apply u_s); exact rfl; exact rfl; exact rfl) | ((with_reducible apply u_splitD); exact rfl; exact rfl; all_goals first | (intro hp; try (exfalso; omega)) | skip)) | ((with_reducible apply os_id); first | ((with_reducible apply os_x); exact rfl)) | ((with_reducible apply ox_id); first | ((with_reducible apply ox_boxAgg); exact rfl; intro _)) | ((with_reducible apply rd_id); first | (apply Rd.own; (repeat (first | exact P0 | apply P1)); exact rfl; done)) | ((with_reducible apply t_id); first | ((with_reducible apply t_seq)) | (apply t_region; kernel_rfl) | ((with_reducible apply t_condT); exact rfl) | ((with_reducible apply t_condF); exact rfl) | ((with_reducible apply t_ret)) | ((with_reducible apply t_skip))) | with_reducible apply q_thenN | with_reducible apply q_thenR | exact Rdn.zero | apply Rdn.succ | ((with_reducible apply end_ret)) | exact rvs_nil | ((with_reducible apply rvs_cons)) | ((with_reducible apply rv_tmp); exact rfl))
        all_goals rfl
    · refine enterQ (c := cx w 186) Try.func17 rfl rfl rfl rfl ?_
      repeat' (first | ((with_reducible apply oq_id); first | ((with_reducible apply oq_gtrT); exact rfl; exact rfl; omega) | (apply oq_fn; exact rfl; first | exact trivial | (refine ⟨?_, ?_⟩ <;> omega) | (refine ⟨?_, ?_, ?_⟩ <;> omega) | omega | skip) | ((with_reducible apply oq_call (k := 48) (hc := Try.call48)); exact rfl; exact rfl; exact fun D w1 hw1 => alive_calls w1) | ((with_reducible apply oq_call (k := 27) (hc := Try.call27)); exact rfl; exact rfl; exact fun D w1 hw1 => greatS_calls _ w1)) | ((with_reducible apply tl_id); first | ((with_reducible apply tl_nil)) | ((with_reducible apply u_q); exact rfl; exact rfl; exact rfl; exact rfl) | ((with_reducible apply u_s); exact rfl; exact rfl; exact rfl) | ((with_reducible apply u_skip); exact rfl; exact rfl; exact rfl) | ((with_reducible apply u_splitD); exact rfl; exact rfl; all_goals first | (intro hp; try (exfalso; omega)) | skip)) | ((with_reducible apply os_id); first | ((with_reducible apply os_x); exact rfl)) | ((with_reducible apply ox_id); first | ((with_reducible apply ox_boxAgg); exact rfl; intro _)) | ((with_reducible apply t_id); first | ((with_reducible apply t_seq)) | (apply t_region; kernel_rfl) | ((with_reducible apply t_condT); exact rfl) | ((with_reducible apply t_ret))) | with_reducible apply q_thenN | with_reducible apply q_thenR | ((with_reducible apply end_ret)) | exact rvs_nil | ((with_reducible apply rvs_cons)) | ((with_reducible apply rv_tmp); exact rfl))
      all_goals rfl
  · refine enterQ (c := cx w 186) Try.func17 rfl rfl rfl rfl ?_
    repeat' (first | ((with_reducible apply oq_id); first | (apply oq_fn; exact rfl; first | exact trivial | (refine ⟨?_, ?_⟩ <;> omega) | (refine ⟨?_, ?_, ?_⟩ <;> omega) | omega | skip) | ((with_reducible apply oq_call (k := 48) (hc := Try.call48)); exact rfl; exact rfl; exact fun D w1 hw1 => alive_calls w1) | ((with_reducible apply oq_call (k := 27) (hc := Try.call27)); exact rfl; exact rfl; exact fun D w1 hw1 => greatS_calls _ w1)) | ((with_reducible apply tl_id); first | ((with_reducible apply tl_nil)) | ((with_reducible apply u_q); exact rfl; exact rfl; exact rfl; exact rfl) | ((with_reducible apply u_s); exact rfl; exact rfl; exact rfl) | ((with_reducible apply u_skip); exact rfl; exact rfl; exact rfl) | ((with_reducible apply u_splitD); exact rfl; exact rfl; all_goals first | (intro hp; try (exfalso; omega)) | skip)) | ((with_reducible apply os_id); first | ((with_reducible apply os_x); exact rfl)) | ((with_reducible apply ox_id); first | ((with_reducible apply ox_boxAgg); exact rfl; intro _)) | ((with_reducible apply t_id); first | ((with_reducible apply t_seq)) | (apply t_region; kernel_rfl) | ((with_reducible apply t_condT); exact rfl) | ((with_reducible apply t_ret))) | with_reducible apply q_thenN | with_reducible apply q_thenR | ((with_reducible apply end_ret)) | exact rvs_nil | ((with_reducible apply rvs_cons)) | ((with_reducible apply rv_tmp); exact rfl))
    all_goals rfl
theorem poX_open {x : List Value} (h : LfsOk [.int .i64, .int .i64] x) : ∃ y : Po, x = poCells y ∧ True := by
  obtain ⟨z0, u0, rfl, _, h⟩ := h.int
  obtain ⟨z1, u1, rfl, _, h⟩ := h.int
  obtain rfl := h.nil
  exact ⟨⟨z0, z1⟩, rfl, trivial⟩

end Go.Proofs.Ytalidommelefaaa
