/- Soundings of posts. Plain laws. -/
import Derived.Test.YtalidommelefaaaLvP
import Derived.Test.YtalidommelefaaaWindP
import Derived.Test.YtalidommelefaaaNews
namespace Go.Proofs.Ytalidommelefaaa
set_option linter.unusedVariables false
set_option linter.unusedSimpArgs false
structure Po where
  h : Int
  g : Int
def poCells (x : Po) : List Value := [.int .i64 x.h, .int .i64 x.g]
theorem po_read {w : World} {A : Option Addr} {n : Nat} {l : List Po} (h : RdS w 2 A n (l.map poCells)) {i : Nat} (hi : i < n) :
    ∃ b o x, A = some ⟨b, o, none⟩ ∧ b < w.heap.size ∧ l[i]? = some x ∧ w.cell? ⟨b, o + i * 2, none⟩ = some (.int .i64 x.h) ∧ w.cell? ⟨b, o + i * 2 + 1, none⟩ = some (.int .i64 x.g) := by
  obtain ⟨b, o, cs, hA, hb, hx, _, hc⟩ := h.row hi
  simp only [List.getElem?_map, Option.map_eq_some_iff] at hx
  obtain ⟨x, hx, rfl⟩ := hx
  exact ⟨b, o, x, hA, hb, hx, hc 0 _ rfl, hc 1 _ rfl⟩
def poOk (x : Po) : Bool := decide (0 ≤ x.g ∧ x.g ≤ 500)
/-- As many posts, with such heights and gusts, as there may be. -/
def postsB (l : List Po) : Bool := climbsV (l.map Po.h) && l.all poOk
theorem postsB_n {l : List Po} (h : postsB l = true) : 2 ≤ l.length ∧ l.length ≤ 16 := by
  unfold postsB climbsV at h
  simp only [Bool.and_eq_true, decide_eq_true_eq, List.length_map] at h
  exact h.1.2
def limLo (k : Int) : Int := if k = 1 then 1000 else if k = 2 then 1500 else -1000
def limHi (k : Int) : Int := if k = 1 then 12000 else if k = 2 then 3500 else 1000
/-- What is known of a kind at a post; the error. -/
def knE (p t v : Int) (l : List News) (at_ now : Int) (i : Nat) (k : Int) : Int := (knownF (rateOf p t v k) l i k at_ now).2.2
def vLo (p t v : Int) (l : List News) (at_ now : Int) (i : Nat) (k : Int) : Int := max (knownF (rateOf p t v k) l i k at_ now).1 (limLo k)
def vHi (p t v : Int) (l : List News) (at_ now : Int) (i : Nat) (k : Int) : Int := min (knownF (rateOf p t v k) l i k at_ now).2.1 (limHi k)
section
variable (p t v : Int) (l : List News) (at_ now : Int)
def rowE (i : Nat) : Int := ([1, 2, 3, 4].findSome? fun k => if knE p t v l at_ now i k = 0 then none else some (knE p t v l at_ now i k)).getD 0
def allE (n : Nat) : Int := ((List.range n).findSome? fun i => if rowE p t v l at_ now i = 0 then none else some (rowE p t v l at_ now i)).getD 0
def oddV (i : Nat) (k : Int) : Bool := decide (vHi p t v l at_ now i k < vLo p t v l at_ now i k)
def oddUpTo (i k : Nat) : Bool := (List.range k).any fun j => decide (1 ≤ j) && oddV p t v l at_ now i j
def oddAll (n : Nat) : Bool := (List.range n).any fun i => oddUpTo p t v l at_ now i 5
def souLv (ps : List Po) (i : Nat) : Lv := ⟨(match ps[i]? with | some x => x.h | none => 0), vLo p t v l at_ now i 1, vHi p t v l at_ now i 1, vLo p t v l at_ now i 2, vHi p t v l at_ now i 2⟩
def souGl (ps : List Po) (i : Nat) : Gl := ⟨(match ps[i]? with | some x => x.h | none => 0), vLo p t v l at_ now i 3, vHi p t v l at_ now i 3, vLo p t v l at_ now i 4, vHi p t v l at_ now i 4, (match ps[i]? with | some x => x.g | none => 0)⟩
def souLvs (ps : List Po) (n : Nat) : List Lv := (List.range n).map (souLv p t v l at_ now ps)
def souGls (ps : List Po) (n : Nat) : List Gl := (List.range n).map (souGl p t v l at_ now ps)
/-- The error of a sounding of posts, before what is known is looked at. -/
def souA (ps : List Po) : Int := if asked p t v l 0 1 at_ now = 0 then (if postsB ps then 0 else 2) else asked p t v l 0 1 at_ now
def souE (ps : List Po) : Int := if souA p t v l at_ now ps = 0 then (if allE p t v l at_ now ps.length = 0 then (if oddAll p t v l at_ now ps.length then 21 else 0) else allE p t v l at_ now ps.length) else souA p t v l at_ now ps
end
section
variable {p t v : Int} {l : List News} {at_ now : Int} {ps : List Po}
theorem allE_zero {n : Nat} (h : ∀ i, i < n → rowE p t v l at_ now i = 0) : allE p t v l at_ now n = 0 := by
  unfold allE
  rw [findSome?_range_none _ _ fun j hj => by rw [if_pos (h j hj)]]; rfl
theorem allE_at {n i : Nat} (hi : i < n) (h : ∀ j, j < i → rowE p t v l at_ now j = 0) (he : rowE p t v l at_ now i ≠ 0) : allE p t v l at_ now n = rowE p t v l at_ now i := by
  unfold allE
  rw [findSome?_range_some _ n i (rowE p t v l at_ now i) hi (fun j hj => by rw [if_pos (h j hj)]) (by rw [if_neg he])]; rfl
theorem rowE_zero {i : Nat} (h1 : knE p t v l at_ now i 1 = 0) (h2 : knE p t v l at_ now i 2 = 0) (h3 : knE p t v l at_ now i 3 = 0) (h4 : knE p t v l at_ now i 4 = 0) : rowE p t v l at_ now i = 0 := by
  unfold rowE; simp [List.findSome?, h1, h2, h3, h4]
theorem rowE_at {i k : Nat} (hk : 1 ≤ k) (hk4 : k ≤ 4) (h : ∀ j : Nat, 1 ≤ j → j < k → knE p t v l at_ now i j = 0) (he : knE p t v l at_ now i k ≠ 0) : rowE p t v l at_ now i = knE p t v l at_ now i k := by
  have c1 := h 1; have c2 := h 2; have c3 := h 3
  rcases (by omega : k = 1 ∨ k = 2 ∨ k = 3 ∨ k = 4) with rfl | rfl | rfl | rfl
  · unfold rowE; simp only [List.findSome?]; rw [if_neg (by simpa using he)]; rfl
  · unfold rowE; simp only [List.findSome?]; rw [if_pos (by simpa using c1 (by omega) (by omega)), if_neg (by simpa using he)]; rfl
  · unfold rowE; simp only [List.findSome?]; rw [if_pos (by simpa using c1 (by omega) (by omega)), if_pos (by simpa using c2 (by omega) (by omega)), if_neg (by simpa using he)]; rfl
  · unfold rowE; simp only [List.findSome?]; rw [if_pos (by simpa using c1 (by omega) (by omega)), if_pos (by simpa using c2 (by omega) (by omega)), if_pos (by simpa using c3 (by omega) (by omega)), if_neg (by simpa using he)]; rfl
theorem oddUpTo_succ (i k : Nat) (hk : 1 ≤ k) : oddUpTo p t v l at_ now i (k + 1) = (oddUpTo p t v l at_ now i k || oddV p t v l at_ now i k) := by
  unfold oddUpTo
  rw [List.range_succ, List.any_append]
  simp [hk]
theorem oddUpTo_one (i : Nat) : oddUpTo p t v l at_ now i 1 = false := rfl
theorem oddAll_succ (n : Nat) : oddAll p t v l at_ now (n + 1) = (oddAll p t v l at_ now n || oddUpTo p t v l at_ now n 5) := by
  unfold oddAll
  rw [List.range_succ, List.any_append]
  simp
theorem souLvs_succ (n : Nat) : souLvs p t v l at_ now ps (n + 1) = souLvs p t v l at_ now ps n ++ [souLv p t v l at_ now ps n] := by
  unfold souLvs; rw [List.range_succ]; simp
theorem souGls_succ (n : Nat) : souGls p t v l at_ now ps (n + 1) = souGls p t v l at_ now ps n ++ [souGl p t v l at_ now ps n] := by
  unfold souGls; rw [List.range_succ]; simp
theorem knownF_lo {r : Int} {post kind : Int} (h : ∀ x ∈ l, x.ok = true) (hr : 0 ≤ r ∧ r ≤ 100) (ha : 0 ≤ at_ ∧ at_ ≤ 1000000) : -1099511627776 ≤ (knownF r l post kind at_ now).1 ∧ (knownF r l post kind at_ now).1 ≤ 1099511627776 ∧ -1099511627776 ≤ (knownF r l post kind at_ now).2.1 ∧ (knownF r l post kind at_ now).2.1 ≤ 1099511627776 := by
  have h0 : ∀ x ∈ l, 0 ≤ x.seen ∧ x.seen ≤ 1000000 ∧ -12000 ≤ x.lo ∧ x.lo ≤ 12000 ∧ -12000 ≤ x.hi ∧ x.hi ≤ 12000 := fun x hx => by
    have := (News.ok_iff x).1 (h x hx); omega
  have hw : ∀ x ∈ l, 0 ≤ r * absd x.seen at_ ∧ r * absd x.seen at_ ≤ 100 * 1000000 := fun x hx => by
    have h1 := h0 x hx
    have h2 : absd x.seen at_ ≤ 1000000 := by unfold absd; omega
    have h3 := absd_nonneg x.seen at_
    exact ⟨Int.mul_nonneg hr.1 h3, Int.mul_le_mul hr.2 h2 h3 (by omega)⟩
  have hlo : ∀ (m : List News), (∀ x ∈ m, x ∈ l) → ∀ z, -1099511627776 ≤ z → z ≤ 1099511627776 → -1099511627776 ≤ m.foldl (fun m x => max m (sayLo r at_ x)) z ∧ m.foldl (fun m x => max m (sayLo r at_ x)) z ≤ 1099511627776 := by
    intro m
    induction m with
    | nil => intro _ z h1 h2; exact ⟨h1, h2⟩
    | cons x m ih =>
      intro hm z h1 h2
      have a := h0 x (hm x (List.mem_cons_self ..))
      have b := hw x (hm x (List.mem_cons_self ..))
      exact ih (fun y hy => hm y (List.mem_cons_of_mem _ hy)) _ (by unfold sayLo; dsimp only; omega) (by unfold sayLo; dsimp only; omega)
  have hhi : ∀ (m : List News), (∀ x ∈ m, x ∈ l) → ∀ z, -1099511627776 ≤ z → z ≤ 1099511627776 → -1099511627776 ≤ m.foldl (fun m x => min m (sayHi r at_ x)) z ∧ m.foldl (fun m x => min m (sayHi r at_ x)) z ≤ 1099511627776 := by
    intro m
    induction m with
    | nil => intro _ z h1 h2; exact ⟨h1, h2⟩
    | cons x m ih =>
      intro hm z h1 h2
      have a := h0 x (hm x (List.mem_cons_self ..))
      have b := hw x (hm x (List.mem_cons_self ..))
      exact ih (fun y hy => hm y (List.mem_cons_of_mem _ hy)) _ (by unfold sayHi; dsimp only; omega) (by unfold sayHi; dsimp only; omega)
  unfold knownF
  simp only
  split
  · simp
  split
  · simp
  · have a := hlo (l.filter (News.hand post kind now)) (fun x hx => (List.mem_filter.1 hx).1) (-1099511627776) (by omega) (by omega)
    have b := hhi (l.filter (News.hand post kind now)) (fun x hx => (List.mem_filter.1 hx).1) 1099511627776 (by omega) (by omega)
    exact ⟨a.1, a.2, b.1, b.2⟩
end
end Go.Proofs.Ytalidommelefaaa
