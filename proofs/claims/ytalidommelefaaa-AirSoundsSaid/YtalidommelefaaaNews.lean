/- Reports: what is valid, what contradicts, what is known. Plain, no program in sight. -/
import Derived.Test.YtalidommelefaaaBase
namespace Go.Proofs.Ytalidommelefaaa
set_option linter.unusedVariables false
set_option linter.unusedSimpArgs false

structure News where
  post : Int
  kind : Int
  seen : Int
  came : Int
  lo : Int
  hi : Int
  deriving DecidableEq
def News.cells (x : News) : List Value := [.int .i64 x.post, .int .i64 x.kind, .int .i64 x.seen, .int .i64 x.came, .int .i64 x.lo, .int .i64 x.hi]

theorem News.read {w : World} {A : Option Addr} {n : Nat} {l : List News} (h : RdS w 6 A n (l.map News.cells)) {i : Nat} (hi : i < n) :
    ∃ b o x, A = some ⟨b, o, none⟩ ∧ b < w.heap.size ∧ l[i]? = some x ∧ w.cell? ⟨b, o + i * 6, none⟩ = some (.int .i64 x.post) ∧ w.cell? ⟨b, o + i * 6 + 1, none⟩ = some (.int .i64 x.kind) ∧
      w.cell? ⟨b, o + i * 6 + 2, none⟩ = some (.int .i64 x.seen) ∧ w.cell? ⟨b, o + i * 6 + 3, none⟩ = some (.int .i64 x.came) ∧ w.cell? ⟨b, o + i * 6 + 4, none⟩ = some (.int .i64 x.lo) ∧ w.cell? ⟨b, o + i * 6 + 5, none⟩ = some (.int .i64 x.hi) := by
  obtain ⟨b, o, cs, hA, hb, hx, _, hc⟩ := h.row hi
  simp only [List.getElem?_map, Option.map_eq_some_iff] at hx
  obtain ⟨x, hx, rfl⟩ := hx
  exact ⟨b, o, x, hA, hb, hx, hc 0 _ rfl, hc 1 _ rfl, hc 2 _ rfl, hc 3 _ rfl, hc 4 _ rfl, hc 5 _ rfl⟩

def News.ok (x : News) : Bool :=
  decide (0 ≤ x.post ∧ x.post ≤ 15 ∧ 1 ≤ x.kind ∧ x.kind ≤ 4 ∧ 0 ≤ x.seen ∧ x.seen ≤ x.came ∧ x.came ≤ 1000000 ∧ x.lo ≤ x.hi ∧ -12000 ≤ x.lo ∧ x.hi ≤ 12000)
theorem News.ok_iff (x : News) : x.ok = true ↔ (0 ≤ x.post ∧ x.post ≤ 15 ∧ 1 ≤ x.kind ∧ x.kind ≤ 4 ∧ 0 ≤ x.seen ∧ x.seen ≤ x.came ∧ x.came ≤ 1000000 ∧ x.lo ≤ x.hi ∧ -12000 ≤ x.lo ∧ x.hi ≤ 12000) := decide_eq_true_iff

def checkNews (l : List News) : Int := if 100 < l.length then 4 else if l.all News.ok then 0 else 23

def absd (a b : Int) : Int := max (a - b) (b - a)
theorem absd_comm (a b : Int) : absd a b = absd b a := by unfold absd; omega
theorem absd_nonneg (a b : Int) : 0 ≤ absd a b := by unfold absd; omega

def News.hand (post kind now : Int) (x : News) : Bool := decide (x.post = post) && decide (x.kind = kind) && decide (x.came ≤ now)
def rateOf (p t w kind : Int) : Int := if kind = 1 then p else if kind = 2 then t else w
def contra (r : Int) (x y : News) : Bool := decide (r * absd x.seen y.seen < max (x.lo - y.hi) (y.lo - x.hi))

def askedOk (p t w post kind at_ now : Int) : Bool :=
  decide (0 ≤ p ∧ p ≤ 100 ∧ 0 ≤ t ∧ t ≤ 100 ∧ 0 ≤ w ∧ w ≤ 100 ∧ 0 ≤ post ∧ post ≤ 15 ∧ 1 ≤ kind ∧ kind ≤ 4 ∧ 0 ≤ at_ ∧ at_ ≤ 1000000 ∧ 0 ≤ now ∧ now ≤ 1000000)
def asked (p t w : Int) (l : List News) (post kind at_ now : Int) : Int :=
  if checkNews l = 0 then (if askedOk p t w post kind at_ now then 0 else 2) else checkNews l

/-- Does the pair i, k contradict itself? -/
def pairs (r : Int) (l : List News) (post kind now : Int) (i k : Nat) : Bool :=
  decide (i < k) && match l[i]?, l[k]? with
    | some x, some y => x.hand post kind now && y.hand post kind now && contra r x y
    | _, _ => false

def conflictRow (r : Int) (l : List News) (post kind now : Int) (i : Nat) : Option (Nat × Nat) :=
  (List.range l.length).findSome? fun k => if pairs r l post kind now i k then some (i, k) else none
def conflictF (r : Int) (l : List News) (post kind now : Int) : Option (Nat × Nat) :=
  (List.range l.length).findSome? (conflictRow r l post kind now)

theorem findSome?_range_some {α : Type} (f : Nat → Option α) (n i : Nat) (v : α) (hi : i < n) (hn : ∀ j, j < i → f j = none) (hv : f i = some v) : (List.range n).findSome? f = some v := by
  induction n with
  | zero => omega
  | succ n ih =>
    rw [List.range_succ, List.findSome?_append]
    by_cases h : i < n
    · rw [ih h]; rfl
    · have : i = n := by omega
      subst this
      have : (List.range i).findSome? f = none := by
        rw [List.findSome?_eq_none_iff]
        intro x hx
        exact hn x (by simpa using hx)
      rw [this]
      simp [hv]
theorem findSome?_range_none {α : Type} (f : Nat → Option α) (n : Nat) (hn : ∀ j, j < n → f j = none) : (List.range n).findSome? f = none := by
  rw [List.findSome?_eq_none_iff]
  intro x hx
  exact hn x (by simpa using hx)

/-- The first pair, found row by row. -/
theorem conflictF_some (r : Int) (l : List News) (post kind now : Int) (i k : Nat) (hp : pairs r l post kind now i k = true)
    (h1 : ∀ j m, j < i → m < l.length → pairs r l post kind now j m = false) (h2 : ∀ m, m < k → pairs r l post kind now i m = false) : conflictF r l post kind now = some (i, k) := by
  have hk : i < l.length ∧ k < l.length := by
    unfold pairs at hp
    simp only [Bool.and_eq_true] at hp
    have hp2 := hp.2
    split at hp2
    · rename_i h3 h4
      exact ⟨(List.getElem?_eq_some_iff.1 h3).1, (List.getElem?_eq_some_iff.1 h4).1⟩
    · cases hp2
  refine findSome?_range_some _ _ i _ hk.1 (fun j hj => ?_) ?_
  · refine findSome?_range_none _ _ fun m hm => ?_
    rw [h1 j m hj hm]; rfl
  · refine findSome?_range_some _ _ k _ hk.2 (fun m hm => ?_) ?_
    · rw [h2 m hm]; rfl
    · rw [hp]; rfl
theorem conflictF_none (r : Int) (l : List News) (post kind now : Int)
    (h1 : ∀ j m, j < l.length → m < l.length → pairs r l post kind now j m = false) : conflictF r l post kind now = none := by
  refine findSome?_range_none _ _ fun j hj => findSome?_range_none _ _ fun m hm => ?_
  rw [h1 j m hj hm]; rfl

/-- error, first, second -/
def conflictS (p t w : Int) (l : List News) (post kind now : Int) : Int × Int × Int :=
  if asked p t w l post kind now now = 0 then
    match conflictF (rateOf p t w kind) l post kind now with
    | some (i, k) => ((i : Int), (k : Int), 0)
    | none => (0, 0, 6)
  else (0, 0, asked p t w l post kind now now)

def sayLo (r at_ : Int) (x : News) : Int := x.lo - r * absd x.seen at_
def sayHi (r at_ : Int) (x : News) : Int := x.hi + r * absd x.seen at_
def meetLo (r at_ : Int) (l : List News) : Int := l.foldl (fun m x => max m (sayLo r at_ x)) (-1099511627776)
def meetHi (r at_ : Int) (l : List News) : Int := l.foldl (fun m x => min m (sayHi r at_ x)) 1099511627776

/-- what is known, reports being valid -/
def knownF (r : Int) (l : List News) (post kind at_ now : Int) : Int × Int × Int :=
  let hs := l.filter (News.hand post kind now)
  if hs = [] then (0, 0, 6)
  else if (conflictF r l post kind now).isSome then (0, 0, 24)
  else (meetLo r at_ hs, meetHi r at_ hs, 0)
def knownS (p t w : Int) (l : List News) (post kind at_ now : Int) : Int × Int × Int :=
  if asked p t w l post kind at_ now = 0 then knownF (rateOf p t w kind) l post kind at_ now
  else (0, 0, asked p t w l post kind at_ now)

end Go.Proofs.Ytalidommelefaaa
