/- Reports, spans, roots: plain laws, and what the small functions compute. -/
import Derived.Test.YtalidommelefaaaPkA
import Derived.Test.YtalidommelefaaaChecked
import Derived.Test.YtalidommelefaaaPkB
import Derived.Laws.StructEq
/- Reports: what is valid, what contradicts, what is known. Plain, no program in sight. -/
namespace Go.Proofs.Ytalidommelefaaa
set_option linter.unusedVariables false
set_option linter.unusedSimpArgs false

structure News where
  post : Int
  kind : Int
  seen : Int
  came : Int
  lo : Int
  hi : Int
  deriving DecidableEq
def News.cells (x : News) : List Value := [.int .i64 x.post, .int .i64 x.kind, .int .i64 x.seen, .int .i64 x.came, .int .i64 x.lo, .int .i64 x.hi]

theorem News.read {w : World} {A : Option Addr} {n : Nat} {l : List News} (h : RdS w 6 A n (l.map News.cells)) {i : Nat} (hi : i < n) :
    ∃ b o x, A = some ⟨b, o, none⟩ ∧ b < w.heap.size ∧ l[i]? = some x ∧ w.cell? ⟨b, o + i * 6, none⟩ = some (.int .i64 x.post) ∧ w.cell? ⟨b, o + i * 6 + 1, none⟩ = some (.int .i64 x.kind) ∧
      w.cell? ⟨b, o + i * 6 + 2, none⟩ = some (.int .i64 x.seen) ∧ w.cell? ⟨b, o + i * 6 + 3, none⟩ = some (.int .i64 x.came) ∧ w.cell? ⟨b, o + i * 6 + 4, none⟩ = some (.int .i64 x.lo) ∧ w.cell? ⟨b, o + i * 6 + 5, none⟩ = some (.int .i64 x.hi) := by
  obtain ⟨b, o, cs, hA, hb, hx, _, hc⟩ := h.row hi
  simp only [List.getElem?_map, Option.map_eq_some_iff] at hx
  obtain ⟨x, hx, rfl⟩ := hx
  exact ⟨b, o, x, hA, hb, hx, hc 0 _ rfl, hc 1 _ rfl, hc 2 _ rfl, hc 3 _ rfl, hc 4 _ rfl, hc 5 _ rfl⟩

def News.ok (x : News) : Bool :=
  decide (0 ≤ x.post ∧ x.post ≤ 15 ∧ 1 ≤ x.kind ∧ x.kind ≤ 4 ∧ 0 ≤ x.seen ∧ x.seen ≤ x.came ∧ x.came ≤ 1000000 ∧ x.lo ≤ x.hi ∧ -12000 ≤ x.lo ∧ x.hi ≤ 12000)
theorem News.ok_iff (x : News) : x.ok = true ↔ (0 ≤ x.post ∧ x.post ≤ 15 ∧ 1 ≤ x.kind ∧ x.kind ≤ 4 ∧ 0 ≤ x.seen ∧ x.seen ≤ x.came ∧ x.came ≤ 1000000 ∧ x.lo ≤ x.hi ∧ -12000 ≤ x.lo ∧ x.hi ≤ 12000) := decide_eq_true_iff

def checkNews (l : List News) : Int := if 100 < l.length then 4 else if l.all News.ok then 0 else 23

def absd (a b : Int) : Int := max (a - b) (b - a)
theorem absd_comm (a b : Int) : absd a b = absd b a := by unfold absd; omega
theorem absd_nonneg (a b : Int) : 0 ≤ absd a b := by unfold absd; omega

def News.hand (post kind now : Int) (x : News) : Bool := decide (x.post = post) && decide (x.kind = kind) && decide (x.came ≤ now)
def rateOf (p t w kind : Int) : Int := if kind = 1 then p else if kind = 2 then t else w
def contra (r : Int) (x y : News) : Bool := decide (r * absd x.seen y.seen < max (x.lo - y.hi) (y.lo - x.hi))

def askedOk (p t w post kind at_ now : Int) : Bool :=
  decide (0 ≤ p ∧ p ≤ 100 ∧ 0 ≤ t ∧ t ≤ 100 ∧ 0 ≤ w ∧ w ≤ 100 ∧ 0 ≤ post ∧ post ≤ 15 ∧ 1 ≤ kind ∧ kind ≤ 4 ∧ 0 ≤ at_ ∧ at_ ≤ 1000000 ∧ 0 ≤ now ∧ now ≤ 1000000)
def asked (p t w : Int) (l : List News) (post kind at_ now : Int) : Int :=
  if checkNews l = 0 then (if askedOk p t w post kind at_ now then 0 else 2) else checkNews l

/-- Does the pair i, k contradict itself? -/
def pairs (r : Int) (l : List News) (post kind now : Int) (i k : Nat) : Bool :=
  decide (i < k) && match l[i]?, l[k]? with
    | some x, some y => x.hand post kind now && y.hand post kind now && contra r x y
    | _, _ => false

def conflictRow (r : Int) (l : List News) (post kind now : Int) (i : Nat) : Option (Nat × Nat) :=
  (List.range l.length).findSome? fun k => if pairs r l post kind now i k then some (i, k) else none
def conflictF (r : Int) (l : List News) (post kind now : Int) : Option (Nat × Nat) :=
  (List.range l.length).findSome? (conflictRow r l post kind now)

theorem findSome?_range_some {α : Type} (f : Nat → Option α) (n i : Nat) (v : α) (hi : i < n) (hn : ∀ j, j < i → f j = none) (hv : f i = some v) : (List.range n).findSome? f = some v := by
  induction n with
  | zero => omega
  | succ n ih =>
    rw [List.range_succ, List.findSome?_append]
    by_cases h : i < n
    · rw [ih h]; rfl
    · have : i = n := by omega
      subst this
      have : (List.range i).findSome? f = none := by
        rw [List.findSome?_eq_none_iff]
        intro x hx
        exact hn x (by simpa using hx)
      rw [this]
      simp [hv]
theorem findSome?_range_none {α : Type} (f : Nat → Option α) (n : Nat) (hn : ∀ j, j < n → f j = none) : (List.range n).findSome? f = none := by
  rw [List.findSome?_eq_none_iff]
  intro x hx
  exact hn x (by simpa using hx)

/-- The first pair, found row by row. -/
theorem conflictF_some (r : Int) (l : List News) (post kind now : Int) (i k : Nat) (hp : pairs r l post kind now i k = true)
    (h1 : ∀ j m, j < i → m < l.length → pairs r l post kind now j m = false) (h2 : ∀ m, m < k → pairs r l post kind now i m = false) : conflictF r l post kind now = some (i, k) := by
  have hk : i < l.length ∧ k < l.length := by
    unfold pairs at hp
    simp only [Bool.and_eq_true] at hp
    have hp2 := hp.2
    split at hp2
    · rename_i h3 h4
      exact ⟨(List.getElem?_eq_some_iff.1 h3).1, (List.getElem?_eq_some_iff.1 h4).1⟩
    · cases hp2
  refine findSome?_range_some _ _ i _ hk.1 (fun j hj => ?_) ?_
  · refine findSome?_range_none _ _ fun m hm => ?_
    rw [h1 j m hj hm]; rfl
  · refine findSome?_range_some _ _ k _ hk.2 (fun m hm => ?_) ?_
    · rw [h2 m hm]; rfl
    · rw [hp]; rfl
theorem conflictF_none (r : Int) (l : List News) (post kind now : Int)
    (h1 : ∀ j m, j < l.length → m < l.length → pairs r l post kind now j m = false) : conflictF r l post kind now = none := by
  refine findSome?_range_none _ _ fun j hj => findSome?_range_none _ _ fun m hm => ?_
  rw [h1 j m hj hm]; rfl

/-- error, first, second -/
def conflictS (p t w : Int) (l : List News) (post kind now : Int) : Int × Int × Int :=
  if asked p t w l post kind now now = 0 then
    match conflictF (rateOf p t w kind) l post kind now with
    | some (i, k) => ((i : Int), (k : Int), 0)
    | none => (0, 0, 6)
  else (0, 0, asked p t w l post kind now now)

def sayLo (r at_ : Int) (x : News) : Int := x.lo - r * absd x.seen at_
def sayHi (r at_ : Int) (x : News) : Int := x.hi + r * absd x.seen at_
def meetLo (r at_ : Int) (l : List News) : Int := l.foldl (fun m x => max m (sayLo r at_ x)) (-1099511627776)
def meetHi (r at_ : Int) (l : List News) : Int := l.foldl (fun m x => min m (sayHi r at_ x)) 1099511627776

/-- what is known, reports being valid -/
def knownF (r : Int) (l : List News) (post kind at_ now : Int) : Int × Int × Int :=
  let hs := l.filter (News.hand post kind now)
  if hs = [] then (0, 0, 6)
  else if (conflictF r l post kind now).isSome then (0, 0, 24)
  else (meetLo r at_ hs, meetHi r at_ hs, 0)
def knownS (p t w : Int) (l : List News) (post kind at_ now : Int) : Int × Int × Int :=
  if asked p t w l post kind at_ now = 0 then knownF (rateOf p t w kind) l post kind at_ now
  else (0, 0, asked p t w l post kind at_ now)

end Go.Proofs.Ytalidommelefaaa
/- Walks of the small functions that the chapter's code and its reference share: ranges, reports. -/
namespace Go.Proofs.Ytalidommelefaaa
set_option linter.unusedVariables false
set_option linter.unusedSimpArgs false
open Go.RowKit
attribute [local irreducible] wpG SAny

/-! ### from: are all numbers from lo to hi? -/
theorem from_in (n lo hi : Int) (a b : Addr) (w : World) (ha : w.cell? a = some (.int .i64 lo)) (hb : w.cell? b = some (.int .i64 hi)) :
    Calls Try.prog 125 #[.int .i64 n, .pointer (some a), .pointer (some b)] w fun e w' => e = .returned (.bool (decide (n < lo) || decide (hi < n))) ∧ w = w' := by
  by_cases h1 : n < lo
  · go_enter Try.func125, Try.ntmps125
    go_wp2
    go_ret
    simp [h1]
  · go_enter Try.func125, Try.ntmps125
    go_wp2
    go_ret
    simp
    omega

/-- A predicate on ints, as a closure. -/
structure PredInt (w : World) (g : Nat) (caps : Array Value) (p : Int → Bool) : Prop where
  run : ∀ args w', (callFunc g args).run Try.prog w' = .ok (.enter g args) w'
  calls : ∀ (n : Int) (w' : World), Ext w w' → Calls Try.prog g (#[.int .i64 n] ++ caps) w' fun e w'' => e = .returned (.bool (p n)) ∧ Ext w' w''

def idxOf {α : Type} (p : α → Bool) (zs : List α) : Int := match zs.findIdx? p with | some i => (i : Int) | none => -1
theorem idx_yes {α : Type} (p : α → Bool) (zs : List α) (k : Nat) (z : α) (hk : zs[k]? = some z) (hz : ∀ z ∈ zs.take k, p z = false) (h : p z = true) : idxOf p zs = k := by
  obtain ⟨hlt, rfl⟩ := List.getElem?_eq_some_iff.1 hk
  unfold idxOf
  have : zs.findIdx? p = some k := by
    rw [List.findIdx?_eq_some_iff_getElem]
    refine ⟨hlt, h, fun j hj => ?_⟩
    have := hz (zs[j]) (List.mem_take_iff_getElem.2 ⟨j, by omega, rfl⟩)
    simp [this]
  rw [this]
theorem idx_no {α : Type} (p : α → Bool) (zs : List α) (hz : ∀ z ∈ zs, p z = false) : idxOf p zs = -1 := by
  unfold idxOf
  have : zs.findIdx? p = none := by
    rw [List.findIdx?_eq_none_iff]; exact hz
  rw [this]
theorem take_more {α : Type} (p : α → Bool) (b : Bool) (zs : List α) (k : Nat) (z : α) (hk : zs[k]? = some z) (hz : ∀ z ∈ zs.take k, p z = b) (h : p z = b) : ∀ z ∈ zs.take (k + 1), p z = b := by
  obtain ⟨hlt, rfl⟩ := List.getElem?_eq_some_iff.1 hk
  intro z hzm
  rw [List.take_succ_eq_append_getElem hlt] at hzm
  rcases List.mem_append.1 hzm with h1 | h1
  · exact hz z h1
  · simp at h1; rw [h1]; exact h
theorem any_idx {α : Type} (p : α → Bool) (zs : List α) : decide (0 ≤ idxOf p zs) = zs.any p := by
  unfold idxOf
  cases h : zs.findIdx? p with
  | none =>
    rw [List.findIdx?_eq_none_iff] at h
    symm
    simpa using h
  | some i =>
    rw [List.findIdx?_eq_some_iff_getElem] at h
    obtain ⟨h1, h2, _⟩ := h
    symm
    simp
    exact ⟨_, List.getElem_mem h1, h2⟩

theorem indexFunc_int (A : Option Addr) (n c : Nat) (zs : List Int) (g : Nat) (caps : Array Value) (p : Int → Bool) (w : World)
    (hr : RdS w 1 A n (zs.map fun z => [.int .i64 z])) (hp : PredInt w g caps p) (hn : n ≤ 1000000000) :
    Calls Try.prog 144 #[.slice A n c, .func (.func g) #[] caps] w fun e w' => e = .returned (.int .i64 (idxOf p zs)) ∧ Ext w w' := by
  have hrun := hp.run
  have hl := hr.len
  simp at hl
  go_enter Try.func144, Try.ntmps144
  go_wp2
  go_loopw [8] (fun i wr => ∃ k : Nat, k ≤ n ∧ i = .int .i64 k ∧ (∀ z ∈ zs.take k, p z = false) ∧ Ext w wr) (fun i _ => n - (intOf i).toNat)
  case atStart => exact ⟨0, by omega, rfl, by simp, Ext.refl _⟩
  case round =>
    obtain ⟨k, hk, rfl, hz, hx⟩ := hrel
    by_cases hlt : k < n
    · obtain ⟨b, o, cs, rfl, hb, hcs, _, hc⟩ := (hr.ext hx).row hlt
      simp only [List.getElem?_map, Option.map_eq_some_iff] at hcs
      obtain ⟨z, hkz, rfl⟩ := hcs
      have hcell := hc 0 _ rfl
      simp only [Nat.mul_one, Nat.add_zero] at hcell
      have hp1 := hp.calls z wr hx
      have H := Lib.hid (And.intro hz (And.intro hl (And.intro hr (And.intro hp (And.intro hx hkz)))))
      clear hz hl hc hr hp hx hkz
      go_wp2_with fail
      refine hp1.mono ?_
      rintro e w' ⟨rfl, hx'⟩
      by_cases hpk : p z = true
      · go_wp2
        go_ret
        obtain ⟨hz, hl, hr, hp, hx, hkz⟩ := H.out
        exact ⟨by rw [idx_yes p zs k z hkz hz hpk]; rfl, hx.trans hx'⟩
      · go_wp2
        go_roundw
        case rel =>
          obtain ⟨hz, hl, hr, hp, hx, hkz⟩ := H.out
          exact ⟨k + 1, by omega, by go_num, take_more p false zs k z hkz hz (by simpa using hpk), hx.trans hx'⟩
        case measure => simp [intOf]; omega
    · go_wp2
      go_ret
      exact ⟨by rw [idx_no p zs (by rw [List.take_of_length_le (by omega)] at hz; exact hz)]; rfl, hx⟩

theorem containsFunc_int (A : Option Addr) (n c : Nat) (zs : List Int) (g : Nat) (caps : Array Value) (p : Int → Bool) (w : World)
    (hr : RdS w 1 A n (zs.map fun z => [.int .i64 z])) (hp : PredInt w g caps p) (hn : n ≤ 1000000000) :
    Calls Try.prog 124 #[.slice A n c, .func (.func g) #[] caps] w fun e w' => e = .returned (.bool (zs.any p)) ∧ Ext w w' := by
  have hc := indexFunc_int A n c zs g caps p w hr hp hn
  have H := Lib.hid hc
  clear hc hr hp hn
  go_enter Try.func124, Try.ntmps124
  go_wp2_with (go_at_call 144; refine H.out.mono ?_; rintro e w' ⟨rfl, hx⟩)
  go_ret
  refine ⟨?_, hx⟩
  show Ending.returned (.bool (decide (0 ≤ idxOf p zs))) = _
  rw [any_idx]

def allFrom (lo hi : Int) (zs : List Int) : Bool := zs.all fun z => decide (lo ≤ z ∧ z ≤ hi)
theorem allFrom_any (lo hi : Int) (zs : List Int) : (!zs.any fun n => decide (n < lo) || decide (hi < n)) = allFrom lo hi zs := by
  unfold allFrom
  induction zs with
  | nil => rfl
  | cons z zs ih =>
    simp only [List.any_cons, List.all_cons, Bool.not_or, ih]
    congr 1
    by_cases h1 : z < lo <;> by_cases h2 : hi < z <;> simp [h1, h2] <;> omega

theorem from_calls (lo hi : Int) (A : Option Addr) (n c : Nat) (zs : List Int) (w : World)
    (hr : RdS w 1 A n (zs.map fun z => [.int .i64 z])) (hn : n ≤ 1000000000) :
    Calls Try.prog 71 #[.int .i64 lo, .int .i64 hi, .slice A n c] w fun e w' => e = .returned (.bool (allFrom lo hi zs)) ∧ Ext w w' := by
  have hc := fun caps w1 hx hp => containsFunc_int A n c zs 125 caps (fun n => decide (n < lo) || decide (hi < n)) w1 (hr.ext hx) hp hn
  have H := Lib.hid hc
  clear hc hr hn
  go_enter Try.func71, Try.ntmps71
  go_wp2_with fail
  refine (H.out _ _ (((Ext.refl w).alloc _).alloc _) ⟨fun args w' => by go_simp, fun n w' hx => ?_⟩).mono ?_
  · refine (from_in n lo hi _ _ w' (hx.cell ?_) (hx.cell ?_)).mono fun e w'' ⟨h1, h2⟩ => ⟨h1, h2 ▸ Ext.refl _⟩
    · go_simp
    · go_simp
  · rintro e w' ⟨rfl, hx⟩
    go_wp2
    go_ret
    refine ⟨?_, hx.of_alloc.of_alloc⟩
    show Ending.returned (.bool (!zs.any fun n => decide (n < lo) || decide (hi < n))) = _
    rw [allFrom_any]

theorem from1 (lo hi x0 : Int) (b : Nat) (t : TypeId) (w : World) (hb : b = w.heap.size) :
    Calls Try.prog 71 #[.int .i64 lo, .int .i64 hi, .slice (some ⟨b, 0, none⟩) 1 1] (w.alloc (.cells #[.int .i64 x0] t)) fun e w' => e = .returned (.bool (allFrom lo hi [x0])) ∧ Ext w w' := by
  have hr : RdS (w.alloc (.cells #[.int .i64 x0] t)) 1 (some ⟨b, 0, none⟩) 1 ([x0].map fun z => [Value.int .i64 z]) := RdS.row1 (xs := [.int .i64 x0]) hb rfl
  exact (from_calls lo hi (some ⟨b, 0, none⟩) 1 1 [x0] _ hr (by omega)).mono fun e w' ⟨h1, h2⟩ => ⟨h1, h2.of_alloc⟩
theorem from2 (lo hi x0 x1 : Int) (b : Nat) (t : TypeId) (w : World) (hb : b = w.heap.size) :
    Calls Try.prog 71 #[.int .i64 lo, .int .i64 hi, .slice (some ⟨b, 0, none⟩) 2 2] (w.alloc (.cells #[.int .i64 x0, .int .i64 x1] t)) fun e w' => e = .returned (.bool (allFrom lo hi [x0, x1])) ∧ Ext w w' := by
  have hr : RdS (w.alloc (.cells #[.int .i64 x0, .int .i64 x1] t)) 1 (some ⟨b, 0, none⟩) 2 ([x0, x1].map fun z => [Value.int .i64 z]) := RdS.row1 (xs := [.int .i64 x0, .int .i64 x1]) hb rfl
  exact (from_calls lo hi (some ⟨b, 0, none⟩) 2 2 [x0, x1] _ hr (by omega)).mono fun e w' ⟨h1, h2⟩ => ⟨h1, h2.of_alloc⟩
theorem from3 (lo hi x0 x1 x2 : Int) (b : Nat) (t : TypeId) (w : World) (hb : b = w.heap.size) :
    Calls Try.prog 71 #[.int .i64 lo, .int .i64 hi, .slice (some ⟨b, 0, none⟩) 3 3] (w.alloc (.cells #[.int .i64 x0, .int .i64 x1, .int .i64 x2] t)) fun e w' => e = .returned (.bool (allFrom lo hi [x0, x1, x2])) ∧ Ext w w' := by
  have hr : RdS (w.alloc (.cells #[.int .i64 x0, .int .i64 x1, .int .i64 x2] t)) 1 (some ⟨b, 0, none⟩) 3 ([x0, x1, x2].map fun z => [Value.int .i64 z]) := RdS.row1 (xs := [.int .i64 x0, .int .i64 x1, .int .i64 x2]) hb rfl
  exact (from_calls lo hi (some ⟨b, 0, none⟩) 3 3 [x0, x1, x2] _ hr (by omega)).mono fun e w' ⟨h1, h2⟩ => ⟨h1, h2.of_alloc⟩
theorem from4 (lo hi x0 x1 x2 x3 : Int) (b : Nat) (t : TypeId) (w : World) (hb : b = w.heap.size) :
    Calls Try.prog 71 #[.int .i64 lo, .int .i64 hi, .slice (some ⟨b, 0, none⟩) 4 4] (w.alloc (.cells #[.int .i64 x0, .int .i64 x1, .int .i64 x2, .int .i64 x3] t)) fun e w' => e = .returned (.bool (allFrom lo hi [x0, x1, x2, x3])) ∧ Ext w w' := by
  have hr : RdS (w.alloc (.cells #[.int .i64 x0, .int .i64 x1, .int .i64 x2, .int .i64 x3] t)) 1 (some ⟨b, 0, none⟩) 4 ([x0, x1, x2, x3].map fun z => [Value.int .i64 z]) := RdS.row1 (xs := [.int .i64 x0, .int .i64 x1, .int .i64 x2, .int .i64 x3]) hb rfl
  exact (from_calls lo hi (some ⟨b, 0, none⟩) 4 4 [x0, x1, x2, x3] _ hr (by omega)).mono fun e w' ⟨h1, h2⟩ => ⟨h1, h2.of_alloc⟩

def insideB (x y lo hi : Int) : Bool := decide (x ≤ y ∧ lo ≤ x ∧ y ≤ hi)
theorem inside_calls (x y lo hi : Int) (w : World) :
    Calls Try.prog 72 #[.agg #[.int .i64 x, .int .i64 y], .int .i64 lo, .int .i64 hi] w fun e w' => e = .returned (.bool (insideB x y lo hi)) ∧ Ext w w' := by
  by_cases h : x ≤ y
  · go_enter Try.func72, Try.ntmps72
    go_wp2_with (go_at_call 71; (with_reducible refine (from2 _ _ _ _ _ _ _ ?_).mono ?_); (next => (go_simp; done)); rintro e w1 ⟨rfl, hx⟩; (first | (with_reducible refine Ext.use6 hx ?_; intro hE; (try replace c0 := Ext.cell hE c0; try replace c1 := Ext.cell hE c1; try replace c2 := Ext.cell hE c2; try replace c3 := Ext.cell hE c3; try replace c4 := Ext.cell hE c4; try replace c5 := Ext.cell hE c5; try replace d0 := Ext.cell hE d0; try replace d1 := Ext.cell hE d1; try replace d2 := Ext.cell hE d2; try replace d3 := Ext.cell hE d3; try replace d4 := Ext.cell hE d4; try replace d5 := Ext.cell hE d5; try replace hb := Nat.lt_of_lt_of_le hb (Ext.size hE); try replace hb' := Nat.lt_of_lt_of_le hb' (Ext.size hE); try replace e1 := Ext.blk hE e1; try replace e2 := Ext.blk hE e2; try replace e3 := Ext.blk hE e3; try replace e4 := Ext.blk hE e4; try replace e5 := Ext.blk hE e5; try replace e6 := Ext.blk hE e6; try replace k1 := Ext.blk hE k1; try replace k2 := Ext.blk hE k2; try replace k3 := Ext.blk hE k3; try replace k4 := Ext.blk hE k4; try replace k5 := Ext.blk hE k5; try replace k6 := Ext.blk hE k6); intro k0 k1 k2 k3 k4 k5 k6) | (with_reducible refine Ext.use5 hx ?_; intro hE; (try replace c0 := Ext.cell hE c0; try replace c1 := Ext.cell hE c1; try replace c2 := Ext.cell hE c2; try replace c3 := Ext.cell hE c3; try replace c4 := Ext.cell hE c4; try replace c5 := Ext.cell hE c5; try replace d0 := Ext.cell hE d0; try replace d1 := Ext.cell hE d1; try replace d2 := Ext.cell hE d2; try replace d3 := Ext.cell hE d3; try replace d4 := Ext.cell hE d4; try replace d5 := Ext.cell hE d5; try replace hb := Nat.lt_of_lt_of_le hb (Ext.size hE); try replace hb' := Nat.lt_of_lt_of_le hb' (Ext.size hE); try replace e1 := Ext.blk hE e1; try replace e2 := Ext.blk hE e2; try replace e3 := Ext.blk hE e3; try replace e4 := Ext.blk hE e4; try replace e5 := Ext.blk hE e5; try replace e6 := Ext.blk hE e6; try replace k1 := Ext.blk hE k1; try replace k2 := Ext.blk hE k2; try replace k3 := Ext.blk hE k3; try replace k4 := Ext.blk hE k4; try replace k5 := Ext.blk hE k5; try replace k6 := Ext.blk hE k6); intro k0 k1 k2 k3 k4 k5) | (with_reducible refine Ext.use4 hx ?_; intro hE; (try replace c0 := Ext.cell hE c0; try replace c1 := Ext.cell hE c1; try replace c2 := Ext.cell hE c2; try replace c3 := Ext.cell hE c3; try replace c4 := Ext.cell hE c4; try replace c5 := Ext.cell hE c5; try replace d0 := Ext.cell hE d0; try replace d1 := Ext.cell hE d1; try replace d2 := Ext.cell hE d2; try replace d3 := Ext.cell hE d3; try replace d4 := Ext.cell hE d4; try replace d5 := Ext.cell hE d5; try replace hb := Nat.lt_of_lt_of_le hb (Ext.size hE); try replace hb' := Nat.lt_of_lt_of_le hb' (Ext.size hE); try replace e1 := Ext.blk hE e1; try replace e2 := Ext.blk hE e2; try replace e3 := Ext.blk hE e3; try replace e4 := Ext.blk hE e4; try replace e5 := Ext.blk hE e5; try replace e6 := Ext.blk hE e6; try replace k1 := Ext.blk hE k1; try replace k2 := Ext.blk hE k2; try replace k3 := Ext.blk hE k3; try replace k4 := Ext.blk hE k4; try replace k5 := Ext.blk hE k5; try replace k6 := Ext.blk hE k6); intro k0 k1 k2 k3 k4) | (with_reducible refine Ext.use3 hx ?_; intro hE; (try replace c0 := Ext.cell hE c0; try replace c1 := Ext.cell hE c1; try replace c2 := Ext.cell hE c2; try replace c3 := Ext.cell hE c3; try replace c4 := Ext.cell hE c4; try replace c5 := Ext.cell hE c5; try replace d0 := Ext.cell hE d0; try replace d1 := Ext.cell hE d1; try replace d2 := Ext.cell hE d2; try replace d3 := Ext.cell hE d3; try replace d4 := Ext.cell hE d4; try replace d5 := Ext.cell hE d5; try replace hb := Nat.lt_of_lt_of_le hb (Ext.size hE); try replace hb' := Nat.lt_of_lt_of_le hb' (Ext.size hE); try replace e1 := Ext.blk hE e1; try replace e2 := Ext.blk hE e2; try replace e3 := Ext.blk hE e3; try replace e4 := Ext.blk hE e4; try replace e5 := Ext.blk hE e5; try replace e6 := Ext.blk hE e6; try replace k1 := Ext.blk hE k1; try replace k2 := Ext.blk hE k2; try replace k3 := Ext.blk hE k3; try replace k4 := Ext.blk hE k4; try replace k5 := Ext.blk hE k5; try replace k6 := Ext.blk hE k6); intro k0 k1 k2 k3) | (with_reducible refine Ext.use2 hx ?_; intro hE; (try replace c0 := Ext.cell hE c0; try replace c1 := Ext.cell hE c1; try replace c2 := Ext.cell hE c2; try replace c3 := Ext.cell hE c3; try replace c4 := Ext.cell hE c4; try replace c5 := Ext.cell hE c5; try replace d0 := Ext.cell hE d0; try replace d1 := Ext.cell hE d1; try replace d2 := Ext.cell hE d2; try replace d3 := Ext.cell hE d3; try replace d4 := Ext.cell hE d4; try replace d5 := Ext.cell hE d5; try replace hb := Nat.lt_of_lt_of_le hb (Ext.size hE); try replace hb' := Nat.lt_of_lt_of_le hb' (Ext.size hE); try replace e1 := Ext.blk hE e1; try replace e2 := Ext.blk hE e2; try replace e3 := Ext.blk hE e3; try replace e4 := Ext.blk hE e4; try replace e5 := Ext.blk hE e5; try replace e6 := Ext.blk hE e6; try replace k1 := Ext.blk hE k1; try replace k2 := Ext.blk hE k2; try replace k3 := Ext.blk hE k3; try replace k4 := Ext.blk hE k4; try replace k5 := Ext.blk hE k5; try replace k6 := Ext.blk hE k6); intro k0 k1 k2) | (with_reducible refine Ext.use1 hx ?_; intro hE; (try replace c0 := Ext.cell hE c0; try replace c1 := Ext.cell hE c1; try replace c2 := Ext.cell hE c2; try replace c3 := Ext.cell hE c3; try replace c4 := Ext.cell hE c4; try replace c5 := Ext.cell hE c5; try replace d0 := Ext.cell hE d0; try replace d1 := Ext.cell hE d1; try replace d2 := Ext.cell hE d2; try replace d3 := Ext.cell hE d3; try replace d4 := Ext.cell hE d4; try replace d5 := Ext.cell hE d5; try replace hb := Nat.lt_of_lt_of_le hb (Ext.size hE); try replace hb' := Nat.lt_of_lt_of_le hb' (Ext.size hE); try replace e1 := Ext.blk hE e1; try replace e2 := Ext.blk hE e2; try replace e3 := Ext.blk hE e3; try replace e4 := Ext.blk hE e4; try replace e5 := Ext.blk hE e5; try replace e6 := Ext.blk hE e6; try replace k1 := Ext.blk hE k1; try replace k2 := Ext.blk hE k2; try replace k3 := Ext.blk hE k3; try replace k4 := Ext.blk hE k4; try replace k5 := Ext.blk hE k5; try replace k6 := Ext.blk hE k6); intro k0 k1) | (with_reducible refine Ext.use hx ?_; intro hE; (try replace c0 := Ext.cell hE c0; try replace c1 := Ext.cell hE c1; try replace c2 := Ext.cell hE c2; try replace c3 := Ext.cell hE c3; try replace c4 := Ext.cell hE c4; try replace c5 := Ext.cell hE c5; try replace d0 := Ext.cell hE d0; try replace d1 := Ext.cell hE d1; try replace d2 := Ext.cell hE d2; try replace d3 := Ext.cell hE d3; try replace d4 := Ext.cell hE d4; try replace d5 := Ext.cell hE d5; try replace hb := Nat.lt_of_lt_of_le hb (Ext.size hE); try replace hb' := Nat.lt_of_lt_of_le hb' (Ext.size hE); try replace e1 := Ext.blk hE e1; try replace e2 := Ext.blk hE e2; try replace e3 := Ext.blk hE e3; try replace e4 := Ext.blk hE e4; try replace e5 := Ext.blk hE e5; try replace e6 := Ext.blk hE e6; try replace k1 := Ext.blk hE k1; try replace k2 := Ext.blk hE k2; try replace k3 := Ext.blk hE k3; try replace k4 := Ext.blk hE k4; try replace k5 := Ext.blk hE k5; try replace k6 := Ext.blk hE k6); intro k0)))
    go_ret
    refine ⟨?_, by (repeat (first | exact Ext.refl _ | assumption | refine Ext.alloc ?_ _ | refine Ext.drew ?_ | (refine Ext.setCell ?_ (by first | (simp; done) | (simp; omega) | omega) _) | refine Ext.trans ?_ (by assumption)))⟩
    refine ret_bool (Bool.eq_iff_iff.2 ?_)
    simp [allFrom, insideB] <;> omega
  · go_enter Try.func72, Try.ntmps72
    go_wp2_with (go_at_call 71; (with_reducible refine (from2 _ _ _ _ _ _ _ ?_).mono ?_); (next => (go_simp; done)); rintro e w1 ⟨rfl, hx⟩; (first | (with_reducible refine Ext.use6 hx ?_; intro hE; (try replace c0 := Ext.cell hE c0; try replace c1 := Ext.cell hE c1; try replace c2 := Ext.cell hE c2; try replace c3 := Ext.cell hE c3; try replace c4 := Ext.cell hE c4; try replace c5 := Ext.cell hE c5; try replace d0 := Ext.cell hE d0; try replace d1 := Ext.cell hE d1; try replace d2 := Ext.cell hE d2; try replace d3 := Ext.cell hE d3; try replace d4 := Ext.cell hE d4; try replace d5 := Ext.cell hE d5; try replace hb := Nat.lt_of_lt_of_le hb (Ext.size hE); try replace hb' := Nat.lt_of_lt_of_le hb' (Ext.size hE); try replace e1 := Ext.blk hE e1; try replace e2 := Ext.blk hE e2; try replace e3 := Ext.blk hE e3; try replace e4 := Ext.blk hE e4; try replace e5 := Ext.blk hE e5; try replace e6 := Ext.blk hE e6; try replace k1 := Ext.blk hE k1; try replace k2 := Ext.blk hE k2; try replace k3 := Ext.blk hE k3; try replace k4 := Ext.blk hE k4; try replace k5 := Ext.blk hE k5; try replace k6 := Ext.blk hE k6); intro k0 k1 k2 k3 k4 k5 k6) | (with_reducible refine Ext.use5 hx ?_; intro hE; (try replace c0 := Ext.cell hE c0; try replace c1 := Ext.cell hE c1; try replace c2 := Ext.cell hE c2; try replace c3 := Ext.cell hE c3; try replace c4 := Ext.cell hE c4; try replace c5 := Ext.cell hE c5; try replace d0 := Ext.cell hE d0; try replace d1 := Ext.cell hE d1; try replace d2 := Ext.cell hE d2; try replace d3 := Ext.cell hE d3; try replace d4 := Ext.cell hE d4; try replace d5 := Ext.cell hE d5; try replace hb := Nat.lt_of_lt_of_le hb (Ext.size hE); try replace hb' := Nat.lt_of_lt_of_le hb' (Ext.size hE); try replace e1 := Ext.blk hE e1; try replace e2 := Ext.blk hE e2; try replace e3 := Ext.blk hE e3; try replace e4 := Ext.blk hE e4; try replace e5 := Ext.blk hE e5; try replace e6 := Ext.blk hE e6; try replace k1 := Ext.blk hE k1; try replace k2 := Ext.blk hE k2; try replace k3 := Ext.blk hE k3; try replace k4 := Ext.blk hE k4; try replace k5 := Ext.blk hE k5; try replace k6 := Ext.blk hE k6); intro k0 k1 k2 k3 k4 k5) | (with_reducible refine Ext.use4 hx ?_; intro hE; (try replace c0 := Ext.cell hE c0; try replace c1 := Ext.cell hE c1; try replace c2 := Ext.cell hE c2; try replace c3 := Ext.cell hE c3; try replace c4 := Ext.cell hE c4; try replace c5 := Ext.cell hE c5; try replace d0 := Ext.cell hE d0; try replace d1 := Ext.cell hE d1; try replace d2 := Ext.cell hE d2; try replace d3 := Ext.cell hE d3; try replace d4 := Ext.cell hE d4; try replace d5 := Ext.cell hE d5; try replace hb := Nat.lt_of_lt_of_le hb (Ext.size hE); try replace hb' := Nat.lt_of_lt_of_le hb' (Ext.size hE); try replace e1 := Ext.blk hE e1; try replace e2 := Ext.blk hE e2; try replace e3 := Ext.blk hE e3; try replace e4 := Ext.blk hE e4; try replace e5 := Ext.blk hE e5; try replace e6 := Ext.blk hE e6; try replace k1 := Ext.blk hE k1; try replace k2 := Ext.blk hE k2; try replace k3 := Ext.blk hE k3; try replace k4 := Ext.blk hE k4; try replace k5 := Ext.blk hE k5; try replace k6 := Ext.blk hE k6); intro k0 k1 k2 k3 k4) | (with_reducible refine Ext.use3 hx ?_; intro hE; (try replace c0 := Ext.cell hE c0; try replace c1 := Ext.cell hE c1; try replace c2 := Ext.cell hE c2; try replace c3 := Ext.cell hE c3; try replace c4 := Ext.cell hE c4; try replace c5 := Ext.cell hE c5; try replace d0 := Ext.cell hE d0; try replace d1 := Ext.cell hE d1; try replace d2 := Ext.cell hE d2; try replace d3 := Ext.cell hE d3; try replace d4 := Ext.cell hE d4; try replace d5 := Ext.cell hE d5; try replace hb := Nat.lt_of_lt_of_le hb (Ext.size hE); try replace hb' := Nat.lt_of_lt_of_le hb' (Ext.size hE); try replace e1 := Ext.blk hE e1; try replace e2 := Ext.blk hE e2; try replace e3 := Ext.blk hE e3; try replace e4 := Ext.blk hE e4; try replace e5 := Ext.blk hE e5; try replace e6 := Ext.blk hE e6; try replace k1 := Ext.blk hE k1; try replace k2 := Ext.blk hE k2; try replace k3 := Ext.blk hE k3; try replace k4 := Ext.blk hE k4; try replace k5 := Ext.blk hE k5; try replace k6 := Ext.blk hE k6); intro k0 k1 k2 k3) | (with_reducible refine Ext.use2 hx ?_; intro hE; (try replace c0 := Ext.cell hE c0; try replace c1 := Ext.cell hE c1; try replace c2 := Ext.cell hE c2; try replace c3 := Ext.cell hE c3; try replace c4 := Ext.cell hE c4; try replace c5 := Ext.cell hE c5; try replace d0 := Ext.cell hE d0; try replace d1 := Ext.cell hE d1; try replace d2 := Ext.cell hE d2; try replace d3 := Ext.cell hE d3; try replace d4 := Ext.cell hE d4; try replace d5 := Ext.cell hE d5; try replace hb := Nat.lt_of_lt_of_le hb (Ext.size hE); try replace hb' := Nat.lt_of_lt_of_le hb' (Ext.size hE); try replace e1 := Ext.blk hE e1; try replace e2 := Ext.blk hE e2; try replace e3 := Ext.blk hE e3; try replace e4 := Ext.blk hE e4; try replace e5 := Ext.blk hE e5; try replace e6 := Ext.blk hE e6; try replace k1 := Ext.blk hE k1; try replace k2 := Ext.blk hE k2; try replace k3 := Ext.blk hE k3; try replace k4 := Ext.blk hE k4; try replace k5 := Ext.blk hE k5; try replace k6 := Ext.blk hE k6); intro k0 k1 k2) | (with_reducible refine Ext.use1 hx ?_; intro hE; (try replace c0 := Ext.cell hE c0; try replace c1 := Ext.cell hE c1; try replace c2 := Ext.cell hE c2; try replace c3 := Ext.cell hE c3; try replace c4 := Ext.cell hE c4; try replace c5 := Ext.cell hE c5; try replace d0 := Ext.cell hE d0; try replace d1 := Ext.cell hE d1; try replace d2 := Ext.cell hE d2; try replace d3 := Ext.cell hE d3; try replace d4 := Ext.cell hE d4; try replace d5 := Ext.cell hE d5; try replace hb := Nat.lt_of_lt_of_le hb (Ext.size hE); try replace hb' := Nat.lt_of_lt_of_le hb' (Ext.size hE); try replace e1 := Ext.blk hE e1; try replace e2 := Ext.blk hE e2; try replace e3 := Ext.blk hE e3; try replace e4 := Ext.blk hE e4; try replace e5 := Ext.blk hE e5; try replace e6 := Ext.blk hE e6; try replace k1 := Ext.blk hE k1; try replace k2 := Ext.blk hE k2; try replace k3 := Ext.blk hE k3; try replace k4 := Ext.blk hE k4; try replace k5 := Ext.blk hE k5; try replace k6 := Ext.blk hE k6); intro k0 k1) | (with_reducible refine Ext.use hx ?_; intro hE; (try replace c0 := Ext.cell hE c0; try replace c1 := Ext.cell hE c1; try replace c2 := Ext.cell hE c2; try replace c3 := Ext.cell hE c3; try replace c4 := Ext.cell hE c4; try replace c5 := Ext.cell hE c5; try replace d0 := Ext.cell hE d0; try replace d1 := Ext.cell hE d1; try replace d2 := Ext.cell hE d2; try replace d3 := Ext.cell hE d3; try replace d4 := Ext.cell hE d4; try replace d5 := Ext.cell hE d5; try replace hb := Nat.lt_of_lt_of_le hb (Ext.size hE); try replace hb' := Nat.lt_of_lt_of_le hb' (Ext.size hE); try replace e1 := Ext.blk hE e1; try replace e2 := Ext.blk hE e2; try replace e3 := Ext.blk hE e3; try replace e4 := Ext.blk hE e4; try replace e5 := Ext.blk hE e5; try replace e6 := Ext.blk hE e6; try replace k1 := Ext.blk hE k1; try replace k2 := Ext.blk hE k2; try replace k3 := Ext.blk hE k3; try replace k4 := Ext.blk hE k4; try replace k5 := Ext.blk hE k5; try replace k6 := Ext.blk hE k6); intro k0)))
    go_ret
    refine ⟨?_, by (repeat (first | exact Ext.refl _ | assumption | refine Ext.alloc ?_ _ | refine Ext.drew ?_ | (refine Ext.setCell ?_ (by first | (simp; done) | (simp; omega) | omega) _) | refine Ext.trans ?_ (by assumption)))⟩
    refine ret_bool (Bool.eq_iff_iff.2 ?_)
    simp [insideB] <;> omega

theorem within_calls (n lo hi : Int) (w : World) : Calls Try.prog 73 #[.int .i64 n, .int .i64 lo, .int .i64 hi] w fun e w' => e = .returned (.bool (decide (lo ≤ n ∧ n ≤ hi))) ∧ w = w' := by
  by_cases h1 : lo ≤ n
  · go_enter Try.func73, Try.ntmps73
    go_wp2
    go_ret
    simp [h1]
  · go_enter Try.func73, Try.ntmps73
    go_wp2
    go_ret
    simp
    omega
theorem in_calls (x y lo hi : Int) (w : World) :
    Calls Try.prog 74 #[.agg #[.int .i64 x, .int .i64 y], .int .i64 lo, .int .i64 hi] w fun e w' => e = .returned (.bool (insideB x y lo hi)) ∧ Ext w w' := by
  by_cases h1 : x ≤ y <;> by_cases h2 : lo ≤ x
  all_goals
    go_enter Try.func74, Try.ntmps74
    go_wp2
    go_ret
    refine ⟨?_, by (repeat (first | exact Ext.refl _ | assumption | refine Ext.alloc ?_ _ | refine Ext.drew ?_ | (refine Ext.setCell ?_ (by first | (simp; done) | (simp; omega) | omega) _) | refine Ext.trans ?_ (by assumption)))⟩
    refine ret_bool (Bool.eq_iff_iff.2 ?_)
    simp [insideB] <;> omega

/-! ### Reports: are they valid? -/
theorem checkNews_no (l : List News) (n k : Nat) (x : News) (hl : l.length = n) (hn : ¬ 100 < n) (hx : l[k]? = some x) (h : x.ok = false) : checkNews l = 23 := by
  unfold checkNews
  rw [hl, if_neg hn, if_neg]
  intro ha
  have := List.all_eq_true.1 ha x (List.mem_of_getElem? hx)
  rw [h] at this
  cases this
theorem checkNews_yes (l : List News) (n : Nat) (hl : l.length = n) (hn : ¬ 100 < n) (h : ∀ x ∈ l, x.ok = true) : checkNews l = 0 := by
  unfold checkNews
  rw [hl, if_neg hn, if_pos (List.all_eq_true.2 h)]
theorem checkNews_many (l : List News) (n : Nat) (hl : l.length = n) (hn : 100 < n) : checkNews l = 4 := by
  unfold checkNews
  rw [hl, if_pos hn]

set_option maxHeartbeats 4000000 in
theorem checkNews_calls (A : Option Addr) (n c : Nat) (l : List News) (w : World) (hr : RdS w 6 A n (l.map News.cells)) (hn : n ≤ 1000000) :
    Calls Try.prog 24 #[.slice A n c] w fun e w' => e = .returned (.int .i64 (checkNews l)) ∧ Ext w w' := by
  have hl := hr.len
  simp at hl
  by_cases h100 : 100 < n
  · go_enter Try.func24, Try.ntmps24
    go_wp2
    go_ret
    exact ⟨ret_int (checkNews_many l n hl h100).symm, Ext.refl _⟩
  · have Hl := Lib.hid hl
    clear hl
    go_enter Try.func24, Try.ntmps24
    go_wp2
    go_loopw [10] (fun i wr => ∃ k : Nat, k ≤ n ∧ i = .int .i64 k ∧ (∀ x ∈ l.take k, x.ok = true) ∧ Ext w wr) (fun i _ => n - (intOf i).toNat)
    case atStart => exact ⟨0, by omega, rfl, by simp, Ext.refl _⟩
    case round =>
      obtain ⟨k, hk, rfl, hz, hx⟩ := hrel
      by_cases hlt : k < n
      · obtain ⟨b, o, x, rfl, hb, hkx, c0, c1, c2, c3, c4, c5⟩ := News.read (hr.ext hx) hlt
        have H := Lib.hid (And.intro hz (And.intro hr hkx))
        clear hz hr hkx
        go_wp2_with (first
          | (go_at_call 71; (with_reducible refine (from1 _ _ _ _ _ _ ?_).mono ?_); (next => (go_simp; done)); rintro e w1 ⟨rfl, hx⟩; (first | (with_reducible refine Ext.use6 hx ?_; intro hE; (try replace c0 := Ext.cell hE c0; try replace c1 := Ext.cell hE c1; try replace c2 := Ext.cell hE c2; try replace c3 := Ext.cell hE c3; try replace c4 := Ext.cell hE c4; try replace c5 := Ext.cell hE c5; try replace d0 := Ext.cell hE d0; try replace d1 := Ext.cell hE d1; try replace d2 := Ext.cell hE d2; try replace d3 := Ext.cell hE d3; try replace d4 := Ext.cell hE d4; try replace d5 := Ext.cell hE d5; try replace hb := Nat.lt_of_lt_of_le hb (Ext.size hE); try replace hb' := Nat.lt_of_lt_of_le hb' (Ext.size hE); try replace e1 := Ext.blk hE e1; try replace e2 := Ext.blk hE e2; try replace e3 := Ext.blk hE e3; try replace e4 := Ext.blk hE e4; try replace e5 := Ext.blk hE e5; try replace e6 := Ext.blk hE e6; try replace k1 := Ext.blk hE k1; try replace k2 := Ext.blk hE k2; try replace k3 := Ext.blk hE k3; try replace k4 := Ext.blk hE k4; try replace k5 := Ext.blk hE k5; try replace k6 := Ext.blk hE k6); intro k0 k1 k2 k3 k4 k5 k6) | (with_reducible refine Ext.use5 hx ?_; intro hE; (try replace c0 := Ext.cell hE c0; try replace c1 := Ext.cell hE c1; try replace c2 := Ext.cell hE c2; try replace c3 := Ext.cell hE c3; try replace c4 := Ext.cell hE c4; try replace c5 := Ext.cell hE c5; try replace d0 := Ext.cell hE d0; try replace d1 := Ext.cell hE d1; try replace d2 := Ext.cell hE d2; try replace d3 := Ext.cell hE d3; try replace d4 := Ext.cell hE d4; try replace d5 := Ext.cell hE d5; try replace hb := Nat.lt_of_lt_of_le hb (Ext.size hE); try replace hb' := Nat.lt_of_lt_of_le hb' (Ext.size hE); try replace e1 := Ext.blk hE e1; try replace e2 := Ext.blk hE e2; try replace e3 := Ext.blk hE e3; try replace e4 := Ext.blk hE e4; try replace e5 := Ext.blk hE e5; try replace e6 := Ext.blk hE e6; try replace k1 := Ext.blk hE k1; try replace k2 := Ext.blk hE k2; try replace k3 := Ext.blk hE k3; try replace k4 := Ext.blk hE k4; try replace k5 := Ext.blk hE k5; try replace k6 := Ext.blk hE k6); intro k0 k1 k2 k3 k4 k5) | (with_reducible refine Ext.use4 hx ?_; intro hE; (try replace c0 := Ext.cell hE c0; try replace c1 := Ext.cell hE c1; try replace c2 := Ext.cell hE c2; try replace c3 := Ext.cell hE c3; try replace c4 := Ext.cell hE c4; try replace c5 := Ext.cell hE c5; try replace d0 := Ext.cell hE d0; try replace d1 := Ext.cell hE d1; try replace d2 := Ext.cell hE d2; try replace d3 := Ext.cell hE d3; try replace d4 := Ext.cell hE d4; try replace d5 := Ext.cell hE d5; try replace hb := Nat.lt_of_lt_of_le hb (Ext.size hE); try replace hb' := Nat.lt_of_lt_of_le hb' (Ext.size hE); try replace e1 := Ext.blk hE e1; try replace e2 := Ext.blk hE e2; try replace e3 := Ext.blk hE e3; try replace e4 := Ext.blk hE e4; try replace e5 := Ext.blk hE e5; try replace e6 := Ext.blk hE e6; try replace k1 := Ext.blk hE k1; try replace k2 := Ext.blk hE k2; try replace k3 := Ext.blk hE k3; try replace k4 := Ext.blk hE k4; try replace k5 := Ext.blk hE k5; try replace k6 := Ext.blk hE k6); intro k0 k1 k2 k3 k4) | (with_reducible refine Ext.use3 hx ?_; intro hE; (try replace c0 := Ext.cell hE c0; try replace c1 := Ext.cell hE c1; try replace c2 := Ext.cell hE c2; try replace c3 := Ext.cell hE c3; try replace c4 := Ext.cell hE c4; try replace c5 := Ext.cell hE c5; try replace d0 := Ext.cell hE d0; try replace d1 := Ext.cell hE d1; try replace d2 := Ext.cell hE d2; try replace d3 := Ext.cell hE d3; try replace d4 := Ext.cell hE d4; try replace d5 := Ext.cell hE d5; try replace hb := Nat.lt_of_lt_of_le hb (Ext.size hE); try replace hb' := Nat.lt_of_lt_of_le hb' (Ext.size hE); try replace e1 := Ext.blk hE e1; try replace e2 := Ext.blk hE e2; try replace e3 := Ext.blk hE e3; try replace e4 := Ext.blk hE e4; try replace e5 := Ext.blk hE e5; try replace e6 := Ext.blk hE e6; try replace k1 := Ext.blk hE k1; try replace k2 := Ext.blk hE k2; try replace k3 := Ext.blk hE k3; try replace k4 := Ext.blk hE k4; try replace k5 := Ext.blk hE k5; try replace k6 := Ext.blk hE k6); intro k0 k1 k2 k3) | (with_reducible refine Ext.use2 hx ?_; intro hE; (try replace c0 := Ext.cell hE c0; try replace c1 := Ext.cell hE c1; try replace c2 := Ext.cell hE c2; try replace c3 := Ext.cell hE c3; try replace c4 := Ext.cell hE c4; try replace c5 := Ext.cell hE c5; try replace d0 := Ext.cell hE d0; try replace d1 := Ext.cell hE d1; try replace d2 := Ext.cell hE d2; try replace d3 := Ext.cell hE d3; try replace d4 := Ext.cell hE d4; try replace d5 := Ext.cell hE d5; try replace hb := Nat.lt_of_lt_of_le hb (Ext.size hE); try replace hb' := Nat.lt_of_lt_of_le hb' (Ext.size hE); try replace e1 := Ext.blk hE e1; try replace e2 := Ext.blk hE e2; try replace e3 := Ext.blk hE e3; try replace e4 := Ext.blk hE e4; try replace e5 := Ext.blk hE e5; try replace e6 := Ext.blk hE e6; try replace k1 := Ext.blk hE k1; try replace k2 := Ext.blk hE k2; try replace k3 := Ext.blk hE k3; try replace k4 := Ext.blk hE k4; try replace k5 := Ext.blk hE k5; try replace k6 := Ext.blk hE k6); intro k0 k1 k2) | (with_reducible refine Ext.use1 hx ?_; intro hE; (try replace c0 := Ext.cell hE c0; try replace c1 := Ext.cell hE c1; try replace c2 := Ext.cell hE c2; try replace c3 := Ext.cell hE c3; try replace c4 := Ext.cell hE c4; try replace c5 := Ext.cell hE c5; try replace d0 := Ext.cell hE d0; try replace d1 := Ext.cell hE d1; try replace d2 := Ext.cell hE d2; try replace d3 := Ext.cell hE d3; try replace d4 := Ext.cell hE d4; try replace d5 := Ext.cell hE d5; try replace hb := Nat.lt_of_lt_of_le hb (Ext.size hE); try replace hb' := Nat.lt_of_lt_of_le hb' (Ext.size hE); try replace e1 := Ext.blk hE e1; try replace e2 := Ext.blk hE e2; try replace e3 := Ext.blk hE e3; try replace e4 := Ext.blk hE e4; try replace e5 := Ext.blk hE e5; try replace e6 := Ext.blk hE e6; try replace k1 := Ext.blk hE k1; try replace k2 := Ext.blk hE k2; try replace k3 := Ext.blk hE k3; try replace k4 := Ext.blk hE k4; try replace k5 := Ext.blk hE k5; try replace k6 := Ext.blk hE k6); intro k0 k1) | (with_reducible refine Ext.use hx ?_; intro hE; (try replace c0 := Ext.cell hE c0; try replace c1 := Ext.cell hE c1; try replace c2 := Ext.cell hE c2; try replace c3 := Ext.cell hE c3; try replace c4 := Ext.cell hE c4; try replace c5 := Ext.cell hE c5; try replace d0 := Ext.cell hE d0; try replace d1 := Ext.cell hE d1; try replace d2 := Ext.cell hE d2; try replace d3 := Ext.cell hE d3; try replace d4 := Ext.cell hE d4; try replace d5 := Ext.cell hE d5; try replace hb := Nat.lt_of_lt_of_le hb (Ext.size hE); try replace hb' := Nat.lt_of_lt_of_le hb' (Ext.size hE); try replace e1 := Ext.blk hE e1; try replace e2 := Ext.blk hE e2; try replace e3 := Ext.blk hE e3; try replace e4 := Ext.blk hE e4; try replace e5 := Ext.blk hE e5; try replace e6 := Ext.blk hE e6; try replace k1 := Ext.blk hE k1; try replace k2 := Ext.blk hE k2; try replace k3 := Ext.blk hE k3; try replace k4 := Ext.blk hE k4; try replace k5 := Ext.blk hE k5; try replace k6 := Ext.blk hE k6); intro k0)))
          | (go_at_call 71; (with_reducible refine (from2 _ _ _ _ _ _ _ ?_).mono ?_); (next => (go_simp; done)); rintro e w1 ⟨rfl, hx⟩; (first | (with_reducible refine Ext.use6 hx ?_; intro hE; (try replace c0 := Ext.cell hE c0; try replace c1 := Ext.cell hE c1; try replace c2 := Ext.cell hE c2; try replace c3 := Ext.cell hE c3; try replace c4 := Ext.cell hE c4; try replace c5 := Ext.cell hE c5; try replace d0 := Ext.cell hE d0; try replace d1 := Ext.cell hE d1; try replace d2 := Ext.cell hE d2; try replace d3 := Ext.cell hE d3; try replace d4 := Ext.cell hE d4; try replace d5 := Ext.cell hE d5; try replace hb := Nat.lt_of_lt_of_le hb (Ext.size hE); try replace hb' := Nat.lt_of_lt_of_le hb' (Ext.size hE); try replace e1 := Ext.blk hE e1; try replace e2 := Ext.blk hE e2; try replace e3 := Ext.blk hE e3; try replace e4 := Ext.blk hE e4; try replace e5 := Ext.blk hE e5; try replace e6 := Ext.blk hE e6; try replace k1 := Ext.blk hE k1; try replace k2 := Ext.blk hE k2; try replace k3 := Ext.blk hE k3; try replace k4 := Ext.blk hE k4; try replace k5 := Ext.blk hE k5; try replace k6 := Ext.blk hE k6); intro k0 k1 k2 k3 k4 k5 k6) | (with_reducible refine Ext.use5 hx ?_; intro hE; (try replace c0 := Ext.cell hE c0; try replace c1 := Ext.cell hE c1; try replace c2 := Ext.cell hE c2; try replace c3 := Ext.cell hE c3; try replace c4 := Ext.cell hE c4; try replace c5 := Ext.cell hE c5; try replace d0 := Ext.cell hE d0; try replace d1 := Ext.cell hE d1; try replace d2 := Ext.cell hE d2; try replace d3 := Ext.cell hE d3; try replace d4 := Ext.cell hE d4; try replace d5 := Ext.cell hE d5; try replace hb := Nat.lt_of_lt_of_le hb (Ext.size hE); try replace hb' := Nat.lt_of_lt_of_le hb' (Ext.size hE); try replace e1 := Ext.blk hE e1; try replace e2 := Ext.blk hE e2; try replace e3 := Ext.blk hE e3; try replace e4 := Ext.blk hE e4; try replace e5 := Ext.blk hE e5; try replace e6 := Ext.blk hE e6; try replace k1 := Ext.blk hE k1; try replace k2 := Ext.blk hE k2; try replace k3 := Ext.blk hE k3; try replace k4 := Ext.blk hE k4; try replace k5 := Ext.blk hE k5; try replace k6 := Ext.blk hE k6); intro k0 k1 k2 k3 k4 k5) | (with_reducible refine Ext.use4 hx ?_; intro hE; (try replace c0 := Ext.cell hE c0; try replace c1 := Ext.cell hE c1; try replace c2 := Ext.cell hE c2; try replace c3 := Ext.cell hE c3; try replace c4 := Ext.cell hE c4; try replace c5 := Ext.cell hE c5; try replace d0 := Ext.cell hE d0; try replace d1 := Ext.cell hE d1; try replace d2 := Ext.cell hE d2; try replace d3 := Ext.cell hE d3; try replace d4 := Ext.cell hE d4; try replace d5 := Ext.cell hE d5; try replace hb := Nat.lt_of_lt_of_le hb (Ext.size hE); try replace hb' := Nat.lt_of_lt_of_le hb' (Ext.size hE); try replace e1 := Ext.blk hE e1; try replace e2 := Ext.blk hE e2; try replace e3 := Ext.blk hE e3; try replace e4 := Ext.blk hE e4; try replace e5 := Ext.blk hE e5; try replace e6 := Ext.blk hE e6; try replace k1 := Ext.blk hE k1; try replace k2 := Ext.blk hE k2; try replace k3 := Ext.blk hE k3; try replace k4 := Ext.blk hE k4; try replace k5 := Ext.blk hE k5; try replace k6 := Ext.blk hE k6); intro k0 k1 k2 k3 k4) | (with_reducible refine Ext.use3 hx ?_; intro hE; (try replace c0 := Ext.cell hE c0; try replace c1 := Ext.cell hE c1; try replace c2 := Ext.cell hE c2; try replace c3 := Ext.cell hE c3; try replace c4 := Ext.cell hE c4; try replace c5 := Ext.cell hE c5; try replace d0 := Ext.cell hE d0; try replace d1 := Ext.cell hE d1; try replace d2 := Ext.cell hE d2; try replace d3 := Ext.cell hE d3; try replace d4 := Ext.cell hE d4; try replace d5 := Ext.cell hE d5; try replace hb := Nat.lt_of_lt_of_le hb (Ext.size hE); try replace hb' := Nat.lt_of_lt_of_le hb' (Ext.size hE); try replace e1 := Ext.blk hE e1; try replace e2 := Ext.blk hE e2; try replace e3 := Ext.blk hE e3; try replace e4 := Ext.blk hE e4; try replace e5 := Ext.blk hE e5; try replace e6 := Ext.blk hE e6; try replace k1 := Ext.blk hE k1; try replace k2 := Ext.blk hE k2; try replace k3 := Ext.blk hE k3; try replace k4 := Ext.blk hE k4; try replace k5 := Ext.blk hE k5; try replace k6 := Ext.blk hE k6); intro k0 k1 k2 k3) | (with_reducible refine Ext.use2 hx ?_; intro hE; (try replace c0 := Ext.cell hE c0; try replace c1 := Ext.cell hE c1; try replace c2 := Ext.cell hE c2; try replace c3 := Ext.cell hE c3; try replace c4 := Ext.cell hE c4; try replace c5 := Ext.cell hE c5; try replace d0 := Ext.cell hE d0; try replace d1 := Ext.cell hE d1; try replace d2 := Ext.cell hE d2; try replace d3 := Ext.cell hE d3; try replace d4 := Ext.cell hE d4; try replace d5 := Ext.cell hE d5; try replace hb := Nat.lt_of_lt_of_le hb (Ext.size hE); try replace hb' := Nat.lt_of_lt_of_le hb' (Ext.size hE); try replace e1 := Ext.blk hE e1; try replace e2 := Ext.blk hE e2; try replace e3 := Ext.blk hE e3; try replace e4 := Ext.blk hE e4; try replace e5 := Ext.blk hE e5; try replace e6 := Ext.blk hE e6; try replace k1 := Ext.blk hE k1; try replace k2 := Ext.blk hE k2; try replace k3 := Ext.blk hE k3; try replace k4 := Ext.blk hE k4; try replace k5 := Ext.blk hE k5; try replace k6 := Ext.blk hE k6); intro k0 k1 k2) | (with_reducible refine Ext.use1 hx ?_; intro hE; (try replace c0 := Ext.cell hE c0; try replace c1 := Ext.cell hE c1; try replace c2 := Ext.cell hE c2; try replace c3 := Ext.cell hE c3; try replace c4 := Ext.cell hE c4; try replace c5 := Ext.cell hE c5; try replace d0 := Ext.cell hE d0; try replace d1 := Ext.cell hE d1; try replace d2 := Ext.cell hE d2; try replace d3 := Ext.cell hE d3; try replace d4 := Ext.cell hE d4; try replace d5 := Ext.cell hE d5; try replace hb := Nat.lt_of_lt_of_le hb (Ext.size hE); try replace hb' := Nat.lt_of_lt_of_le hb' (Ext.size hE); try replace e1 := Ext.blk hE e1; try replace e2 := Ext.blk hE e2; try replace e3 := Ext.blk hE e3; try replace e4 := Ext.blk hE e4; try replace e5 := Ext.blk hE e5; try replace e6 := Ext.blk hE e6; try replace k1 := Ext.blk hE k1; try replace k2 := Ext.blk hE k2; try replace k3 := Ext.blk hE k3; try replace k4 := Ext.blk hE k4; try replace k5 := Ext.blk hE k5; try replace k6 := Ext.blk hE k6); intro k0 k1) | (with_reducible refine Ext.use hx ?_; intro hE; (try replace c0 := Ext.cell hE c0; try replace c1 := Ext.cell hE c1; try replace c2 := Ext.cell hE c2; try replace c3 := Ext.cell hE c3; try replace c4 := Ext.cell hE c4; try replace c5 := Ext.cell hE c5; try replace d0 := Ext.cell hE d0; try replace d1 := Ext.cell hE d1; try replace d2 := Ext.cell hE d2; try replace d3 := Ext.cell hE d3; try replace d4 := Ext.cell hE d4; try replace d5 := Ext.cell hE d5; try replace hb := Nat.lt_of_lt_of_le hb (Ext.size hE); try replace hb' := Nat.lt_of_lt_of_le hb' (Ext.size hE); try replace e1 := Ext.blk hE e1; try replace e2 := Ext.blk hE e2; try replace e3 := Ext.blk hE e3; try replace e4 := Ext.blk hE e4; try replace e5 := Ext.blk hE e5; try replace e6 := Ext.blk hE e6; try replace k1 := Ext.blk hE k1; try replace k2 := Ext.blk hE k2; try replace k3 := Ext.blk hE k3; try replace k4 := Ext.blk hE k4; try replace k5 := Ext.blk hE k5; try replace k6 := Ext.blk hE k6); intro k0)))
          | (go_at_call 72; (with_reducible refine (inside_calls _ _ _ _ _).mono ?_); rintro e w1 ⟨rfl, hx⟩; (first | (with_reducible refine Ext.use6 hx ?_; intro hE; (try replace c0 := Ext.cell hE c0; try replace c1 := Ext.cell hE c1; try replace c2 := Ext.cell hE c2; try replace c3 := Ext.cell hE c3; try replace c4 := Ext.cell hE c4; try replace c5 := Ext.cell hE c5; try replace d0 := Ext.cell hE d0; try replace d1 := Ext.cell hE d1; try replace d2 := Ext.cell hE d2; try replace d3 := Ext.cell hE d3; try replace d4 := Ext.cell hE d4; try replace d5 := Ext.cell hE d5; try replace hb := Nat.lt_of_lt_of_le hb (Ext.size hE); try replace hb' := Nat.lt_of_lt_of_le hb' (Ext.size hE); try replace e1 := Ext.blk hE e1; try replace e2 := Ext.blk hE e2; try replace e3 := Ext.blk hE e3; try replace e4 := Ext.blk hE e4; try replace e5 := Ext.blk hE e5; try replace e6 := Ext.blk hE e6; try replace k1 := Ext.blk hE k1; try replace k2 := Ext.blk hE k2; try replace k3 := Ext.blk hE k3; try replace k4 := Ext.blk hE k4; try replace k5 := Ext.blk hE k5; try replace k6 := Ext.blk hE k6); intro k0 k1 k2 k3 k4 k5 k6) | (with_reducible refine Ext.use5 hx ?_; intro hE; (try replace c0 := Ext.cell hE c0; try replace c1 := Ext.cell hE c1; try replace c2 := Ext.cell hE c2; try replace c3 := Ext.cell hE c3; try replace c4 := Ext.cell hE c4; try replace c5 := Ext.cell hE c5; try replace d0 := Ext.cell hE d0; try replace d1 := Ext.cell hE d1; try replace d2 := Ext.cell hE d2; try replace d3 := Ext.cell hE d3; try replace d4 := Ext.cell hE d4; try replace d5 := Ext.cell hE d5; try replace hb := Nat.lt_of_lt_of_le hb (Ext.size hE); try replace hb' := Nat.lt_of_lt_of_le hb' (Ext.size hE); try replace e1 := Ext.blk hE e1; try replace e2 := Ext.blk hE e2; try replace e3 := Ext.blk hE e3; try replace e4 := Ext.blk hE e4; try replace e5 := Ext.blk hE e5; try replace e6 := Ext.blk hE e6; try replace k1 := Ext.blk hE k1; try replace k2 := Ext.blk hE k2; try replace k3 := Ext.blk hE k3; try replace k4 := Ext.blk hE k4; try replace k5 := Ext.blk hE k5; try replace k6 := Ext.blk hE k6); intro k0 k1 k2 k3 k4 k5) | (with_reducible refine Ext.use4 hx ?_; intro hE; (try replace c0 := Ext.cell hE c0; try replace c1 := Ext.cell hE c1; try replace c2 := Ext.cell hE c2; try replace c3 := Ext.cell hE c3; try replace c4 := Ext.cell hE c4; try replace c5 := Ext.cell hE c5; try replace d0 := Ext.cell hE d0; try replace d1 := Ext.cell hE d1; try replace d2 := Ext.cell hE d2; try replace d3 := Ext.cell hE d3; try replace d4 := Ext.cell hE d4; try replace d5 := Ext.cell hE d5; try replace hb := Nat.lt_of_lt_of_le hb (Ext.size hE); try replace hb' := Nat.lt_of_lt_of_le hb' (Ext.size hE); try replace e1 := Ext.blk hE e1; try replace e2 := Ext.blk hE e2; try replace e3 := Ext.blk hE e3; try replace e4 := Ext.blk hE e4; try replace e5 := Ext.blk hE e5; try replace e6 := Ext.blk hE e6; try replace k1 := Ext.blk hE k1; try replace k2 := Ext.blk hE k2; try replace k3 := Ext.blk hE k3; try replace k4 := Ext.blk hE k4; try replace k5 := Ext.blk hE k5; try replace k6 := Ext.blk hE k6); intro k0 k1 k2 k3 k4) | (with_reducible refine Ext.use3 hx ?_; intro hE; (try replace c0 := Ext.cell hE c0; try replace c1 := Ext.cell hE c1; try replace c2 := Ext.cell hE c2; try replace c3 := Ext.cell hE c3; try replace c4 := Ext.cell hE c4; try replace c5 := Ext.cell hE c5; try replace d0 := Ext.cell hE d0; try replace d1 := Ext.cell hE d1; try replace d2 := Ext.cell hE d2; try replace d3 := Ext.cell hE d3; try replace d4 := Ext.cell hE d4; try replace d5 := Ext.cell hE d5; try replace hb := Nat.lt_of_lt_of_le hb (Ext.size hE); try replace hb' := Nat.lt_of_lt_of_le hb' (Ext.size hE); try replace e1 := Ext.blk hE e1; try replace e2 := Ext.blk hE e2; try replace e3 := Ext.blk hE e3; try replace e4 := Ext.blk hE e4; try replace e5 := Ext.blk hE e5; try replace e6 := Ext.blk hE e6; try replace k1 := Ext.blk hE k1; try replace k2 := Ext.blk hE k2; try replace k3 := Ext.blk hE k3; try replace k4 := Ext.blk hE k4; try replace k5 := Ext.blk hE k5; try replace k6 := Ext.blk hE k6); intro k0 k1 k2 k3) | (with_reducible refine Ext.use2 hx ?_; intro hE; (try replace c0 := Ext.cell hE c0; try replace c1 := Ext.cell hE c1; try replace c2 := Ext.cell hE c2; try replace c3 := Ext.cell hE c3; try replace c4 := Ext.cell hE c4; try replace c5 := Ext.cell hE c5; try replace d0 := Ext.cell hE d0; try replace d1 := Ext.cell hE d1; try replace d2 := Ext.cell hE d2; try replace d3 := Ext.cell hE d3; try replace d4 := Ext.cell hE d4; try replace d5 := Ext.cell hE d5; try replace hb := Nat.lt_of_lt_of_le hb (Ext.size hE); try replace hb' := Nat.lt_of_lt_of_le hb' (Ext.size hE); try replace e1 := Ext.blk hE e1; try replace e2 := Ext.blk hE e2; try replace e3 := Ext.blk hE e3; try replace e4 := Ext.blk hE e4; try replace e5 := Ext.blk hE e5; try replace e6 := Ext.blk hE e6; try replace k1 := Ext.blk hE k1; try replace k2 := Ext.blk hE k2; try replace k3 := Ext.blk hE k3; try replace k4 := Ext.blk hE k4; try replace k5 := Ext.blk hE k5; try replace k6 := Ext.blk hE k6); intro k0 k1 k2) | (with_reducible refine Ext.use1 hx ?_; intro hE; (try replace c0 := Ext.cell hE c0; try replace c1 := Ext.cell hE c1; try replace c2 := Ext.cell hE c2; try replace c3 := Ext.cell hE c3; try replace c4 := Ext.cell hE c4; try replace c5 := Ext.cell hE c5; try replace d0 := Ext.cell hE d0; try replace d1 := Ext.cell hE d1; try replace d2 := Ext.cell hE d2; try replace d3 := Ext.cell hE d3; try replace d4 := Ext.cell hE d4; try replace d5 := Ext.cell hE d5; try replace hb := Nat.lt_of_lt_of_le hb (Ext.size hE); try replace hb' := Nat.lt_of_lt_of_le hb' (Ext.size hE); try replace e1 := Ext.blk hE e1; try replace e2 := Ext.blk hE e2; try replace e3 := Ext.blk hE e3; try replace e4 := Ext.blk hE e4; try replace e5 := Ext.blk hE e5; try replace e6 := Ext.blk hE e6; try replace k1 := Ext.blk hE k1; try replace k2 := Ext.blk hE k2; try replace k3 := Ext.blk hE k3; try replace k4 := Ext.blk hE k4; try replace k5 := Ext.blk hE k5; try replace k6 := Ext.blk hE k6); intro k0 k1) | (with_reducible refine Ext.use hx ?_; intro hE; (try replace c0 := Ext.cell hE c0; try replace c1 := Ext.cell hE c1; try replace c2 := Ext.cell hE c2; try replace c3 := Ext.cell hE c3; try replace c4 := Ext.cell hE c4; try replace c5 := Ext.cell hE c5; try replace d0 := Ext.cell hE d0; try replace d1 := Ext.cell hE d1; try replace d2 := Ext.cell hE d2; try replace d3 := Ext.cell hE d3; try replace d4 := Ext.cell hE d4; try replace d5 := Ext.cell hE d5; try replace hb := Nat.lt_of_lt_of_le hb (Ext.size hE); try replace hb' := Nat.lt_of_lt_of_le hb' (Ext.size hE); try replace e1 := Ext.blk hE e1; try replace e2 := Ext.blk hE e2; try replace e3 := Ext.blk hE e3; try replace e4 := Ext.blk hE e4; try replace e5 := Ext.blk hE e5; try replace e6 := Ext.blk hE e6; try replace k1 := Ext.blk hE k1; try replace k2 := Ext.blk hE k2; try replace k3 := Ext.blk hE k3; try replace k4 := Ext.blk hE k4; try replace k5 := Ext.blk hE k5; try replace k6 := Ext.blk hE k6); intro k0))))
        all_goals first
          | (go_ret
             obtain ⟨hz, hr, hkx⟩ := H.out
             refine ⟨ret_int (checkNews_no l n k x Hl.out h100 hkx ?_).symm, ?_⟩
             · simp_all [News.ok, allFrom, insideB]
               omega
             · (repeat (first | exact Ext.refl _ | assumption | refine Ext.alloc ?_ _ | refine Ext.drew ?_ | (refine Ext.setCell ?_ (by first | (simp; done) | (simp; omega) | omega) _) | refine Ext.trans ?_ (by assumption))))
          | (go_roundw
             case rel =>
               obtain ⟨hz, hr, hkx⟩ := H.out
               refine ⟨k + 1, by omega, by go_num, take_more News.ok true l k x hkx hz ?_, ?_⟩
               · simp_all [News.ok, allFrom, insideB]
               · (repeat (first | exact Ext.refl _ | assumption | refine Ext.alloc ?_ _ | refine Ext.drew ?_ | (refine Ext.setCell ?_ (by first | (simp; done) | (simp; omega) | omega) _) | refine Ext.trans ?_ (by assumption)))
             case measure => simp [intOf]; omega)
      · go_wp2
        go_ret
        exact ⟨ret_int (checkNews_yes l n Hl.out h100 (by rw [List.take_of_length_le (by have := Hl.out; omega)] at hz; exact hz)).symm, hx⟩

set_option maxHeartbeats 4000000 in
theorem refCheckNews_calls (A : Option Addr) (n c : Nat) (l : List News) (w : World) (hr : RdS w 6 A n (l.map News.cells)) (hn : n ≤ 1000000) :
    Calls Try.prog 25 #[.slice A n c] w fun e w' => e = .returned (.int .i64 (checkNews l)) ∧ Ext w w' := by
  have hl := hr.len
  simp at hl
  by_cases h100 : 100 < n
  · go_enter Try.func25, Try.ntmps25
    go_wp2
    go_ret
    exact ⟨ret_int (checkNews_many l n hl h100).symm, Ext.refl _⟩
  · have Hl := Lib.hid hl
    clear hl
    go_enter Try.func25, Try.ntmps25
    go_wp2
    go_loopw [3] (fun i wr => ∃ k : Nat, k ≤ n ∧ i = .int .i64 k ∧ (∀ x ∈ l.take k, x.ok = true) ∧ Ext w wr) (fun i _ => n - (intOf i).toNat)
    case atStart => exact ⟨0, by omega, rfl, by simp, Ext.refl _⟩
    case round =>
      obtain ⟨k, hk, rfl, hz, hx⟩ := hrel
      by_cases hlt : k < n
      · obtain ⟨b, o, x, rfl, hb, hkx, c0, c1, c2, c3, c4, c5⟩ := News.read (hr.ext hx) hlt
        have H := Lib.hid (And.intro hz (And.intro hr hkx))
        clear hz hr hkx
        go_wp2_with (first
          | (go_at_call 73; (with_reducible refine (within_calls _ _ _ _).mono ?_); rintro e w1 ⟨rfl, rfl⟩)
          | (go_at_call 74; (with_reducible refine (in_calls _ _ _ _ _).mono ?_); rintro e w1 ⟨rfl, hx⟩; (first | (with_reducible refine Ext.use6 hx ?_; intro hE; (try replace c0 := Ext.cell hE c0; try replace c1 := Ext.cell hE c1; try replace c2 := Ext.cell hE c2; try replace c3 := Ext.cell hE c3; try replace c4 := Ext.cell hE c4; try replace c5 := Ext.cell hE c5; try replace d0 := Ext.cell hE d0; try replace d1 := Ext.cell hE d1; try replace d2 := Ext.cell hE d2; try replace d3 := Ext.cell hE d3; try replace d4 := Ext.cell hE d4; try replace d5 := Ext.cell hE d5; try replace hb := Nat.lt_of_lt_of_le hb (Ext.size hE); try replace hb' := Nat.lt_of_lt_of_le hb' (Ext.size hE); try replace e1 := Ext.blk hE e1; try replace e2 := Ext.blk hE e2; try replace e3 := Ext.blk hE e3; try replace e4 := Ext.blk hE e4; try replace e5 := Ext.blk hE e5; try replace e6 := Ext.blk hE e6; try replace k1 := Ext.blk hE k1; try replace k2 := Ext.blk hE k2; try replace k3 := Ext.blk hE k3; try replace k4 := Ext.blk hE k4; try replace k5 := Ext.blk hE k5; try replace k6 := Ext.blk hE k6); intro k0 k1 k2 k3 k4 k5 k6) | (with_reducible refine Ext.use5 hx ?_; intro hE; (try replace c0 := Ext.cell hE c0; try replace c1 := Ext.cell hE c1; try replace c2 := Ext.cell hE c2; try replace c3 := Ext.cell hE c3; try replace c4 := Ext.cell hE c4; try replace c5 := Ext.cell hE c5; try replace d0 := Ext.cell hE d0; try replace d1 := Ext.cell hE d1; try replace d2 := Ext.cell hE d2; try replace d3 := Ext.cell hE d3; try replace d4 := Ext.cell hE d4; try replace d5 := Ext.cell hE d5; try replace hb := Nat.lt_of_lt_of_le hb (Ext.size hE); try replace hb' := Nat.lt_of_lt_of_le hb' (Ext.size hE); try replace e1 := Ext.blk hE e1; try replace e2 := Ext.blk hE e2; try replace e3 := Ext.blk hE e3; try replace e4 := Ext.blk hE e4; try replace e5 := Ext.blk hE e5; try replace e6 := Ext.blk hE e6; try replace k1 := Ext.blk hE k1; try replace k2 := Ext.blk hE k2; try replace k3 := Ext.blk hE k3; try replace k4 := Ext.blk hE k4; try replace k5 := Ext.blk hE k5; try replace k6 := Ext.blk hE k6); intro k0 k1 k2 k3 k4 k5) | (with_reducible refine Ext.use4 hx ?_; intro hE; (try replace c0 := Ext.cell hE c0; try replace c1 := Ext.cell hE c1; try replace c2 := Ext.cell hE c2; try replace c3 := Ext.cell hE c3; try replace c4 := Ext.cell hE c4; try replace c5 := Ext.cell hE c5; try replace d0 := Ext.cell hE d0; try replace d1 := Ext.cell hE d1; try replace d2 := Ext.cell hE d2; try replace d3 := Ext.cell hE d3; try replace d4 := Ext.cell hE d4; try replace d5 := Ext.cell hE d5; try replace hb := Nat.lt_of_lt_of_le hb (Ext.size hE); try replace hb' := Nat.lt_of_lt_of_le hb' (Ext.size hE); try replace e1 := Ext.blk hE e1; try replace e2 := Ext.blk hE e2; try replace e3 := Ext.blk hE e3; try replace e4 := Ext.blk hE e4; try replace e5 := Ext.blk hE e5; try replace e6 := Ext.blk hE e6; try replace k1 := Ext.blk hE k1; try replace k2 := Ext.blk hE k2; try replace k3 := Ext.blk hE k3; try replace k4 := Ext.blk hE k4; try replace k5 := Ext.blk hE k5; try replace k6 := Ext.blk hE k6); intro k0 k1 k2 k3 k4) | (with_reducible refine Ext.use3 hx ?_; intro hE; (try replace c0 := Ext.cell hE c0; try replace c1 := Ext.cell hE c1; try replace c2 := Ext.cell hE c2; try replace c3 := Ext.cell hE c3; try replace c4 := Ext.cell hE c4; try replace c5 := Ext.cell hE c5; try replace d0 := Ext.cell hE d0; try replace d1 := Ext.cell hE d1; try replace d2 := Ext.cell hE d2; try replace d3 := Ext.cell hE d3; try replace d4 := Ext.cell hE d4; try replace d5 := Ext.cell hE d5; try replace hb := Nat.lt_of_lt_of_le hb (Ext.size hE); try replace hb' := Nat.lt_of_lt_of_le hb' (Ext.size hE); try replace e1 := Ext.blk hE e1; try replace e2 := Ext.blk hE e2; try replace e3 := Ext.blk hE e3; try replace e4 := Ext.blk hE e4; try replace e5 := Ext.blk hE e5; try replace e6 := Ext.blk hE e6; try replace k1 := Ext.blk hE k1; try replace k2 := Ext.blk hE k2; try replace k3 := Ext.blk hE k3; try replace k4 := Ext.blk hE k4; try replace k5 := Ext.blk hE k5; try replace k6 := Ext.blk hE k6); intro k0 k1 k2 k3) | (with_reducible refine Ext.use2 hx ?_; intro hE; (try replace c0 := Ext.cell hE c0; try replace c1 := Ext.cell hE c1; try replace c2 := Ext.cell hE c2; try replace c3 := Ext.cell hE c3; try replace c4 := Ext.cell hE c4; try replace c5 := Ext.cell hE c5; try replace d0 := Ext.cell hE d0; try replace d1 := Ext.cell hE d1; try replace d2 := Ext.cell hE d2; try replace d3 := Ext.cell hE d3; try replace d4 := Ext.cell hE d4; try replace d5 := Ext.cell hE d5; try replace hb := Nat.lt_of_lt_of_le hb (Ext.size hE); try replace hb' := Nat.lt_of_lt_of_le hb' (Ext.size hE); try replace e1 := Ext.blk hE e1; try replace e2 := Ext.blk hE e2; try replace e3 := Ext.blk hE e3; try replace e4 := Ext.blk hE e4; try replace e5 := Ext.blk hE e5; try replace e6 := Ext.blk hE e6; try replace k1 := Ext.blk hE k1; try replace k2 := Ext.blk hE k2; try replace k3 := Ext.blk hE k3; try replace k4 := Ext.blk hE k4; try replace k5 := Ext.blk hE k5; try replace k6 := Ext.blk hE k6); intro k0 k1 k2) | (with_reducible refine Ext.use1 hx ?_; intro hE; (try replace c0 := Ext.cell hE c0; try replace c1 := Ext.cell hE c1; try replace c2 := Ext.cell hE c2; try replace c3 := Ext.cell hE c3; try replace c4 := Ext.cell hE c4; try replace c5 := Ext.cell hE c5; try replace d0 := Ext.cell hE d0; try replace d1 := Ext.cell hE d1; try replace d2 := Ext.cell hE d2; try replace d3 := Ext.cell hE d3; try replace d4 := Ext.cell hE d4; try replace d5 := Ext.cell hE d5; try replace hb := Nat.lt_of_lt_of_le hb (Ext.size hE); try replace hb' := Nat.lt_of_lt_of_le hb' (Ext.size hE); try replace e1 := Ext.blk hE e1; try replace e2 := Ext.blk hE e2; try replace e3 := Ext.blk hE e3; try replace e4 := Ext.blk hE e4; try replace e5 := Ext.blk hE e5; try replace e6 := Ext.blk hE e6; try replace k1 := Ext.blk hE k1; try replace k2 := Ext.blk hE k2; try replace k3 := Ext.blk hE k3; try replace k4 := Ext.blk hE k4; try replace k5 := Ext.blk hE k5; try replace k6 := Ext.blk hE k6); intro k0 k1) | (with_reducible refine Ext.use hx ?_; intro hE; (try replace c0 := Ext.cell hE c0; try replace c1 := Ext.cell hE c1; try replace c2 := Ext.cell hE c2; try replace c3 := Ext.cell hE c3; try replace c4 := Ext.cell hE c4; try replace c5 := Ext.cell hE c5; try replace d0 := Ext.cell hE d0; try replace d1 := Ext.cell hE d1; try replace d2 := Ext.cell hE d2; try replace d3 := Ext.cell hE d3; try replace d4 := Ext.cell hE d4; try replace d5 := Ext.cell hE d5; try replace hb := Nat.lt_of_lt_of_le hb (Ext.size hE); try replace hb' := Nat.lt_of_lt_of_le hb' (Ext.size hE); try replace e1 := Ext.blk hE e1; try replace e2 := Ext.blk hE e2; try replace e3 := Ext.blk hE e3; try replace e4 := Ext.blk hE e4; try replace e5 := Ext.blk hE e5; try replace e6 := Ext.blk hE e6; try replace k1 := Ext.blk hE k1; try replace k2 := Ext.blk hE k2; try replace k3 := Ext.blk hE k3; try replace k4 := Ext.blk hE k4; try replace k5 := Ext.blk hE k5; try replace k6 := Ext.blk hE k6); intro k0))))
        all_goals first
          | (go_ret
             obtain ⟨hz, hr, hkx⟩ := H.out
             refine ⟨ret_int (checkNews_no l n k x Hl.out h100 hkx ?_).symm, ?_⟩
             · simp_all [News.ok, allFrom, insideB]
               omega
             · (repeat (first | exact Ext.refl _ | assumption | refine Ext.alloc ?_ _ | refine Ext.drew ?_ | (refine Ext.setCell ?_ (by first | (simp; done) | (simp; omega) | omega) _) | refine Ext.trans ?_ (by assumption))))
          | (go_roundw
             case rel =>
               obtain ⟨hz, hr, hkx⟩ := H.out
               refine ⟨k + 1, by omega, by go_num, take_more News.ok true l k x hkx hz ?_, ?_⟩
               · simp_all [News.ok, allFrom, insideB]
               · (repeat (first | exact Ext.refl _ | assumption | refine Ext.alloc ?_ _ | refine Ext.drew ?_ | (refine Ext.setCell ?_ (by first | (simp; done) | (simp; omega) | omega) _) | refine Ext.trans ?_ (by assumption)))
             case measure => simp [intOf]; omega)
      · go_wp2
        go_ret
        exact ⟨ret_int (checkNews_yes l n Hl.out h100 (by rw [List.take_of_length_le (by have := Hl.out; omega)] at hz; exact hz)).symm, hx⟩

end Go.Proofs.Ytalidommelefaaa
/- Small contracts of the reference, told by their outcome. -/
namespace Go.Proofs.Ytalidommelefaaa
open Go.RowKit
set_option linter.unusedVariables false
set_option linter.unusedSimpArgs false
theorem within_q (n lo hi : Int) {q : Bool} (hq : decide (lo ≤ n ∧ n ≤ hi) = q) (w : World) : Calls Try.prog 73 #[.int .i64 n, .int .i64 lo, .int .i64 hi] w fun e w' => e = .returned (.bool q) ∧ Ext w w' := hq ▸ (within_calls n lo hi w).mono fun e w' h => ⟨h.1, h.2 ▸ Ext.refl _⟩
theorem in_q (x y lo hi : Int) {q : Bool} (hq : decide (x ≤ y ∧ lo ≤ x ∧ y ≤ hi) = q) (w : World) : Calls Try.prog 74 #[.agg #[.int .i64 x, .int .i64 y], .int .i64 lo, .int .i64 hi] w fun e w' => e = .returned (.bool q) ∧ Ext w w' := by
  have := in_calls x y lo hi w
  have e : insideB x y lo hi = q := by rw [← hq]; unfold insideB; rw [Bool.eq_iff_iff]; try (simp; try omega)
  rw [e] at this
  exact this
end Go.Proofs.Ytalidommelefaaa
/- Spans as rows. -/
namespace Go.Proofs.Ytalidommelefaaa
open Go.RowKit
/-- spans as rows -/
def spanCells (s : Int × Int) : List Value := [.int .i64 s.1, .int .i64 s.2]
def joinS (a b : Int × Int) : Int × Int := (max a.1 b.1, min a.2 b.2)
def joinAll (s : Int × Int) (l : List (Int × Int)) : Int × Int := l.foldl joinS s
theorem joinAll_take (s : Int × Int) (l : List (Int × Int)) (k : Nat) (x : Int × Int) (h : l[k]? = some x) : joinAll s (l.take (k + 1)) = joinS (joinAll s (l.take k)) x := by
  unfold joinAll
  rw [List.take_add_one, h, List.foldl_append]
  rfl
theorem span_read {w : World} {A : Option Addr} {n : Nat} {l : List (Int × Int)} (h : RdS w 2 A n (l.map spanCells)) {i : Nat} (hi : i < n) :
    ∃ b o x, A = some ⟨b, o, none⟩ ∧ b < w.heap.size ∧ l[i]? = some x ∧ w.cell? ⟨b, o + i * 2, none⟩ = some (.int .i64 x.1) ∧ w.cell? ⟨b, o + i * 2 + 1, none⟩ = some (.int .i64 x.2) := by
  obtain ⟨b, o, cs, hA, hb, hx, _, hc⟩ := h.row hi
  simp only [List.getElem?_map, Option.map_eq_some_iff] at hx
  obtain ⟨x, hx, rfl⟩ := hx
  exact ⟨b, o, x, hA, hb, hx, hc 0 _ rfl, hc 1 _ rfl⟩

end Go.Proofs.Ytalidommelefaaa
/- Spans: valid ones, and roots. -/
namespace Go.Proofs.Ytalidommelefaaa
open Go.RowKit
attribute [local irreducible] OQ OS OX Rd T TL GX GL AL AI RV wpG SAny Calls
set_option maxRecDepth 100000
set_option maxHeartbeats 2000000
set_option linter.unusedVariables false
set_option linter.unusedSimpArgs false

/-- r is the root of n, rounded down. -/
def IsR (n r : Int) : Prop := 0 ≤ r ∧ r * r ≤ n ∧ n < (r + 1) * (r + 1)
theorem IsR.uniq {n r s : Int} (h : IsR n r) (k : IsR n s) : r = s := by
  have key : ∀ {r s : Int}, IsR n r → IsR n s → s ≤ r := fun {r s} h k => by
    rcases Int.lt_or_le r s with hlt | hle
    · have h1 : (r + 1) * (r + 1) ≤ s * s := Int.mul_le_mul (by omega) (by omega) (by have := h.1; omega) k.1
      have := h.2.2; have := k.2.1
      omega
    · exact hle
  have h1 := key h k
  have h2 := key k h
  omega
noncomputable def rt (n : Int) : Int := open Classical in if h : ∃ r, IsR n r then Classical.choose h else 0
theorem IsR.rt {n r : Int} (h : IsR n r) : rt n = r := by
  have hx : ∃ r, IsR n r := ⟨r, h⟩
  unfold Ytalidommelefaaa.rt
  rw [dif_pos hx]
  exact (Classical.choose_spec hx).uniq h


theorem root_calls (n : Int) (h0 : 0 ≤ n) (h1 : n ≤ 1099511627776) (w : World) : Calls Try.prog 136 #[.int .i64 n] w fun e w' => e = .returned (.int .i64 (rt n)) ∧ Ext w w' := by
  refine enterQ (c := cx w 22) Try.func136 rfl rfl rfl rfl ?_
  repeat' (first | ((with_reducible apply oq_id); first | (apply oq_fn; exact rfl; first | exact trivial | (refine ⟨?_, ?_⟩ <;> omega) | (refine ⟨?_, ?_, ?_⟩ <;> omega) | omega | skip)) | ((with_reducible apply tl_id); first | ((with_reducible apply tl_nil)) | ((with_reducible apply u_q); exact rfl; exact rfl; exact rfl; exact rfl)) | ((with_reducible apply t_id); first | ((with_reducible apply t_seq)) | (apply t_region; kernel_rfl) | ((with_reducible apply t_block))) | with_reducible apply q_thenN)
  apply t_loopK (ι := (Int × Int)) [0, 2, 21] (fun (i : Int × Int) => [(3, .int .i64 i.1), (4, .int .i64 i.2)]) (fun _ => []) (fun i => 0 ≤ i.1 ∧ i.1 < i.2 ∧ i.2 ≤ 1048577 ∧ i.1 * i.1 ≤ n ∧ n < i.2 * i.2) (fun i => (i.2 - i.1).toNat) ((0, 1048577))
  (repeat (first | exact KeepF.nil | (apply KeepF.cons; exact rfl) | apply KeepF.skip))
  (repeat (first | exact FrSub.nil | (apply FrSub.cons; exact rfl)))
  (repeat (first | exact HpSub.refl _ | (apply HpSub.consE; (repeat (first | exact P0 | apply P1)); exact rfl) | exact HpSub.nil))
  · simp only; omega
  rintro ⟨a, b⟩ ⟨i0, i1, i2, i3, i4⟩
  simp only at i0 i1 i2 i3 i4
  obtain ⟨m, hm⟩ : ∃ m, m = (a + b).tdiv 2 := ⟨_, rfl⟩
  have hm0 : a ≤ m ∧ m ≤ b ∧ (1 < b - a → a < m ∧ m < b) := by
    rw [Int.tdiv_eq_ediv_of_nonneg (by omega)] at hm
    omega
  have hmm : InR (m * m) := by
    have : m * m ≤ 1048577 * 1048577 := Int.mul_le_mul (by omega) (by omega) (by omega) (by omega)
    have : 0 ≤ m * m := Int.mul_nonneg (by omega) (by omega)
    exact ⟨by omega, by omega⟩
  rw [hm] at hmm
  dsimp only
  repeat' (first | ((with_reducible apply oq_id); first | (apply oq_fn; exact rfl; first | exact trivial | (refine ⟨?_, ?_⟩ <;> omega) | (refine ⟨?_, ?_, ?_⟩ <;> omega) | omega | skip)) | ((with_reducible apply tl_id); first | ((with_reducible apply tl_nil)) | ((with_reducible apply u_q); exact rfl; exact rfl; exact rfl; exact rfl)) | ((with_reducible apply t_id); first | ((with_reducible apply t_seq)) | (apply t_region; kernel_rfl) | ((with_reducible apply t_condD); exact rfl; all_goals first | (intro hp; try (exfalso; omega)) | skip) | ((with_reducible apply t_ret)) | ((with_reducible apply t_skip)) | ((with_reducible apply t_exit)) | ((with_reducible apply t_block))) | with_reducible apply q_thenN | with_reducible apply q_blockN | with_reducible apply q_thenE | ((with_reducible apply q_blockE); exact rfl) | ((with_reducible apply end_ret)) | exact rvs_nil | ((with_reducible apply rvs_cons)) | ((with_reducible apply rv_tmp); exact rfl))
  · rw [← hm] at *
    refine ⟨(m, b), ⟨by simp only; omega, by simp only; omega, i2, hp, i4⟩, by simp only; omega, ?_, ?_⟩
    · (repeat (first | exact FrSub.nil | (apply FrSub.cons; exact rfl)))
    · (repeat (first | exact HpSub.refl _ | (apply HpSub.consE; (repeat (first | exact P0 | apply P1)); exact rfl) | exact HpSub.nil))
  · rw [← hm] at *
    refine ⟨(a, m), ⟨i0, by simp only; omega, by simp only; omega, i3, by simp only; omega⟩, by simp only; omega, ?_, ?_⟩
    · (repeat (first | exact FrSub.nil | (apply FrSub.cons; exact rfl)))
    · (repeat (first | exact HpSub.refl _ | (apply HpSub.consE; (repeat (first | exact P0 | apply P1)); exact rfl) | exact HpSub.nil))
  · obtain rfl : b = a + 1 := by omega
    rw [IsR.rt ⟨i0, i3, i4⟩]; rfl


theorem sqrt_calls (n : Int) (h0 : 0 ≤ n) (h1 : n ≤ 1099511627776) (w : World) : Calls Try.prog 137 #[.int .i64 n] w fun e w' => e = .returned (.int .i64 (rt n)) ∧ Ext w w' := by
  refine enterQ (c := cx w 22) Try.func137 rfl rfl rfl rfl ?_
  repeat' (first | ((with_reducible apply oq_id); first | (apply oq_fn; exact rfl; first | exact trivial | (refine ⟨?_, ?_⟩ <;> omega) | (refine ⟨?_, ?_, ?_⟩ <;> omega) | omega | skip)) | ((with_reducible apply tl_id); first | ((with_reducible apply tl_nil)) | ((with_reducible apply u_q); exact rfl; exact rfl; exact rfl; exact rfl)) | ((with_reducible apply t_id); first | ((with_reducible apply t_seq)) | (apply t_region; kernel_rfl) | ((with_reducible apply t_block))) | with_reducible apply q_thenN)
  apply t_loopK (ι := (Int × Int × Nat)) [0, 2, 21] (fun (i : Int × Int × Nat) => [(3, .int .i64 i.1), (4, .int .i64 i.2.1)]) (fun _ => []) (fun i => 0 ≤ i.1 ∧ i.1 * i.1 ≤ n ∧ i.2.1 = (2 : Int) ^ i.2.2 / 2 ∧ n < (i.1 + (2 : Int) ^ i.2.2) * (i.1 + (2 : Int) ^ i.2.2) ∧ i.1 + (2 : Int) ^ i.2.2 ≤ 2097152) (fun i => i.2.2) ((0, 1048576, 21))
  (repeat (first | exact KeepF.nil | (apply KeepF.cons; exact rfl) | apply KeepF.skip))
  (repeat (first | exact FrSub.nil | (apply FrSub.cons; exact rfl)))
  (repeat (first | exact HpSub.refl _ | (apply HpSub.consE; (repeat (first | exact P0 | apply P1)); exact rfl) | exact HpSub.nil))
  · simp only; refine ⟨by omega, by omega, by decide, ?_, by decide⟩
    have : ((0 : Int) + 2 ^ 21) * (0 + 2 ^ 21) = 4398046511104 := by decide
    omega
  rintro ⟨r, b, e⟩ ⟨i0, i1, i2, i3, i4⟩
  simp only at i0 i1 i2 i3 i4
  have hP : (1 : Int) ≤ 2 ^ e := Int.pow_pos (by omega)
  have hb : 0 < b → ∃ e', e = e' + 1 ∧ b = 2 ^ e' ∧ (2 : Int) ^ e = 2 * 2 ^ e' ∧ b.tdiv 2 = 2 ^ e' / 2 := fun h => by
    cases e with
    | zero => simp at i2; omega
    | succ e' =>
      have h2 : (2 : Int) ^ (e' + 1) = 2 * 2 ^ e' := by rw [Int.pow_succ, Int.mul_comm]
      have h3 : b = 2 ^ e' := by rw [i2, h2]; omega
      exact ⟨e', rfl, h3, h2, by rw [h3, Int.tdiv_eq_ediv_of_nonneg (by have : (0 : Int) < 2 ^ e' := Int.pow_pos (by omega)
                                                                        omega)]⟩
  have hb0 : 0 ≤ b := by rw [i2]; omega
  have hmm : InR ((r + b) * (r + b)) := by
    have : (r + b) * (r + b) ≤ 2097152 * 2097152 := Int.mul_le_mul (by omega) (by omega) (by omega) (by omega)
    have : 0 ≤ (r + b) * (r + b) := Int.mul_nonneg (by omega) (by omega)
    exact ⟨by omega, by omega⟩
  dsimp only
  repeat' (first | ((with_reducible apply oq_id); first | (apply oq_fn; exact rfl; first | exact trivial | (refine ⟨?_, ?_⟩ <;> omega) | (refine ⟨?_, ?_, ?_⟩ <;> omega) | omega | skip)) | ((with_reducible apply tl_id); first | ((with_reducible apply tl_nil)) | ((with_reducible apply u_q); exact rfl; exact rfl; exact rfl; exact rfl)) | ((with_reducible apply t_id); first | ((with_reducible apply t_seq)) | (apply t_region; kernel_rfl) | ((with_reducible apply t_condD); exact rfl; all_goals first | (intro hp; try (exfalso; omega)) | skip) | ((with_reducible apply t_ret)) | ((with_reducible apply t_skip)) | ((with_reducible apply t_exit)) | ((with_reducible apply t_block))) | with_reducible apply q_thenN | with_reducible apply q_blockN | with_reducible apply q_thenE | ((with_reducible apply q_blockE); exact rfl) | ((with_reducible apply end_ret)) | exact rvs_nil | ((with_reducible apply rvs_cons)) | ((with_reducible apply rv_tmp); exact rfl))
  · obtain ⟨e', rfl, hb1, hb2, hb3⟩ := hb (by assumption)
    refine ⟨(r + b, b.tdiv 2, e'), ⟨by simp only; omega, by assumption, hb3, ?_, by simp only; omega⟩, by simp only; omega, ?_, ?_⟩
    · simp only
      rw [show r + b + 2 ^ e' = r + 2 ^ (e' + 1) by omega]; exact i3
    · (repeat (first | exact FrSub.nil | (apply FrSub.cons; exact rfl)))
    · (repeat (first | exact HpSub.refl _ | (apply HpSub.consE; (repeat (first | exact P0 | apply P1)); exact rfl) | exact HpSub.nil))
  · obtain ⟨e', rfl, hb1, hb2, hb3⟩ := hb (by assumption)
    refine ⟨(r, b.tdiv 2, e'), ⟨i0, i1, hb3, ?_, by simp only; omega⟩, by simp only; omega, ?_, ?_⟩
    · simp only
      rw [← hb1]; omega
    · (repeat (first | exact FrSub.nil | (apply FrSub.cons; exact rfl)))
    · (repeat (first | exact HpSub.refl _ | (apply HpSub.consE; (repeat (first | exact P0 | apply P1)); exact rfl) | exact HpSub.nil))
  · have he : e = 0 := by
      cases e with
      | zero => rfl
      | succ e' =>
        have h2 : (2 : Int) ^ (e' + 1) = 2 * 2 ^ e' := by rw [Int.pow_succ, Int.mul_comm]
        have : (1 : Int) ≤ 2 ^ e' := Int.pow_pos (by omega)
        omega
    subst he
    rw [IsR.rt ⟨i0, i1, by simpa using i3⟩]; rfl


/-- A span that is valid. -/
def fineS (s : Int × Int) : Bool := decide (s.1 ≤ s.2) && (decide (-1099511627776 ≤ s.1) && decide (s.2 ≤ 1099511627776))
theorem fineS_iff (s : Int × Int) : fineS s = true ↔ s.1 ≤ s.2 ∧ -1099511627776 ≤ s.1 ∧ s.2 ≤ 1099511627776 := by
  unfold fineS; simp [Bool.and_eq_true]


theorem within1_calls (n lo hi : Int) (w : World) : Calls Try.prog 145 #[.int .i64 n, .int .i64 lo, .int .i64 hi] w fun e w' => e = .returned (.bool (decide (lo ≤ n ∧ n ≤ hi))) ∧ Ext w w' := by
  refine enterQ (c := cx w 15) Try.func145 rfl rfl rfl rfl ?_
  repeat' (first | ((with_reducible apply oq_id); first | (apply oq_fn; exact rfl; first | exact trivial | (refine ⟨?_, ?_⟩ <;> omega) | (refine ⟨?_, ?_, ?_⟩ <;> omega) | omega | skip)) | ((with_reducible apply tl_id); first | ((with_reducible apply tl_nil)) | ((with_reducible apply u_q); exact rfl; exact rfl; exact rfl; exact rfl) | ((with_reducible apply u_skip); exact rfl; exact rfl; exact rfl) | ((with_reducible apply u_splitD); exact rfl; exact rfl; all_goals first | (intro hp; try (exfalso; omega)) | skip)) | ((with_reducible apply t_id); first | ((with_reducible apply t_seq)) | (apply t_region; kernel_rfl) | ((with_reducible apply t_ret))) | with_reducible apply q_thenN | ((with_reducible apply end_ret)) | exact rvs_nil | ((with_reducible apply rvs_cons)) | ((with_reducible apply rv_tmp); exact rfl))
  all_goals (show Value.bool _ = Value.bool _; congr 1; rw [Bool.eq_iff_iff]; simp; try omega)


theorem valid_calls (s : Int × Int) (w : World) : Calls Try.prog 128 #[.agg #[.int .i64 s.1, .int .i64 s.2]] w fun e w' => e = .returned (.bool (fineS s)) ∧ Ext w w' := by
  refine enterQ (c := cx w 18) Try.func128 rfl rfl rfl rfl ?_
  repeat' (first | ((with_reducible apply oq_id); first | (apply oq_fn; exact rfl; first | exact trivial | (refine ⟨?_, ?_⟩ <;> omega) | (refine ⟨?_, ?_, ?_⟩ <;> omega) | omega | skip) | ((with_reducible apply oq_load); exact rfl; exact rfl) | ((with_reducible apply oq_call (k := 145) (hc := Try.call145)); exact rfl; exact rfl; exact fun D w1 hw1 => within1_calls _ _ _ w1)) | ((with_reducible apply tl_id); first | ((with_reducible apply tl_nil)) | ((with_reducible apply u_q); exact rfl; exact rfl; exact rfl; exact rfl) | ((with_reducible apply u_s); exact rfl; exact rfl; exact rfl) | ((with_reducible apply u_skip); exact rfl; exact rfl; exact rfl) | ((with_reducible apply u_splitD); exact rfl; exact rfl; all_goals first | (intro hp; try (exfalso; omega)) | skip)) | ((with_reducible apply os_id); first | ((with_reducible apply os_x); exact rfl)) | ((with_reducible apply ox_id); first | ((with_reducible apply ox_boxAgg); exact rfl; intro _)) | ((with_reducible apply rd_id); first | (apply Rd.own; (repeat (first | exact P0 | apply P1)); exact rfl; done)) | ((with_reducible apply t_id); first | ((with_reducible apply t_seq)) | (apply t_region; kernel_rfl) | ((with_reducible apply t_ret))) | with_reducible apply q_thenN | ((with_reducible apply end_ret)) | exact rvs_nil | ((with_reducible apply rvs_cons)) | ((with_reducible apply rv_tmp); exact rfl))
  all_goals (show Value.bool _ = Value.bool _; congr 1; rw [Bool.eq_iff_iff, fineS_iff]; simp; try omega)


theorem all_not {l : List (Int × Int)} {k : Nat} {x : Int × Int} (h : l[k]? = some x) (hx : fineS x = false) : l.all fineS = false := by
  rw [Bool.eq_false_iff, Ne, List.all_eq_true]
  intro h2
  have := h2 x (List.mem_of_getElem? h)
  rw [hx] at this
  cases this
theorem fine_calls (A : Option Addr) (n c : Nat) (l : List (Int × Int)) (w : World) (hr : RdS w 2 A n (l.map spanCells)) (hn : n ≤ 1000000) : Calls Try.prog 121 #[.slice A n c] w fun e w' => e = .returned (.bool (l.all fineS)) ∧ Ext w w' := by
  have hl := hr.len
  simp only [List.length_map] at hl
  refine enterQ (c := cx w 27) Try.func121 rfl rfl rfl rfl ?_
  repeat' (first | ((with_reducible apply oq_id); first | (apply oq_fn; exact rfl; first | exact trivial | (refine ⟨?_, ?_⟩ <;> omega) | (refine ⟨?_, ?_, ?_⟩ <;> omega) | omega | skip)) | ((with_reducible apply tl_id); first | ((with_reducible apply tl_nil)) | ((with_reducible apply u_q); exact rfl; exact rfl; exact rfl; exact rfl)) | ((with_reducible apply t_id); first | ((with_reducible apply t_seq)) | (apply t_region; kernel_rfl) | ((with_reducible apply t_block))) | with_reducible apply q_thenN)
  apply t_loopK (ι := Nat) [5, 6] (fun k => [(7, .int .i64 (k : Nat))]) (fun _ => []) (fun k => k ≤ n ∧ ∀ s ∈ l.take k, fineS s = true) (fun k => n - k) (0)
  (repeat (first | exact KeepF.nil | (apply KeepF.cons; exact rfl) | apply KeepF.skip))
  (repeat (first | exact FrSub.nil | (apply FrSub.cons; exact rfl)))
  (repeat (first | exact HpSub.refl _ | (apply HpSub.consE; (repeat (first | exact P0 | apply P1)); exact rfl) | exact HpSub.nil))
  · exact ⟨by omega, by simp⟩
  intro k hk
  try simp only [List.cons_append, List.nil_append]
  by_cases hlt : k < n
  · obtain ⟨b1, o1, x, rfl, _, hkx2, c0, c1⟩ := span_read hr hlt
    repeat' (first | ((with_reducible apply oq_id); first | (apply oq_fn; exact rfl; first | exact trivial | (refine ⟨?_, ?_⟩ <;> omega) | (refine ⟨?_, ?_, ?_⟩ <;> omega) | omega | skip) | ((with_reducible apply oq_load); exact rfl; exact rfl) | ((with_reducible apply oq_loadAgg); exact rfl; exact rfl)) | ((with_reducible apply tl_id); first | ((with_reducible apply tl_nil)) | ((with_reducible apply u_q); exact rfl; exact rfl; exact rfl; exact rfl) | ((with_reducible apply u_s0); exact rfl; exact rfl) | ((with_reducible apply u_s); exact rfl; exact rfl; exact rfl) | ((with_reducible apply u_skip); exact rfl; exact rfl; exact rfl) | ((with_reducible apply u_splitD); exact rfl; exact rfl; all_goals first | (intro hp; try (exfalso; omega)) | skip)) | ((with_reducible apply os_id); first | ((with_reducible apply os_x); exact rfl) | ((with_reducible apply os_storeAgg); exact rfl; exact rfl; exact rfl; exact rfl; exact rfl)) | ((with_reducible apply ox_id); first | ((with_reducible apply ox_alloc); exact rfl; intro _)) | ((with_reducible apply rd_id); first | (apply Rd.own; (repeat (first | exact P0 | apply P1)); exact rfl; done) | (apply Rd.old; (first | (with_reducible assumption) | exact c0 | exact c1); first | exact List.not_mem_nil)) | ((with_reducible apply t_id); first | ((with_reducible apply t_seq)) | (apply t_region; kernel_rfl) | ((with_reducible apply t_condT); exact rfl) | ((with_reducible apply t_condD); exact rfl; all_goals first | (intro hp; try (exfalso; omega)) | skip) | ((with_reducible apply t_ret)) | ((with_reducible apply t_skip)) | ((with_reducible apply t_block))) | with_reducible apply q_thenN | with_reducible apply q_thenR | with_reducible apply q_blockR | with_reducible apply q_blockN | exact P0 | exact Rdn.zero | apply Rdn.succ | ((with_reducible apply Norm.nil); exact rfl) | ((with_reducible apply Norm.cons); exact rfl) | ((with_reducible apply end_ret)) | exact rvs_nil | ((with_reducible apply rvs_cons)) | ((with_reducible apply rv_tmp); exact rfl) | exact Nat.le_of_ble_eq_true rfl)
    iterate 3 (rw [all_not hkx2 (by rw [Bool.eq_false_iff, Ne, fineS_iff]; omega)]; rfl)
    have hx : fineS x = true := by rw [fineS_iff]; omega
    refine ⟨k + 1, ⟨by omega, fun s hs => ?_⟩, by omega, ?_, ?_⟩
    · rw [List.take_add_one, hkx2, List.mem_append] at hs
      rcases hs with hs | hs
      · exact hk.2 s hs
      · obtain rfl : s = x := by simpa using hs
        exact hx
    · try simp only [List.cons_append, List.nil_append]
      (repeat (first | exact FrSub.nil | (apply FrSub.cons; exact rfl)))
    · try simp only [List.cons_append, List.nil_append]
      (repeat (first | exact HpSub.refl _ | (apply HpSub.consE; (repeat (first | exact P0 | apply P1)); exact rfl) | exact HpSub.nil))
  · have hkn : l.take k = l := List.take_of_length_le (by omega)
    repeat' (first | ((with_reducible apply oq_id); first | (apply oq_fn; exact rfl; first | exact trivial | (refine ⟨?_, ?_⟩ <;> omega) | (refine ⟨?_, ?_, ?_⟩ <;> omega) | omega | skip)) | ((with_reducible apply tl_id); first | ((with_reducible apply tl_nil)) | ((with_reducible apply u_q); exact rfl; exact rfl; exact rfl; exact rfl)) | ((with_reducible apply t_id); first | ((with_reducible apply t_seq)) | (apply t_region; kernel_rfl) | ((with_reducible apply t_condD); exact rfl; all_goals first | (intro hp; try (exfalso; omega)) | skip) | ((with_reducible apply t_ret)) | ((with_reducible apply t_exit))) | with_reducible apply q_thenN | with_reducible apply q_thenE | ((with_reducible apply q_blockE); exact rfl) | ((with_reducible apply end_ret)) | exact rvs_nil | ((with_reducible apply rvs_cons)) | ((with_reducible apply rv_tmp); exact rfl))
    rw [show l.all fineS = true from List.all_eq_true.2 (fun s hs => hk.2 s (by rw [hkn]; exact hs))]
    rfl


theorem fine1 {w0 : World} {M : Ms} {H H' : Hp} {w : World} {g : Nat} {a b : Int} {tg : Tg} {cp : Nat} {q : Bool} (hq : fineS (a, b) = q) (h : Has w0 M H w) (p : Pick H g [.int .i64 a, .int .i64 b] tg H') :
    Calls Try.prog 121 #[.slice (some ⟨g, 0, none⟩) 1 cp] w fun e w' => e = .returned (.bool q) ∧ Ext w w' := by
  have := fine_calls (some ⟨g, 0, none⟩) 1 cp [(a, b)] w (Blk.rows (k := 2) (rows := [(a, b)].map spanCells) (h.blk _ p.mem).2 rfl (by simp [spanCells])) (by omega)
  simp only [List.all_cons, List.all_nil, Bool.and_true, hq] at this
  exact this
theorem fine2 {w0 : World} {M : Ms} {H H' : Hp} {w : World} {g : Nat} {a b a' b' : Int} {tg : Tg} {cp : Nat} {q : Bool} (hq : (fineS (a, b) && fineS (a', b')) = q) (h : Has w0 M H w) (p : Pick H g [.int .i64 a, .int .i64 b, .int .i64 a', .int .i64 b'] tg H') :
    Calls Try.prog 121 #[.slice (some ⟨g, 0, none⟩) 2 cp] w fun e w' => e = .returned (.bool q) ∧ Ext w w' := by
  have := fine_calls (some ⟨g, 0, none⟩) 2 cp [(a, b), (a', b')] w (Blk.rows (k := 2) (rows := [(a, b), (a', b')].map spanCells) (h.blk _ p.mem).2 rfl (by simp [spanCells])) (by omega)
  simp only [List.all_cons, List.all_nil, Bool.and_true, hq] at this
  exact this
theorem check_calls (a b : Int) (w : World) : Calls Try.prog 55 #[.agg #[.int .i64 a, .int .i64 b]] w fun e w' => e = .returned (.int .i64 (if fineS (a, b) then 0 else 10)) ∧ Ext w w' := by
  obtain ⟨q, hq⟩ : ∃ q, fineS (a, b) = q := ⟨_, rfl⟩
  rw [hq]
  refine enterQ (c := cx w 7) Try.func55 rfl rfl rfl rfl ?_
  repeat' (first | ((with_reducible apply oq_id); first | (apply oq_fn; exact rfl; first | exact trivial | (refine ⟨?_, ?_⟩ <;> omega) | (refine ⟨?_, ?_, ?_⟩ <;> omega) | omega | skip) | ((with_reducible apply oq_loadAgg); exact rfl; exact rfl) | ((with_reducible apply oq_call (k := 121) (hc := Try.call121)); exact rfl; exact rfl; exact fun D w1 hw1 => fine1 hq hw1 (by (repeat (first | exact P0 | apply P1))))) | ((with_reducible apply tl_id); first | ((with_reducible apply tl_nil)) | ((with_reducible apply u_q); exact rfl; exact rfl; exact rfl; exact rfl) | ((with_reducible apply u_s); exact rfl; exact rfl; exact rfl)) | ((with_reducible apply os_id); first | ((with_reducible apply os_x); exact rfl)) | ((with_reducible apply ox_id); first | ((with_reducible apply ox_boxAgg); exact rfl; intro _) | ((with_reducible apply ox_buildSlice2); exact rfl; exact rfl; exact rfl; exact rfl; exact rfl; exact rfl; intro _)) | ((with_reducible apply rd_id); first | (apply Rd.own; (repeat (first | exact P0 | apply P1)); exact rfl; done)) | ((with_reducible apply t_id); first | ((with_reducible apply t_seq)) | (apply t_region; kernel_rfl) | ((with_reducible apply t_cond); exact rfl; all_goals first | intro hp | skip) | ((with_reducible apply t_ret)) | ((with_reducible apply t_skip))) | with_reducible apply q_thenN | with_reducible apply q_thenR | exact Rdn.zero | apply Rdn.succ | ((with_reducible apply end_ret)) | exact rvs_nil | ((with_reducible apply rvs_cons)) | ((with_reducible apply rv_tmp); exact rfl))
  all_goals (cases q <;> first | rfl | simp_all)


/-- The root of a span: bounds, then the error. -/
noncomputable def rootV (a b : Int) : Int × Int × Int := if fineS (a, b) then (if a < 0 then (0, 0, 2) else (rt a, (if rt b * rt b = b then rt b else rt b + 1), 0)) else (0, 0, 10)
theorem isR_ex : ∀ (n : Nat), ∃ r, IsR (n : Int) r
  | 0 => ⟨0, by omega, by omega, by omega⟩
  | n + 1 => by
    obtain ⟨r, h1, h2, h3⟩ := isR_ex n
    by_cases h : (r + 1) * (r + 1) ≤ ((n + 1 : Nat) : Int)
    · refine ⟨r + 1, by omega, h, ?_⟩
      have : (r + 1 + 1) * (r + 1 + 1) = (r + 1) * (r + 1) + 2 * (r + 1) + 1 := by
        simp only [Int.mul_add, Int.add_mul, Int.mul_one, Int.one_mul]; omega
      omega
    · exact ⟨r, h1, by omega, by omega⟩
theorem rt_spec (n : Int) (h0 : 0 ≤ n) : IsR n (rt n) := by
  obtain ⟨r, hr⟩ := isR_ex n.toNat
  rw [Int.toNat_of_nonneg h0] at hr
  rw [hr.rt]
  exact hr
theorem boundRoot_calls (a b : Int) (w : World) : Calls Try.prog 111 #[.agg #[.int .i64 a, .int .i64 b]] w fun e w' => e = .returned (.tuple #[.agg #[.int .i64 (rootV a b).1, .int .i64 (rootV a b).2.1], .int .i64 (rootV a b).2.2]) ∧ Ext w w' := by
  obtain ⟨q, hq⟩ : ∃ q, fineS (a, b) = q := ⟨_, rfl⟩
  unfold rootV
  cases q with
  | false =>
    rw [hq]
    refine enterQ (c := cx w 36) Try.func111 rfl rfl rfl rfl ?_
    repeat' (first | ((with_reducible apply oq_id); first | (apply oq_fn; exact rfl; first | exact trivial | (refine ⟨?_, ?_⟩ <;> omega) | (refine ⟨?_, ?_, ?_⟩ <;> omega) | omega | skip) | ((with_reducible apply oq_loadAgg); exact rfl; exact rfl) | ((with_reducible apply oq_call (k := 121) (hc := Try.call121)); exact rfl; exact rfl; exact fun D w1 hw1 => fine1 hq hw1 (by (repeat (first | exact P0 | apply P1)))) | ((with_reducible apply oq_build); exact rfl; exact rfl; exact rfl)) | ((with_reducible apply tl_id); first | ((with_reducible apply tl_nil)) | ((with_reducible apply u_q); exact rfl; exact rfl; exact rfl; exact rfl) | ((with_reducible apply u_s0); exact rfl; exact rfl) | ((with_reducible apply u_s); exact rfl; exact rfl; exact rfl)) | ((with_reducible apply os_id); first | ((with_reducible apply os_x); exact rfl) | ((with_reducible apply os_storeAgg); exact rfl; exact rfl; exact rfl; exact rfl; exact rfl)) | ((with_reducible apply ox_id); first | ((with_reducible apply ox_alloc); exact rfl; intro _) | ((with_reducible apply ox_boxAgg); exact rfl; intro _) | ((with_reducible apply ox_buildSlice2); exact rfl; exact rfl; exact rfl; exact rfl; exact rfl; exact rfl; intro _)) | ((with_reducible apply rd_id); first | (apply Rd.own; (repeat (first | exact P0 | apply P1)); exact rfl; done)) | ((with_reducible apply t_id); first | ((with_reducible apply t_seq)) | (apply t_region; kernel_rfl) | ((with_reducible apply t_condT); exact rfl) | ((with_reducible apply t_ret)) | ((with_reducible apply t_block))) | with_reducible apply q_thenN | with_reducible apply q_thenR | with_reducible apply q_blockR | exact P0 | ((with_reducible apply P1)) | exact Rdn.zero | apply Rdn.succ | ((with_reducible apply Norm.nil); exact rfl) | ((with_reducible apply Norm.cons); exact rfl) | ((with_reducible apply end_ret)) | exact rvs_nil | ((with_reducible apply rvs_cons)) | ((with_reducible apply rv_tmp); exact rfl) | ((with_reducible apply rv_cellAgg); exact rfl; exact rfl) | exact Nat.le_of_ble_eq_true rfl)
    all_goals rfl
  | true =>
    have hf := (fineS_iff _).1 hq
    simp only at hf
    rw [hq, if_pos rfl]
    by_cases ha : a < 0
    · rw [if_pos ha]
      refine enterQ (c := cx w 36) Try.func111 rfl rfl rfl rfl ?_
      repeat' (first | ((with_reducible apply oq_id); first | (apply oq_fn; exact rfl; first | exact trivial | (refine ⟨?_, ?_⟩ <;> omega) | (refine ⟨?_, ?_, ?_⟩ <;> omega) | omega | skip) | ((with_reducible apply oq_load); exact rfl; exact rfl) | ((with_reducible apply oq_loadAgg); exact rfl; exact rfl) | ((with_reducible apply oq_call (k := 121) (hc := Try.call121)); exact rfl; exact rfl; exact fun D w1 hw1 => fine1 hq hw1 (by (repeat (first | exact P0 | apply P1)))) | ((with_reducible apply oq_build); exact rfl; exact rfl; exact rfl)) | ((with_reducible apply tl_id); first | ((with_reducible apply tl_nil)) | ((with_reducible apply u_q); exact rfl; exact rfl; exact rfl; exact rfl) | ((with_reducible apply u_s0); exact rfl; exact rfl) | ((with_reducible apply u_s); exact rfl; exact rfl; exact rfl)) | ((with_reducible apply os_id); first | ((with_reducible apply os_x); exact rfl) | ((with_reducible apply os_storeAgg); exact rfl; exact rfl; exact rfl; exact rfl; exact rfl)) | ((with_reducible apply ox_id); first | ((with_reducible apply ox_alloc); exact rfl; intro _) | ((with_reducible apply ox_boxAgg); exact rfl; intro _) | ((with_reducible apply ox_buildSlice2); exact rfl; exact rfl; exact rfl; exact rfl; exact rfl; exact rfl; intro _)) | ((with_reducible apply rd_id); first | (apply Rd.own; (repeat (first | exact P0 | apply P1)); exact rfl; done)) | ((with_reducible apply t_id); first | ((with_reducible apply t_seq)) | (apply t_region; kernel_rfl) | ((with_reducible apply t_condF); exact rfl) | ((with_reducible apply t_condD); exact rfl; all_goals first | (intro hp; try (exfalso; omega)) | skip) | ((with_reducible apply t_ret)) | ((with_reducible apply t_block))) | with_reducible apply q_thenN | with_reducible apply q_thenR | with_reducible apply q_blockR | exact P0 | ((with_reducible apply P1)) | exact Rdn.zero | apply Rdn.succ | ((with_reducible apply Norm.nil); exact rfl) | ((with_reducible apply Norm.cons); exact rfl) | ((with_reducible apply end_ret)) | exact rvs_nil | ((with_reducible apply rvs_cons)) | ((with_reducible apply rv_tmp); exact rfl) | ((with_reducible apply rv_cellAgg); exact rfl; exact rfl) | exact Nat.le_of_ble_eq_true rfl)
      all_goals rfl
    · rw [if_neg ha]
      have hb := rt_spec b (by omega)
      have hbb : rt b ≤ 1048576 := by
        rcases Int.lt_or_le 1048576 (rt b) with h | h
        · have : 1048577 * 1048577 ≤ rt b * rt b := Int.mul_le_mul (by omega) (by omega) (by omega) (by omega)
          have := hb.2.1
          omega
        · exact h
      have hb0 : 0 ≤ rt b := hb.1
      have hmm : InR (rt b * rt b) := by
        have := Int.mul_nonneg hb0 hb0
        have := hb.2.1
        exact ⟨by omega, by omega⟩
      refine enterQ (c := cx w 36) Try.func111 rfl rfl rfl rfl ?_
      repeat' (first | ((with_reducible apply oq_id); first | (apply oq_fn; exact rfl; first | exact trivial | (refine ⟨?_, ?_⟩ <;> omega) | (refine ⟨?_, ?_, ?_⟩ <;> omega) | omega | skip) | ((with_reducible apply oq_load); exact rfl; exact rfl) | ((with_reducible apply oq_loadAgg); exact rfl; exact rfl) | ((with_reducible apply oq_call (k := 121) (hc := Try.call121)); exact rfl; exact rfl; exact fun D w1 hw1 => fine1 hq hw1 (by (repeat (first | exact P0 | apply P1)))) | ((with_reducible apply oq_call (k := 136) (hc := Try.call136)); exact rfl; exact rfl; exact fun D w1 hw1 => root_calls _ (by omega) (by omega) w1) | ((with_reducible apply oq_build); exact rfl; exact rfl; exact rfl)) | ((with_reducible apply tl_id); first | ((with_reducible apply tl_nil)) | ((with_reducible apply u_q); exact rfl; exact rfl; exact rfl; exact rfl) | ((with_reducible apply u_s0); exact rfl; exact rfl) | ((with_reducible apply u_s); exact rfl; exact rfl; exact rfl)) | ((with_reducible apply gx_id); first | ((with_reducible apply v_nil)) | ((with_reducible apply v_q); exact rfl; exact rfl; exact rfl)) | ((with_reducible apply os_id); first | ((with_reducible apply os_x); exact rfl) | ((with_reducible apply os_store); exact rfl; exact rfl; exact rfl; exact rfl) | ((with_reducible apply os_storeAgg); exact rfl; exact rfl; exact rfl; exact rfl; exact rfl)) | ((with_reducible apply ox_id); first | ((with_reducible apply ox_alloc); exact rfl; intro _) | ((with_reducible apply ox_boxAgg); exact rfl; intro _) | ((with_reducible apply ox_buildSlice2); exact rfl; exact rfl; exact rfl; exact rfl; exact rfl; exact rfl; intro _)) | ((with_reducible apply ai_id); first | ((with_reducible apply ai_x); exact rfl; exact rfl; exact rfl; exact rfl; exact rfl) | ((with_reducible apply ai_n0); exact rfl; exact rfl; exact rfl)) | ((with_reducible apply al_keep); focus (repeat (first | exact HpSub.refl _ | (apply HpSub.cons; (repeat (first | exact P0 | apply P1))) | exact HpSub.nil))) | ((with_reducible apply rd_id); first | (apply Rd.own; (repeat (first | exact P0 | apply P1)); exact rfl; done)) | ((with_reducible apply t_id); first | ((with_reducible apply t_seq)) | (apply t_region; kernel_rfl) | ((with_reducible apply t_condF); exact rfl) | ((with_reducible apply t_condD); exact rfl; all_goals first | (intro hp; try (exfalso; omega)) | skip) | ((with_reducible apply t_condN); exact rfl; all_goals first | (intro hp; try (exfalso; omega)) | skip) | ((with_reducible apply t_ret)) | ((with_reducible apply t_skip)) | ((with_reducible apply t_block))) | with_reducible apply q_thenN | with_reducible apply q_blockN | exact P0 | ((with_reducible apply P1)) | exact Rdn.zero | apply Rdn.succ | ((with_reducible apply Norm.nil); exact rfl) | ((with_reducible apply Norm.cons); exact rfl) | ((with_reducible apply end_ret)) | exact rvs_nil | ((with_reducible apply rvs_cons)) | ((with_reducible apply rv_tmp); exact rfl) | ((with_reducible apply rv_cellAgg); exact rfl; exact rfl) | (apply t_mix (id := 5) [0, 1, 2, 3, 4, 5, 6] 2 #[false, false, false, false, false, false, false, false, false]; kernel_rfl; kernel_rfl; exact rfl) | ((with_reducible apply al_id); first | (apply al_done; decide +kernel) | (apply al_one 7; decide +kernel) | (apply al_one 8; decide +kernel)) | exact Nat.le_of_ble_eq_true rfl)
      · rw [if_neg (by assumption)]; rfl
      · rw [if_pos (by assumption)]; rfl


theorem refRoot_calls (a b : Int) (w : World) : Calls Try.prog 114 #[.agg #[.int .i64 a, .int .i64 b]] w fun e w' => e = .returned (.tuple #[.agg #[.int .i64 (rootV a b).1, .int .i64 (rootV a b).2.1], .int .i64 (rootV a b).2.2]) ∧ Ext w w' := by
  obtain ⟨q, hq⟩ : ∃ q, fineS (a, b) = q := ⟨_, rfl⟩
  have HV : ∀ w1, Calls Try.prog 128 #[.agg #[.int .i64 a, .int .i64 b]] w1 fun e w' => e = .returned (.bool q) ∧ Ext w1 w' := fun w1 => hq ▸ valid_calls (a, b) w1
  unfold rootV
  rw [hq]
  cases q with
  | false =>
    refine enterQ (c := cx w 29) Try.func114 rfl rfl rfl rfl ?_
    repeat' (first | ((with_reducible apply oq_id); first | (apply oq_fn; exact rfl; first | exact trivial | (refine ⟨?_, ?_⟩ <;> omega) | (refine ⟨?_, ?_, ?_⟩ <;> omega) | omega | skip) | ((with_reducible apply oq_loadAgg); exact rfl; exact rfl) | ((with_reducible apply oq_call (k := 128) (hc := Try.call128)); exact rfl; exact rfl; exact fun D w1 hw1 => HV w1) | ((with_reducible apply oq_build); exact rfl; exact rfl; exact rfl)) | ((with_reducible apply tl_id); first | ((with_reducible apply tl_nil)) | ((with_reducible apply u_q); exact rfl; exact rfl; exact rfl; exact rfl) | ((with_reducible apply u_s0); exact rfl; exact rfl) | ((with_reducible apply u_s); exact rfl; exact rfl; exact rfl)) | ((with_reducible apply os_id); first | ((with_reducible apply os_x); exact rfl) | ((with_reducible apply os_storeAgg); exact rfl; exact rfl; exact rfl; exact rfl; exact rfl)) | ((with_reducible apply ox_id); first | ((with_reducible apply ox_alloc); exact rfl; intro _) | ((with_reducible apply ox_boxAgg); exact rfl; intro _)) | ((with_reducible apply rd_id); first | (apply Rd.own; (repeat (first | exact P0 | apply P1)); exact rfl; done)) | ((with_reducible apply t_id); first | ((with_reducible apply t_seq)) | (apply t_region; kernel_rfl) | ((with_reducible apply t_condT); exact rfl) | ((with_reducible apply t_ret))) | with_reducible apply q_thenN | with_reducible apply q_thenR | exact P0 | exact Rdn.zero | apply Rdn.succ | ((with_reducible apply Norm.nil); exact rfl) | ((with_reducible apply Norm.cons); exact rfl) | ((with_reducible apply end_ret)) | exact rvs_nil | ((with_reducible apply rvs_cons)) | ((with_reducible apply rv_tmp); exact rfl) | ((with_reducible apply rv_cellAgg); exact rfl; exact rfl) | exact Nat.le_of_ble_eq_true rfl)
    all_goals rfl
  | true =>
    have hf := (fineS_iff _).1 hq
    simp only at hf
    rw [if_pos rfl]
    by_cases ha : a < 0
    · rw [if_pos ha]
      refine enterQ (c := cx w 29) Try.func114 rfl rfl rfl rfl ?_
      repeat' (first | ((with_reducible apply oq_id); first | (apply oq_fn; exact rfl; first | exact trivial | (refine ⟨?_, ?_⟩ <;> omega) | (refine ⟨?_, ?_, ?_⟩ <;> omega) | omega | skip) | ((with_reducible apply oq_load); exact rfl; exact rfl) | ((with_reducible apply oq_loadAgg); exact rfl; exact rfl) | ((with_reducible apply oq_call (k := 128) (hc := Try.call128)); exact rfl; exact rfl; exact fun D w1 hw1 => HV w1) | ((with_reducible apply oq_build); exact rfl; exact rfl; exact rfl)) | ((with_reducible apply tl_id); first | ((with_reducible apply tl_nil)) | ((with_reducible apply u_q); exact rfl; exact rfl; exact rfl; exact rfl) | ((with_reducible apply u_s0); exact rfl; exact rfl) | ((with_reducible apply u_s); exact rfl; exact rfl; exact rfl)) | ((with_reducible apply os_id); first | ((with_reducible apply os_x); exact rfl) | ((with_reducible apply os_storeAgg); exact rfl; exact rfl; exact rfl; exact rfl; exact rfl)) | ((with_reducible apply ox_id); first | ((with_reducible apply ox_alloc); exact rfl; intro _) | ((with_reducible apply ox_boxAgg); exact rfl; intro _)) | ((with_reducible apply rd_id); first | (apply Rd.own; (repeat (first | exact P0 | apply P1)); exact rfl; done)) | ((with_reducible apply t_id); first | ((with_reducible apply t_seq)) | (apply t_region; kernel_rfl) | ((with_reducible apply t_condF); exact rfl) | ((with_reducible apply t_condD); exact rfl; all_goals first | (intro hp; try (exfalso; omega)) | skip) | ((with_reducible apply t_ret)) | ((with_reducible apply t_skip))) | with_reducible apply q_thenN | with_reducible apply q_thenR | exact P0 | exact Rdn.zero | apply Rdn.succ | ((with_reducible apply Norm.nil); exact rfl) | ((with_reducible apply Norm.cons); exact rfl) | ((with_reducible apply end_ret)) | exact rvs_nil | ((with_reducible apply rvs_cons)) | ((with_reducible apply rv_tmp); exact rfl) | ((with_reducible apply rv_cellAgg); exact rfl; exact rfl) | exact Nat.le_of_ble_eq_true rfl)
      all_goals rfl
    · rw [if_neg ha]
      have hb := rt_spec b (by omega)
      have hbb : rt b ≤ 1048576 := by
        rcases Int.lt_or_le 1048576 (rt b) with h | h
        · have : 1048577 * 1048577 ≤ rt b * rt b := Int.mul_le_mul (by omega) (by omega) (by omega) (by omega)
          have := hb.2.1
          omega
        · exact h
      have hb0 : 0 ≤ rt b := hb.1
      have hb1 := hb.2.1
      have hmm : InR (rt b * rt b) := by
        have := Int.mul_nonneg hb0 hb0
        exact ⟨by omega, by omega⟩
      refine enterQ (c := cx w 29) Try.func114 rfl rfl rfl rfl ?_
      repeat' (first | ((with_reducible apply oq_id); first | (apply oq_fn; exact rfl; first | exact trivial | (refine ⟨?_, ?_⟩ <;> omega) | (refine ⟨?_, ?_, ?_⟩ <;> omega) | omega | skip) | ((with_reducible apply oq_load); exact rfl; exact rfl) | ((with_reducible apply oq_loadAgg); exact rfl; exact rfl) | ((with_reducible apply oq_call (k := 128) (hc := Try.call128)); exact rfl; exact rfl; exact fun D w1 hw1 => HV w1) | ((with_reducible apply oq_call (k := 137) (hc := Try.call137)); exact rfl; exact rfl; exact fun D w1 hw1 => sqrt_calls _ (by omega) (by omega) w1) | ((with_reducible apply oq_build); exact rfl; exact rfl; exact rfl)) | ((with_reducible apply tl_id); first | ((with_reducible apply tl_nil)) | ((with_reducible apply u_q); exact rfl; exact rfl; exact rfl; exact rfl) | ((with_reducible apply u_s0); exact rfl; exact rfl) | ((with_reducible apply u_s); exact rfl; exact rfl; exact rfl)) | ((with_reducible apply os_id); first | ((with_reducible apply os_x); exact rfl) | ((with_reducible apply os_storeAgg); exact rfl; exact rfl; exact rfl; exact rfl; exact rfl)) | ((with_reducible apply ox_id); first | ((with_reducible apply ox_alloc); exact rfl; intro _) | ((with_reducible apply ox_boxAgg); exact rfl; intro _)) | ((with_reducible apply rd_id); first | (apply Rd.own; (repeat (first | exact P0 | apply P1)); exact rfl; done)) | ((with_reducible apply t_id); first | ((with_reducible apply t_seq)) | (apply t_region; kernel_rfl) | ((with_reducible apply t_condF); exact rfl) | ((with_reducible apply t_condD); exact rfl; all_goals first | (intro hp; try (exfalso; omega)) | skip) | ((with_reducible apply t_ret)) | ((with_reducible apply t_skip))) | with_reducible apply q_thenN | exact P0 | exact Rdn.zero | apply Rdn.succ | ((with_reducible apply Norm.nil); exact rfl) | ((with_reducible apply Norm.cons); exact rfl) | ((with_reducible apply end_ret)) | exact rvs_nil | ((with_reducible apply rvs_cons)) | ((with_reducible apply rv_tmp); exact rfl) | ((with_reducible apply rv_cellAgg); exact rfl; exact rfl) | exact Nat.le_of_ble_eq_true rfl)
      · rw [if_neg (by omega)]; rfl
      · rw [if_pos (by omega)]; rfl


/-- The error of a wind that is asked about. -/
def windE (a b c d : Int) : Int := if fineS (a, b) && fineS (c, d) then (if allFrom (-2000) 2000 [a, b, c, d] then 0 else 2) else 10
theorem fromS4 {w0 : World} {M : Ms} {H H' : Hp} {w : World} {g : Nat} {a b c d lo hi : Int} {tg : Tg} {cp : Nat} {q : Bool} (hq : allFrom lo hi [a, b, c, d] = q) (h : Has w0 M H w) (p : Pick H g [.int .i64 a, .int .i64 b, .int .i64 c, .int .i64 d] tg H') :
    Calls Try.prog 71 #[.int .i64 lo, .int .i64 hi, .slice (some ⟨g, 0, none⟩) 4 cp] w fun e w' => e = .returned (.bool q) ∧ Ext w w' :=
  hq ▸ from_calls lo hi (some ⟨g, 0, none⟩) 4 cp [a, b, c, d] w (Blk.rows (k := 1) (rows := [a, b, c, d].map fun z => [Value.int .i64 z]) (h.blk _ p.mem).2 rfl (by simp)) (by omega)


theorem checkWind_calls (a b c d : Int) (w : World) : Calls Try.prog 110 #[.agg #[.int .i64 a, .int .i64 b, .int .i64 c, .int .i64 d]] w fun e w' => e = .returned (.int .i64 (windE a b c d)) ∧ Ext w w' := by
  obtain ⟨q1, h1⟩ : ∃ q, fineS (a, b) = q := ⟨_, rfl⟩
  obtain ⟨q2, h2⟩ : ∃ q, fineS (c, d) = q := ⟨_, rfl⟩
  obtain ⟨q3, h3⟩ : ∃ q, allFrom (-2000) 2000 [a, b, c, d] = q := ⟨_, rfl⟩
  have H1 := fun w1 => check_calls a b w1
  have H2 := fun w1 => check_calls c d w1
  rw [h1] at H1
  rw [h2] at H2
  unfold windE
  rw [h1, h2, h3]
  refine enterQ (c := cx w 35) Try.func110 rfl rfl rfl rfl ?_
  repeat' (first | ((with_reducible apply oq_id); first | (apply oq_fn; exact rfl; first | exact trivial | (refine ⟨?_, ?_⟩ <;> omega) | (refine ⟨?_, ?_, ?_⟩ <;> omega) | omega | skip) | ((with_reducible apply oq_loadAgg); exact rfl; exact rfl) | ((with_reducible apply oq_buildA); exact rfl; exact rfl; exact rfl; exact rfl)) | ((with_reducible apply tl_id); first | ((with_reducible apply tl_nil)) | ((with_reducible apply u_q); exact rfl; exact rfl; exact rfl; exact rfl) | ((with_reducible apply u_s); exact rfl; exact rfl; exact rfl)) | ((with_reducible apply os_id); first | ((with_reducible apply os_x); exact rfl)) | ((with_reducible apply ox_id); first | ((with_reducible apply ox_boxAgg); exact rfl; intro _)) | ((with_reducible apply rd_id); first | (apply Rd.own; (repeat (first | exact P0 | apply P1)); exact rfl; done)) | ((with_reducible apply t_id); first | ((with_reducible apply t_seq)) | (apply t_region; kernel_rfl) | ((with_reducible apply t_block))) | with_reducible apply q_thenN | exact Rdn.zero | apply Rdn.succ | ((with_reducible apply Norm.nil); exact rfl) | ((with_reducible apply Norm.cons); exact rfl))
  apply t_loopK (ι := Nat) [1, 10, 20, 21, 22, 23, 24, 25, 26, 27, 28, 29, 30, 31, 32, 33, 34] (fun k => [(11, .int .i64 (k : Nat))]) (fun _ => []) (fun k => k ≤ 2 ∧ (1 ≤ k → q1 = true) ∧ (2 ≤ k → q2 = true)) (fun k => 2 - k) (0)
  (repeat (first | exact KeepF.nil | (apply KeepF.cons; exact rfl) | apply KeepF.skip))
  (repeat (first | exact FrSub.nil | (apply FrSub.cons; exact rfl)))
  (repeat (first | exact HpSub.refl _ | (apply HpSub.consE; (repeat (first | exact P0 | apply P1)); exact rfl) | exact HpSub.nil))
  · simp
  rintro k ⟨k0, k1, k2⟩
  try simp only [List.cons_append, List.nil_append]
  have hk : k = 0 ∨ k = 1 ∨ k = 2 := by omega
  rcases hk with rfl | rfl | rfl
  · cases q1 with
    | false =>
      simp only [Bool.false_eq_true, if_false] at H1
      repeat' (first | ((with_reducible apply oq_id); first | (apply oq_fn; exact rfl; first | exact trivial | (refine ⟨?_, ?_⟩ <;> omega) | (refine ⟨?_, ?_, ?_⟩ <;> omega) | omega | skip) | ((with_reducible apply oq_loadAgg); exact rfl; exact rfl) | ((with_reducible apply oq_call (k := 55) (hc := Try.call55)); exact rfl; exact rfl; exact fun D w1 hw1 => H1 w1) | ((with_reducible apply oq_indexAgg); exact rfl; exact rfl; exact rfl; exact rfl)) | ((with_reducible apply tl_id); first | ((with_reducible apply tl_nil)) | ((with_reducible apply u_q); exact rfl; exact rfl; exact rfl; exact rfl) | ((with_reducible apply u_s0); exact rfl; exact rfl) | ((with_reducible apply u_s); exact rfl; exact rfl; exact rfl)) | ((with_reducible apply os_id); first | ((with_reducible apply os_x); exact rfl) | ((with_reducible apply os_storeAgg); exact rfl; exact rfl; exact rfl; exact rfl; exact rfl)) | ((with_reducible apply ox_id); first | ((with_reducible apply ox_alloc); exact rfl; intro _)) | ((with_reducible apply rd_id); first | (apply Rd.own; (repeat (first | exact P0 | apply P1)); exact rfl; done)) | ((with_reducible apply t_id); first | ((with_reducible apply t_seq)) | (apply t_region; kernel_rfl) | ((with_reducible apply t_condT); exact rfl) | ((with_reducible apply t_ret)) | ((with_reducible apply t_skip)) | ((with_reducible apply t_block))) | with_reducible apply q_thenN | with_reducible apply q_thenR | with_reducible apply q_blockR | exact P0 | exact Rdn.zero | apply Rdn.succ | ((with_reducible apply Norm.nil); exact rfl) | ((with_reducible apply Norm.cons); exact rfl) | ((with_reducible apply end_ret)) | exact rvs_nil | ((with_reducible apply rvs_cons)) | ((with_reducible apply rv_tmp); exact rfl) | exact Nat.le_of_ble_eq_true rfl | omega)
      rfl
    | true =>
      simp only [if_true] at H1
      repeat' (first | ((with_reducible apply oq_id); first | (apply oq_fn; exact rfl; first | exact trivial | (refine ⟨?_, ?_⟩ <;> omega) | (refine ⟨?_, ?_, ?_⟩ <;> omega) | omega | skip) | ((with_reducible apply oq_loadAgg); exact rfl; exact rfl) | ((with_reducible apply oq_call (k := 55) (hc := Try.call55)); exact rfl; exact rfl; exact fun D w1 hw1 => H1 w1) | ((with_reducible apply oq_indexAgg); exact rfl; exact rfl; exact rfl; exact rfl)) | ((with_reducible apply tl_id); first | ((with_reducible apply tl_nil)) | ((with_reducible apply u_q); exact rfl; exact rfl; exact rfl; exact rfl) | ((with_reducible apply u_s0); exact rfl; exact rfl) | ((with_reducible apply u_s); exact rfl; exact rfl; exact rfl)) | ((with_reducible apply os_id); first | ((with_reducible apply os_x); exact rfl) | ((with_reducible apply os_storeAgg); exact rfl; exact rfl; exact rfl; exact rfl; exact rfl)) | ((with_reducible apply ox_id); first | ((with_reducible apply ox_alloc); exact rfl; intro _)) | ((with_reducible apply rd_id); first | (apply Rd.own; (repeat (first | exact P0 | apply P1)); exact rfl; done)) | ((with_reducible apply t_id); first | ((with_reducible apply t_seq)) | (apply t_region; kernel_rfl) | ((with_reducible apply t_condT); exact rfl) | ((with_reducible apply t_condF); exact rfl) | ((with_reducible apply t_skip)) | ((with_reducible apply t_block))) | with_reducible apply q_thenN | with_reducible apply q_blockN | exact P0 | exact Rdn.zero | apply Rdn.succ | ((with_reducible apply Norm.nil); exact rfl) | ((with_reducible apply Norm.cons); exact rfl) | exact Nat.le_of_ble_eq_true rfl | omega)
      refine ⟨1, ⟨by omega, fun _ => rfl, fun h => by omega⟩, by omega, ?_, ?_⟩
      · try simp only [List.cons_append, List.nil_append]
        (repeat (first | exact FrSub.nil | (apply FrSub.cons; exact rfl)))
      · try simp only [List.cons_append, List.nil_append]
        (repeat (first | exact HpSub.refl _ | (apply HpSub.consE; (repeat (first | exact P0 | apply P1)); exact rfl) | exact HpSub.nil))
  · obtain rfl : q1 = true := k1 (by omega)
    cases q2 with
    | false =>
      simp only [Bool.false_eq_true, if_false] at H2
      repeat' (first | ((with_reducible apply oq_id); first | (apply oq_fn; exact rfl; first | exact trivial | (refine ⟨?_, ?_⟩ <;> omega) | (refine ⟨?_, ?_, ?_⟩ <;> omega) | omega | skip) | ((with_reducible apply oq_loadAgg); exact rfl; exact rfl) | ((with_reducible apply oq_call (k := 55) (hc := Try.call55)); exact rfl; exact rfl; exact fun D w1 hw1 => H2 w1) | ((with_reducible apply oq_indexAgg); exact rfl; exact rfl; exact rfl; exact rfl)) | ((with_reducible apply tl_id); first | ((with_reducible apply tl_nil)) | ((with_reducible apply u_q); exact rfl; exact rfl; exact rfl; exact rfl) | ((with_reducible apply u_s0); exact rfl; exact rfl) | ((with_reducible apply u_s); exact rfl; exact rfl; exact rfl)) | ((with_reducible apply os_id); first | ((with_reducible apply os_x); exact rfl) | ((with_reducible apply os_storeAgg); exact rfl; exact rfl; exact rfl; exact rfl; exact rfl)) | ((with_reducible apply ox_id); first | ((with_reducible apply ox_alloc); exact rfl; intro _)) | ((with_reducible apply rd_id); first | (apply Rd.own; (repeat (first | exact P0 | apply P1)); exact rfl; done)) | ((with_reducible apply t_id); first | ((with_reducible apply t_seq)) | (apply t_region; kernel_rfl) | ((with_reducible apply t_condT); exact rfl) | ((with_reducible apply t_ret)) | ((with_reducible apply t_skip)) | ((with_reducible apply t_block))) | with_reducible apply q_thenN | with_reducible apply q_thenR | with_reducible apply q_blockR | exact P0 | exact Rdn.zero | apply Rdn.succ | ((with_reducible apply Norm.nil); exact rfl) | ((with_reducible apply Norm.cons); exact rfl) | ((with_reducible apply end_ret)) | exact rvs_nil | ((with_reducible apply rvs_cons)) | ((with_reducible apply rv_tmp); exact rfl) | exact Nat.le_of_ble_eq_true rfl | omega)
      rfl
    | true =>
      simp only [if_true] at H2
      repeat' (first | ((with_reducible apply oq_id); first | (apply oq_fn; exact rfl; first | exact trivial | (refine ⟨?_, ?_⟩ <;> omega) | (refine ⟨?_, ?_, ?_⟩ <;> omega) | omega | skip) | ((with_reducible apply oq_loadAgg); exact rfl; exact rfl) | ((with_reducible apply oq_call (k := 55) (hc := Try.call55)); exact rfl; exact rfl; exact fun D w1 hw1 => H2 w1) | ((with_reducible apply oq_indexAgg); exact rfl; exact rfl; exact rfl; exact rfl)) | ((with_reducible apply tl_id); first | ((with_reducible apply tl_nil)) | ((with_reducible apply u_q); exact rfl; exact rfl; exact rfl; exact rfl) | ((with_reducible apply u_s0); exact rfl; exact rfl) | ((with_reducible apply u_s); exact rfl; exact rfl; exact rfl)) | ((with_reducible apply os_id); first | ((with_reducible apply os_x); exact rfl) | ((with_reducible apply os_storeAgg); exact rfl; exact rfl; exact rfl; exact rfl; exact rfl)) | ((with_reducible apply ox_id); first | ((with_reducible apply ox_alloc); exact rfl; intro _)) | ((with_reducible apply rd_id); first | (apply Rd.own; (repeat (first | exact P0 | apply P1)); exact rfl; done)) | ((with_reducible apply t_id); first | ((with_reducible apply t_seq)) | (apply t_region; kernel_rfl) | ((with_reducible apply t_condT); exact rfl) | ((with_reducible apply t_condF); exact rfl) | ((with_reducible apply t_skip)) | ((with_reducible apply t_block))) | with_reducible apply q_thenN | with_reducible apply q_blockN | exact P0 | exact Rdn.zero | apply Rdn.succ | ((with_reducible apply Norm.nil); exact rfl) | ((with_reducible apply Norm.cons); exact rfl) | exact Nat.le_of_ble_eq_true rfl | omega)
      refine ⟨2, ⟨by omega, fun _ => rfl, fun _ => rfl⟩, by omega, ?_, ?_⟩
      · try simp only [List.cons_append, List.nil_append]
        (repeat (first | exact FrSub.nil | (apply FrSub.cons; exact rfl)))
      · try simp only [List.cons_append, List.nil_append]
        (repeat (first | exact HpSub.refl _ | (apply HpSub.consE; (repeat (first | exact P0 | apply P1)); exact rfl) | exact HpSub.nil))
  · obtain rfl : q1 = true := k1 (by omega)
    obtain rfl : q2 = true := k2 (by omega)
    repeat' (first | ((with_reducible apply oq_id); first | (apply oq_fn; exact rfl; first | exact trivial | (refine ⟨?_, ?_⟩ <;> omega) | (refine ⟨?_, ?_, ?_⟩ <;> omega) | omega | skip) | ((with_reducible apply oq_load); exact rfl; exact rfl) | ((with_reducible apply oq_call (k := 71) (hc := Try.call71)); exact rfl; exact rfl; exact fun D w1 hw1 => fromS4 h3 hw1 (by (repeat (first | exact P0 | apply P1))))) | ((with_reducible apply tl_id); first | ((with_reducible apply tl_nil)) | ((with_reducible apply u_q); exact rfl; exact rfl; exact rfl; exact rfl) | ((with_reducible apply u_s); exact rfl; exact rfl; exact rfl)) | ((with_reducible apply os_id); first | ((with_reducible apply os_x); exact rfl)) | ((with_reducible apply ox_id); first | ((with_reducible apply ox_buildSlice1); exact rfl; exact rfl; exact rfl; exact rfl; exact rfl; exact rfl; intro _)) | ((with_reducible apply rd_id); first | (apply Rd.own; (repeat (first | exact P0 | apply P1)); exact rfl; done)) | ((with_reducible apply t_id); first | ((with_reducible apply t_seq)) | (apply t_region; kernel_rfl) | ((with_reducible apply t_condF); exact rfl) | ((with_reducible apply t_cond); exact rfl; all_goals first | intro hp | skip) | ((with_reducible apply t_ret)) | ((with_reducible apply t_skip)) | ((with_reducible apply t_exit))) | with_reducible apply q_thenN | with_reducible apply q_thenR | with_reducible apply q_thenE | ((with_reducible apply q_blockE); exact rfl) | ((with_reducible apply end_ret)) | exact rvs_nil | ((with_reducible apply rvs_cons)) | ((with_reducible apply rv_tmp); exact rfl))
    all_goals (cases q3 <;> first | rfl | simp_all)


theorem blows_calls (a b c d : Int) (w : World) : Calls Try.prog 112 #[.agg #[.int .i64 a, .int .i64 b, .int .i64 c, .int .i64 d]] w fun e w' => e = .returned (.int .i64 (windE a b c d)) ∧ Ext w w' := by
  obtain ⟨q1, h1⟩ : ∃ q, fineS (a, b) = q := ⟨_, rfl⟩
  obtain ⟨q2, h2⟩ : ∃ q, fineS (c, d) = q := ⟨_, rfl⟩
  have H1 : ∀ w1, Calls Try.prog 128 #[.agg #[.int .i64 a, .int .i64 b]] w1 fun e w' => e = .returned (.bool q1) ∧ Ext w1 w' := fun w1 => h1 ▸ valid_calls (a, b) w1
  have H2 : ∀ w1, Calls Try.prog 128 #[.agg #[.int .i64 c, .int .i64 d]] w1 fun e w' => e = .returned (.bool q2) ∧ Ext w1 w' := fun w1 => h2 ▸ valid_calls (c, d) w1
  obtain ⟨q3, h3⟩ : ∃ q, insideB a b (-2000) 2000 = q := ⟨_, rfl⟩
  obtain ⟨q4, h4⟩ : ∃ q, insideB c d (-2000) 2000 = q := ⟨_, rfl⟩
  have H3 := fun w1 => in_calls a b (-2000) 2000 w1
  have H4 := fun w1 => in_calls c d (-2000) 2000 w1
  rw [h3] at H3
  rw [h4] at H4
  have hE : windE a b c d = if q1 && q2 then (if q3 && q4 then 0 else 2) else 10 := by
    unfold windE
    rw [h1, h2]
    cases q1 <;> cases q2 <;> first | rfl | skip
    have f1 := (fineS_iff _).1 h1
    have f2 := (fineS_iff _).1 h2
    simp only at f1 f2
    have : allFrom (-2000) 2000 [a, b, c, d] = (q3 && q4) := by
      rw [← h3, ← h4, Bool.eq_iff_iff]
      unfold allFrom insideB
      simp
      omega
    rw [this]
  rw [hE]
  refine enterQ (c := cx w 23) Try.func112 rfl rfl rfl rfl ?_
  repeat' (first | ((with_reducible apply oq_id); first | (apply oq_fn; exact rfl; first | exact trivial | (refine ⟨?_, ?_⟩ <;> omega) | (refine ⟨?_, ?_, ?_⟩ <;> omega) | omega | skip) | ((with_reducible apply oq_loadAgg); exact rfl; exact rfl) | ((with_reducible apply oq_call (k := 128) (hc := Try.call128)); exact rfl; exact rfl; exact fun D w1 hw1 => H1 w1) | ((with_reducible apply oq_call (k := 128) (hc := Try.call128)); exact rfl; exact rfl; exact fun D w1 hw1 => H2 w1) | ((with_reducible apply oq_call (k := 74) (hc := Try.call74)); exact rfl; exact rfl; exact fun D w1 hw1 => H3 w1) | ((with_reducible apply oq_call (k := 74) (hc := Try.call74)); exact rfl; exact rfl; exact fun D w1 hw1 => H4 w1)) | ((with_reducible apply tl_id); first | ((with_reducible apply tl_nil)) | ((with_reducible apply u_q); exact rfl; exact rfl; exact rfl; exact rfl) | ((with_reducible apply u_s); exact rfl; exact rfl; exact rfl) | ((with_reducible apply u_skip); exact rfl; exact rfl; exact rfl) | ((with_reducible apply u_split); exact rfl; exact rfl; all_goals first | intro hp | skip)) | ((with_reducible apply os_id); first | ((with_reducible apply os_x); exact rfl)) | ((with_reducible apply ox_id); first | ((with_reducible apply ox_boxAgg); exact rfl; intro _)) | ((with_reducible apply rd_id); first | (apply Rd.own; (repeat (first | exact P0 | apply P1)); exact rfl; done)) | ((with_reducible apply t_id); first | ((with_reducible apply t_seq)) | (apply t_region; kernel_rfl) | ((with_reducible apply t_condT); exact rfl) | ((with_reducible apply t_cond); exact rfl; all_goals first | intro hp | skip) | ((with_reducible apply t_ret)) | ((with_reducible apply t_skip))) | with_reducible apply q_thenN | with_reducible apply q_thenR | exact Rdn.zero | apply Rdn.succ | ((with_reducible apply end_ret)) | exact rvs_nil | ((with_reducible apply rvs_cons)) | ((with_reducible apply rv_tmp); exact rfl))
  all_goals (cases q1 <;> cases q2 <;> cases q3 <;> cases q4 <;> first | rfl | simp_all)


theorem inr_sq {x : Int} (h : -100000 ≤ x) (h' : x ≤ 100000) : InR (x * x) := by
  have h1 : x * x ≤ 100000 * 100000 := by
    rcases Int.le_total 0 x with h0 | h0
    · exact Int.mul_le_mul h' h' h0 (by omega)
    · have h3 : -x ≤ 100000 := by omega
      have h4 : (-x) * (-x) ≤ 100000 * 100000 := Int.mul_le_mul h3 h3 (by omega) (by omega)
      rw [Int.neg_mul_neg] at h4
      exact h4
  have h2 : 0 ≤ x * x := by
    rcases Int.le_total 0 x with h0 | h0
    · exact Int.mul_nonneg h0 h0
    · have := Int.mul_nonneg (a := -x) (b := -x) (by omega) (by omega)
      rw [Int.neg_mul_neg] at this
      exact this
  exact ⟨by omega, by omega⟩
theorem sq_le {x m : Int} (h0 : 0 ≤ x) (h : x ≤ m) : 0 ≤ x * x ∧ x * x ≤ m * m := ⟨Int.mul_nonneg h0 h0, Int.mul_le_mul h h h0 (by omega)⟩
def nearV (a b : Int) : Int := max (max a (-b)) 0
def farV (a b : Int) : Int := max b (-a)
theorem squares_calls (a b : Int) (ha : -2000 ≤ a) (ha1 : a ≤ 2000) (hb : -2000 ≤ b) (hb1 : b ≤ 2000) (w : World) : Calls Try.prog 113 #[.agg #[.int .i64 a, .int .i64 b]] w fun e w' => e = .returned (.tuple #[.int .i64 (nearV a b * nearV a b), .int .i64 (farV a b * farV a b)]) ∧ Ext w w' := by
  have h1 : 0 ≤ nearV a b ∧ nearV a b ≤ 2000 := by unfold nearV; omega
  have h2 : -2000 ≤ farV a b ∧ farV a b ≤ 2000 := by unfold farV; omega
  refine enterQ (c := cx w 24) Try.func113 rfl rfl rfl rfl ?_
  repeat' (first | ((with_reducible apply oq_id); first | (apply oq_fn; exact rfl; first | exact trivial | (refine ⟨?_, ?_⟩ <;> omega) | (refine ⟨?_, ?_, ?_⟩ <;> omega) | omega | skip) | ((with_reducible apply oq_load); exact rfl; exact rfl)) | ((with_reducible apply tl_id); first | ((with_reducible apply tl_nil)) | ((with_reducible apply u_q); exact rfl; exact rfl; exact rfl; exact rfl) | ((with_reducible apply u_s); exact rfl; exact rfl; exact rfl)) | ((with_reducible apply os_id); first | ((with_reducible apply os_x); exact rfl)) | ((with_reducible apply ox_id); first | ((with_reducible apply ox_boxAgg); exact rfl; intro _)) | ((with_reducible apply rd_id); first | (apply Rd.own; (repeat (first | exact P0 | apply P1)); exact rfl; done)) | ((with_reducible apply t_id); first | ((with_reducible apply t_seq)) | (apply t_region; kernel_rfl) | ((with_reducible apply t_ret))) | with_reducible apply q_thenN | ((with_reducible apply end_ret)) | exact rvs_nil | ((with_reducible apply rvs_cons)) | ((with_reducible apply rv_tmp); exact rfl))
  · exact inr_sq (by omega) (by omega)
  · exact inr_sq (by omega) (by omega)
  · rfl


theorem windE_zero {a b c d : Int} (h : windE a b c d = 0) : a ≤ b ∧ c ≤ d ∧ -2000 ≤ a ∧ b ≤ 2000 ∧ -2000 ≤ c ∧ d ≤ 2000 := by
  unfold windE at h
  split at h
  · rename_i h1
    simp only [Bool.and_eq_true, fineS_iff] at h1
    split at h
    · rename_i h2
      unfold allFrom at h2
      simp at h2
      omega
    · omega
  · omega
/-- How fast a wind is: bounds, then the error. -/
noncomputable def speedV (a b c d : Int) : Int × Int × Int := if windE a b c d = 0 then rootV (nearV a b * nearV a b + nearV c d * nearV c d) (farV a b * farV a b + farV c d * farV c d) else (0, 0, windE a b c d)
theorem refSpeed_calls (a b c d : Int) (w : World) : Calls Try.prog 45 #[.agg #[.int .i64 a, .int .i64 b, .int .i64 c, .int .i64 d]] w fun e w' => e = .returned (.tuple #[.agg #[.int .i64 (speedV a b c d).1, .int .i64 (speedV a b c d).2.1], .int .i64 (speedV a b c d).2.2]) ∧ Ext w w' := by
  have HE := fun w1 => blows_calls a b c d w1
  unfold speedV
  by_cases hE : windE a b c d = 0
  · obtain ⟨z1, z2, z3, z4, z5, z6⟩ := windE_zero hE
    rw [if_pos hE]
    rw [hE] at HE
    have n1 : 0 ≤ nearV a b ∧ nearV a b ≤ 2000 := by unfold nearV; omega
    have n2 : 0 ≤ nearV c d ∧ nearV c d ≤ 2000 := by unfold nearV; omega
    have n3 : 0 ≤ farV a b ∧ farV a b ≤ 2000 := by unfold farV; omega
    have n4 : 0 ≤ farV c d ∧ farV c d ≤ 2000 := by unfold farV; omega
    have m1 := sq_le n1.1 n1.2
    have m2 := sq_le n2.1 n2.2
    have m3 := sq_le n3.1 n3.2
    have m4 := sq_le n4.1 n4.2
    have S1 := fun w1 => squares_calls a b (by omega) (by omega) (by omega) (by omega) w1
    have S2 := fun w1 => squares_calls c d (by omega) (by omega) (by omega) (by omega) w1
    generalize nearV a b * nearV a b = x1 at *
    generalize nearV c d * nearV c d = x2 at *
    generalize farV a b * farV a b = x3 at *
    generalize farV c d * farV c d = x4 at *
    refine enterQ (c := cx w 37) Try.func45 rfl rfl rfl rfl ?_
    repeat' (first | ((with_reducible apply oq_id); first | (apply oq_fn; exact rfl; first | exact trivial | (refine ⟨?_, ?_⟩ <;> omega) | (refine ⟨?_, ?_, ?_⟩ <;> omega) | omega | skip) | ((with_reducible apply oq_loadAgg); exact rfl; exact rfl) | ((with_reducible apply oq_call (k := 112) (hc := Try.call112)); exact rfl; exact rfl; exact fun D w1 hw1 => HE w1) | ((with_reducible apply oq_call (k := 113) (hc := Try.call113)); exact rfl; exact rfl; exact fun D w1 hw1 => S1 w1) | ((with_reducible apply oq_call (k := 113) (hc := Try.call113)); exact rfl; exact rfl; exact fun D w1 hw1 => S2 w1) | ((with_reducible apply oq_call (k := 114) (hc := Try.call114)); exact rfl; exact rfl; exact fun D w1 hw1 => refRoot_calls _ _ w1) | ((with_reducible apply oq_build); exact rfl; exact rfl; exact rfl)) | ((with_reducible apply tl_id); first | ((with_reducible apply tl_nil)) | ((with_reducible apply u_q); exact rfl; exact rfl; exact rfl; exact rfl) | ((with_reducible apply u_s0); exact rfl; exact rfl) | ((with_reducible apply u_s); exact rfl; exact rfl; exact rfl)) | ((with_reducible apply os_id); first | ((with_reducible apply os_x); exact rfl) | ((with_reducible apply os_storeAgg); exact rfl; exact rfl; exact rfl; exact rfl; exact rfl)) | ((with_reducible apply ox_id); first | ((with_reducible apply ox_alloc); exact rfl; intro _) | ((with_reducible apply ox_boxAgg); exact rfl; intro _)) | ((with_reducible apply rd_id); first | (apply Rd.own; (repeat (first | exact P0 | apply P1)); exact rfl; done)) | ((with_reducible apply t_id); first | ((with_reducible apply t_seq)) | (apply t_region; kernel_rfl) | ((with_reducible apply t_condF); exact rfl) | ((with_reducible apply t_ret)) | ((with_reducible apply t_skip))) | with_reducible apply q_thenN | exact P0 | exact Rdn.zero | apply Rdn.succ | ((with_reducible apply Norm.nil); exact rfl) | ((with_reducible apply Norm.cons); exact rfl) | ((with_reducible apply end_ret)) | exact rvs_nil | ((with_reducible apply rvs_cons)) | ((with_reducible apply rv_tmp); exact rfl) | ((with_reducible apply rv_cellAgg); exact rfl; exact rfl) | exact Nat.le_of_ble_eq_true rfl)
    all_goals rfl
  · rw [if_neg hE]
    generalize windE a b c d = E at *
    refine enterQ (c := cx w 37) Try.func45 rfl rfl rfl rfl ?_
    repeat' (first | ((with_reducible apply oq_id); first | (apply oq_fn; exact rfl; first | exact trivial | (refine ⟨?_, ?_⟩ <;> omega) | (refine ⟨?_, ?_, ?_⟩ <;> omega) | omega | skip) | ((with_reducible apply oq_loadAgg); exact rfl; exact rfl) | ((with_reducible apply oq_call (k := 112) (hc := Try.call112)); exact rfl; exact rfl; exact fun D w1 hw1 => HE w1) | ((with_reducible apply oq_build); exact rfl; exact rfl; exact rfl)) | ((with_reducible apply tl_id); first | ((with_reducible apply tl_nil)) | ((with_reducible apply u_q); exact rfl; exact rfl; exact rfl; exact rfl) | ((with_reducible apply u_s0); exact rfl; exact rfl) | ((with_reducible apply u_s); exact rfl; exact rfl; exact rfl)) | ((with_reducible apply os_id); first | ((with_reducible apply os_x); exact rfl) | ((with_reducible apply os_storeAgg); exact rfl; exact rfl; exact rfl; exact rfl; exact rfl)) | ((with_reducible apply ox_id); first | ((with_reducible apply ox_alloc); exact rfl; intro _) | ((with_reducible apply ox_boxAgg); exact rfl; intro _)) | ((with_reducible apply rd_id); first | (apply Rd.own; (repeat (first | exact P0 | apply P1)); exact rfl; done)) | ((with_reducible apply t_id); first | ((with_reducible apply t_seq)) | (apply t_region; kernel_rfl) | ((with_reducible apply t_condN); exact rfl; all_goals first | (intro hp; try (exfalso; omega)) | skip) | ((with_reducible apply t_ret))) | with_reducible apply q_thenN | with_reducible apply q_thenR | exact P0 | exact Rdn.zero | apply Rdn.succ | ((with_reducible apply Norm.nil); exact rfl) | ((with_reducible apply Norm.cons); exact rfl) | ((with_reducible apply end_ret)) | exact rvs_nil | ((with_reducible apply rvs_cons)) | ((with_reducible apply rv_tmp); exact rfl) | ((with_reducible apply rv_cellAgg); exact rfl; exact rfl) | exact Nat.le_of_ble_eq_true rfl)
    all_goals rfl


def sumK (k : Nat) (x y : Int) : Int := if k = 0 then 0 else if k = 1 then x else x + y
theorem near_or (a b : Int) : max (max 0 a) (-b) = nearV a b := by unfold nearV; omega
theorem far_or (a b : Int) : max (-a) b = farV a b := by unfold farV; omega
theorem speed_calls (a b c d : Int) (w : World) : Calls Try.prog 44 #[.agg #[.int .i64 a, .int .i64 b, .int .i64 c, .int .i64 d]] w fun e w' => e = .returned (.tuple #[.agg #[.int .i64 (speedV a b c d).1, .int .i64 (speedV a b c d).2.1], .int .i64 (speedV a b c d).2.2]) ∧ Ext w w' := by
  have HE := fun w1 => checkWind_calls a b c d w1
  unfold speedV
  by_cases hE : windE a b c d = 0
  · obtain ⟨z1, z2, z3, z4, z5, z6⟩ := windE_zero hE
    rw [if_pos hE]
    rw [hE] at HE
    have n1 : 0 ≤ nearV a b ∧ nearV a b ≤ 2000 := by unfold nearV; omega
    have n2 : 0 ≤ nearV c d ∧ nearV c d ≤ 2000 := by unfold nearV; omega
    have n3 : 0 ≤ farV a b ∧ farV a b ≤ 2000 := by unfold farV; omega
    have n4 : 0 ≤ farV c d ∧ farV c d ≤ 2000 := by unfold farV; omega
    have m1 := sq_le n1.1 n1.2
    have m2 := sq_le n2.1 n2.2
    have m3 := sq_le n3.1 n3.2
    have m4 := sq_le n4.1 n4.2
    obtain ⟨x1, hx1⟩ : ∃ x, x = nearV a b * nearV a b := ⟨_, rfl⟩
    obtain ⟨x2, hx2⟩ : ∃ x, x = nearV c d * nearV c d := ⟨_, rfl⟩
    obtain ⟨x3, hx3⟩ : ∃ x, x = farV a b * farV a b := ⟨_, rfl⟩
    obtain ⟨x4, hx4⟩ : ∃ x, x = farV c d * farV c d := ⟨_, rfl⟩
    rw [← hx1, ← hx2, ← hx3, ← hx4]
    rw [← hx1] at m1
    rw [← hx2] at m2
    rw [← hx3] at m3
    rw [← hx4] at m4
    refine enterQ (c := cx w 55) Try.func44 rfl rfl rfl rfl ?_
    repeat' (first | ((with_reducible apply oq_id); first | (apply oq_fn; exact rfl; first | exact trivial | (refine ⟨?_, ?_⟩ <;> omega) | (refine ⟨?_, ?_, ?_⟩ <;> omega) | omega | skip) | ((with_reducible apply oq_loadAgg); exact rfl; exact rfl) | ((with_reducible apply oq_call (k := 110) (hc := Try.call110)); exact rfl; exact rfl; exact fun D w1 hw1 => HE w1) | ((with_reducible apply oq_buildA); exact rfl; exact rfl; exact rfl; exact rfl)) | ((with_reducible apply tl_id); first | ((with_reducible apply tl_nil)) | ((with_reducible apply u_q); exact rfl; exact rfl; exact rfl; exact rfl) | ((with_reducible apply u_s); exact rfl; exact rfl; exact rfl)) | ((with_reducible apply os_id); first | ((with_reducible apply os_x); exact rfl)) | ((with_reducible apply ox_id); first | ((with_reducible apply ox_alloc); exact rfl; intro _) | ((with_reducible apply ox_boxAgg); exact rfl; intro _)) | ((with_reducible apply rd_id); first | (apply Rd.own; (repeat (first | exact P0 | apply P1)); exact rfl; done)) | ((with_reducible apply t_id); first | ((with_reducible apply t_seq)) | (apply t_region; kernel_rfl) | ((with_reducible apply t_condF); exact rfl) | ((with_reducible apply t_skip)) | ((with_reducible apply t_block))) | with_reducible apply q_thenN | exact Rdn.zero | apply Rdn.succ | ((with_reducible apply Norm.nil); exact rfl) | ((with_reducible apply Norm.cons); exact rfl))
    rename_i b1 b2 b5
    apply t_loopK (ι := Nat) [2, 3, 5, 20, 51, 52, 53, 54] (fun k => [(21, .int .i64 (k : Nat))]) (fun k => [(b5, [.int .i64 (sumK k x1 x2), .int .i64 (sumK k x3 x4)], some (26, 2, 1))]) (fun k => k ≤ 2) (fun k => 2 - k) (0)
    (repeat (first | exact KeepF.nil | (apply KeepF.cons; exact rfl) | apply KeepF.skip))
    (repeat (first | exact FrSub.nil | (apply FrSub.cons; exact rfl)))
    (repeat (first | exact HpSub.refl _ | (apply HpSub.consE; (repeat (first | exact P0 | apply P1)); exact rfl) | exact HpSub.nil))
    · omega
    intro k hk
    try simp only [List.cons_append, List.nil_append]
    have hk3 : k = 0 ∨ k = 1 ∨ k = 2 := by omega
    rcases hk3 with rfl | rfl | rfl
    · simp only [sumK]
      repeat' (first | ((with_reducible apply oq_id); first | (apply oq_fn; exact rfl; first | exact trivial | (refine ⟨?_, ?_⟩ <;> omega) | (refine ⟨?_, ?_, ?_⟩ <;> omega) | omega | skip) | ((with_reducible apply oq_load); exact rfl; exact rfl) | ((with_reducible apply oq_indexAgg); exact rfl; exact rfl; exact rfl; exact rfl)) | ((with_reducible apply tl_id); first | ((with_reducible apply tl_nil)) | ((with_reducible apply u_q); exact rfl; exact rfl; exact rfl; exact rfl) | ((with_reducible apply u_s0); exact rfl; exact rfl) | ((with_reducible apply u_s); exact rfl; exact rfl; exact rfl)) | ((with_reducible apply gx_id); first | ((with_reducible apply v_nil)) | ((with_reducible apply v_q); exact rfl; exact rfl; exact rfl)) | ((with_reducible apply os_id); first | ((with_reducible apply os_x); exact rfl) | ((with_reducible apply os_store); exact rfl; exact rfl; exact rfl; exact rfl) | ((with_reducible apply os_storeAgg); exact rfl; exact rfl; exact rfl; exact rfl; exact rfl)) | ((with_reducible apply ox_id); first | ((with_reducible apply ox_alloc); exact rfl; intro _)) | ((with_reducible apply rd_id); first | (apply Rd.own; (repeat (first | exact P0 | apply P1)); exact rfl; done)) | ((with_reducible apply t_id); first | ((with_reducible apply t_seq)) | (apply t_region; kernel_rfl) | (apply t_drawn; kernel_rfl; decide +kernel) | ((with_reducible apply t_condT); exact rfl) | ((with_reducible apply t_skip)) | ((with_reducible apply t_block))) | with_reducible apply q_thenN | with_reducible apply q_blockN | exact P0 | ((with_reducible apply P1)) | ((with_reducible apply Norm.nil); exact rfl) | ((with_reducible apply Norm.cons); exact rfl) | exact Nat.le_of_ble_eq_true rfl | omega)
      all_goals first
        | (simp only [near_or, far_or, ← hx1, ← hx2, ← hx3, ← hx4]; exact ⟨by omega, by omega⟩)
        | skip
      refine ⟨1, by omega, by omega, ?_, ?_⟩
      · try simp only [List.cons_append, List.nil_append]
        (repeat (first | exact FrSub.nil | (apply FrSub.cons; exact rfl)))
      · try simp only [List.cons_append, List.nil_append]
        (repeat (first | exact HpSub.refl _ | (apply HpSub.consE; (repeat (first | exact P0 | apply P1)); first | exact rfl | ((simp only [near_or, far_or, ← hx1, ← hx2, ← hx3, ← hx4, sumK]; simp))) | exact HpSub.nil))
    · simp only [sumK]
      repeat' (first | ((with_reducible apply oq_id); first | (apply oq_fn; exact rfl; first | exact trivial | (refine ⟨?_, ?_⟩ <;> omega) | (refine ⟨?_, ?_, ?_⟩ <;> omega) | omega | skip) | ((with_reducible apply oq_load); exact rfl; exact rfl) | ((with_reducible apply oq_indexAgg); exact rfl; exact rfl; exact rfl; exact rfl)) | ((with_reducible apply tl_id); first | ((with_reducible apply tl_nil)) | ((with_reducible apply u_q); exact rfl; exact rfl; exact rfl; exact rfl) | ((with_reducible apply u_s0); exact rfl; exact rfl) | ((with_reducible apply u_s); exact rfl; exact rfl; exact rfl)) | ((with_reducible apply gx_id); first | ((with_reducible apply v_nil)) | ((with_reducible apply v_q); exact rfl; exact rfl; exact rfl)) | ((with_reducible apply os_id); first | ((with_reducible apply os_x); exact rfl) | ((with_reducible apply os_store); exact rfl; exact rfl; exact rfl; exact rfl) | ((with_reducible apply os_storeAgg); exact rfl; exact rfl; exact rfl; exact rfl; exact rfl)) | ((with_reducible apply ox_id); first | ((with_reducible apply ox_alloc); exact rfl; intro _)) | ((with_reducible apply rd_id); first | (apply Rd.own; (repeat (first | exact P0 | apply P1)); exact rfl; done)) | ((with_reducible apply t_id); first | ((with_reducible apply t_seq)) | (apply t_region; kernel_rfl) | (apply t_drawn; kernel_rfl; decide +kernel) | ((with_reducible apply t_condT); exact rfl) | ((with_reducible apply t_skip)) | ((with_reducible apply t_block))) | with_reducible apply q_thenN | with_reducible apply q_blockN | exact P0 | ((with_reducible apply P1)) | ((with_reducible apply Norm.nil); exact rfl) | ((with_reducible apply Norm.cons); exact rfl) | exact Nat.le_of_ble_eq_true rfl | omega)
      all_goals first
        | (simp only [near_or, far_or, ← hx1, ← hx2, ← hx3, ← hx4]; exact ⟨by omega, by omega⟩)
        | skip
      refine ⟨2, by omega, by omega, ?_, ?_⟩
      · try simp only [List.cons_append, List.nil_append]
        (repeat (first | exact FrSub.nil | (apply FrSub.cons; exact rfl)))
      · try simp only [List.cons_append, List.nil_append]
        (repeat (first | exact HpSub.refl _ | (apply HpSub.consE; (repeat (first | exact P0 | apply P1)); first | exact rfl | ((simp only [near_or, far_or, ← hx1, ← hx2, ← hx3, ← hx4, sumK]; simp))) | exact HpSub.nil))
    · simp only [sumK]
      repeat' (first | ((with_reducible apply oq_id); first | (apply oq_fn; exact rfl; first | exact trivial | (refine ⟨?_, ?_⟩ <;> omega) | (refine ⟨?_, ?_, ?_⟩ <;> omega) | omega | skip) | ((with_reducible apply oq_loadAgg); exact rfl; exact rfl) | ((with_reducible apply oq_call (k := 111) (hc := Try.call111)); exact rfl; exact rfl; exact fun D w1 hw1 => boundRoot_calls _ _ w1)) | ((with_reducible apply tl_id); first | ((with_reducible apply tl_nil)) | ((with_reducible apply u_q); exact rfl; exact rfl; exact rfl; exact rfl) | ((with_reducible apply u_s0); exact rfl; exact rfl)) | ((with_reducible apply os_id); first | ((with_reducible apply os_storeAgg); exact rfl; exact rfl; exact rfl; exact rfl; exact rfl)) | ((with_reducible apply rd_id); first | (apply Rd.own; (repeat (first | exact P0 | apply P1)); exact rfl; done)) | ((with_reducible apply t_id); first | ((with_reducible apply t_seq)) | (apply t_region; kernel_rfl) | ((with_reducible apply t_condF); exact rfl) | ((with_reducible apply t_ret)) | ((with_reducible apply t_exit))) | with_reducible apply q_thenN | with_reducible apply q_thenE | ((with_reducible apply q_blockE); exact rfl) | exact P0 | ((with_reducible apply P1)) | exact Rdn.zero | apply Rdn.succ | ((with_reducible apply Norm.nil); exact rfl) | ((with_reducible apply Norm.cons); exact rfl) | ((with_reducible apply end_ret)) | exact rvs_nil | ((with_reducible apply rvs_cons)) | ((with_reducible apply rv_tmp); exact rfl) | ((with_reducible apply rv_cellAgg); exact rfl; exact rfl) | exact Nat.le_of_ble_eq_true rfl)
      rfl
  · rw [if_neg hE]
    generalize windE a b c d = E at *
    refine enterQ (c := cx w 55) Try.func44 rfl rfl rfl rfl ?_
    repeat' (first | ((with_reducible apply oq_id); first | (apply oq_fn; exact rfl; first | exact trivial | (refine ⟨?_, ?_⟩ <;> omega) | (refine ⟨?_, ?_, ?_⟩ <;> omega) | omega | skip) | ((with_reducible apply oq_loadAgg); exact rfl; exact rfl) | ((with_reducible apply oq_call (k := 110) (hc := Try.call110)); exact rfl; exact rfl; exact fun D w1 hw1 => HE w1) | ((with_reducible apply oq_build); exact rfl; exact rfl; exact rfl)) | ((with_reducible apply tl_id); first | ((with_reducible apply tl_nil)) | ((with_reducible apply u_q); exact rfl; exact rfl; exact rfl; exact rfl) | ((with_reducible apply u_s0); exact rfl; exact rfl) | ((with_reducible apply u_s); exact rfl; exact rfl; exact rfl)) | ((with_reducible apply os_id); first | ((with_reducible apply os_x); exact rfl) | ((with_reducible apply os_storeAgg); exact rfl; exact rfl; exact rfl; exact rfl; exact rfl)) | ((with_reducible apply ox_id); first | ((with_reducible apply ox_alloc); exact rfl; intro _) | ((with_reducible apply ox_boxAgg); exact rfl; intro _)) | ((with_reducible apply rd_id); first | (apply Rd.own; (repeat (first | exact P0 | apply P1)); exact rfl; done)) | ((with_reducible apply t_id); first | ((with_reducible apply t_seq)) | (apply t_region; kernel_rfl) | ((with_reducible apply t_condN); exact rfl; all_goals first | (intro hp; try (exfalso; omega)) | skip) | ((with_reducible apply t_ret))) | with_reducible apply q_thenN | with_reducible apply q_thenR | exact P0 | exact Rdn.zero | apply Rdn.succ | ((with_reducible apply Norm.nil); exact rfl) | ((with_reducible apply Norm.cons); exact rfl) | ((with_reducible apply end_ret)) | exact rvs_nil | ((with_reducible apply rvs_cons)) | ((with_reducible apply rv_tmp); exact rfl) | ((with_reducible apply rv_cellAgg); exact rfl; exact rfl) | exact Nat.le_of_ble_eq_true rfl)
    all_goals rfl

end Go.Proofs.Ytalidommelefaaa
/- Products of unsigned numbers. -/
namespace Go.Proofs.Ytalidommelefaaa
open Go.RowKit
attribute [local irreducible] OQ OS OX Rd T TL GX GL AL AI RV wpG SAny Calls
set_option maxRecDepth 100000
set_option maxHeartbeats 2000000
set_option linter.unusedVariables false
set_option linter.unusedSimpArgs false


theorem mul64_calls (x y : Int) (h0 : 0 ≤ x) (h1 : x < 4294967296) (h2 : 0 ≤ y) (h3 : y < 4294967296) (w : World) : Calls Try.prog 155 #[.int .u64 x, .int .u64 y] w fun e w' => e = .returned (.tuple #[.int .u64 0, .int .u64 (x * y)]) ∧ Ext w w' := by
  have hp : 0 ≤ x * y ∧ x * y ≤ 4294967295 * 4294967295 := ⟨Int.mul_nonneg h0 h2, Int.mul_le_mul (by omega) (by omega) h2 (by omega)⟩
  have hxy : InU (x * y) := ⟨by omega, by omega⟩
  refine enterQ (c := cx w 51) Try.func155 rfl rfl rfl rfl ?_
  repeat' (first | ((with_reducible apply oq_id); first | (apply oq_fn; exact rfl; first | exact trivial | (refine ⟨?_, ?_⟩ <;> omega) | (refine ⟨?_, ?_, ?_⟩ <;> omega) | omega | skip) | (focus ((with_reducible apply oq_shrLow); exact rfl; exact rfl; (refine ⟨?_, ?_⟩ <;> omega))) | (focus ((with_reducible apply oq_andLow); exact rfl; exact rfl; (refine ⟨?_, ?_⟩ <;> omega))) | (focus ((with_reducible apply oq_shr32); exact rfl; exact rfl; omega)) | (focus ((with_reducible apply oq_addU); exact rfl; exact rfl; (first | exact hxy | (refine ⟨?_, ?_⟩ <;> omega)))) | (focus ((with_reducible apply oq_mulU); exact rfl; exact rfl; (first | exact hxy | (refine ⟨?_, ?_⟩ <;> omega))))) | ((with_reducible apply tl_id); first | ((with_reducible apply tl_nil)) | ((with_reducible apply u_q); exact rfl; exact rfl; exact rfl; exact rfl)) | ((with_reducible apply t_id); first | ((with_reducible apply t_seq)) | (apply t_region; kernel_rfl) | ((with_reducible apply t_ret))) | with_reducible apply q_thenN | ((with_reducible apply end_ret)) | exact rvs_nil | ((with_reducible apply rvs_cons)) | ((with_reducible apply rv_tmp); exact rfl))
  all_goals rfl


theorem size_calls (n : Int) (h0 : -9223372036854775807 ≤ n) (h1 : n ≤ 9223372036854775807) (w : World) : Calls Try.prog 156 #[.int .i64 n] w fun e w' => e = .returned (.int .u64 (max n (-n))) ∧ Ext w w' := by
  refine enterQ (c := cx w 8) Try.func156 rfl rfl rfl rfl ?_
  repeat' (first | ((with_reducible apply oq_id); first | (apply oq_fn; exact rfl; first | exact trivial | (refine ⟨?_, ?_⟩ <;> omega) | (refine ⟨?_, ?_, ?_⟩ <;> omega) | omega | skip) | (focus ((with_reducible apply oq_convU); exact rfl; exact rfl; exact rfl; (refine ⟨?_, ?_⟩ <;> omega)))) | ((with_reducible apply tl_id); first | ((with_reducible apply tl_nil)) | ((with_reducible apply u_q); exact rfl; exact rfl; exact rfl; exact rfl)) | ((with_reducible apply t_id); first | ((with_reducible apply t_seq)) | (apply t_region; kernel_rfl) | ((with_reducible apply t_ret))) | with_reducible apply q_thenN | ((with_reducible apply end_ret)) | exact rvs_nil | ((with_reducible apply rvs_cons)) | ((with_reducible apply rv_tmp); exact rfl))
  all_goals rfl


theorem div64_calls (m y : Int) (h0 : 0 ≤ m) (h1 : m < 18446744073709551616) (h2 : 0 < y) (w : World) : Calls Try.prog 157 #[.int .u64 0, .int .u64 m, .int .u64 y] w fun e w' => e = .returned (.tuple #[.int .u64 (m.tdiv y), .int .u64 (m.tmod y)]) ∧ Ext w w' := by
  have hq : InU (m.tdiv y) := by
    rw [Int.tdiv_eq_ediv_of_nonneg h0]
    have := Int.ediv_le_self y h0
    have := Int.ediv_nonneg h0 (Int.le_of_lt h2)
    exact ⟨by omega, by omega⟩
  refine enterQ (c := cx w 135) Try.func157 rfl rfl rfl rfl ?_
  repeat' (first | ((with_reducible apply oq_id); first | (apply oq_fn; exact rfl; first | exact trivial | (refine ⟨?_, ?_⟩ <;> omega) | (refine ⟨?_, ?_, ?_⟩ <;> omega) | omega | skip) | (focus ((with_reducible apply oq_quoU); exact rfl; exact rfl; omega; exact hq)) | (focus ((with_reducible apply oq_remU); exact rfl; exact rfl; omega))) | ((with_reducible apply tl_id); first | ((with_reducible apply tl_nil)) | ((with_reducible apply u_q); exact rfl; exact rfl; exact rfl; exact rfl)) | ((with_reducible apply gx_id); first | ((with_reducible apply v_nil)) | ((with_reducible apply v_q); exact rfl; exact rfl; exact rfl)) | ((with_reducible apply t_id); first | ((with_reducible apply t_seq)) | (apply t_region; kernel_rfl) | (apply t_drawn; kernel_rfl; decide +kernel) | ((with_reducible apply t_condT); exact rfl) | ((with_reducible apply t_condD); exact rfl; all_goals first | (intro hp; try (exfalso; omega)) | skip) | ((with_reducible apply t_ret)) | ((with_reducible apply t_skip))) | with_reducible apply q_thenN | with_reducible apply q_thenR | ((with_reducible apply end_ret)) | exact rvs_nil | ((with_reducible apply rvs_cons)) | ((with_reducible apply rv_tmp); exact rfl))
  all_goals rfl


theorem oq_neqB {w : World} {N : Nat} {F : Fr} {H : Hp} {M : List Nat} {d : Option Tmp} {ty t' : TypeId} {pos : String} {af : Array Edge} {g : Option (Nat × Bool)} {x y : Operand} {a b : Bool}
    (hx : ev F x = some (.bool a)) (hy : ev F y = some (.bool b)) : OQ (cxM M w N) ⟨d, .binOp .neq 4 x y t', ty, pos, af, g⟩ F H (.bool (!(a == b))) := .of fun D act w ha _ => by
  have u4 := Try.underlying4
  have e : ∀ w, (binOp .neq 4 (.bool a) (.bool b)).run Try.prog w = .ok (.bool (!(a == b))) w := fun w => by
    have e0 : (Op.equalIn 10000 4 (.bool a) (.bool b)).run Try.prog w = .ok (a == b) w := run_equalIn_bool' (P := Try.prog) w 9999 4 a b u4
    simp only [binOp, Op.equal, Op.maxDepth, Sem.run_bind, e0, Result.andThen, Sem.run_pure]
  have e1 : ∀ w, (eqGuard .neq 4 x y (.bool a) (.bool b)).run Try.prog w = .ok () w := fun w => by simp [eqGuard, go_sem]
  simp only [execOp, ha.ev hx, ha.ev hy, Sem.run_bind, e, e1, Result.andThen, Sem.run_pure]
theorem share1_calls (x y : Int) (hx : -1000000 ≤ x ∧ x ≤ 1000000) (hy : -1000000 ≤ y ∧ y ≤ 1000000) (w : World) : Calls Try.prog 150 #[.int .i64 x, .int .i64 y, .int .i64 1] w fun e w' => e = .returned (.agg #[.int .i64 (x * y), .int .i64 (x * y)]) ∧ Ext w w' := by
  have hp : 0 ≤ max x (-x) * max y (-y) ∧ max x (-x) * max y (-y) ≤ 1000000 * 1000000 := ⟨Int.mul_nonneg (by omega) (by omega), Int.mul_le_mul (by omega) (by omega) (by omega) (by omega)⟩
  have D1 := fun w1 => div64_calls (max x (-x) * max y (-y)) 1 (by omega) (by omega) (by omega) w1
  rw [Int.tdiv_one, Int.tmod_one] at D1
  refine enterQ (c := cx w 64) Try.func150 rfl rfl rfl rfl ?_
  repeat' (first | ((with_reducible apply oq_id); first | (apply oq_fn; exact rfl; first | exact trivial | (refine ⟨?_, ?_⟩ <;> omega) | (refine ⟨?_, ?_, ?_⟩ <;> omega) | omega | skip) | ((with_reducible apply oq_load); exact rfl; exact rfl) | ((with_reducible apply oq_loadAgg); exact rfl; exact rfl) | (focus ((with_reducible apply oq_convU); exact rfl; exact rfl; exact rfl; (refine ⟨?_, ?_⟩ <;> omega))) | (focus ((with_reducible apply oq_neqB); exact rfl; exact rfl)) | ((with_reducible apply oq_call (k := 156) (hc := Try.call156)); exact rfl; exact rfl; exact fun D w1 hw1 => size_calls _ (by omega) (by omega) w1) | ((with_reducible apply oq_call (k := 155) (hc := Try.call155)); exact rfl; exact rfl; exact fun D w1 hw1 => mul64_calls _ _ (by omega) (by omega) (by omega) (by omega) w1) | ((with_reducible apply oq_call (k := 157) (hc := Try.call157)); exact rfl; exact rfl; exact fun D w1 hw1 => D1 w1) | ((with_reducible apply oq_build); exact rfl; exact rfl; exact rfl)) | ((with_reducible apply tl_id); first | ((with_reducible apply tl_nil)) | ((with_reducible apply u_q); exact rfl; exact rfl; exact rfl; exact rfl) | ((with_reducible apply u_s0); exact rfl; exact rfl) | ((with_reducible apply u_s); exact rfl; exact rfl; exact rfl)) | ((with_reducible apply os_id); first | ((with_reducible apply os_x); exact rfl) | ((with_reducible apply os_store); exact rfl; exact rfl; exact rfl; exact rfl) | ((with_reducible apply os_storeAgg); exact rfl; exact rfl; exact rfl; exact rfl; exact rfl)) | ((with_reducible apply ox_id); first | ((with_reducible apply ox_alloc); exact rfl; intro _)) | ((with_reducible apply rd_id); first | (apply Rd.own; (repeat (first | exact P0 | apply P1)); exact rfl; done)) | ((with_reducible apply t_id); first | ((with_reducible apply t_seq)) | (apply t_region; kernel_rfl) | ((with_reducible apply t_condT); exact rfl) | ((with_reducible apply t_condF); exact rfl) | ((with_reducible apply t_condD); exact rfl; all_goals first | (intro hp; try (exfalso; omega)) | skip) | ((with_reducible apply t_condN); exact rfl; all_goals first | (intro hp; try (exfalso; omega)) | skip) | ((with_reducible apply t_ret)) | ((with_reducible apply t_skip))) | with_reducible apply q_thenN | exact P0 | ((with_reducible apply P1)) | exact Rdn.zero | apply Rdn.succ | ((with_reducible apply Norm.nil); exact rfl) | ((with_reducible apply Norm.cons); exact rfl) | ((with_reducible apply end_ret)) | exact rvs_nil | ((with_reducible apply rvs_cons)) | ((with_reducible apply rv_cellAgg); exact rfl; exact rfl) | exact Nat.le_of_ble_eq_true rfl)
  · have hs : max x (-x) * max y (-y) = -(x * y) := by
      rcases Int.lt_or_le x 0 with h | h <;> rcases Int.lt_or_le y 0 with h' | h'
      · simp [h, h'] at *
      · rw [Int.max_eq_right (by omega), Int.max_eq_left (by omega), Int.neg_mul]
      · rw [Int.max_eq_left (by omega), Int.max_eq_right (by omega), Int.mul_neg]
      · have h1 : ¬ x < 0 := by omega
        have h2 : ¬ y < 0 := by omega
        simp [h1, h2] at *
    rw [hs, Int.neg_neg]; rfl
  · have hs : max x (-x) * max y (-y) = x * y := by
      rcases Int.lt_or_le x 0 with h | h <;> rcases Int.lt_or_le y 0 with h' | h'
      · rw [Int.max_eq_right (by omega), Int.max_eq_right (by omega), Int.neg_mul_neg]
      · have h2 : ¬ y < 0 := by omega
        simp [h, h2] at *
      · have h1 : ¬ x < 0 := by omega
        simp [h1, h'] at *
      · rw [Int.max_eq_left (by omega), Int.max_eq_left (by omega)]
    rw [hs]; rfl

end Go.Proofs.Ytalidommelefaaa
/- Sums and products of spans. -/
namespace Go.Proofs.Ytalidommelefaaa
open Go.RowKit
attribute [local irreducible] OQ OS OX Rd T TL GX GL AL AI RV wpG SAny Calls
set_option maxRecDepth 100000
set_option maxHeartbeats 2000000
set_option linter.unusedVariables false
set_option linter.unusedSimpArgs false


theorem sized_calls (a b : Int) (ha : -1099511627776 ≤ a) (hb : b ≤ 1099511627776) (w : World) : Calls Try.prog 139 #[.agg #[.int .i64 a, .int .i64 b]] w fun e w' => e = .returned (.tuple #[.agg #[.int .i64 a, .int .i64 b], .int .i64 0]) ∧ Ext w w' := by
  refine enterQ (c := cx w 14) Try.func139 rfl rfl rfl rfl ?_
  repeat' (first | ((with_reducible apply oq_id); first | (apply oq_fn; exact rfl; first | exact trivial | (refine ⟨?_, ?_⟩ <;> omega) | (refine ⟨?_, ?_, ?_⟩ <;> omega) | omega | skip) | ((with_reducible apply oq_load); exact rfl; exact rfl) | ((with_reducible apply oq_loadAgg); exact rfl; exact rfl)) | ((with_reducible apply tl_id); first | ((with_reducible apply tl_nil)) | ((with_reducible apply u_q); exact rfl; exact rfl; exact rfl; exact rfl) | ((with_reducible apply u_s0); exact rfl; exact rfl) | ((with_reducible apply u_s); exact rfl; exact rfl; exact rfl) | ((with_reducible apply u_splitD); exact rfl; exact rfl; all_goals first | (intro hp; try (exfalso; omega)) | skip)) | ((with_reducible apply os_id); first | ((with_reducible apply os_x); exact rfl) | ((with_reducible apply os_storeAgg); exact rfl; exact rfl; exact rfl; exact rfl; exact rfl)) | ((with_reducible apply ox_id); first | ((with_reducible apply ox_alloc); exact rfl; intro _) | ((with_reducible apply ox_boxAgg); exact rfl; intro _)) | ((with_reducible apply rd_id); first | (apply Rd.own; (repeat (first | exact P0 | apply P1)); exact rfl; done)) | ((with_reducible apply t_id); first | ((with_reducible apply t_seq)) | (apply t_region; kernel_rfl) | ((with_reducible apply t_condD); exact rfl; all_goals first | (intro hp; try (exfalso; omega)) | skip) | ((with_reducible apply t_ret)) | ((with_reducible apply t_skip))) | with_reducible apply q_thenN | exact P0 | exact Rdn.zero | apply Rdn.succ | ((with_reducible apply Norm.nil); exact rfl) | ((with_reducible apply Norm.cons); exact rfl) | ((with_reducible apply end_ret)) | exact rvs_nil | ((with_reducible apply rvs_cons)) | ((with_reducible apply rv_tmp); exact rfl) | ((with_reducible apply rv_cellAgg); exact rfl; exact rfl) | exact Nat.le_of_ble_eq_true rfl)
  all_goals rfl


theorem add_calls (a b c d : Int) (h : -1000000000 ≤ a ∧ a ≤ b ∧ b ≤ 1000000000) (k : -1000000000 ≤ c ∧ c ≤ d ∧ d ≤ 1000000000) (w : World) : Calls Try.prog 116 #[.agg #[.int .i64 a, .int .i64 b], .agg #[.int .i64 c, .int .i64 d]] w fun e w' => e = .returned (.tuple #[.agg #[.int .i64 (a + c), .int .i64 (b + d)], .int .i64 0]) ∧ Ext w w' := by
  have hq : (fineS (a, b) && fineS (c, d)) = true := by rw [Bool.and_eq_true, fineS_iff, fineS_iff]; simp only; omega
  refine enterQ (c := cx w 26) Try.func116 rfl rfl rfl rfl ?_
  repeat' (first | ((with_reducible apply oq_id); first | (apply oq_fn; exact rfl; first | exact trivial | (refine ⟨?_, ?_⟩ <;> omega) | (refine ⟨?_, ?_, ?_⟩ <;> omega) | omega | skip) | ((with_reducible apply oq_load); exact rfl; exact rfl) | ((with_reducible apply oq_loadAgg); exact rfl; exact rfl) | ((with_reducible apply oq_call (k := 121) (hc := Try.call121)); exact rfl; exact rfl; exact fun D w1 hw1 => fine2 hq hw1 (by (repeat (first | exact P0 | apply P1)))) | ((with_reducible apply oq_call (k := 139) (hc := Try.call139)); exact rfl; exact rfl; exact fun D w1 hw1 => sized_calls _ _ (by omega) (by omega) w1) | ((with_reducible apply oq_build); exact rfl; exact rfl; exact rfl)) | ((with_reducible apply tl_id); first | ((with_reducible apply tl_nil)) | ((with_reducible apply u_q); exact rfl; exact rfl; exact rfl; exact rfl) | ((with_reducible apply u_s0); exact rfl; exact rfl) | ((with_reducible apply u_s); exact rfl; exact rfl; exact rfl)) | ((with_reducible apply os_id); first | ((with_reducible apply os_x); exact rfl) | ((with_reducible apply os_storeAgg); exact rfl; exact rfl; exact rfl; exact rfl; exact rfl)) | ((with_reducible apply ox_id); first | ((with_reducible apply ox_alloc); exact rfl; intro _) | ((with_reducible apply ox_boxAgg); exact rfl; intro _) | ((with_reducible apply ox_buildSlice2); exact rfl; exact rfl; exact rfl; exact rfl; exact rfl; exact rfl; intro _)) | ((with_reducible apply rd_id); first | (apply Rd.own; (repeat (first | exact P0 | apply P1)); exact rfl; done)) | ((with_reducible apply t_id); first | ((with_reducible apply t_seq)) | (apply t_region; kernel_rfl) | ((with_reducible apply t_condF); exact rfl) | ((with_reducible apply t_ret)) | ((with_reducible apply t_skip))) | with_reducible apply q_thenN | exact P0 | ((with_reducible apply P1)) | exact Rdn.zero | apply Rdn.succ | ((with_reducible apply Norm.nil); exact rfl) | ((with_reducible apply Norm.cons); exact rfl) | ((with_reducible apply end_ret)) | exact rvs_nil | ((with_reducible apply rvs_cons)) | ((with_reducible apply rv_tmp); exact rfl) | ((with_reducible apply rv_cellAgg); exact rfl; exact rfl) | exact Nat.le_of_ble_eq_true rfl)
  all_goals rfl


def hullS (a b : Int × Int) : Int × Int := (min a.1 b.1, max a.2 b.2)
def hullA (s : Int × Int) (l : List (Int × Int)) : Int × Int := l.foldl hullS s
theorem hullA_take (s : Int × Int) (l : List (Int × Int)) (k : Nat) (x : Int × Int) (h : l[k]? = some x) : hullA s (l.take (k + 1)) = hullS (hullA s (l.take k)) x := by
  unfold hullA
  rw [List.take_add_one, h, List.foldl_append]
  rfl
theorem hullA_one {s : Int × Int} {l : List (Int × Int)} (h : l[0]? = some s) : hullA s (l.take (0 + 1)) = s := by
  rw [hullA_take s l 0 s h]
  simp [hullA, hullS]
theorem around_calls (A : Option Addr) (n cp : Nat) (s : Int × Int) (l : List (Int × Int)) (w : World) (hr : RdS w 2 A n (l.map spanCells)) (hn : n ≤ 1000000) (h0 : l[0]? = some s) (hcp : 1 < cp) (hn1 : 1 ≤ n) :
    Calls Try.prog 141 #[.slice A n cp] w fun e w' => e = .returned (.agg #[.int .i64 (hullA s l).1, .int .i64 (hullA s l).2]) ∧ Ext w w' := by
  have hl := hr.len
  simp only [List.length_map] at hl
  obtain ⟨b0, o, x, rfl, hb, hkx, c0, c1⟩ := span_read hr (show 0 < n by omega)
  obtain rfl : s = x := by rw [hkx] at h0; exact (Option.some.inj h0).symm
  refine enterQ (c := cx w 30) Try.func141 rfl rfl rfl rfl ?_
  repeat' (first | ((with_reducible apply oq_id); first | (apply oq_fn; exact rfl; first | exact trivial | (refine ⟨?_, ?_⟩ <;> omega) | (refine ⟨?_, ?_, ?_⟩ <;> omega) | omega | skip) | ((with_reducible apply oq_loadAgg); exact rfl; exact rfl) | (focus ((with_reducible apply oq_sliceL (l := 1)); exact rfl; exact rfl; exact rfl; exact rfl; exact rfl; omega; omega))) | ((with_reducible apply tl_id); first | ((with_reducible apply tl_nil)) | ((with_reducible apply u_q); exact rfl; exact rfl; exact rfl; exact rfl) | ((with_reducible apply u_s0); exact rfl; exact rfl) | ((with_reducible apply u_s); exact rfl; exact rfl; exact rfl)) | ((with_reducible apply os_id); first | ((with_reducible apply os_x); exact rfl) | ((with_reducible apply os_storeAgg); exact rfl; exact rfl; exact rfl; exact rfl; exact rfl)) | ((with_reducible apply ox_id); first | ((with_reducible apply ox_alloc); exact rfl; intro _)) | ((with_reducible apply rd_id); first | (apply Rd.old; (first | (with_reducible assumption) | exact c0 | exact c1); first | exact List.not_mem_nil)) | ((with_reducible apply t_id); first | ((with_reducible apply t_seq)) | (apply t_region; kernel_rfl) | ((with_reducible apply t_block))) | with_reducible apply q_thenN | exact P0 | exact Rdn.zero | apply Rdn.succ | ((with_reducible apply Norm.nil); exact rfl) | ((with_reducible apply Norm.cons); exact rfl) | exact Nat.le_of_ble_eq_true rfl)
  rename_i b2 b3
  apply t_loopK (ι := Nat) [2, 3, 10, 11, 29] (fun k => [(12, .int .i64 (k : Nat))]) (fun k => [(b3, [.int .i64 (hullA s (l.take (k + 1))).1, .int .i64 (hullA s (l.take (k + 1))).2], some (26, 2, 1))]) (fun k => k ≤ n - 1) (fun k => n - 1 - k) (0)
  (repeat (first | exact KeepF.nil | (apply KeepF.cons; exact rfl) | apply KeepF.skip))
  (repeat (first | exact FrSub.nil | (apply FrSub.cons; exact rfl)))
  (repeat (first | exact HpSub.refl _ | (apply HpSub.consE; (repeat (first | exact P0 | apply P1)); first | exact rfl | ((rw [hullA_one h0]))) | exact HpSub.nil))
  · omega
  intro k hk
  try simp only [List.cons_append, List.nil_append]
  clear c0 c1
  by_cases hlt : k < n - 1
  · obtain ⟨b1, o1, x, hA, _, hkx2, c0, c1⟩ := span_read hr (show k + 1 < n by omega)
    obtain ⟨rfl, rfl⟩ : b1 = b0 ∧ o1 = o := by simpa using hA.symm
    rw [show o1 + (k + 1) * 2 = o1 + 1 * 2 + k * 2 by omega] at c0 c1
    repeat' (first | ((with_reducible apply oq_id); first | (apply oq_fn; exact rfl; first | exact trivial | (refine ⟨?_, ?_⟩ <;> omega) | (refine ⟨?_, ?_, ?_⟩ <;> omega) | omega | skip) | ((with_reducible apply oq_load); exact rfl; exact rfl) | ((with_reducible apply oq_loadAgg); exact rfl; exact rfl)) | ((with_reducible apply tl_id); first | ((with_reducible apply tl_nil)) | ((with_reducible apply u_q); exact rfl; exact rfl; exact rfl; exact rfl) | ((with_reducible apply u_s0); exact rfl; exact rfl) | ((with_reducible apply u_s); exact rfl; exact rfl; exact rfl)) | ((with_reducible apply gx_id); first | ((with_reducible apply v_nil)) | ((with_reducible apply v_q); exact rfl; exact rfl; exact rfl)) | ((with_reducible apply os_id); first | ((with_reducible apply os_x); exact rfl) | ((with_reducible apply os_store); exact rfl; exact rfl; exact rfl; exact rfl) | ((with_reducible apply os_storeAgg); exact rfl; exact rfl; exact rfl; exact rfl; exact rfl)) | ((with_reducible apply ox_id); first | ((with_reducible apply ox_alloc); exact rfl; intro _)) | ((with_reducible apply ai_id); first | ((with_reducible apply ai_q); exact rfl; exact rfl; exact rfl; exact rfl; exact rfl) | ((with_reducible apply ai_s0); exact rfl; exact rfl; exact rfl; exact rfl)) | ((with_reducible apply rd_id); first | (apply Rd.own; (repeat (first | exact P0 | apply P1)); exact rfl; done) | (apply Rd.old; (first | (with_reducible assumption) | exact c0 | exact c1); first | exact List.not_mem_nil)) | ((with_reducible apply t_id); first | ((with_reducible apply t_seq)) | (apply t_region; kernel_rfl) | ((with_reducible apply t_condD); exact rfl; all_goals first | (intro hp; try (exfalso; omega)) | skip) | ((with_reducible apply t_skip)) | ((with_reducible apply t_block))) | with_reducible apply q_thenN | with_reducible apply q_blockN | exact P0 | ((with_reducible apply P1)) | exact Rdn.zero | apply Rdn.succ | ((with_reducible apply Norm.nil); exact rfl) | ((with_reducible apply Norm.cons); exact rfl) | (apply t_mix (id := 5) [0, 1, 2, 3, 4, 5, 6, 10] 6 #[false, false, false, false, false, false, false, false, false, false, false, true, false, true]; kernel_rfl; kernel_rfl; exact rfl) | ((with_reducible apply al_id); first | (apply al_done; decide +kernel) | (apply al_one 7; decide +kernel) | (apply al_one 8; decide +kernel) | (apply al_one 9; decide +kernel) | (apply al_one 11; decide +kernel) | (apply al_one 12; decide +kernel) | (apply al_one 13; decide +kernel) | (apply al_two 7 11; decide +kernel) | (apply al_two 8 11; decide +kernel) | (apply al_two 9 11; decide +kernel)) | exact Nat.le_of_ble_eq_true rfl)
    all_goals
      refine ⟨k + 1, by omega, by omega, ?_, ?_⟩
      · try simp only [List.cons_append, List.nil_append]
        (repeat (first | exact FrSub.nil | (apply FrSub.cons; exact rfl)))
      · try simp only [List.cons_append, List.nil_append]
        (repeat (first | exact HpSub.refl _ | (apply HpSub.consE; (repeat (first | exact P0 | apply P1)); first | exact rfl | (rw [hullA_take _ _ _ _ hkx2]; rfl)) | exact HpSub.nil))
  · have hkn : l.take (k + 1) = l := List.take_of_length_le (by omega)
    repeat' (first | ((with_reducible apply oq_id); first | (apply oq_fn; exact rfl; first | exact trivial | (refine ⟨?_, ?_⟩ <;> omega) | (refine ⟨?_, ?_, ?_⟩ <;> omega) | omega | skip) | ((with_reducible apply oq_loadAgg); exact rfl; exact rfl)) | ((with_reducible apply tl_id); first | ((with_reducible apply tl_nil)) | ((with_reducible apply u_q); exact rfl; exact rfl; exact rfl; exact rfl) | ((with_reducible apply u_s0); exact rfl; exact rfl)) | ((with_reducible apply os_id); first | ((with_reducible apply os_storeAgg); exact rfl; exact rfl; exact rfl; exact rfl; exact rfl)) | ((with_reducible apply rd_id); first | (apply Rd.own; (repeat (first | exact P0 | apply P1)); exact rfl; done)) | ((with_reducible apply t_id); first | ((with_reducible apply t_seq)) | (apply t_region; kernel_rfl) | ((with_reducible apply t_condD); exact rfl; all_goals first | (intro hp; try (exfalso; omega)) | skip) | ((with_reducible apply t_ret)) | ((with_reducible apply t_exit))) | with_reducible apply q_thenN | with_reducible apply q_thenE | ((with_reducible apply q_blockE); exact rfl) | exact P0 | ((with_reducible apply P1)) | exact Rdn.zero | apply Rdn.succ | ((with_reducible apply Norm.nil); exact rfl) | ((with_reducible apply Norm.cons); exact rfl) | ((with_reducible apply end_ret)) | exact rvs_nil | ((with_reducible apply rvs_cons)) | ((with_reducible apply rv_cellAgg); exact rfl; exact rfl) | exact Nat.le_of_ble_eq_true rfl)
    rw [hkn]
    rfl

end Go.Proofs.Ytalidommelefaaa
