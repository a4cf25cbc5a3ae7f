/- Tables: the values at a place, and between places. Plain laws. -/
import Derived.Test.YtalidommelefaaaAlg
namespace Go.Proofs.Ytalidommelefaaa
set_option linter.unusedVariables false
set_option linter.unusedSimpArgs false
/-- A place of a table, and the span of its values. -/
structure Kn where
  x : Int
  lo : Int
  hi : Int
/-- The values at a place of the line from a knot to the next one. -/
def lineV (a b : Kn) (x : Int) : Int × Int := (a.lo + (x - a.x) * (b.lo - a.lo) / (b.x - a.x), a.hi - (x - a.x) * (a.hi - b.hi) / (b.x - a.x))
def atV : List Kn → Int → Int × Int
  | a :: b :: r, x => if x ≤ b.x ∨ r = [] then lineV a b x else atV (b :: r) x
  | _, _ => (0, 0)
inductive Incr : List Kn → Prop
  | nil : Incr []
  | one (a : Kn) : Incr [a]
  | cons {a b : Kn} {l : List Kn} (h : a.x < b.x) (k : Incr (b :: l)) : Incr (a :: b :: l)
theorem lineV_end {a b : Kn} (h : a.x < b.x) : lineV a b b.x = (b.lo, b.hi) := by
  unfold lineV
  have : b.x - a.x ≠ 0 := by omega
  rw [Int.mul_ediv_cancel_left _ this, Int.mul_ediv_cancel_left _ this]
  simp; omega
theorem lineV_start {a b : Kn} : lineV a b a.x = (a.lo, a.hi) := by
  unfold lineV
  simp
theorem Incr.at_ : ∀ {l : List Kn}, Incr l → ∀ {i j : Nat} {a b : Kn}, i < j → l[i]? = some a → l[j]? = some b → a.x < b.x
  | _, .nil, i, j, a, b, _, h, _ => by simp at h
  | _, .one _, i, j, a, b, hij, _, h => by
    have := (List.getElem?_eq_some_iff.1 h).1
    simp at this; omega
  | _, .cons (a := u) (b := v) (l := l) h k, i, j, a, b, hij, ha, hb => by
    cases j with
    | zero => omega
    | succ j =>
      rw [List.getElem?_cons_succ] at hb
      cases i with
      | zero =>
        obtain rfl : u = a := by simpa using ha
        cases j with
        | zero =>
          obtain rfl : v = b := by simpa using hb
          exact h
        | succ j =>
          have := Incr.at_ k (i := 0) (j := j + 1) (by omega) rfl hb
          omega
      | succ i =>
        rw [List.getElem?_cons_succ] at ha
        exact Incr.at_ k (by omega) ha hb
/-- The values at a place, by any segment that it lies in. -/
theorem atV_seg : ∀ {l : List Kn}, Incr l → ∀ {i : Nat} {a b : Kn} {x : Int}, l[i]? = some a → l[i + 1]? = some b → (i = 0 ∨ a.x ≤ x) → (i + 2 = l.length ∨ x ≤ b.x) → atV l x = lineV a b x
  | _, .nil, i, a, b, x, h, _, _, _ => by simp at h
  | _, .one _, i, a, b, x, _, h, _, _ => by
    have := (List.getElem?_eq_some_iff.1 h).1
    simp at this
  | _, .cons (a := u) (b := v) (l := l) h k, i, a, b, x, ha, hb, h0, h1 => by
    cases i with
    | zero =>
      obtain rfl : u = a := by simpa using ha
      obtain rfl : v = b := by simpa using hb
      have : x ≤ v.x ∨ l = [] := by
        rcases h1 with h1 | h1
        · right; simp at h1; exact h1
        · exact .inl h1
      unfold atV
      rw [if_pos this]
    | succ i =>
      rw [List.getElem?_cons_succ] at ha hb
      have hax : a.x ≤ x := by rcases h0 with h0 | h0; omega; exact h0
      by_cases hl : l = []
      · subst hl
        have := (List.getElem?_eq_some_iff.1 hb).1
        simp at this
      · by_cases hx : x ≤ v.x
        · have hi : i = 0 := by
            cases i with
            | zero => rfl
            | succ i =>
              have := Incr.at_ k (i := 0) (j := i + 1) (by omega) rfl ha
              omega
          subst hi
          obtain rfl : v = a := by simpa using ha
          have : x = v.x := by omega
          unfold atV
          rw [if_pos (.inl hx), this, lineV_end h, lineV_start]
        · unfold atV
          rw [if_neg (by rintro (h | h); exact hx h; exact hl h)]
          exact atV_seg k ha hb (.inr hax) (by simpa using h1)
def Kn.val (k : Kn) : Int × Int := (k.lo, k.hi)
def kIn (p q : Int) (k : Kn) : Bool := decide (p < k.x) && decide (k.x < q)
def kInR (p q : Int) (k : Kn) : Bool := decide (p ≤ k.x) && decide (k.x ≤ q)
/-- The least span of a table's values from p to q. -/
def valV (t : List Kn) (p q : Int) : Int × Int := hullA (hullS (atV t p) (atV t q)) ((t.filter (kIn p q)).map Kn.val)
/-- a holds b. -/
def SIn (b a : Int × Int) : Prop := a.1 ≤ b.1 ∧ b.2 ≤ a.2
theorem SIn.refl (a : Int × Int) : SIn a a := ⟨Int.le_refl _, Int.le_refl _⟩
theorem SIn.trans {a b c : Int × Int} (h : SIn a b) (k : SIn b c) : SIn a c := ⟨Int.le_trans k.1 h.1, Int.le_trans h.2 k.2⟩
theorem hullS_absorb {a b : Int × Int} (h : SIn b a) : hullS a b = a := by
  obtain ⟨a1, a2⟩ := a
  obtain ⟨b1, b2⟩ := b
  unfold hullS
  simp only [SIn] at h ⊢
  rw [Int.min_eq_left h.1, Int.max_eq_left h.2]
theorem hullS_left (a b : Int × Int) : SIn a (hullS a b) := by unfold SIn hullS; simp only; omega
theorem hullS_right (a b : Int × Int) : SIn b (hullS a b) := by unfold SIn hullS; simp only; omega
theorem hullS_least {a b c : Int × Int} (h : SIn a c) (k : SIn b c) : SIn (hullS a b) c := by unfold SIn hullS at *; simp only; omega
theorem hullA_mono {s : Int × Int} : ∀ {l : List (Int × Int)}, SIn s (hullA s l)
  | [] => SIn.refl s
  | x :: l => (hullS_left s x).trans (hullA_mono (s := hullS s x) (l := l))
theorem hullA_mem {s : Int × Int} : ∀ {l : List (Int × Int)} {x : Int × Int}, x ∈ l → SIn x (hullA s l)
  | y :: l, x, h => by
    rcases List.mem_cons.1 h with rfl | h
    · exact (hullS_right s x).trans (hullA_mono (s := hullS s x) (l := l))
    · exact hullA_mem (s := hullS s y) (l := l) h
theorem hullA_least {c : Int × Int} : ∀ {l : List (Int × Int)} {s : Int × Int}, SIn s c → (∀ x ∈ l, SIn x c) → SIn (hullA s l) c
  | [], s, h, _ => h
  | x :: l, s, h, k => hullA_least (l := l) (hullS_least h (k x (List.mem_cons_self ..))) (fun y hy => k y (List.mem_cons_of_mem _ hy))
theorem SIn.antisymm {a b : Int × Int} (h : SIn a b) (k : SIn b a) : a = b := by
  obtain ⟨a1, a2⟩ := a
  obtain ⟨b1, b2⟩ := b
  simp only [SIn, Prod.mk.injEq] at *
  omega
/-- Some knots may be left out, if what they hold is held already. -/
theorem hullA_filter {f g : Kn → Bool} {s : Int × Int} {t : List Kn} (hfg : ∀ k ∈ t, f k = true → g k = true) (hg : ∀ k ∈ t, g k = true → f k = true ∨ SIn k.val s) : hullA s ((t.filter g).map Kn.val) = hullA s ((t.filter f).map Kn.val) := by
  apply SIn.antisymm
  · refine hullA_least hullA_mono fun x hx => ?_
    obtain ⟨k, hk, rfl⟩ := List.mem_map.1 hx
    obtain ⟨h1, h2⟩ := List.mem_filter.1 hk
    rcases hg k h1 h2 with h3 | h3
    · exact hullA_mem (List.mem_map.2 ⟨k, List.mem_filter.2 ⟨h1, h3⟩, rfl⟩)
    · exact h3.trans hullA_mono
  · refine hullA_least hullA_mono fun x hx => ?_
    obtain ⟨k, hk, rfl⟩ := List.mem_map.1 hx
    obtain ⟨h1, h2⟩ := List.mem_filter.1 hk
    exact hullA_mem (List.mem_map.2 ⟨k, List.mem_filter.2 ⟨h1, hfg k h1 h2⟩, rfl⟩)
/-- At a knot the values are the knot's. -/
theorem atV_knot {t : List Kn} (h : Incr t) {i : Nat} {k : Kn} (hk : t[i]? = some k) (h2 : 2 ≤ t.length) : atV t k.x = k.val := by
  have hi := (List.getElem?_eq_some_iff.1 hk).1
  cases i with
  | zero =>
    have hb : t[1]? = some t[1] := List.getElem?_eq_getElem (by omega)
    rw [atV_seg h (i := 0) hk hb (.inl rfl) (.inr (by have := h.at_ (i := 0) (j := 1) (by omega) hk hb; omega)), lineV_start]; rfl
  | succ i =>
    have ha : t[i]? = some t[i] := List.getElem?_eq_getElem (by omega)
    have := h.at_ (by omega) ha hk
    rw [atV_seg h (i := i) ha hk (.inr (by omega)) (.inr (Int.le_refl _)), lineV_end this]; rfl
/-- Between, or at the ends: that's the same. -/
theorem valV_closed {t : List Kn} (h : Incr t) (h2 : 2 ≤ t.length) {p q : Int} : hullA (hullS (atV t p) (atV t q)) ((t.filter (kInR p q)).map Kn.val) = valV t p q := by
  unfold valV
  refine hullA_filter (fun k _ hk => ?_) (fun k hk hk2 => ?_)
  · simp only [kIn, kInR, Bool.and_eq_true, decide_eq_true_eq] at *; omega
  · simp only [kIn, kInR, Bool.and_eq_true, decide_eq_true_eq] at *
    obtain ⟨i, hi, hik⟩ := List.getElem_of_mem hk
    have hki : t[i]? = some k := by rw [List.getElem?_eq_getElem hi, hik]
    by_cases h1 : k.x = p
    · right
      rw [← h1, atV_knot h hki h2]
      exact hullS_left _ _
    · by_cases h3 : k.x = q
      · right
        rw [← h3, atV_knot h hki h2]
        exact hullS_right _ _
      · left; omega

def knCells (k : Kn) : List Value := [.int .i64 k.x, .int .i64 k.lo, .int .i64 k.hi]
structure TabOk (t : List Kn) : Prop where
  l2 : 2 ≤ t.length
  l32 : t.length ≤ 32
  inc : Incr t
  ok : ∀ k ∈ t, -100000 ≤ k.x ∧ k.x ≤ 100000 ∧ -100000 ≤ k.lo ∧ k.lo ≤ k.hi ∧ k.hi ≤ 100000
theorem TabOk.at_ {t : List Kn} (h : TabOk t) {i : Nat} {k : Kn} (hk : t[i]? = some k) : -100000 ≤ k.x ∧ k.x ≤ 100000 ∧ -100000 ≤ k.lo ∧ k.lo ≤ k.hi ∧ k.hi ≤ 100000 := h.ok k (List.mem_of_getElem? hk)
theorem kn_read {w : World} {A : Option Addr} {n : Nat} {t : List Kn} (h : RdS w 3 A n (t.map knCells)) {i : Nat} (hi : i < n) :
    ∃ b o k, A = some ⟨b, o, none⟩ ∧ b < w.heap.size ∧ t[i]? = some k ∧ w.cell? ⟨b, o + i * 3, none⟩ = some (.int .i64 k.x) ∧ w.cell? ⟨b, o + i * 3 + 1, none⟩ = some (.int .i64 k.lo) ∧ w.cell? ⟨b, o + i * 3 + 2, none⟩ = some (.int .i64 k.hi) := by
  obtain ⟨b, o, cs, hA, hb, hx, _, hc⟩ := h.row hi
  simp only [List.getElem?_map, Option.map_eq_some_iff] at hx
  obtain ⟨x, hx, rfl⟩ := hx
  exact ⟨b, o, x, hA, hb, hx, hc 0 _ rfl, hc 1 _ rfl, hc 2 _ rfl⟩
/-- Where a property that stays begins. -/
theorem mono_cut {p : Nat → Bool} (n : Nat) (hm : ∀ i j, i ≤ j → j < n → p i = true → p j = true) : ∃ r, r ≤ n ∧ (∀ j, j < r → p j = false) ∧ ∀ j, r ≤ j → j < n → p j = true := by
  induction n with
  | zero => exact ⟨0, by omega, fun j hj => by omega, fun j _ hj => by omega⟩
  | succ n ih =>
    obtain ⟨r, h1, h2, h3⟩ := ih (fun i j hij hj => hm i j hij (by omega))
    by_cases hr : r < n
    · exact ⟨r, by omega, h2, fun j hj hj2 => by
        rcases Nat.lt_or_ge j n with h | h
        · exact h3 j hj h
        · exact hm r j hj hj2 (h3 r (Nat.le_refl _) hr)⟩
    · cases hp : p n with
      | true => exact ⟨n, by omega, fun j hj => h2 j (by omega), fun j hj hj2 => by rw [show j = n by omega]; exact hp⟩
      | false => exact ⟨n + 1, by omega, fun j hj => by
          rcases Nat.lt_or_ge j r with h | h
          · exact h2 j h
          · rw [show j = n by omega]; exact hp, fun j hj hj2 => by omega⟩
theorem div_uniq {a b k : Int} (hb : 0 < b) (h1 : k * b ≤ a) (h2 : a < (k + 1) * b) : a / b = k :=
  Int.le_antisymm (Int.lt_add_one_iff.1 (Int.ediv_lt_of_lt_mul hb h2)) (Int.le_ediv_of_mul_le hb h1)
/-- Rounded towards 0, and put right: rounded down. -/
theorem down_eq {a b : Int} (hb : 0 < b) : (a < a.tdiv b * b → a / b = a.tdiv b - 1) ∧ (¬ a < a.tdiv b * b → a / b = a.tdiv b) := by
  rcases Int.le_total 0 a with h | h
  · have e := Int.tdiv_eq_ediv_of_nonneg (b := b) h
    have := Int.ediv_mul_le a (Int.ne_of_gt hb)
    rw [e]
    exact ⟨fun h => by omega, fun _ => rfl⟩
  · have e : a.tdiv b = -((-a) / b) := by rw [← Int.tdiv_eq_ediv_of_nonneg (by omega), Int.neg_tdiv, Int.neg_neg]
    have h1 := Int.ediv_mul_le (-a) (Int.ne_of_gt hb)
    have h2 := Int.lt_ediv_add_one_mul_self (-a) hb
    generalize hm : (-a) / b = m at *
    rw [e]
    have e2 : -m * b = -(m * b) := Int.neg_mul ..
    rw [Int.add_mul, Int.one_mul] at h2
    refine ⟨fun h => div_uniq hb ?_ ?_, fun h => div_uniq hb ?_ ?_⟩
    · rw [Int.sub_mul, Int.one_mul]; omega
    · rw [show -m - 1 + 1 = -m by omega]; omega
    · omega
    · rw [Int.add_mul, Int.one_mul]; omega
theorem tdiv_abs {a b m : Int} (hb : 0 < b) (h : -m ≤ a ∧ a ≤ m) : -m ≤ a.tdiv b ∧ a.tdiv b ≤ m := by
  rcases Int.le_total 0 a with h0 | h0
  · rw [Int.tdiv_eq_ediv_of_nonneg h0]
    have := Int.ediv_le_self b h0
    have := Int.ediv_nonneg h0 (Int.le_of_lt hb)
    omega
  · have e : a.tdiv b = -((-a) / b) := by rw [← Int.tdiv_eq_ediv_of_nonneg (by omega), Int.neg_tdiv, Int.neg_neg]
    have := Int.ediv_le_self b (show 0 ≤ -a by omega)
    have := Int.ediv_nonneg (show 0 ≤ -a by omega) (Int.le_of_lt hb)
    rw [e]; omega
theorem ediv_abs {a b m : Int} (hb : 0 < b) (h : -m ≤ a ∧ a ≤ m) : -m - 1 ≤ a / b ∧ a / b ≤ m := by
  have := tdiv_abs hb h
  have k := down_eq (a := a) hb
  by_cases hh : a < a.tdiv b * b
  · rw [k.1 hh]; omega
  · rw [k.2 hh]; omega
def accV (t : List Kn) (p q : Int) (k : Nat) : Int × Int := hullA (hullS (atV t p) (atV t q)) (((t.take k).filter (kIn p q)).map Kn.val)
theorem accV_zero (t : List Kn) (p q : Int) : accV t p q 0 = hullS (atV t p) (atV t q) := by simp [accV, hullA]
theorem accV_all {t : List Kn} {p q : Int} {k : Nat} (h : t.length ≤ k) : accV t p q k = valV t p q := by unfold accV valV; rw [List.take_of_length_le h]
theorem accV_yes {t : List Kn} {p q : Int} {k : Nat} {x : Kn} (h : t[k]? = some x) (h1 : p < x.x) (h2 : x.x < q) : accV t p q (k + 1) = hullS (accV t p q k) x.val := by
  unfold accV hullA
  rw [List.take_add_one, h, List.filter_append, List.map_append, List.foldl_append]
  simp [kIn, h1, h2]
theorem accV_no {t : List Kn} {p q : Int} {k : Nat} {x : Kn} (h : t[k]? = some x) (h1 : ¬ (p < x.x ∧ x.x < q)) : accV t p q (k + 1) = accV t p q k := by
  unfold accV hullA
  rw [List.take_add_one, h, List.filter_append, List.map_append, List.foldl_append]
  have : kIn p q x = false := by simp [kIn]; omega
  simp [this]
end Go.Proofs.Ytalidommelefaaa
