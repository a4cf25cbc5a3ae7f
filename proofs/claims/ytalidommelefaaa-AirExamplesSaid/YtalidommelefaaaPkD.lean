/- Tables, levels, valid soundings. -/
import Derived.Test.YtalidommelefaaaPkC
import Derived.Test.YtalidommelefaaaPkA
import Derived.Test.YtalidommelefaaaPkB
/- Tables: the values at a place, and between places. Plain laws. -/
namespace Go.Proofs.Ytalidommelefaaa
set_option linter.unusedVariables false
set_option linter.unusedSimpArgs false
/-- A place of a table, and the span of its values. -/
structure Kn where
  x : Int
  lo : Int
  hi : Int
/-- The values at a place of the line from a knot to the next one. -/
def lineV (a b : Kn) (x : Int) : Int × Int := (a.lo + (x - a.x) * (b.lo - a.lo) / (b.x - a.x), a.hi - (x - a.x) * (a.hi - b.hi) / (b.x - a.x))
def atV : List Kn → Int → Int × Int
  | a :: b :: r, x => if x ≤ b.x ∨ r = [] then lineV a b x else atV (b :: r) x
  | _, _ => (0, 0)
inductive Incr : List Kn → Prop
  | nil : Incr []
  | one (a : Kn) : Incr [a]
  | cons {a b : Kn} {l : List Kn} (h : a.x < b.x) (k : Incr (b :: l)) : Incr (a :: b :: l)
theorem lineV_end {a b : Kn} (h : a.x < b.x) : lineV a b b.x = (b.lo, b.hi) := by
  unfold lineV
  have : b.x - a.x ≠ 0 := by omega
  rw [Int.mul_ediv_cancel_left _ this, Int.mul_ediv_cancel_left _ this]
  simp; omega
theorem lineV_start {a b : Kn} : lineV a b a.x = (a.lo, a.hi) := by
  unfold lineV
  simp
theorem Incr.at_ : ∀ {l : List Kn}, Incr l → ∀ {i j : Nat} {a b : Kn}, i < j → l[i]? = some a → l[j]? = some b → a.x < b.x
  | _, .nil, i, j, a, b, _, h, _ => by simp at h
  | _, .one _, i, j, a, b, hij, _, h => by
    have := (List.getElem?_eq_some_iff.1 h).1
    simp at this; omega
  | _, .cons (a := u) (b := v) (l := l) h k, i, j, a, b, hij, ha, hb => by
    cases j with
    | zero => omega
    | succ j =>
      rw [List.getElem?_cons_succ] at hb
      cases i with
      | zero =>
        obtain rfl : u = a := by simpa using ha
        cases j with
        | zero =>
          obtain rfl : v = b := by simpa using hb
          exact h
        | succ j =>
          have := Incr.at_ k (i := 0) (j := j + 1) (by omega) rfl hb
          omega
      | succ i =>
        rw [List.getElem?_cons_succ] at ha
        exact Incr.at_ k (by omega) ha hb
/-- The values at a place, by any segment that it lies in. -/
theorem atV_seg : ∀ {l : List Kn}, Incr l → ∀ {i : Nat} {a b : Kn} {x : Int}, l[i]? = some a → l[i + 1]? = some b → (i = 0 ∨ a.x ≤ x) → (i + 2 = l.length ∨ x ≤ b.x) → atV l x = lineV a b x
  | _, .nil, i, a, b, x, h, _, _, _ => by simp at h
  | _, .one _, i, a, b, x, _, h, _, _ => by
    have := (List.getElem?_eq_some_iff.1 h).1
    simp at this
  | _, .cons (a := u) (b := v) (l := l) h k, i, a, b, x, ha, hb, h0, h1 => by
    cases i with
    | zero =>
      obtain rfl : u = a := by simpa using ha
      obtain rfl : v = b := by simpa using hb
      have : x ≤ v.x ∨ l = [] := by
        rcases h1 with h1 | h1
        · right; simp at h1; exact h1
        · exact .inl h1
      unfold atV
      rw [if_pos this]
    | succ i =>
      rw [List.getElem?_cons_succ] at ha hb
      have hax : a.x ≤ x := by rcases h0 with h0 | h0; omega; exact h0
      by_cases hl : l = []
      · subst hl
        have := (List.getElem?_eq_some_iff.1 hb).1
        simp at this
      · by_cases hx : x ≤ v.x
        · have hi : i = 0 := by
            cases i with
            | zero => rfl
            | succ i =>
              have := Incr.at_ k (i := 0) (j := i + 1) (by omega) rfl ha
              omega
          subst hi
          obtain rfl : v = a := by simpa using ha
          have : x = v.x := by omega
          unfold atV
          rw [if_pos (.inl hx), this, lineV_end h, lineV_start]
        · unfold atV
          rw [if_neg (by rintro (h | h); exact hx h; exact hl h)]
          exact atV_seg k ha hb (.inr hax) (by simpa using h1)
def Kn.val (k : Kn) : Int × Int := (k.lo, k.hi)
def kIn (p q : Int) (k : Kn) : Bool := decide (p < k.x) && decide (k.x < q)
def kInR (p q : Int) (k : Kn) : Bool := decide (p ≤ k.x) && decide (k.x ≤ q)
/-- The least span of a table's values from p to q. -/
def valV (t : List Kn) (p q : Int) : Int × Int := hullA (hullS (atV t p) (atV t q)) ((t.filter (kIn p q)).map Kn.val)
/-- a holds b. -/
def SIn (b a : Int × Int) : Prop := a.1 ≤ b.1 ∧ b.2 ≤ a.2
theorem SIn.refl (a : Int × Int) : SIn a a := ⟨Int.le_refl _, Int.le_refl _⟩
theorem SIn.trans {a b c : Int × Int} (h : SIn a b) (k : SIn b c) : SIn a c := ⟨Int.le_trans k.1 h.1, Int.le_trans h.2 k.2⟩
theorem hullS_absorb {a b : Int × Int} (h : SIn b a) : hullS a b = a := by
  obtain ⟨a1, a2⟩ := a
  obtain ⟨b1, b2⟩ := b
  unfold hullS
  simp only [SIn] at h ⊢
  rw [Int.min_eq_left h.1, Int.max_eq_left h.2]
theorem hullS_left (a b : Int × Int) : SIn a (hullS a b) := by unfold SIn hullS; simp only; omega
theorem hullS_right (a b : Int × Int) : SIn b (hullS a b) := by unfold SIn hullS; simp only; omega
theorem hullS_least {a b c : Int × Int} (h : SIn a c) (k : SIn b c) : SIn (hullS a b) c := by unfold SIn hullS at *; simp only; omega
theorem hullA_mono {s : Int × Int} : ∀ {l : List (Int × Int)}, SIn s (hullA s l)
  | [] => SIn.refl s
  | x :: l => (hullS_left s x).trans (hullA_mono (s := hullS s x) (l := l))
theorem hullA_mem {s : Int × Int} : ∀ {l : List (Int × Int)} {x : Int × Int}, x ∈ l → SIn x (hullA s l)
  | y :: l, x, h => by
    rcases List.mem_cons.1 h with rfl | h
    · exact (hullS_right s x).trans (hullA_mono (s := hullS s x) (l := l))
    · exact hullA_mem (s := hullS s y) (l := l) h
theorem hullA_least {c : Int × Int} : ∀ {l : List (Int × Int)} {s : Int × Int}, SIn s c → (∀ x ∈ l, SIn x c) → SIn (hullA s l) c
  | [], s, h, _ => h
  | x :: l, s, h, k => hullA_least (l := l) (hullS_least h (k x (List.mem_cons_self ..))) (fun y hy => k y (List.mem_cons_of_mem _ hy))
theorem SIn.antisymm {a b : Int × Int} (h : SIn a b) (k : SIn b a) : a = b := by
  obtain ⟨a1, a2⟩ := a
  obtain ⟨b1, b2⟩ := b
  simp only [SIn, Prod.mk.injEq] at *
  omega
/-- Some knots may be left out, if what they hold is held already. -/
theorem hullA_filter {f g : Kn → Bool} {s : Int × Int} {t : List Kn} (hfg : ∀ k ∈ t, f k = true → g k = true) (hg : ∀ k ∈ t, g k = true → f k = true ∨ SIn k.val s) : hullA s ((t.filter g).map Kn.val) = hullA s ((t.filter f).map Kn.val) := by
  apply SIn.antisymm
  · refine hullA_least hullA_mono fun x hx => ?_
    obtain ⟨k, hk, rfl⟩ := List.mem_map.1 hx
    obtain ⟨h1, h2⟩ := List.mem_filter.1 hk
    rcases hg k h1 h2 with h3 | h3
    · exact hullA_mem (List.mem_map.2 ⟨k, List.mem_filter.2 ⟨h1, h3⟩, rfl⟩)
    · exact h3.trans hullA_mono
  · refine hullA_least hullA_mono fun x hx => ?_
    obtain ⟨k, hk, rfl⟩ := List.mem_map.1 hx
    obtain ⟨h1, h2⟩ := List.mem_filter.1 hk
    exact hullA_mem (List.mem_map.2 ⟨k, List.mem_filter.2 ⟨h1, hfg k h1 h2⟩, rfl⟩)
/-- At a knot the values are the knot's. -/
theorem atV_knot {t : List Kn} (h : Incr t) {i : Nat} {k : Kn} (hk : t[i]? = some k) (h2 : 2 ≤ t.length) : atV t k.x = k.val := by
  have hi := (List.getElem?_eq_some_iff.1 hk).1
  cases i with
  | zero =>
    have hb : t[1]? = some t[1] := List.getElem?_eq_getElem (by omega)
    rw [atV_seg h (i := 0) hk hb (.inl rfl) (.inr (by have := h.at_ (i := 0) (j := 1) (by omega) hk hb; omega)), lineV_start]; rfl
  | succ i =>
    have ha : t[i]? = some t[i] := List.getElem?_eq_getElem (by omega)
    have := h.at_ (by omega) ha hk
    rw [atV_seg h (i := i) ha hk (.inr (by omega)) (.inr (Int.le_refl _)), lineV_end this]; rfl
/-- Between, or at the ends: that's the same. -/
theorem valV_closed {t : List Kn} (h : Incr t) (h2 : 2 ≤ t.length) {p q : Int} : hullA (hullS (atV t p) (atV t q)) ((t.filter (kInR p q)).map Kn.val) = valV t p q := by
  unfold valV
  refine hullA_filter (fun k _ hk => ?_) (fun k hk hk2 => ?_)
  · simp only [kIn, kInR, Bool.and_eq_true, decide_eq_true_eq] at *; omega
  · simp only [kIn, kInR, Bool.and_eq_true, decide_eq_true_eq] at *
    obtain ⟨i, hi, hik⟩ := List.getElem_of_mem hk
    have hki : t[i]? = some k := by rw [List.getElem?_eq_getElem hi, hik]
    by_cases h1 : k.x = p
    · right
      rw [← h1, atV_knot h hki h2]
      exact hullS_left _ _
    · by_cases h3 : k.x = q
      · right
        rw [← h3, atV_knot h hki h2]
        exact hullS_right _ _
      · left; omega

def knCells (k : Kn) : List Value := [.int .i64 k.x, .int .i64 k.lo, .int .i64 k.hi]
structure TabOk (t : List Kn) : Prop where
  l2 : 2 ≤ t.length
  l32 : t.length ≤ 32
  inc : Incr t
  ok : ∀ k ∈ t, -100000 ≤ k.x ∧ k.x ≤ 100000 ∧ -100000 ≤ k.lo ∧ k.lo ≤ k.hi ∧ k.hi ≤ 100000
theorem TabOk.at_ {t : List Kn} (h : TabOk t) {i : Nat} {k : Kn} (hk : t[i]? = some k) : -100000 ≤ k.x ∧ k.x ≤ 100000 ∧ -100000 ≤ k.lo ∧ k.lo ≤ k.hi ∧ k.hi ≤ 100000 := h.ok k (List.mem_of_getElem? hk)
theorem kn_read {w : World} {A : Option Addr} {n : Nat} {t : List Kn} (h : RdS w 3 A n (t.map knCells)) {i : Nat} (hi : i < n) :
    ∃ b o k, A = some ⟨b, o, none⟩ ∧ b < w.heap.size ∧ t[i]? = some k ∧ w.cell? ⟨b, o + i * 3, none⟩ = some (.int .i64 k.x) ∧ w.cell? ⟨b, o + i * 3 + 1, none⟩ = some (.int .i64 k.lo) ∧ w.cell? ⟨b, o + i * 3 + 2, none⟩ = some (.int .i64 k.hi) := by
  obtain ⟨b, o, cs, hA, hb, hx, _, hc⟩ := h.row hi
  simp only [List.getElem?_map, Option.map_eq_some_iff] at hx
  obtain ⟨x, hx, rfl⟩ := hx
  exact ⟨b, o, x, hA, hb, hx, hc 0 _ rfl, hc 1 _ rfl, hc 2 _ rfl⟩
/-- Where a property that stays begins. -/
theorem mono_cut {p : Nat → Bool} (n : Nat) (hm : ∀ i j, i ≤ j → j < n → p i = true → p j = true) : ∃ r, r ≤ n ∧ (∀ j, j < r → p j = false) ∧ ∀ j, r ≤ j → j < n → p j = true := by
  induction n with
  | zero => exact ⟨0, by omega, fun j hj => by omega, fun j _ hj => by omega⟩
  | succ n ih =>
    obtain ⟨r, h1, h2, h3⟩ := ih (fun i j hij hj => hm i j hij (by omega))
    by_cases hr : r < n
    · exact ⟨r, by omega, h2, fun j hj hj2 => by
        rcases Nat.lt_or_ge j n with h | h
        · exact h3 j hj h
        · exact hm r j hj hj2 (h3 r (Nat.le_refl _) hr)⟩
    · cases hp : p n with
      | true => exact ⟨n, by omega, fun j hj => h2 j (by omega), fun j hj hj2 => by rw [show j = n by omega]; exact hp⟩
      | false => exact ⟨n + 1, by omega, fun j hj => by
          rcases Nat.lt_or_ge j r with h | h
          · exact h2 j h
          · rw [show j = n by omega]; exact hp, fun j hj hj2 => by omega⟩
theorem div_uniq {a b k : Int} (hb : 0 < b) (h1 : k * b ≤ a) (h2 : a < (k + 1) * b) : a / b = k :=
  Int.le_antisymm (Int.lt_add_one_iff.1 (Int.ediv_lt_of_lt_mul hb h2)) (Int.le_ediv_of_mul_le hb h1)
/-- Rounded towards 0, and put right: rounded down. -/
theorem down_eq {a b : Int} (hb : 0 < b) : (a < a.tdiv b * b → a / b = a.tdiv b - 1) ∧ (¬ a < a.tdiv b * b → a / b = a.tdiv b) := by
  rcases Int.le_total 0 a with h | h
  · have e := Int.tdiv_eq_ediv_of_nonneg (b := b) h
    have := Int.ediv_mul_le a (Int.ne_of_gt hb)
    rw [e]
    exact ⟨fun h => by omega, fun _ => rfl⟩
  · have e : a.tdiv b = -((-a) / b) := by rw [← Int.tdiv_eq_ediv_of_nonneg (by omega), Int.neg_tdiv, Int.neg_neg]
    have h1 := Int.ediv_mul_le (-a) (Int.ne_of_gt hb)
    have h2 := Int.lt_ediv_add_one_mul_self (-a) hb
    generalize hm : (-a) / b = m at *
    rw [e]
    have e2 : -m * b = -(m * b) := Int.neg_mul ..
    rw [Int.add_mul, Int.one_mul] at h2
    refine ⟨fun h => div_uniq hb ?_ ?_, fun h => div_uniq hb ?_ ?_⟩
    · rw [Int.sub_mul, Int.one_mul]; omega
    · rw [show -m - 1 + 1 = -m by omega]; omega
    · omega
    · rw [Int.add_mul, Int.one_mul]; omega
theorem tdiv_abs {a b m : Int} (hb : 0 < b) (h : -m ≤ a ∧ a ≤ m) : -m ≤ a.tdiv b ∧ a.tdiv b ≤ m := by
  rcases Int.le_total 0 a with h0 | h0
  · rw [Int.tdiv_eq_ediv_of_nonneg h0]
    have := Int.ediv_le_self b h0
    have := Int.ediv_nonneg h0 (Int.le_of_lt hb)
    omega
  · have e : a.tdiv b = -((-a) / b) := by rw [← Int.tdiv_eq_ediv_of_nonneg (by omega), Int.neg_tdiv, Int.neg_neg]
    have := Int.ediv_le_self b (show 0 ≤ -a by omega)
    have := Int.ediv_nonneg (show 0 ≤ -a by omega) (Int.le_of_lt hb)
    rw [e]; omega
theorem ediv_abs {a b m : Int} (hb : 0 < b) (h : -m ≤ a ∧ a ≤ m) : -m - 1 ≤ a / b ∧ a / b ≤ m := by
  have := tdiv_abs hb h
  have k := down_eq (a := a) hb
  by_cases hh : a < a.tdiv b * b
  · rw [k.1 hh]; omega
  · rw [k.2 hh]; omega
def accV (t : List Kn) (p q : Int) (k : Nat) : Int × Int := hullA (hullS (atV t p) (atV t q)) (((t.take k).filter (kIn p q)).map Kn.val)
theorem accV_zero (t : List Kn) (p q : Int) : accV t p q 0 = hullS (atV t p) (atV t q) := by simp [accV, hullA]
theorem accV_all {t : List Kn} {p q : Int} {k : Nat} (h : t.length ≤ k) : accV t p q k = valV t p q := by unfold accV valV; rw [List.take_of_length_le h]
theorem accV_yes {t : List Kn} {p q : Int} {k : Nat} {x : Kn} (h : t[k]? = some x) (h1 : p < x.x) (h2 : x.x < q) : accV t p q (k + 1) = hullS (accV t p q k) x.val := by
  unfold accV hullA
  rw [List.take_add_one, h, List.filter_append, List.map_append, List.foldl_append]
  simp [kIn, h1, h2]
theorem accV_no {t : List Kn} {p q : Int} {k : Nat} {x : Kn} (h : t[k]? = some x) (h1 : ¬ (p < x.x ∧ x.x < q)) : accV t p q (k + 1) = accV t p q k := by
  unfold accV hullA
  rw [List.take_add_one, h, List.filter_append, List.map_append, List.foldl_append]
  have : kIn p q x = false := by simp [kIn]; omega
  simp [this]
end Go.Proofs.Ytalidommelefaaa
/- Levels: what is valid of their heights. Plain laws. -/
namespace Go.Proofs.Ytalidommelefaaa
set_option linter.unusedVariables false
set_option linter.unusedSimpArgs false
/-- A level: its height, pressure and temperature. -/
structure Lv where
  h : Int
  plo : Int
  phi : Int
  tlo : Int
  thi : Int
def Lv.press (x : Lv) : Int × Int := (x.plo, x.phi)
def Lv.temp (x : Lv) : Int × Int := (x.tlo, x.thi)
def Lv.put (x : Lv) (s : Int × Int) : Lv := ⟨x.h, s.1, s.2, x.tlo, x.thi⟩

def lvCells (x : Lv) : List Value := [.int .i64 x.h, .int .i64 x.plo, .int .i64 x.phi, .int .i64 x.tlo, .int .i64 x.thi]
theorem lv_read {w : World} {A : Option Addr} {n : Nat} {l : List Lv} (h : RdS w 5 A n (l.map lvCells)) {i : Nat} (hi : i < n) :
    ∃ b o x, A = some ⟨b, o, none⟩ ∧ b < w.heap.size ∧ l[i]? = some x ∧ w.cell? ⟨b, o + i * 5, none⟩ = some (.int .i64 x.h) ∧ w.cell? ⟨b, o + i * 5 + 1, none⟩ = some (.int .i64 x.plo) ∧ w.cell? ⟨b, o + i * 5 + 2, none⟩ = some (.int .i64 x.phi) ∧
      w.cell? ⟨b, o + i * 5 + 3, none⟩ = some (.int .i64 x.tlo) ∧ w.cell? ⟨b, o + i * 5 + 4, none⟩ = some (.int .i64 x.thi) := by
  obtain ⟨b, o, cs, hA, hb, hx, _, hc⟩ := h.row hi
  simp only [List.getElem?_map, Option.map_eq_some_iff] at hx
  obtain ⟨x, hx, rfl⟩ := hx
  exact ⟨b, o, x, hA, hb, hx, hc 0 _ rfl, hc 1 _ rfl, hc 2 _ rfl, hc 3 _ rfl, hc 4 _ rfl⟩
/-- A level of a valid sounding, but for its height. -/
def lvOk (x : Lv) : Bool := decide (x.plo ≤ x.phi ∧ 1000 ≤ x.plo ∧ x.phi ≤ 12000) && decide (x.tlo ≤ x.thi ∧ 1500 ≤ x.tlo ∧ x.thi ≤ 3500)
/-- The height of a level, and how far it is above the one below it. -/
def stepOk (l : List Int) (i : Nat) : Bool := match l[i]? with
  | some x => decide (-500 ≤ x ∧ x ≤ 9000) && (match i with | 0 => true | j + 1 => match l[j]? with | some y => decide (1 ≤ x - y ∧ x - y ≤ 2000) | none => true)
  | none => true
def climbsV (l : List Int) : Bool := (List.range l.length).all (stepOk l) && decide (2 ≤ l.length ∧ l.length ≤ 16)
def soundB (l : List Lv) : Bool := climbsV (l.map Lv.h) && l.all lvOk
theorem all_range_no {n k : Nat} {p : Nat → Bool} (hk : k < n) (h : p k = false) : (List.range n).all p = false := by
  rw [Bool.eq_false_iff, Ne, List.all_eq_true]
  intro h2
  have := h2 k (List.mem_range.2 hk)
  rw [h] at this
  cases this
theorem all_range_yes {n : Nat} {p : Nat → Bool} (h : ∀ k, k < n → p k = true) : (List.range n).all p = true :=
  List.all_eq_true.2 fun k hk => h k (List.mem_range.1 hk)
theorem stepOk_zero {l : List Int} {x : Int} (h : l[0]? = some x) : stepOk l 0 = decide (-500 ≤ x ∧ x ≤ 9000) := by unfold stepOk; simp [h]
theorem stepOk_succ {l : List Int} {x y : Int} {j : Nat} (h : l[j + 1]? = some x) (hy : l[j]? = some y) : stepOk l (j + 1) = (decide (-500 ≤ x ∧ x ≤ 9000) && decide (1 ≤ x - y ∧ x - y ≤ 2000)) := by unfold stepOk; simp [h, hy]
theorem stepOk_h {l : List Int} {x : Int} {i : Nat} (h : l[i]? = some x) (hs : stepOk l i = true) : -500 ≤ x ∧ x ≤ 9000 := by
  unfold stepOk at hs
  rw [h] at hs
  simp only [Bool.and_eq_true, decide_eq_true_eq] at hs
  exact hs.1
end Go.Proofs.Ytalidommelefaaa
/- Soundings: what levels say of each other, and where that settles. Plain laws. -/
namespace Go.Proofs.Ytalidommelefaaa
set_option linter.unusedVariables false
set_option linter.unusedSimpArgs false
theorem joinS_left (a b : Int × Int) : SIn (joinS a b) a := by unfold SIn joinS; simp only; omega
theorem joinS_right (a b : Int × Int) : SIn (joinS a b) b := by unfold SIn joinS; simp only; omega
theorem joinS_least {a b c : Int × Int} (h : SIn c a) (k : SIn c b) : SIn c (joinS a b) := by unfold SIn joinS at *; simp only; omega
theorem joinS_same {a b : Int × Int} (h : SIn a b) : joinS a b = a := (joinS_left a b).antisymm (joinS_least (.refl a) h)

/-- What a pressure may be so many metres higher, in a temperature. -/
def riseV (p : Int × Int) (climb : Int) (t : Int × Int) : Int × Int :=
  (p.1 * (1000000 * t.1 - 341632 * climb) / (1000000 * t.1), (p.2 * (1000000 * t.2) + (1000000 * t.2) + 341632 * climb - 1) / (1000000 * t.2 + 341632 * climb))
/-- And so many lower. -/
def sinkV (p : Int × Int) (climb : Int) (t : Int × Int) : Int × Int :=
  (p.1 * (1000000 * t.2 + 341632 * climb) / (1000000 * t.2), (p.2 * (1000000 * t.1) + (1000000 * t.1) - 341632 * climb - 1) / (1000000 * t.1 - 341632 * climb))
/-- What climbs and temperatures there are. -/
structure GapOk (climb : Int) (t : Int × Int) : Prop where
  c0 : 0 ≤ climb
  c1 : climb ≤ 2000
  t0 : 1500 ≤ t.1
  t1 : t.1 ≤ t.2
  t2 : t.2 ≤ 3500
theorem SIn.mk1 {a b : Int × Int} (h1 : a.1 ≤ b.1) (h2 : b.2 ≤ a.2) : SIn b a := ⟨h1, h2⟩
theorem ediv_mono {a b d : Int} (hd : 0 < d) (h : a ≤ b) : a / d ≤ b / d := Int.ediv_le_ediv hd h
theorem rise_mono {p q t : Int × Int} {c : Int} (hg : GapOk c t) (h : SIn q p) : SIn (riseV q c t) (riseV p c t) := by
  obtain ⟨c0, c1, t0, t1, t2⟩ := hg
  refine ⟨ediv_mono (by omega) (Int.mul_le_mul_of_nonneg_right h.1 (by omega)), ediv_mono (by omega) ?_⟩
  have := Int.mul_le_mul_of_nonneg_right (c := 1000000 * t.2) h.2 (by omega)
  omega
theorem sink_mono {p q t : Int × Int} {c : Int} (hg : GapOk c t) (h : SIn q p) : SIn (sinkV q c t) (sinkV p c t) := by
  obtain ⟨c0, c1, t0, t1, t2⟩ := hg
  refine ⟨ediv_mono (by omega) (Int.mul_le_mul_of_nonneg_right h.1 (by omega)), ediv_mono (by omega) ?_⟩
  have := Int.mul_le_mul_of_nonneg_right (c := 1000000 * t.1) h.2 (by omega)
  omega
/-- Down and up: rounded down, it is not more. -/
theorem fl_fl {x a b c d : Int} (hx : 0 ≤ x) (ha : 0 ≤ a) (hb : 0 < b) (hc : 0 ≤ c) (hd : 0 < d) (h : a * c ≤ b * d) : x * a / b * c / d ≤ x := by
  refine Int.ediv_le_of_le_mul hd ?_
  have h1 := Int.ediv_mul_le (x * a) (Int.ne_of_gt hb)
  -- (x a / b) b ≤ x a; times c: ≤ x a c ≤ x b d
  have h2 : x * a / b * b * c ≤ x * a * c := Int.mul_le_mul_of_nonneg_right h1 hc
  have h3 : x * (a * c) ≤ x * (b * d) := Int.mul_le_mul_of_nonneg_left h hx
  have h4 : b * (x * a / b * c) ≤ b * (x * d) := by
    have e1 : b * (x * a / b * c) = x * a / b * b * c := by ac_rfl
    have e2 : b * (x * d) = x * (b * d) := by ac_rfl
    have e3 : x * a * c = x * (a * c) := by ac_rfl
    omega
  exact Int.le_of_mul_le_mul_left h4 hb
/-- a / b, rounded up. -/
theorem cd_le {a b : Int} (hb : 0 < b) : a ≤ (a + b - 1) / b * b := by
  have := Int.lt_ediv_add_one_mul_self (a + b - 1) hb
  rw [Int.add_mul, Int.one_mul] at this
  omega
theorem cd_cd {x a b c d : Int} (hx : 0 ≤ x) (hb : 0 < b) (hc : 0 ≤ c) (hd : 0 < d) (h : b * d ≤ a * c) : x ≤ ((x * a + b - 1) / b * c + d - 1) / d := by
  have h1 := cd_le (a := x * a) hb
  have h2 := cd_le (a := (x * a + b - 1) / b * c) hd
  have h3 : x * a * c ≤ (x * a + b - 1) / b * b * c := Int.mul_le_mul_of_nonneg_right h1 hc
  have h4 : b * ((x * a + b - 1) / b * c) ≤ b * (((x * a + b - 1) / b * c + d - 1) / d * d) := Int.mul_le_mul_of_nonneg_left h2 (by omega)
  have h5 : x * (b * d) ≤ x * (a * c) := Int.mul_le_mul_of_nonneg_left h hx
  have h6 : (b * d) * x ≤ (b * d) * (((x * a + b - 1) / b * c + d - 1) / d) := by
    generalize (x * a + b - 1) / b = y at *
    generalize (y * c + d - 1) / d = z at *
    have e1 : b * (z * d) = b * d * z := by ac_rfl
    have e2 : b * (y * c) = y * b * c := by ac_rfl
    have e3 : x * a * c = x * (a * c) := by ac_rfl
    have e4 : b * d * x = x * (b * d) := by ac_rfl
    omega
  exact Int.le_of_mul_le_mul_left h6 (Int.mul_pos hb hd)
theorem gap_prod {t : Int × Int} {c : Int} (hg : GapOk c t) : (1000000 * t.1 - 341632 * c) * (1000000 * t.2 + 341632 * c) ≤ 1000000 * t.1 * (1000000 * t.2) := by
  obtain ⟨c0, c1, t0, t1, t2⟩ := hg
  generalize hu : 1000000 * t.1 = u
  generalize hv : 1000000 * t.2 = v
  generalize hs : 341632 * c = s
  have h0 : 0 ≤ s := by omega
  have e : (u - s) * (v + s) = u * v - s * (v - u) - s * s := by
    simp only [Int.sub_mul, Int.mul_add, Int.mul_sub]
    have : s * u = u * s := Int.mul_comm ..
    omega
  have h1 : 0 ≤ s * (v - u) := Int.mul_nonneg h0 (by omega)
  have h2 : 0 ≤ s * s := Int.mul_nonneg h0 h0
  omega
theorem rise_sink {x t : Int × Int} {c : Int} (hg : GapOk c t) (h1 : 0 ≤ x.1) (h2 : 0 ≤ x.2) : SIn x (riseV (sinkV x c t) c t) := by
  have hp := gap_prod hg
  obtain ⟨c0, c1, t0, t1, t2⟩ := hg
  unfold riseV sinkV
  refine ⟨fl_fl h1 (by omega) (by omega) (by omega) (by omega) ?_, ?_⟩
  · rw [Int.mul_comm]; rw [Int.mul_comm (1000000 * t.2)]; exact hp
  · have := cd_cd (x := x.2) (a := 1000000 * t.1) (b := 1000000 * t.1 - 341632 * c) (c := 1000000 * t.2) (d := 1000000 * t.2 + 341632 * c) h2 (by omega) (by omega) (by omega) hp
    simp only
    rw [show x.2 * (1000000 * t.1) + 1000000 * t.1 - 341632 * c - 1 = x.2 * (1000000 * t.1) + (1000000 * t.1 - 341632 * c) - 1 by omega]
    generalize (x.2 * (1000000 * t.1) + (1000000 * t.1 - 341632 * c) - 1) / (1000000 * t.1 - 341632 * c) = y at *
    rw [show y * (1000000 * t.2) + 1000000 * t.2 + 341632 * c - 1 = y * (1000000 * t.2) + (1000000 * t.2 + 341632 * c) - 1 by omega]
    exact this
theorem sink_rise {x t : Int × Int} {c : Int} (hg : GapOk c t) (h1 : 0 ≤ x.1) (h2 : 0 ≤ x.2) : SIn x (sinkV (riseV x c t) c t) := by
  have hp := gap_prod hg
  obtain ⟨c0, c1, t0, t1, t2⟩ := hg
  unfold riseV sinkV
  refine ⟨fl_fl h1 (by omega) (by omega) (by omega) (by omega) hp, ?_⟩
  · have := cd_cd (x := x.2) (a := 1000000 * t.2) (b := 1000000 * t.2 + 341632 * c) (c := 1000000 * t.1) (d := 1000000 * t.1 - 341632 * c) h2 (by omega) (by omega) (by omega) (by rw [Int.mul_comm]; rw [Int.mul_comm (1000000 * t.2)]; exact hp)
    simp only
    rw [show x.2 * (1000000 * t.2) + 1000000 * t.2 + 341632 * c - 1 = x.2 * (1000000 * t.2) + (1000000 * t.2 + 341632 * c) - 1 by omega]
    generalize (x.2 * (1000000 * t.2) + (1000000 * t.2 + 341632 * c) - 1) / (1000000 * t.2 + 341632 * c) = y at *
    rw [show y * (1000000 * t.1) + 1000000 * t.1 - 341632 * c - 1 = y * (1000000 * t.1) + (1000000 * t.1 - 341632 * c) - 1 by omega]
    exact this
theorem rise_pos {x t : Int × Int} {c : Int} (hg : GapOk c t) (h1 : 0 ≤ x.1) (h2 : 0 ≤ x.2) : 0 ≤ (riseV x c t).1 ∧ (riseV x c t).1 ≤ x.1 ∧ 0 ≤ (riseV x c t).2 := by
  obtain ⟨c0, c1, t0, t1, t2⟩ := hg
  unfold riseV
  refine ⟨Int.ediv_nonneg (Int.mul_nonneg h1 (by omega)) (by omega), Int.ediv_le_of_le_mul (by omega) (Int.mul_le_mul_of_nonneg_left (by omega) h1), Int.ediv_nonneg ?_ (by omega)⟩
  have := Int.mul_nonneg h2 (show 0 ≤ 1000000 * t.2 by omega)
  omega
theorem sink_pos {x t : Int × Int} {c : Int} (hg : GapOk c t) (h1 : 0 ≤ x.1) (h2 : 0 ≤ x.2) : 0 ≤ (sinkV x c t).1 ∧ (sinkV x c t).1 ≤ 2 * x.1 ∧ 0 ≤ (sinkV x c t).2 := by
  obtain ⟨c0, c1, t0, t1, t2⟩ := hg
  unfold sinkV
  refine ⟨Int.ediv_nonneg (Int.mul_nonneg h1 (by omega)) (by omega), Int.ediv_le_of_le_mul (by omega) ?_, Int.ediv_nonneg ?_ (by omega)⟩
  · rw [Int.mul_comm 2 x.1, Int.mul_assoc]; exact Int.mul_le_mul_of_nonneg_left (by omega) h1
  · have := Int.mul_nonneg h2 (show 0 ≤ 1000000 * t.1 by omega)
    omega
def gapT (a b : Lv) : Int × Int := hullS a.temp b.temp
/-- What a level says of the next one, and the next one of it. -/
def upI (a b : Lv) : Int × Int := riseV a.press (b.h - a.h) (gapT a b)
def dnI (a b : Lv) : Int × Int := sinkV b.press (b.h - a.h) (gapT a b)
/-- b, with what a below it says. -/
def upB (a b : Lv) : Lv := b.put (joinS b.press (upI a b))
/-- a, with what b above it says. -/
def dnA (a b : Lv) : Lv := a.put (joinS a.press (dnI a b))
def upF : Lv → List Lv → List Lv
  | a, [] => [a]
  | a, b :: r => a :: upF (upB a b) r
def upL : List Lv → List Lv
  | [] => []
  | a :: r => upF a r
def dnH (a : Lv) : List Lv → List Lv
  | [] => [a]
  | b :: r => dnA a b :: b :: r
def dnL : List Lv → List Lv
  | [] => []
  | a :: r => dnH a (dnL r)
def setl (l : List Lv) : List Lv := dnL (upL l)
/-- One step up, one step down. -/
def takeUp (l : List Lv) (i : Nat) : List Lv := match l[i]?, l[i + 1]? with
  | some a, some b => l.set (i + 1) (upB a b)
  | _, _ => l
def takeDn (l : List Lv) (i : Nat) : List Lv := match l[i]?, l[i + 1]? with
  | some a, some b => l.set i (dnA a b)
  | _, _ => l
theorem takeUp_len (l : List Lv) (i : Nat) : (takeUp l i).length = l.length := by unfold takeUp; split <;> simp
theorem takeDn_len (l : List Lv) (i : Nat) : (takeDn l i).length = l.length := by unfold takeDn; split <;> simp
theorem takeUp_cons (a : Lv) (l : List Lv) (i : Nat) : takeUp (a :: l) (i + 1) = a :: takeUp l i := by
  unfold takeUp
  simp only [List.getElem?_cons_succ]
  split <;> simp
theorem takeDn_cons (a : Lv) (l : List Lv) (i : Nat) : takeDn (a :: l) (i + 1) = a :: takeDn l i := by
  unfold takeDn
  simp only [List.getElem?_cons_succ]
  split <;> simp
def upTo (k : Nat) (l : List Lv) : List Lv := (List.range k).foldl takeUp l
theorem upTo_succ (k : Nat) (l : List Lv) : upTo (k + 1) l = takeUp (upTo k l) k := by
  unfold upTo
  rw [List.range_succ, List.foldl_append]
  rfl
theorem upTo_len (k : Nat) (l : List Lv) : (upTo k l).length = l.length := by
  induction k with
  | zero => rfl
  | succ k ih => rw [upTo_succ, takeUp_len, ih]
theorem upTo_cons (k : Nat) (a b : Lv) (r : List Lv) : upTo (k + 1) (a :: b :: r) = a :: upTo k (upB a b :: r) := by
  induction k with
  | zero => rfl
  | succ k ih => rw [upTo_succ, ih, takeUp_cons, ← upTo_succ]
theorem upTo_all : ∀ (a : Lv) (r : List Lv), upTo r.length (a :: r) = upF a r
  | a, [] => rfl
  | a, b :: r => by
    rw [List.length_cons, upTo_cons, upTo_all (upB a b) r]
    rfl
def dnS : Nat → List Lv → List Lv
  | 0, l => l
  | m + 1, l => takeDn (dnS m l) (l.length - 2 - m)
theorem dnS_len (m : Nat) (l : List Lv) : (dnS m l).length = l.length := by
  induction m with
  | zero => rfl
  | succ m ih => simp only [dnS]; rw [takeDn_len, ih]
theorem dnS_cons (a : Lv) (r : List Lv) : ∀ m, m + 1 ≤ r.length → dnS m (a :: r) = a :: dnS m r
  | 0, _ => rfl
  | m + 1, h => by
    simp only [dnS]
    rw [dnS_cons a r m (by omega), List.length_cons, show r.length + 1 - 2 - m = (r.length - 2 - m) + 1 by omega, takeDn_cons]
theorem upF_len : ∀ (a : Lv) (r : List Lv), (upF a r).length = r.length + 1
  | a, [] => rfl
  | a, b :: r => by simp [upF, upF_len (upB a b) r]
theorem dnH_len (a : Lv) (l : List Lv) : (dnH a l).length = l.length + 1 := by cases l <;> simp [dnH]
theorem dnL_len : ∀ (l : List Lv), (dnL l).length = l.length
  | [] => rfl
  | a :: r => by simp [dnL, dnH_len, dnL_len r]
theorem dnS_all : ∀ (l : List Lv), dnS (l.length - 1) l = dnL l
  | [] => rfl
  | [a] => rfl
  | a :: b :: r => by
    have ih := dnS_all (b :: r)
    simp only [List.length_cons, Nat.add_sub_cancel] at ih ⊢
    simp only [dnS]
    rw [dnS_cons a (b :: r) r.length (by simp), ih]
    simp only [List.length_cons, show r.length + 1 + 1 - 2 - r.length = 0 by omega]
    have hl := dnL_len (b :: r)
    show _ = dnH a (dnL (b :: r))
    cases hd : dnL (b :: r) with
    | nil => rw [hd] at hl; simp at hl
    | cons c s => rfl
theorem setl_len (l : List Lv) : (setl l).length = l.length := by
  unfold setl
  rw [dnL_len]
  cases l with
  | nil => rfl
  | cons a r => simp [upL, upF_len]

/-- The same levels, but tighter pressures. -/
inductive Tt : List Lv → List Lv → Prop
  | nil : Tt [] []
  | cons {y x : Lv} {m l : List Lv} (h : y.h = x.h ∧ y.tlo = x.tlo ∧ y.thi = x.thi ∧ SIn y.press x.press) (k : Tt m l) : Tt (y :: m) (x :: l)
theorem Tt.refl : ∀ (l : List Lv), Tt l l
  | [] => .nil
  | _ :: l => .cons ⟨rfl, rfl, rfl, .refl _⟩ (Tt.refl l)
theorem Tt.len {l m : List Lv} (h : Tt m l) : m.length = l.length := by
  induction h with
  | nil => rfl
  | cons _ _ ih => simp [ih]
theorem Tt.trans {l m n : List Lv} (h : Tt n m) (k : Tt m l) : Tt n l := by
  induction h generalizing l with
  | nil => exact k
  | cons h _ ih =>
    cases k with
    | cons h' k' => exact .cons ⟨h.1.trans h'.1, h.2.1.trans h'.2.1, h.2.2.1.trans h'.2.2.1, h.2.2.2.trans h'.2.2.2⟩ (ih k')
theorem Tt.antisymm {l m : List Lv} (h : Tt m l) (k : Tt l m) : m = l := by
  induction h with
  | nil => rfl
  | cons h _ ih =>
    cases k with
    | cons h' k' =>
      rw [ih k']
      rename_i y x m l _
      obtain ⟨a1, a2, a3, a4, a5⟩ := y
      obtain ⟨b1, b2, b3, b4, b5⟩ := x
      have e := h.2.2.2.antisymm h'.2.2.2
      simp only [Lv.press, Prod.mk.injEq] at e h
      obtain ⟨rfl, rfl, rfl, _⟩ := h
      obtain ⟨rfl, rfl⟩ := e
      rfl
theorem Tt.get {l m : List Lv} (h : Tt m l) {i : Nat} {y x : Lv} (hy : m[i]? = some y) (hx : l[i]? = some x) : y.h = x.h ∧ y.tlo = x.tlo ∧ y.thi = x.thi ∧ SIn y.press x.press := by
  induction h generalizing i with
  | nil => simp at hy
  | cons h _ ih =>
    cases i with
    | zero =>
      simp at hy hx
      subst hy hx
      exact h
    | succ i => exact ih (by simpa using hy) (by simpa using hx)
theorem Tt.set {l m : List Lv} (h : Tt m l) {i : Nat} {y x : Lv} (hx : l[i]? = some x) (hy : y.h = x.h ∧ y.tlo = x.tlo ∧ y.thi = x.thi ∧ SIn y.press x.press) : Tt (m.set i y) l := by
  induction h generalizing i with
  | nil => simp at hx
  | cons h k ih =>
    cases i with
    | zero =>
      simp at hx
      subst hx
      exact .cons hy k
    | succ i => exact .cons h (ih (by simpa using hx))
/-- A valid list: what is between neighbours, and no pressure below 0. -/
inductive Ch : List Lv → Prop
  | nil : Ch []
  | one {a : Lv} (h : 0 ≤ a.plo ∧ 0 ≤ a.phi) : Ch [a]
  | cons {a b : Lv} {l : List Lv} (h : 0 ≤ a.plo ∧ 0 ≤ a.phi) (g : GapOk (b.h - a.h) (gapT a b)) (k : Ch (b :: l)) : Ch (a :: b :: l)
theorem Ch.head {a : Lv} {l : List Lv} (h : Ch (a :: l)) : 0 ≤ a.plo ∧ 0 ≤ a.phi := by cases h <;> assumption
/-- Neighbours have nothing new to say. -/
inductive Fix : List Lv → Prop
  | nil : Fix []
  | one (a : Lv) : Fix [a]
  | cons {a b : Lv} {l : List Lv} (h : SIn b.press (upI a b)) (h' : SIn a.press (dnI a b)) (k : Fix (b :: l)) : Fix (a :: b :: l)
inductive FixU : List Lv → Prop
  | nil : FixU []
  | one (a : Lv) : FixU [a]
  | cons {a b : Lv} {l : List Lv} (h : SIn b.press (upI a b)) (k : FixU (b :: l)) : FixU (a :: b :: l)
theorem put_press (x : Lv) (s : Int × Int) : (x.put s).press = s := rfl
theorem upI_eq {a b a' b' : Lv} (h1 : a'.h = a.h) (h2 : a'.tlo = a.tlo) (h3 : a'.thi = a.thi) (k1 : b'.h = b.h) (k2 : b'.tlo = b.tlo) (k3 : b'.thi = b.thi) : gapT a' b' = gapT a b ∧ b'.h - a'.h = b.h - a.h := by
  unfold gapT Lv.temp
  rw [h1, h2, h3, k1, k2, k3]
  exact ⟨rfl, rfl⟩
theorem upB_pos {a b : Lv} (g : GapOk (b.h - a.h) (gapT a b)) (ha : 0 ≤ a.plo ∧ 0 ≤ a.phi) (hb : 0 ≤ b.plo ∧ 0 ≤ b.phi) : 0 ≤ (upB a b).plo ∧ 0 ≤ (upB a b).phi := by
  have := rise_pos g (x := a.press) ha.1 ha.2
  unfold upB Lv.put joinS upI
  simp only
  have := hb.1; have := hb.2
  unfold Lv.press at *
  simp only
  omega
theorem dnA_pos {a b : Lv} (g : GapOk (b.h - a.h) (gapT a b)) (ha : 0 ≤ a.plo ∧ 0 ≤ a.phi) (hb : 0 ≤ b.plo ∧ 0 ≤ b.phi) : 0 ≤ (dnA a b).plo ∧ 0 ≤ (dnA a b).phi := by
  have := sink_pos g (x := b.press) hb.1 hb.2
  unfold dnA Lv.put joinS dnI
  simp only
  have := ha.1; have := ha.2
  unfold Lv.press at *
  simp only
  omega
theorem Ch.put {x x' : Lv} {l : List Lv} (h : Ch (x :: l)) (h1 : x'.h = x.h) (h2 : x'.tlo = x.tlo) (h3 : x'.thi = x.thi) (hp : 0 ≤ x'.plo ∧ 0 ≤ x'.phi) : Ch (x' :: l) := by
  cases h with
  | one _ => exact .one hp
  | cons h g k =>
    rename_i b l
    have e := upI_eq (b' := b) (b := b) h1 h2 h3 rfl rfl rfl
    exact .cons hp (by rw [e.1, e.2]; exact g) k
theorem upF_ch : ∀ {r : List Lv} {a : Lv}, Ch (a :: r) → Ch (upF a r) ∧ FixU (upF a r) ∧ Tt (upF a r) (a :: r) ∧ ∃ s, upF a r = a :: s
  | [], a, h => ⟨h, .one a, .refl _, [], rfl⟩
  | b :: r, a, h => by
    cases h with
    | cons ha g k =>
      have hb : Ch (upB a b :: r) := k.put rfl rfl rfl (upB_pos g ha k.head)
      obtain ⟨i1, i2, i3, s, i4⟩ := upF_ch hb
      have hu : SIn (upB a b).press (upI a (upB a b)) := joinS_right _ _
      simp only [upF]
      refine ⟨?_, ?_, ?_, _, rfl⟩
      · rw [i4] at i1 ⊢
        exact .cons ha g i1
      · rw [i4] at i2 ⊢
        exact .cons hu i2
      · refine .cons ⟨rfl, rfl, rfl, .refl _⟩ (i3.trans (.cons ⟨rfl, rfl, rfl, joinS_left _ _⟩ (.refl r)))
theorem dnL_ch : ∀ {l : List Lv}, Ch l → FixU l → Ch (dnL l) ∧ Fix (dnL l) ∧ Tt (dnL l) l
  | [], _, _ => ⟨.nil, .nil, .nil⟩
  | [a], h, _ => ⟨h, .one a, .refl _⟩
  | a :: b :: r, h, hu => by
    cases h with
    | cons ha g k =>
      cases hu with
      | cons u1 u2 =>
        obtain ⟨i1, i2, i3⟩ := dnL_ch k u2
        show Ch (dnH a (dnL (b :: r))) ∧ Fix (dnH a (dnL (b :: r))) ∧ Tt (dnH a (dnL (b :: r))) (a :: b :: r)
        cases hd : dnL (b :: r) with
        | nil => rw [hd] at i3; cases i3
        | cons c s =>
          rw [hd] at i1 i2 i3
          cases i3 with
          | cons e i3 =>
            obtain ⟨e1, e2, e3, e4⟩ := e
            have eg := upI_eq (a := a) (a' := a) rfl rfl rfl e1 e2 e3
            have gc : GapOk (c.h - a.h) (gapT a c) := by rw [eg.1, eg.2]; exact g
            have hc := i1.head
            simp only [dnH]
            refine ⟨.cons (dnA_pos gc ha hc) gc i1, .cons ?_ (joinS_right _ _) i2, .cons ⟨rfl, rfl, rfl, joinS_left _ _⟩ (.cons ⟨e1, e2, e3, e4⟩ i3)⟩
            -- what a, tighter, says of c
            have m1 : SIn c.press (riseV a.press (c.h - a.h) (gapT a c)) := by
              have : SIn c.press (upI a b) := e4.trans u1
              unfold upI at this
              rw [eg.1, eg.2]; exact this
            have m2 : SIn c.press (riseV (sinkV c.press (c.h - a.h) (gapT a c)) (c.h - a.h) (gapT a c)) := rise_sink gc hc.1 hc.2
            show SIn c.press (riseV (joinS a.press (dnI a c)) (c.h - a.h) (gapT a c))
            unfold joinS dnI
            rcases Int.le_total a.press.1 (sinkV c.press (c.h - a.h) (gapT a c)).1 with h1 | h1 <;> rcases Int.le_total a.press.2 (sinkV c.press (c.h - a.h) (gapT a c)).2 with h2 | h2
            · rw [Int.max_eq_right h1, Int.min_eq_left h2]; exact ⟨m2.1, m1.2⟩
            · rw [Int.max_eq_right h1, Int.min_eq_right h2]; exact ⟨m2.1, m2.2⟩
            · rw [Int.max_eq_left h1, Int.min_eq_left h2]; exact ⟨m1.1, m1.2⟩
            · rw [Int.max_eq_left h1, Int.min_eq_right h2]; exact ⟨m1.1, m2.2⟩
theorem setl_fix {l : List Lv} (h : Ch l) : Ch (setl l) ∧ Fix (setl l) ∧ Tt (setl l) l := by
  cases l with
  | nil => exact ⟨.nil, .nil, .nil⟩
  | cons a r =>
    obtain ⟨h1, h2, h3, _⟩ := upF_ch h
    obtain ⟨k1, k2, k3⟩ := dnL_ch h1 h2
    exact ⟨k1, k2, k3.trans h3⟩
theorem Fix.get {l : List Lv} (h : Fix l) : ∀ {i : Nat} {a b : Lv}, l[i]? = some a → l[i + 1]? = some b → SIn b.press (upI a b) ∧ SIn a.press (dnI a b) := by
  induction h with
  | nil => intro i a b ha; simp at ha
  | one _ => intro i a b _ hb; simp at hb
  | cons h h' _ ih =>
    intro i a b ha hb
    cases i with
    | zero =>
      simp at ha hb
      subst ha hb
      exact ⟨h, h'⟩
    | succ i => exact ih (by simpa using ha) (by simpa using hb)
theorem Ch.get {l : List Lv} (h : Ch l) : ∀ {i : Nat} {a b : Lv}, l[i]? = some a → l[i + 1]? = some b → GapOk (b.h - a.h) (gapT a b) := by
  induction h with
  | nil => intro i a b ha; simp at ha
  | one _ => intro i a b _ hb; simp at hb
  | cons h h' _ ih =>
    intro i a b ha hb
    cases i with
    | zero =>
      simp at ha hb
      subst ha hb
      exact h'
    | succ i => exact ih (by simpa using ha) (by simpa using hb)
theorem Ch.pos {l : List Lv} (h : Ch l) {a : Lv} (ha : a ∈ l) : 0 ≤ a.plo ∧ 0 ≤ a.phi := by
  induction h with
  | nil => cases ha
  | one h =>
    obtain rfl : a = _ := by simpa using ha
    exact h
  | cons h _ _ ih =>
    rcases List.mem_cons.1 ha with rfl | ha
    · exact h
    · exact ih ha
/-- A step stays above what settles. -/
theorem takeUp_le {l f : List Lv} (hc : Ch f) (hf : Fix f) (h : Tt f l) (i : Nat) : Tt f (takeUp l i) := by
  unfold takeUp
  split
  · rename_i a b ha hb
    have la := h.len
    have ha1 := (List.getElem?_eq_some_iff.1 ha).1
    have hb1 := (List.getElem?_eq_some_iff.1 hb).1
    have fa : f[i]? = some f[i] := List.getElem?_eq_getElem (by omega)
    have fb : f[i + 1]? = some f[i + 1] := List.getElem?_eq_getElem (by omega)
    obtain ⟨a1, a2, a3, a4⟩ := h.get fa ha
    obtain ⟨b1, b2, b3, b4⟩ := h.get fb hb
    have g := hc.get fa fb
    have e := upI_eq a1 a2 a3 b1 b2 b3
    have key : SIn f[i + 1].press (upB a b).press := by
      refine joinS_least b4 ((hf.get fa fb).1.trans ?_)
      unfold upI
      rw [← e.1, ← e.2]
      exact rise_mono g a4
    -- set on the looser side
    exact tt_set_right h fb ⟨b1, b2, b3, key⟩
  · exact h
where
  tt_set_right {l m : List Lv} (h : Tt m l) {i : Nat} {y x : Lv} (hy : m[i]? = some y) (hx : y.h = x.h ∧ y.tlo = x.tlo ∧ y.thi = x.thi ∧ SIn y.press x.press) : Tt m (l.set i x) := by
    induction h generalizing i with
    | nil => simp at hy
    | cons h k ih =>
      cases i with
      | zero =>
        simp at hy
        subst hy
        exact .cons hx k
      | succ i => exact .cons h (ih (by simpa using hy))
theorem takeDn_le {l f : List Lv} (hc : Ch f) (hf : Fix f) (h : Tt f l) (i : Nat) : Tt f (takeDn l i) := by
  unfold takeDn
  split
  · rename_i a b ha hb
    have la := h.len
    have ha1 := (List.getElem?_eq_some_iff.1 ha).1
    have hb1 := (List.getElem?_eq_some_iff.1 hb).1
    have fa : f[i]? = some f[i] := List.getElem?_eq_getElem (by omega)
    have fb : f[i + 1]? = some f[i + 1] := List.getElem?_eq_getElem (by omega)
    obtain ⟨a1, a2, a3, a4⟩ := h.get fa ha
    obtain ⟨b1, b2, b3, b4⟩ := h.get fb hb
    have g := hc.get fa fb
    have e := upI_eq a1 a2 a3 b1 b2 b3
    have key : SIn f[i].press (dnA a b).press := by
      refine joinS_least a4 ((hf.get fa fb).2.trans ?_)
      unfold dnI
      rw [← e.1, ← e.2]
      exact sink_mono g b4
    exact takeUp_le.tt_set_right h fa ⟨a1, a2, a3, key⟩
  · exact h
theorem upTo_le {l f : List Lv} (hc : Ch f) (hf : Fix f) (h : Tt f l) (k : Nat) : Tt f (upTo k l) := by
  induction k with
  | zero => exact h
  | succ k ih => rw [upTo_succ]; exact takeUp_le hc hf ih k
theorem dnS_le {l f : List Lv} (hc : Ch f) (hf : Fix f) (h : Tt f l) (k : Nat) : Tt f (dnS k l) := by
  induction k with
  | zero => exact h
  | succ k ih => exact takeDn_le hc hf ih _
theorem setl_least {l f : List Lv} (hc : Ch f) (hf : Fix f) (h : Tt f l) : Tt f (setl l) := by
  unfold setl
  rw [← dnS_all]
  refine dnS_le hc hf ?_ _
  cases l with
  | nil => exact h
  | cons a r =>
    show Tt f (upF a r)
    rw [← upTo_all]
    exact upTo_le hc hf h _
/-- A step loses nothing. -/
theorem takeUp_ge (l : List Lv) (i : Nat) : Tt (takeUp l i) l := by
  unfold takeUp
  split
  · rename_i a b ha hb
    exact (Tt.refl l).set hb ⟨rfl, rfl, rfl, joinS_left _ _⟩
  · exact .refl l
theorem takeDn_ge (l : List Lv) (i : Nat) : Tt (takeDn l i) l := by
  unfold takeDn
  split
  · rename_i a b ha hb
    exact (Tt.refl l).set ha ⟨rfl, rfl, rfl, joinS_left _ _⟩
  · exact .refl l
/-- A settled list stays as it is. -/
theorem setl_of_fix {l : List Lv} (hc : Ch l) (hf : Fix l) : setl l = l := (setl_fix hc).2.2.antisymm (setl_least hc hf (.refl l))
theorem setl_setl {l : List Lv} (hc : Ch l) : setl (setl l) = setl l := setl_of_fix (setl_fix hc).1 (setl_fix hc).2.1
theorem upTo_of_fix {l : List Lv} (hc : Ch l) (hf : Fix l) (k : Nat) : upTo k l = l := by
  have h1 := upTo_le hc hf (.refl l) k
  have h2 : Tt (upTo k l) l := by
    induction k with
    | zero => exact .refl l
    | succ k ih => rw [upTo_succ]; exact (takeUp_ge _ k).trans (ih (upTo_le hc hf (.refl l) k))
  exact h2.antisymm h1
theorem dnS_of_fix {l : List Lv} (hc : Ch l) (hf : Fix l) (k : Nat) : dnS k l = l := by
  have h1 := dnS_le hc hf (.refl l) k
  have h2 : Tt (dnS k l) l := by
    induction k with
    | zero => exact .refl l
    | succ k ih => exact (takeDn_ge _ _).trans (ih (dnS_le hc hf (.refl l) k))
  exact h2.antisymm h1

end Go.Proofs.Ytalidommelefaaa
/- How fast a wind blows along a way: n divided by the root of q, rounded down. -/
namespace Go.Proofs.Ytalidommelefaaa
open Go.RowKit
attribute [local irreducible] OQ OS OX Rd T TL GX GL AL AI RV wpG SAny Calls
set_option maxRecDepth 100000
set_option maxHeartbeats 2000000
set_option linter.unusedVariables false
set_option linter.unusedSimpArgs false

def ShP (n q k : Int) : Prop := (0 ≤ n ∧ (k ≤ 0 ∨ k * k * q ≤ n * n)) ∨ (n < 0 ∧ k < 0 ∧ n * n ≤ k * k * q)
theorem sq_mono {j k : Int} (h0 : 0 ≤ j) (h : j ≤ k) : j * j ≤ k * k := Int.mul_le_mul h h h0 (by omega)
theorem sq_neg (k : Int) : k * k = (-k) * (-k) := by rw [Int.neg_mul_neg]
theorem ShP.mono {n q j k : Int} (hq : 0 < q) (h : ShP n q k) (hj : j ≤ k) : ShP n q j := by
  rcases h with ⟨h0, h1⟩ | ⟨h0, h1, h2⟩
  · refine .inl ⟨h0, ?_⟩
    by_cases hj0 : j ≤ 0
    · exact .inl hj0
    · rcases h1 with h1 | h1
      · omega
      · exact .inr (Int.le_trans (Int.mul_le_mul_of_nonneg_right (sq_mono (by omega) hj) (by omega)) h1)
  · refine .inr ⟨h0, by omega, Int.le_trans h2 (Int.mul_le_mul_of_nonneg_right ?_ (by omega))⟩
    rw [sq_neg j, sq_neg k]
    exact sq_mono (by omega) (by omega)
/-- r is n divided by the root of q, rounded down. -/
def IsSh (n q r : Int) : Prop := ShP n q r ∧ ¬ ShP n q (r + 1)
theorem IsSh.uniq {n q r s : Int} (hq : 0 < q) (h : IsSh n q r) (k : IsSh n q s) : r = s := by
  rcases Int.lt_trichotomy r s with h1 | h1 | h1
  · exact absurd (k.1.mono hq (by omega)) h.2
  · exact h1
  · exact absurd (h.1.mono hq (by omega)) k.2
noncomputable def shV (n q : Int) : Int := open Classical in if h : ∃ r, IsSh n q r then Classical.choose h else 0
theorem IsSh.val {n q r : Int} (hq : 0 < q) (h : IsSh n q r) : shV n q = r := by
  have hx : ∃ r, IsSh n q r := ⟨r, h⟩
  unfold shV
  rw [dif_pos hx]
  exact (Classical.choose_spec hx).uniq hq h
theorem part_facts {n q k : Int} (hq : 0 < q) (h : IsR ((n * n).tdiv q) k) : k * k * q ≤ n * n ∧ n * n < (k + 1) * (k + 1) * q := by
  have hn : 0 ≤ n * n := by
    rcases Int.le_total 0 n with h | h
    · exact Int.mul_nonneg h h
    · rw [sq_neg]; exact Int.mul_nonneg (by omega) (by omega)
  rw [Int.tdiv_eq_ediv_of_nonneg hn] at h
  have h1 := Int.ediv_mul_le (n * n) (Int.ne_of_gt hq)
  have h2 := Int.lt_ediv_add_one_mul_self (n * n) hq
  refine ⟨Int.le_trans (Int.mul_le_mul_of_nonneg_right h.2.1 (by omega)) h1, Int.lt_of_lt_of_le h2 (Int.mul_le_mul_of_nonneg_right ?_ (by omega))⟩
  have := h.2.2
  omega
theorem isSh_pos {n q k : Int} (hn : 0 ≤ n) (h0 : 0 ≤ k) (h1 : k * k * q ≤ n * n) (h2 : n * n < (k + 1) * (k + 1) * q) : IsSh n q k := by
  refine ⟨.inl ⟨hn, .inr h1⟩, ?_⟩
  rintro (⟨_, h | h⟩ | ⟨h, _⟩) <;> omega
theorem isSh_neg1 {n q k : Int} (hn : n < 0) (h0 : 0 ≤ k) (h1 : k * k * q < n * n) (h2 : n * n < (k + 1) * (k + 1) * q) : IsSh n q (-(k + 1)) := by
  refine ⟨.inr ⟨hn, by omega, ?_⟩, ?_⟩
  · rw [← sq_neg]; omega
  · rintro (⟨h, _⟩ | ⟨_, h, h3⟩)
    · omega
    · rw [show -(k + 1) + 1 = -k by omega, ← sq_neg] at h3
      omega
theorem isSh_neg0 {n q k : Int} (hq : 0 < q) (hn : n < 0) (h0 : 0 ≤ k) (h1 : ¬ k * k * q < n * n) (h2 : k * k * q ≤ n * n) : IsSh n q (-k) := by
  have hnn : 0 < n * n := by rw [sq_neg]; exact Int.mul_pos (by omega) (by omega)
  have hk : 0 < k := by
    rcases Int.lt_or_le 0 k with h | h
    · exact h
    · obtain rfl : k = 0 := by omega
      simp at h1; omega
  refine ⟨.inr ⟨hn, by omega, ?_⟩, ?_⟩
  · rw [← sq_neg]; omega
  · rintro (⟨h, _⟩ | ⟨_, h, h3⟩)
    · omega
    · rw [show -k + 1 = -(k - 1) by omega, ← sq_neg] at h3
      have h4 : (k - 1) * (k - 1) < k * k := by
        rw [Int.sub_mul, Int.mul_sub]; omega
      have := Int.mul_lt_mul_of_pos_right h4 hq
      omega


theorem inr_of {x : Int} (m : Int) (hm : m ≤ 9223372036854775807) (h0 : -m ≤ x) (h1 : x ≤ m) : InR x := ⟨by omega, by omega⟩
theorem mul_abs {x y a b : Int} (hx : -a ≤ x ∧ x ≤ a) (hy : -b ≤ y ∧ y ≤ b) : -(a * b) ≤ x * y ∧ x * y ≤ a * b := by
  have key : ∀ {x y : Int}, 0 ≤ x → x ≤ a → -b ≤ y ∧ y ≤ b → -(a * b) ≤ x * y ∧ x * y ≤ a * b := fun {x y} h0 h1 hy => by
    have e : ∀ {z : Int}, 0 ≤ z → z ≤ b → 0 ≤ x * z ∧ x * z ≤ a * b := fun hz hb => ⟨Int.mul_nonneg h0 hz, Int.mul_le_mul h1 hb hz (by omega)⟩
    rcases Int.le_total 0 y with h | h
    · have := e h hy.2; omega
    · have := e (z := -y) (by omega) (by omega)
      rw [Int.mul_neg] at this; omega
  rcases Int.le_total 0 x with h | h
  · exact key h hx.2 hy
  · have := key (x := -x) (by omega) (by omega) hy
    rw [Int.neg_mul] at this; omega
theorem share_calls (n q : Int) (hq : 1 ≤ q) (hq1 : q ≤ 200000000) (h8 : n * n ≤ 8000000 * q) (w : World) : Calls Try.prog 117 #[.int .i64 n, .int .i64 q] w fun e w' => e = .returned (.int .i64 (shV n q)) ∧ Ext w w' := by
  have hnn : InR (n * n) := by
    have : 0 ≤ n * n := by
      rcases Int.le_total 0 n with h | h
      · exact Int.mul_nonneg h h
      · rw [sq_neg]; exact Int.mul_nonneg (by omega) (by omega)
    exact ⟨by omega, by omega⟩
  refine enterQ (c := cx w 55) Try.func117 rfl rfl rfl rfl ?_
  repeat' (first | ((with_reducible apply oq_id); first | (apply oq_fn; exact rfl; first | exact trivial | (refine ⟨?_, ?_⟩ <;> omega) | (refine ⟨?_, ?_, ?_⟩ <;> omega) | omega | skip)) | ((with_reducible apply tl_id); first | ((with_reducible apply tl_nil)) | ((with_reducible apply u_q); exact rfl; exact rfl; exact rfl; exact rfl)) | ((with_reducible apply t_id); first | ((with_reducible apply t_seq)) | (apply t_region; kernel_rfl) | ((with_reducible apply t_block))) | with_reducible apply q_thenN)
  apply t_loopK (ι := (Int × Int)) [0, 1, 4, 54] (fun (i : Int × Int) => [(5, .int .i64 i.1), (6, .int .i64 i.2)]) (fun _ => []) (fun i => -4000 ≤ i.1 ∧ i.1 < i.2 ∧ i.2 ≤ 4000 ∧ ShP n q i.1 ∧ ¬ ShP n q i.2) (fun i => (i.2 - i.1).toNat) ((-4000, 4000))
  (repeat (first | exact KeepF.nil | (apply KeepF.cons; exact rfl) | apply KeepF.skip))
  (repeat (first | exact FrSub.nil | (apply FrSub.cons; exact rfl)))
  (repeat (first | exact HpSub.refl _ | (apply HpSub.consE; (repeat (first | exact P0 | apply P1)); exact rfl) | exact HpSub.nil))
  · simp only; unfold ShP; omega
  rintro ⟨a, b⟩ ⟨i0, i1, i2, i3, i4⟩
  simp only at i0 i1 i2 i3 i4
  obtain ⟨m, hm⟩ : ∃ m, m = (a + b).tdiv 2 := ⟨_, rfl⟩
  have hm0 : a ≤ m ∧ m ≤ b ∧ (1 < b - a → a < m ∧ m < b) := by
    rcases Int.le_total 0 (a + b) with h | h
    · rw [Int.tdiv_eq_ediv_of_nonneg h] at hm; omega
    · have : (a + b).tdiv 2 = -((-(a + b)).tdiv 2) := by rw [Int.neg_tdiv, Int.neg_neg]
      rw [this, Int.tdiv_eq_ediv_of_nonneg (by omega)] at hm; omega
  have h1 := mul_abs (x := m) (y := m) (a := 4000) (b := 4000) (by omega) (by omega)
  have h2 := mul_abs (x := m * m) (y := q) (a := 16000000) (b := 200000000) (by omega) (by omega)
  have r1 : InR (m * m) := ⟨by omega, by omega⟩
  have r2 : InR (m * m * q) := ⟨by omega, by omega⟩
  rw [hm] at r1 r2
  have r3 : InR ((a + b).tdiv 2) := by rw [← hm]; exact ⟨by omega, by omega⟩
  dsimp only
  repeat' (first | ((with_reducible apply oq_id); first | (apply oq_fn; exact rfl; first | exact trivial | (refine ⟨?_, ?_⟩ <;> omega) | (refine ⟨?_, ?_, ?_⟩ <;> omega) | omega | skip)) | ((with_reducible apply tl_id); first | ((with_reducible apply tl_nil)) | ((with_reducible apply u_q); exact rfl; exact rfl; exact rfl; exact rfl) | ((with_reducible apply u_skip); exact rfl; exact rfl; exact rfl) | ((with_reducible apply u_splitD); exact rfl; exact rfl; all_goals first | (intro hp; try (exfalso; omega)) | skip)) | ((with_reducible apply t_id); first | ((with_reducible apply t_seq)) | (apply t_region; kernel_rfl) | ((with_reducible apply t_condF); exact rfl) | ((with_reducible apply t_condD); exact rfl; all_goals first | (intro hp; try (exfalso; omega)) | skip) | ((with_reducible apply t_ret)) | ((with_reducible apply t_skip)) | ((with_reducible apply t_exit)) | ((with_reducible apply t_block))) | with_reducible apply q_thenN | with_reducible apply q_blockN | with_reducible apply q_thenE | ((with_reducible apply q_blockE); exact rfl) | ((with_reducible apply end_ret)) | exact rvs_nil | ((with_reducible apply rvs_cons)) | ((with_reducible apply rv_tmp); exact rfl))
  all_goals try rw [← hm] at *
  all_goals first
    | (refine ⟨(m, b), ⟨by simp only; omega, by simp only; omega, i2, by simp only; unfold ShP; omega, i4⟩, by simp only; omega, ?_, ?_⟩ <;> (repeat' (first | exact FrSub.nil | (apply FrSub.cons; exact rfl) | exact HpSub.refl _)))
    | (refine ⟨(a, m), ⟨i0, by simp only; omega, by simp only; omega, i3, by simp only; unfold ShP; omega⟩, by simp only; omega, ?_, ?_⟩ <;> (repeat' (first | exact FrSub.nil | (apply FrSub.cons; exact rfl) | exact HpSub.refl _)))
    | (obtain rfl : b = a + 1 := by omega
       rw [IsSh.val (by omega) ⟨i3, i4⟩]; rfl)


theorem part_calls (n q : Int) (hq : 1 ≤ q) (hq1 : q ≤ 200000000) (h8 : n * n ≤ 8000000 * q) (w : World) : Calls Try.prog 118 #[.int .i64 n, .int .i64 q] w fun e w' => e = .returned (.int .i64 (shV n q)) ∧ Ext w w' := by
  have hn0 : 0 ≤ n * n := by
    rcases Int.le_total 0 n with h | h
    · exact Int.mul_nonneg h h
    · rw [sq_neg]; exact Int.mul_nonneg (by omega) (by omega)
  have hnn : InR (n * n) := ⟨by omega, by omega⟩
  have hd : (n * n).tdiv q = n * n / q := Int.tdiv_eq_ediv_of_nonneg hn0
  have hd0 : 0 ≤ (n * n).tdiv q := by rw [hd]; exact Int.ediv_nonneg hn0 (by omega)
  have hd1 : (n * n).tdiv q ≤ 8000000 := by rw [hd]; exact Int.ediv_le_of_le_mul (by omega) h8
  have hk := rt_spec ((n * n).tdiv q) hd0
  obtain ⟨k, ek⟩ : ∃ k, k = rt ((n * n).tdiv q) := ⟨_, rfl⟩
  rw [← ek] at hk
  obtain ⟨f1, f2⟩ := part_facts (by omega) hk
  have hk0 := hk.1
  have hk1 : k ≤ 3000 := by
    rcases Int.lt_or_le 3000 k with h | h
    · have := sq_mono (j := 3001) (k := k) (by omega) (by omega)
      have := hk.2.1; omega
    · exact h
  have g1 := mul_abs (x := k) (y := k) (a := 3000) (b := 3000) (by omega) (by omega)
  have g2 := mul_abs (x := k * k) (y := q) (a := 9000000) (b := 200000000) (by omega) (by omega)
  have r1 : InR (k * k) := ⟨by omega, by omega⟩
  have r2 : InR (k * k * q) := ⟨by omega, by omega⟩
  have r3 : InR ((n * n).tdiv q) := ⟨by omega, by omega⟩
  have r4 : InR (k + 1) := ⟨by omega, by omega⟩
  have r5 : InR (-k) := ⟨by omega, by omega⟩
  have r6 : InR (-(k + 1)) := ⟨by omega, by omega⟩
  have hS := fun w1 => sqrt_calls ((n * n).tdiv q) hd0 (by omega) w1
  rw [← ek] at hS
  refine enterQ (c := cx w 28) Try.func118 rfl rfl rfl rfl ?_
  repeat' (first | ((with_reducible apply oq_id); first | (apply oq_fn; exact rfl; first | exact trivial | (refine ⟨?_, ?_⟩ <;> omega) | (refine ⟨?_, ?_, ?_⟩ <;> omega) | omega | skip) | ((with_reducible apply oq_call (k := 137) (hc := Try.call137)); exact rfl; exact rfl; exact fun D w1 hw1 => hS w1)) | ((with_reducible apply tl_id); first | ((with_reducible apply tl_nil)) | ((with_reducible apply u_q); exact rfl; exact rfl; exact rfl; exact rfl)) | ((with_reducible apply t_id); first | ((with_reducible apply t_seq)) | (apply t_region; kernel_rfl) | ((with_reducible apply t_condD); exact rfl; all_goals first | (intro hp; try (exfalso; omega)) | skip) | ((with_reducible apply t_ret)) | ((with_reducible apply t_skip))) | with_reducible apply q_thenN | with_reducible apply q_thenR | ((with_reducible apply end_ret)) | exact rvs_nil | ((with_reducible apply rvs_cons)) | ((with_reducible apply rv_tmp); exact rfl))
  · rw [(isSh_pos (by assumption) hk0 f1 f2).val (by omega)]; rfl
  · rw [(isSh_neg1 (by omega) hk0 (by assumption) f2).val (by omega)]; rfl
  · rw [(isSh_neg0 (by omega) (by omega) hk0 (by assumption) f1).val (by omega)]; rfl

end Go.Proofs.Ytalidommelefaaa
/- Tables: what the code computes. -/
namespace Go.Proofs.Ytalidommelefaaa
open Go.RowKit
attribute [local irreducible] OQ OS OX Rd T TL GX GL AL AI RV wpG SAny Calls
set_option maxRecDepth 100000
set_option maxHeartbeats 2000000
set_option linter.unusedVariables false
set_option linter.unusedSimpArgs false


/-- A search by halving: where a property begins. -/
theorem search_calls (f : Nat) (caps : List Value) (n r : Nat) (p : Nat → Bool) (hn : n ≤ 1000000000) (hr : r ≤ n) (h1 : ∀ j, j < r → p j = false) (h2 : ∀ j, r ≤ j → j < n → p j = true) (w : World) (hc : ∀ (a : Array Value) (w : World), (callFunc f a).run Try.prog w = .ok (.enter f a) w)
    (hf : ∀ j, j < n → ∀ w1, Ext w w1 → Calls Try.prog f ⟨.int .i64 (j : Int) :: caps⟩ w1 fun e w' => e = .returned (.bool (p j)) ∧ Ext w1 w') :
    Calls Try.prog 81 #[.int .i64 (n : Int), .func (.func f) #[] ⟨caps⟩] w fun e w' => e = .returned (.int .i64 (r : Int)) ∧ Ext w w' := by
  refine enterQ (c := cx w 26) Try.func81 rfl rfl rfl rfl ?_
  repeat' (first | ((with_reducible apply oq_id); first | (apply oq_fn; exact rfl; first | exact trivial | (refine ⟨?_, ?_⟩ <;> omega) | (refine ⟨?_, ?_, ?_⟩ <;> omega) | omega | skip)) | ((with_reducible apply tl_id); first | ((with_reducible apply tl_nil)) | ((with_reducible apply u_q); exact rfl; exact rfl; exact rfl; exact rfl)) | ((with_reducible apply t_id); first | ((with_reducible apply t_seq)) | (apply t_region; kernel_rfl) | ((with_reducible apply t_block))) | with_reducible apply q_thenN)
  apply t_loopK (ι := (Nat × Nat)) [1, 4, 25] (fun (i : Nat × Nat) => [(5, .int .i64 (i.1 : Int)), (6, .int .i64 (i.2 : Int))]) (fun _ => []) (fun i => i.1 ≤ r ∧ r ≤ i.2 ∧ i.2 ≤ n) (fun i => i.2 - i.1) ((0, n))
  (repeat (first | exact KeepF.nil | (apply KeepF.cons; exact rfl) | apply KeepF.skip))
  (repeat (first | exact FrSub.nil | (apply FrSub.cons; exact rfl)))
  (repeat (first | exact HpSub.refl _ | (apply HpSub.consE; (repeat (first | exact P0 | apply P1)); exact rfl) | exact HpSub.nil))
  · simp only; omega
  rintro ⟨i, j⟩ ⟨i0, i1, i2⟩
  simp only at i0 i1 i2
  dsimp only
  by_cases hij : i < j
  · have hm : (i + j) / 2 < n := by omega
    cases hp : p ((i + j) / 2) with
    | false =>
      have hf' := hf ((i + j) / 2) hm
      rw [hp] at hf'
      have hlt : (i + j) / 2 < r := by
        rcases Nat.lt_or_ge ((i + j) / 2) r with h | h
        · exact h
        · rw [h2 _ h hm] at hp; cases hp
      repeat' (first | ((with_reducible apply oq_id); first | (apply oq_fn; exact rfl; first | exact trivial | (refine ⟨?_, ?_⟩ <;> omega) | (refine ⟨?_, ?_, ?_⟩ <;> omega) | omega | skip) | (focus ((with_reducible apply oq_shr1N (a := i + j)); exact rfl; exact rfl; omega)) | (focus ((with_reducible apply oq_convU); exact rfl; exact rfl; exact rfl; (refine ⟨?_, ?_⟩ <;> omega))) | ((with_reducible apply oq_call (k := f) (hc := hc)); exact rfl; exact rfl; exact fun D w1 hw1 => hf' w1 hw1.ext.ext)) | ((with_reducible apply tl_id); first | ((with_reducible apply tl_nil)) | ((with_reducible apply u_q); exact rfl; exact rfl; exact rfl; exact rfl)) | ((with_reducible apply t_id); first | ((with_reducible apply t_seq)) | (apply t_region; kernel_rfl) | ((with_reducible apply t_condT); exact rfl) | ((with_reducible apply t_condD); exact rfl; all_goals first | (intro hp; try (exfalso; omega)) | skip) | ((with_reducible apply t_skip)) | ((with_reducible apply t_block))) | with_reducible apply q_thenN | with_reducible apply q_blockN)
      refine ⟨((i + j) / 2 + 1, j), ⟨by simp only; omega, i1, i2⟩, by simp only; omega, ?_, ?_⟩ <;> (repeat' (first | exact FrSub.nil | (apply FrSub.cons; exact rfl) | exact HpSub.refl _))
    | true =>
      have hf' := hf ((i + j) / 2) hm
      rw [hp] at hf'
      have hge : r ≤ (i + j) / 2 := by
        rcases Nat.lt_or_ge ((i + j) / 2) r with h | h
        · rw [h1 _ h] at hp; cases hp
        · exact h
      repeat' (first | ((with_reducible apply oq_id); first | (apply oq_fn; exact rfl; first | exact trivial | (refine ⟨?_, ?_⟩ <;> omega) | (refine ⟨?_, ?_, ?_⟩ <;> omega) | omega | skip) | (focus ((with_reducible apply oq_shr1N (a := i + j)); exact rfl; exact rfl; omega)) | (focus ((with_reducible apply oq_convU); exact rfl; exact rfl; exact rfl; (refine ⟨?_, ?_⟩ <;> omega))) | ((with_reducible apply oq_call (k := f) (hc := hc)); exact rfl; exact rfl; exact fun D w1 hw1 => hf' w1 hw1.ext.ext)) | ((with_reducible apply tl_id); first | ((with_reducible apply tl_nil)) | ((with_reducible apply u_q); exact rfl; exact rfl; exact rfl; exact rfl)) | ((with_reducible apply t_id); first | ((with_reducible apply t_seq)) | (apply t_region; kernel_rfl) | ((with_reducible apply t_condF); exact rfl) | ((with_reducible apply t_condD); exact rfl; all_goals first | (intro hp; try (exfalso; omega)) | skip) | ((with_reducible apply t_skip)) | ((with_reducible apply t_block))) | with_reducible apply q_thenN | with_reducible apply q_blockN)
      refine ⟨(i, (i + j) / 2), ⟨i0, hge, by simp only; omega⟩, by simp only; omega, ?_, ?_⟩ <;> (repeat' (first | exact FrSub.nil | (apply FrSub.cons; exact rfl) | exact HpSub.refl _))
  · obtain rfl : i = j := by omega
    obtain rfl : i = r := by omega
    repeat' (first | ((with_reducible apply oq_id); first | (apply oq_fn; exact rfl; first | exact trivial | (refine ⟨?_, ?_⟩ <;> omega) | (refine ⟨?_, ?_, ?_⟩ <;> omega) | omega | skip)) | ((with_reducible apply tl_id); first | ((with_reducible apply tl_nil)) | ((with_reducible apply u_q); exact rfl; exact rfl; exact rfl; exact rfl)) | ((with_reducible apply t_id); first | ((with_reducible apply t_seq)) | (apply t_region; kernel_rfl) | ((with_reducible apply t_condD); exact rfl; all_goals first | (intro hp; try (exfalso; omega)) | skip) | ((with_reducible apply t_ret)) | ((with_reducible apply t_exit))) | with_reducible apply q_thenN | with_reducible apply q_thenE | ((with_reducible apply q_blockE); exact rfl) | ((with_reducible apply end_ret)) | exact rvs_nil | ((with_reducible apply rvs_cons)) | ((with_reducible apply rv_tmp); exact rfl))
    rfl


theorem at1_calls (A : Option Addr) (n c : Nat) (t : List Kn) (x : Int) (b2 b3 : Nat) (j : Nat) (hj : j < n) (k : Kn) (hk : t[j]? = some k) (w : World) (hr : RdS w 3 A n (t.map knCells)) (m0 : w.cell? ⟨b2, 0, none⟩ = some (.slice A n c)) (m1 : w.cell? ⟨b3, 0, none⟩ = some (.int .i64 x)) :
    Calls Try.prog 151 #[.int .i64 (j : Int), .pointer (some ⟨b2, 0, none⟩), .pointer (some ⟨b3, 0, none⟩)] w fun e w' => e = .returned (.bool (decide (x < k.x))) ∧ Ext w w' := by
  obtain ⟨b, o, k', rfl, _, hk', c0, c1, c2⟩ := kn_read hr hj
  obtain rfl : k = k' := by rw [hk] at hk'; exact Option.some.inj hk'
  refine enterQ (c := cx w 12) Try.func151 rfl rfl rfl rfl ?_
  repeat' (first | ((with_reducible apply oq_id); first | (focus ((with_reducible apply oq_indexAddrN); exact rfl; exact rfl; exact rfl; exact rfl; omega)) | (apply oq_fn; exact rfl; first | exact trivial | (refine ⟨?_, ?_⟩ <;> omega) | (refine ⟨?_, ?_, ?_⟩ <;> omega) | omega | skip) | ((with_reducible apply oq_load); exact rfl; exact rfl)) | ((with_reducible apply tl_id); first | ((with_reducible apply tl_nil)) | ((with_reducible apply u_q); exact rfl; exact rfl; exact rfl; exact rfl)) | ((with_reducible apply gx_id); first | ((with_reducible apply v_nil)) | ((with_reducible apply v_q); exact rfl; exact rfl; exact rfl)) | ((with_reducible apply rd_id); first | (apply Rd.old; exact m0; exact List.not_mem_nil) | (apply Rd.old; exact m1; exact List.not_mem_nil) | (apply Rd.old; (first | (with_reducible assumption) | exact c0 | exact c1 | exact c2); first | exact List.not_mem_nil | exact m0 | exact m1)) | ((with_reducible apply t_id); first | ((with_reducible apply t_seq)) | (apply t_region; kernel_rfl) | (apply t_drawn; kernel_rfl; decide +kernel) | ((with_reducible apply t_ret))) | with_reducible apply q_thenN | ((with_reducible apply end_ret)) | exact rvs_nil | ((with_reducible apply rvs_cons)) | ((with_reducible apply rv_tmp); exact rfl))
  all_goals rfl


theorem down_calls (a b : Int) (hb : 0 < b) (hb1 : b ≤ 1000000) (ha : -1000000000000 ≤ a ∧ a ≤ 1000000000000) (w : World) : Calls Try.prog 152 #[.int .i64 a, .int .i64 b] w fun e w' => e = .returned (.int .i64 (a / b)) ∧ Ext w w' := by
  have hq := tdiv_abs hb ha
  have hm := mul_abs (x := a.tdiv b) (y := b) (a := 1000000000000) (b := 1000000) hq (by omega)
  have hd := down_eq (a := a) hb
  have r1 : InR (a.tdiv b) := ⟨by omega, by omega⟩
  have r2 : InR (a.tdiv b * b) := ⟨by omega, by omega⟩
  refine enterQ (c := cx w 17) Try.func152 rfl rfl rfl rfl ?_
  repeat' (first | ((with_reducible apply oq_id); first | (focus ((apply oq_fn); exact rfl; exact ⟨by omega, r1⟩)) | (apply oq_fn; exact rfl; first | exact trivial | (refine ⟨?_, ?_⟩ <;> omega) | (refine ⟨?_, ?_, ?_⟩ <;> omega) | omega | skip)) | ((with_reducible apply tl_id); first | ((with_reducible apply tl_nil)) | ((with_reducible apply u_q); exact rfl; exact rfl; exact rfl; exact rfl)) | ((with_reducible apply t_id); first | ((with_reducible apply t_seq)) | (apply t_region; kernel_rfl) | ((with_reducible apply t_condD); exact rfl; all_goals first | (intro hp; try (exfalso; omega)) | skip) | ((with_reducible apply t_ret)) | ((with_reducible apply t_skip))) | with_reducible apply q_thenN | ((with_reducible apply end_ret)) | exact rvs_nil | ((with_reducible apply rvs_cons)) | ((with_reducible apply rv_tmp); exact rfl))
  · rw [hd.1 (by assumption)]; rfl
  · rw [hd.2 (by assumption)]; rfl


theorem srch_at {w : World} {D : List Nat} {H H1 H2 : Hp} {b2 b3 : Nat} {tg tg' : Tg} {A : Option Addr} {n c : Nat} {t : List Kn} (hr : RdS w 3 A n (t.map knCells)) (ht : TabOk t) (x : Int) (r : Nat) (hr1 : r ≤ n) (h1 : ∀ j k, j < r → t[j]? = some k → k.x ≤ x) (h2 : ∀ j k, r ≤ j → t[j]? = some k → x < k.x)
    (w1 : World) (hw : Has w ⟨[], D⟩ H w1) (p1 : Pick H b2 [.slice A n c] tg H1) (p2 : Pick H b3 [.int .i64 x] tg' H2) :
    Calls Try.prog 81 #[.int .i64 (n : Int), .func (.func 151) #[] ⟨[.pointer (some ⟨b2, 0, none⟩), .pointer (some ⟨b3, 0, none⟩)]⟩] w1 fun e w' => e = .returned (.int .i64 (r : Int)) ∧ Ext w1 w' := by
  have hl := hr.len
  simp only [List.length_map] at hl
  have h32 := ht.l32
  have m0 := hw.cellAt p1 (o := 0) rfl
  have m1 := hw.cellAt p2 (o := 0) rfl
  refine search_calls 151 _ n r (fun j => match t[j]? with | some k => decide (x < k.x) | none => true) (by omega) hr1 (fun j hj => ?_) (fun j hj hjn => ?_) w1 Try.call151 (fun j hj w2 hx => ?_)
  · have : t[j]? = some t[j] := List.getElem?_eq_getElem (by omega)
    have h := h1 j _ hj this
    simp only [this]
    simpa using h
  · have : t[j]? = some t[j] := List.getElem?_eq_getElem (by omega)
    have h := h2 j _ hj this
    simp only [this]
    simpa using h
  · have : t[j]? = some t[j] := List.getElem?_eq_getElem (by omega)
    simp only [this]
    exact at1_calls A n c t x b2 b3 j hj _ this w2 (hr.ext (hw.ext.ext.trans hx)) (hx.cell m0) (hx.cell m1)
theorem line_bounds {a b : Kn} (ha : -100000 ≤ a.x ∧ a.x ≤ 100000 ∧ -100000 ≤ a.lo ∧ a.lo ≤ a.hi ∧ a.hi ≤ 100000) (hb : -100000 ≤ b.x ∧ b.x ≤ 100000 ∧ -100000 ≤ b.lo ∧ b.lo ≤ b.hi ∧ b.hi ≤ 100000) (h : a.x < b.x) {x : Int} (hx : -100000 ≤ x ∧ x ≤ 100000) :
    (-1000000000000 ≤ (x - a.x) * (b.lo - a.lo) ∧ (x - a.x) * (b.lo - a.lo) ≤ 1000000000000) ∧ (-1000000000000 ≤ (x - a.x) * (a.hi - b.hi) ∧ (x - a.x) * (a.hi - b.hi) ≤ 1000000000000) ∧
    (-1000000000001 ≤ (x - a.x) * (b.lo - a.lo) / (b.x - a.x) ∧ (x - a.x) * (b.lo - a.lo) / (b.x - a.x) ≤ 1000000000000) ∧ (-1000000000001 ≤ (x - a.x) * (a.hi - b.hi) / (b.x - a.x) ∧ (x - a.x) * (a.hi - b.hi) / (b.x - a.x) ≤ 1000000000000) := by
  have m1 := mul_abs (x := x - a.x) (y := b.lo - a.lo) (a := 200000) (b := 200000) (by omega) (by omega)
  have m2 := mul_abs (x := x - a.x) (y := a.hi - b.hi) (a := 200000) (b := 200000) (by omega) (by omega)
  have d1 := ediv_abs (b := b.x - a.x) (m := 1000000000000) (by omega) (a := (x - a.x) * (b.lo - a.lo)) (by omega)
  have d2 := ediv_abs (b := b.x - a.x) (m := 1000000000000) (by omega) (a := (x - a.x) * (a.hi - b.hi)) (by omega)
  omega
theorem at_calls (A : Option Addr) (n c : Nat) (t : List Kn) (x : Int) (w : World) (hr : RdS w 3 A n (t.map knCells)) (ht : TabOk t) (hx : -100000 ≤ x ∧ x ≤ 100000) :
    Calls Try.prog 142 #[.slice A n c, .int .i64 x] w fun e w' => e = .returned (.agg #[.int .i64 (atV t x).1, .int .i64 (atV t x).2]) ∧ Ext w w' := by
  have hl := hr.len
  simp only [List.length_map] at hl
  have l2 := ht.l2
  have l32 := ht.l32
  obtain ⟨r, hrn, s1, s2⟩ := mono_cut (p := fun j => match t[j]? with | some k => decide (x < k.x) | none => true) n (fun i j hij hj => by
    have ei : t[i]? = some t[i] := List.getElem?_eq_getElem (by omega)
    have ej : t[j]? = some t[j] := List.getElem?_eq_getElem (by omega)
    simp only [ei, ej]
    intro h
    simp only [decide_eq_true_eq] at h ⊢
    rcases Nat.lt_or_eq_of_le hij with h1 | h1
    · have := ht.inc.at_ h1 ei ej; omega
    · subst h1; exact h)
  have h1 : ∀ j k, j < r → t[j]? = some k → k.x ≤ x := fun j k hj hk => by have := s1 j hj; simp only [hk] at this; simpa using this
  have h2 : ∀ j k, r ≤ j → t[j]? = some k → x < k.x := fun j k hj hk => by
    have := s2 j hj (by have := (List.getElem?_eq_some_iff.1 hk).1; omega)
    simp only [hk] at this; simpa using this
  obtain ⟨g, hg⟩ : ∃ g : Nat, g + 1 = min (max r 1) (n - 1) := ⟨min (max r 1) (n - 1) - 1, by omega⟩
  obtain ⟨ba, oa, a, rfl, hba, ha, c0, c1, c2⟩ := kn_read hr (show g < n by omega)
  obtain ⟨bb, ob, b, hA, _, hb, d0, d1, d2⟩ := kn_read hr (show g + 1 < n by omega)
  obtain ⟨rfl, rfl⟩ : bb = ba ∧ ob = oa := by simpa using hA.symm
  have oka := ht.at_ ha
  have okb := ht.at_ hb
  have hab := ht.inc.at_ (Nat.lt_succ_self g) ha hb
  have hval : atV t x = lineV a b x := by
    refine atV_seg ht.inc ha hb ?_ ?_
    · by_cases h0 : g = 0
      · exact .inl h0
      · exact .inr (h1 g a (by omega) ha)
    · by_cases h0 : g + 2 = t.length
      · exact .inl h0
      · exact .inr (by have := h2 (g + 1) b (by omega) hb; omega)
  obtain ⟨M1, M2, D1, D2⟩ := line_bounds oka okb hab hx
  have k1 : InR ((x - a.x) * (b.lo - a.lo)) := ⟨by omega, by omega⟩
  have k2 : InR ((x - a.x) * (a.hi - b.hi)) := ⟨by omega, by omega⟩
  rw [hval]
  clear hval s1 s2
  refine enterQ (c := cx w 69) Try.func142 rfl rfl rfl rfl ?_
  repeat' (first | ((with_reducible apply oq_id); first | ((with_reducible apply oq_min2E (k := ((g + 1 : Nat) : Int))); exact rfl; exact rfl; omega) | ((with_reducible apply oq_subE (k := (g : Int))); exact rfl; exact rfl; omega) | (focus ((with_reducible apply oq_indexAddrN); exact rfl; exact rfl; exact rfl; exact rfl; omega)) | (apply oq_fn; exact rfl; first | exact trivial | (refine ⟨?_, ?_⟩ <;> omega) | (refine ⟨?_, ?_, ?_⟩ <;> omega) | omega | skip) | ((with_reducible apply oq_load); exact rfl; exact rfl) | ((with_reducible apply oq_loadAgg); exact rfl; exact rfl) | ((with_reducible apply oq_call (k := 81) (hc := Try.call81)); exact rfl; exact rfl; exact fun D w1 hw1 => srch_at hr ht x r hrn h1 h2 w1 hw1 (by (repeat (first | exact P0 | apply P1))) (by (repeat (first | exact P0 | apply P1))))) | ((with_reducible apply tl_id); first | ((with_reducible apply tl_nil)) | ((with_reducible apply u_q); exact rfl; exact rfl; exact rfl; exact rfl) | ((with_reducible apply u_s); exact rfl; exact rfl; exact rfl)) | ((with_reducible apply gx_id); first | ((with_reducible apply v_nil)) | ((with_reducible apply v_q); exact rfl; exact rfl; exact rfl)) | ((with_reducible apply os_id); first | ((with_reducible apply os_x); exact rfl) | ((with_reducible apply os_storeAgg); exact rfl; exact rfl; exact rfl; exact rfl; exact rfl)) | ((with_reducible apply ox_id); first | ((with_reducible apply ox_alloc); exact rfl; intro _) | ((with_reducible apply ox_box); exact rfl; exact rfl; intro _)) | ((with_reducible apply ai_id); first | ((with_reducible apply ai_x); exact rfl; exact rfl; exact rfl; exact rfl; exact rfl) | ((with_reducible apply ai_n0); exact rfl; exact rfl; exact rfl)) | ((with_reducible apply al_keep); focus (repeat (first | exact HpSub.refl _ | (apply HpSub.cons; (repeat (first | exact P0 | apply P1))) | exact HpSub.nil))) | ((with_reducible apply rd_id); first | (apply Rd.own; (repeat (first | exact P0 | apply P1)); exact rfl; done) | (apply Rd.old; (first | (with_reducible assumption) | exact c0 | exact c1 | exact c2 | exact d0 | exact d1 | exact d2); first | exact List.not_mem_nil)) | ((with_reducible apply t_id); first | (with_reducible apply t_cutK (ι := (Nat × Nat)) (rid := 3) [2, 3, 4, 5] (fun i => [(6, .pointer (some ⟨i.1, 0, none⟩)), (7, .pointer (some ⟨i.2, 0, none⟩))]) (fun i => [(i.1, knCells a, some (166, 3, 1)), (i.2, knCells b, some (166, 3, 1))])); (repeat (first | exact KeepF.nil | (apply KeepF.cons; exact rfl) | apply KeepF.skip)) | ((with_reducible apply t_seq)) | (apply t_region; kernel_rfl)) | with_reducible apply q_thenN | exact P0 | ((with_reducible apply P1)) | exact Rdn.zero | apply Rdn.succ | ((with_reducible apply Norm.nil); exact rfl) | ((with_reducible apply Norm.cons); exact rfl) | ((with_reducible apply cut_in2) <;> (repeat' (first | exact FrSub.nil | (apply FrSub.cons; exact rfl) | exact HpSub.refl _ | (apply HpSub.consE; (repeat (first | exact P0 | apply P1)); exact rfl) | exact HpSub.nil))) | (apply t_mix (id := 3) [0, 1, 2, 3, 4, 5, 6, 7, 8] 4 #[false, false, false, false, false, false, false, false, false, false, false, false, false]; kernel_rfl; kernel_rfl; exact rfl) | ((with_reducible apply al_id); first | (apply al_done; decide +kernel) | (apply al_one 9; decide +kernel) | (apply al_one 10; decide +kernel) | (apply al_one 11; decide +kernel) | (apply al_one 12; decide +kernel) | (apply al_two 9 10; decide +kernel)) | exact Nat.le_of_ble_eq_true rfl)
  rintro ⟨b6, b7⟩
  try simp only [List.cons_append, List.nil_append]
  repeat' (first | ((with_reducible apply oq_id); first | (apply oq_fn; exact rfl; first | exact trivial | (refine ⟨?_, ?_⟩ <;> omega) | (refine ⟨?_, ?_, ?_⟩ <;> omega) | omega | skip) | ((with_reducible apply oq_load); exact rfl; exact rfl) | ((with_reducible apply oq_call (k := 152) (hc := Try.call152)); exact rfl; exact rfl; exact fun D w1 hw1 => down_calls _ _ (by omega) (by omega) (by first | exact M1 | exact M2) w1) | ((with_reducible apply oq_build); exact rfl; exact rfl; exact rfl)) | ((with_reducible apply gx_id); first | ((with_reducible apply v_nil)) | ((with_reducible apply v_q); exact rfl; exact rfl; exact rfl)) | ((with_reducible apply os_id); first | ((with_reducible apply os_storeAgg); exact rfl; exact rfl; exact rfl; exact rfl; exact rfl)) | ((with_reducible apply ai_id); first | ((with_reducible apply ai_s0); exact rfl; exact rfl; exact rfl; exact rfl)) | ((with_reducible apply rd_id); first | (apply Rd.own; (repeat (first | exact P0 | apply P1)); exact rfl; done)) | ((with_reducible apply t_id); first | ((with_reducible apply t_seq)) | (apply t_drawn; kernel_rfl; decide +kernel) | ((with_reducible apply t_ret))) | with_reducible apply q_thenN | exact P0 | ((with_reducible apply P1)) | exact Rdn.zero | apply Rdn.succ | ((with_reducible apply Norm.nil); exact rfl) | ((with_reducible apply Norm.cons); exact rfl) | ((with_reducible apply end_ret)) | exact rvs_nil | ((with_reducible apply rvs_cons)) | ((with_reducible apply rv_cellAgg); exact rfl; exact rfl) | (apply t_mix (id := 5) [0, 1, 2, 3, 4, 5, 6, 7, 8, 9, 10, 11, 12, 13, 14, 15, 16, 17, 18, 19, 20, 21, 22, 23, 24, 25, 26, 27, 28, 29, 30] 1 #[false, false, false, false, false, false, false, false, false, false, false, false, false, false, false, false, false, false, false, false, false, false, false, false, false, false, false, false, false, false, false, true]; kernel_rfl; kernel_rfl; exact rfl) | ((with_reducible apply al_id); first | (apply al_done; decide +kernel) | (apply al_one 31; decide +kernel)) | exact Nat.le_of_ble_eq_true rfl)
  all_goals rfl


theorem checkTable_ok (A : Option Addr) (n c : Nat) (t : List Kn) (w : World) (hr : RdS w 3 A n (t.map knCells)) (ht : TabOk t) :
    Calls Try.prog 140 #[.slice A n c] w fun e w' => e = .returned (.int .i64 0) ∧ Ext w w' := by
  have hl := hr.len
  simp only [List.length_map] at hl
  have l2 := ht.l2
  have l32 := ht.l32
  refine enterQ (c := cx w 61) Try.func140 rfl rfl rfl rfl ?_
  repeat' (first | ((with_reducible apply oq_id); first | (apply oq_fn; exact rfl; first | exact trivial | (refine ⟨?_, ?_⟩ <;> omega) | (refine ⟨?_, ?_, ?_⟩ <;> omega) | omega | skip)) | ((with_reducible apply tl_id); first | ((with_reducible apply tl_nil)) | ((with_reducible apply u_q); exact rfl; exact rfl; exact rfl; exact rfl) | ((with_reducible apply u_splitD); exact rfl; exact rfl; all_goals first | (intro hp; try (exfalso; omega)) | skip)) | ((with_reducible apply t_id); first | ((with_reducible apply t_seq)) | (apply t_region; kernel_rfl) | ((with_reducible apply t_condD); exact rfl; all_goals first | (intro hp; try (exfalso; omega)) | skip) | ((with_reducible apply t_skip)) | ((with_reducible apply t_block))) | with_reducible apply q_thenN)
  apply t_loopK (ι := Nat) [0, 13, 14] (fun k => [(15, .int .i64 (k : Nat))]) (fun _ => []) (fun k => k ≤ n) (fun k => n - k) (0)
  (repeat (first | exact KeepF.nil | (apply KeepF.cons; exact rfl) | apply KeepF.skip))
  (repeat (first | exact FrSub.nil | (apply FrSub.cons; exact rfl)))
  (repeat (first | exact HpSub.refl _ | (apply HpSub.consE; (repeat (first | exact P0 | apply P1)); exact rfl) | exact HpSub.nil))
  · omega
  intro k hk
  try simp only [List.cons_append, List.nil_append]
  by_cases hlt : k < n
  · obtain ⟨b, o, y, rfl, _, hy, c0, c1, c2⟩ := kn_read hr hlt
    have oky := ht.at_ hy
    cases k with
    | zero =>
      repeat' (first | ((with_reducible apply oq_id); first | (focus ((with_reducible apply oq_indexAddrN); exact rfl; exact rfl; exact rfl; exact rfl; omega)) | (apply oq_fn; exact rfl; first | exact trivial | (refine ⟨?_, ?_⟩ <;> omega) | (refine ⟨?_, ?_, ?_⟩ <;> omega) | omega | skip) | ((with_reducible apply oq_load); exact rfl; exact rfl) | ((with_reducible apply oq_loadAgg); exact rfl; exact rfl)) | ((with_reducible apply tl_id); first | ((with_reducible apply tl_nil)) | ((with_reducible apply u_q); exact rfl; exact rfl; exact rfl; exact rfl) | ((with_reducible apply u_s0); exact rfl; exact rfl) | ((with_reducible apply u_s); exact rfl; exact rfl; exact rfl)) | ((with_reducible apply gx_id); first | ((with_reducible apply v_nil)) | ((with_reducible apply v_q); exact rfl; exact rfl; exact rfl) | ((with_reducible apply v_skip); exact rfl; exact rfl; exact rfl) | ((with_reducible apply v_splitD); exact rfl; exact rfl; all_goals first | (intro hp; try (exfalso; omega)) | skip)) | ((with_reducible apply os_id); first | ((with_reducible apply os_x); exact rfl) | ((with_reducible apply os_storeAgg); exact rfl; exact rfl; exact rfl; exact rfl; exact rfl)) | ((with_reducible apply ox_id); first | ((with_reducible apply ox_alloc); exact rfl; intro _)) | ((with_reducible apply rd_id); first | (apply Rd.own; (repeat (first | exact P0 | apply P1)); exact rfl; done) | (apply Rd.old; (first | (with_reducible assumption) | exact c0 | exact c1 | exact c2 | exact d0 | exact d1 | exact d2); first | exact List.not_mem_nil)) | ((with_reducible apply t_id); first | ((with_reducible apply t_seq)) | (apply t_region; kernel_rfl) | (apply t_drawn; kernel_rfl; decide +kernel) | ((with_reducible apply t_condF); exact rfl) | ((with_reducible apply t_condD); exact rfl; all_goals first | (intro hp; try (exfalso; omega)) | skip) | ((with_reducible apply t_skip)) | ((with_reducible apply t_block))) | with_reducible apply q_thenN | with_reducible apply q_blockN | exact P0 | exact Rdn.zero | apply Rdn.succ | ((with_reducible apply Norm.nil); exact rfl) | ((with_reducible apply Norm.cons); exact rfl) | exact Nat.le_of_ble_eq_true rfl)
      all_goals (refine ⟨1, by omega, by omega, ?_, ?_⟩ <;> (try simp only [List.cons_append, List.nil_append]) <;> (repeat' (first | exact FrSub.nil | (apply FrSub.cons; exact rfl) | exact HpSub.nil)))
    | succ j =>
      obtain ⟨b', o', x, hA, _, hx, d0, d1, d2⟩ := kn_read hr (show j < n by omega)
      obtain ⟨rfl, rfl⟩ : b' = b ∧ o' = o := by simpa using hA.symm
      have hxy := ht.inc.at_ (Nat.lt_succ_self j) hx hy
      repeat' (first | ((with_reducible apply oq_id); first | ((with_reducible apply oq_subE (k := (j : Int))); exact rfl; exact rfl; omega) | (focus ((with_reducible apply oq_indexAddrN); exact rfl; exact rfl; exact rfl; exact rfl; omega)) | (apply oq_fn; exact rfl; first | exact trivial | (refine ⟨?_, ?_⟩ <;> omega) | (refine ⟨?_, ?_, ?_⟩ <;> omega) | omega | skip) | ((with_reducible apply oq_load); exact rfl; exact rfl) | ((with_reducible apply oq_loadAgg); exact rfl; exact rfl)) | ((with_reducible apply tl_id); first | ((with_reducible apply tl_nil)) | ((with_reducible apply u_q); exact rfl; exact rfl; exact rfl; exact rfl) | ((with_reducible apply u_s0); exact rfl; exact rfl) | ((with_reducible apply u_s); exact rfl; exact rfl; exact rfl)) | ((with_reducible apply gx_id); first | ((with_reducible apply v_nil)) | ((with_reducible apply v_q); exact rfl; exact rfl; exact rfl) | ((with_reducible apply v_splitD); exact rfl; exact rfl; all_goals first | (intro hp; try (exfalso; omega)) | skip)) | ((with_reducible apply os_id); first | ((with_reducible apply os_x); exact rfl) | ((with_reducible apply os_storeAgg); exact rfl; exact rfl; exact rfl; exact rfl; exact rfl)) | ((with_reducible apply ox_id); first | ((with_reducible apply ox_alloc); exact rfl; intro _)) | ((with_reducible apply rd_id); first | (apply Rd.own; (repeat (first | exact P0 | apply P1)); exact rfl; done) | (apply Rd.old; (first | (with_reducible assumption) | exact c0 | exact c1 | exact c2 | exact d0 | exact d1 | exact d2); first | exact List.not_mem_nil)) | ((with_reducible apply t_id); first | ((with_reducible apply t_seq)) | (apply t_region; kernel_rfl) | (apply t_drawn; kernel_rfl; decide +kernel) | ((with_reducible apply t_condD); exact rfl; all_goals first | (intro hp; try (exfalso; omega)) | skip) | ((with_reducible apply t_skip)) | ((with_reducible apply t_block))) | with_reducible apply q_thenN | with_reducible apply q_blockN | exact P0 | exact Rdn.zero | apply Rdn.succ | ((with_reducible apply Norm.nil); exact rfl) | ((with_reducible apply Norm.cons); exact rfl) | exact Nat.le_of_ble_eq_true rfl)
      all_goals (refine ⟨j + 1 + 1, by omega, by omega, ?_, ?_⟩ <;> (try simp only [List.cons_append, List.nil_append]) <;> (repeat' (first | exact FrSub.nil | (apply FrSub.cons; exact rfl) | exact HpSub.nil)))
  · repeat' (first | ((with_reducible apply oq_id); first | (apply oq_fn; exact rfl; first | exact trivial | (refine ⟨?_, ?_⟩ <;> omega) | (refine ⟨?_, ?_, ?_⟩ <;> omega) | omega | skip)) | ((with_reducible apply tl_id); first | ((with_reducible apply tl_nil)) | ((with_reducible apply u_q); exact rfl; exact rfl; exact rfl; exact rfl)) | ((with_reducible apply t_id); first | ((with_reducible apply t_seq)) | (apply t_region; kernel_rfl) | ((with_reducible apply t_condD); exact rfl; all_goals first | (intro hp; try (exfalso; omega)) | skip) | ((with_reducible apply t_ret)) | ((with_reducible apply t_exit))) | with_reducible apply q_thenN | with_reducible apply q_thenE | ((with_reducible apply q_blockE); exact rfl) | ((with_reducible apply end_ret)) | exact rvs_nil | ((with_reducible apply rvs_cons)) | ((with_reducible apply rv_tmp); exact rfl))
    all_goals rfl


theorem around2 {w0 : World} {M : Ms} {H H' : Hp} {w : World} {g : Nat} {a b c d : Int} {tg : Tg} (h : Has w0 M H w) (p : Pick H g [.int .i64 a, .int .i64 b, .int .i64 c, .int .i64 d] tg H') :
    Calls Try.prog 141 #[.slice (some ⟨g, 0, none⟩) 2 2] w fun e w' => e = .returned (.agg #[.int .i64 (min a c), .int .i64 (max b d)]) ∧ Ext w w' := by
  have := around_calls (some ⟨g, 0, none⟩) 2 2 (a, b) [(a, b), (c, d)] w (Blk.rows (k := 2) (rows := [(a, b), (c, d)].map spanCells) (h.blk _ p.mem).2 rfl (by simp [spanCells])) (by omega) rfl (by omega) (by omega)
  have e : hullA (a, b) [(a, b), (c, d)] = (min a c, max b d) := by simp only [hullA, hullS, List.foldl_cons, List.foldl_nil]; congr 1 <;> omega
  rw [e] at this
  exact this
theorem value_calls (A : Option Addr) (n c : Nat) (t : List Kn) (p q : Int) (w : World) (hr : RdS w 3 A n (t.map knCells)) (ht : TabOk t) (h0 : ∀ k, t[0]? = some k → k.x ≤ p) (hpq : p ≤ q) (hl : ∀ k, t[n - 1]? = some k → q ≤ k.x) :
    Calls Try.prog 119 #[.slice A n c, .agg #[.int .i64 p, .int .i64 q]] w fun e w' => e = .returned (.tuple #[.agg #[.int .i64 (valV t p q).1, .int .i64 (valV t p q).2], .int .i64 0]) ∧ Ext w w' := by
  have hlen := hr.len
  simp only [List.length_map] at hlen
  have l2 := ht.l2
  have l32 := ht.l32
  obtain ⟨m, rfl⟩ : ∃ m, n = m + 1 := ⟨n - 1, by omega⟩
  obtain ⟨b, o, k0, rfl, _, hk0, c0, c1, c2⟩ := kn_read hr (show 0 < m + 1 by omega)
  obtain ⟨b', o', km, hA, _, hkm, d0, d1, d2⟩ := kn_read hr (show m < m + 1 by omega)
  obtain ⟨rfl, rfl⟩ : b' = b ∧ o' = o := by simpa using hA.symm
  have hp0 := h0 k0 hk0
  have hq0 := hl km hkm
  have ok0 := ht.at_ hk0
  have okm := ht.at_ hkm
  have HC := fun w1 => check_calls p q w1
  rw [if_pos ((fineS_iff _).2 ⟨hpq, by simp only; omega, by simp only; omega⟩)] at HC
  have HP := fun w1 (hx : Ext w w1) => at_calls _ _ c t p w1 (hr.ext hx) ht (by omega)
  have HQ := fun w1 (hx : Ext w w1) => at_calls _ _ c t q w1 (hr.ext hx) ht (by omega)
  refine enterQ (c := cx w 78) Try.func119 rfl rfl rfl rfl ?_
  repeat' (first | ((with_reducible apply oq_id); first | ((with_reducible apply oq_subE (k := (m : Int))); exact rfl; exact rfl; omega) | (focus ((with_reducible apply oq_indexAddrN); exact rfl; exact rfl; exact rfl; exact rfl; omega)) | (apply oq_fn; exact rfl; first | exact trivial | (refine ⟨?_, ?_⟩ <;> omega) | (refine ⟨?_, ?_, ?_⟩ <;> omega) | omega | skip) | ((with_reducible apply oq_load); exact rfl; exact rfl) | ((with_reducible apply oq_loadAgg); exact rfl; exact rfl) | ((with_reducible apply oq_call (k := 140) (hc := Try.call140)); exact rfl; exact rfl; exact fun D w1 hw1 => checkTable_ok _ _ _ t w1 (hr.ext hw1.ext.ext) ht) | ((with_reducible apply oq_call (k := 55) (hc := Try.call55)); exact rfl; exact rfl; exact fun D w1 hw1 => HC w1) | ((with_reducible apply oq_call (k := 142) (hc := Try.call142)); exact rfl; exact rfl; exact fun D w1 hw1 => HP w1 hw1.ext.ext) | ((with_reducible apply oq_call (k := 142) (hc := Try.call142)); exact rfl; exact rfl; exact fun D w1 hw1 => HQ w1 hw1.ext.ext) | ((with_reducible apply oq_call (k := 141) (hc := Try.call141)); exact rfl; exact rfl; exact fun D w1 hw1 => around2 hw1 (by (repeat (first | exact P0 | apply P1))))) | ((with_reducible apply tl_id); first | ((with_reducible apply tl_nil)) | ((with_reducible apply u_q); exact rfl; exact rfl; exact rfl; exact rfl) | ((with_reducible apply u_s); exact rfl; exact rfl; exact rfl)) | ((with_reducible apply gx_id); first | ((with_reducible apply v_nil)) | ((with_reducible apply v_q); exact rfl; exact rfl; exact rfl) | ((with_reducible apply v_splitD); exact rfl; exact rfl; all_goals first | (intro hp; try (exfalso; omega)) | skip)) | ((with_reducible apply os_id); first | ((with_reducible apply os_x); exact rfl) | ((with_reducible apply os_storeAgg); exact rfl; exact rfl; exact rfl; exact rfl; exact rfl)) | ((with_reducible apply ox_id); first | ((with_reducible apply ox_alloc); exact rfl; intro _) | ((with_reducible apply ox_boxAgg); exact rfl; intro _) | ((with_reducible apply ox_buildSlice2); exact rfl; exact rfl; exact rfl; exact rfl; exact rfl; exact rfl; intro _)) | ((with_reducible apply ai_id); first | ((with_reducible apply ai_q); exact rfl; exact rfl; exact rfl; exact rfl; exact rfl) | ((with_reducible apply ai_x); exact rfl; exact rfl; exact rfl; exact rfl; exact rfl) | ((with_reducible apply ai_n0); exact rfl; exact rfl; exact rfl)) | ((with_reducible apply al_keep); focus (repeat (first | exact HpSub.refl _ | (apply HpSub.cons; (repeat (first | exact P0 | apply P1))) | exact HpSub.nil))) | ((with_reducible apply rd_id); first | (apply Rd.own; (repeat (first | exact P0 | apply P1)); exact rfl; done) | (apply Rd.old; (first | (with_reducible assumption) | exact c0 | exact c1 | exact c2 | exact d0 | exact d1 | exact d2); first | exact List.not_mem_nil)) | ((with_reducible apply t_id); first | (with_reducible apply t_cutK (ι := Nat) (rid := 9) [0, 3, 4, 5] (fun i => [(8, .pointer (some ⟨i, 0, none⟩))]) (fun i => [(i, [.int .i64 (accV t p q 0).1, .int .i64 (accV t p q 0).2], some (26, 2, 1))])); (repeat (first | exact KeepF.nil | (apply KeepF.cons; exact rfl) | apply KeepF.skip)) | ((with_reducible apply t_seq)) | (apply t_region; kernel_rfl) | (apply t_drawn; kernel_rfl; decide +kernel) | ((with_reducible apply t_condF); exact rfl) | ((with_reducible apply t_condD); exact rfl; all_goals first | (intro hp; try (exfalso; omega)) | skip) | ((with_reducible apply t_skip))) | with_reducible apply q_thenN | exact P0 | ((with_reducible apply P1)) | exact Rdn.zero | apply Rdn.succ | ((with_reducible apply Norm.nil); exact rfl) | ((with_reducible apply Norm.cons); exact rfl) | ((with_reducible apply cut_in1) <;> (repeat' (first | exact FrSub.nil | (apply FrSub.cons; exact rfl) | exact HpSub.refl _ | (apply HpSub.consE; (repeat (first | exact P0 | apply P1)); exact rfl) | exact HpSub.nil))) | (apply t_mix (id := 9) [0, 1, 2, 3, 4, 5, 6, 7] 4 #[false, false, false, false, false, false, false, false, false, false, false, false]; kernel_rfl; kernel_rfl; exact rfl) | ((with_reducible apply al_id); first | (apply al_done; decide +kernel) | (apply al_one 8; decide +kernel) | (apply al_one 9; decide +kernel) | (apply al_one 10; decide +kernel) | (apply al_one 11; decide +kernel) | (apply al_two 8 10; decide +kernel) | (apply al_two 9 10; decide +kernel)) | exact Nat.le_of_ble_eq_true rfl)
  intro b8
  try simp only [List.cons_append, List.nil_append]
  clear c0 c1 c2 d0 d1 d2 HP HQ HC
  repeat' (first | ((with_reducible apply oq_id); first | (apply oq_fn; exact rfl; first | exact trivial | (refine ⟨?_, ?_⟩ <;> omega) | (refine ⟨?_, ?_, ?_⟩ <;> omega) | omega | skip)) | ((with_reducible apply tl_id); first | ((with_reducible apply tl_nil)) | ((with_reducible apply u_q); exact rfl; exact rfl; exact rfl; exact rfl)) | ((with_reducible apply t_id); first | ((with_reducible apply t_seq)) | (apply t_region; kernel_rfl) | ((with_reducible apply t_block))) | with_reducible apply q_thenN)
  apply t_loopK (ι := Nat) [3, 4, 5, 8, 53, 54, 77] (fun k => [(55, .int .i64 (k : Nat))]) (fun k => [(b8, [.int .i64 (accV t p q k).1, .int .i64 (accV t p q k).2], some (26, 2, 1))]) (fun k => k ≤ m + 1) (fun k => m + 1 - k) (0)
  (repeat (first | exact KeepF.nil | (apply KeepF.cons; exact rfl) | apply KeepF.skip))
  (repeat (first | exact FrSub.nil | (apply FrSub.cons; exact rfl)))
  (repeat (first | exact HpSub.refl _ | (apply HpSub.consE; (repeat (first | exact P0 | apply P1)); exact rfl) | exact HpSub.nil))
  · omega
  intro k hk
  try simp only [List.cons_append, List.nil_append]
  by_cases hlt : k < m + 1
  · obtain ⟨b1, o1, y, hA, _, hy, c0, c1, c2⟩ := kn_read hr hlt
    obtain ⟨rfl, rfl⟩ : b1 = b' ∧ o1 = o' := by simpa using hA.symm
    by_cases h1 : p < y.x
    · by_cases h2 : y.x < q
      · have he := accV_yes hy h1 h2
        repeat' (first | ((with_reducible apply oq_id); first | (focus ((with_reducible apply oq_indexAddrN); exact rfl; exact rfl; exact rfl; exact rfl; omega)) | (apply oq_fn; exact rfl; first | exact trivial | (refine ⟨?_, ?_⟩ <;> omega) | (refine ⟨?_, ?_, ?_⟩ <;> omega) | omega | skip) | ((with_reducible apply oq_load); exact rfl; exact rfl) | ((with_reducible apply oq_loadAgg); exact rfl; exact rfl) | ((with_reducible apply oq_call (k := 141) (hc := Try.call141)); exact rfl; exact rfl; exact fun D w1 hw1 => around2 hw1 (by (repeat (first | exact P0 | apply P1))))) | ((with_reducible apply tl_id); first | ((with_reducible apply tl_nil)) | ((with_reducible apply u_q); exact rfl; exact rfl; exact rfl; exact rfl) | ((with_reducible apply u_s0); exact rfl; exact rfl) | ((with_reducible apply u_s); exact rfl; exact rfl; exact rfl) | ((with_reducible apply u_splitD); exact rfl; exact rfl; all_goals first | (intro hp; try (exfalso; omega)) | skip)) | ((with_reducible apply os_id); first | ((with_reducible apply os_x); exact rfl) | ((with_reducible apply os_storeAgg); exact rfl; exact rfl; exact rfl; exact rfl; exact rfl)) | ((with_reducible apply ox_id); first | ((with_reducible apply ox_alloc); exact rfl; intro _) | ((with_reducible apply ox_buildSlice2); exact rfl; exact rfl; exact rfl; exact rfl; exact rfl; exact rfl; intro _)) | ((with_reducible apply rd_id); first | (apply Rd.own; (repeat (first | exact P0 | apply P1)); exact rfl; done) | (apply Rd.old; (first | (with_reducible assumption) | exact c0 | exact c1 | exact c2 | exact d0 | exact d1 | exact d2); first | exact List.not_mem_nil)) | ((with_reducible apply t_id); first | ((with_reducible apply t_seq)) | (apply t_region; kernel_rfl) | ((with_reducible apply t_condD); exact rfl; all_goals first | (intro hp; try (exfalso; omega)) | skip) | ((with_reducible apply t_skip)) | ((with_reducible apply t_block))) | with_reducible apply q_thenN | with_reducible apply q_blockN | exact P0 | ((with_reducible apply P1)) | exact Rdn.zero | apply Rdn.succ | ((with_reducible apply Norm.nil); exact rfl) | ((with_reducible apply Norm.cons); exact rfl) | exact Nat.le_of_ble_eq_true rfl)
        all_goals (refine ⟨k + 1, by omega, by omega, ?_, ?_⟩ <;> (try simp only [List.cons_append, List.nil_append]) <;> (repeat' (first | exact FrSub.nil | (apply FrSub.cons; exact rfl) | (apply HpSub.consE; (repeat (first | exact P0 | apply P1)); first | exact rfl | (rw [he]; rfl)) | exact HpSub.nil)))
      · have he := accV_no (t := t) (p := p) (q := q) hy (by omega)
        repeat' (first | ((with_reducible apply oq_id); first | (focus ((with_reducible apply oq_indexAddrN); exact rfl; exact rfl; exact rfl; exact rfl; omega)) | (apply oq_fn; exact rfl; first | exact trivial | (refine ⟨?_, ?_⟩ <;> omega) | (refine ⟨?_, ?_, ?_⟩ <;> omega) | omega | skip) | ((with_reducible apply oq_load); exact rfl; exact rfl) | ((with_reducible apply oq_loadAgg); exact rfl; exact rfl)) | ((with_reducible apply tl_id); first | ((with_reducible apply tl_nil)) | ((with_reducible apply u_q); exact rfl; exact rfl; exact rfl; exact rfl) | ((with_reducible apply u_s0); exact rfl; exact rfl) | ((with_reducible apply u_s); exact rfl; exact rfl; exact rfl) | ((with_reducible apply u_splitD); exact rfl; exact rfl; all_goals first | (intro hp; try (exfalso; omega)) | skip)) | ((with_reducible apply os_id); first | ((with_reducible apply os_x); exact rfl) | ((with_reducible apply os_storeAgg); exact rfl; exact rfl; exact rfl; exact rfl; exact rfl)) | ((with_reducible apply ox_id); first | ((with_reducible apply ox_alloc); exact rfl; intro _)) | ((with_reducible apply rd_id); first | (apply Rd.own; (repeat (first | exact P0 | apply P1)); exact rfl; done) | (apply Rd.old; (first | (with_reducible assumption) | exact c0 | exact c1 | exact c2 | exact d0 | exact d1 | exact d2); first | exact List.not_mem_nil)) | ((with_reducible apply t_id); first | ((with_reducible apply t_seq)) | (apply t_region; kernel_rfl) | ((with_reducible apply t_condD); exact rfl; all_goals first | (intro hp; try (exfalso; omega)) | skip) | ((with_reducible apply t_skip)) | ((with_reducible apply t_block))) | with_reducible apply q_thenN | with_reducible apply q_blockN | exact P0 | exact Rdn.zero | apply Rdn.succ | ((with_reducible apply Norm.nil); exact rfl) | ((with_reducible apply Norm.cons); exact rfl) | exact Nat.le_of_ble_eq_true rfl)
        all_goals (refine ⟨k + 1, by omega, by omega, ?_, ?_⟩ <;> (try simp only [List.cons_append, List.nil_append]) <;> (repeat' (first | exact FrSub.nil | (apply FrSub.cons; exact rfl) | (apply HpSub.consE; (repeat (first | exact P0 | apply P1)); first | exact rfl | (rw [he])) | exact HpSub.nil)))
    · have he := accV_no (t := t) (p := p) (q := q) hy (by omega)
      repeat' (first | ((with_reducible apply oq_id); first | (focus ((with_reducible apply oq_indexAddrN); exact rfl; exact rfl; exact rfl; exact rfl; omega)) | (apply oq_fn; exact rfl; first | exact trivial | (refine ⟨?_, ?_⟩ <;> omega) | (refine ⟨?_, ?_, ?_⟩ <;> omega) | omega | skip) | ((with_reducible apply oq_load); exact rfl; exact rfl) | ((with_reducible apply oq_loadAgg); exact rfl; exact rfl)) | ((with_reducible apply tl_id); first | ((with_reducible apply tl_nil)) | ((with_reducible apply u_q); exact rfl; exact rfl; exact rfl; exact rfl) | ((with_reducible apply u_s0); exact rfl; exact rfl) | ((with_reducible apply u_s); exact rfl; exact rfl; exact rfl) | ((with_reducible apply u_skip); exact rfl; exact rfl; exact rfl) | ((with_reducible apply u_splitD); exact rfl; exact rfl; all_goals first | (intro hp; try (exfalso; omega)) | skip)) | ((with_reducible apply os_id); first | ((with_reducible apply os_x); exact rfl) | ((with_reducible apply os_storeAgg); exact rfl; exact rfl; exact rfl; exact rfl; exact rfl)) | ((with_reducible apply ox_id); first | ((with_reducible apply ox_alloc); exact rfl; intro _)) | ((with_reducible apply rd_id); first | (apply Rd.own; (repeat (first | exact P0 | apply P1)); exact rfl; done) | (apply Rd.old; (first | (with_reducible assumption) | exact c0 | exact c1 | exact c2 | exact d0 | exact d1 | exact d2); first | exact List.not_mem_nil)) | ((with_reducible apply t_id); first | ((with_reducible apply t_seq)) | (apply t_region; kernel_rfl) | ((with_reducible apply t_condF); exact rfl) | ((with_reducible apply t_condD); exact rfl; all_goals first | (intro hp; try (exfalso; omega)) | skip) | ((with_reducible apply t_skip)) | ((with_reducible apply t_block))) | with_reducible apply q_thenN | with_reducible apply q_blockN | exact P0 | exact Rdn.zero | apply Rdn.succ | ((with_reducible apply Norm.nil); exact rfl) | ((with_reducible apply Norm.cons); exact rfl) | exact Nat.le_of_ble_eq_true rfl)
      all_goals (refine ⟨k + 1, by omega, by omega, ?_, ?_⟩ <;> (try simp only [List.cons_append, List.nil_append]) <;> (repeat' (first | exact FrSub.nil | (apply FrSub.cons; exact rfl) | (apply HpSub.consE; (repeat (first | exact P0 | apply P1)); first | exact rfl | (rw [he])) | exact HpSub.nil)))
  · have he : accV t p q k = valV t p q := accV_all (by omega)
    repeat' (first | ((with_reducible apply oq_id); first | (apply oq_fn; exact rfl; first | exact trivial | (refine ⟨?_, ?_⟩ <;> omega) | (refine ⟨?_, ?_, ?_⟩ <;> omega) | omega | skip) | ((with_reducible apply oq_loadAgg); exact rfl; exact rfl)) | ((with_reducible apply tl_id); first | ((with_reducible apply tl_nil)) | ((with_reducible apply u_q); exact rfl; exact rfl; exact rfl; exact rfl) | ((with_reducible apply u_s0); exact rfl; exact rfl)) | ((with_reducible apply os_id); first | ((with_reducible apply os_storeAgg); exact rfl; exact rfl; exact rfl; exact rfl; exact rfl)) | ((with_reducible apply rd_id); first | (apply Rd.own; (repeat (first | exact P0 | apply P1)); exact rfl; done)) | ((with_reducible apply t_id); first | ((with_reducible apply t_seq)) | (apply t_region; kernel_rfl) | ((with_reducible apply t_condD); exact rfl; all_goals first | (intro hp; try (exfalso; omega)) | skip) | ((with_reducible apply t_ret)) | ((with_reducible apply t_exit))) | with_reducible apply q_thenN | with_reducible apply q_thenE | ((with_reducible apply q_blockE); exact rfl) | exact P0 | ((with_reducible apply P1)) | exact Rdn.zero | apply Rdn.succ | ((with_reducible apply Norm.nil); exact rfl) | ((with_reducible apply Norm.cons); exact rfl) | ((with_reducible apply end_ret)) | exact rvs_nil | ((with_reducible apply rvs_cons)) | ((with_reducible apply rv_tmp); exact rfl) | ((with_reducible apply rv_cellAgg); exact rfl; exact rfl) | exact Nat.le_of_ble_eq_true rfl)
    rw [he]
    all_goals rfl

end Go.Proofs.Ytalidommelefaaa
/- Soundings: valid ones. -/
namespace Go.Proofs.Ytalidommelefaaa
open Go.RowKit
attribute [local irreducible] OQ OS OX Rd T TL GX GL AL AI RV wpG SAny Calls
set_option maxRecDepth 100000
set_option maxHeartbeats 2000000
set_option linter.unusedVariables false
set_option linter.unusedSimpArgs false


theorem fromOne {w0 : World} {M : Ms} {H H' : Hp} {w : World} {g : Nat} {a lo hi : Int} {tg : Tg} {cp : Nat} {q : Bool} (hq : decide (lo ≤ a ∧ a ≤ hi) = q) (h : Has w0 M H w) (p : Pick H g [.int .i64 a] tg H') :
    Calls Try.prog 71 #[.int .i64 lo, .int .i64 hi, .slice (some ⟨g, 0, none⟩) 1 cp] w fun e w' => e = .returned (.bool q) ∧ Ext w w' := by
  have := from_calls lo hi (some ⟨g, 0, none⟩) 1 cp [a] w (Blk.rows (k := 1) (rows := [a].map fun z => [Value.int .i64 z]) (h.blk _ p.mem).2 rfl (by simp)) (by omega)
  have e : allFrom lo hi [a] = q := by rw [← hq]; unfold allFrom; rw [Bool.eq_iff_iff]; simp
  rw [e] at this
  exact this
theorem inside_at (x y lo hi : Int) {q : Bool} (hq : decide (x ≤ y ∧ lo ≤ x ∧ y ≤ hi) = q) (w : World) : Calls Try.prog 72 #[.agg #[.int .i64 x, .int .i64 y], .int .i64 lo, .int .i64 hi] w fun e w' => e = .returned (.bool q) ∧ Ext w w' := by
  have := inside_calls x y lo hi w
  have e : insideB x y lo hi = q := by rw [← hq]; unfold insideB; rw [Bool.eq_iff_iff]; try (simp; try omega)
  rw [e] at this
  exact this
theorem height_calls (h a b c d : Int) (w : World) : Calls Try.prog 99 #[.agg #[.int .i64 h, .int .i64 a, .int .i64 b, .int .i64 c, .int .i64 d]] w fun e w' => e = .returned (.int .i64 h) ∧ Ext w w' := by
  refine enterQ (c := cx w 5) Try.func99 rfl rfl rfl rfl ?_
  repeat' (first | ((with_reducible apply oq_id); first | (apply oq_fn; exact rfl; first | exact trivial | (refine ⟨?_, ?_⟩ <;> omega) | (refine ⟨?_, ?_, ?_⟩ <;> omega) | omega | skip) | ((with_reducible apply oq_load); exact rfl; exact rfl)) | ((with_reducible apply tl_id); first | ((with_reducible apply tl_nil)) | ((with_reducible apply u_q); exact rfl; exact rfl; exact rfl; exact rfl) | ((with_reducible apply u_s); exact rfl; exact rfl; exact rfl)) | ((with_reducible apply os_id); first | ((with_reducible apply os_x); exact rfl)) | ((with_reducible apply ox_id); first | ((with_reducible apply ox_boxAgg); exact rfl; intro _)) | ((with_reducible apply rd_id); first | (apply Rd.own; (repeat (first | exact P0 | apply P1)); exact rfl; done)) | ((with_reducible apply t_id); first | ((with_reducible apply t_seq)) | (apply t_region; kernel_rfl) | ((with_reducible apply t_ret))) | with_reducible apply q_thenN | ((with_reducible apply end_ret)) | exact rvs_nil | ((with_reducible apply rvs_cons)) | ((with_reducible apply rv_tmp); exact rfl))
  all_goals rfl
theorem odd_calls (h a b c d : Int) (w : World) : Calls Try.prog 97 #[.agg #[.int .i64 h, .int .i64 a, .int .i64 b, .int .i64 c, .int .i64 d]] w fun e w' => e = .returned (.bool (!lvOk ⟨h, a, b, c, d⟩)) ∧ Ext w w' := by
  obtain ⟨q1, h1⟩ : ∃ q, decide (a ≤ b ∧ 1000 ≤ a ∧ b ≤ 12000) = q := ⟨_, rfl⟩
  obtain ⟨q2, h2⟩ : ∃ q, decide (c ≤ d ∧ 1500 ≤ c ∧ d ≤ 3500) = q := ⟨_, rfl⟩
  unfold lvOk
  simp only
  rw [h1, h2]
  refine enterQ (c := cx w 13) Try.func97 rfl rfl rfl rfl ?_
  repeat' (first | ((with_reducible apply oq_id); first | (apply oq_fn; exact rfl; first | exact trivial | (refine ⟨?_, ?_⟩ <;> omega) | (refine ⟨?_, ?_, ?_⟩ <;> omega) | omega | skip) | ((with_reducible apply oq_loadAgg); exact rfl; exact rfl) | ((with_reducible apply oq_call (k := 72) (hc := Try.call72)); exact rfl; exact rfl; exact fun D w1 hw1 => inside_at _ _ _ _ h1 w1) | ((with_reducible apply oq_call (k := 72) (hc := Try.call72)); exact rfl; exact rfl; exact fun D w1 hw1 => inside_at _ _ _ _ h2 w1)) | ((with_reducible apply tl_id); first | ((with_reducible apply tl_nil)) | ((with_reducible apply u_q); exact rfl; exact rfl; exact rfl; exact rfl) | ((with_reducible apply u_s); exact rfl; exact rfl; exact rfl) | ((with_reducible apply u_skip); exact rfl; exact rfl; exact rfl) | ((with_reducible apply u_split); exact rfl; exact rfl; all_goals first | intro hp | skip)) | ((with_reducible apply os_id); first | ((with_reducible apply os_x); exact rfl)) | ((with_reducible apply ox_id); first | ((with_reducible apply ox_boxAgg); exact rfl; intro _)) | ((with_reducible apply rd_id); first | (apply Rd.own; (repeat (first | exact P0 | apply P1)); exact rfl; done)) | ((with_reducible apply t_id); first | ((with_reducible apply t_seq)) | (apply t_region; kernel_rfl) | ((with_reducible apply t_ret))) | with_reducible apply q_thenN | exact Rdn.zero | apply Rdn.succ | ((with_reducible apply end_ret)) | exact rvs_nil | ((with_reducible apply rvs_cons)) | ((with_reducible apply rv_tmp); exact rfl))
  all_goals (cases q1 <;> cases q2 <;> first | rfl | simp_all)


def idxV {α : Type} (p : α → Bool) (l : List α) : Int := match l.findIdx? p with | some i => (i : Int) | none => -1
theorem idxV_some {α : Type} {p : α → Bool} {l : List α} {k : Nat} {x : α} (h : l[k]? = some x) (hp : p x = true) (hb : ∀ y ∈ l.take k, p y = false) : idxV p l = (k : Int) := by
  have : l.findIdx? p = some k := by
    rw [List.findIdx?_eq_some_iff_getElem]
    obtain ⟨hk, rfl⟩ := List.getElem?_eq_some_iff.1 h
    refine ⟨hk, hp, fun j hj => ?_⟩
    have := hb l[j] (List.mem_iff_getElem.2 ⟨j, by simp; omega, by simp⟩)
    simp [this]
  unfold idxV; rw [this]
theorem idxV_none {α : Type} {p : α → Bool} {l : List α} (hb : ∀ y ∈ l, p y = false) : idxV p l = -1 := by
  have : l.findIdx? p = none := List.findIdx?_eq_none_iff.2 hb
  unfold idxV; rw [this]
theorem indexLv_calls (f : Nat) (caps : List Value) (p : Lv → Bool) (A : Option Addr) (n c : Nat) (l : List Lv) (w : World) (hr : RdS w 5 A n (l.map lvCells)) (hn : n ≤ 1000000) (hc : ∀ (a : Array Value) (w : World), (callFunc f a).run Try.prog w = .ok (.enter f a) w)
    (hf : ∀ x ∈ l, ∀ w1, Ext w w1 → Calls Try.prog f ⟨.agg ⟨lvCells x⟩ :: caps⟩ w1 fun e w' => e = .returned (.bool (p x)) ∧ Ext w1 w') :
    Calls Try.prog 105 #[.slice A n c, .func (.func f) #[] ⟨caps⟩] w fun e w' => e = .returned (.int .i64 (idxV p l)) ∧ Ext w w' := by
  have hl := hr.len
  simp only [List.length_map] at hl
  refine enterQ (c := cx w 19) Try.func105 rfl rfl rfl rfl ?_
  repeat' (first | ((with_reducible apply oq_id); first | (apply oq_fn; exact rfl; first | exact trivial | (refine ⟨?_, ?_⟩ <;> omega) | (refine ⟨?_, ?_, ?_⟩ <;> omega) | omega | skip)) | ((with_reducible apply tl_id); first | ((with_reducible apply tl_nil)) | ((with_reducible apply u_q); exact rfl; exact rfl; exact rfl; exact rfl)) | ((with_reducible apply t_id); first | ((with_reducible apply t_seq)) | (apply t_region; kernel_rfl) | ((with_reducible apply t_block))) | with_reducible apply q_thenN)
  apply t_loopK (ι := Nat) [0, 1, 7] (fun k => [(8, .int .i64 (k : Nat))]) (fun _ => []) (fun k => k ≤ n ∧ ∀ x ∈ l.take k, p x = false) (fun k => n - k) (0)
  (repeat (first | exact KeepF.nil | (apply KeepF.cons; exact rfl) | apply KeepF.skip))
  (repeat (first | exact FrSub.nil | (apply FrSub.cons; exact rfl)))
  (repeat (first | exact HpSub.refl _ | (apply HpSub.consE; (repeat (first | exact P0 | apply P1)); exact rfl) | exact HpSub.nil))
  · exact ⟨by omega, by simp⟩
  rintro k ⟨hk, hkp⟩
  try simp only [List.cons_append, List.nil_append]
  by_cases hlt : k < n
  · obtain ⟨b1, o1, x, rfl, _, hx, c0, c1, c2, c3, c4⟩ := lv_read hr hlt
    have hfx := hf x (List.mem_of_getElem? hx)
    cases hpx : p x with
    | true =>
      rw [hpx] at hfx
      repeat' (first | ((with_reducible apply oq_id); first | (focus ((with_reducible apply oq_indexAddrN); exact rfl; exact rfl; exact rfl; exact rfl; omega)) | (apply oq_fn; exact rfl; first | exact trivial | (refine ⟨?_, ?_⟩ <;> omega) | (refine ⟨?_, ?_, ?_⟩ <;> omega) | omega | skip) | ((with_reducible apply oq_loadAgg); exact rfl; exact rfl) | ((with_reducible apply oq_call (k := f) (hc := hc)); exact rfl; exact rfl; exact fun D w1 hw1 => hfx w1 hw1.ext.ext)) | ((with_reducible apply tl_id); first | ((with_reducible apply tl_nil)) | ((with_reducible apply u_q); exact rfl; exact rfl; exact rfl; exact rfl)) | ((with_reducible apply rd_id); first | (apply Rd.old; (first | (with_reducible assumption) | exact c0 | exact c1 | exact c2 | exact c3 | exact c4); first | exact List.not_mem_nil)) | ((with_reducible apply t_id); first | ((with_reducible apply t_seq)) | (apply t_region; kernel_rfl) | ((with_reducible apply t_condT); exact rfl) | ((with_reducible apply t_condD); exact rfl; all_goals first | (intro hp; try (exfalso; omega)) | skip) | ((with_reducible apply t_ret)) | ((with_reducible apply t_skip)) | ((with_reducible apply t_block))) | with_reducible apply q_thenN | with_reducible apply q_thenR | with_reducible apply q_blockR | exact Rdn.zero | apply Rdn.succ | ((with_reducible apply end_ret)) | exact rvs_nil | ((with_reducible apply rvs_cons)) | ((with_reducible apply rv_tmp); exact rfl))
      rw [idxV_some hx hpx hkp]; rfl
    | false =>
      rw [hpx] at hfx
      repeat' (first | ((with_reducible apply oq_id); first | (focus ((with_reducible apply oq_indexAddrN); exact rfl; exact rfl; exact rfl; exact rfl; omega)) | (apply oq_fn; exact rfl; first | exact trivial | (refine ⟨?_, ?_⟩ <;> omega) | (refine ⟨?_, ?_, ?_⟩ <;> omega) | omega | skip) | ((with_reducible apply oq_loadAgg); exact rfl; exact rfl) | ((with_reducible apply oq_call (k := f) (hc := hc)); exact rfl; exact rfl; exact fun D w1 hw1 => hfx w1 hw1.ext.ext)) | ((with_reducible apply tl_id); first | ((with_reducible apply tl_nil)) | ((with_reducible apply u_q); exact rfl; exact rfl; exact rfl; exact rfl)) | ((with_reducible apply rd_id); first | (apply Rd.old; (first | (with_reducible assumption) | exact c0 | exact c1 | exact c2 | exact c3 | exact c4); first | exact List.not_mem_nil)) | ((with_reducible apply t_id); first | ((with_reducible apply t_seq)) | (apply t_region; kernel_rfl) | ((with_reducible apply t_condF); exact rfl) | ((with_reducible apply t_condD); exact rfl; all_goals first | (intro hp; try (exfalso; omega)) | skip) | ((with_reducible apply t_skip)) | ((with_reducible apply t_block))) | with_reducible apply q_thenN | with_reducible apply q_blockN | exact Rdn.zero | apply Rdn.succ)
      refine ⟨k + 1, ⟨by omega, fun y hy => ?_⟩, by omega, ?_, ?_⟩
      · rw [List.take_add_one, hx, List.mem_append] at hy
        rcases hy with hy | hy
        · exact hkp y hy
        · obtain rfl : y = x := by simpa using hy
          exact hpx
      · try simp only [List.cons_append, List.nil_append]
        (repeat (first | exact FrSub.nil | (apply FrSub.cons; exact rfl)))
      · try simp only [List.cons_append, List.nil_append]
        (repeat (first | exact HpSub.refl _ | (apply HpSub.consE; (repeat (first | exact P0 | apply P1)); exact rfl) | exact HpSub.nil))
  · repeat' (first | ((with_reducible apply oq_id); first | (apply oq_fn; exact rfl; first | exact trivial | (refine ⟨?_, ?_⟩ <;> omega) | (refine ⟨?_, ?_, ?_⟩ <;> omega) | omega | skip)) | ((with_reducible apply tl_id); first | ((with_reducible apply tl_nil)) | ((with_reducible apply u_q); exact rfl; exact rfl; exact rfl; exact rfl)) | ((with_reducible apply t_id); first | ((with_reducible apply t_seq)) | (apply t_region; kernel_rfl) | ((with_reducible apply t_condD); exact rfl; all_goals first | (intro hp; try (exfalso; omega)) | skip) | ((with_reducible apply t_ret)) | ((with_reducible apply t_exit))) | with_reducible apply q_thenN | with_reducible apply q_thenE | ((with_reducible apply q_blockE); exact rfl) | ((with_reducible apply end_ret)) | exact rvs_nil | ((with_reducible apply rvs_cons)) | ((with_reducible apply rv_tmp); exact rfl))
    rw [idxV_none (fun y hy => hkp y (by rw [List.take_of_length_le (by omega)]; exact hy))]; rfl
theorem idxV_all {α : Type} {p : α → Bool} {l : List α} : decide (0 ≤ idxV p l) = !(l.all fun x => !p x) := by
  unfold idxV
  cases h : l.findIdx? p with
  | some i =>
    have h1 := List.findIdx?_eq_some_iff_getElem.1 h
    obtain ⟨hi, hp, _⟩ := h1
    have : (l.all fun x => !p x) = false := by
      rw [Bool.eq_false_iff, Ne, List.all_eq_true]
      intro h2
      have := h2 l[i] (List.getElem_mem hi)
      simp [hp] at this
    simp [this]
  | none =>
    have h1 := List.findIdx?_eq_none_iff.1 h
    have : (l.all fun x => !p x) = true := List.all_eq_true.2 fun x hx => by simp [h1 x hx]
    simp [this]
theorem containsLv_calls (f : Nat) (caps : List Value) (p : Lv → Bool) (A : Option Addr) (n c : Nat) (l : List Lv) (w : World) (hr : RdS w 5 A n (l.map lvCells)) (hn : n ≤ 1000000) (hc : ∀ (a : Array Value) (w : World), (callFunc f a).run Try.prog w = .ok (.enter f a) w)
    (hf : ∀ x ∈ l, ∀ w1, Ext w w1 → Calls Try.prog f ⟨.agg ⟨lvCells x⟩ :: caps⟩ w1 fun e w' => e = .returned (.bool (p x)) ∧ Ext w1 w') :
    Calls Try.prog 100 #[.slice A n c, .func (.func f) #[] ⟨caps⟩] w fun e w' => e = .returned (.bool (!(l.all fun x => !p x))) ∧ Ext w w' := by
  refine enterQ (c := cx w 9) Try.func100 rfl rfl rfl rfl ?_
  repeat' (first | ((with_reducible apply oq_id); first | (apply oq_fn; exact rfl; first | exact trivial | (refine ⟨?_, ?_⟩ <;> omega) | (refine ⟨?_, ?_, ?_⟩ <;> omega) | omega | skip) | ((with_reducible apply oq_call (k := 105) (hc := Try.call105)); exact rfl; exact rfl; exact fun D w1 hw1 => indexLv_calls f caps p A n c l w1 (hr.ext hw1.ext.ext) hn hc (fun x hx w2 h2 => hf x hx w2 (hw1.ext.ext.trans h2)))) | ((with_reducible apply tl_id); first | ((with_reducible apply tl_nil)) | ((with_reducible apply u_q); exact rfl; exact rfl; exact rfl; exact rfl)) | ((with_reducible apply t_id); first | ((with_reducible apply t_seq)) | (apply t_region; kernel_rfl) | ((with_reducible apply t_ret))) | with_reducible apply q_thenN | ((with_reducible apply end_ret)) | exact rvs_nil | ((with_reducible apply rvs_cons)) | ((with_reducible apply rv_tmp); exact rfl))
  rw [← idxV_all]; rfl


theorem map_h {l : List Lv} {i : Nat} {x : Lv} (h : l[i]? = some x) : (l.map Lv.h)[i]? = some x.h := by simp [h]
theorem climbs_no {l : List Lv} {k n : Nat} (hl : l.length = n) (hk : k < n) (h : stepOk (l.map Lv.h) k = false) : climbsV (l.map Lv.h) = false := by
  unfold climbsV
  rw [all_range_no (by simpa [hl] using hk) h]; rfl
theorem climbs_yes {l : List Lv} {n : Nat} (hl : l.length = n) (h : ∀ j, j < n → stepOk (l.map Lv.h) j = true) : climbsV (l.map Lv.h) = decide (2 ≤ (n : Int) ∧ (n : Int) ≤ 16) := by
  unfold climbsV
  rw [all_range_yes (by simpa [hl] using h), Bool.true_and, Bool.eq_iff_iff]
  simp [hl]; omega
theorem climbs_calls (A : Option Addr) (n c : Nat) (l : List Lv) (w : World) (hr : RdS w 5 A n (l.map lvCells)) (hn : n ≤ 1000000) :
    Calls Try.prog 98 #[.slice A n c, .func (.func 99) #[] #[]] w fun e w' => e = .returned (.bool (climbsV (l.map Lv.h))) ∧ Ext w w' := by
  have hl := hr.len
  simp only [List.length_map] at hl
  refine enterQ (c := cx w 45) Try.func98 rfl rfl rfl rfl ?_
  repeat' (first | ((with_reducible apply oq_id); first | (apply oq_fn; exact rfl; first | exact trivial | (refine ⟨?_, ?_⟩ <;> omega) | (refine ⟨?_, ?_, ?_⟩ <;> omega) | omega | skip)) | ((with_reducible apply tl_id); first | ((with_reducible apply tl_nil)) | ((with_reducible apply u_q); exact rfl; exact rfl; exact rfl; exact rfl)) | ((with_reducible apply t_id); first | ((with_reducible apply t_seq)) | (apply t_region; kernel_rfl) | ((with_reducible apply t_block))) | with_reducible apply q_thenN)
  apply t_loopK (ι := Nat) [0, 1, 8, 9, 41, 42, 43, 44] (fun k => [(10, .int .i64 (k : Nat))]) (fun _ => []) (fun k => k ≤ n ∧ ∀ j, j < k → stepOk (l.map Lv.h) j = true) (fun k => n - k) (0)
  (repeat (first | exact KeepF.nil | (apply KeepF.cons; exact rfl) | apply KeepF.skip))
  (repeat (first | exact FrSub.nil | (apply FrSub.cons; exact rfl)))
  (repeat (first | exact HpSub.refl _ | (apply HpSub.consE; (repeat (first | exact P0 | apply P1)); exact rfl) | exact HpSub.nil))
  · exact ⟨by omega, fun j hj => by omega⟩
  rintro k ⟨hk, hkp⟩
  try simp only [List.cons_append, List.nil_append]
  by_cases hlt : k < n
  · obtain ⟨b, o, x, rfl, _, hx, c0, c1, c2, c3, c4⟩ := lv_read hr hlt
    cases k with
    | zero =>
      have hs := stepOk_zero (map_h hx)
      repeat' (first | ((with_reducible apply oq_id); first | (focus ((with_reducible apply oq_indexAddrN); exact rfl; exact rfl; exact rfl; exact rfl; omega)) | (apply oq_fn; exact rfl; first | exact trivial | (refine ⟨?_, ?_⟩ <;> omega) | (refine ⟨?_, ?_, ?_⟩ <;> omega) | omega | skip) | ((with_reducible apply oq_loadAgg); exact rfl; exact rfl) | ((with_reducible apply oq_call (k := 99) (hc := Try.call99)); exact rfl; exact rfl; exact fun D w1 hw1 => height_calls _ _ _ _ _ w1) | ((with_reducible apply oq_call (k := 71) (hc := Try.call71)); exact rfl; exact rfl; exact fun D w1 hw1 => fromOne rfl hw1 (by (repeat (first | exact P0 | apply P1))))) | ((with_reducible apply tl_id); first | ((with_reducible apply tl_nil)) | ((with_reducible apply u_q); exact rfl; exact rfl; exact rfl; exact rfl) | ((with_reducible apply u_s0); exact rfl; exact rfl) | ((with_reducible apply u_s); exact rfl; exact rfl; exact rfl) | ((with_reducible apply u_skip); exact rfl; exact rfl; exact rfl) | ((with_reducible apply u_splitN); exact rfl; exact rfl; all_goals first | (intro hp; try (exfalso; omega)) | skip)) | ((with_reducible apply os_id); first | ((with_reducible apply os_x); exact rfl) | ((with_reducible apply os_storeAgg); exact rfl; exact rfl; exact rfl; exact rfl; exact rfl)) | ((with_reducible apply ox_id); first | ((with_reducible apply ox_alloc); exact rfl; intro _) | ((with_reducible apply ox_buildSlice1); exact rfl; exact rfl; exact rfl; exact rfl; exact rfl; exact rfl; intro _)) | ((with_reducible apply rd_id); first | (apply Rd.own; (repeat (first | exact P0 | apply P1)); exact rfl; done) | (apply Rd.old; (first | (with_reducible assumption) | exact c0 | exact c1 | exact c2 | exact c3 | exact c4 | exact d0 | exact d1 | exact d2 | exact d3 | exact d4); first | exact List.not_mem_nil)) | ((with_reducible apply t_id); first | ((with_reducible apply t_seq)) | (apply t_region; kernel_rfl) | ((with_reducible apply t_condT); exact rfl) | ((with_reducible apply t_condF); exact rfl) | ((with_reducible apply t_condD); exact rfl; all_goals first | (intro hp; try (exfalso; omega)) | skip) | ((with_reducible apply t_ret)) | ((with_reducible apply t_skip)) | ((with_reducible apply t_block))) | with_reducible apply q_thenN | with_reducible apply q_thenR | with_reducible apply q_blockR | with_reducible apply q_blockN | exact P0 | exact Rdn.zero | apply Rdn.succ | ((with_reducible apply Norm.nil); exact rfl) | ((with_reducible apply Norm.cons); exact rfl) | ((with_reducible apply end_ret)) | exact rvs_nil | ((with_reducible apply rvs_cons)) | ((with_reducible apply rv_tmp); exact rfl) | exact Nat.le_of_ble_eq_true rfl)
      · rw [climbs_no hl.symm.symm (by omega) (by rw [hs]; simp_all <;> omega)]; rfl
      all_goals skip
      refine ⟨1, ⟨by omega, fun j hj => ?_⟩, by omega, ?_, ?_⟩
      · obtain rfl : j = 0 := by omega
        rw [hs]; simp_all <;> omega
      · try simp only [List.cons_append, List.nil_append]
        (repeat (first | exact FrSub.nil | (apply FrSub.cons; exact rfl)))
      · try simp only [List.cons_append, List.nil_append]
        (repeat (first | exact HpSub.refl _ | (apply HpSub.consE; (repeat (first | exact P0 | apply P1)); exact rfl) | exact HpSub.nil))
    | succ j =>
      obtain ⟨b', o', y, hA, _, hy, d0, d1, d2, d3, d4⟩ := lv_read hr (show j < n by omega)
      obtain ⟨rfl, rfl⟩ : b' = b ∧ o' = o := by simpa using hA.symm
      have hs := stepOk_succ (map_h hx) (map_h hy)
      have hyb := stepOk_h (map_h hy) (hkp j (by omega))
      repeat' (first | ((with_reducible apply oq_id); first | (focus ((with_reducible apply oq_indexAddrN); exact rfl; exact rfl; exact rfl; exact rfl; omega)) | ((with_reducible apply oq_subE (k := (j : Int))); exact rfl; exact rfl; omega) | (apply oq_fn; exact rfl; first | exact trivial | (refine ⟨?_, ?_⟩ <;> omega) | (refine ⟨?_, ?_, ?_⟩ <;> omega) | omega | skip) | ((with_reducible apply oq_loadAgg); exact rfl; exact rfl) | ((with_reducible apply oq_call (k := 99) (hc := Try.call99)); exact rfl; exact rfl; exact fun D w1 hw1 => height_calls _ _ _ _ _ w1) | ((with_reducible apply oq_call (k := 71) (hc := Try.call71)); exact rfl; exact rfl; exact fun D w1 hw1 => fromOne rfl hw1 (by (repeat (first | exact P0 | apply P1))))) | ((with_reducible apply tl_id); first | ((with_reducible apply tl_nil)) | ((with_reducible apply u_q); exact rfl; exact rfl; exact rfl; exact rfl) | ((with_reducible apply u_s0); exact rfl; exact rfl) | ((with_reducible apply u_s); exact rfl; exact rfl; exact rfl) | ((with_reducible apply u_skip); exact rfl; exact rfl; exact rfl) | ((with_reducible apply u_splitD); exact rfl; exact rfl; all_goals first | (intro hp; try (exfalso; omega)) | skip) | ((with_reducible apply u_splitN); exact rfl; exact rfl; all_goals first | (intro hp; try (exfalso; omega)) | skip)) | ((with_reducible apply os_id); first | ((with_reducible apply os_x); exact rfl) | ((with_reducible apply os_storeAgg); exact rfl; exact rfl; exact rfl; exact rfl; exact rfl)) | ((with_reducible apply ox_id); first | ((with_reducible apply ox_alloc); exact rfl; intro _) | ((with_reducible apply ox_buildSlice1); exact rfl; exact rfl; exact rfl; exact rfl; exact rfl; exact rfl; intro _)) | ((with_reducible apply rd_id); first | (apply Rd.own; (repeat (first | exact P0 | apply P1)); exact rfl; done) | (apply Rd.old; (first | (with_reducible assumption) | exact c0 | exact c1 | exact c2 | exact c3 | exact c4 | exact d0 | exact d1 | exact d2 | exact d3 | exact d4); first | exact List.not_mem_nil)) | ((with_reducible apply t_id); first | ((with_reducible apply t_seq)) | (apply t_region; kernel_rfl) | ((with_reducible apply t_condT); exact rfl) | ((with_reducible apply t_condD); exact rfl; all_goals first | (intro hp; try (exfalso; omega)) | skip) | ((with_reducible apply t_condN); exact rfl; all_goals first | (intro hp; try (exfalso; omega)) | skip) | ((with_reducible apply t_ret)) | ((with_reducible apply t_skip)) | ((with_reducible apply t_block))) | with_reducible apply q_thenN | with_reducible apply q_thenR | with_reducible apply q_blockR | with_reducible apply q_blockN | exact P0 | exact Rdn.zero | apply Rdn.succ | ((with_reducible apply Norm.nil); exact rfl) | ((with_reducible apply Norm.cons); exact rfl) | ((with_reducible apply end_ret)) | exact rvs_nil | ((with_reducible apply rvs_cons)) | ((with_reducible apply rv_tmp); exact rfl) | exact Nat.le_of_ble_eq_true rfl)
      all_goals first
        | (rw [climbs_no hl.symm.symm (by omega) (by rw [hs]; simp_all <;> omega)]; rfl)
        | (refine ⟨j + 1 + 1, ⟨by omega, fun i hi => (by rcases Nat.lt_or_ge i (j + 1) with h | h; (exact hkp i h); (obtain rfl : i = j + 1 := by omega); rw [hs]; simp_all <;> omega)⟩, by omega, ?_, ?_⟩ <;> (try simp only [List.cons_append, List.nil_append]) <;> (repeat' (first | exact FrSub.nil | (apply FrSub.cons; exact rfl) | exact HpSub.nil)))
  · repeat' (first | ((with_reducible apply oq_id); first | (apply oq_fn; exact rfl; first | exact trivial | (refine ⟨?_, ?_⟩ <;> omega) | (refine ⟨?_, ?_, ?_⟩ <;> omega) | omega | skip) | ((with_reducible apply oq_call (k := 71) (hc := Try.call71)); exact rfl; exact rfl; exact fun D w1 hw1 => fromOne rfl hw1 (by (repeat (first | exact P0 | apply P1))))) | ((with_reducible apply tl_id); first | ((with_reducible apply tl_nil)) | ((with_reducible apply u_q); exact rfl; exact rfl; exact rfl; exact rfl) | ((with_reducible apply u_s); exact rfl; exact rfl; exact rfl)) | ((with_reducible apply os_id); first | ((with_reducible apply os_x); exact rfl)) | ((with_reducible apply ox_id); first | ((with_reducible apply ox_buildSlice1); exact rfl; exact rfl; exact rfl; exact rfl; exact rfl; exact rfl; intro _)) | ((with_reducible apply t_id); first | ((with_reducible apply t_seq)) | (apply t_region; kernel_rfl) | ((with_reducible apply t_condD); exact rfl; all_goals first | (intro hp; try (exfalso; omega)) | skip) | ((with_reducible apply t_ret)) | ((with_reducible apply t_exit))) | with_reducible apply q_thenN | with_reducible apply q_thenE | ((with_reducible apply q_blockE); exact rfl) | ((with_reducible apply end_ret)) | exact rvs_nil | ((with_reducible apply rvs_cons)) | ((with_reducible apply rv_tmp); exact rfl))
    rw [climbs_yes hl.symm.symm (fun j hj => hkp j (by omega))]; rfl


theorem checkAir_calls (A : Option Addr) (n c : Nat) (l : List Lv) (w : World) (hr : RdS w 5 A n (l.map lvCells)) (hn : n ≤ 1000000) :
    Calls Try.prog 38 #[.slice A n c] w fun e w' => e = .returned (.int .i64 (if soundB l then 0 else 20)) ∧ Ext w w' := by
  have e : (!(l.all fun x => !(fun x => !lvOk x) x)) = !(l.all lvOk) := by simp
  have HB := fun w1 (hx : Ext w w1) => containsLv_calls 97 [] (fun x => !lvOk x) A n c l w1 (hr.ext hx) hn Try.call97 (fun x hx w2 h2 => odd_calls _ _ _ _ _ w2)
  have HA := fun w1 (hx : Ext w w1) => climbs_calls A n c l w1 (hr.ext hx) hn
  rw [e] at HB
  unfold soundB
  generalize climbsV (l.map Lv.h) = q1 at HA
  generalize l.all lvOk = q2 at HB
  refine enterQ (c := cx w 12) Try.func38 rfl rfl rfl rfl ?_
  repeat' (first | ((with_reducible apply oq_id); first | (apply oq_fn; exact rfl; first | exact trivial | (refine ⟨?_, ?_⟩ <;> omega) | (refine ⟨?_, ?_, ?_⟩ <;> omega) | omega | skip) | ((with_reducible apply oq_call (k := 98) (hc := Try.call98)); exact rfl; exact rfl; exact fun D w1 hw1 => HA w1 hw1.ext.ext) | ((with_reducible apply oq_call (k := 100) (hc := Try.call100)); exact rfl; exact rfl; exact fun D w1 hw1 => HB w1 hw1.ext.ext)) | ((with_reducible apply tl_id); first | ((with_reducible apply tl_nil)) | ((with_reducible apply u_q); exact rfl; exact rfl; exact rfl; exact rfl) | ((with_reducible apply u_skip); exact rfl; exact rfl; exact rfl) | ((with_reducible apply u_split); exact rfl; exact rfl; all_goals first | intro hp | skip)) | ((with_reducible apply t_id); first | ((with_reducible apply t_seq)) | (apply t_region; kernel_rfl) | ((with_reducible apply t_condT); exact rfl) | ((with_reducible apply t_cond); exact rfl; all_goals first | intro hp | skip) | ((with_reducible apply t_ret)) | ((with_reducible apply t_skip))) | with_reducible apply q_thenN | with_reducible apply q_thenR | ((with_reducible apply end_ret)) | exact rvs_nil | ((with_reducible apply rvs_cons)) | ((with_reducible apply rv_tmp); exact rfl))
  all_goals (cases q1 <;> cases q2 <;> first | rfl | simp_all)


/-- A valid sounding. -/
structure Snd (l : List Lv) : Prop where
  n2 : 2 ≤ l.length
  n16 : l.length ≤ 16
  ok : ∀ x ∈ l, -500 ≤ x.h ∧ x.h ≤ 9000 ∧ 1000 ≤ x.plo ∧ x.plo ≤ x.phi ∧ x.phi ≤ 12000 ∧ 1500 ≤ x.tlo ∧ x.tlo ≤ x.thi ∧ x.thi ≤ 3500
  rise : ∀ {i : Nat} {x y : Lv}, l[i]? = some x → l[i + 1]? = some y → 1 ≤ y.h - x.h ∧ y.h - x.h ≤ 2000
theorem soundB_iff (l : List Lv) : soundB l = true ↔ Snd l := by
  unfold soundB climbsV
  simp only [Bool.and_eq_true, List.all_eq_true, List.mem_range, decide_eq_true_eq, List.length_map]
  constructor
  · rintro ⟨⟨h1, h2⟩, h3⟩
    refine ⟨h2.1, h2.2, fun x hx => ?_, fun {i x y} hx hy => ?_⟩
    · have h4 := h3 x hx
      unfold lvOk at h4
      simp only [Bool.and_eq_true, decide_eq_true_eq] at h4
      obtain ⟨i, hi, rfl⟩ := List.getElem_of_mem hx
      have h5 := stepOk_h (map_h (List.getElem?_eq_getElem hi)) (h1 i hi)
      omega
    · have h4 := h1 (i + 1) (List.getElem?_eq_some_iff.1 hy).1
      rw [stepOk_succ (map_h hy) (map_h hx)] at h4
      simp only [Bool.and_eq_true, decide_eq_true_eq] at h4
      exact h4.2
  · rintro ⟨h1, h2, h3, h4⟩
    refine ⟨⟨fun i hi => ?_, h1, h2⟩, fun x hx => ?_⟩
    · have hx : l[i]? = some l[i] := List.getElem?_eq_getElem hi
      have hb := h3 _ (List.mem_of_getElem? hx)
      cases i with
      | zero =>
        rw [stepOk_zero (map_h hx)]
        simp only [decide_eq_true_eq]; omega
      | succ j =>
        have hy : l[j]? = some l[j] := List.getElem?_eq_getElem (by omega)
        rw [stepOk_succ (map_h hx) (map_h hy)]
        have := h4 hy hx
        simp only [Bool.and_eq_true, decide_eq_true_eq]; omega
    · have := h3 x hx
      unfold lvOk
      simp only [Bool.and_eq_true, decide_eq_true_eq]; omega

end Go.Proofs.Ytalidommelefaaa
