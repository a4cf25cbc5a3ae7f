/- A part of the proof: rules for walks, and contracts of functions (6). -/
import Derived.Test.YtcjkndjjbjoehaaGreatX5A
import Derived.Test.YtcjkndjjbjoehaaGreatX5E
import Derived.Test.YtcjkndjjbjoehaaGreatX5D
set_option linter.unusedVariables false
set_option linter.unusedSimpArgs false
set_option maxRecDepth 100000
set_option maxHeartbeats 2000000
namespace Go.Proofs.YtcjkndjjbjoehaaGreat
theorem lin_mid {d u m v q : Int} (hq : 0 < q) (h1 : u ≤ m) (h2 : m ≤ v) : min (u * d / q) (v * d / q) ≤ m * d / q ∧ m * d / q ≤ max (u * d / q) (v * d / q) := by
  rcases Int.le_total 0 d with h | h
  · have a := ediv_mono hq (Int.mul_le_mul_of_nonneg_right h1 h)
    have b := ediv_mono hq (Int.mul_le_mul_of_nonneg_right h2 h)
    omega
  · have a := ediv_mono hq (Int.mul_le_mul_of_nonpos_right h1 h)
    have b := ediv_mono hq (Int.mul_le_mul_of_nonpos_right h2 h)
    omega
/-- On a line a value between two places is between those at the places. -/
theorem lineV_mid {a b : Kn} {u m v : Int} (hab : a.x < b.x) (h1 : u ≤ m) (h2 : m ≤ v) : SIn (lineV a b m) (hullS (lineV a b u) (lineV a b v)) := by
  have k1 := lin_mid (d := b.lo - a.lo) (u := u - a.x) (m := m - a.x) (v := v - a.x) (q := b.x - a.x) (by omega) (by omega) (by omega)
  have k2 := lin_mid (d := a.hi - b.hi) (u := u - a.x) (m := m - a.x) (v := v - a.x) (q := b.x - a.x) (by omega) (by omega) (by omega)
  unfold SIn hullS lineV
  simp only
  omega
theorem hullS_self (a : Int × Int) : hullS a a = a := by unfold hullS; simp
theorem valV_left (t : List Kn) (p q : Int) : SIn (atV t p) (valV t p q) := (hullS_left _ _).trans hullA_mono
theorem valV_right (t : List Kn) (p q : Int) : SIn (atV t q) (valV t p q) := (hullS_right _ _).trans hullA_mono
theorem valV_knot {t : List Kn} {p q : Int} {k : Kn} (hk : k ∈ t) (h1 : p < k.x) (h2 : k.x < q) : SIn k.val (valV t p q) :=
  hullA_mem (List.mem_map.2 ⟨k, List.mem_filter.2 ⟨hk, by unfold kIn; simp [h1, h2]⟩, rfl⟩)
theorem valV_self (t : List Kn) (h : Int) : valV t h h = atV t h := by
  have : t.filter (kIn h h) = [] := by
    rw [List.filter_eq_nil_iff]
    intro k _ hk
    unfold kIn at hk
    simp at hk
    omega
  unfold valV
  rw [this, hullS_self]
  rfl
/-- Between which neighbours a place of a table is. -/
theorem seg_of : ∀ {t : List Kn}, Incr t → 2 ≤ t.length → ∀ {m : Int}, (∀ k, t[0]? = some k → k.x ≤ m) → (∀ k, t[t.length - 1]? = some k → m ≤ k.x) → ∃ (i : Nat) (a b : Kn), t[i]? = some a ∧ t[i + 1]? = some b ∧ a.x ≤ m ∧ m ≤ b.x
  | [], _, h, _, _, _ => by simp at h
  | [_], _, h, _, _, _ => by simp at h
  | [a, b], _, _, m, h0, h1 => ⟨0, a, b, rfl, rfl, h0 a rfl, h1 b rfl⟩
  | a :: b :: c :: r, hi, _, m, h0, h1 => by
    rcases Int.le_total m b.x with h | h
    · exact ⟨0, a, b, rfl, rfl, h0 a rfl, h⟩
    · cases hi with
      | cons hab hk =>
        obtain ⟨i, u, v, e1, e2, e3, e4⟩ := seg_of hk (by simp) (m := m) (fun k e => by simp at e; subst e; exact h) (fun k e => h1 k (by simpa using e))
        exact ⟨i + 1, u, v, by simpa using e1, by simpa using e2, e3, e4⟩
/-- The value at a place between two others is in the values between them. -/
theorem valV_mid {t : List Kn} (ht : TabOk t) {p m q : Int} (h1 : p ≤ m) (h2 : m ≤ q) (h0 : ∀ k, t[0]? = some k → k.x ≤ p) (hl : ∀ k, t[t.length - 1]? = some k → q ≤ k.x) : SIn (atV t m) (valV t p q) := by
  obtain ⟨i, a, b, ha, hb, k1, k2⟩ := seg_of ht.inc ht.l2 (m := m) (fun k e => Int.le_trans (h0 k e) h1) (fun k e => Int.le_trans h2 (hl k e))
  have hab := ht.inc.at_ (Nat.lt_succ_self i) ha hb
  have e : ∀ x, a.x ≤ x → x ≤ b.x → atV t x = lineV a b x := fun x j1 j2 => atV_seg ht.inc ha hb (.inr j1) (.inr j2)
  rw [e m k1 k2]
  have hu : ∃ u, u ≤ m ∧ a.x ≤ u ∧ u ≤ b.x ∧ SIn (lineV a b u) (valV t p q) := by
    rcases Int.lt_or_le p a.x with h | h
    · refine ⟨a.x, k1, Int.le_refl _, by omega, ?_⟩
      rw [lineV_start]
      rcases Int.lt_or_le a.x q with g | g
      · exact valV_knot (List.mem_of_getElem? ha) h g
      · have eq : q = a.x := by omega
        have := valV_right t p q
        rw [eq, e a.x (Int.le_refl _) (by omega), lineV_start] at this
        rw [eq]
        exact this
    · refine ⟨p, h1, h, by omega, ?_⟩
      rw [← e p h (by omega)]
      exact valV_left t p q
  have hv : ∃ v, m ≤ v ∧ a.x ≤ v ∧ v ≤ b.x ∧ SIn (lineV a b v) (valV t p q) := by
    rcases Int.lt_or_le b.x q with h | h
    · refine ⟨b.x, k2, by omega, Int.le_refl _, ?_⟩
      rw [lineV_end hab]
      rcases Int.lt_or_le p b.x with g | g
      · exact valV_knot (List.mem_of_getElem? hb) g h
      · have eq : p = b.x := by omega
        have := valV_left t p q
        rw [eq, e b.x (by omega) (Int.le_refl _), lineV_end hab] at this
        rw [eq]
        exact this
    · refine ⟨q, h2, by omega, h, ?_⟩
      rw [← e q (by omega) h]
      exact valV_right t p q
  obtain ⟨u, u1, _, _, u2⟩ := hu
  obtain ⟨v, v1, _, _, v2⟩ := hv
  exact (lineV_mid hab u1 v1).trans (hullS_least u2 v2)
theorem Wnd.gusts {l : List Gl} (h : Wnd l) : ∀ x ∈ l, 0 ≤ x.gust ∧ x.gust ≤ 500 := fun x hx => ⟨(h.ok x hx).2.2.1, (h.ok x hx).2.2.2.1⟩
theorem tabG_size (e : Bool) (l : List Gl) : (tabG e l).length = l.length := by unfold tabG; simp
theorem hAt_eq {l : List Gl} {i : Nat} {x : Gl} (h : l[i]? = some x) : hAt l i = x.h := by unfold hAt; rw [h]
theorem hAt_mono {l : List Gl} (h : Wnd l) {i j : Nat} (hij : i ≤ j) (hj : j < l.length) : hAt l i ≤ hAt l j := by
  have h1 : l[i]? = some l[i] := List.getElem?_eq_getElem (by omega)
  have h2 : l[j]? = some l[j] := List.getElem?_eq_getElem hj
  rw [hAt_eq h1, hAt_eq h2]
  exact (h.mono h1 h2 hij).1
/-- The steady wind at a height is one of those of heights around it. -/
theorem steady_wide {e : Bool} {l : List Gl} {p q m : Int} (h : Wnd l) (h1 : p ≤ m) (h2 : m ≤ q) : SIn (steadyV e l m m) (steadyV e l p q) := by
  unfold steadyV
  by_cases h3 : l.length = 1
  · rw [if_pos h3, if_pos h3]; exact SIn.refl _
  · rw [if_neg h3, if_neg h3, valV_self]
    have n1 := h.n1
    have ho := hAt_mono h (Nat.zero_le (l.length - 1)) (by omega)
    refine valV_mid (h.tab (by omega)) (by unfold clampG; omega) (by unfold clampG; omega) (fun k hk => ?_) (fun k hk => ?_)
    · obtain ⟨x, hx, rfl⟩ := tabG_at hk
      have := hAt_eq hx
      show x.h ≤ _
      unfold clampG
      omega
    · rw [tabG_size] at hk
      obtain ⟨x, hx, rfl⟩ := tabG_at hk
      have := hAt_eq hx
      show _ ≤ x.h
      unfold clampG
      omega
theorem line_pick {a b : Kn} {p u v : Int} (h1 : a.x ≤ p) (h2 : p ≤ b.x) (hab : a.x < b.x) (ha : a.lo ≤ u ∧ u ≤ a.hi) (hb : b.lo ≤ v ∧ v ≤ b.hi) :
    (lineV a b p).1 * (b.x - a.x) ≤ u * (b.x - a.x - (p - a.x)) + v * (p - a.x) ∧ u * (b.x - a.x - (p - a.x)) + v * (p - a.x) ≤ (lineV a b p).2 * (b.x - a.x) := by
  unfold lineV
  simp only
  obtain ⟨d, hd⟩ : ∃ d, d = b.x - a.x := ⟨_, rfl⟩
  obtain ⟨t, ht⟩ : ∃ t, t = p - a.x := ⟨_, rfl⟩
  rw [← hd, ← ht]
  have k1 : t * (b.lo - a.lo) / d * d ≤ t * (b.lo - a.lo) := Int.ediv_mul_le _ (by omega)
  have k2 : t * (a.hi - b.hi) / d * d ≤ t * (a.hi - b.hi) := Int.ediv_mul_le _ (by omega)
  have p1 : t * (b.lo - a.lo) = b.lo * t - a.lo * t := by rw [Int.mul_comm, Int.sub_mul]
  have p2 : t * (a.hi - b.hi) = a.hi * t - b.hi * t := by rw [Int.mul_comm, Int.sub_mul]
  generalize t * (b.lo - a.lo) / d = Q1 at *
  generalize t * (a.hi - b.hi) / d = Q2 at *
  rw [p1] at k1
  rw [p2] at k2
  have m1 := Int.mul_le_mul_of_nonneg_right ha.1 (show 0 ≤ d - t by omega)
  have m2 := Int.mul_le_mul_of_nonneg_right ha.2 (show 0 ≤ d - t by omega)
  have m3 := Int.mul_le_mul_of_nonneg_right hb.1 (show 0 ≤ t by omega)
  have m4 := Int.mul_le_mul_of_nonneg_right hb.2 (show 0 ≤ t by omega)
  rw [Int.mul_sub, Int.mul_sub] at m1 m2
  rw [Int.add_mul, Int.sub_mul, Int.mul_sub]
  constructor <;> omega
theorem knG_in {e : Bool} {l : List Gl} (h : Wnd l) {k : Kn} (hk : k ∈ tabG e l) : SIn k.val (-1000, 1000) := by
  unfold tabG at hk
  obtain ⟨x, hx, rfl⟩ := List.mem_map.1 hk
  have := h.ok x hx
  unfold Kn.val knG partG SIn
  cases e <;> simp only <;> omega
theorem steady_in {e : Bool} {l : List Gl} {p q : Int} (h : Wnd l) : SIn (steadyV e l p q) (-1000, 1000) := by
  have n1 := h.n1
  unfold steadyV
  by_cases h3 : l.length = 1
  · rw [if_pos h3]
    have hx : l[0]? = some l[0] := List.getElem?_eq_getElem (by omega)
    rw [hx]
    have := h.ok _ (List.mem_of_getElem? hx)
    unfold partG SIn
    cases e <;> simp only <;> omega
  · rw [if_neg h3]
    have ht := h.tab (e := e) (by omega)
    have ho := hAt_mono h (Nat.zero_le (l.length - 1)) (by omega)
    have at_in : ∀ m, SIn (atV (tabG e l) (clampG l m)) (-1000, 1000) := fun m => by
      obtain ⟨i, a, b, ha, hb, k1, k2⟩ := seg_of ht.inc ht.l2 (m := clampG l m) (fun k hk => by
        obtain ⟨x, hx, rfl⟩ := tabG_at hk
        have := hAt_eq hx
        show x.h ≤ _
        unfold clampG
        omega) (fun k hk => by
        rw [tabG_size] at hk
        obtain ⟨x, hx, rfl⟩ := tabG_at hk
        have := hAt_eq hx
        show _ ≤ x.h
        unfold clampG
        omega)
      have hab := ht.inc.at_ (Nat.lt_succ_self i) ha hb
      rw [atV_seg ht.inc ha hb (.inr k1) (.inr k2)]
      have := lineV_mid (u := a.x) (v := b.x) hab k1 k2
      rw [lineV_start, lineV_end hab] at this
      exact this.trans (hullS_least (knG_in h (List.mem_of_getElem? ha)) (knG_in h (List.mem_of_getElem? hb)))
    unfold valV
    refine hullA_least (hullS_least (at_in p) (at_in q)) fun y hy => ?_
    obtain ⟨k, hk, rfl⟩ := List.mem_map.1 hy
    exact knG_in h (List.mem_filter.1 hk).1
theorem line_le {a b : Kn} {p : Int} (h1 : a.x ≤ p) (h2 : p ≤ b.x) (hab : a.x < b.x) (ha : a.lo ≤ a.hi) (hb : b.lo ≤ b.hi) : (lineV a b p).1 ≤ (lineV a b p).2 := by
  obtain ⟨k1, k2⟩ := line_pick h1 h2 hab ⟨Int.le_refl _, ha⟩ ⟨Int.le_refl _, hb⟩
  exact Int.le_of_mul_le_mul_right (Int.le_trans k1 k2) (by omega)
theorem steady_le {e : Bool} {l : List Gl} {p : Int} (h : Wnd l) : (steadyV e l p p).1 ≤ (steadyV e l p p).2 := by
  have n1 := h.n1
  unfold steadyV
  by_cases h3 : l.length = 1
  · rw [if_pos h3]
    have hx : l[0]? = some l[0] := List.getElem?_eq_getElem (by omega)
    rw [hx]
    have := h.ok _ (List.mem_of_getElem? hx)
    unfold partG
    cases e <;> simp only <;> omega
  · rw [if_neg h3, valV_self]
    have ht := h.tab (e := e) (by omega)
    have ho := hAt_mono h (Nat.zero_le (l.length - 1)) (by omega)
    obtain ⟨i, a, b, ha, hb, k1, k2⟩ := seg_of ht.inc ht.l2 (m := clampG l p) (fun k hk => by
      obtain ⟨x, hx, rfl⟩ := tabG_at hk
      have := hAt_eq hx
      show x.h ≤ _
      unfold clampG
      omega) (fun k hk => by
      rw [tabG_size] at hk
      obtain ⟨x, hx, rfl⟩ := tabG_at hk
      have := hAt_eq hx
      show _ ≤ x.h
      unfold clampG
      omega)
    rw [atV_seg ht.inc ha hb (.inr k1) (.inr k2)]
    exact line_le k1 k2 (ht.inc.at_ (Nat.lt_succ_self i) ha hb) (ht.ok a (List.mem_of_getElem? ha)).2.2.2.1 (ht.ok b (List.mem_of_getElem? hb)).2.2.2.1
theorem steady_ok {e : Bool} {l : List Gl} {p q : Int} (h : Wnd l) (hpq : p ≤ q) : (steadyV e l p q).1 ≤ (steadyV e l p q).2 ∧ -1000 ≤ (steadyV e l p q).1 ∧ (steadyV e l p q).2 ≤ 1000 := by
  have h1 := steady_wide (e := e) h (Int.le_refl p) hpq
  have h2 := steady_le (e := e) (p := p) h
  have h3 := steady_in (e := e) (p := p) (q := q) h
  unfold SIn at h1 h3
  simp only at h3
  omega
/-- The wind at a height: within what a balloon takes. -/
theorem windV_ok {l : List Gl} {p q : Int} (hb : windB l = true) (hf : fineS (p, q) = true) : ∃ a b c d, windV l p q = ((a, b), (c, d), 0) ∧ a ≤ b ∧ c ≤ d ∧ -2000 ≤ a ∧ b ≤ 2000 ∧ -2000 ≤ c ∧ d ≤ 2000 := by
  have h := (windB_iff l).1 hb
  have hpq : p ≤ q := ((fineS_iff _).1 hf).1
  have hg : 0 ≤ gustV l p q ∧ gustV l p q ≤ 500 := gustR_bounds (p := p) (q := q) h.gusts l.length
  have h1 := steady_ok (e := true) h hpq
  have h2 := steady_ok (e := false) h hpq
  unfold windV
  rw [if_pos hb, if_pos hf]
  refine ⟨_, _, _, _, rfl, ?_⟩
  omega
theorem WOk.windE {a b c d : Int} (h : WOk a b c d) : windE a b c d = 0 := by
  obtain ⟨h1, h2, h3, h4, h5, h6⟩ := h
  have f1 : fineS (a, b) = true := (fineS_iff _).2 ⟨h1, by show _ ≤ a; omega, by show b ≤ _; omega⟩
  have f2 : fineS (c, d) = true := (fineS_iff _).2 ⟨h2, by show _ ≤ c; omega, by show d ≤ _; omega⟩
  have h8 : allFrom (-2000) 2000 [a, b, c, d] = true := by simp [allFrom]; omega
  unfold YtcjkndjjbjoehaaGreat.windE
  rw [f1, f2, h8]; rfl
theorem sq_bound {s m : Int} (h0 : 0 ≤ s) (hm : 0 ≤ m) (h : s * s < (m + 1) * (m + 1)) : s ≤ m := by
  rcases Int.lt_or_le m s with g | g
  · have := sq_mono (show 0 ≤ m + 1 by omega) (show m + 1 ≤ s by omega)
    omega
  · exact g
/-- What the law sees of the wind (a, b, c, d) and its point (x, y). -/
structure See (a b c d x y p q s t al ah cl ch dl dh : Int) : Prop where
  speed : speedV x x y y = (s, t, 0)
  along : alongV x x y y p q = (al, ah, 0)
  cl_eq : mrV (nearC x x y y p q * nearC x x y y p q) (p * p + q * q) = cl
  ch_eq : mhV (farC x x y y p q * farC x x y y p q) (p * p + q * q) = ch
  dl_eq : mrV (nearC a b c d p q * nearC a b c d p q) (p * p + q * q) = dl
  dh_eq : mhV (farC a b c d p q * farC a b c d p q) (p * p + q * q) = dh
  s0 : -4001 ≤ s ∧ s ≤ 4001
  t0 : -4001 ≤ t ∧ t ≤ 4001
  al0 : -4001 ≤ al ∧ al ≤ 4001
  ah0 : -4001 ≤ ah ∧ ah ≤ 4001
  cl0 : -4001 ≤ cl ∧ cl ≤ 4001
  ch0 : -4001 ≤ ch ∧ ch ≤ 4001
  low : dl ≤ cl
  high : ch ≤ dh
  most : s * s ≤ mostV al ah * mostV al ah + ch * ch
  least : leastV al ah * leastV al ah + cl * cl ≤ t * t
  calm : farC x x y y p q * farC x x y y p q ≤ farC a b c d p q * farC a b c d p q
end Go.Proofs.YtcjkndjjbjoehaaGreat

