/- Where a pressure may be: plain laws. -/
import Derived.Test.YtalidommelefaaaAt
namespace Go.Proofs.Ytalidommelefaaa
set_option linter.unusedVariables false
set_option linter.unusedSimpArgs false
/-- Higher is less. -/
theorem ceil_mono_den {x d e : Int} (hx : 0 ≤ x) (hd : 0 < d) (h : d ≤ e) : (x + e - 1) / e ≤ (x + d - 1) / d := by
  have h1 := cd_le (a := x) hd
  have h2 : (x + d - 1) / d * d ≤ (x + d - 1) / d * e := Int.mul_le_mul_of_nonneg_left h (Int.ediv_nonneg (by omega) (by omega))
  refine Int.lt_add_one_iff.1 (Int.ediv_lt_of_lt_mul (by omega) ?_)
  rw [Int.add_mul, Int.one_mul]
  omega
theorem rise_anti {p t : Int × Int} {c d : Int} (hg : GapOk d t) (hc : 0 ≤ c) (h : c ≤ d) (h1 : 0 ≤ p.1) (h2 : 0 ≤ p.2) : (riseV p d t).1 ≤ (riseV p c t).1 ∧ (riseV p d t).2 ≤ (riseV p c t).2 := by
  obtain ⟨c0, c1, t0, t1, t2⟩ := hg
  unfold riseV
  refine ⟨ediv_mono (by omega) (Int.mul_le_mul_of_nonneg_left (by omega) h1), ?_⟩
  have := ceil_mono_den (x := p.2 * (1000000 * t.2)) (d := 1000000 * t.2 + 341632 * c) (e := 1000000 * t.2 + 341632 * d) (Int.mul_nonneg h2 (by omega)) (by omega) (by omega)
  simp only
  rw [show p.2 * (1000000 * t.2) + 1000000 * t.2 + 341632 * d - 1 = p.2 * (1000000 * t.2) + (1000000 * t.2 + 341632 * d) - 1 by omega, show p.2 * (1000000 * t.2) + 1000000 * t.2 + 341632 * c - 1 = p.2 * (1000000 * t.2) + (1000000 * t.2 + 341632 * c) - 1 by omega]
  exact this
theorem rise_zero {p t : Int × Int} (h : 0 < t.1) (h' : 0 < t.2) : riseV p 0 t = p := by
  unfold riseV
  simp only [Int.mul_zero, Int.sub_zero, Int.add_zero]
  rw [Int.mul_ediv_cancel _ (by omega)]
  have : (p.2 * (1000000 * t.2) + 1000000 * t.2 - 1) / (1000000 * t.2) = p.2 := div_uniq (by omega) (by omega) (by rw [Int.add_mul]; omega)
  rw [this]
theorem rise_le {p t : Int × Int} {c : Int} (hg : GapOk c t) (h1 : 0 ≤ p.1) (h : p.1 ≤ p.2) : (riseV p c t).1 ≤ (riseV p c t).2 := by
  have hp := gap_prod hg
  obtain ⟨c0, c1, t0, t1, t2⟩ := hg
  unfold riseV
  simp only
  -- floor (p1 (C - s) / C) ≤ ceil (p2 W / (W + s))
  generalize hC : 1000000 * t.1 = C at *
  generalize hW : 1000000 * t.2 = W at *
  generalize hs : 341632 * c = s at *
  have e1 := Int.ediv_mul_le (p.1 * (C - s)) (show C ≠ 0 by omega)
  have e2 := cd_le (a := p.2 * W) (show 0 < W + s by omega)
  rw [show p.2 * W + (W + s) - 1 = p.2 * W + W + s - 1 by omega] at e2
  generalize p.1 * (C - s) / C = x at *
  generalize (p.2 * W + W + s - 1) / (W + s) = y at *
  -- x C ≤ p1 (C - s), p2 W ≤ y (W + s)
  have k1 : x * C * (W + s) ≤ p.1 * (C - s) * (W + s) := Int.mul_le_mul_of_nonneg_right e1 (by omega)
  have k2 : C * (p.2 * W) ≤ C * (y * (W + s)) := Int.mul_le_mul_of_nonneg_left e2 (by omega)
  have k3 : p.1 * ((C - s) * (W + s)) ≤ p.1 * (C * W) := Int.mul_le_mul_of_nonneg_left hp h1
  have k4 : p.1 * (C * W) ≤ p.2 * (C * W) := Int.mul_le_mul_of_nonneg_right h (Int.mul_nonneg (by omega) (by omega))
  have a1 : x * C * (W + s) = C * (W + s) * x := by ac_rfl
  have a2 : C * (y * (W + s)) = C * (W + s) * y := by ac_rfl
  have a3 : p.1 * (C - s) * (W + s) = p.1 * ((C - s) * (W + s)) := by ac_rfl
  have a4 : C * (p.2 * W) = p.2 * (C * W) := by ac_rfl
  have : C * (W + s) * x ≤ C * (W + s) * y := by omega
  exact Int.le_of_mul_le_mul_left this (Int.mul_pos (by omega) (by omega))
theorem sink_ge {p t : Int × Int} {c : Int} (hg : GapOk c t) (h1 : 0 ≤ p.1) : p.1 ≤ (sinkV p c t).1 := by
  obtain ⟨c0, c1, t0, t1, t2⟩ := hg
  unfold sinkV
  refine Int.le_ediv_of_mul_le (by omega) ?_
  exact Int.mul_le_mul_of_nonneg_left (by omega) h1
/-- In a settled sounding: between two levels the pressure is as the one below says; at both ends, too. -/
structure Stl (l : List Lv) : Prop where
  hg : Hg l
  ch : Ch l
  fix : Fix l
theorem prV_low {l : List Lv} (hs : Stl l) {i : Nat} {a b : Lv} {h : Int} (ha : l[i]? = some a) (hb : l[i + 1]? = some b) (h1 : a.h ≤ h) (h2 : h < b.h) : prV l h = (max (riseV a.press (h - a.h) (gapT a b)).1 b.plo, (riseV a.press (h - a.h) (gapT a b)).2) := by
  rcases Int.lt_or_eq_of_le h1 with h3 | h3
  · exact prV_mid hs.hg ha hb h3 h2
  · subst h3
    have g := hs.ch.get ha hb
    have hp := hs.ch.pos (List.mem_of_getElem? hb)
    have f := (hs.fix.get ha hb).2
    rw [prV_at hs.hg ha, Int.sub_self, rise_zero (by have := g.t0; omega) (by have := g.t0; have := g.t1; omega)]
    have k := sink_ge g (p := b.press) hp.1
    have f1 : (dnI a b).1 ≤ a.press.1 := f.1
    have e : (dnI a b).1 = (sinkV b.press (b.h - a.h) (gapT a b)).1 := rfl
    have e2 : b.press.1 = b.plo := rfl
    have : max a.press.1 b.plo = a.press.1 := by omega
    rw [this]
theorem prV_top {l : List Lv} (hs : Stl l) {i : Nat} {a b : Lv} (ha : l[i]? = some a) (hb : l[i + 1]? = some b) : (prV l b.h).1 = max (riseV a.press (b.h - a.h) (gapT a b)).1 b.plo ∧ (prV l b.h).2 ≤ (riseV a.press (b.h - a.h) (gapT a b)).2 := by
  have f := (hs.fix.get ha hb).1
  rw [prV_at hs.hg hb]
  have f1 : (riseV a.press (b.h - a.h) (gapT a b)).1 ≤ b.press.1 := f.1
  have f2 : b.press.2 ≤ (riseV a.press (b.h - a.h) (gapT a b)).2 := f.2
  have e2 : b.press.1 = b.plo := rfl
  exact ⟨by omega, f2⟩
/-- One metre higher. -/
theorem prV_step {l : List Lv} (hs : Stl l) {i : Nat} {a b : Lv} {h k : Int} (ha : l[i]? = some a) (hb : l[i + 1]? = some b) (h1 : a.h ≤ h) (hk : h ≤ k) (h2 : k ≤ b.h) : (prV l k).1 ≤ (prV l h).1 ∧ (prV l k).2 ≤ (prV l h).2 := by
  have g := hs.ch.get ha hb
  have hp := hs.ch.pos (List.mem_of_getElem? ha)
  rcases Int.lt_or_eq_of_le hk with h3 | h3
  · have e := prV_low hs ha hb h1 (by omega)
    have gk : GapOk (k - a.h) (gapT a b) := ⟨by omega, by have := g.c1; omega, g.t0, g.t1, g.t2⟩
    have r := rise_anti gk (c := h - a.h) (by omega) (by omega) (p := a.press) hp.1 hp.2
    rw [e]
    rcases Int.lt_or_eq_of_le h2 with h4 | h4
    · rw [prV_low hs ha hb (by omega) h4]
      simp only
      omega
    · subst h4
      have t := prV_top hs ha hb
      simp only
      omega
  · subst h3; exact ⟨Int.le_refl _, Int.le_refl _⟩
/-- Which gap a height lies in. -/
theorem gap_of {l : List Lv} (hg : Hg l) (n2 : 2 ≤ l.length) {x0 xn : Lv} (h0 : l[0]? = some x0) (hn : l[l.length - 1]? = some xn) {h : Int} (k0 : x0.h ≤ h) (kn : h ≤ xn.h) : ∃ i a b, l[i]? = some a ∧ l[i + 1]? = some b ∧ a.h ≤ h ∧ h ≤ b.h := by
  obtain ⟨r, hr1, hr2, hr3⟩ := hg_find hg h
  cases r with
  | zero =>
    have h1 : l[1]? = some l[1] := List.getElem?_eq_getElem (by omega)
    have := hg (i := 0) (j := 1) (by omega) h0 h1
    have := hr3 0 _ (Nat.le_refl _) h0
    exact ⟨0, x0, _, h0, h1, k0, by omega⟩
  | succ j =>
    have hjl : j < l.length := by omega
    have hj : l[j]? = some l[j] := List.getElem?_eq_getElem hjl
    have hlt : j + 1 < l.length := by
      rcases Nat.lt_or_ge (j + 1) l.length with k | k
      · exact k
      · have := hr2 (l.length - 1) xn (by omega) hn; omega
    have hj1 : l[j + 1]? = some l[j + 1] := List.getElem?_eq_getElem hlt
    have := hr2 j _ (by omega) hj
    have := hr3 (j + 1) _ (Nat.le_refl _) hj1
    exact ⟨j, _, _, hj, hj1, by omega, by omega⟩
theorem prV_anti {l : List Lv} (hs : Stl l) (n2 : 2 ≤ l.length) {x0 xn : Lv} (h0 : l[0]? = some x0) (hn : l[l.length - 1]? = some xn) {h : Int} (k0 : x0.h ≤ h) : ∀ (d : Nat), h + d ≤ xn.h → (prV l (h + d)).1 ≤ (prV l h).1 ∧ (prV l (h + d)).2 ≤ (prV l h).2
  | 0, _ => by simp
  | d + 1, hd => by
    have ih := prV_anti hs n2 h0 hn k0 d (by omega)
    obtain ⟨i, a, b, ha, hb, h1, h2⟩ := gap_of hs.hg n2 h0 hn (h := h + (d + 1 : Nat)) (by omega) (by omega)
    rcases Int.lt_or_le (h + d) a.h with h3 | h3
    · -- the step crosses no level: a.h = h + d + 1
      have e : a.h = h + (d + 1 : Nat) := by omega
      cases i with
      | zero =>
        rw [h0] at ha
        have := Option.some.inj ha
        subst this
        omega
      | succ j =>
        have hjl : j < l.length := by have := (List.getElem?_eq_some_iff.1 ha).1; omega
        have hj : l[j]? = some l[j] := List.getElem?_eq_getElem hjl
        have hl := hs.hg (i := j) (j := j + 1) (by omega) hj ha
        have := prV_step hs hj ha (h := h + d) (k := h + (d + 1 : Nat)) (by omega) (by omega) (by omega)
        omega
    · have := prV_step hs ha hb (h := h + d) (k := h + (d + 1 : Nat)) h3 (by omega) h2
      omega
theorem prV_mono {l : List Lv} (hs : Stl l) (n2 : 2 ≤ l.length) {x0 xn : Lv} (h0 : l[0]? = some x0) (hn : l[l.length - 1]? = some xn) {h k : Int} (k0 : x0.h ≤ h) (hk : h ≤ k) (kn : k ≤ xn.h) : (prV l k).1 ≤ (prV l h).1 ∧ (prV l k).2 ≤ (prV l h).2 := by
  have := prV_anti hs n2 h0 hn k0 (k - h).toNat (by omega)
  rw [show h + ((k - h).toNat : Int) = k by omega] at this
  exact this
theorem prV_ok {l : List Lv} (hs : Stl l) (n2 : 2 ≤ l.length) (hb : ∀ x ∈ l, x.plo ≤ x.phi) {x0 xn : Lv} (h0 : l[0]? = some x0) (hn : l[l.length - 1]? = some xn) {h : Int} (k0 : x0.h ≤ h) (kn : h ≤ xn.h) : (prV l h).1 ≤ (prV l h).2 := by
  obtain ⟨i, a, b, ha, hb2, h1, h2⟩ := gap_of hs.hg n2 h0 hn k0 kn
  rcases Int.lt_or_eq_of_le h2 with h3 | h3
  · have g := hs.ch.get ha hb2
    have hp := hs.ch.pos (List.mem_of_getElem? ha)
    have gk : GapOk (h - a.h) (gapT a b) := ⟨by omega, by have := g.c1; omega, g.t0, g.t1, g.t2⟩
    have r1 := rise_le gk (p := a.press) hp.1 (hb a (List.mem_of_getElem? ha))
    have r2 := rise_anti g (c := h - a.h) (by omega) (by omega) (p := a.press) hp.1 hp.2
    have f := (hs.fix.get ha hb2).1
    have f2 : b.phi ≤ (riseV a.press (b.h - a.h) (gapT a b)).2 := f.2
    have kb := hb b (List.mem_of_getElem? hb2)
    rw [prV_low hs ha hb2 h1 h3]
    simp only
    omega
  · subst h3
    rw [prV_at hs.hg hb2]
    exact hb b (List.mem_of_getElem? hb2)
theorem Snd.stl {l : List Lv} (h : Snd l) : Stl (setl l) := ⟨h.hg h.settles.2.2, h.settles.1, h.settles.2.1⟩
theorem unfit_no {l : List Lv} (h : unfit l = false) : ∀ x ∈ setl l, x.plo ≤ x.phi := by
  intro x hx
  unfold unfit at h
  rw [idxV_all] at h
  have : ((setl l).all fun x => !badL x) = true := by simpa using h
  have := List.all_eq_true.1 this x hx
  unfold badL at this
  simp at this
  exact this

/-- May the pressure at a height be in a span? -/
def wP (l : List Lv) (p q h : Int) : Prop := (prV (setl l) h).1 ≤ q ∧ p ≤ (prV (setl l) h).2
/-- The heights at which it may. -/
def IsWh (l : List Lv) (p q : Int) (r : Int × Int × Int) : Prop :=
  (r = (0, 0, 6) ∧ ∀ h, lvFst l ≤ h → h ≤ lvLst l → ¬ wP l p q h) ∨
  (r.2.2 = 0 ∧ lvFst l ≤ r.1 ∧ r.1 ≤ r.2.1 ∧ r.2.1 ≤ lvLst l ∧ wP l p q r.1 ∧ wP l p q r.2.1 ∧ ∀ h, lvFst l ≤ h → h ≤ lvLst l → wP l p q h → r.1 ≤ h ∧ h ≤ r.2.1)
theorem IsWh.uniq {l : List Lv} {p q : Int} {r s : Int × Int × Int} (h : IsWh l p q r) (k : IsWh l p q s) : r = s := by
  rcases h with ⟨rfl, h⟩ | ⟨h0, h1, h2, h3, h4, h5, h6⟩ <;> rcases k with ⟨rfl, k⟩ | ⟨k0, k1, k2, k3, k4, k5, k6⟩
  · rfl
  · exact absurd k4 (h _ k1 (by omega))
  · exact absurd h4 (k _ h1 (by omega))
  · have a1 := k6 _ h1 (by omega) h4
    have a2 := h6 _ k1 (by omega) k4
    have a3 := k6 _ (by omega) h3 h5
    have a4 := h6 _ (by omega) k3 k5
    obtain ⟨r1, r2, r3⟩ := r
    obtain ⟨s1, s2, s3⟩ := s
    simp only [Prod.mk.injEq] at *
    omega
noncomputable def whV (l : List Lv) (p q : Int) : Int × Int × Int := open Classical in if h : ∃ r, IsWh l p q r then Classical.choose h else (0, 0, 0)
theorem IsWh.val {l : List Lv} {p q : Int} {r : Int × Int × Int} (h : IsWh l p q r) : whV l p q = r := by
  have hx : ∃ r, IsWh l p q r := ⟨r, h⟩
  unfold whV
  rw [dif_pos hx]
  exact (Classical.choose_spec hx).uniq h
/-- What Where returns: bounds, and the error. -/
noncomputable def whS (l : List Lv) (p q : Int) : Int × Int × Int :=
  if soundB l then if fineS (p, q) then if unfit l then (0, 0, 21) else whV l p q else (0, 0, 10) else (0, 0, 20)
end Go.Proofs.Ytalidommelefaaa
