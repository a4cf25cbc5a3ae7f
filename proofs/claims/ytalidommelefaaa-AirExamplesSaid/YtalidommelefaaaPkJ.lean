/- Where a pressure may be. -/
import Derived.Test.YtalidommelefaaaPkE
/- Where a pressure may be: plain laws. -/
namespace Go.Proofs.Ytalidommelefaaa
set_option linter.unusedVariables false
set_option linter.unusedSimpArgs false
/-- Higher is less. -/
theorem ceil_mono_den {x d e : Int} (hx : 0 ≤ x) (hd : 0 < d) (h : d ≤ e) : (x + e - 1) / e ≤ (x + d - 1) / d := by
  have h1 := cd_le (a := x) hd
  have h2 : (x + d - 1) / d * d ≤ (x + d - 1) / d * e := Int.mul_le_mul_of_nonneg_left h (Int.ediv_nonneg (by omega) (by omega))
  refine Int.lt_add_one_iff.1 (Int.ediv_lt_of_lt_mul (by omega) ?_)
  rw [Int.add_mul, Int.one_mul]
  omega
theorem rise_anti {p t : Int × Int} {c d : Int} (hg : GapOk d t) (hc : 0 ≤ c) (h : c ≤ d) (h1 : 0 ≤ p.1) (h2 : 0 ≤ p.2) : (riseV p d t).1 ≤ (riseV p c t).1 ∧ (riseV p d t).2 ≤ (riseV p c t).2 := by
  obtain ⟨c0, c1, t0, t1, t2⟩ := hg
  unfold riseV
  refine ⟨ediv_mono (by omega) (Int.mul_le_mul_of_nonneg_left (by omega) h1), ?_⟩
  have := ceil_mono_den (x := p.2 * (1000000 * t.2)) (d := 1000000 * t.2 + 341632 * c) (e := 1000000 * t.2 + 341632 * d) (Int.mul_nonneg h2 (by omega)) (by omega) (by omega)
  simp only
  rw [show p.2 * (1000000 * t.2) + 1000000 * t.2 + 341632 * d - 1 = p.2 * (1000000 * t.2) + (1000000 * t.2 + 341632 * d) - 1 by omega, show p.2 * (1000000 * t.2) + 1000000 * t.2 + 341632 * c - 1 = p.2 * (1000000 * t.2) + (1000000 * t.2 + 341632 * c) - 1 by omega]
  exact this
theorem rise_zero {p t : Int × Int} (h : 0 < t.1) (h' : 0 < t.2) : riseV p 0 t = p := by
  unfold riseV
  simp only [Int.mul_zero, Int.sub_zero, Int.add_zero]
  rw [Int.mul_ediv_cancel _ (by omega)]
  have : (p.2 * (1000000 * t.2) + 1000000 * t.2 - 1) / (1000000 * t.2) = p.2 := div_uniq (by omega) (by omega) (by rw [Int.add_mul]; omega)
  rw [this]
theorem rise_le {p t : Int × Int} {c : Int} (hg : GapOk c t) (h1 : 0 ≤ p.1) (h : p.1 ≤ p.2) : (riseV p c t).1 ≤ (riseV p c t).2 := by
  have hp := gap_prod hg
  obtain ⟨c0, c1, t0, t1, t2⟩ := hg
  unfold riseV
  simp only
  -- floor (p1 (C - s) / C) ≤ ceil (p2 W / (W + s))
  generalize hC : 1000000 * t.1 = C at *
  generalize hW : 1000000 * t.2 = W at *
  generalize hs : 341632 * c = s at *
  have e1 := Int.ediv_mul_le (p.1 * (C - s)) (show C ≠ 0 by omega)
  have e2 := cd_le (a := p.2 * W) (show 0 < W + s by omega)
  rw [show p.2 * W + (W + s) - 1 = p.2 * W + W + s - 1 by omega] at e2
  generalize p.1 * (C - s) / C = x at *
  generalize (p.2 * W + W + s - 1) / (W + s) = y at *
  -- x C ≤ p1 (C - s), p2 W ≤ y (W + s)
  have k1 : x * C * (W + s) ≤ p.1 * (C - s) * (W + s) := Int.mul_le_mul_of_nonneg_right e1 (by omega)
  have k2 : C * (p.2 * W) ≤ C * (y * (W + s)) := Int.mul_le_mul_of_nonneg_left e2 (by omega)
  have k3 : p.1 * ((C - s) * (W + s)) ≤ p.1 * (C * W) := Int.mul_le_mul_of_nonneg_left hp h1
  have k4 : p.1 * (C * W) ≤ p.2 * (C * W) := Int.mul_le_mul_of_nonneg_right h (Int.mul_nonneg (by omega) (by omega))
  have a1 : x * C * (W + s) = C * (W + s) * x := by ac_rfl
  have a2 : C * (y * (W + s)) = C * (W + s) * y := by ac_rfl
  have a3 : p.1 * (C - s) * (W + s) = p.1 * ((C - s) * (W + s)) := by ac_rfl
  have a4 : C * (p.2 * W) = p.2 * (C * W) := by ac_rfl
  have : C * (W + s) * x ≤ C * (W + s) * y := by omega
  exact Int.le_of_mul_le_mul_left this (Int.mul_pos (by omega) (by omega))
theorem sink_ge {p t : Int × Int} {c : Int} (hg : GapOk c t) (h1 : 0 ≤ p.1) : p.1 ≤ (sinkV p c t).1 := by
  obtain ⟨c0, c1, t0, t1, t2⟩ := hg
  unfold sinkV
  refine Int.le_ediv_of_mul_le (by omega) ?_
  exact Int.mul_le_mul_of_nonneg_left (by omega) h1
/-- In a settled sounding: between two levels the pressure is as the one below says; at both ends, too. -/
structure Stl (l : List Lv) : Prop where
  hg : Hg l
  ch : Ch l
  fix : Fix l
theorem prV_low {l : List Lv} (hs : Stl l) {i : Nat} {a b : Lv} {h : Int} (ha : l[i]? = some a) (hb : l[i + 1]? = some b) (h1 : a.h ≤ h) (h2 : h < b.h) : prV l h = (max (riseV a.press (h - a.h) (gapT a b)).1 b.plo, (riseV a.press (h - a.h) (gapT a b)).2) := by
  rcases Int.lt_or_eq_of_le h1 with h3 | h3
  · exact prV_mid hs.hg ha hb h3 h2
  · subst h3
    have g := hs.ch.get ha hb
    have hp := hs.ch.pos (List.mem_of_getElem? hb)
    have f := (hs.fix.get ha hb).2
    rw [prV_at hs.hg ha, Int.sub_self, rise_zero (by have := g.t0; omega) (by have := g.t0; have := g.t1; omega)]
    have k := sink_ge g (p := b.press) hp.1
    have f1 : (dnI a b).1 ≤ a.press.1 := f.1
    have e : (dnI a b).1 = (sinkV b.press (b.h - a.h) (gapT a b)).1 := rfl
    have e2 : b.press.1 = b.plo := rfl
    have : max a.press.1 b.plo = a.press.1 := by omega
    rw [this]
theorem prV_top {l : List Lv} (hs : Stl l) {i : Nat} {a b : Lv} (ha : l[i]? = some a) (hb : l[i + 1]? = some b) : (prV l b.h).1 = max (riseV a.press (b.h - a.h) (gapT a b)).1 b.plo ∧ (prV l b.h).2 ≤ (riseV a.press (b.h - a.h) (gapT a b)).2 := by
  have f := (hs.fix.get ha hb).1
  rw [prV_at hs.hg hb]
  have f1 : (riseV a.press (b.h - a.h) (gapT a b)).1 ≤ b.press.1 := f.1
  have f2 : b.press.2 ≤ (riseV a.press (b.h - a.h) (gapT a b)).2 := f.2
  have e2 : b.press.1 = b.plo := rfl
  exact ⟨by omega, f2⟩
/-- One metre higher. -/
theorem prV_step {l : List Lv} (hs : Stl l) {i : Nat} {a b : Lv} {h k : Int} (ha : l[i]? = some a) (hb : l[i + 1]? = some b) (h1 : a.h ≤ h) (hk : h ≤ k) (h2 : k ≤ b.h) : (prV l k).1 ≤ (prV l h).1 ∧ (prV l k).2 ≤ (prV l h).2 := by
  have g := hs.ch.get ha hb
  have hp := hs.ch.pos (List.mem_of_getElem? ha)
  rcases Int.lt_or_eq_of_le hk with h3 | h3
  · have e := prV_low hs ha hb h1 (by omega)
    have gk : GapOk (k - a.h) (gapT a b) := ⟨by omega, by have := g.c1; omega, g.t0, g.t1, g.t2⟩
    have r := rise_anti gk (c := h - a.h) (by omega) (by omega) (p := a.press) hp.1 hp.2
    rw [e]
    rcases Int.lt_or_eq_of_le h2 with h4 | h4
    · rw [prV_low hs ha hb (by omega) h4]
      simp only
      omega
    · subst h4
      have t := prV_top hs ha hb
      simp only
      omega
  · subst h3; exact ⟨Int.le_refl _, Int.le_refl _⟩
/-- Which gap a height lies in. -/
theorem gap_of {l : List Lv} (hg : Hg l) (n2 : 2 ≤ l.length) {x0 xn : Lv} (h0 : l[0]? = some x0) (hn : l[l.length - 1]? = some xn) {h : Int} (k0 : x0.h ≤ h) (kn : h ≤ xn.h) : ∃ i a b, l[i]? = some a ∧ l[i + 1]? = some b ∧ a.h ≤ h ∧ h ≤ b.h := by
  obtain ⟨r, hr1, hr2, hr3⟩ := hg_find hg h
  cases r with
  | zero =>
    have h1 : l[1]? = some l[1] := List.getElem?_eq_getElem (by omega)
    have := hg (i := 0) (j := 1) (by omega) h0 h1
    have := hr3 0 _ (Nat.le_refl _) h0
    exact ⟨0, x0, _, h0, h1, k0, by omega⟩
  | succ j =>
    have hjl : j < l.length := by omega
    have hj : l[j]? = some l[j] := List.getElem?_eq_getElem hjl
    have hlt : j + 1 < l.length := by
      rcases Nat.lt_or_ge (j + 1) l.length with k | k
      · exact k
      · have := hr2 (l.length - 1) xn (by omega) hn; omega
    have hj1 : l[j + 1]? = some l[j + 1] := List.getElem?_eq_getElem hlt
    have := hr2 j _ (by omega) hj
    have := hr3 (j + 1) _ (Nat.le_refl _) hj1
    exact ⟨j, _, _, hj, hj1, by omega, by omega⟩
theorem prV_anti {l : List Lv} (hs : Stl l) (n2 : 2 ≤ l.length) {x0 xn : Lv} (h0 : l[0]? = some x0) (hn : l[l.length - 1]? = some xn) {h : Int} (k0 : x0.h ≤ h) : ∀ (d : Nat), h + d ≤ xn.h → (prV l (h + d)).1 ≤ (prV l h).1 ∧ (prV l (h + d)).2 ≤ (prV l h).2
  | 0, _ => by simp
  | d + 1, hd => by
    have ih := prV_anti hs n2 h0 hn k0 d (by omega)
    obtain ⟨i, a, b, ha, hb, h1, h2⟩ := gap_of hs.hg n2 h0 hn (h := h + (d + 1 : Nat)) (by omega) (by omega)
    rcases Int.lt_or_le (h + d) a.h with h3 | h3
    · -- the step crosses no level: a.h = h + d + 1
      have e : a.h = h + (d + 1 : Nat) := by omega
      cases i with
      | zero =>
        rw [h0] at ha
        have := Option.some.inj ha
        subst this
        omega
      | succ j =>
        have hjl : j < l.length := by have := (List.getElem?_eq_some_iff.1 ha).1; omega
        have hj : l[j]? = some l[j] := List.getElem?_eq_getElem hjl
        have hl := hs.hg (i := j) (j := j + 1) (by omega) hj ha
        have := prV_step hs hj ha (h := h + d) (k := h + (d + 1 : Nat)) (by omega) (by omega) (by omega)
        omega
    · have := prV_step hs ha hb (h := h + d) (k := h + (d + 1 : Nat)) h3 (by omega) h2
      omega
theorem prV_mono {l : List Lv} (hs : Stl l) (n2 : 2 ≤ l.length) {x0 xn : Lv} (h0 : l[0]? = some x0) (hn : l[l.length - 1]? = some xn) {h k : Int} (k0 : x0.h ≤ h) (hk : h ≤ k) (kn : k ≤ xn.h) : (prV l k).1 ≤ (prV l h).1 ∧ (prV l k).2 ≤ (prV l h).2 := by
  have := prV_anti hs n2 h0 hn k0 (k - h).toNat (by omega)
  rw [show h + ((k - h).toNat : Int) = k by omega] at this
  exact this
theorem prV_ok {l : List Lv} (hs : Stl l) (n2 : 2 ≤ l.length) (hb : ∀ x ∈ l, x.plo ≤ x.phi) {x0 xn : Lv} (h0 : l[0]? = some x0) (hn : l[l.length - 1]? = some xn) {h : Int} (k0 : x0.h ≤ h) (kn : h ≤ xn.h) : (prV l h).1 ≤ (prV l h).2 := by
  obtain ⟨i, a, b, ha, hb2, h1, h2⟩ := gap_of hs.hg n2 h0 hn k0 kn
  rcases Int.lt_or_eq_of_le h2 with h3 | h3
  · have g := hs.ch.get ha hb2
    have hp := hs.ch.pos (List.mem_of_getElem? ha)
    have gk : GapOk (h - a.h) (gapT a b) := ⟨by omega, by have := g.c1; omega, g.t0, g.t1, g.t2⟩
    have r1 := rise_le gk (p := a.press) hp.1 (hb a (List.mem_of_getElem? ha))
    have r2 := rise_anti g (c := h - a.h) (by omega) (by omega) (p := a.press) hp.1 hp.2
    have f := (hs.fix.get ha hb2).1
    have f2 : b.phi ≤ (riseV a.press (b.h - a.h) (gapT a b)).2 := f.2
    have kb := hb b (List.mem_of_getElem? hb2)
    rw [prV_low hs ha hb2 h1 h3]
    simp only
    omega
  · subst h3
    rw [prV_at hs.hg hb2]
    exact hb b (List.mem_of_getElem? hb2)
theorem Snd.stl {l : List Lv} (h : Snd l) : Stl (setl l) := ⟨h.hg h.settles.2.2, h.settles.1, h.settles.2.1⟩
theorem unfitW_no {l : List Lv} (h : unfit l = false) : ∀ x ∈ setl l, x.plo ≤ x.phi := by
  intro x hx
  unfold unfit at h
  rw [idxV_all] at h
  have : ((setl l).all fun x => !badL x) = true := by simpa using h
  have := List.all_eq_true.1 this x hx
  unfold badL at this
  simp at this
  exact this

/-- May the pressure at a height be in a span? -/
def wP (l : List Lv) (p q h : Int) : Prop := (prV (setl l) h).1 ≤ q ∧ p ≤ (prV (setl l) h).2
/-- The heights at which it may. -/
def IsWh (l : List Lv) (p q : Int) (r : Int × Int × Int) : Prop :=
  (r = (0, 0, 6) ∧ ∀ h, lvFst l ≤ h → h ≤ lvLst l → ¬ wP l p q h) ∨
  (r.2.2 = 0 ∧ lvFst l ≤ r.1 ∧ r.1 ≤ r.2.1 ∧ r.2.1 ≤ lvLst l ∧ wP l p q r.1 ∧ wP l p q r.2.1 ∧ ∀ h, lvFst l ≤ h → h ≤ lvLst l → wP l p q h → r.1 ≤ h ∧ h ≤ r.2.1)
theorem IsWh.uniq {l : List Lv} {p q : Int} {r s : Int × Int × Int} (h : IsWh l p q r) (k : IsWh l p q s) : r = s := by
  rcases h with ⟨rfl, h⟩ | ⟨h0, h1, h2, h3, h4, h5, h6⟩ <;> rcases k with ⟨rfl, k⟩ | ⟨k0, k1, k2, k3, k4, k5, k6⟩
  · rfl
  · exact absurd k4 (h _ k1 (by omega))
  · exact absurd h4 (k _ h1 (by omega))
  · have a1 := k6 _ h1 (by omega) h4
    have a2 := h6 _ k1 (by omega) k4
    have a3 := k6 _ (by omega) h3 h5
    have a4 := h6 _ (by omega) k3 k5
    obtain ⟨r1, r2, r3⟩ := r
    obtain ⟨s1, s2, s3⟩ := s
    simp only [Prod.mk.injEq] at *
    omega
noncomputable def whV (l : List Lv) (p q : Int) : Int × Int × Int := open Classical in if h : ∃ r, IsWh l p q r then Classical.choose h else (0, 0, 0)
theorem IsWh.val {l : List Lv} {p q : Int} {r : Int × Int × Int} (h : IsWh l p q r) : whV l p q = r := by
  have hx : ∃ r, IsWh l p q r := ⟨r, h⟩
  unfold whV
  rw [dif_pos hx]
  exact (Classical.choose_spec hx).uniq h
/-- What Where returns: bounds, and the error. -/
noncomputable def whS (l : List Lv) (p q : Int) : Int × Int × Int :=
  if soundB l then if fineS (p, q) then if unfit l then (0, 0, 21) else whV l p q else (0, 0, 10) else (0, 0, 20)
end Go.Proofs.Ytalidommelefaaa
/- Where a pressure may be: what the code computes. -/
namespace Go.Proofs.Ytalidommelefaaa
open Go.RowKit
attribute [local irreducible] OQ OS OX Rd T TL GX GL AL AI RV wpG SAny Calls
set_option maxRecDepth 100000
set_option maxHeartbeats 2000000
set_option linter.unusedVariables false
set_option linter.unusedSimpArgs false


theorem wh1_calls (bt bl bp b1 b6 : Nat) (cur : List Lv) (low p q : Int) (j : Nat) (w : World) (hlow : -100000 ≤ low ∧ low ≤ 100000) (hj : j ≤ 100000) (m0 : w.cell? ⟨bt, 0, none⟩ = some (.func (.func 130) #[] #[.pointer (some ⟨b1, 0, none⟩), .pointer (some ⟨b6, 0, none⟩)])) (m1 : w.cell? ⟨bl, 0, none⟩ = some (.int .i64 low))
    (m2 : w.cell? ⟨bp, 0, none⟩ = some (.int .i64 p)) (m3 : w.cell? ⟨bp, 1, none⟩ = some (.int .i64 q))
    (HT : ∀ w1, Ext w w1 → Calls Try.prog 130 #[.int .i64 (low + (j : Int)), .pointer (some ⟨b1, 0, none⟩), .pointer (some ⟨b6, 0, none⟩)] w1 fun e w' => e = .returned (.agg #[.int .i64 (prV cur (low + (j : Int))).1, .int .i64 (prV cur (low + (j : Int))).2]) ∧ Ext w1 w') :
    Calls Try.prog 108 #[.int .i64 (j : Int), .pointer (some ⟨bt, 0, none⟩), .pointer (some ⟨bl, 0, none⟩), .pointer (some ⟨bp, 0, none⟩)] w fun e w' => e = .returned (.bool (decide ((prV cur (low + (j : Int))).1 ≤ q))) ∧ Ext w w' := by
  refine enterQ (c := cx w 15) Try.func108 rfl rfl rfl rfl ?_
  repeat' (first | ((with_reducible apply oq_id); first | (apply oq_fn; exact rfl; first | exact trivial | (refine ⟨?_, ?_⟩ <;> omega) | (refine ⟨?_, ?_, ?_⟩ <;> omega) | omega | skip) | ((with_reducible apply oq_load); exact rfl; exact rfl) | ((with_reducible apply oq_call (k := 130) (hc := Try.call130)); exact rfl; exact rfl; exact fun D w1 hw1 => HT w1 hw1.ext.ext)) | ((with_reducible apply tl_id); first | ((with_reducible apply tl_nil)) | ((with_reducible apply u_q); exact rfl; exact rfl; exact rfl; exact rfl)) | ((with_reducible apply gx_id); first | ((with_reducible apply v_nil)) | ((with_reducible apply v_q); exact rfl; exact rfl; exact rfl)) | ((with_reducible apply rd_id); first | (apply Rd.old; exact m0; exact List.not_mem_nil) | (apply Rd.old; exact m1; exact List.not_mem_nil) | (apply Rd.old; exact m3; exact List.not_mem_nil)) | ((with_reducible apply t_id); first | ((with_reducible apply t_seq)) | (apply t_region; kernel_rfl) | (apply t_drawn; kernel_rfl; decide +kernel) | ((with_reducible apply t_ret))) | with_reducible apply q_thenN | ((with_reducible apply end_ret)) | exact rvs_nil | ((with_reducible apply rvs_cons)) | ((with_reducible apply rv_tmp); exact rfl))
  all_goals rfl


theorem wh2_calls (bt bl bp b1 b6 : Nat) (cur : List Lv) (low p q : Int) (j : Nat) (w : World) (hlow : -100000 ≤ low ∧ low ≤ 100000) (hj : j ≤ 100000) (m0 : w.cell? ⟨bt, 0, none⟩ = some (.func (.func 130) #[] #[.pointer (some ⟨b1, 0, none⟩), .pointer (some ⟨b6, 0, none⟩)])) (m1 : w.cell? ⟨bl, 0, none⟩ = some (.int .i64 low))
    (m2 : w.cell? ⟨bp, 0, none⟩ = some (.int .i64 p)) (m3 : w.cell? ⟨bp, 1, none⟩ = some (.int .i64 q))
    (HT : ∀ w1, Ext w w1 → Calls Try.prog 130 #[.int .i64 (low + (j : Int)), .pointer (some ⟨b1, 0, none⟩), .pointer (some ⟨b6, 0, none⟩)] w1 fun e w' => e = .returned (.agg #[.int .i64 (prV cur (low + (j : Int))).1, .int .i64 (prV cur (low + (j : Int))).2]) ∧ Ext w1 w') :
    Calls Try.prog 109 #[.int .i64 (j : Int), .pointer (some ⟨bt, 0, none⟩), .pointer (some ⟨bl, 0, none⟩), .pointer (some ⟨bp, 0, none⟩)] w fun e w' => e = .returned (.bool (decide ((prV cur (low + (j : Int))).2 < p))) ∧ Ext w w' := by
  refine enterQ (c := cx w 15) Try.func109 rfl rfl rfl rfl ?_
  repeat' (first | ((with_reducible apply oq_id); first | (apply oq_fn; exact rfl; first | exact trivial | (refine ⟨?_, ?_⟩ <;> omega) | (refine ⟨?_, ?_, ?_⟩ <;> omega) | omega | skip) | ((with_reducible apply oq_load); exact rfl; exact rfl) | ((with_reducible apply oq_call (k := 130) (hc := Try.call130)); exact rfl; exact rfl; exact fun D w1 hw1 => HT w1 hw1.ext.ext)) | ((with_reducible apply tl_id); first | ((with_reducible apply tl_nil)) | ((with_reducible apply u_q); exact rfl; exact rfl; exact rfl; exact rfl)) | ((with_reducible apply gx_id); first | ((with_reducible apply v_nil)) | ((with_reducible apply v_q); exact rfl; exact rfl; exact rfl)) | ((with_reducible apply rd_id); first | (apply Rd.old; exact m0; exact List.not_mem_nil) | (apply Rd.old; exact m1; exact List.not_mem_nil) | (apply Rd.old; exact m2; exact List.not_mem_nil)) | ((with_reducible apply t_id); first | ((with_reducible apply t_seq)) | (apply t_region; kernel_rfl) | (apply t_drawn; kernel_rfl; decide +kernel) | ((with_reducible apply t_ret))) | with_reducible apply q_thenN | ((with_reducible apply end_ret)) | exact rvs_nil | ((with_reducible apply rvs_cons)) | ((with_reducible apply rv_tmp); exact rfl))
  all_goals rfl


theorem srch1 {w0 : World} {M : Ms} {H H1 H2 H3 H4 H5 H6 H7 H8 : Hp} {w1 : World} {b1 b6 bk g cap gk ck bt bl bp N : Nat} {l : List Lv} {p q : Int} {x0 xn : Lv} (hs : Snd l) (hx0 : l[0]? = some x0) (hxn : l[l.length - 1]? = some xn) (hN : (N : Int) = xn.h - x0.h + 1) (r : Nat) (hr : r ≤ N)
    (f1 : ∀ j, j < r → decide ((prV (setl l) (x0.h + (j : Int))).1 ≤ q) = false) (f2 : ∀ j, r ≤ j → j < N → decide ((prV (setl l) (x0.h + (j : Int))).1 ≤ q) = true)
    (hw : Has w0 M H w1) (p1 : Pick H b1 [.slice (some ⟨g, 0, none⟩) l.length cap] (some (42, 1, 1)) H1) (p2 : Pick H b6 [.func (.func 133) #[] #[.pointer (some ⟨bk, 0, none⟩)]] (some (88, 1, 1)) H2) (p3 : Pick H bk [.slice (some ⟨gk, 0, none⟩) l.length ck] (some (164, 1, 1)) H3)
    (p4 : Pick H gk ((tabOf l).map knCells).flatten (some (166, 3, ck)) H4) (p5 : Pick H g ((setl l).map lvCells).flatten (some (76, 5, cap)) H5) (p6 : Pick H bt [.func (.func 130) #[] #[.pointer (some ⟨b1, 0, none⟩), .pointer (some ⟨b6, 0, none⟩)]] (some (144, 1, 1)) H6) (p7 : Pick H bl [.int .i64 x0.h] (some (3, 1, 1)) H7)
    (p8 : Pick H bp [.int .i64 p, .int .i64 q] (some (26, 2, 1)) H8) :
    Calls Try.prog 81 #[.int .i64 (N : Int), .func (.func 108) #[] ⟨[.pointer (some ⟨bt, 0, none⟩), .pointer (some ⟨bl, 0, none⟩), .pointer (some ⟨bp, 0, none⟩)]⟩] w1 fun e w' => e = .returned (.int .i64 (r : Int)) ∧ Ext w1 w' := by
  have k0 := hs.ok _ (List.mem_of_getElem? hx0)
  have kn := hs.ok _ (List.mem_of_getElem? hxn)
  refine search_calls 108 _ N r (fun j => decide ((prV (setl l) (x0.h + (j : Int))).1 ≤ q)) (by omega) hr f1 f2 w1 Try.call108 (fun j hj w2 hx => ?_)
  refine wh1_calls bt bl bp b1 b6 (setl l) x0.h p q j w2 (by omega) (by omega) (hx.cell (hw.cellAt p6 rfl)) (hx.cell (hw.cellAt p7 rfl)) (hx.cell (hw.cellAt p8 rfl)) (hx.cell (hw.cellAt p8 rfl)) (fun w3 h3 => ?_)
  have hx3 := hx.trans h3
  exact tell_calls b1 b6 bk g cap gk ck l.length l (setl l) _ w3 hs rfl (okL_of hs hs.settles.2.2 (Tt.refl _)) ((lv_rows (setl_len l) hw p5).ext hx3) (hx3.cell (hw.cellAt p1 rfl)) (hx3.cell (hw.cellAt p2 rfl)) (hx3.cell (hw.cellAt p3 rfl))
    (((hw.blk _ p4.mem).2.rows (k := 3) (by simp [tabOf]) (by simp only [List.mem_map]; rintro r ⟨z, _, rfl⟩; rfl)).ext hx3) (fun a ha => by rw [hx0] at ha; rw [← Option.some.inj ha]; omega) (fun a ha => by rw [hxn] at ha; rw [← Option.some.inj ha]; omega)

theorem srch2 {w0 : World} {M : Ms} {H H1 H2 H3 H4 H5 H6 H7 H8 : Hp} {w1 : World} {b1 b6 bk g cap gk ck bt bl bp N : Nat} {l : List Lv} {p q : Int} {x0 xn : Lv} (hs : Snd l) (hx0 : l[0]? = some x0) (hxn : l[l.length - 1]? = some xn) (hN : (N : Int) = xn.h - x0.h + 1) (r : Nat) (hr : r ≤ N)
    (f1 : ∀ j, j < r → decide ((prV (setl l) (x0.h + (j : Int))).2 < p) = false) (f2 : ∀ j, r ≤ j → j < N → decide ((prV (setl l) (x0.h + (j : Int))).2 < p) = true)
    (hw : Has w0 M H w1) (p1 : Pick H b1 [.slice (some ⟨g, 0, none⟩) l.length cap] (some (42, 1, 1)) H1) (p2 : Pick H b6 [.func (.func 133) #[] #[.pointer (some ⟨bk, 0, none⟩)]] (some (88, 1, 1)) H2) (p3 : Pick H bk [.slice (some ⟨gk, 0, none⟩) l.length ck] (some (164, 1, 1)) H3)
    (p4 : Pick H gk ((tabOf l).map knCells).flatten (some (166, 3, ck)) H4) (p5 : Pick H g ((setl l).map lvCells).flatten (some (76, 5, cap)) H5) (p6 : Pick H bt [.func (.func 130) #[] #[.pointer (some ⟨b1, 0, none⟩), .pointer (some ⟨b6, 0, none⟩)]] (some (144, 1, 1)) H6) (p7 : Pick H bl [.int .i64 x0.h] (some (3, 1, 1)) H7)
    (p8 : Pick H bp [.int .i64 p, .int .i64 q] (some (26, 2, 1)) H8) :
    Calls Try.prog 81 #[.int .i64 (N : Int), .func (.func 109) #[] ⟨[.pointer (some ⟨bt, 0, none⟩), .pointer (some ⟨bl, 0, none⟩), .pointer (some ⟨bp, 0, none⟩)]⟩] w1 fun e w' => e = .returned (.int .i64 (r : Int)) ∧ Ext w1 w' := by
  have k0 := hs.ok _ (List.mem_of_getElem? hx0)
  have kn := hs.ok _ (List.mem_of_getElem? hxn)
  refine search_calls 109 _ N r (fun j => decide ((prV (setl l) (x0.h + (j : Int))).2 < p)) (by omega) hr f1 f2 w1 Try.call109 (fun j hj w2 hx => ?_)
  refine wh2_calls bt bl bp b1 b6 (setl l) x0.h p q j w2 (by omega) (by omega) (hx.cell (hw.cellAt p6 rfl)) (hx.cell (hw.cellAt p7 rfl)) (hx.cell (hw.cellAt p8 rfl)) (hx.cell (hw.cellAt p8 rfl)) (fun w3 h3 => ?_)
  have hx3 := hx.trans h3
  exact tell_calls b1 b6 bk g cap gk ck l.length l (setl l) _ w3 hs rfl (okL_of hs hs.settles.2.2 (Tt.refl _)) ((lv_rows (setl_len l) hw p5).ext hx3) (hx3.cell (hw.cellAt p1 rfl)) (hx3.cell (hw.cellAt p2 rfl)) (hx3.cell (hw.cellAt p3 rfl))
    (((hw.blk _ p4.mem).2.rows (k := 3) (by simp [tabOf]) (by simp only [List.mem_map]; rintro r ⟨z, _, rfl⟩; rfl)).ext hx3) (fun a ha => by rw [hx0] at ha; rw [← Option.some.inj ha]; omega) (fun a ha => by rw [hxn] at ha; rw [← Option.some.inj ha]; omega)


theorem where_calls (A : Option Addr) (n c : Nat) (l : List Lv) (p q : Int) (w : World) (hr : RdS w 5 A n (l.map lvCells)) (hn : n ≤ 1000000) :
    Calls Try.prog 42 #[.slice A n c, .agg #[.int .i64 p, .int .i64 q]] w fun e w' => e = .returned (.tuple #[.agg #[.int .i64 (whS l p q).1, .int .i64 (whS l p q).2.1], .int .i64 (whS l p q).2.2]) ∧ Ext w w' := by
  have hl := hr.len
  simp only [List.length_map] at hl
  subst hl
  have HC := fun w1 (hx : Ext w w1) => checkAir_calls A l.length c l w1 (hr.ext hx) hn
  have HF := fun w1 => check_calls p q w1
  unfold whS
  cases hsb : soundB l with
  | false =>
    rw [hsb] at HC
    simp only [Bool.false_eq_true, if_false] at HC ⊢
    refine enterQ (c := cx w 70) Try.func42 rfl rfl rfl rfl ?_
    repeat' (first | ((with_reducible apply oq_id); first | (apply oq_fn; exact rfl; first | exact trivial | (refine ⟨?_, ?_⟩ <;> omega) | (refine ⟨?_, ?_, ?_⟩ <;> omega) | omega | skip) | ((with_reducible apply oq_call (k := 38) (hc := Try.call38)); exact rfl; exact rfl; exact fun D w1 hw1 => HC w1 hw1.ext.ext) | ((with_reducible apply oq_build); exact rfl; exact rfl; exact rfl)) | ((with_reducible apply tl_id); first | ((with_reducible apply tl_nil)) | ((with_reducible apply u_q); exact rfl; exact rfl; exact rfl; exact rfl) | ((with_reducible apply u_s0); exact rfl; exact rfl) | ((with_reducible apply u_s); exact rfl; exact rfl; exact rfl)) | ((with_reducible apply os_id); first | ((with_reducible apply os_x); exact rfl) | ((with_reducible apply os_storeAgg); exact rfl; exact rfl; exact rfl; exact rfl; exact rfl)) | ((with_reducible apply ox_id); first | ((with_reducible apply ox_alloc); exact rfl; intro _) | ((with_reducible apply ox_boxAgg); exact rfl; intro _)) | ((with_reducible apply rd_id); first | (apply Rd.own; (repeat (first | exact P0 | apply P1)); exact rfl; done)) | ((with_reducible apply t_id); first | ((with_reducible apply t_seq)) | (apply t_region; kernel_rfl) | ((with_reducible apply t_condT); exact rfl) | ((with_reducible apply t_ret))) | with_reducible apply q_thenN | with_reducible apply q_thenR | exact P0 | exact Rdn.zero | apply Rdn.succ | ((with_reducible apply Norm.nil); exact rfl) | ((with_reducible apply Norm.cons); exact rfl) | ((with_reducible apply end_ret)) | exact rvs_nil | ((with_reducible apply rvs_cons)) | ((with_reducible apply rv_tmp); exact rfl) | ((with_reducible apply rv_cellAgg); exact rfl; exact rfl) | exact Nat.le_of_ble_eq_true rfl)
    all_goals rfl
  | true =>
  rw [hsb] at HC
  simp only [if_true] at HC ⊢
  have hs := (soundB_iff l).1 hsb
  have n2 := hs.n2
  have n16 := hs.n16
  cases hfn : fineS (p, q) with
  | false =>
    rw [hfn] at HF
    simp only [Bool.false_eq_true, if_false] at HF ⊢
    refine enterQ (c := cx w 70) Try.func42 rfl rfl rfl rfl ?_
    repeat' (first | ((with_reducible apply oq_id); first | (apply oq_fn; exact rfl; first | exact trivial | (refine ⟨?_, ?_⟩ <;> omega) | (refine ⟨?_, ?_, ?_⟩ <;> omega) | omega | skip) | ((with_reducible apply oq_loadAgg); exact rfl; exact rfl) | ((with_reducible apply oq_call (k := 38) (hc := Try.call38)); exact rfl; exact rfl; exact fun D w1 hw1 => HC w1 hw1.ext.ext) | ((with_reducible apply oq_call (k := 55) (hc := Try.call55)); exact rfl; exact rfl; exact fun D w1 hw1 => HF w1) | ((with_reducible apply oq_build); exact rfl; exact rfl; exact rfl)) | ((with_reducible apply tl_id); first | ((with_reducible apply tl_nil)) | ((with_reducible apply u_q); exact rfl; exact rfl; exact rfl; exact rfl) | ((with_reducible apply u_s0); exact rfl; exact rfl) | ((with_reducible apply u_s); exact rfl; exact rfl; exact rfl)) | ((with_reducible apply os_id); first | ((with_reducible apply os_x); exact rfl) | ((with_reducible apply os_storeAgg); exact rfl; exact rfl; exact rfl; exact rfl; exact rfl)) | ((with_reducible apply ox_id); first | ((with_reducible apply ox_alloc); exact rfl; intro _) | ((with_reducible apply ox_boxAgg); exact rfl; intro _)) | ((with_reducible apply rd_id); first | (apply Rd.own; (repeat (first | exact P0 | apply P1)); exact rfl; done)) | ((with_reducible apply t_id); first | ((with_reducible apply t_seq)) | (apply t_region; kernel_rfl) | ((with_reducible apply t_condT); exact rfl) | ((with_reducible apply t_condF); exact rfl) | ((with_reducible apply t_ret)) | ((with_reducible apply t_skip))) | with_reducible apply q_thenN | with_reducible apply q_thenR | exact P0 | exact Rdn.zero | apply Rdn.succ | ((with_reducible apply Norm.nil); exact rfl) | ((with_reducible apply Norm.cons); exact rfl) | ((with_reducible apply end_ret)) | exact rvs_nil | ((with_reducible apply rvs_cons)) | ((with_reducible apply rv_tmp); exact rfl) | ((with_reducible apply rv_cellAgg); exact rfl; exact rfl) | exact Nat.le_of_ble_eq_true rfl)
    all_goals rfl
  | true =>
  rw [hfn] at HF
  simp only [if_true] at HF ⊢
  have hpq : p ≤ q := ((fineS_iff (p, q)).1 hfn).1
  cases hu : unfit l with
  | true =>
    simp only [if_true]
    refine enterQ (c := cx w 70) Try.func42 rfl rfl rfl rfl ?_
    repeat' (first | ((with_reducible apply oq_id); first | (apply oq_fn; exact rfl; first | exact trivial | (refine ⟨?_, ?_⟩ <;> omega) | (refine ⟨?_, ?_, ?_⟩ <;> omega) | omega | skip) | ((with_reducible apply oq_loadAgg); exact rfl; exact rfl) | ((with_reducible apply oq_call (k := 38) (hc := Try.call38)); exact rfl; exact rfl; exact fun D w1 hw1 => HC w1 hw1.ext.ext) | ((with_reducible apply oq_call (k := 55) (hc := Try.call55)); exact rfl; exact rfl; exact fun D w1 hw1 => HF w1) | ((with_reducible apply oq_build); exact rfl; exact rfl; exact rfl)) | ((with_reducible apply tl_id); first | ((with_reducible apply tl_nil)) | ((with_reducible apply u_s); exact rfl; exact rfl; exact rfl; (with_reducible apply os_callF (PV := BarBad) (k := 92) (hc := Try.call92)); exact rfl; exact rfl; exact fun D w1 hw1 => bar_bad _ _ l w1 (hr.ext hw1.ext.ext) hsb hu; rintro v H' ⟨rfl, rfl⟩; simp only [List.cons_append, List.nil_append]) | ((with_reducible apply u_q); exact rfl; exact rfl; exact rfl; exact rfl) | ((with_reducible apply u_s0); exact rfl; exact rfl) | ((with_reducible apply u_s); exact rfl; exact rfl; exact rfl)) | ((with_reducible apply os_id); first | ((with_reducible apply os_x); exact rfl) | ((with_reducible apply os_store); exact rfl; exact rfl; exact rfl; exact rfl) | ((with_reducible apply os_storeAgg); exact rfl; exact rfl; exact rfl; exact rfl; exact rfl)) | ((with_reducible apply ox_id); first | ((with_reducible apply ox_alloc); exact rfl; intro _) | ((with_reducible apply ox_boxAgg); exact rfl; intro _)) | ((with_reducible apply rd_id); first | (apply Rd.own; (repeat (first | exact P0 | apply P1)); exact rfl; done)) | ((with_reducible apply t_id); first | ((with_reducible apply t_seq)) | (apply t_region; kernel_rfl) | ((with_reducible apply t_condT); exact rfl) | ((with_reducible apply t_condF); exact rfl) | ((with_reducible apply t_ret)) | ((with_reducible apply t_skip))) | with_reducible apply q_thenN | with_reducible apply q_thenR | exact P0 | ((with_reducible apply P1)) | exact Rdn.zero | apply Rdn.succ | ((with_reducible apply Norm.nil); exact rfl) | ((with_reducible apply Norm.cons); exact rfl) | ((with_reducible apply end_ret)) | exact rvs_nil | ((with_reducible apply rvs_cons)) | ((with_reducible apply rv_tmp); exact rfl) | ((with_reducible apply rv_cellAgg); exact rfl; exact rfl) | exact Nat.le_of_ble_eq_true rfl)
    all_goals rfl
  | false =>
    simp only [Bool.false_eq_true, if_false]
    obtain ⟨b0, o0, x0, rfl, _, hx0, c0, c1, c2, c3, c4⟩ := lv_read hr (show 0 < l.length by omega)
    obtain ⟨bn, on, xn, hA, _, hxn, d0, d1, d2, d3, d4⟩ := lv_read hr (show l.length - 1 < l.length by omega)
    obtain ⟨rfl, rfl⟩ : b0 = bn ∧ o0 = on := by simpa using hA
    have e0 : lvFst l = x0.h := by unfold lvFst; rw [hx0]
    have en : lvLst l = xn.h := by unfold lvLst; rw [hxn]
    have k0 := hs.ok _ (List.mem_of_getElem? hx0)
    have kn := hs.ok _ (List.mem_of_getElem? hxn)
    have hmn := hs.mono hx0 hxn (by omega)
    obtain ⟨N, hN⟩ : ∃ N : Nat, (N : Int) = xn.h - x0.h + 1 := ⟨(xn.h - x0.h + 1).toNat, by omega⟩
    have st := hs.stl
    have sl2 := setl_len l
    have y0 : (setl l)[0]? = some (setl l)[0] := List.getElem?_eq_getElem (by omega)
    have yn : (setl l)[(setl l).length - 1]? = some (setl l)[(setl l).length - 1] := List.getElem?_eq_getElem (by omega)
    have f0 := (hs.settles.2.2.get y0 hx0).1
    have fn := (hs.settles.2.2.get yn (by rw [sl2]; exact hxn)).1
    have mono : ∀ i j : Nat, i ≤ j → j < N → (prV (setl l) (x0.h + (j : Int))).1 ≤ (prV (setl l) (x0.h + (i : Int))).1 ∧ (prV (setl l) (x0.h + (j : Int))).2 ≤ (prV (setl l) (x0.h + (i : Int))).2 := fun i j hij hj =>
      prV_mono st (by omega) y0 yn (by omega) (by omega) (by omega)
    obtain ⟨rn, hr1, f1, f2⟩ := mono_cut (p := fun j => decide ((prV (setl l) (x0.h + (j : Int))).1 ≤ q)) N (fun i j hij hj => by simp only [decide_eq_true_eq]; have := mono i j hij hj; omega)
    obtain ⟨rm, hr2, f3, f4⟩ := mono_cut (p := fun j => decide ((prV (setl l) (x0.h + (j : Int))).2 < p)) N (fun i j hij hj => by simp only [decide_eq_true_eq]; have := mono i j hij hj; omega)
    have g1 : ∀ h, lvFst l ≤ h → h ≤ lvLst l → (wP l p q h ↔ (rn : Int) ≤ h - x0.h ∧ h - x0.h < (rm : Int)) := fun h h1 h2 => by
      obtain ⟨j, hj⟩ : ∃ j : Nat, (j : Int) = h - x0.h := ⟨(h - x0.h).toNat, by omega⟩
      have ej : x0.h + (j : Int) = h := by omega
      have hjN : j < N := by omega
      unfold wP
      constructor
      · rintro ⟨a1, a2⟩
        constructor
        · rcases Nat.lt_or_ge j rn with k | k
          · have := f1 j k
            simp only [ej, decide_eq_false_iff_not] at this
            exact absurd a1 this
          · omega
        · rcases Nat.lt_or_ge j rm with k | k
          · omega
          · have := f4 j k hjN
            simp only [ej, decide_eq_true_eq] at this
            omega
      · rintro ⟨a1, a2⟩
        have b1 := f2 j (by omega) hjN
        have b2 := f3 j (by omega)
        simp only [ej, decide_eq_true_eq, decide_eq_false_iff_not] at b1 b2
        exact ⟨b1, by omega⟩
    by_cases hnm : rm ≤ rn
    · have hv : whV l p q = (0, 0, 6) := IsWh.val (.inl ⟨rfl, fun h h1 h2 h3 => by have := (g1 h h1 h2).1 h3; omega⟩)
      rw [hv]
      refine enterQ (c := cx w 70) Try.func42 rfl rfl rfl rfl ?_
      repeat' (first | ((with_reducible apply oq_id); first | ((with_reducible apply oq_subE (k := ((l.length - 1 : Nat) : Int))); exact rfl; exact rfl; omega) | (focus ((with_reducible apply oq_indexAddrN); exact rfl; exact rfl; exact rfl; exact rfl; omega)) | ((with_reducible apply oq_addE (k := ((N : Nat) : Int))); exact rfl; exact rfl; omega) | (apply oq_fn; exact rfl; first | exact trivial | (refine ⟨?_, ?_⟩ <;> omega) | (refine ⟨?_, ?_, ?_⟩ <;> omega) | omega | skip) | ((with_reducible apply oq_load); exact rfl; exact rfl) | ((with_reducible apply oq_loadAgg); exact rfl; exact rfl) | ((with_reducible apply oq_call (k := 38) (hc := Try.call38)); exact rfl; exact rfl; exact fun D w1 hw1 => HC w1 hw1.ext.ext) | ((with_reducible apply oq_call (k := 55) (hc := Try.call55)); exact rfl; exact rfl; exact fun D w1 hw1 => HF w1) | ((with_reducible apply oq_call (k := 81) (hc := Try.call81)); exact rfl; exact rfl; exact fun D w1 hw1 => srch1 hs hx0 hxn hN rn hr1 f1 f2 hw1 (by (repeat (first | exact P0 | apply P1))) (by (repeat (first | exact P0 | apply P1))) (by (repeat (first | exact P0 | apply P1))) (by (repeat (first | exact P0 | apply P1))) (by (repeat (first | exact P0 | apply P1))) (by (repeat (first | exact P0 | apply P1))) (by (repeat (first | exact P0 | apply P1))) (by (repeat (first | exact P0 | apply P1)))) | ((with_reducible apply oq_call (k := 81) (hc := Try.call81)); exact rfl; exact rfl; exact fun D w1 hw1 => srch2 hs hx0 hxn hN rm hr2 f3 f4 hw1 (by (repeat (first | exact P0 | apply P1))) (by (repeat (first | exact P0 | apply P1))) (by (repeat (first | exact P0 | apply P1))) (by (repeat (first | exact P0 | apply P1))) (by (repeat (first | exact P0 | apply P1))) (by (repeat (first | exact P0 | apply P1))) (by (repeat (first | exact P0 | apply P1))) (by (repeat (first | exact P0 | apply P1)))) | ((with_reducible apply oq_build); exact rfl; exact rfl; exact rfl)) | ((with_reducible apply tl_id); first | ((with_reducible apply tl_nil)) | ((with_reducible apply u_s); exact rfl; exact rfl; exact rfl; (with_reducible apply os_callF (PV := BarV l) (k := 92) (hc := Try.call92)); exact rfl; exact rfl; exact fun D w1 hw1 => bar_ok _ _ l w1 (hr.ext hw1.ext.ext) hsb hu; rintro v H' ⟨b1, b6, bk, g, cap, gk, ck, rfl, rfl⟩; simp only [List.cons_append, List.nil_append]) | ((with_reducible apply u_q); exact rfl; exact rfl; exact rfl; exact rfl) | ((with_reducible apply u_s0); exact rfl; exact rfl) | ((with_reducible apply u_s); exact rfl; exact rfl; exact rfl)) | ((with_reducible apply gx_id); first | ((with_reducible apply v_nil)) | ((with_reducible apply v_q); exact rfl; exact rfl; exact rfl)) | ((with_reducible apply os_id); first | ((with_reducible apply os_x); exact rfl) | ((with_reducible apply os_store); exact rfl; exact rfl; exact rfl; exact rfl) | ((with_reducible apply os_storeAgg); exact rfl; exact rfl; exact rfl; exact rfl; exact rfl)) | ((with_reducible apply ox_id); first | ((with_reducible apply ox_alloc); exact rfl; intro _) | ((with_reducible apply ox_boxAgg); exact rfl; intro _)) | ((with_reducible apply ai_id); first | ((with_reducible apply ai_q); exact rfl; exact rfl; exact rfl; exact rfl; exact rfl) | ((with_reducible apply ai_x); exact rfl; exact rfl; exact rfl; exact rfl; exact rfl) | ((with_reducible apply ai_n0); exact rfl; exact rfl; exact rfl)) | ((with_reducible apply al_keep); focus (repeat (first | exact HpSub.refl _ | (apply HpSub.cons; (repeat (first | exact P0 | apply P1))) | exact HpSub.nil))) | ((with_reducible apply rd_id); first | (apply Rd.own; (repeat (first | exact P0 | apply P1)); exact rfl; done) | (apply Rd.old; (first | (with_reducible assumption) | exact c0 | exact c1 | exact c2 | exact c3 | exact c4 | exact d0 | exact d1 | exact d2 | exact d3 | exact d4); first | exact List.not_mem_nil)) | ((with_reducible apply t_id); first | ((with_reducible apply t_seq)) | (apply t_region; kernel_rfl) | ((with_reducible apply t_condF); exact rfl) | ((with_reducible apply t_condD); exact rfl; all_goals first | (intro hp; try (exfalso; omega)) | skip) | ((with_reducible apply t_ret)) | ((with_reducible apply t_skip))) | with_reducible apply q_thenN | with_reducible apply q_thenR | exact P0 | ((with_reducible apply P1)) | exact Rdn.zero | apply Rdn.succ | ((with_reducible apply Norm.nil); exact rfl) | ((with_reducible apply Norm.cons); exact rfl) | ((with_reducible apply end_ret)) | exact rvs_nil | ((with_reducible apply rvs_cons)) | ((with_reducible apply rv_tmp); exact rfl) | ((with_reducible apply rv_cellAgg); exact rfl; exact rfl) | (apply t_mix (id := 10) [0, 1, 2, 3, 4, 5, 6, 7, 8, 9, 10] 3 #[false, false, false, false, false, false, false, false, false, false, false, false, false, false]; kernel_rfl; kernel_rfl; exact rfl) | ((with_reducible apply al_id); first | (apply al_done; decide +kernel) | (apply al_one 11; decide +kernel) | (apply al_one 12; decide +kernel) | (apply al_one 13; decide +kernel)) | exact Nat.le_of_ble_eq_true rfl)
      all_goals rfl
    · have hv : whV l p q = (x0.h + rn, x0.h + rm - 1, 0) := IsWh.val (.inr ⟨rfl, by simp only; omega, by simp only; omega, by simp only; omega, (g1 _ (by simp only; omega) (by simp only; omega)).2 (by simp only; omega), (g1 _ (by simp only; omega) (by simp only; omega)).2 (by simp only; omega), fun h h1 h2 h3 => by have := (g1 h h1 h2).1 h3; simp only; omega⟩)
      rw [hv]
      refine enterQ (c := cx w 70) Try.func42 rfl rfl rfl rfl ?_
      repeat' (first | ((with_reducible apply oq_id); first | ((with_reducible apply oq_subE (k := ((l.length - 1 : Nat) : Int))); exact rfl; exact rfl; omega) | (focus ((with_reducible apply oq_indexAddrN); exact rfl; exact rfl; exact rfl; exact rfl; omega)) | ((with_reducible apply oq_addE (k := ((N : Nat) : Int))); exact rfl; exact rfl; omega) | (apply oq_fn; exact rfl; first | exact trivial | (refine ⟨?_, ?_⟩ <;> omega) | (refine ⟨?_, ?_, ?_⟩ <;> omega) | omega | skip) | ((with_reducible apply oq_load); exact rfl; exact rfl) | ((with_reducible apply oq_loadAgg); exact rfl; exact rfl) | ((with_reducible apply oq_call (k := 38) (hc := Try.call38)); exact rfl; exact rfl; exact fun D w1 hw1 => HC w1 hw1.ext.ext) | ((with_reducible apply oq_call (k := 55) (hc := Try.call55)); exact rfl; exact rfl; exact fun D w1 hw1 => HF w1) | ((with_reducible apply oq_call (k := 81) (hc := Try.call81)); exact rfl; exact rfl; exact fun D w1 hw1 => srch1 hs hx0 hxn hN rn hr1 f1 f2 hw1 (by (repeat (first | exact P0 | apply P1))) (by (repeat (first | exact P0 | apply P1))) (by (repeat (first | exact P0 | apply P1))) (by (repeat (first | exact P0 | apply P1))) (by (repeat (first | exact P0 | apply P1))) (by (repeat (first | exact P0 | apply P1))) (by (repeat (first | exact P0 | apply P1))) (by (repeat (first | exact P0 | apply P1)))) | ((with_reducible apply oq_call (k := 81) (hc := Try.call81)); exact rfl; exact rfl; exact fun D w1 hw1 => srch2 hs hx0 hxn hN rm hr2 f3 f4 hw1 (by (repeat (first | exact P0 | apply P1))) (by (repeat (first | exact P0 | apply P1))) (by (repeat (first | exact P0 | apply P1))) (by (repeat (first | exact P0 | apply P1))) (by (repeat (first | exact P0 | apply P1))) (by (repeat (first | exact P0 | apply P1))) (by (repeat (first | exact P0 | apply P1))) (by (repeat (first | exact P0 | apply P1)))) | ((with_reducible apply oq_build); exact rfl; exact rfl; exact rfl)) | ((with_reducible apply tl_id); first | ((with_reducible apply tl_nil)) | ((with_reducible apply u_s); exact rfl; exact rfl; exact rfl; (with_reducible apply os_callF (PV := BarV l) (k := 92) (hc := Try.call92)); exact rfl; exact rfl; exact fun D w1 hw1 => bar_ok _ _ l w1 (hr.ext hw1.ext.ext) hsb hu; rintro v H' ⟨b1, b6, bk, g, cap, gk, ck, rfl, rfl⟩; simp only [List.cons_append, List.nil_append]) | ((with_reducible apply u_q); exact rfl; exact rfl; exact rfl; exact rfl) | ((with_reducible apply u_s0); exact rfl; exact rfl) | ((with_reducible apply u_s); exact rfl; exact rfl; exact rfl)) | ((with_reducible apply gx_id); first | ((with_reducible apply v_nil)) | ((with_reducible apply v_q); exact rfl; exact rfl; exact rfl)) | ((with_reducible apply os_id); first | ((with_reducible apply os_x); exact rfl) | ((with_reducible apply os_store); exact rfl; exact rfl; exact rfl; exact rfl) | ((with_reducible apply os_storeAgg); exact rfl; exact rfl; exact rfl; exact rfl; exact rfl)) | ((with_reducible apply ox_id); first | ((with_reducible apply ox_alloc); exact rfl; intro _) | ((with_reducible apply ox_boxAgg); exact rfl; intro _)) | ((with_reducible apply ai_id); first | ((with_reducible apply ai_q); exact rfl; exact rfl; exact rfl; exact rfl; exact rfl) | ((with_reducible apply ai_x); exact rfl; exact rfl; exact rfl; exact rfl; exact rfl) | ((with_reducible apply ai_n0); exact rfl; exact rfl; exact rfl)) | ((with_reducible apply al_keep); focus (repeat (first | exact HpSub.refl _ | (apply HpSub.cons; (repeat (first | exact P0 | apply P1))) | exact HpSub.nil))) | ((with_reducible apply rd_id); first | (apply Rd.own; (repeat (first | exact P0 | apply P1)); exact rfl; done) | (apply Rd.old; (first | (with_reducible assumption) | exact c0 | exact c1 | exact c2 | exact c3 | exact c4 | exact d0 | exact d1 | exact d2 | exact d3 | exact d4); first | exact List.not_mem_nil)) | ((with_reducible apply t_id); first | ((with_reducible apply t_seq)) | (apply t_region; kernel_rfl) | ((with_reducible apply t_condF); exact rfl) | ((with_reducible apply t_condD); exact rfl; all_goals first | (intro hp; try (exfalso; omega)) | skip) | ((with_reducible apply t_ret)) | ((with_reducible apply t_skip))) | with_reducible apply q_thenN | exact P0 | ((with_reducible apply P1)) | exact Rdn.zero | apply Rdn.succ | ((with_reducible apply Norm.nil); exact rfl) | ((with_reducible apply Norm.cons); exact rfl) | ((with_reducible apply end_ret)) | exact rvs_nil | ((with_reducible apply rvs_cons)) | ((with_reducible apply rv_tmp); exact rfl) | ((with_reducible apply rv_cellAgg); exact rfl; exact rfl) | (apply t_mix (id := 10) [0, 1, 2, 3, 4, 5, 6, 7, 8, 9, 10] 3 #[false, false, false, false, false, false, false, false, false, false, false, false, false, false]; kernel_rfl; kernel_rfl; exact rfl) | ((with_reducible apply al_id); first | (apply al_done; decide +kernel) | (apply al_one 11; decide +kernel) | (apply al_one 12; decide +kernel) | (apply al_one 13; decide +kernel)) | exact Nat.le_of_ble_eq_true rfl)
      all_goals rfl

end Go.Proofs.Ytalidommelefaaa
