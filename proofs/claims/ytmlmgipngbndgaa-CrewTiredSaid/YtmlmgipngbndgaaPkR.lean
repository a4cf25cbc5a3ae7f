/- Rosters: valid; who is tired. -/
import Derived.Test.YtmlmgipngbndgaaPkQ
import Derived.Test.YtmlmgipngbndgaaPkD
import Derived.Test.YtmlmgipngbndgaaPkO
import Derived.Test.YtmlmgipngbndgaaPkC
/- Who is tired, told without an order: plain. -/
namespace Go.Proofs.Ytmlmgipngbndgaa
set_option linter.unusedVariables false
set_option linter.unusedSimpArgs false
theorem minS_nonneg (who fr to : Int) (y : Sh) : 0 ≤ minS who fr to y := by unfold minS; split <;> omega
theorem sum_nonneg {α : Type} {f : α → Int} : ∀ {l : List α}, (∀ x ∈ l, 0 ≤ f x) → 0 ≤ (l.map f).sum
  | [], _ => Int.le_refl _
  | a :: l, h => by
    rw [List.map_cons, List.sum_cons]
    have := h a List.mem_cons_self
    have := sum_nonneg fun x hx => h x (List.mem_cons_of_mem _ hx)
    omega
theorem sum_le {α : Type} {f g : α → Int} : ∀ {l : List α}, (∀ x ∈ l, f x ≤ g x) → (l.map f).sum ≤ (l.map g).sum
  | [], _ => Int.le_refl _
  | a :: l, h => by
    rw [List.map_cons, List.sum_cons, List.map_cons, List.sum_cons]
    have := h a List.mem_cons_self
    have := sum_le fun x hx => h x (List.mem_cons_of_mem _ hx)
    omega
theorem sum_perm {α : Type} (f : α → Int) {l m : List α} (h : l.Perm m) : (l.map f).sum = (m.map f).sum := by
  induction h with
  | nil => rfl
  | cons x _ ih => rw [List.map_cons, List.sum_cons, List.map_cons, List.sum_cons, ih]
  | swap x y l => simp only [List.map_cons, List.sum_cons]; omega
  | trans _ _ h1 h2 => rw [h1, h2]
theorem work_perm {l m : List Sh} (h : l.Perm m) (who fr to : Int) : workV l who fr to = workV m who fr to := sum_perm _ h
theorem work_nonneg (l : List Sh) (who fr to : Int) : 0 ≤ workV l who fr to := sum_nonneg fun y _ => minS_nonneg _ _ _ y
theorem work_app (l m : List Sh) (who fr to : Int) : workV (l ++ m) who fr to = workV l who fr to + workV m who fr to := by
  unfold workV; rw [List.map_append, List.sum_append]
theorem work_cons (y : Sh) (l : List Sh) (who fr to : Int) : workV (y :: l) who fr to = minS who fr to y + workV l who fr to := by
  unfold workV; rw [List.map_cons, List.sum_cons]
/-- A case, told without an order. -/
def Cas (d : Du) (l : List Sh) (y : Ti) : Prop := ∃ x ∈ l, y.who = x.who ∧ y.at_ = x.fr ∧
  ((y.kind = 1 ∧ x.to - x.fr > d.most) ∨ (y.kind = 2 ∧ ∃ p ∈ l, p.who = x.who ∧ p.to ≤ x.fr ∧ x.fr - p.to < d.rest) ∨ (y.kind = 3 ∧ workV l x.who x.fr (x.fr + d.win) > d.sum))
theorem Cas.perm {d : Du} {l m : List Sh} (h : l.Perm m) {y : Ti} (hc : Cas d l y) : Cas d m y := by
  obtain ⟨x, hx, h1, h2, h3⟩ := hc
  refine ⟨x, h.mem_iff.1 hx, h1, h2, ?_⟩
  rcases h3 with h3 | ⟨h3, p, hp, h4⟩ | ⟨h3, h4⟩
  · exact .inl h3
  · exact .inr (.inl ⟨h3, p, h.mem_iff.1 hp, h4⟩)
  · exact .inr (.inr ⟨h3, by rw [← work_perm h]; exact h4⟩)
theorem rest_iff {d : Du} {S : List Sh} (hs : Srt ltS S) (hf : Fit S) {i : Nat} {x : Sh} (hx : S[i]? = some x) : restB d S i x = true ↔ ∃ p ∈ S, p.who = x.who ∧ p.to ≤ x.fr ∧ x.fr - p.to < d.rest := by
  obtain ⟨hi, rfl⟩ := List.getElem?_eq_some_iff.1 hx
  constructor
  · intro h
    unfold restB at h
    simp only [Bool.and_eq_true, decide_eq_true_eq] at h
    obtain ⟨h0, h1⟩ := h
    have hp : S[i - 1]? = some S[i - 1] := List.getElem?_eq_getElem (by omega)
    rw [hp] at h1
    simp only [Bool.and_eq_true, decide_eq_true_eq] at h1
    exact ⟨S[i - 1], List.getElem_mem _, h1.1, (hf i _ hx).2 _ h0 hp h1.1, h1.2⟩
  · rintro ⟨p, hp, h1, h2, h3⟩
    obtain ⟨j, hj, rfl⟩ := List.getElem_of_mem hp
    have hpo := (hf j _ (List.getElem?_eq_getElem hj)).1
    unfold shOk at hpo
    have hxo := (hf i _ hx).1
    unfold shOk at hxo
    have hji : j < i := by
      refine Decidable.by_contra fun hc => ?_
      by_cases hij : i = j
      · subst hij; omega
      · have := ltS_no.1 (List.pairwise_iff_getElem.1 hs i j hi hj (by omega)); omega
    have hq : S[i - 1]? = some S[i - 1] := List.getElem?_eq_getElem (by omega)
    have hqo := (hf (i - 1) _ hq).1
    unfold shOk at hqo
    have s1 := ltS_no.1 (List.pairwise_iff_getElem.1 hs (i - 1) i (by omega) hi (by omega))
    have hqw : S[i - 1].who = S[i].who ∧ S[j].to ≤ S[i - 1].to := by
      by_cases hjq : j = i - 1
      · subst hjq; exact ⟨h1, Int.le_refl _⟩
      · have s2 := ltS_no.1 (List.pairwise_iff_getElem.1 hs j (i - 1) hj (by omega) (by omega))
        have hw : S[j].who = S[i - 1].who := by omega
        have := hf.before hs (show j < i - 1 by omega) (List.getElem?_eq_getElem hj) hq hw
        omega
    unfold restB
    rw [hq]
    simp only [Bool.and_eq_true, decide_eq_true_eq]
    omega
theorem mem_casV {d : Du} {S : List Sh} {i : Nat} {x : Sh} {y : Ti} : y ∈ casV d S i x ↔ y.who = x.who ∧ y.at_ = x.fr ∧ ((y.kind = 1 ∧ x.to - x.fr > d.most) ∨ (y.kind = 2 ∧ restB d S i x = true) ∨ (y.kind = 3 ∧ workV S x.who x.fr (x.fr + d.win) > d.sum)) := by
  obtain ⟨k, w, a⟩ := y
  unfold casV
  simp only [List.mem_append]
  have e : ∀ (p : Prop) [Decidable p] (u : Ti), (⟨k, w, a⟩ : Ti) ∈ (if p then [u] else []) ↔ (⟨k, w, a⟩ : Ti) = u ∧ p := fun p _ u => by
    by_cases h : p <;> simp [h]
  rw [e, e, e]
  simp only [Ti.mk.injEq]
  constructor
  · rintro (⟨⟨rfl, rfl, rfl⟩, h⟩ | ⟨⟨rfl, rfl, rfl⟩, h⟩ | ⟨⟨rfl, rfl, rfl⟩, h⟩)
    · exact ⟨rfl, rfl, .inl ⟨rfl, h⟩⟩
    · exact ⟨rfl, rfl, .inr (.inl ⟨rfl, h⟩)⟩
    · exact ⟨rfl, rfl, .inr (.inr ⟨rfl, h⟩)⟩
  · rintro ⟨rfl, rfl, ⟨rfl, h⟩ | ⟨rfl, h⟩ | ⟨rfl, h⟩⟩
    · exact .inl ⟨⟨rfl, rfl, rfl⟩, h⟩
    · exact .inr (.inl ⟨⟨rfl, rfl, rfl⟩, h⟩)
    · exact .inr (.inr ⟨⟨rfl, rfl, rfl⟩, h⟩)
theorem mem_tiTo {d : Du} {S : List Sh} {y : Ti} : ∀ {k : Nat}, y ∈ tiTo d S k ↔ ∃ i x, i < k ∧ S[i]? = some x ∧ y ∈ casV d S i x
  | 0 => by
    constructor
    · intro h; cases h
    · rintro ⟨i, x, h, _⟩; omega
  | k + 1 => by
    show y ∈ tiTo d S k ++ casAt d S k ↔ _
    rw [List.mem_append, mem_tiTo]
    unfold casAt
    constructor
    · rintro (⟨i, x, h1, h2, h3⟩ | h)
      · exact ⟨i, x, by omega, h2, h3⟩
      · cases hx : S[k]? with
        | none => rw [hx] at h; cases h
        | some x => rw [hx] at h; exact ⟨k, x, by omega, hx, h⟩
    · rintro ⟨i, x, h1, h2, h3⟩
      by_cases hik : i = k
      · subst hik; right; rw [h2]; exact h3
      · exact .inl ⟨i, x, by omega, h2, h3⟩
theorem mem_tiV {d : Du} {l : List Sh} (h : Ros l) {y : Ti} : y ∈ tiV d l ↔ Cas d l y := by
  have hs := srt_srt woS l
  have hp := srt_perm (lt := ltS) l
  have hf := (fitS_iff l).2 h
  unfold tiV
  rw [mem_tiTo]
  constructor
  · rintro ⟨i, x, h1, h2, h3⟩
    obtain ⟨e1, e2, e3⟩ := mem_casV.1 h3
    refine Cas.perm hp ⟨x, List.mem_of_getElem? h2, e1, e2, ?_⟩
    rcases e3 with e3 | ⟨e3, e4⟩ | e3
    · exact .inl e3
    · exact .inr (.inl ⟨e3, (rest_iff hs hf h2).1 e4⟩)
    · exact .inr (.inr e3)
  · intro hc
    obtain ⟨x, hx, e1, e2, e3⟩ := hc.perm hp.symm
    obtain ⟨i, hi, rfl⟩ := List.getElem_of_mem hx
    have hix : (srtS l)[i]? = some (srtS l)[i] := List.getElem?_eq_getElem hi
    refine ⟨i, _, by have := srt_len (lt := ltS) l; omega, hix, mem_casV.2 ⟨e1, e2, ?_⟩⟩
    rcases e3 with e3 | ⟨e3, e4⟩ | e3
    · exact .inl e3
    · exact .inr (.inl ⟨e3, (rest_iff hs hf hix).2 e4⟩)
    · exact .inr (.inr e3)
/-! The order of shifts does not matter -/
theorem Ros.perm {l m : List Sh} (h : l.Perm m) (hr : Ros l) : Ros m := ⟨fun x hx => hr.1 x (h.mem_iff.2 hx), (h.pairwise_iff (R := fun x y => ¬ lap x y) (fun {x y} h1 h2 => h1 (lap_symm h2))).1 hr.2⟩
theorem ros_perm {l m : List Sh} (h : l.Perm m) : Ros l ↔ Ros m := ⟨Ros.perm h, Ros.perm h.symm⟩
theorem Ros.sub {l m : List Sh} (h : Ros (l ++ m)) : Ros l := ⟨fun x hx => h.1 x (List.mem_append_left _ hx), (List.pairwise_append.1 h.2).1⟩
theorem Fit.strict {S : List Sh} (hs : Srt ltS S) (hf : Fit S) : S.Pairwise fun x y => ltS x y = true := by
  refine List.pairwise_iff_getElem.2 fun i j hi hj hij => ltS_iff.2 ?_
  have h1 := ltS_no.1 (List.pairwise_iff_getElem.1 hs i j hi hj hij)
  have h2 := (hf i _ (List.getElem?_eq_getElem hi)).1
  unfold shOk at h2
  by_cases hw : S[i].who = S[j].who
  · have := hf.before hs hij (List.getElem?_eq_getElem hi) (List.getElem?_eq_getElem hj) hw; omega
  · omega
theorem strict_eq : ∀ {S T : List Sh}, S.Pairwise (fun x y => ltS x y = true) → T.Pairwise (fun x y => ltS x y = true) → S.Perm T → S = T
  | [], T, _, _, h => (List.nil_perm.1 h).symm ▸ rfl
  | a :: S, [], _, _, h => absurd (List.perm_nil.1 h) (by simp)
  | a :: S, b :: T, h1, h2, h => by
    have h1' := List.pairwise_cons.1 h1
    have h2' := List.pairwise_cons.1 h2
    have hab : a = b := by
      have ha := h.mem_iff.1 (List.mem_cons_self (a := a) (l := S))
      have hb := h.mem_iff.2 (List.mem_cons_self (a := b) (l := T))
      rcases List.mem_cons.1 ha with e | ha
      · exact e
      · rcases List.mem_cons.1 hb with e | hb
        · exact e.symm
        · have e1 := h2'.1 a ha
          have e2 := h1'.1 b hb
          rw [woS.asym _ _ e1] at e2; cases e2
    subst hab
    rw [strict_eq h1'.2 h2'.2 (List.Perm.cons_inv h)]
theorem srtS_perm {l m : List Sh} (h : l.Perm m) (hr : Ros l) : srtS l = srtS m :=
  strict_eq (Fit.strict (srt_srt woS l) ((fitS_iff l).2 hr)) (Fit.strict (srt_srt woS m) ((fitS_iff m).2 (hr.perm h))) (((srt_perm l).trans h).trans (srt_perm m).symm)
theorem tiV_perm {d : Du} {l m : List Sh} (h : l.Perm m) (hr : Ros l) : tiV d l = tiV d m := by
  unfold tiV; rw [srtS_perm h hr, h.length_eq]
theorem tiE_perm {d : Du} {l m : List Sh} (h : l.Perm m) : tiE d l = tiE d m := by
  unfold tiE rosE
  rw [h.length_eq]
  have := ros_perm h
  by_cases hr : Ros l
  · rw [if_pos hr, if_pos (this.1 hr)]
  · rw [if_neg hr, if_neg fun hm => hr (this.2 hm)]
/-- One more shift takes no case away. -/
theorem Cas.more {d : Du} {l : List Sh} {y : Ti} (hc : Cas d l y) (m : List Sh) : Cas d (l ++ m) y := by
  obtain ⟨x, hx, h1, h2, h3⟩ := hc
  refine ⟨x, List.mem_append_left _ hx, h1, h2, ?_⟩
  rcases h3 with h3 | ⟨h3, p, hp, h4⟩ | ⟨h3, h4⟩
  · exact .inl h3
  · exact .inr (.inl ⟨h3, p, List.mem_append_left _ hp, h4⟩)
  · refine .inr (.inr ⟨h3, ?_⟩)
    rw [work_app]
    have := work_nonneg m x.who x.fr (x.fr + d.win)
    omega
/-! Windows -/
theorem minS_add {who a b c : Int} (h1 : a ≤ b) (h2 : b ≤ c) (y : Sh) (hy : y.fr ≤ y.to) : minS who a c y = minS who a b y + minS who b c y := by
  unfold minS; split <;> omega
theorem sum_add {α : Type} {f g h : α → Int} : ∀ {l : List α}, (∀ x ∈ l, f x = g x + h x) → (l.map f).sum = (l.map g).sum + (l.map h).sum
  | [], _ => rfl
  | a :: l, hh => by
    rw [List.map_cons, List.sum_cons, List.map_cons, List.sum_cons, List.map_cons, List.sum_cons, hh a List.mem_cons_self, sum_add fun x hx => hh x (List.mem_cons_of_mem _ hx)]
    omega
theorem work_add {l : List Sh} (hl : ∀ y ∈ l, y.fr ≤ y.to) (who : Int) {a b c : Int} (h1 : a ≤ b) (h2 : b ≤ c) : workV l who a c = workV l who a b + workV l who b c :=
  sum_add fun y hy => minS_add h1 h2 y (hl y hy)
/-- Nobody works longer than time goes by. -/
theorem work_len : ∀ {S : List Sh} (who a b : Int), S.Pairwise (fun x y => x.who = y.who → x.to ≤ y.fr) → (∀ y ∈ S, y.fr ≤ y.to) → workV S who a b ≤ max (b - a) 0
  | [], who, a, b, _, _ => by show (0 : Int) ≤ _; omega
  | y :: S, who, a, b, h, hl => by
    obtain ⟨h1, h2⟩ := List.pairwise_cons.1 h
    have hy := hl y List.mem_cons_self
    rw [work_cons]
    by_cases hw : y.who = who
    · have e : workV S who a b = workV S who (max a y.to) b := by
        refine sum_congr fun z hz => ?_
        have hz1 := h1 z hz
        unfold minS
        split
        · rename_i hzw
          have := hz1 (by omega)
          omega
        · rfl
      have ih := work_len who (max a y.to) b h2 fun z hz => hl z (List.mem_cons_of_mem _ hz)
      rw [e]
      unfold minS
      rw [if_pos hw]
      omega
    · have ih := work_len who a b h2 fun z hz => hl z (List.mem_cons_of_mem _ hz)
      unfold minS
      rw [if_neg hw]
      omega
theorem ros_work {l : List Sh} (h : Ros l) (who : Int) {a b : Int} (hab : a ≤ b) : workV l who a b ≤ b - a := by
  have hs := srt_srt woS l
  have hf := (fitS_iff l).2 h
  have hp := srt_perm (lt := ltS) l
  have e := work_perm hp who a b
  have := work_len (S := srtS l) who a b (List.pairwise_iff_getElem.2 fun i j hi hj hij hw => hf.before hs hij (List.getElem?_eq_getElem hi) (List.getElem?_eq_getElem hj) hw) (fun y hy => by
    have := h.1 y (hp.mem_iff.1 hy); unfold shOk at this; omega)
  have e2 : workV (srtS l) who a b = workV l who a b := e
  omega
theorem work_one {l : List Sh} {x : Sh} (hx : x ∈ l) (who a b : Int) : minS who a b x ≤ workV l who a b := by
  induction l with
  | nil => cases hx
  | cons y l ih =>
    rw [work_cons]
    have h1 := minS_nonneg who a b y
    have h2 := work_nonneg l who a b
    rcases List.mem_cons.1 hx with rfl | hx
    · omega
    · have := ih hx; omega
/-- A first shift of a person, from a time on. -/
theorem first_from (who a : Int) : ∀ (l : List Sh), (∀ y ∈ l, y.who = who → ¬ a ≤ y.fr) ∨ ∃ x ∈ l, x.who = who ∧ a ≤ x.fr ∧ ∀ y ∈ l, y.who = who → a ≤ y.fr → x.fr ≤ y.fr
  | [] => .inl (by simp)
  | z :: l => by
    rcases first_from who a l with h | ⟨x, hx, h1, h2, h3⟩
    · by_cases hz : z.who = who ∧ a ≤ z.fr
      · right
        refine ⟨z, List.mem_cons_self, hz.1, hz.2, fun y hy hw ha => ?_⟩
        rcases List.mem_cons.1 hy with rfl | hy
        · exact Int.le_refl _
        · exact absurd ha (h y hy hw)
      · left
        intro y hy hw ha
        rcases List.mem_cons.1 hy with rfl | hy
        · exact hz ⟨hw, ha⟩
        · exact h y hy hw ha
    · right
      by_cases hz : z.who = who ∧ a ≤ z.fr ∧ z.fr < x.fr
      · refine ⟨z, List.mem_cons_self, hz.1, hz.2.1, fun y hy hw ha => ?_⟩
        rcases List.mem_cons.1 hy with rfl | hy
        · exact Int.le_refl _
        · have := h3 y hy hw ha; omega
      · refine ⟨x, List.mem_cons_of_mem _ hx, h1, h2, fun y hy hw ha => ?_⟩
        rcases List.mem_cons.1 hy with rfl | hy
        · omega
        · exact h3 y hy hw ha
/-- The stage's theorem: any window has no more than one that begins with a shift. -/
theorem any_window {l : List Sh} (h : Ros l) {who a w : Int} (hw : 0 ≤ w) (hpos : 0 < workV l who a (a + w)) : ∃ x ∈ l, x.who = who ∧ workV l who a (a + w) ≤ workV l who x.fr (x.fr + w) := by
  have hl : ∀ y ∈ l, y.fr ≤ y.to := fun y hy => by have := h.1 y hy; unfold shOk at this; omega
  by_cases hc : ∃ x ∈ l, x.who = who ∧ x.fr < a ∧ a < x.to
  · obtain ⟨x, hx, h1, h2, h3⟩ := hc
    refine ⟨x, hx, h1, ?_⟩
    have e1 := work_add hl who (show x.fr ≤ a by omega) (show a ≤ a + w by omega)
    have e2 := work_add hl who (show x.fr ≤ x.fr + w by omega) (show x.fr + w ≤ a + w by omega)
    have e3 := ros_work h who (show x.fr + w ≤ a + w by omega)
    have e4 := work_one hx who x.fr a
    unfold minS at e4
    rw [if_pos h1] at e4
    omega
  · have hz : ∀ y ∈ l, y.who = who → y.fr < a → y.to ≤ a := fun y hy h1 h2 => by
      refine Decidable.by_contra fun h3 => hc ⟨y, hy, h1, h2, by omega⟩
    rcases first_from who a l with hn | ⟨x, hx, h1, h2, h3⟩
    · exfalso
      have : workV l who a (a + w) = 0 := sum_zero fun y hy => by
        unfold minS
        split
        · rename_i hyw
          have := hz y hy hyw (by have := hn y hy hyw; omega)
          omega
        · rfl
      omega
    · refine ⟨x, hx, h1, sum_le fun y hy => ?_⟩
      unfold minS
      split
      · rename_i hyw
        have hyl := hl y hy
        by_cases hya : y.fr < a
        · have := hz y hy hyw hya; omega
        · have := h3 y hy hyw (by omega); omega
      · omega
/-- Two shifts of one person at the same time are one. -/
theorem ros_uniq {l : List Sh} (h : Ros l) {x y : Sh} (hx : x ∈ l) (hy : y ∈ l) (hw : x.who = y.who) (hf : x.fr = y.fr) : x = y := by
  refine Classical.byContradiction fun hne => ?_
  have h1 := h.1 x hx
  have h2 := h.1 y hy
  unfold shOk at h1 h2
  obtain ⟨i, hi, rfl⟩ := List.getElem_of_mem hx
  obtain ⟨j, hj, rfl⟩ := List.getElem_of_mem hy
  have hp := List.pairwise_iff_getElem.1 h.2
  rcases Nat.lt_trichotomy i j with hij | hij | hij
  · exact hp i j hi hj hij ⟨hw, by omega, by omega⟩
  · subst hij; exact hne rfl
  · exact hp j i hj hi hij ⟨hw.symm, by omega, by omega⟩
end Go.Proofs.Ytmlmgipngbndgaa
/- A roster is arranged; it fits. -/
namespace Go.Proofs.Ytmlmgipngbndgaa
open Go.RowKit
attribute [local irreducible] OQ OS OX Rd T TL GX GL AL AI RV wpG SAny Calls
set_option maxRecDepth 100000
set_option maxHeartbeats 2000000
set_option linter.unusedVariables false
set_option linter.unusedSimpArgs false

theorem insNil (w : World) : Calls Try.prog 138 #[.slice none 0 0, .int .i64 0, .int .i64 0, .func (.func 111) #[] #[]] w fun e w' => e = .returned (.tuple #[]) ∧ Ext w w' := by
  refine enterQ (c := cx w 53) Try.func138 rfl rfl rfl rfl ?_
  repeat' (first | ((with_reducible apply oq_id); first | (apply oq_fn; exact rfl; first | exact trivial | (refine ⟨?_, ?_⟩ <;> omega) | (refine ⟨?_, ?_, ?_⟩ <;> omega) | omega | skip)) | ((with_reducible apply tl_id); first | ((with_reducible apply tl_nil)) | ((with_reducible apply u_q); exact rfl; exact rfl; exact rfl; exact rfl)) | ((with_reducible apply t_id); first | ((with_reducible apply t_seq)) | (apply t_region; kernel_rfl) | ((with_reducible apply t_block))) | with_reducible apply q_thenN)
  apply t_loopK (ι := Unit) [0, 1, 2, 3] (fun _ => [(8, .int .i64 1)]) (fun _ => []) (fun _ => True) (fun _ => 0) (())
  (repeat (first | exact KeepF.nil | (apply KeepF.cons; exact rfl) | apply KeepF.skip))
  (repeat (first | exact FrSub.nil | (apply FrSub.cons; exact rfl)))
  (repeat (first | exact HpSub.refl _ | (apply HpSub.consE; (repeat (first | exact P0 | apply P1)); exact rfl) | exact HpSub.nil))
  · trivial
  rintro ⟨⟩ -
  repeat' (first | ((with_reducible apply oq_id); first | ((with_reducible apply oq_lssF); exact rfl; exact rfl; omega) | (apply oq_fn; exact rfl; first | exact trivial | (refine ⟨?_, ?_⟩ <;> omega) | (refine ⟨?_, ?_, ?_⟩ <;> omega) | omega | skip)) | ((with_reducible apply tl_id); first | ((with_reducible apply tl_nil)) | ((with_reducible apply u_q); exact rfl; exact rfl; exact rfl; exact rfl)) | ((with_reducible apply t_id); first | ((with_reducible apply t_seq)) | (apply t_region; kernel_rfl) | ((with_reducible apply t_condF); exact rfl) | ((with_reducible apply t_exit))) | with_reducible apply q_thenN | with_reducible apply q_thenE | ((with_reducible apply q_blockE); exact rfl) | ((with_reducible apply end_normal)) | exact rvs_nil)
  all_goals rfl

theorem stabNil (w : World) : Calls Try.prog 136 #[.slice none 0 0, .int .i64 0, .func (.func 111) #[] #[]] w fun e w' => e = .returned (.tuple #[]) ∧ Ext w w' := by
  refine enterQ (c := cx w 63) Try.func136 rfl rfl rfl rfl ?_
  repeat' (first | ((with_reducible apply oq_id); first | (apply oq_fn; exact rfl; first | exact trivial | (refine ⟨?_, ?_⟩ <;> omega) | (refine ⟨?_, ?_, ?_⟩ <;> omega) | omega | skip)) | ((with_reducible apply tl_id); first | ((with_reducible apply tl_nil)) | ((with_reducible apply u_q); exact rfl; exact rfl; exact rfl; exact rfl)) | ((with_reducible apply t_id); first | ((with_reducible apply t_seq)) | (apply t_region; kernel_rfl) | ((with_reducible apply t_block))) | with_reducible apply q_thenN)
  apply t_loopK (ι := Unit) [0, 1, 2, 6, 9, 23, 24, 25, 26, 28, 29, 30, 31, 32, 33, 34, 35, 36, 37, 38, 39, 40, 41, 42, 44, 45, 46, 47, 48, 49, 50, 51, 52, 53, 54, 55, 56, 57, 58, 59, 61, 62] (fun _ => [(6, .int .i64 20), (7, .int .i64 0), (8, .int .i64 20)]) (fun _ => []) (fun _ => True) (fun _ => 0) (())
  (repeat (first | exact KeepF.nil | (apply KeepF.cons; exact rfl) | apply KeepF.skip))
  (repeat (first | exact FrSub.nil | (apply FrSub.cons; exact rfl)))
  (repeat (first | exact HpSub.refl _ | (apply HpSub.consE; (repeat (first | exact P0 | apply P1)); exact rfl) | exact HpSub.nil))
  · trivial
  rintro ⟨⟩ -
  repeat' (first | ((with_reducible apply oq_id); first | ((with_reducible apply oq_leqF); exact rfl; exact rfl; omega) | (apply oq_fn; exact rfl; first | exact trivial | (refine ⟨?_, ?_⟩ <;> omega) | (refine ⟨?_, ?_, ?_⟩ <;> omega) | omega | skip) | ((with_reducible apply oq_call (k := 138) (hc := Try.call138)); exact rfl; exact rfl; exact fun D w1 hw1 => insNil w1)) | ((with_reducible apply tl_id); first | ((with_reducible apply tl_nil)) | ((with_reducible apply u_q); exact rfl; exact rfl; exact rfl; exact rfl)) | ((with_reducible apply t_id); first | ((with_reducible apply t_seq)) | (apply t_region; kernel_rfl) | ((with_reducible apply t_condF); exact rfl) | ((with_reducible apply t_exit)) | ((with_reducible apply t_block))) | with_reducible apply q_thenN | with_reducible apply q_thenE | ((with_reducible apply q_blockE); exact rfl))
  apply t_loopK (ι := Unit) [0, 1, 2] (fun _ => [(6, .int .i64 20)]) (fun _ => []) (fun _ => True) (fun _ => 0) (())
  (repeat (first | exact KeepF.nil | (apply KeepF.cons; exact rfl) | apply KeepF.skip))
  (repeat (first | exact FrSub.nil | (apply FrSub.cons; exact rfl)))
  (repeat (first | exact HpSub.refl _ | (apply HpSub.consE; (repeat (first | exact P0 | apply P1)); exact rfl) | exact HpSub.nil))
  · trivial
  rintro ⟨⟩ -
  repeat' (first | ((with_reducible apply oq_id); first | ((with_reducible apply oq_lssF); exact rfl; exact rfl; omega) | (apply oq_fn; exact rfl; first | exact trivial | (refine ⟨?_, ?_⟩ <;> omega) | (refine ⟨?_, ?_, ?_⟩ <;> omega) | omega | skip)) | ((with_reducible apply tl_id); first | ((with_reducible apply tl_nil)) | ((with_reducible apply u_q); exact rfl; exact rfl; exact rfl; exact rfl)) | ((with_reducible apply t_id); first | ((with_reducible apply t_seq)) | (apply t_region; kernel_rfl) | ((with_reducible apply t_condF); exact rfl) | ((with_reducible apply t_exit))) | with_reducible apply q_thenN | with_reducible apply q_thenE | ((with_reducible apply q_blockE); exact rfl) | ((with_reducible apply end_normal)) | exact rvs_nil)
  all_goals rfl

theorem sortNil (w : World) : Calls Try.prog 130 #[.slice none 0 0, .func (.func 111) #[] #[]] w fun e w' => e = .returned (.tuple #[]) ∧ Ext w w' := by
  refine enterQ (c := cx w 9) Try.func130 rfl rfl rfl rfl ?_
  repeat' (first | ((with_reducible apply oq_id); first | (apply oq_fn; exact rfl; first | exact trivial | (refine ⟨?_, ?_⟩ <;> omega) | (refine ⟨?_, ?_, ?_⟩ <;> omega) | omega | skip) | ((with_reducible apply oq_call (k := 136) (hc := Try.call136)); exact rfl; exact rfl; exact fun D w1 hw1 => stabNil w1)) | ((with_reducible apply tl_id); first | ((with_reducible apply tl_nil)) | ((with_reducible apply u_q); exact rfl; exact rfl; exact rfl; exact rfl)) | ((with_reducible apply t_id); first | (apply t_region; kernel_rfl)) | ((with_reducible apply end_normal)) | exact rvs_nil)
  all_goals rfl

/-- An arranged roster. -/
def ArrO (S : List Sh) (v : Value) (H : Hp) : Prop := ∃ x, (x = none → S.length = 0) ∧ v = .slice (clA x) S.length (clC x) ∧ H = clH 101 3 (shB S) x
theorem arranged_T (A : Option Addr) (n c : Nat) (l : List Sh) (w : World) (hr : RdS w 3 A n (l.map shCells)) (hA : A = none → n = 0 ∧ c = 0) (hn : n ≤ 1000000) :
    Calls Try.prog 110 #[.slice A n c, .func (.func 111) #[] #[]] w fun e w' => ∃ v H', e = .returned v ∧ ArrO (srtS l) v H' ∧ Has w ⟨[], []⟩ H' w' := by
  have hl := hr.len
  simp only [List.length_map] at hl
  have hsl : (srtS l).length = n := by rw [srtS, srt_len, hl]
  refine enterF (c := cx w 11) Try.func110 rfl rfl rfl rfl ?_
  refine t_cut (ι := Unit) (fun _ => [(0, .slice A n c), (1, .func (.func 111) #[] #[])]) (fun _ => []) (fun _ => True) ?_ ?_
  · repeat' (first | ((with_reducible apply oq_id); first | (apply oq_fn; exact rfl; first | exact trivial | (refine ⟨?_, ?_⟩ <;> omega) | (refine ⟨?_, ?_, ?_⟩ <;> omega) | omega | skip)) | ((with_reducible apply tl_id); first | ((with_reducible apply tl_nil)) | ((with_reducible apply u_q); exact rfl; exact rfl; exact rfl; exact rfl)) | ((with_reducible apply t_id); first | (apply t_region; kernel_rfl)))
    all_goals exact ⟨rfl, (), trivial, by (repeat (first | exact FrSub.nil | (apply FrSub.cons; exact rfl))), by (repeat (first | exact HpSub.refl _ | (apply HpSub.consE; (repeat (first | exact P0 | apply P1)); exact rfl) | exact HpSub.nil))⟩
  rintro ⟨⟩ -
  refine t_cut (ι := Option (Nat × Nat)) (fun x => [(0, .slice (clA x) n (clC x)), (1, .func (.func 111) #[] #[])]) (fun x => clH 101 3 (shB l) x) (fun x => x = none → n = 0) ?_ ?_
  · repeat' (first | ((with_reducible apply oq_id); first | (apply oq_fn; exact rfl; first | exact trivial | (refine ⟨?_, ?_⟩ <;> omega) | (refine ⟨?_, ?_, ?_⟩ <;> omega) | omega | skip)) | ((with_reducible apply tl_id); first | ((with_reducible apply tl_nil)) | ((with_reducible apply u_s); exact rfl; exact rfl; exact rfl; (with_reducible apply os_callF (PV := CloneV 101 3 (shB l) n) (k := 89) (hc := Try.call89)); exact rfl; exact rfl; exact fun D w1 hw1 => cloneS_T A n c l w1 (hr.ext hw1.ext.ext) hA hn; rintro v H' ⟨x, hx, rfl, rfl⟩; (try simp only [List.append_nil])) | ((with_reducible apply u_q); exact rfl; exact rfl; exact rfl; exact rfl)) | ((with_reducible apply t_id); first | (apply t_region; kernel_rfl)))
    all_goals exact ⟨by trivial, x, hx, by (repeat (first | exact FrSub.nil | (apply FrSub.cons; exact rfl))), by (repeat (first | exact HpSub.refl _ | apply HpSub.appC | exact HpSub.nil))⟩
  rintro x hx
  rcases x with _ | ⟨g, cp⟩
  · obtain rfl := hx rfl
    simp only [clA, clC, clH]
    repeat' (first | ((with_reducible apply oq_id); first | (apply oq_fn; exact rfl; first | exact trivial | (refine ⟨?_, ?_⟩ <;> omega) | (refine ⟨?_, ?_, ?_⟩ <;> omega) | omega | skip) | ((with_reducible apply oq_call (k := 130) (hc := Try.call130)); exact rfl; exact rfl; exact fun D w1 hw1 => sortNil w1)) | ((with_reducible apply tl_id); first | ((with_reducible apply tl_nil)) | ((with_reducible apply u_q); exact rfl; exact rfl; exact rfl; exact rfl)) | ((with_reducible apply t_id); first | ((with_reducible apply t_seq)) | (apply t_region; kernel_rfl) | ((with_reducible apply t_ret))) | with_reducible apply q_thenN | ((with_reducible apply end_ret)) | exact rvs_nil | ((with_reducible apply rvs_cons)) | ((with_reducible apply rv_tmp); exact rfl))
    all_goals exact ⟨_, ⟨none, fun _ => hsl, by rw [hsl]; rfl, rfl⟩, HpSub.nil⟩
  · simp only [clA, clC, clH]
    repeat' (first | ((with_reducible apply oq_id); first | (apply oq_fn; exact rfl; first | exact trivial | (refine ⟨?_, ?_⟩ <;> omega) | (refine ⟨?_, ?_, ?_⟩ <;> omega) | omega | skip)) | ((with_reducible apply tl_id); first | ((with_reducible apply tl_nil)) | ((with_reducible apply u_s); exact rfl; exact rfl; exact rfl; (with_reducible apply os_callW (b := g) (k := 130) (hc := Try.call130)); exact rfl; exact rfl; (repeat (first | exact P0 | apply P1)); exact fun D w1 hw1 => sortS_W g cp n l w1 (hw1.blkP (by (repeat (first | exact P0 | apply P1)))) hl hn) | ((with_reducible apply u_q); exact rfl; exact rfl; exact rfl; exact rfl)) | ((with_reducible apply t_id); first | ((with_reducible apply t_seq)) | (apply t_region; kernel_rfl) | ((with_reducible apply t_ret))) | with_reducible apply q_thenN | ((with_reducible apply end_ret)) | exact rvs_nil | ((with_reducible apply rvs_cons)) | ((with_reducible apply rv_tmp); exact rfl))
    all_goals exact ⟨_, ⟨some (g, cp), fun h => (by cases h), by rw [hsl]; rfl, rfl⟩, HpSub.refl _⟩

end Go.Proofs.Ytmlmgipngbndgaa
/- Is a roster valid? -/
namespace Go.Proofs.Ytmlmgipngbndgaa
open Go.RowKit
attribute [local irreducible] OQ OS OX Rd T TL GX GL AL AI RV wpG SAny Calls
set_option maxRecDepth 100000
set_option maxHeartbeats 2000000
set_option linter.unusedVariables false
set_option linter.unusedSimpArgs false

def FitAt (S : List Sh) (i : Nat) : Prop := ∀ x, S[i]? = some x → shOk x ∧ ∀ p, 0 < i → S[i - 1]? = some p → p.who = x.who → p.to ≤ x.fr
theorem fit_all {S : List Sh} : Fit S ↔ ∀ j, j < S.length → FitAt S j := by
  constructor
  · intro h j _ x hx; exact h j x hx
  · intro h i x hx; exact h i (List.getElem?_eq_some_iff.1 hx).1 x hx
theorem allFrom_one {lo hi z : Int} : allFrom lo hi [z] = true ↔ lo ≤ z ∧ z ≤ hi := by
  unfold allFrom; simp

theorem fitsR_calls (A : Option Addr) (n c : Nat) (l : List Sh) (w : World) (hr : RdS w 3 A n (l.map shCells)) (hA : A = none → n = 0 ∧ c = 0) (hn : n ≤ 1000000) :
    Calls Try.prog 84 #[.slice A n c] w fun e w' => e = .returned (.bool (decide (Ros l))) ∧ Ext w w' := by
  have hl := hr.len
  simp only [List.length_map] at hl
  obtain ⟨S, hS⟩ : ∃ S, srtS l = S := ⟨_, rfl⟩
  have hsl : S.length = n := by rw [← hS, srtS, srt_len, hl]
  have hfa : Ros l ↔ ∀ j, j < n → FitAt S j := by rw [← fitS_iff l, hS, fit_all, hsl]
  refine enterQ (c := cx w 63) Try.func84 rfl rfl rfl rfl ?_
  refine t_cut (ι := Unit) (fun _ => [(0, .slice A n c)]) (fun _ => []) (fun _ => True) ?_ ?_
  · repeat' (first | ((with_reducible apply oq_id); first | (apply oq_fn; exact rfl; first | exact trivial | (refine ⟨?_, ?_⟩ <;> omega) | (refine ⟨?_, ?_, ?_⟩ <;> omega) | omega | skip)) | ((with_reducible apply tl_id); first | ((with_reducible apply tl_nil)) | ((with_reducible apply u_q); exact rfl; exact rfl; exact rfl; exact rfl)) | ((with_reducible apply t_id); first | (apply t_region; kernel_rfl)))
    all_goals exact ⟨rfl, (), trivial, by (repeat (first | exact FrSub.nil | (apply FrSub.cons; exact rfl))), by (repeat (first | exact HpSub.refl _ | (apply HpSub.consE; (repeat (first | exact P0 | apply P1)); exact rfl) | exact HpSub.nil))⟩
  rintro ⟨⟩ -
  refine t_cut (ι := Option (Nat × Nat)) (fun x => [(0, .slice (clA x) n (clC x))]) (fun x => clH 101 3 (shB S) x) (fun x => x = none → n = 0) ?_ ?_
  · repeat' (first | ((with_reducible apply oq_id); first | (apply oq_fn; exact rfl; first | exact trivial | (refine ⟨?_, ?_⟩ <;> omega) | (refine ⟨?_, ?_, ?_⟩ <;> omega) | omega | skip)) | ((with_reducible apply tl_id); first | ((with_reducible apply tl_nil)) | ((with_reducible apply u_s); exact rfl; exact rfl; exact rfl; (with_reducible apply os_callF (PV := ArrO S) (k := 110) (hc := Try.call110)); exact rfl; exact rfl; exact fun D w1 hw1 => (by rw [← hS]; exact arranged_T A n c l w1 (hr.ext hw1.ext.ext) hA hn); rintro v H' ⟨x, hx, rfl, rfl⟩; (try simp only [List.append_nil])) | ((with_reducible apply u_q); exact rfl; exact rfl; exact rfl; exact rfl)) | ((with_reducible apply t_id); first | (apply t_region; kernel_rfl)))
    all_goals (rw [hsl] at hx)
    all_goals exact ⟨by trivial, x, hx, by (rw [hsl]; (repeat (first | exact FrSub.nil | (apply FrSub.cons; exact rfl)))), by (repeat (first | exact HpSub.refl _ | apply HpSub.appC | exact HpSub.nil))⟩
  rintro x hx
  rcases x with _ | ⟨g, cp⟩
  · obtain rfl := hx rfl
    simp only [clA, clC, clH]
    rw [decide_eq_true (hfa.2 fun j hj => by omega)]
    repeat' (first | ((with_reducible apply oq_id); first | (apply oq_fn; exact rfl; first | exact trivial | (refine ⟨?_, ?_⟩ <;> omega) | (refine ⟨?_, ?_, ?_⟩ <;> omega) | omega | skip)) | ((with_reducible apply tl_id); first | ((with_reducible apply tl_nil)) | ((with_reducible apply u_q); exact rfl; exact rfl; exact rfl; exact rfl)) | ((with_reducible apply t_id); first | ((with_reducible apply t_seq)) | (apply t_region; kernel_rfl) | ((with_reducible apply t_block))) | with_reducible apply q_thenN)
    apply t_loopK (ι := Unit) [0, 7, 8] (fun _ => [(9, .int .i64 0)]) (fun _ => []) (fun _ => True) (fun _ => 0) (())
    (repeat (first | exact KeepF.nil | (apply KeepF.cons; exact rfl) | apply KeepF.skip))
    (repeat (first | exact FrSub.nil | (apply FrSub.cons; exact rfl)))
    (repeat (first | exact HpSub.refl _ | (apply HpSub.consE; (repeat (first | exact P0 | apply P1)); exact rfl) | exact HpSub.nil))
    · trivial
    rintro ⟨⟩ -
    repeat' (first | ((with_reducible apply oq_id); first | ((with_reducible apply oq_lssF); exact rfl; exact rfl; omega) | (apply oq_fn; exact rfl; first | exact trivial | (refine ⟨?_, ?_⟩ <;> omega) | (refine ⟨?_, ?_, ?_⟩ <;> omega) | omega | skip)) | ((with_reducible apply tl_id); first | ((with_reducible apply tl_nil)) | ((with_reducible apply u_q); exact rfl; exact rfl; exact rfl; exact rfl)) | ((with_reducible apply t_id); first | ((with_reducible apply t_seq)) | (apply t_region; kernel_rfl) | ((with_reducible apply t_condF); exact rfl) | ((with_reducible apply t_ret)) | ((with_reducible apply t_exit))) | with_reducible apply q_thenN | with_reducible apply q_thenE | ((with_reducible apply q_blockE); exact rfl) | ((with_reducible apply end_ret)) | exact rvs_nil | ((with_reducible apply rvs_cons)) | ((with_reducible apply rv_tmp); exact rfl))
    all_goals rfl
  · simp only [clA, clC, clH]
    repeat' (first | ((with_reducible apply oq_id); first | (apply oq_fn; exact rfl; first | exact trivial | (refine ⟨?_, ?_⟩ <;> omega) | (refine ⟨?_, ?_, ?_⟩ <;> omega) | omega | skip)) | ((with_reducible apply tl_id); first | ((with_reducible apply tl_nil)) | ((with_reducible apply u_q); exact rfl; exact rfl; exact rfl; exact rfl)) | ((with_reducible apply t_id); first | ((with_reducible apply t_seq)) | (apply t_region; kernel_rfl) | ((with_reducible apply t_block))) | with_reducible apply q_thenN)
    apply t_loopK (ι := Nat) [0, 7, 8] (fun k => [(9, .int .i64 (k : Nat))]) (fun _ => [(g, shB S, some (101, 3, cp))]) (fun k => k ≤ n ∧ ∀ j, j < k → FitAt S j) (fun k => n - k) (0)
    (repeat (first | exact KeepF.nil | (apply KeepF.cons; exact rfl) | apply KeepF.skip))
    (repeat (first | exact FrSub.nil | (apply FrSub.cons; exact rfl)))
    (repeat (first | exact HpSub.refl _ | (apply HpSub.consE; (repeat (first | exact P0 | apply P1)); exact rfl) | exact HpSub.nil))
    · exact ⟨Nat.zero_le _, fun j hj => by omega⟩
    rintro k ⟨hk, hok⟩
    try simp only [List.cons_append, List.nil_append]
    by_cases hlt : k < n
    · obtain ⟨x, hx⟩ : ∃ x, S[k]? = some x := ⟨_, List.getElem?_eq_getElem (by omega)⟩
      obtain ⟨q0, q1, q2⟩ := sh_at hx
      obtain ⟨q, hq⟩ : ∃ q, allFrom 0 5 [x.who] = q := ⟨_, rfl⟩
      have hno : ¬ FitAt S k → decide (Ros l) = false := fun h => decide_eq_false fun hc => h (hfa.1 hc k hlt)
      cases q with
      | false =>
        have hw : ¬ (0 ≤ x.who ∧ x.who ≤ 5) := by rw [← allFrom_one, hq]; decide
        rw [hno fun h => hw (h x hx).1.1]
        repeat' (first | ((with_reducible apply oq_id); first | (focus ((with_reducible apply oq_indexAddrN); exact rfl; exact rfl; exact rfl; exact rfl; omega)) | ((with_reducible apply oq_lssT); exact rfl; exact rfl; omega) | (apply oq_fn; exact rfl; first | exact trivial | (refine ⟨?_, ?_⟩ <;> omega) | (refine ⟨?_, ?_, ?_⟩ <;> omega) | omega | skip) | ((with_reducible apply oq_load); exact rfl; exact rfl) | ((with_reducible apply oq_loadAgg); exact rfl; exact rfl) | ((with_reducible apply oq_call (k := 63) (hc := Try.call63)); exact rfl; exact rfl; exact fun D w1 hw1 => fromOne hq hw1 (by (repeat (first | exact P0 | apply P1))))) | ((with_reducible apply tl_id); first | ((with_reducible apply tl_nil)) | ((with_reducible apply u_q); exact rfl; exact rfl; exact rfl; exact rfl) | ((with_reducible apply u_s0); exact rfl; exact rfl) | ((with_reducible apply u_s); exact rfl; exact rfl; exact rfl)) | ((with_reducible apply gx_id); first | ((with_reducible apply v_nil)) | ((with_reducible apply v_q); exact rfl; exact rfl; exact rfl) | ((with_reducible apply v_skip); exact rfl; exact rfl; exact rfl)) | ((with_reducible apply os_id); first | ((with_reducible apply os_x); exact rfl) | ((with_reducible apply os_storeAgg); exact rfl; exact rfl; exact rfl; exact rfl; exact rfl)) | ((with_reducible apply ox_id); first | ((with_reducible apply ox_alloc); exact rfl; intro _) | ((with_reducible apply ox_buildSlice1); exact rfl; exact rfl; exact rfl; exact rfl; exact rfl; exact rfl; intro _)) | ((with_reducible apply ai_id); first | ((with_reducible apply ai_q); exact rfl; exact rfl; exact rfl; exact rfl; exact rfl) | ((with_reducible apply ai_x); exact rfl; exact rfl; exact rfl; exact rfl; exact rfl)) | ((with_reducible apply rd_id); first | (apply Rd.own; (repeat (first | exact P0 | apply P1)); first | exact q0 | exact q1 | exact q2 | exact r0 | exact r1 | exact r2; done) | (apply Rd.own; (repeat (first | exact P0 | apply P1)); exact rfl; done)) | ((with_reducible apply t_id); first | (apply t_mix (id := 5) [0, 1] 46 #[false, false, false, false, false, false, false, false, false, false, false, false, false, false, false, false, false, false, false, false, false, false, false, false, false, false, false, false, false, false, false, false, false, false, false, false, false, false, false, false, false, false, false, false, false, false, false, false]; kernel_rfl; kernel_rfl; exact rfl) | ((with_reducible apply t_seq)) | (apply t_region; kernel_rfl) | ((with_reducible apply t_condT); exact rfl) | ((with_reducible apply t_ret)) | ((with_reducible apply t_skip)) | ((with_reducible apply t_block))) | with_reducible apply q_thenN | with_reducible apply q_thenR | with_reducible apply q_blockR | exact P0 | exact Rdn.zero | apply Rdn.succ | ((with_reducible apply Norm.nil); exact rfl) | ((with_reducible apply Norm.cons); exact rfl) | ((with_reducible apply end_ret)) | exact rvs_nil | ((with_reducible apply rvs_cons)) | ((with_reducible apply rv_tmp); exact rfl) | ((with_reducible apply al_id); first | (apply al_more [4, 5, 6, 7, 8, 9, 10, 11, 12, 13, 14, 15, 16, 17, 18, 19, 20, 21, 22, 23, 24, 25, 26, 27, 28, 29, 30, 31, 32, 33, 34, 35, 36, 37, 38, 39, 40, 41, 42, 43, 44, 45, 46, 47] 0; decide +kernel; exact rfl; exact rfl; focus (repeat (first | exact HpSub.refl _ | (apply HpSub.cons; (repeat (first | exact P0 | apply P1))) | apply HpSub.skipX | exact HpSub.nil))) | (apply al_done; decide +kernel) | (apply al_one 2; decide +kernel) | (apply al_one 3; decide +kernel)) | exact Nat.le_of_ble_eq_true rfl)
        all_goals rfl
      | true =>
        have hw : 0 ≤ x.who ∧ x.who ≤ 5 := allFrom_one.1 hq
        by_cases h1 : x.fr < 0
        · rw [hno fun h => by have := (h x hx).1; unfold shOk at this; omega]
          repeat' (first | ((with_reducible apply oq_id); first | (focus ((with_reducible apply oq_indexAddrN); exact rfl; exact rfl; exact rfl; exact rfl; omega)) | ((with_reducible apply oq_lssT); exact rfl; exact rfl; omega) | (apply oq_fn; exact rfl; first | exact trivial | (refine ⟨?_, ?_⟩ <;> omega) | (refine ⟨?_, ?_, ?_⟩ <;> omega) | omega | skip) | ((with_reducible apply oq_load); exact rfl; exact rfl) | ((with_reducible apply oq_loadAgg); exact rfl; exact rfl) | ((with_reducible apply oq_call (k := 63) (hc := Try.call63)); exact rfl; exact rfl; exact fun D w1 hw1 => fromOne hq hw1 (by (repeat (first | exact P0 | apply P1))))) | ((with_reducible apply tl_id); first | ((with_reducible apply tl_nil)) | ((with_reducible apply u_q); exact rfl; exact rfl; exact rfl; exact rfl) | ((with_reducible apply u_s0); exact rfl; exact rfl) | ((with_reducible apply u_s); exact rfl; exact rfl; exact rfl)) | ((with_reducible apply gx_id); first | ((with_reducible apply v_nil)) | ((with_reducible apply v_q); exact rfl; exact rfl; exact rfl) | ((with_reducible apply v_skip); exact rfl; exact rfl; exact rfl)) | ((with_reducible apply os_id); first | ((with_reducible apply os_x); exact rfl) | ((with_reducible apply os_storeAgg); exact rfl; exact rfl; exact rfl; exact rfl; exact rfl)) | ((with_reducible apply ox_id); first | ((with_reducible apply ox_alloc); exact rfl; intro _) | ((with_reducible apply ox_buildSlice1); exact rfl; exact rfl; exact rfl; exact rfl; exact rfl; exact rfl; intro _)) | ((with_reducible apply ai_id); first | ((with_reducible apply ai_q); exact rfl; exact rfl; exact rfl; exact rfl; exact rfl) | ((with_reducible apply ai_x); exact rfl; exact rfl; exact rfl; exact rfl; exact rfl)) | ((with_reducible apply rd_id); first | (apply Rd.own; (repeat (first | exact P0 | apply P1)); first | exact q0 | exact q1 | exact q2 | exact r0 | exact r1 | exact r2; done) | (apply Rd.own; (repeat (first | exact P0 | apply P1)); exact rfl; done)) | ((with_reducible apply t_id); first | (apply t_mix (id := 5) [0, 1] 46 #[false, false, false, false, false, false, false, false, false, false, false, false, false, false, false, false, false, false, false, false, false, false, false, false, false, false, false, false, false, false, false, false, false, false, false, false, false, false, false, false, false, false, false, false, false, false, false, false]; kernel_rfl; kernel_rfl; exact rfl) | ((with_reducible apply t_seq)) | (apply t_region; kernel_rfl) | ((with_reducible apply t_condT); exact rfl) | ((with_reducible apply t_ret)) | ((with_reducible apply t_skip)) | ((with_reducible apply t_block))) | with_reducible apply q_thenN | with_reducible apply q_thenR | with_reducible apply q_blockR | exact P0 | exact Rdn.zero | apply Rdn.succ | ((with_reducible apply Norm.nil); exact rfl) | ((with_reducible apply Norm.cons); exact rfl) | ((with_reducible apply end_ret)) | exact rvs_nil | ((with_reducible apply rvs_cons)) | ((with_reducible apply rv_tmp); exact rfl) | ((with_reducible apply al_id); first | (apply al_more [4, 5, 6, 7, 8, 9, 10, 11, 12, 13, 14, 15, 16, 17, 18, 19, 20, 21, 22, 23, 24, 25, 26, 27, 28, 29, 30, 31, 32, 33, 34, 35, 36, 37, 38, 39, 40, 41, 42, 43, 44, 45, 46, 47] 0; decide +kernel; exact rfl; exact rfl; focus (repeat (first | exact HpSub.refl _ | (apply HpSub.cons; (repeat (first | exact P0 | apply P1))) | apply HpSub.skipX | exact HpSub.nil))) | (apply al_done; decide +kernel) | (apply al_one 2; decide +kernel) | (apply al_one 3; decide +kernel)) | exact Nat.le_of_ble_eq_true rfl)
          all_goals rfl
        by_cases h2 : x.to ≤ x.fr
        · rw [hno fun h => by have := (h x hx).1; unfold shOk at this; omega]
          repeat' (first | ((with_reducible apply oq_id); first | (focus ((with_reducible apply oq_indexAddrN); exact rfl; exact rfl; exact rfl; exact rfl; omega)) | ((with_reducible apply oq_lssT); exact rfl; exact rfl; omega) | ((with_reducible apply oq_lssF); exact rfl; exact rfl; omega) | ((with_reducible apply oq_geqT); exact rfl; exact rfl; omega) | (apply oq_fn; exact rfl; first | exact trivial | (refine ⟨?_, ?_⟩ <;> omega) | (refine ⟨?_, ?_, ?_⟩ <;> omega) | omega | skip) | ((with_reducible apply oq_load); exact rfl; exact rfl) | ((with_reducible apply oq_loadAgg); exact rfl; exact rfl) | ((with_reducible apply oq_call (k := 63) (hc := Try.call63)); exact rfl; exact rfl; exact fun D w1 hw1 => fromOne hq hw1 (by (repeat (first | exact P0 | apply P1))))) | ((with_reducible apply tl_id); first | ((with_reducible apply tl_nil)) | ((with_reducible apply u_q); exact rfl; exact rfl; exact rfl; exact rfl) | ((with_reducible apply u_s0); exact rfl; exact rfl) | ((with_reducible apply u_s); exact rfl; exact rfl; exact rfl)) | ((with_reducible apply gx_id); first | ((with_reducible apply v_nil)) | ((with_reducible apply v_q); exact rfl; exact rfl; exact rfl) | ((with_reducible apply v_skip); exact rfl; exact rfl; exact rfl)) | ((with_reducible apply os_id); first | ((with_reducible apply os_x); exact rfl) | ((with_reducible apply os_storeAgg); exact rfl; exact rfl; exact rfl; exact rfl; exact rfl)) | ((with_reducible apply ox_id); first | ((with_reducible apply ox_alloc); exact rfl; intro _) | ((with_reducible apply ox_buildSlice1); exact rfl; exact rfl; exact rfl; exact rfl; exact rfl; exact rfl; intro _)) | ((with_reducible apply ai_id); first | ((with_reducible apply ai_q); exact rfl; exact rfl; exact rfl; exact rfl; exact rfl) | ((with_reducible apply ai_x); exact rfl; exact rfl; exact rfl; exact rfl; exact rfl)) | ((with_reducible apply rd_id); first | (apply Rd.own; (repeat (first | exact P0 | apply P1)); first | exact q0 | exact q1 | exact q2 | exact r0 | exact r1 | exact r2; done) | (apply Rd.own; (repeat (first | exact P0 | apply P1)); exact rfl; done)) | ((with_reducible apply t_id); first | (apply t_mix (id := 5) [0, 1] 46 #[false, false, false, false, false, false, false, false, false, false, false, false, false, false, false, false, false, false, false, false, false, false, false, false, false, false, false, false, false, false, false, false, false, false, false, false, false, false, false, false, false, false, false, false, false, false, false, false]; kernel_rfl; kernel_rfl; exact rfl) | ((with_reducible apply t_seq)) | (apply t_region; kernel_rfl) | ((with_reducible apply t_condT); exact rfl) | ((with_reducible apply t_ret)) | ((with_reducible apply t_skip)) | ((with_reducible apply t_block))) | with_reducible apply q_thenN | with_reducible apply q_thenR | with_reducible apply q_blockR | exact P0 | exact Rdn.zero | apply Rdn.succ | ((with_reducible apply Norm.nil); exact rfl) | ((with_reducible apply Norm.cons); exact rfl) | ((with_reducible apply end_ret)) | exact rvs_nil | ((with_reducible apply rvs_cons)) | ((with_reducible apply rv_tmp); exact rfl) | ((with_reducible apply al_id); first | (apply al_more [4, 5, 6, 7, 8, 9, 10, 11, 12, 13, 14, 15, 16, 17, 18, 19, 20, 21, 22, 23, 24, 25, 26, 27, 28, 29, 30, 31, 32, 33, 34, 35, 36, 37, 38, 39, 40, 41, 42, 43, 44, 45, 46, 47] 0; decide +kernel; exact rfl; exact rfl; focus (repeat (first | exact HpSub.refl _ | (apply HpSub.cons; (repeat (first | exact P0 | apply P1))) | apply HpSub.skipX | exact HpSub.nil))) | (apply al_done; decide +kernel) | (apply al_one 2; decide +kernel) | (apply al_one 3; decide +kernel)) | exact Nat.le_of_ble_eq_true rfl)
          all_goals rfl
        by_cases h3 : 1000000 < x.to
        · rw [hno fun h => by have := (h x hx).1; unfold shOk at this; omega]
          repeat' (first | ((with_reducible apply oq_id); first | (focus ((with_reducible apply oq_indexAddrN); exact rfl; exact rfl; exact rfl; exact rfl; omega)) | ((with_reducible apply oq_lssT); exact rfl; exact rfl; omega) | ((with_reducible apply oq_lssF); exact rfl; exact rfl; omega) | ((with_reducible apply oq_geqF); exact rfl; exact rfl; omega) | ((with_reducible apply oq_gtrT); exact rfl; exact rfl; omega) | (apply oq_fn; exact rfl; first | exact trivial | (refine ⟨?_, ?_⟩ <;> omega) | (refine ⟨?_, ?_, ?_⟩ <;> omega) | omega | skip) | ((with_reducible apply oq_load); exact rfl; exact rfl) | ((with_reducible apply oq_loadAgg); exact rfl; exact rfl) | ((with_reducible apply oq_call (k := 63) (hc := Try.call63)); exact rfl; exact rfl; exact fun D w1 hw1 => fromOne hq hw1 (by (repeat (first | exact P0 | apply P1))))) | ((with_reducible apply tl_id); first | ((with_reducible apply tl_nil)) | ((with_reducible apply u_q); exact rfl; exact rfl; exact rfl; exact rfl) | ((with_reducible apply u_s0); exact rfl; exact rfl) | ((with_reducible apply u_s); exact rfl; exact rfl; exact rfl)) | ((with_reducible apply gx_id); first | ((with_reducible apply v_nil)) | ((with_reducible apply v_q); exact rfl; exact rfl; exact rfl) | ((with_reducible apply v_skip); exact rfl; exact rfl; exact rfl)) | ((with_reducible apply os_id); first | ((with_reducible apply os_x); exact rfl) | ((with_reducible apply os_storeAgg); exact rfl; exact rfl; exact rfl; exact rfl; exact rfl)) | ((with_reducible apply ox_id); first | ((with_reducible apply ox_alloc); exact rfl; intro _) | ((with_reducible apply ox_buildSlice1); exact rfl; exact rfl; exact rfl; exact rfl; exact rfl; exact rfl; intro _)) | ((with_reducible apply ai_id); first | ((with_reducible apply ai_q); exact rfl; exact rfl; exact rfl; exact rfl; exact rfl) | ((with_reducible apply ai_x); exact rfl; exact rfl; exact rfl; exact rfl; exact rfl)) | ((with_reducible apply rd_id); first | (apply Rd.own; (repeat (first | exact P0 | apply P1)); first | exact q0 | exact q1 | exact q2 | exact r0 | exact r1 | exact r2; done) | (apply Rd.own; (repeat (first | exact P0 | apply P1)); exact rfl; done)) | ((with_reducible apply t_id); first | (apply t_mix (id := 5) [0, 1] 46 #[false, false, false, false, false, false, false, false, false, false, false, false, false, false, false, false, false, false, false, false, false, false, false, false, false, false, false, false, false, false, false, false, false, false, false, false, false, false, false, false, false, false, false, false, false, false, false, false]; kernel_rfl; kernel_rfl; exact rfl) | ((with_reducible apply t_seq)) | (apply t_region; kernel_rfl) | ((with_reducible apply t_condT); exact rfl) | ((with_reducible apply t_ret)) | ((with_reducible apply t_skip)) | ((with_reducible apply t_block))) | with_reducible apply q_thenN | with_reducible apply q_thenR | with_reducible apply q_blockR | exact P0 | exact Rdn.zero | apply Rdn.succ | ((with_reducible apply Norm.nil); exact rfl) | ((with_reducible apply Norm.cons); exact rfl) | ((with_reducible apply end_ret)) | exact rvs_nil | ((with_reducible apply rvs_cons)) | ((with_reducible apply rv_tmp); exact rfl) | ((with_reducible apply al_id); first | (apply al_more [4, 5, 6, 7, 8, 9, 10, 11, 12, 13, 14, 15, 16, 17, 18, 19, 20, 21, 22, 23, 24, 25, 26, 27, 28, 29, 30, 31, 32, 33, 34, 35, 36, 37, 38, 39, 40, 41, 42, 43, 44, 45, 46, 47] 0; decide +kernel; exact rfl; exact rfl; focus (repeat (first | exact HpSub.refl _ | (apply HpSub.cons; (repeat (first | exact P0 | apply P1))) | apply HpSub.skipX | exact HpSub.nil))) | (apply al_done; decide +kernel) | (apply al_one 2; decide +kernel) | (apply al_one 3; decide +kernel)) | exact Nat.le_of_ble_eq_true rfl)
          all_goals rfl
        have hxo : shOk x := ⟨hw, by omega, by omega, by omega⟩
        have hnext : FitAt S k → ∀ j, j < k + 1 → FitAt S j := fun h j hj => by
          by_cases hjk : j = k
          · subst hjk; exact h
          · exact hok j (by omega)
        by_cases h4 : k = 0
        · subst h4
          repeat' (first | ((with_reducible apply oq_id); first | (focus ((with_reducible apply oq_indexAddrN); exact rfl; exact rfl; exact rfl; exact rfl; omega)) | ((with_reducible apply oq_lssT); exact rfl; exact rfl; omega) | ((with_reducible apply oq_lssF); exact rfl; exact rfl; omega) | ((with_reducible apply oq_geqF); exact rfl; exact rfl; omega) | ((with_reducible apply oq_gtrF); exact rfl; exact rfl; omega) | (apply oq_fn; exact rfl; first | exact trivial | (refine ⟨?_, ?_⟩ <;> omega) | (refine ⟨?_, ?_, ?_⟩ <;> omega) | omega | skip) | ((with_reducible apply oq_load); exact rfl; exact rfl) | ((with_reducible apply oq_loadAgg); exact rfl; exact rfl) | ((with_reducible apply oq_call (k := 63) (hc := Try.call63)); exact rfl; exact rfl; exact fun D w1 hw1 => fromOne hq hw1 (by (repeat (first | exact P0 | apply P1))))) | ((with_reducible apply tl_id); first | ((with_reducible apply tl_nil)) | ((with_reducible apply u_q); exact rfl; exact rfl; exact rfl; exact rfl) | ((with_reducible apply u_s0); exact rfl; exact rfl) | ((with_reducible apply u_s); exact rfl; exact rfl; exact rfl)) | ((with_reducible apply gx_id); first | ((with_reducible apply v_nil)) | ((with_reducible apply v_q); exact rfl; exact rfl; exact rfl) | ((with_reducible apply v_skip); exact rfl; exact rfl; exact rfl)) | ((with_reducible apply os_id); first | ((with_reducible apply os_x); exact rfl) | ((with_reducible apply os_storeAgg); exact rfl; exact rfl; exact rfl; exact rfl; exact rfl)) | ((with_reducible apply ox_id); first | ((with_reducible apply ox_alloc); exact rfl; intro _) | ((with_reducible apply ox_buildSlice1); exact rfl; exact rfl; exact rfl; exact rfl; exact rfl; exact rfl; intro _)) | ((with_reducible apply ai_id); first | ((with_reducible apply ai_q); exact rfl; exact rfl; exact rfl; exact rfl; exact rfl) | ((with_reducible apply ai_x); exact rfl; exact rfl; exact rfl; exact rfl; exact rfl)) | ((with_reducible apply rd_id); first | (apply Rd.own; (repeat (first | exact P0 | apply P1)); first | exact q0 | exact q1 | exact q2 | exact r0 | exact r1 | exact r2; done) | (apply Rd.own; (repeat (first | exact P0 | apply P1)); exact rfl; done)) | ((with_reducible apply t_id); first | (apply t_mix (id := 5) [0, 1] 46 #[false, false, false, false, false, false, false, false, false, false, false, false, false, false, false, false, false, false, false, false, false, false, false, false, false, false, false, false, false, false, false, false, false, false, false, false, false, false, false, false, false, false, false, false, false, false, false, false]; kernel_rfl; kernel_rfl; exact rfl) | ((with_reducible apply t_seq)) | (apply t_region; kernel_rfl) | ((with_reducible apply t_condT); exact rfl) | ((with_reducible apply t_condF); exact rfl) | ((with_reducible apply t_skip)) | ((with_reducible apply t_block))) | with_reducible apply q_thenN | with_reducible apply q_blockN | exact P0 | exact Rdn.zero | apply Rdn.succ | ((with_reducible apply Norm.nil); exact rfl) | ((with_reducible apply Norm.cons); exact rfl) | ((with_reducible apply al_id); first | (apply al_more [4, 5, 6, 7, 8, 9, 10, 11, 12, 13, 14, 15, 16, 17, 18, 19, 20, 21, 22, 23, 24, 25, 26, 27, 28, 29, 30, 31, 32, 33, 34, 35, 36, 37, 38, 39, 40, 41, 42, 43, 44, 45, 46, 47] 0; decide +kernel; exact rfl; exact rfl; focus (repeat (first | exact HpSub.refl _ | (apply HpSub.cons; (repeat (first | exact P0 | apply P1))) | apply HpSub.skipX | exact HpSub.nil))) | (apply al_done; decide +kernel) | (apply al_one 2; decide +kernel) | (apply al_one 3; decide +kernel)) | exact Nat.le_of_ble_eq_true rfl)
          all_goals (refine ⟨1, ⟨by omega, hnext fun y hy => by rw [hx] at hy; cases hy; exact ⟨hxo, fun p hp => by omega⟩⟩, (by omega), ?_, ?_⟩ <;> (try simp only [List.cons_append, List.nil_append]) <;> (repeat' (first | exact FrSub.nil | (apply FrSub.cons; exact rfl) | (apply HpSub.consE; (repeat (first | exact P0 | apply P1)); exact rfl) | exact HpSub.nil)))
        obtain ⟨y, hy⟩ : ∃ y, S[k - 1]? = some y := ⟨_, List.getElem?_eq_getElem (by omega)⟩
        obtain ⟨r0, r1, r2⟩ := sh_at hy
        by_cases h5 : y.who = x.who
        · by_cases h6 : y.to ≤ x.fr
          · repeat' (first | ((with_reducible apply oq_id); first | (focus ((with_reducible apply oq_indexAddrN); exact rfl; exact rfl; exact rfl; exact rfl; omega)) | ((with_reducible apply oq_subE (k := ((k - 1 : Nat) : Int))); exact rfl; exact rfl; omega) | ((with_reducible apply oq_lssT); exact rfl; exact rfl; omega) | ((with_reducible apply oq_lssF); exact rfl; exact rfl; omega) | ((with_reducible apply oq_geqF); exact rfl; exact rfl; omega) | ((with_reducible apply oq_gtrT); exact rfl; exact rfl; omega) | ((with_reducible apply oq_gtrF); exact rfl; exact rfl; omega) | ((with_reducible apply oq_eqlT); exact rfl; exact rfl; omega) | (apply oq_fn; exact rfl; first | exact trivial | (refine ⟨?_, ?_⟩ <;> omega) | (refine ⟨?_, ?_, ?_⟩ <;> omega) | omega | skip) | ((with_reducible apply oq_load); exact rfl; exact rfl) | ((with_reducible apply oq_loadAgg); exact rfl; exact rfl) | ((with_reducible apply oq_call (k := 63) (hc := Try.call63)); exact rfl; exact rfl; exact fun D w1 hw1 => fromOne hq hw1 (by (repeat (first | exact P0 | apply P1))))) | ((with_reducible apply tl_id); first | ((with_reducible apply tl_nil)) | ((with_reducible apply u_q); exact rfl; exact rfl; exact rfl; exact rfl) | ((with_reducible apply u_s0); exact rfl; exact rfl) | ((with_reducible apply u_s); exact rfl; exact rfl; exact rfl)) | ((with_reducible apply gx_id); first | ((with_reducible apply v_nil)) | ((with_reducible apply v_q); exact rfl; exact rfl; exact rfl)) | ((with_reducible apply os_id); first | ((with_reducible apply os_x); exact rfl) | ((with_reducible apply os_storeAgg); exact rfl; exact rfl; exact rfl; exact rfl; exact rfl)) | ((with_reducible apply ox_id); first | ((with_reducible apply ox_alloc); exact rfl; intro _) | ((with_reducible apply ox_buildSlice1); exact rfl; exact rfl; exact rfl; exact rfl; exact rfl; exact rfl; intro _)) | ((with_reducible apply ai_id); first | ((with_reducible apply ai_q); exact rfl; exact rfl; exact rfl; exact rfl; exact rfl) | ((with_reducible apply ai_x); exact rfl; exact rfl; exact rfl; exact rfl; exact rfl)) | ((with_reducible apply rd_id); first | (apply Rd.own; (repeat (first | exact P0 | apply P1)); first | exact q0 | exact q1 | exact q2 | exact r0 | exact r1 | exact r2; done) | (apply Rd.own; (repeat (first | exact P0 | apply P1)); exact rfl; done)) | ((with_reducible apply t_id); first | (apply t_mix (id := 5) [0, 1] 46 #[false, false, false, false, false, false, false, false, false, false, false, false, false, false, false, false, false, false, false, false, false, false, false, false, false, false, false, false, false, false, false, false, false, false, false, false, false, false, false, false, false, false, false, false, false, false, false, false]; kernel_rfl; kernel_rfl; exact rfl) | ((with_reducible apply t_seq)) | (apply t_region; kernel_rfl) | ((with_reducible apply t_condT); exact rfl) | ((with_reducible apply t_condF); exact rfl) | ((with_reducible apply t_skip)) | ((with_reducible apply t_block))) | with_reducible apply q_thenN | with_reducible apply q_blockN | exact P0 | exact Rdn.zero | apply Rdn.succ | ((with_reducible apply Norm.nil); exact rfl) | ((with_reducible apply Norm.cons); exact rfl) | ((with_reducible apply al_id); first | (apply al_more [4, 5, 6, 7, 8, 9, 10, 11, 12, 13, 14, 15, 16, 17, 18, 19, 20, 21, 22, 23, 24, 25, 26, 27, 28, 29, 30, 31, 32, 33, 34, 35, 36, 37, 38, 39, 40, 41, 42, 43, 44, 45, 46, 47] 0; decide +kernel; exact rfl; exact rfl; focus (repeat (first | exact HpSub.refl _ | (apply HpSub.cons; (repeat (first | exact P0 | apply P1))) | apply HpSub.skipX | exact HpSub.nil))) | (apply al_done; decide +kernel) | (apply al_one 2; decide +kernel) | (apply al_one 3; decide +kernel)) | exact Nat.le_of_ble_eq_true rfl)
            all_goals (refine ⟨(k + 1), ⟨by omega, hnext fun z hz => by rw [hx] at hz; cases hz; exact ⟨hxo, fun p _ hp _ => by rw [hy] at hp; cases hp; exact h6⟩⟩, (by omega), ?_, ?_⟩ <;> (try simp only [List.cons_append, List.nil_append]) <;> (repeat' (first | exact FrSub.nil | (apply FrSub.cons; exact rfl) | (apply HpSub.consE; (repeat (first | exact P0 | apply P1)); exact rfl) | exact HpSub.nil)))
          · rw [hno fun h => h6 ((h x hx).2 y (by omega) hy h5)]
            repeat' (first | ((with_reducible apply oq_id); first | (focus ((with_reducible apply oq_indexAddrN); exact rfl; exact rfl; exact rfl; exact rfl; omega)) | ((with_reducible apply oq_subE (k := ((k - 1 : Nat) : Int))); exact rfl; exact rfl; omega) | ((with_reducible apply oq_lssT); exact rfl; exact rfl; omega) | ((with_reducible apply oq_lssF); exact rfl; exact rfl; omega) | ((with_reducible apply oq_geqF); exact rfl; exact rfl; omega) | ((with_reducible apply oq_gtrT); exact rfl; exact rfl; omega) | ((with_reducible apply oq_gtrF); exact rfl; exact rfl; omega) | ((with_reducible apply oq_eqlT); exact rfl; exact rfl; omega) | (apply oq_fn; exact rfl; first | exact trivial | (refine ⟨?_, ?_⟩ <;> omega) | (refine ⟨?_, ?_, ?_⟩ <;> omega) | omega | skip) | ((with_reducible apply oq_load); exact rfl; exact rfl) | ((with_reducible apply oq_loadAgg); exact rfl; exact rfl) | ((with_reducible apply oq_call (k := 63) (hc := Try.call63)); exact rfl; exact rfl; exact fun D w1 hw1 => fromOne hq hw1 (by (repeat (first | exact P0 | apply P1))))) | ((with_reducible apply tl_id); first | ((with_reducible apply tl_nil)) | ((with_reducible apply u_q); exact rfl; exact rfl; exact rfl; exact rfl) | ((with_reducible apply u_s0); exact rfl; exact rfl) | ((with_reducible apply u_s); exact rfl; exact rfl; exact rfl)) | ((with_reducible apply gx_id); first | ((with_reducible apply v_nil)) | ((with_reducible apply v_q); exact rfl; exact rfl; exact rfl)) | ((with_reducible apply os_id); first | ((with_reducible apply os_x); exact rfl) | ((with_reducible apply os_storeAgg); exact rfl; exact rfl; exact rfl; exact rfl; exact rfl)) | ((with_reducible apply ox_id); first | ((with_reducible apply ox_alloc); exact rfl; intro _) | ((with_reducible apply ox_buildSlice1); exact rfl; exact rfl; exact rfl; exact rfl; exact rfl; exact rfl; intro _)) | ((with_reducible apply ai_id); first | ((with_reducible apply ai_q); exact rfl; exact rfl; exact rfl; exact rfl; exact rfl) | ((with_reducible apply ai_x); exact rfl; exact rfl; exact rfl; exact rfl; exact rfl)) | ((with_reducible apply rd_id); first | (apply Rd.own; (repeat (first | exact P0 | apply P1)); first | exact q0 | exact q1 | exact q2 | exact r0 | exact r1 | exact r2; done) | (apply Rd.own; (repeat (first | exact P0 | apply P1)); exact rfl; done)) | ((with_reducible apply t_id); first | (apply t_mix (id := 5) [0, 1] 46 #[false, false, false, false, false, false, false, false, false, false, false, false, false, false, false, false, false, false, false, false, false, false, false, false, false, false, false, false, false, false, false, false, false, false, false, false, false, false, false, false, false, false, false, false, false, false, false, false]; kernel_rfl; kernel_rfl; exact rfl) | ((with_reducible apply t_seq)) | (apply t_region; kernel_rfl) | ((with_reducible apply t_condT); exact rfl) | ((with_reducible apply t_ret)) | ((with_reducible apply t_skip)) | ((with_reducible apply t_block))) | with_reducible apply q_thenN | with_reducible apply q_thenR | with_reducible apply q_blockR | exact P0 | exact Rdn.zero | apply Rdn.succ | ((with_reducible apply Norm.nil); exact rfl) | ((with_reducible apply Norm.cons); exact rfl) | ((with_reducible apply end_ret)) | exact rvs_nil | ((with_reducible apply rvs_cons)) | ((with_reducible apply rv_tmp); exact rfl) | ((with_reducible apply al_id); first | (apply al_more [4, 5, 6, 7, 8, 9, 10, 11, 12, 13, 14, 15, 16, 17, 18, 19, 20, 21, 22, 23, 24, 25, 26, 27, 28, 29, 30, 31, 32, 33, 34, 35, 36, 37, 38, 39, 40, 41, 42, 43, 44, 45, 46, 47] 0; decide +kernel; exact rfl; exact rfl; focus (repeat (first | exact HpSub.refl _ | (apply HpSub.cons; (repeat (first | exact P0 | apply P1))) | apply HpSub.skipX | exact HpSub.nil))) | (apply al_done; decide +kernel) | (apply al_one 2; decide +kernel) | (apply al_one 3; decide +kernel)) | exact Nat.le_of_ble_eq_true rfl)
            all_goals rfl
        · repeat' (first | ((with_reducible apply oq_id); first | (focus ((with_reducible apply oq_indexAddrN); exact rfl; exact rfl; exact rfl; exact rfl; omega)) | ((with_reducible apply oq_subE (k := ((k - 1 : Nat) : Int))); exact rfl; exact rfl; omega) | ((with_reducible apply oq_lssT); exact rfl; exact rfl; omega) | ((with_reducible apply oq_lssF); exact rfl; exact rfl; omega) | ((with_reducible apply oq_geqF); exact rfl; exact rfl; omega) | ((with_reducible apply oq_gtrT); exact rfl; exact rfl; omega) | ((with_reducible apply oq_gtrF); exact rfl; exact rfl; omega) | ((with_reducible apply oq_eqlF); exact rfl; exact rfl; omega) | (apply oq_fn; exact rfl; first | exact trivial | (refine ⟨?_, ?_⟩ <;> omega) | (refine ⟨?_, ?_, ?_⟩ <;> omega) | omega | skip) | ((with_reducible apply oq_load); exact rfl; exact rfl) | ((with_reducible apply oq_loadAgg); exact rfl; exact rfl) | ((with_reducible apply oq_call (k := 63) (hc := Try.call63)); exact rfl; exact rfl; exact fun D w1 hw1 => fromOne hq hw1 (by (repeat (first | exact P0 | apply P1))))) | ((with_reducible apply tl_id); first | ((with_reducible apply tl_nil)) | ((with_reducible apply u_q); exact rfl; exact rfl; exact rfl; exact rfl) | ((with_reducible apply u_s0); exact rfl; exact rfl) | ((with_reducible apply u_s); exact rfl; exact rfl; exact rfl)) | ((with_reducible apply gx_id); first | ((with_reducible apply v_nil)) | ((with_reducible apply v_q); exact rfl; exact rfl; exact rfl) | ((with_reducible apply v_skip); exact rfl; exact rfl; exact rfl)) | ((with_reducible apply os_id); first | ((with_reducible apply os_x); exact rfl) | ((with_reducible apply os_storeAgg); exact rfl; exact rfl; exact rfl; exact rfl; exact rfl)) | ((with_reducible apply ox_id); first | ((with_reducible apply ox_alloc); exact rfl; intro _) | ((with_reducible apply ox_buildSlice1); exact rfl; exact rfl; exact rfl; exact rfl; exact rfl; exact rfl; intro _)) | ((with_reducible apply ai_id); first | ((with_reducible apply ai_q); exact rfl; exact rfl; exact rfl; exact rfl; exact rfl) | ((with_reducible apply ai_x); exact rfl; exact rfl; exact rfl; exact rfl; exact rfl)) | ((with_reducible apply rd_id); first | (apply Rd.own; (repeat (first | exact P0 | apply P1)); first | exact q0 | exact q1 | exact q2 | exact r0 | exact r1 | exact r2; done) | (apply Rd.own; (repeat (first | exact P0 | apply P1)); exact rfl; done)) | ((with_reducible apply t_id); first | (apply t_mix (id := 5) [0, 1] 46 #[false, false, false, false, false, false, false, false, false, false, false, false, false, false, false, false, false, false, false, false, false, false, false, false, false, false, false, false, false, false, false, false, false, false, false, false, false, false, false, false, false, false, false, false, false, false, false, false]; kernel_rfl; kernel_rfl; exact rfl) | ((with_reducible apply t_seq)) | (apply t_region; kernel_rfl) | ((with_reducible apply t_condT); exact rfl) | ((with_reducible apply t_condF); exact rfl) | ((with_reducible apply t_skip)) | ((with_reducible apply t_block))) | with_reducible apply q_thenN | with_reducible apply q_blockN | exact P0 | exact Rdn.zero | apply Rdn.succ | ((with_reducible apply Norm.nil); exact rfl) | ((with_reducible apply Norm.cons); exact rfl) | ((with_reducible apply al_id); first | (apply al_more [4, 5, 6, 7, 8, 9, 10, 11, 12, 13, 14, 15, 16, 17, 18, 19, 20, 21, 22, 23, 24, 25, 26, 27, 28, 29, 30, 31, 32, 33, 34, 35, 36, 37, 38, 39, 40, 41, 42, 43, 44, 45, 46, 47] 0; decide +kernel; exact rfl; exact rfl; focus (repeat (first | exact HpSub.refl _ | (apply HpSub.cons; (repeat (first | exact P0 | apply P1))) | apply HpSub.skipX | exact HpSub.nil))) | (apply al_done; decide +kernel) | (apply al_one 2; decide +kernel) | (apply al_one 3; decide +kernel)) | exact Nat.le_of_ble_eq_true rfl)
          all_goals (refine ⟨(k + 1), ⟨by omega, hnext fun z hz => by rw [hx] at hz; cases hz; exact ⟨hxo, fun p _ hp hpw => by rw [hy] at hp; cases hp; exact absurd hpw h5⟩⟩, (by omega), ?_, ?_⟩ <;> (try simp only [List.cons_append, List.nil_append]) <;> (repeat' (first | exact FrSub.nil | (apply FrSub.cons; exact rfl) | (apply HpSub.consE; (repeat (first | exact P0 | apply P1)); exact rfl) | exact HpSub.nil)))
    · rw [decide_eq_true (hfa.2 fun j hj => hok j (by omega))]
      repeat' (first | ((with_reducible apply oq_id); first | ((with_reducible apply oq_lssF); exact rfl; exact rfl; omega) | (apply oq_fn; exact rfl; first | exact trivial | (refine ⟨?_, ?_⟩ <;> omega) | (refine ⟨?_, ?_, ?_⟩ <;> omega) | omega | skip)) | ((with_reducible apply tl_id); first | ((with_reducible apply tl_nil)) | ((with_reducible apply u_q); exact rfl; exact rfl; exact rfl; exact rfl)) | ((with_reducible apply t_id); first | ((with_reducible apply t_seq)) | (apply t_region; kernel_rfl) | ((with_reducible apply t_condF); exact rfl) | ((with_reducible apply t_ret)) | ((with_reducible apply t_exit))) | with_reducible apply q_thenN | with_reducible apply q_thenE | ((with_reducible apply q_blockE); exact rfl) | ((with_reducible apply end_ret)) | exact rvs_nil | ((with_reducible apply rvs_cons)) | ((with_reducible apply rv_tmp); exact rfl))
      all_goals rfl
theorem rosR_calls (A : Option Addr) (n c : Nat) (l : List Sh) (w : World) (hr : RdS w 3 A n (l.map shCells)) (hA : A = none → n = 0 ∧ c = 0) (hn : n ≤ 1000000) :
    Calls Try.prog 46 #[.slice A n c] w fun e w' => e = .returned (.int .i64 (rosE l)) ∧ Ext w w' := by
  have hl := hr.len
  simp only [List.length_map] at hl
  unfold rosE
  by_cases h1 : 40 < l.length
  · rw [if_pos h1]
    refine enterQ (c := cx w 11) Try.func46 rfl rfl rfl rfl ?_
    repeat' (first | ((with_reducible apply oq_id); first | ((with_reducible apply oq_gtrT); exact rfl; exact rfl; omega) | (apply oq_fn; exact rfl; first | exact trivial | (refine ⟨?_, ?_⟩ <;> omega) | (refine ⟨?_, ?_, ?_⟩ <;> omega) | omega | skip)) | ((with_reducible apply tl_id); first | ((with_reducible apply tl_nil)) | ((with_reducible apply u_q); exact rfl; exact rfl; exact rfl; exact rfl)) | ((with_reducible apply t_id); first | ((with_reducible apply t_seq)) | (apply t_region; kernel_rfl) | ((with_reducible apply t_condT); exact rfl) | ((with_reducible apply t_ret)) | ((with_reducible apply t_block))) | with_reducible apply q_thenN | with_reducible apply q_thenR | with_reducible apply q_blockR | ((with_reducible apply end_ret)) | exact rvs_nil | ((with_reducible apply rvs_cons)) | ((with_reducible apply rv_tmp); exact rfl))
    all_goals rfl
  · rw [if_neg h1]
    have HF := fun w1 h => fitsR_calls A n c l w1 h hA hn
    by_cases h2 : Ros l
    · rw [if_pos h2]
      rw [decide_eq_true h2] at HF
      refine enterQ (c := cx w 11) Try.func46 rfl rfl rfl rfl ?_
      repeat' (first | ((with_reducible apply oq_id); first | ((with_reducible apply oq_gtrF); exact rfl; exact rfl; omega) | (apply oq_fn; exact rfl; first | exact trivial | (refine ⟨?_, ?_⟩ <;> omega) | (refine ⟨?_, ?_, ?_⟩ <;> omega) | omega | skip) | ((with_reducible apply oq_call (k := 84) (hc := Try.call84)); exact rfl; exact rfl; exact fun D w1 hw1 => HF w1 (hr.ext hw1.ext.ext))) | ((with_reducible apply tl_id); first | ((with_reducible apply tl_nil)) | ((with_reducible apply u_q); exact rfl; exact rfl; exact rfl; exact rfl)) | ((with_reducible apply t_id); first | ((with_reducible apply t_seq)) | (apply t_region; kernel_rfl) | ((with_reducible apply t_condF); exact rfl) | ((with_reducible apply t_ret)) | ((with_reducible apply t_skip)) | ((with_reducible apply t_block))) | with_reducible apply q_thenN | with_reducible apply q_blockN | ((with_reducible apply end_ret)) | exact rvs_nil | ((with_reducible apply rvs_cons)) | ((with_reducible apply rv_tmp); exact rfl))
      all_goals rfl
    · rw [if_neg h2]
      rw [decide_eq_false h2] at HF
      refine enterQ (c := cx w 11) Try.func46 rfl rfl rfl rfl ?_
      repeat' (first | ((with_reducible apply oq_id); first | ((with_reducible apply oq_gtrF); exact rfl; exact rfl; omega) | (apply oq_fn; exact rfl; first | exact trivial | (refine ⟨?_, ?_⟩ <;> omega) | (refine ⟨?_, ?_, ?_⟩ <;> omega) | omega | skip) | ((with_reducible apply oq_call (k := 84) (hc := Try.call84)); exact rfl; exact rfl; exact fun D w1 hw1 => HF w1 (hr.ext hw1.ext.ext))) | ((with_reducible apply tl_id); first | ((with_reducible apply tl_nil)) | ((with_reducible apply u_q); exact rfl; exact rfl; exact rfl; exact rfl)) | ((with_reducible apply t_id); first | ((with_reducible apply t_seq)) | (apply t_region; kernel_rfl) | ((with_reducible apply t_condT); exact rfl) | ((with_reducible apply t_condF); exact rfl) | ((with_reducible apply t_ret)) | ((with_reducible apply t_block))) | with_reducible apply q_thenN | with_reducible apply q_thenR | with_reducible apply q_blockR | ((with_reducible apply end_ret)) | exact rvs_nil | ((with_reducible apply rvs_cons)) | ((with_reducible apply rv_tmp); exact rfl))
      all_goals rfl

end Go.Proofs.Ytmlmgipngbndgaa
/- Who is tired, as the program finds it. -/
namespace Go.Proofs.Ytmlmgipngbndgaa
open Go.RowKit
attribute [local irreducible] OQ OS OX Rd T TL GX GL AL AI RV wpG SAny Calls
set_option maxRecDepth 100000
set_option maxHeartbeats 2000000
set_option linter.unusedVariables false
set_option linter.unusedSimpArgs false

theorem hp_left {G R : Hp} : HpSub (G ++ R) G := by
  induction G with
  | nil => exact HpSub.nil
  | cons x G ih => obtain ⟨b, C, g⟩ := x; exact HpSub.cons P0 ih
def tiB (l : List Ti) : List Value := (l.map tiCells).flatten
theorem tiB_len (l : List Ti) : (tiB l).length = l.length * 3 := flat_len (s := 3) (fun _ => rfl) l
theorem tiB_app (l m : List Ti) : tiB (l ++ m) = tiB l ++ tiB m := by unfold tiB; rw [List.map_append, List.flatten_append]
/-- What tired hands out. -/
def TiO (T : List Ti) (v : Value) (H : Hp) : Prop := ∃ x, (x = none → T.length = 0) ∧ v = .slice (clA x) T.length (clC x) ∧ H = clH 99 3 (tiB T) x
def ArrP (S : List Sh) (v : Value) (H : Hp) : Prop := ∃ x, (x = none → S.length = 0) ∧ S.length ≤ clC x ∧ v = .slice (clA x) S.length (clC x) ∧ H = clH 101 3 (shB S) x
theorem arrangedP_T (A : Option Addr) (n c : Nat) (l : List Sh) (w : World) (hr : RdS w 3 A n (l.map shCells)) (hA : A = none → n = 0 ∧ c = 0) (hn : n ≤ 1000000) :
    Calls Try.prog 110 #[.slice A n c, .func (.func 111) #[] #[]] w fun e w' => ∃ v H', e = .returned v ∧ ArrP (srtS l) v H' ∧ Has w ⟨[], []⟩ H' w' :=
  (arranged_T A n c l w hr hA hn).mono fun e w' ⟨v, H', h1, ⟨x, h2, h3, h4⟩, h5⟩ => ⟨v, H', h1, ⟨x, h2, by
    rcases x with _ | ⟨g, cp⟩
    · rw [h2 rfl]; exact Nat.zero_le _
    · subst h4
      have := h5.capge P0
      rw [sh_flat_len] at this
      simp only [clC]
      omega, h3, h4⟩, h5⟩
/-- The minutes so far. -/
def wkJ (S : List Sh) (i : Nat) (x : Sh) (win : Int) (j : Nat) : Int := (((S.drop i).take j).map (minT x win)).sum
theorem wkJ_succ {S : List Sh} {i j : Nat} {x y : Sh} {win : Int} (h : S[i + j]? = some y) : wkJ S i x win (j + 1) = wkJ S i x win j + minT x win y := by
  unfold wkJ
  rw [List.take_add_one, List.getElem?_drop, h]
  simp
theorem wkJ_all {S : List Sh} {i : Nat} {x : Sh} {win : Int} {j : Nat} (h : S.length ≤ i + j) : wkJ S i x win j = workT S i x win := by
  unfold wkJ workT
  rw [List.take_of_length_le (by simp; omega)]
theorem wkJ_in {S : List Sh} (hS : ∀ y ∈ S, shOk y) {i : Nat} {x : Sh} {win : Int} : ∀ {j : Nat}, i + j ≤ S.length → 0 ≤ wkJ S i x win j ∧ wkJ S i x win j ≤ (j : Int) * 1000000
  | 0, _ => by simp [wkJ]
  | j + 1, h => by
    obtain ⟨y, hy⟩ : ∃ y, S[i + j]? = some y := ⟨_, List.getElem?_eq_getElem (by omega)⟩
    have ih := wkJ_in hS (i := i) (x := x) (win := win) (show i + j ≤ S.length by omega)
    have ho := hS y (List.mem_of_getElem? hy)
    unfold shOk at ho
    rw [wkJ_succ hy]
    have : 0 ≤ minT x win y ∧ minT x win y ≤ 1000000 := by unfold minT; split <;> omega
    rw [show ((j + 1 : Nat) : Int) * 1000000 = (j : Int) * 1000000 + 1000000 by omega]
    omega
/-- The first k kinds of cases of a shift. -/
def casK (a b c : Bool) (x : Sh) : Nat → List Ti
  | 0 => []
  | 1 => (if a then [⟨1, x.who, x.fr⟩] else [])
  | 2 => (if a then [⟨1, x.who, x.fr⟩] else []) ++ (if b then [⟨2, x.who, x.fr⟩] else [])
  | _ => (if a then [⟨1, x.who, x.fr⟩] else []) ++ ((if b then [⟨2, x.who, x.fr⟩] else []) ++ (if c then [⟨3, x.who, x.fr⟩] else []))
theorem casK_all {d : Du} {S : List Sh} {i : Nat} {x : Sh} {a b c : Bool} (ha : a = decide (x.to - x.fr > d.most)) (hb : b = restB d S i x) (hc : c = decide (workV S x.who x.fr (x.fr + d.win) > d.sum)) : casK a b c x 3 = casV d S i x := by
  subst ha hb hc
  unfold casK casV
  simp only [decide_eq_true_eq]
theorem casK_len (a b c : Bool) (x : Sh) (k : Nat) : (casK a b c x k).length ≤ 3 := by
  rcases k with _ | _ | _ | k <;> cases a <;> cases b <;> cases c <;> simp [casK]
theorem tiTo_len (d : Du) (S : List Sh) : ∀ k, (tiTo d S k).length ≤ 3 * k
  | 0 => Nat.le_refl _
  | k + 1 => by
    show (tiTo d S k ++ casAt d S k).length ≤ _
    rw [List.length_append]
    have := tiTo_len d S k
    have : (casAt d S k).length ≤ 3 := by
      unfold casAt
      split
      · rename_i x _
        rw [← casK_all (d := d) (S := S) (i := k) (x := x) rfl rfl rfl]
        exact casK_len _ _ _ _ _
      · exact Nat.zero_le _
    omega

theorem tiredR_T (d : Du) (hd : duB d) (A : Option Addr) (n c : Nat) (l : List Sh) (w : World) (hr : RdS w 3 A n (l.map shCells)) (hA : A = none → n = 0 ∧ c = 0) (hn : n ≤ 1000) (hRos : Ros l) :
    Calls Try.prog 82 #[.agg #[.int .i64 d.most, .int .i64 d.rest, .int .i64 d.win, .int .i64 d.sum], .slice A n c] w fun e w' => ∃ v H', e = .returned v ∧ TiO (tiV d l) v H' ∧ Has w ⟨[], []⟩ H' w' := by
  have hl := hr.len
  simp only [List.length_map] at hl
  obtain ⟨S, hS⟩ : ∃ S, srtS l = S := ⟨_, rfl⟩
  have hsl : S.length = n := by rw [← hS, srtS, srt_len, hl]
  have hfit : Fit S := by rw [← hS]; exact (fitS_iff l).2 hRos
  have hsrt : Srt ltS S := by rw [← hS]; exact srt_srt woS l
  have hall : ∀ y ∈ S, shOk y := fun y hy => hRos.1 y ((srt_perm l).mem_iff.1 (by rw [← hS] at hy; exact hy))
  have hti : tiV d l = tiTo d S n := by unfold tiV; rw [hS, hl]
  obtain ⟨⟨dm1, dm2⟩, ⟨dr1, dr2⟩, ⟨dw1, dw2⟩, ds1, ds2⟩ := hd
  refine enterF (c := cx w 114) Try.func82 rfl rfl rfl rfl ?_
  refine t_cut (ι := Nat) (fun b2 => [(1, .slice A n c), (2, .pointer (some ⟨b2, 0, none⟩))]) (fun b2 => [(b2, [.int .i64 d.most, .int .i64 d.rest, .int .i64 d.win, .int .i64 d.sum], some (74, 4, 1))]) (fun _ => True) ?_ ?_
  · repeat' (first | ((with_reducible apply oq_id); first | (apply oq_fn; exact rfl; first | exact trivial | (refine ⟨?_, ?_⟩ <;> omega) | (refine ⟨?_, ?_, ?_⟩ <;> omega) | omega | skip)) | ((with_reducible apply tl_id); first | ((with_reducible apply tl_nil)) | ((with_reducible apply u_q); exact rfl; exact rfl; exact rfl; exact rfl) | ((with_reducible apply u_s); exact rfl; exact rfl; exact rfl)) | ((with_reducible apply os_id); first | ((with_reducible apply os_x); exact rfl)) | ((with_reducible apply ox_id); first | ((with_reducible apply ox_boxAgg); exact rfl; intro _)) | ((with_reducible apply t_id); first | (apply t_region; kernel_rfl)))
    all_goals exact ⟨rfl, _, trivial, by (repeat (first | exact FrSub.nil | (apply FrSub.cons; exact rfl))), by (repeat (first | exact HpSub.refl _ | (apply HpSub.consE; (repeat (first | exact P0 | apply P1 | apply PA)); exact rfl) | exact HpSub.nil))⟩
  rintro b2 -
  refine t_cut (ι := Unit) (fun _ => [(1, .slice A n c), (2, .pointer (some ⟨b2, 0, none⟩)), (5, .slice none 0 0)]) (fun _ => [(b2, [.int .i64 d.most, .int .i64 d.rest, .int .i64 d.win, .int .i64 d.sum], some (74, 4, 1))]) (fun _ => True) ?_ ?_
  · repeat' (first | ((with_reducible apply oq_id); first | (apply oq_fn; exact rfl; first | exact trivial | (refine ⟨?_, ?_⟩ <;> omega) | (refine ⟨?_, ?_, ?_⟩ <;> omega) | omega | skip)) | ((with_reducible apply tl_id); first | ((with_reducible apply tl_nil)) | ((with_reducible apply u_q); exact rfl; exact rfl; exact rfl; exact rfl)) | ((with_reducible apply t_id); first | (apply t_region; kernel_rfl)))
    all_goals exact ⟨rfl, (), trivial, by (repeat (first | exact FrSub.nil | (apply FrSub.cons; exact rfl))), by (repeat (first | exact HpSub.refl _ | (apply HpSub.consE; (repeat (first | exact P0 | apply P1 | apply PA)); exact rfl) | exact HpSub.nil))⟩
  rintro ⟨⟩ -
  refine t_cut (ι := Option (Nat × Nat)) (fun x => [(1, .slice (clA x) n (clC x)), (2, .pointer (some ⟨b2, 0, none⟩)), (5, .slice none 0 0)]) (fun x => clH 101 3 (shB S) x ++ [(b2, [.int .i64 d.most, .int .i64 d.rest, .int .i64 d.win, .int .i64 d.sum], some (74, 4, 1))]) (fun x => (x = none → n = 0) ∧ n ≤ clC x) ?_ ?_
  · repeat' (first | ((with_reducible apply oq_id); first | (apply oq_fn; exact rfl; first | exact trivial | (refine ⟨?_, ?_⟩ <;> omega) | (refine ⟨?_, ?_, ?_⟩ <;> omega) | omega | skip)) | ((with_reducible apply tl_id); first | ((with_reducible apply tl_nil)) | ((with_reducible apply u_s); exact rfl; exact rfl; exact rfl; (with_reducible apply os_callF (PV := ArrP S) (k := 110) (hc := Try.call110)); exact rfl; exact rfl; exact fun D w1 hw1 => (by rw [← hS]; exact arrangedP_T A n c l w1 (hr.ext hw1.ext.ext) hA (by omega)); rintro v H' ⟨x, hx, hcx, rfl, rfl⟩; (try simp only [List.append_nil])) | ((with_reducible apply u_q); exact rfl; exact rfl; exact rfl; exact rfl)) | ((with_reducible apply t_id); first | (apply t_region; kernel_rfl)))
    all_goals (rw [hsl] at hx hcx)
    all_goals exact ⟨by trivial, x, ⟨hx, hcx⟩, by (rw [hsl]; (repeat (first | exact FrSub.nil | (apply FrSub.cons; exact rfl)))), by (repeat (first | exact HpSub.refl _ | (apply HpSub.consE; (repeat (first | exact P0 | apply P1 | apply PA)); exact rfl) | apply HpSub.appC | apply HpSub.skipX | apply HpSub.skip | apply HpSub.skipApp | exact HpSub.nil))⟩
  rintro x ⟨hx, hcx⟩
  rcases x with _ | ⟨g, cp⟩
  · obtain rfl := hx rfl
    simp only [clA, clC, clH, List.nil_append]
    rw [hti]
    repeat' (first | ((with_reducible apply oq_id); first | (apply oq_fn; exact rfl; first | exact trivial | (refine ⟨?_, ?_⟩ <;> omega) | (refine ⟨?_, ?_, ?_⟩ <;> omega) | omega | skip)) | ((with_reducible apply tl_id); first | ((with_reducible apply tl_nil)) | ((with_reducible apply u_q); exact rfl; exact rfl; exact rfl; exact rfl)) | ((with_reducible apply t_id); first | ((with_reducible apply t_seq)) | (apply t_region; kernel_rfl) | ((with_reducible apply t_block))) | with_reducible apply q_thenN)
    apply t_loopK (ι := Unit) [1, 2, 16, 17] (fun _ => [(18, .int .i64 0), (5, .slice none 0 0)]) (fun _ => []) (fun _ => True) (fun _ => 0) (())
    (repeat (first | exact KeepF.nil | (apply KeepF.cons; exact rfl) | apply KeepF.skip))
    (repeat (first | exact FrSub.nil | (apply FrSub.cons; exact rfl)))
    (repeat (first | exact HpSub.refl _ | (apply HpSub.consE; (repeat (first | exact P0 | apply P1 | apply PA)); exact rfl) | exact HpSub.nil))
    · trivial
    rintro ⟨⟩ -
    repeat' (first | ((with_reducible apply oq_id); first | ((with_reducible apply oq_lssF); exact rfl; exact rfl; omega) | (apply oq_fn; exact rfl; first | exact trivial | (refine ⟨?_, ?_⟩ <;> omega) | (refine ⟨?_, ?_, ?_⟩ <;> omega) | omega | skip)) | ((with_reducible apply tl_id); first | ((with_reducible apply tl_nil)) | ((with_reducible apply u_q); exact rfl; exact rfl; exact rfl; exact rfl)) | ((with_reducible apply t_id); first | ((with_reducible apply t_seq)) | (apply t_region; kernel_rfl) | ((with_reducible apply t_condF); exact rfl) | ((with_reducible apply t_ret)) | ((with_reducible apply t_exit))) | with_reducible apply q_thenN | with_reducible apply q_thenE | ((with_reducible apply q_blockE); exact rfl) | ((with_reducible apply end_ret)) | exact rvs_nil | ((with_reducible apply rvs_cons)) | ((with_reducible apply rv_tmp); exact rfl))
    all_goals exact ⟨_, ⟨none, fun _ => rfl, rfl, rfl⟩, HpSub.nil⟩
  simp only [clA, clC, clH, List.cons_append, List.nil_append] at hcx ⊢
  repeat' (first | ((with_reducible apply oq_id); first | (apply oq_fn; exact rfl; first | exact trivial | (refine ⟨?_, ?_⟩ <;> omega) | (refine ⟨?_, ?_, ?_⟩ <;> omega) | omega | skip)) | ((with_reducible apply tl_id); first | ((with_reducible apply tl_nil)) | ((with_reducible apply u_q); exact rfl; exact rfl; exact rfl; exact rfl)) | ((with_reducible apply t_id); first | ((with_reducible apply t_seq)) | (apply t_region; kernel_rfl) | ((with_reducible apply t_block))) | with_reducible apply q_thenN)
  apply t_loopK (GH := []) (ι := Nat × Option (Nat × Nat)) [1, 2, 16, 17] (fun z => [(18, .int .i64 (z.1 : Nat)), (5, .slice (clA z.2) (tiTo d S z.1).length (clC z.2))]) (fun z => clH 99 3 (tiB (tiTo d S z.1)) z.2 ++ [(g, shB S, some (101, 3, cp)), (b2, [.int .i64 d.most, .int .i64 d.rest, .int .i64 d.win, .int .i64 d.sum], some (74, 4, 1))]) (fun z => z.1 ≤ n ∧ (z.2 = none → (tiTo d S z.1).length = 0)) (fun z => n - z.1) ((0, none))
  (repeat (first | exact KeepF.nil | (apply KeepF.cons; exact rfl) | apply KeepF.skip))
  (repeat (first | exact FrSub.nil | (apply FrSub.cons; exact rfl) | (apply FrSub.consE; exact rfl; (congr 1))))
  ((try simp only [List.append_nil]); (repeat (first | exact HpSub.refl _ | (apply HpSub.consE; (repeat (first | exact P0 | apply P1 | apply PA)); exact rfl) | apply HpSub.appC | apply HpSub.skipX | apply HpSub.skip | apply HpSub.skipApp | exact HpSub.nil)))
  · exact ⟨Nat.zero_le _, fun _ => rfl⟩
  rintro ⟨i, o⟩ ⟨hi, ho⟩
  simp only at hi ho
  simp only [List.append_nil]
  have htl := tiTo_len d S i
  by_cases hlt : i < n
  · obtain ⟨x, hx⟩ : ∃ x, S[i]? = some x := ⟨_, List.getElem?_eq_getElem (by omega)⟩
    have hxo := hall x (List.mem_of_getElem? hx)
    have hxo' := hxo
    unfold shOk at hxo'
    obtain ⟨q0, q1, q2⟩ := sh_at hx
    refine t_cut (ι := Unit) (fun _ => [(1, .slice (some ⟨g, 0, none⟩) n cp), (2, .pointer (some ⟨b2, 0, none⟩)), (16, .slice (some ⟨g, 0, none⟩) n cp), (17, .int .i64 (n : Nat)), (18, .int .i64 (i : Nat)), (5, .slice (clA o) (tiTo d S i).length (clC o)), (19, .bool true)]) (fun _ => clH 99 3 (tiB (tiTo d S i)) o ++ [(g, shB S, some (101, 3, cp)), (b2, [.int .i64 d.most, .int .i64 d.rest, .int .i64 d.win, .int .i64 d.sum], some (74, 4, 1))]) (fun _ => True) ?_ ?_
    · repeat' (first | ((with_reducible apply oq_id); first | ((with_reducible apply oq_lssT); exact rfl; exact rfl; omega)) | ((with_reducible apply tl_id); first | ((with_reducible apply tl_nil)) | ((with_reducible apply u_q); exact rfl; exact rfl; exact rfl; exact rfl)) | ((with_reducible apply t_id); first | (apply t_region; kernel_rfl)))
      all_goals exact ⟨rfl, (), trivial, by (repeat (first | exact FrSub.nil | (apply FrSub.cons; exact rfl))), by (repeat (first | exact HpSub.refl _ | (apply HpSub.consE; (repeat (first | exact P0 | apply P1 | apply PA)); exact rfl) | apply HpSub.skipX | apply HpSub.skip | exact HpSub.nil))⟩
    rintro ⟨⟩ -
    refine t_cut (ι := Unit) (fun _ => [(1, .slice (some ⟨g, 0, none⟩) n cp), (2, .pointer (some ⟨b2, 0, none⟩)), (16, .slice (some ⟨g, 0, none⟩) n cp), (17, .int .i64 (n : Nat)), (18, .int .i64 (i : Nat)), (5, .slice (clA o) (tiTo d S i).length (clC o))]) (fun _ => clH 99 3 (tiB (tiTo d S i)) o ++ [(g, shB S, some (101, 3, cp)), (b2, [.int .i64 d.most, .int .i64 d.rest, .int .i64 d.win, .int .i64 d.sum], some (74, 4, 1))]) (fun _ => True) ?_ ?_
    · repeat' (first | ((with_reducible apply t_id); first | ((with_reducible apply t_condT); exact rfl) | ((with_reducible apply t_skip))))
      all_goals exact ⟨rfl, (), trivial, by (repeat (first | exact FrSub.nil | (apply FrSub.cons; exact rfl))), by (repeat (first | exact HpSub.refl _ | (apply HpSub.consE; (repeat (first | exact P0 | apply P1 | apply PA)); exact rfl) | apply HpSub.skipX | apply HpSub.skip | exact HpSub.nil))⟩
    rintro ⟨⟩ -
    refine t_cut (ι := Option (Nat × Nat)) (fun o => [(1, .slice (some ⟨g, 0, none⟩) n cp), (2, .pointer (some ⟨b2, 0, none⟩)), (16, .slice (some ⟨g, 0, none⟩) n cp), (17, .int .i64 (n : Nat)), (18, .int .i64 (i : Nat)), (5, .slice (clA o) (tiTo d S (i + 1)).length (clC o))]) (fun o => clH 99 3 (tiB (tiTo d S (i + 1))) o ++ [(g, shB S, some (101, 3, cp)), (b2, [.int .i64 d.most, .int .i64 d.rest, .int .i64 d.win, .int .i64 d.sum], some (74, 4, 1))]) (fun o => o = none → (tiTo d S (i + 1)).length = 0) ?_ ?_
    · refine t_block ?_
      refine t_cut (ι := Nat) (fun b7 => [(1, .slice (some ⟨g, 0, none⟩) n cp), (2, .pointer (some ⟨b2, 0, none⟩)), (16, .slice (some ⟨g, 0, none⟩) n cp), (17, .int .i64 (n : Nat)), (18, .int .i64 (i : Nat)), (5, .slice (clA o) (tiTo d S i).length (clC o)), (6, .int .i64 (i : Nat)), (7, .pointer (some ⟨b7, 0, none⟩))]) (fun b7 => (b7, [.int .i64 x.who, .int .i64 x.fr, .int .i64 x.to], some (101, 3, 1)) :: (clH 99 3 (tiB (tiTo d S i)) o ++ [(g, shB S, some (101, 3, cp)), (b2, [.int .i64 d.most, .int .i64 d.rest, .int .i64 d.win, .int .i64 d.sum], some (74, 4, 1))])) (fun _ => True) ?_ ?_
      · repeat' (first | ((with_reducible apply oq_id); first | (focus ((with_reducible apply oq_indexAddrN); exact rfl; exact rfl; exact rfl; exact rfl; omega)) | (apply oq_fn; exact rfl; first | exact trivial | (refine ⟨?_, ?_⟩ <;> omega) | (refine ⟨?_, ?_, ?_⟩ <;> omega) | omega | skip) | ((with_reducible apply oq_loadAgg); exact rfl; exact rfl)) | ((with_reducible apply tl_id); first | ((with_reducible apply tl_nil)) | ((with_reducible apply u_q); exact rfl; exact rfl; exact rfl; exact rfl) | ((with_reducible apply u_s0); exact rfl; exact rfl) | ((with_reducible apply u_s); exact rfl; exact rfl; exact rfl)) | ((with_reducible apply os_id); first | ((with_reducible apply os_x); exact rfl) | ((with_reducible apply os_storeAgg); exact rfl; exact rfl; exact rfl; exact rfl; exact rfl)) | ((with_reducible apply ox_id); first | ((with_reducible apply ox_alloc); exact rfl; intro _)) | ((with_reducible apply rd_id); first | (apply Rd.own; (repeat (first | exact P0 | apply P1 | apply PA)); first | exact q0 | exact q1 | exact q2 | exact r0 | exact r1 | exact r2; done)) | ((with_reducible apply t_id); first | (apply t_region; kernel_rfl)) | exact P0 | exact Rdn.zero | apply Rdn.succ | ((with_reducible apply Norm.nil); exact rfl) | ((with_reducible apply Norm.cons); exact rfl) | exact Nat.le_of_ble_eq_true rfl)
        all_goals exact ⟨rfl, _, trivial, by (repeat (first | exact FrSub.nil | (apply FrSub.cons; exact rfl))), by (repeat (first | exact HpSub.refl _ | (apply HpSub.consE; (repeat (first | exact P0 | apply P1 | apply PA)); exact rfl) | apply HpSub.appC | apply HpSub.skipX | apply HpSub.skip | apply HpSub.skipApp | exact HpSub.nil))⟩
      rintro b7 -
      refine t_cut (ι := Unit) (fun _ => [(1, .slice (some ⟨g, 0, none⟩) n cp), (2, .pointer (some ⟨b2, 0, none⟩)), (16, .slice (some ⟨g, 0, none⟩) n cp), (17, .int .i64 (n : Nat)), (18, .int .i64 (i : Nat)), (5, .slice (clA o) (tiTo d S i).length (clC o)), (6, .int .i64 (i : Nat)), (7, .pointer (some ⟨b7, 0, none⟩)), (8, .int .i64 0)]) (fun _ => (b7, [.int .i64 x.who, .int .i64 x.fr, .int .i64 x.to], some (101, 3, 1)) :: (clH 99 3 (tiB (tiTo d S i)) o ++ [(g, shB S, some (101, 3, cp)), (b2, [.int .i64 d.most, .int .i64 d.rest, .int .i64 d.win, .int .i64 d.sum], some (74, 4, 1))])) (fun _ => True) ?_ ?_
      · repeat' (first | ((with_reducible apply oq_id); first | (apply oq_fn; exact rfl; first | exact trivial | (refine ⟨?_, ?_⟩ <;> omega) | (refine ⟨?_, ?_, ?_⟩ <;> omega) | omega | skip)) | ((with_reducible apply tl_id); first | ((with_reducible apply tl_nil)) | ((with_reducible apply u_q); exact rfl; exact rfl; exact rfl; exact rfl)) | ((with_reducible apply t_id); first | (apply t_region; kernel_rfl)))
        all_goals exact ⟨rfl, (), trivial, by (repeat (first | exact FrSub.nil | (apply FrSub.cons; exact rfl))), by (repeat (first | exact HpSub.refl _ | (apply HpSub.consE; (repeat (first | exact P0 | apply P1 | apply PA)); exact rfl) | apply HpSub.skipX | apply HpSub.skip | exact HpSub.nil))⟩
      rintro ⟨⟩ -
      refine t_cut (ι := Unit) (fun _ => [(1, .slice (some ⟨g, 0, none⟩) n cp), (2, .pointer (some ⟨b2, 0, none⟩)), (16, .slice (some ⟨g, 0, none⟩) n cp), (17, .int .i64 (n : Nat)), (18, .int .i64 (i : Nat)), (5, .slice (clA o) (tiTo d S i).length (clC o)), (6, .int .i64 (i : Nat)), (7, .pointer (some ⟨b7, 0, none⟩)), (8, .int .i64 (workT S i x d.win))]) (fun _ => (b7, [.int .i64 x.who, .int .i64 x.fr, .int .i64 x.to], some (101, 3, 1)) :: (clH 99 3 (tiB (tiTo d S i)) o ++ [(g, shB S, some (101, 3, cp)), (b2, [.int .i64 d.most, .int .i64 d.rest, .int .i64 d.win, .int .i64 d.sum], some (74, 4, 1))])) (fun _ => True) ?_ ?_
      · repeat' (first | ((with_reducible apply oq_id); first | (focus ((with_reducible apply oq_sliceL (l := i)); exact rfl; exact rfl; exact rfl; exact rfl; omega; omega; omega)) | (apply oq_fn; exact rfl; first | exact trivial | (refine ⟨?_, ?_⟩ <;> omega) | (refine ⟨?_, ?_, ?_⟩ <;> omega) | omega | skip)) | ((with_reducible apply tl_id); first | ((with_reducible apply tl_nil)) | ((with_reducible apply u_q); exact rfl; exact rfl; exact rfl; exact rfl)) | ((with_reducible apply t_id); first | ((with_reducible apply t_seq)) | (apply t_region; kernel_rfl) | ((with_reducible apply t_block))) | with_reducible apply q_thenN)
        apply t_loopK (GH := []) (ι := Nat) [1, 2, 5, 6, 7, 16, 17, 18, 25, 26] (fun j => [(27, .int .i64 (j : Nat)), (8, .int .i64 (wkJ S i x d.win j))]) (fun _ => (b7, [.int .i64 x.who, .int .i64 x.fr, .int .i64 x.to], some (101, 3, 1)) :: (clH 99 3 (tiB (tiTo d S i)) o ++ [(g, shB S, some (101, 3, cp)), (b2, [.int .i64 d.most, .int .i64 d.rest, .int .i64 d.win, .int .i64 d.sum], some (74, 4, 1))])) (fun j => j ≤ n - i) (fun j => n - i - j) (0)
        (repeat (first | exact KeepF.nil | (apply KeepF.cons; exact rfl) | apply KeepF.skip))
        (repeat (first | exact FrSub.nil | (apply FrSub.cons; exact rfl)))
        ((try simp only [List.append_nil]); (repeat (first | exact HpSub.refl _ | (apply HpSub.consE; (repeat (first | exact P0 | apply P1 | apply PA)); exact rfl) | apply HpSub.appC | apply HpSub.skipX | apply HpSub.skip | apply HpSub.skipApp | exact HpSub.nil)))
        · exact Nat.zero_le _
        rintro j hj
        try simp only [List.cons_append, List.nil_append]
        simp only [List.append_nil]
        have hwin := wkJ_in hall (i := i) (x := x) (win := d.win) (j := j) (by omega)
        by_cases hjl : j < n - i
        · obtain ⟨y, hy⟩ : ∃ y, S[i + j]? = some y := ⟨_, List.getElem?_eq_getElem (by omega)⟩
          have hyo := hall y (List.mem_of_getElem? hy)
          unfold shOk at hyo
          have hsu := wkJ_succ (x := x) (win := d.win) hy
          obtain ⟨r0, r1, r2⟩ := sh_at hy
          rw [show 0 + (i + j) * 3 = 0 + i * 3 + j * 3 by omega] at r0 r1 r2
          unfold minT at hsu
          by_cases hyw : y.who = x.who
          · rw [if_pos hyw] at hsu
            repeat' (first | ((with_reducible apply oq_id); first | (focus ((with_reducible apply oq_indexAddrN); exact rfl; exact rfl; exact rfl; exact rfl; omega)) | ((with_reducible apply oq_addE (k := wkJ S i x d.win (j + 1))); exact rfl; exact rfl; omega) | ((with_reducible apply oq_lssT); exact rfl; exact rfl; omega) | ((with_reducible apply oq_eqlT); exact rfl; exact rfl; omega) | (apply oq_fn; exact rfl; first | exact trivial | (refine ⟨?_, ?_⟩ <;> omega) | (refine ⟨?_, ?_, ?_⟩ <;> omega) | omega | skip) | ((with_reducible apply oq_load); exact rfl; exact rfl) | ((with_reducible apply oq_loadAgg); exact rfl; exact rfl)) | ((with_reducible apply tl_id); first | ((with_reducible apply tl_nil)) | ((with_reducible apply u_q); exact rfl; exact rfl; exact rfl; exact rfl) | ((with_reducible apply u_s0); exact rfl; exact rfl) | ((with_reducible apply u_s); exact rfl; exact rfl; exact rfl)) | ((with_reducible apply os_id); first | ((with_reducible apply os_x); exact rfl) | ((with_reducible apply os_storeAgg); exact rfl; exact rfl; exact rfl; exact rfl; exact rfl)) | ((with_reducible apply ox_id); first | ((with_reducible apply ox_alloc); exact rfl; intro _)) | ((with_reducible apply rd_id); first | (apply Rd.own; (repeat (first | exact P0 | apply P1 | apply PA)); first | exact q0 | exact q1 | exact q2 | exact r0 | exact r1 | exact r2; done) | (apply Rd.own; (repeat (first | exact P0 | apply P1 | apply PA)); exact rfl; done)) | ((with_reducible apply t_id); first | ((with_reducible apply t_seq)) | (apply t_region; kernel_rfl) | ((with_reducible apply t_condT); exact rfl) | ((with_reducible apply t_skip)) | ((with_reducible apply t_block))) | with_reducible apply q_thenN | with_reducible apply q_blockN | exact P0 | exact Rdn.zero | apply Rdn.succ | ((with_reducible apply Norm.nil); exact rfl) | ((with_reducible apply Norm.cons); exact rfl) | exact Nat.le_of_ble_eq_true rfl)
            all_goals (refine ⟨j + 1, (by omega), (by omega), ?_, ?_⟩)
            all_goals first
              | ((try simp only [List.cons_append, List.nil_append]); (repeat (first | exact FrSub.nil | (apply FrSub.cons; exact rfl))); done)
              | ((try simp only [List.cons_append, List.nil_append]); (repeat (first | exact HpSub.refl _ | (apply HpSub.consE; (repeat (first | exact P0 | apply P1 | apply PA)); exact rfl) | apply HpSub.appC | apply HpSub.skipX | apply HpSub.skip | apply HpSub.skipApp | exact HpSub.nil)); done)
          · rw [if_neg hyw, Int.add_zero] at hsu
            rw [← hsu]
            repeat' (first | ((with_reducible apply oq_id); first | (focus ((with_reducible apply oq_indexAddrN); exact rfl; exact rfl; exact rfl; exact rfl; omega)) | ((with_reducible apply oq_lssT); exact rfl; exact rfl; omega) | ((with_reducible apply oq_eqlF); exact rfl; exact rfl; omega) | (apply oq_fn; exact rfl; first | exact trivial | (refine ⟨?_, ?_⟩ <;> omega) | (refine ⟨?_, ?_, ?_⟩ <;> omega) | omega | skip) | ((with_reducible apply oq_load); exact rfl; exact rfl) | ((with_reducible apply oq_loadAgg); exact rfl; exact rfl)) | ((with_reducible apply tl_id); first | ((with_reducible apply tl_nil)) | ((with_reducible apply u_q); exact rfl; exact rfl; exact rfl; exact rfl) | ((with_reducible apply u_s0); exact rfl; exact rfl) | ((with_reducible apply u_s); exact rfl; exact rfl; exact rfl)) | ((with_reducible apply os_id); first | ((with_reducible apply os_x); exact rfl) | ((with_reducible apply os_storeAgg); exact rfl; exact rfl; exact rfl; exact rfl; exact rfl)) | ((with_reducible apply ox_id); first | ((with_reducible apply ox_alloc); exact rfl; intro _)) | ((with_reducible apply rd_id); first | (apply Rd.own; (repeat (first | exact P0 | apply P1 | apply PA)); first | exact q0 | exact q1 | exact q2 | exact r0 | exact r1 | exact r2; done) | (apply Rd.own; (repeat (first | exact P0 | apply P1 | apply PA)); exact rfl; done)) | ((with_reducible apply t_id); first | ((with_reducible apply t_seq)) | (apply t_region; kernel_rfl) | ((with_reducible apply t_condT); exact rfl) | ((with_reducible apply t_condF); exact rfl) | ((with_reducible apply t_skip)) | ((with_reducible apply t_block))) | with_reducible apply q_thenN | with_reducible apply q_blockN | exact P0 | exact Rdn.zero | apply Rdn.succ | ((with_reducible apply Norm.nil); exact rfl) | ((with_reducible apply Norm.cons); exact rfl) | exact Nat.le_of_ble_eq_true rfl)
            all_goals (refine ⟨j + 1, (by omega), (by omega), ?_, ?_⟩)
            all_goals first
              | ((try simp only [List.cons_append, List.nil_append]); (repeat (first | exact FrSub.nil | (apply FrSub.cons; exact rfl))); done)
              | ((try simp only [List.cons_append, List.nil_append]); (repeat (first | exact HpSub.refl _ | (apply HpSub.consE; (repeat (first | exact P0 | apply P1 | apply PA)); exact rfl) | apply HpSub.appC | apply HpSub.skipX | apply HpSub.skip | apply HpSub.skipApp | exact HpSub.nil)); done)
        · have hwa := wkJ_all (S := S) (i := i) (x := x) (win := d.win) (j := j) (by omega)
          rw [hwa]
          repeat' (first | ((with_reducible apply oq_id); first | ((with_reducible apply oq_lssF); exact rfl; exact rfl; omega)) | ((with_reducible apply tl_id); first | ((with_reducible apply tl_nil)) | ((with_reducible apply u_q); exact rfl; exact rfl; exact rfl; exact rfl)) | ((with_reducible apply t_id); first | ((with_reducible apply t_seq)) | (apply t_region; kernel_rfl) | ((with_reducible apply t_condF); exact rfl) | ((with_reducible apply t_exit))) | with_reducible apply q_thenN | with_reducible apply q_thenE | ((with_reducible apply q_blockE); exact rfl))
          all_goals exact ⟨rfl, (), trivial, by (repeat (first | exact FrSub.nil | (apply FrSub.cons; exact rfl))), by (repeat (first | exact HpSub.refl _ | (apply HpSub.consE; (repeat (first | exact P0 | apply P1 | apply PA)); exact rfl) | apply HpSub.appC | apply HpSub.skipX | apply HpSub.skip | apply HpSub.skipApp | exact HpSub.nil))⟩
      rintro ⟨⟩ -
      have hwk := work_eq hsrt hfit hx (w := d.win) (by omega)
      have hwb : 0 ≤ workT S i x d.win ∧ workT S i x d.win ≤ 1000000000 := by
        have h1 := wkJ_all (S := S) (i := i) (x := x) (win := d.win) (j := n - i) (by omega)
        have h2 := wkJ_in hall (i := i) (x := x) (win := d.win) (j := n - i) (by omega)
        rw [h1] at h2
        omega
      obtain ⟨bB, hbB⟩ : ∃ b, restB d S i x = b := ⟨_, rfl⟩
      refine t_cut (ι := Unit) (fun _ => [(1, .slice (some ⟨g, 0, none⟩) n cp), (2, .pointer (some ⟨b2, 0, none⟩)), (16, .slice (some ⟨g, 0, none⟩) n cp), (17, .int .i64 (n : Nat)), (18, .int .i64 (i : Nat)), (5, .slice (clA o) (tiTo d S i).length (clC o)), (6, .int .i64 (i : Nat)), (7, .pointer (some ⟨b7, 0, none⟩)), (8, .int .i64 (workT S i x d.win)), (11, .bool (!bB))]) (fun _ => (b7, [.int .i64 x.who, .int .i64 x.fr, .int .i64 x.to], some (101, 3, 1)) :: (clH 99 3 (tiB (tiTo d S i)) o ++ [(g, shB S, some (101, 3, cp)), (b2, [.int .i64 d.most, .int .i64 d.rest, .int .i64 d.win, .int .i64 d.sum], some (74, 4, 1))])) (fun _ => True) ?_ ?_
      · by_cases h4 : i = 0
        · subst h4
          obtain rfl : bB = false := by rw [← hbB]; rfl
          repeat' (first | ((with_reducible apply oq_id); first | ((with_reducible apply oq_eqlT); exact rfl; exact rfl; omega) | (apply oq_fn; exact rfl; first | exact trivial | (refine ⟨?_, ?_⟩ <;> omega) | (refine ⟨?_, ?_, ?_⟩ <;> omega) | omega | skip)) | ((with_reducible apply gx_id); first | ((with_reducible apply v_nil)) | ((with_reducible apply v_q); exact rfl; exact rfl; exact rfl) | ((with_reducible apply v_skip); exact rfl; exact rfl; exact rfl)) | ((with_reducible apply t_id); first | (apply t_mix (id := 13) [0, 1, 2, 3, 4, 5, 6, 7, 8, 9, 10, 11, 12, 13, 14, 15, 16, 17, 18, 19, 20, 21, 22, 23, 24, 25, 26, 27] 0 #[false, false, false, false, false, false, false, false, false, false, false, false, false, false, false, false, false, false, false, false, false, false, false, false, false, false, false, false]; kernel_rfl; kernel_rfl; exact rfl)) | ((with_reducible apply al_id); first | (apply al_done; decide +kernel)))
          all_goals exact ⟨rfl, (), trivial, by (repeat (first | exact FrSub.nil | (apply FrSub.cons; exact rfl))), by (repeat (first | exact HpSub.refl _ | (apply HpSub.consE; (repeat (first | exact P0 | apply P1 | apply PA)); exact rfl) | apply HpSub.appC | apply HpSub.skipX | apply HpSub.skip | apply HpSub.skipApp | exact HpSub.nil))⟩
        obtain ⟨y, hy⟩ : ∃ y, S[i - 1]? = some y := ⟨_, List.getElem?_eq_getElem (by omega)⟩
        obtain ⟨r0, r1, r2⟩ := sh_at hy
        have hyo := hall y (List.mem_of_getElem? hy)
        unfold shOk at hyo
        unfold restB at hbB
        rw [hy, show decide (0 < i) = true by simp; omega, Bool.true_and] at hbB
        by_cases h5 : y.who = x.who
        · have hyx := (hfit i x hx).2 y (by omega) hy h5
          by_cases h6 : x.fr - y.to < d.rest
          · obtain rfl : bB = true := by rw [← hbB]; simp [h5, h6]
            repeat' (first | ((with_reducible apply oq_id); first | (focus ((with_reducible apply oq_indexAddrN); exact rfl; exact rfl; exact rfl; exact rfl; omega)) | ((with_reducible apply oq_subE (k := ((i - 1 : Nat) : Int))); exact rfl; exact rfl; omega) | ((with_reducible apply oq_eqlF); exact rfl; exact rfl; omega) | ((with_reducible apply oq_neqF); exact rfl; exact rfl; omega) | ((with_reducible apply oq_geqF); exact rfl; exact rfl; omega) | (apply oq_fn; exact rfl; first | exact trivial | (refine ⟨?_, ?_⟩ <;> omega) | (refine ⟨?_, ?_, ?_⟩ <;> omega) | omega | skip) | ((with_reducible apply oq_load); exact rfl; exact rfl)) | ((with_reducible apply gx_id); first | ((with_reducible apply v_nil)) | ((with_reducible apply v_q); exact rfl; exact rfl; exact rfl)) | ((with_reducible apply rd_id); first | (apply Rd.own; (repeat (first | exact P0 | apply P1 | apply PA)); first | exact q0 | exact q1 | exact q2 | exact r0 | exact r1 | exact r2; done) | (apply Rd.own; (repeat (first | exact P0 | apply P1 | apply PA)); exact rfl; done)) | ((with_reducible apply t_id); first | (apply t_mix (id := 13) [0, 1, 2, 3, 4, 5, 6, 7, 8, 9, 10, 11, 12, 13, 14, 15, 16, 17, 18, 19, 20, 21, 22, 23, 24, 25, 26, 27] 0 #[false, false, false, false, false, false, false, false, false, false, false, false, false, false, false, false, false, false, false, false, false, false, false, false, false, false, false, false]; kernel_rfl; kernel_rfl; exact rfl)) | ((with_reducible apply al_id); first | (apply al_done; decide +kernel)))
            all_goals exact ⟨rfl, (), trivial, by (repeat (first | exact FrSub.nil | (apply FrSub.cons; exact rfl))), by (repeat (first | exact HpSub.refl _ | (apply HpSub.consE; (repeat (first | exact P0 | apply P1 | apply PA)); exact rfl) | apply HpSub.appC | apply HpSub.skipX | apply HpSub.skip | apply HpSub.skipApp | exact HpSub.nil))⟩
          · obtain rfl : bB = false := by rw [← hbB]; simp [h5, h6]
            repeat' (first | ((with_reducible apply oq_id); first | (focus ((with_reducible apply oq_indexAddrN); exact rfl; exact rfl; exact rfl; exact rfl; omega)) | ((with_reducible apply oq_subE (k := ((i - 1 : Nat) : Int))); exact rfl; exact rfl; omega) | ((with_reducible apply oq_eqlF); exact rfl; exact rfl; omega) | ((with_reducible apply oq_neqF); exact rfl; exact rfl; omega) | ((with_reducible apply oq_geqT); exact rfl; exact rfl; omega) | (apply oq_fn; exact rfl; first | exact trivial | (refine ⟨?_, ?_⟩ <;> omega) | (refine ⟨?_, ?_, ?_⟩ <;> omega) | omega | skip) | ((with_reducible apply oq_load); exact rfl; exact rfl)) | ((with_reducible apply gx_id); first | ((with_reducible apply v_nil)) | ((with_reducible apply v_q); exact rfl; exact rfl; exact rfl)) | ((with_reducible apply rd_id); first | (apply Rd.own; (repeat (first | exact P0 | apply P1 | apply PA)); first | exact q0 | exact q1 | exact q2 | exact r0 | exact r1 | exact r2; done) | (apply Rd.own; (repeat (first | exact P0 | apply P1 | apply PA)); exact rfl; done)) | ((with_reducible apply t_id); first | (apply t_mix (id := 13) [0, 1, 2, 3, 4, 5, 6, 7, 8, 9, 10, 11, 12, 13, 14, 15, 16, 17, 18, 19, 20, 21, 22, 23, 24, 25, 26, 27] 0 #[false, false, false, false, false, false, false, false, false, false, false, false, false, false, false, false, false, false, false, false, false, false, false, false, false, false, false, false]; kernel_rfl; kernel_rfl; exact rfl)) | ((with_reducible apply al_id); first | (apply al_done; decide +kernel)))
            all_goals exact ⟨rfl, (), trivial, by (repeat (first | exact FrSub.nil | (apply FrSub.cons; exact rfl))), by (repeat (first | exact HpSub.refl _ | (apply HpSub.consE; (repeat (first | exact P0 | apply P1 | apply PA)); exact rfl) | apply HpSub.appC | apply HpSub.skipX | apply HpSub.skip | apply HpSub.skipApp | exact HpSub.nil))⟩
        · obtain rfl : bB = false := by rw [← hbB]; simp [h5]
          repeat' (first | ((with_reducible apply oq_id); first | (focus ((with_reducible apply oq_indexAddrN); exact rfl; exact rfl; exact rfl; exact rfl; omega)) | ((with_reducible apply oq_subE (k := ((i - 1 : Nat) : Int))); exact rfl; exact rfl; omega) | ((with_reducible apply oq_eqlF); exact rfl; exact rfl; omega) | ((with_reducible apply oq_neqT); exact rfl; exact rfl; omega) | (apply oq_fn; exact rfl; first | exact trivial | (refine ⟨?_, ?_⟩ <;> omega) | (refine ⟨?_, ?_, ?_⟩ <;> omega) | omega | skip) | ((with_reducible apply oq_load); exact rfl; exact rfl)) | ((with_reducible apply gx_id); first | ((with_reducible apply v_nil)) | ((with_reducible apply v_q); exact rfl; exact rfl; exact rfl) | ((with_reducible apply v_skip); exact rfl; exact rfl; exact rfl)) | ((with_reducible apply rd_id); first | (apply Rd.own; (repeat (first | exact P0 | apply P1 | apply PA)); first | exact q0 | exact q1 | exact q2 | exact r0 | exact r1 | exact r2; done) | (apply Rd.own; (repeat (first | exact P0 | apply P1 | apply PA)); exact rfl; done)) | ((with_reducible apply t_id); first | (apply t_mix (id := 13) [0, 1, 2, 3, 4, 5, 6, 7, 8, 9, 10, 11, 12, 13, 14, 15, 16, 17, 18, 19, 20, 21, 22, 23, 24, 25, 26, 27] 0 #[false, false, false, false, false, false, false, false, false, false, false, false, false, false, false, false, false, false, false, false, false, false, false, false, false, false, false, false]; kernel_rfl; kernel_rfl; exact rfl)) | ((with_reducible apply al_id); first | (apply al_done; decide +kernel)))
          all_goals exact ⟨rfl, (), trivial, by (repeat (first | exact FrSub.nil | (apply FrSub.cons; exact rfl))), by (repeat (first | exact HpSub.refl _ | (apply HpSub.consE; (repeat (first | exact P0 | apply P1 | apply PA)); exact rfl) | apply HpSub.appC | apply HpSub.skipX | apply HpSub.skip | apply HpSub.skipApp | exact HpSub.nil))⟩
      rintro ⟨⟩ -
      obtain ⟨bA, hbA⟩ : ∃ b, decide (x.to - x.fr > d.most) = b := ⟨_, rfl⟩
      obtain ⟨bC, hbC⟩ : ∃ b, decide (workV S x.who x.fr (x.fr + d.win) > d.sum) = b := ⟨_, rfl⟩
      rw [← hwk] at hbC
      refine t_cut (ι := Unit) (fun _ => [(1, .slice (some ⟨g, 0, none⟩) n cp), (2, .pointer (some ⟨b2, 0, none⟩)), (16, .slice (some ⟨g, 0, none⟩) n cp), (17, .int .i64 (n : Nat)), (18, .int .i64 (i : Nat)), (5, .slice (clA o) (tiTo d S i).length (clC o)), (6, .int .i64 (i : Nat)), (7, .pointer (some ⟨b7, 0, none⟩)), (95, .agg #[.int .i64 1, .bool bA, .int .i64 2, .bool bB, .int .i64 3, .bool bC]), (96, .int .i64 0)]) (fun _ => (b7, [.int .i64 x.who, .int .i64 x.fr, .int .i64 x.to], some (101, 3, 1)) :: (clH 99 3 (tiB (tiTo d S i)) o ++ [(g, shB S, some (101, 3, cp)), (b2, [.int .i64 d.most, .int .i64 d.rest, .int .i64 d.win, .int .i64 d.sum], some (74, 4, 1))])) (fun _ => True) ?_ ?_
      · cases bA <;> cases bB <;> cases bC
        all_goals (simp only [decide_eq_true_eq, decide_eq_false_iff_not, gt_iff_lt] at hbA hbC)
        all_goals (repeat' (first | ((with_reducible apply oq_id); first | ((with_reducible apply oq_gtrT); exact rfl; exact rfl; omega) | ((with_reducible apply oq_gtrF); exact rfl; exact rfl; omega) | (apply oq_fn; exact rfl; first | exact trivial | (refine ⟨?_, ?_⟩ <;> omega) | (refine ⟨?_, ?_, ?_⟩ <;> omega) | omega | skip) | ((with_reducible apply oq_load); exact rfl; exact rfl) | ((with_reducible apply oq_build); exact rfl; exact rfl; exact rfl) | ((with_reducible apply oq_buildA); exact rfl; exact rfl; exact rfl; exact rfl)) | ((with_reducible apply tl_id); first | ((with_reducible apply tl_nil)) | ((with_reducible apply u_q); exact rfl; exact rfl; exact rfl; exact rfl)) | ((with_reducible apply rd_id); first | (apply Rd.own; (repeat (first | exact P0 | apply P1 | apply PA)); exact rfl; done)) | ((with_reducible apply t_id); first | (apply t_region; kernel_rfl)) | ((with_reducible apply Norm.nil); exact rfl) | ((with_reducible apply Norm.cons); exact rfl)))
        all_goals exact ⟨rfl, (), trivial, by (repeat (first | exact FrSub.nil | (apply FrSub.cons; exact rfl))), by (repeat (first | exact HpSub.refl _ | (apply HpSub.consE; (repeat (first | exact P0 | apply P1 | apply PA)); exact rfl) | apply HpSub.appC | apply HpSub.skipX | apply HpSub.skip | apply HpSub.skipApp | exact HpSub.nil))⟩
      rintro ⟨⟩ -
      have hT0 : tiTo d S i ++ casK bA bB bC x 0 = tiTo d S i := List.append_nil _
      have hT3 : tiTo d S i ++ casK bA bB bC x 3 = tiTo d S (i + 1) := by
        rw [tiTo_succ hx, casK_all hbA.symm hbB.symm (by rw [← hwk]; exact hbC.symm)]
      repeat' (first | ((with_reducible apply t_id); first | ((with_reducible apply t_block))))
      apply t_loopK (GH := []) (ι := Nat × Option (Nat × Nat)) [1, 2, 6, 7, 16, 17, 18, 95] (fun z => [(96, .int .i64 (z.1 : Nat)), (5, .slice (clA z.2) (tiTo d S i ++ casK bA bB bC x z.1).length (clC z.2))]) (fun z => (b7, [.int .i64 x.who, .int .i64 x.fr, .int .i64 x.to], some (101, 3, 1)) :: (clH 99 3 (tiB (tiTo d S i ++ casK bA bB bC x z.1)) z.2 ++ [(g, shB S, some (101, 3, cp)), (b2, [.int .i64 d.most, .int .i64 d.rest, .int .i64 d.win, .int .i64 d.sum], some (74, 4, 1))])) (fun z => z.1 ≤ 3 ∧ (z.2 = none → (tiTo d S i ++ casK bA bB bC x z.1).length = 0)) (fun z => 3 - z.1) ((0, o))
      (repeat (first | exact KeepF.nil | (apply KeepF.cons; exact rfl) | apply KeepF.skip))
      (repeat (first | exact FrSub.nil | (apply FrSub.cons; exact rfl) | (apply FrSub.consE; exact rfl; (simp only [hT0]))))
      ((try simp only [List.append_nil, hT0]); (repeat (first | exact HpSub.refl _ | (apply HpSub.consE; (repeat (first | exact P0 | apply P1 | apply PA)); exact rfl) | apply HpSub.appC | apply HpSub.skipX | apply HpSub.skip | apply HpSub.skipApp | exact HpSub.nil)))
      · exact ⟨Nat.zero_le _, by (simp only [hT0]; exact ho)⟩
      rintro ⟨k, o2⟩ ⟨hk, ho2⟩
      simp only at hk ho2
      simp only [List.append_nil]
      have hkl : (tiTo d S i ++ casK bA bB bC x k).length ≤ 3 * i + 3 := by
        rw [List.length_append]
        have := casK_len bA bB bC x k
        omega
      rcases (show k = 0 ∨ k = 1 ∨ k = 2 ∨ k = 3 by omega) with rfl | rfl | rfl | rfl
      · obtain ⟨T0, hT⟩ : ∃ T, tiTo d S i ++ casK bA bB bC x 0 = T := ⟨_, rfl⟩
        rw [hT] at hkl ho2 ⊢
        cases bA with
        | false =>
          have e1 : tiTo d S i ++ casK false bB bC x 1 = T0 := by rw [← hT]; simp [casK]
          repeat' (first | ((with_reducible apply oq_id); first | ((with_reducible apply oq_lssT); exact rfl; exact rfl; omega) | (apply oq_fn; exact rfl; first | exact trivial | (refine ⟨?_, ?_⟩ <;> omega) | (refine ⟨?_, ?_, ?_⟩ <;> omega) | omega | skip) | ((with_reducible apply oq_load); exact rfl; exact rfl) | ((with_reducible apply oq_indexAgg); exact rfl; exact rfl; exact rfl; exact rfl)) | ((with_reducible apply tl_id); first | ((with_reducible apply tl_nil)) | ((with_reducible apply u_q); exact rfl; exact rfl; exact rfl; exact rfl) | ((with_reducible apply u_s0); exact rfl; exact rfl) | ((with_reducible apply u_s); exact rfl; exact rfl; exact rfl)) | ((with_reducible apply os_id); first | ((with_reducible apply os_x); exact rfl) | ((with_reducible apply os_storeAgg); exact rfl; exact rfl; exact rfl; exact rfl; exact rfl)) | ((with_reducible apply ox_id); first | ((with_reducible apply ox_alloc); exact rfl; intro _)) | ((with_reducible apply rd_id); first | (apply Rd.own; (repeat (first | exact P0 | apply P1 | apply PA)); exact rfl; done)) | ((with_reducible apply t_id); first | ((with_reducible apply t_seq)) | (apply t_region; kernel_rfl) | ((with_reducible apply t_condT); exact rfl) | ((with_reducible apply t_condF); exact rfl) | ((with_reducible apply t_skip)) | ((with_reducible apply t_block))) | with_reducible apply q_thenN | with_reducible apply q_blockN | exact P0 | ((with_reducible apply Norm.nil); exact rfl) | ((with_reducible apply Norm.cons); exact rfl) | exact Nat.le_of_ble_eq_true rfl | omega)
          all_goals (refine ⟨(1, o2), ⟨(by simp only; omega), (by simp only [e1]; exact ho2)⟩, (by simp only; omega), ?_, ?_⟩)
          all_goals (simp only [e1])
          all_goals first
            | ((try simp only [List.cons_append, List.nil_append]); (repeat (first | exact FrSub.nil | (apply FrSub.cons; exact rfl))); done)
            | ((try simp only [List.cons_append, List.nil_append]); (repeat (first | exact HpSub.refl _ | (apply HpSub.consE; (repeat (first | exact P0 | apply P1 | apply PA)); exact rfl) | apply HpSub.appC | apply HpSub.skipX | apply HpSub.skip | apply HpSub.skipApp | exact HpSub.nil)); done)
        | true =>
          have e1 : tiTo d S i ++ casK true bB bC x 1 = T0 ++ [⟨1, x.who, x.fr⟩] := by rw [← hT]; simp [casK]
          rcases o2 with _ | ⟨go, co⟩
          · have h0 := ho2 rfl
            obtain rfl := List.length_eq_zero_iff.1 h0
            simp only [clA, clC, clH, List.nil_append, List.length_nil]
            repeat' (first | ((with_reducible apply oq_id); first | ((with_reducible apply oq_lssT); exact rfl; exact rfl; omega) | (apply oq_fn; exact rfl; first | exact trivial | (refine ⟨?_, ?_⟩ <;> omega) | (refine ⟨?_, ?_, ?_⟩ <;> omega) | omega | skip) | ((with_reducible apply oq_load); exact rfl; exact rfl) | ((with_reducible apply oq_build); exact rfl; exact rfl; exact rfl) | ((with_reducible apply oq_indexAgg); exact rfl; exact rfl; exact rfl; exact rfl)) | ((with_reducible apply tl_id); first | ((with_reducible apply tl_nil)) | ((with_reducible apply u_q); exact rfl; exact rfl; exact rfl; exact rfl) | ((with_reducible apply u_s0); exact rfl; exact rfl) | ((with_reducible apply u_s); exact rfl; exact rfl; exact rfl)) | ((with_reducible apply os_id); first | ((with_reducible apply os_x); exact rfl) | ((with_reducible apply os_storeAgg); exact rfl; exact rfl; exact rfl; exact rfl; exact rfl) | ((with_reducible apply os_appendNil (hk := app_ok77)); exact rfl; exact rfl)) | ((with_reducible apply ox_id); first | ((with_reducible apply ox_alloc); exact rfl; intro _) | ((with_reducible apply ox_buildSlice); exact rfl; exact rfl; exact rfl; exact rfl)) | ((with_reducible apply rd_id); first | (apply Rd.own; (repeat (first | exact P0 | apply P1 | apply PA)); exact rfl; done)) | ((with_reducible apply t_id); first | ((with_reducible apply t_seq)) | (apply t_region; kernel_rfl) | ((with_reducible apply t_condT); exact rfl) | ((with_reducible apply t_skip)) | ((with_reducible apply t_block))) | with_reducible apply q_thenN | with_reducible apply q_blockN | exact P0 | exact Rdn.zero | apply Rdn.succ | ((with_reducible apply Norm.nil); exact rfl) | ((with_reducible apply Norm.cons); exact rfl) | (intro gN cN; with_reducible apply tl_id) | exact Nat.le_of_ble_eq_true rfl | exact (rfl : (_ : Bool) = true) | omega | (intro _; with_reducible apply tl_id))
            all_goals (refine ⟨(1, some (gN, cN)), ⟨(by simp only; omega), fun h => by cases h⟩, (by simp only; omega), ?_, ?_⟩)
            all_goals (simp only [e1])
            all_goals first
              | ((try simp only [List.cons_append, List.nil_append]); (repeat (first | exact FrSub.nil | (apply FrSub.cons; exact rfl) | (apply FrSub.consE; exact rfl; (focus (simp; done))))); done)
              | ((try simp only [List.cons_append, List.nil_append]); (repeat (first | exact HpSub.refl _ | (apply HpSub.consE; (repeat (first | exact P0 | apply P1 | apply PA)); first | exact rfl | (focus (simp [tiB_app, tiB, tiCells]; done))) | apply HpSub.appC | apply HpSub.skipX | apply HpSub.skip | apply HpSub.skipApp | exact HpSub.nil)); done)
          · simp only [clA, clC, clH, List.cons_append, List.nil_append]
            repeat' (first | ((with_reducible apply oq_id); first | ((with_reducible apply oq_lssT); exact rfl; exact rfl; omega) | (apply oq_fn; exact rfl; first | exact trivial | (refine ⟨?_, ?_⟩ <;> omega) | (refine ⟨?_, ?_, ?_⟩ <;> omega) | omega | skip) | ((with_reducible apply oq_load); exact rfl; exact rfl) | ((with_reducible apply oq_build); exact rfl; exact rfl; exact rfl) | ((with_reducible apply oq_indexAgg); exact rfl; exact rfl; exact rfl; exact rfl)) | ((with_reducible apply tl_id); first | ((with_reducible apply tl_nil)) | ((with_reducible apply u_q); exact rfl; exact rfl; exact rfl; exact rfl) | ((with_reducible apply u_s0); exact rfl; exact rfl) | ((with_reducible apply u_s); exact rfl; exact rfl; exact rfl)) | ((with_reducible apply os_id); first | ((with_reducible apply os_x); exact rfl) | ((with_reducible apply os_storeAgg); exact rfl; exact rfl; exact rfl; exact rfl; exact rfl) | ((with_reducible apply os_append (hk := app_ok77)); exact rfl; exact rfl; (repeat (first | exact P0 | apply P1 | apply PA)))) | ((with_reducible apply ox_id); first | ((with_reducible apply ox_alloc); exact rfl; intro _) | ((with_reducible apply ox_buildSlice); exact rfl; exact rfl; exact rfl; exact rfl)) | ((with_reducible apply rd_id); first | (apply Rd.own; (repeat (first | exact P0 | apply P1 | apply PA)); exact rfl; done)) | ((with_reducible apply t_id); first | ((with_reducible apply t_seq)) | (apply t_region; kernel_rfl) | ((with_reducible apply t_condT); exact rfl) | ((with_reducible apply t_skip)) | ((with_reducible apply t_block))) | with_reducible apply q_thenN | with_reducible apply q_blockN | exact P0 | exact Rdn.zero | apply Rdn.succ | ((with_reducible apply Norm.nil); exact rfl) | ((with_reducible apply Norm.cons); exact rfl) | exact tiB_len _ | (intro gN cN; with_reducible apply tl_id) | exact Nat.le_of_ble_eq_true rfl | exact (rfl : (_ : Bool) = true) | omega | (intro _; with_reducible apply tl_id))
            all_goals (refine ⟨(1, some (gN, cN)), ⟨(by simp only; omega), fun h => by cases h⟩, (by simp only; omega), ?_, ?_⟩)
            all_goals (simp only [e1])
            all_goals first
              | ((try simp only [List.cons_append, List.nil_append]); (repeat (first | exact FrSub.nil | (apply FrSub.cons; exact rfl) | (apply FrSub.consE; exact rfl; (focus (simp; done))))); done)
              | ((try simp only [List.cons_append, List.nil_append]); (repeat (first | exact HpSub.refl _ | (apply HpSub.consE; (repeat (first | exact P0 | apply P1 | apply PA)); first | exact rfl | (focus (simp [tiB_app, tiB, tiCells]; done))) | apply HpSub.appC | apply HpSub.skipX | apply HpSub.skip | apply HpSub.skipApp | exact HpSub.nil)); done)
      · obtain ⟨T0, hT⟩ : ∃ T, tiTo d S i ++ casK bA bB bC x 1 = T := ⟨_, rfl⟩
        rw [hT] at hkl ho2 ⊢
        cases bB with
        | false =>
          have e1 : tiTo d S i ++ casK bA false bC x 2 = T0 := by rw [← hT]; simp [casK]
          repeat' (first | ((with_reducible apply oq_id); first | ((with_reducible apply oq_lssT); exact rfl; exact rfl; omega) | (apply oq_fn; exact rfl; first | exact trivial | (refine ⟨?_, ?_⟩ <;> omega) | (refine ⟨?_, ?_, ?_⟩ <;> omega) | omega | skip) | ((with_reducible apply oq_load); exact rfl; exact rfl) | ((with_reducible apply oq_indexAgg); exact rfl; exact rfl; exact rfl; exact rfl)) | ((with_reducible apply tl_id); first | ((with_reducible apply tl_nil)) | ((with_reducible apply u_q); exact rfl; exact rfl; exact rfl; exact rfl) | ((with_reducible apply u_s0); exact rfl; exact rfl) | ((with_reducible apply u_s); exact rfl; exact rfl; exact rfl)) | ((with_reducible apply os_id); first | ((with_reducible apply os_x); exact rfl) | ((with_reducible apply os_storeAgg); exact rfl; exact rfl; exact rfl; exact rfl; exact rfl)) | ((with_reducible apply ox_id); first | ((with_reducible apply ox_alloc); exact rfl; intro _)) | ((with_reducible apply rd_id); first | (apply Rd.own; (repeat (first | exact P0 | apply P1 | apply PA)); exact rfl; done)) | ((with_reducible apply t_id); first | ((with_reducible apply t_seq)) | (apply t_region; kernel_rfl) | ((with_reducible apply t_condT); exact rfl) | ((with_reducible apply t_condF); exact rfl) | ((with_reducible apply t_skip)) | ((with_reducible apply t_block))) | with_reducible apply q_thenN | with_reducible apply q_blockN | exact P0 | ((with_reducible apply Norm.nil); exact rfl) | ((with_reducible apply Norm.cons); exact rfl) | exact Nat.le_of_ble_eq_true rfl | omega)
          all_goals (refine ⟨(2, o2), ⟨(by simp only; omega), (by simp only [e1]; exact ho2)⟩, (by simp only; omega), ?_, ?_⟩)
          all_goals (simp only [e1])
          all_goals first
            | ((try simp only [List.cons_append, List.nil_append]); (repeat (first | exact FrSub.nil | (apply FrSub.cons; exact rfl))); done)
            | ((try simp only [List.cons_append, List.nil_append]); (repeat (first | exact HpSub.refl _ | (apply HpSub.consE; (repeat (first | exact P0 | apply P1 | apply PA)); exact rfl) | apply HpSub.appC | apply HpSub.skipX | apply HpSub.skip | apply HpSub.skipApp | exact HpSub.nil)); done)
        | true =>
          have e1 : tiTo d S i ++ casK bA true bC x 2 = T0 ++ [⟨2, x.who, x.fr⟩] := by rw [← hT]; simp [casK]
          rcases o2 with _ | ⟨go, co⟩
          · have h0 := ho2 rfl
            obtain rfl := List.length_eq_zero_iff.1 h0
            simp only [clA, clC, clH, List.nil_append, List.length_nil]
            repeat' (first | ((with_reducible apply oq_id); first | ((with_reducible apply oq_lssT); exact rfl; exact rfl; omega) | (apply oq_fn; exact rfl; first | exact trivial | (refine ⟨?_, ?_⟩ <;> omega) | (refine ⟨?_, ?_, ?_⟩ <;> omega) | omega | skip) | ((with_reducible apply oq_load); exact rfl; exact rfl) | ((with_reducible apply oq_build); exact rfl; exact rfl; exact rfl) | ((with_reducible apply oq_indexAgg); exact rfl; exact rfl; exact rfl; exact rfl)) | ((with_reducible apply tl_id); first | ((with_reducible apply tl_nil)) | ((with_reducible apply u_q); exact rfl; exact rfl; exact rfl; exact rfl) | ((with_reducible apply u_s0); exact rfl; exact rfl) | ((with_reducible apply u_s); exact rfl; exact rfl; exact rfl)) | ((with_reducible apply os_id); first | ((with_reducible apply os_x); exact rfl) | ((with_reducible apply os_storeAgg); exact rfl; exact rfl; exact rfl; exact rfl; exact rfl) | ((with_reducible apply os_appendNil (hk := app_ok77)); exact rfl; exact rfl)) | ((with_reducible apply ox_id); first | ((with_reducible apply ox_alloc); exact rfl; intro _) | ((with_reducible apply ox_buildSlice); exact rfl; exact rfl; exact rfl; exact rfl)) | ((with_reducible apply rd_id); first | (apply Rd.own; (repeat (first | exact P0 | apply P1 | apply PA)); exact rfl; done)) | ((with_reducible apply t_id); first | ((with_reducible apply t_seq)) | (apply t_region; kernel_rfl) | ((with_reducible apply t_condT); exact rfl) | ((with_reducible apply t_skip)) | ((with_reducible apply t_block))) | with_reducible apply q_thenN | with_reducible apply q_blockN | exact P0 | exact Rdn.zero | apply Rdn.succ | ((with_reducible apply Norm.nil); exact rfl) | ((with_reducible apply Norm.cons); exact rfl) | (intro gN cN; with_reducible apply tl_id) | exact Nat.le_of_ble_eq_true rfl | exact (rfl : (_ : Bool) = true) | omega | (intro _; with_reducible apply tl_id))
            all_goals (refine ⟨(2, some (gN, cN)), ⟨(by simp only; omega), fun h => by cases h⟩, (by simp only; omega), ?_, ?_⟩)
            all_goals (simp only [e1])
            all_goals first
              | ((try simp only [List.cons_append, List.nil_append]); (repeat (first | exact FrSub.nil | (apply FrSub.cons; exact rfl) | (apply FrSub.consE; exact rfl; (focus (simp; done))))); done)
              | ((try simp only [List.cons_append, List.nil_append]); (repeat (first | exact HpSub.refl _ | (apply HpSub.consE; (repeat (first | exact P0 | apply P1 | apply PA)); first | exact rfl | (focus (simp [tiB_app, tiB, tiCells]; done))) | apply HpSub.appC | apply HpSub.skipX | apply HpSub.skip | apply HpSub.skipApp | exact HpSub.nil)); done)
          · simp only [clA, clC, clH, List.cons_append, List.nil_append]
            repeat' (first | ((with_reducible apply oq_id); first | ((with_reducible apply oq_lssT); exact rfl; exact rfl; omega) | (apply oq_fn; exact rfl; first | exact trivial | (refine ⟨?_, ?_⟩ <;> omega) | (refine ⟨?_, ?_, ?_⟩ <;> omega) | omega | skip) | ((with_reducible apply oq_load); exact rfl; exact rfl) | ((with_reducible apply oq_build); exact rfl; exact rfl; exact rfl) | ((with_reducible apply oq_indexAgg); exact rfl; exact rfl; exact rfl; exact rfl)) | ((with_reducible apply tl_id); first | ((with_reducible apply tl_nil)) | ((with_reducible apply u_q); exact rfl; exact rfl; exact rfl; exact rfl) | ((with_reducible apply u_s0); exact rfl; exact rfl) | ((with_reducible apply u_s); exact rfl; exact rfl; exact rfl)) | ((with_reducible apply os_id); first | ((with_reducible apply os_x); exact rfl) | ((with_reducible apply os_storeAgg); exact rfl; exact rfl; exact rfl; exact rfl; exact rfl) | ((with_reducible apply os_append (hk := app_ok77)); exact rfl; exact rfl; (repeat (first | exact P0 | apply P1 | apply PA)))) | ((with_reducible apply ox_id); first | ((with_reducible apply ox_alloc); exact rfl; intro _) | ((with_reducible apply ox_buildSlice); exact rfl; exact rfl; exact rfl; exact rfl)) | ((with_reducible apply rd_id); first | (apply Rd.own; (repeat (first | exact P0 | apply P1 | apply PA)); exact rfl; done)) | ((with_reducible apply t_id); first | ((with_reducible apply t_seq)) | (apply t_region; kernel_rfl) | ((with_reducible apply t_condT); exact rfl) | ((with_reducible apply t_skip)) | ((with_reducible apply t_block))) | with_reducible apply q_thenN | with_reducible apply q_blockN | exact P0 | exact Rdn.zero | apply Rdn.succ | ((with_reducible apply Norm.nil); exact rfl) | ((with_reducible apply Norm.cons); exact rfl) | exact tiB_len _ | (intro gN cN; with_reducible apply tl_id) | exact Nat.le_of_ble_eq_true rfl | exact (rfl : (_ : Bool) = true) | omega | (intro _; with_reducible apply tl_id))
            all_goals (refine ⟨(2, some (gN, cN)), ⟨(by simp only; omega), fun h => by cases h⟩, (by simp only; omega), ?_, ?_⟩)
            all_goals (simp only [e1])
            all_goals first
              | ((try simp only [List.cons_append, List.nil_append]); (repeat (first | exact FrSub.nil | (apply FrSub.cons; exact rfl) | (apply FrSub.consE; exact rfl; (focus (simp; done))))); done)
              | ((try simp only [List.cons_append, List.nil_append]); (repeat (first | exact HpSub.refl _ | (apply HpSub.consE; (repeat (first | exact P0 | apply P1 | apply PA)); first | exact rfl | (focus (simp [tiB_app, tiB, tiCells]; done))) | apply HpSub.appC | apply HpSub.skipX | apply HpSub.skip | apply HpSub.skipApp | exact HpSub.nil)); done)
      · obtain ⟨T0, hT⟩ : ∃ T, tiTo d S i ++ casK bA bB bC x 2 = T := ⟨_, rfl⟩
        rw [hT] at hkl ho2 ⊢
        cases bC with
        | false =>
          have e1 : tiTo d S i ++ casK bA bB false x 3 = T0 := by rw [← hT]; simp [casK]
          repeat' (first | ((with_reducible apply oq_id); first | ((with_reducible apply oq_lssT); exact rfl; exact rfl; omega) | (apply oq_fn; exact rfl; first | exact trivial | (refine ⟨?_, ?_⟩ <;> omega) | (refine ⟨?_, ?_, ?_⟩ <;> omega) | omega | skip) | ((with_reducible apply oq_load); exact rfl; exact rfl) | ((with_reducible apply oq_indexAgg); exact rfl; exact rfl; exact rfl; exact rfl)) | ((with_reducible apply tl_id); first | ((with_reducible apply tl_nil)) | ((with_reducible apply u_q); exact rfl; exact rfl; exact rfl; exact rfl) | ((with_reducible apply u_s0); exact rfl; exact rfl) | ((with_reducible apply u_s); exact rfl; exact rfl; exact rfl)) | ((with_reducible apply os_id); first | ((with_reducible apply os_x); exact rfl) | ((with_reducible apply os_storeAgg); exact rfl; exact rfl; exact rfl; exact rfl; exact rfl)) | ((with_reducible apply ox_id); first | ((with_reducible apply ox_alloc); exact rfl; intro _)) | ((with_reducible apply rd_id); first | (apply Rd.own; (repeat (first | exact P0 | apply P1 | apply PA)); exact rfl; done)) | ((with_reducible apply t_id); first | ((with_reducible apply t_seq)) | (apply t_region; kernel_rfl) | ((with_reducible apply t_condT); exact rfl) | ((with_reducible apply t_condF); exact rfl) | ((with_reducible apply t_skip)) | ((with_reducible apply t_block))) | with_reducible apply q_thenN | with_reducible apply q_blockN | exact P0 | ((with_reducible apply Norm.nil); exact rfl) | ((with_reducible apply Norm.cons); exact rfl) | exact Nat.le_of_ble_eq_true rfl | omega)
          all_goals (refine ⟨(3, o2), ⟨(by simp only; omega), (by simp only [e1]; exact ho2)⟩, (by simp only; omega), ?_, ?_⟩)
          all_goals (simp only [e1])
          all_goals first
            | ((try simp only [List.cons_append, List.nil_append]); (repeat (first | exact FrSub.nil | (apply FrSub.cons; exact rfl))); done)
            | ((try simp only [List.cons_append, List.nil_append]); (repeat (first | exact HpSub.refl _ | (apply HpSub.consE; (repeat (first | exact P0 | apply P1 | apply PA)); exact rfl) | apply HpSub.appC | apply HpSub.skipX | apply HpSub.skip | apply HpSub.skipApp | exact HpSub.nil)); done)
        | true =>
          have e1 : tiTo d S i ++ casK bA bB true x 3 = T0 ++ [⟨3, x.who, x.fr⟩] := by rw [← hT]; simp [casK]
          rcases o2 with _ | ⟨go, co⟩
          · have h0 := ho2 rfl
            obtain rfl := List.length_eq_zero_iff.1 h0
            simp only [clA, clC, clH, List.nil_append, List.length_nil]
            repeat' (first | ((with_reducible apply oq_id); first | ((with_reducible apply oq_lssT); exact rfl; exact rfl; omega) | (apply oq_fn; exact rfl; first | exact trivial | (refine ⟨?_, ?_⟩ <;> omega) | (refine ⟨?_, ?_, ?_⟩ <;> omega) | omega | skip) | ((with_reducible apply oq_load); exact rfl; exact rfl) | ((with_reducible apply oq_build); exact rfl; exact rfl; exact rfl) | ((with_reducible apply oq_indexAgg); exact rfl; exact rfl; exact rfl; exact rfl)) | ((with_reducible apply tl_id); first | ((with_reducible apply tl_nil)) | ((with_reducible apply u_q); exact rfl; exact rfl; exact rfl; exact rfl) | ((with_reducible apply u_s0); exact rfl; exact rfl) | ((with_reducible apply u_s); exact rfl; exact rfl; exact rfl)) | ((with_reducible apply os_id); first | ((with_reducible apply os_x); exact rfl) | ((with_reducible apply os_storeAgg); exact rfl; exact rfl; exact rfl; exact rfl; exact rfl) | ((with_reducible apply os_appendNil (hk := app_ok77)); exact rfl; exact rfl)) | ((with_reducible apply ox_id); first | ((with_reducible apply ox_alloc); exact rfl; intro _) | ((with_reducible apply ox_buildSlice); exact rfl; exact rfl; exact rfl; exact rfl)) | ((with_reducible apply rd_id); first | (apply Rd.own; (repeat (first | exact P0 | apply P1 | apply PA)); exact rfl; done)) | ((with_reducible apply t_id); first | ((with_reducible apply t_seq)) | (apply t_region; kernel_rfl) | ((with_reducible apply t_condT); exact rfl) | ((with_reducible apply t_skip)) | ((with_reducible apply t_block))) | with_reducible apply q_thenN | with_reducible apply q_blockN | exact P0 | exact Rdn.zero | apply Rdn.succ | ((with_reducible apply Norm.nil); exact rfl) | ((with_reducible apply Norm.cons); exact rfl) | (intro gN cN; with_reducible apply tl_id) | exact Nat.le_of_ble_eq_true rfl | exact (rfl : (_ : Bool) = true) | omega | (intro _; with_reducible apply tl_id))
            all_goals (refine ⟨(3, some (gN, cN)), ⟨(by simp only; omega), fun h => by cases h⟩, (by simp only; omega), ?_, ?_⟩)
            all_goals (simp only [e1])
            all_goals first
              | ((try simp only [List.cons_append, List.nil_append]); (repeat (first | exact FrSub.nil | (apply FrSub.cons; exact rfl) | (apply FrSub.consE; exact rfl; (focus (simp; done))))); done)
              | ((try simp only [List.cons_append, List.nil_append]); (repeat (first | exact HpSub.refl _ | (apply HpSub.consE; (repeat (first | exact P0 | apply P1 | apply PA)); first | exact rfl | (focus (simp [tiB_app, tiB, tiCells]; done))) | apply HpSub.appC | apply HpSub.skipX | apply HpSub.skip | apply HpSub.skipApp | exact HpSub.nil)); done)
          · simp only [clA, clC, clH, List.cons_append, List.nil_append]
            repeat' (first | ((with_reducible apply oq_id); first | ((with_reducible apply oq_lssT); exact rfl; exact rfl; omega) | (apply oq_fn; exact rfl; first | exact trivial | (refine ⟨?_, ?_⟩ <;> omega) | (refine ⟨?_, ?_, ?_⟩ <;> omega) | omega | skip) | ((with_reducible apply oq_load); exact rfl; exact rfl) | ((with_reducible apply oq_build); exact rfl; exact rfl; exact rfl) | ((with_reducible apply oq_indexAgg); exact rfl; exact rfl; exact rfl; exact rfl)) | ((with_reducible apply tl_id); first | ((with_reducible apply tl_nil)) | ((with_reducible apply u_q); exact rfl; exact rfl; exact rfl; exact rfl) | ((with_reducible apply u_s0); exact rfl; exact rfl) | ((with_reducible apply u_s); exact rfl; exact rfl; exact rfl)) | ((with_reducible apply os_id); first | ((with_reducible apply os_x); exact rfl) | ((with_reducible apply os_storeAgg); exact rfl; exact rfl; exact rfl; exact rfl; exact rfl) | ((with_reducible apply os_append (hk := app_ok77)); exact rfl; exact rfl; (repeat (first | exact P0 | apply P1 | apply PA)))) | ((with_reducible apply ox_id); first | ((with_reducible apply ox_alloc); exact rfl; intro _) | ((with_reducible apply ox_buildSlice); exact rfl; exact rfl; exact rfl; exact rfl)) | ((with_reducible apply rd_id); first | (apply Rd.own; (repeat (first | exact P0 | apply P1 | apply PA)); exact rfl; done)) | ((with_reducible apply t_id); first | ((with_reducible apply t_seq)) | (apply t_region; kernel_rfl) | ((with_reducible apply t_condT); exact rfl) | ((with_reducible apply t_skip)) | ((with_reducible apply t_block))) | with_reducible apply q_thenN | with_reducible apply q_blockN | exact P0 | exact Rdn.zero | apply Rdn.succ | ((with_reducible apply Norm.nil); exact rfl) | ((with_reducible apply Norm.cons); exact rfl) | exact tiB_len _ | (intro gN cN; with_reducible apply tl_id) | exact Nat.le_of_ble_eq_true rfl | exact (rfl : (_ : Bool) = true) | omega | (intro _; with_reducible apply tl_id))
            all_goals (refine ⟨(3, some (gN, cN)), ⟨(by simp only; omega), fun h => by cases h⟩, (by simp only; omega), ?_, ?_⟩)
            all_goals (simp only [e1])
            all_goals first
              | ((try simp only [List.cons_append, List.nil_append]); (repeat (first | exact FrSub.nil | (apply FrSub.cons; exact rfl) | (apply FrSub.consE; exact rfl; (focus (simp; done))))); done)
              | ((try simp only [List.cons_append, List.nil_append]); (repeat (first | exact HpSub.refl _ | (apply HpSub.consE; (repeat (first | exact P0 | apply P1 | apply PA)); first | exact rfl | (focus (simp [tiB_app, tiB, tiCells]; done))) | apply HpSub.appC | apply HpSub.skipX | apply HpSub.skip | apply HpSub.skipApp | exact HpSub.nil)); done)
      · rw [hT3] at ho2 ⊢
        repeat' (first | ((with_reducible apply oq_id); first | ((with_reducible apply oq_lssF); exact rfl; exact rfl; omega)) | ((with_reducible apply tl_id); first | ((with_reducible apply tl_nil)) | ((with_reducible apply u_q); exact rfl; exact rfl; exact rfl; exact rfl)) | ((with_reducible apply t_id); first | ((with_reducible apply t_seq)) | (apply t_region; kernel_rfl) | ((with_reducible apply t_condF); exact rfl) | ((with_reducible apply t_exit))) | with_reducible apply q_thenN | with_reducible apply q_blockN | with_reducible apply q_thenE | ((with_reducible apply q_blockE); exact rfl))
        all_goals exact ⟨rfl, o2, ho2, by (repeat (first | exact FrSub.nil | (apply FrSub.cons; exact rfl))), by (repeat (first | exact HpSub.refl _ | (apply HpSub.consE; (repeat (first | exact P0 | apply P1 | apply PA)); exact rfl) | apply HpSub.appC | apply HpSub.skipX | apply HpSub.skip | apply HpSub.skipApp | exact HpSub.nil))⟩
    · rintro o2 ho2
      repeat' (first | ((with_reducible apply oq_id); first | (apply oq_fn; exact rfl; first | exact trivial | (refine ⟨?_, ?_⟩ <;> omega) | (refine ⟨?_, ?_, ?_⟩ <;> omega) | omega | skip)) | ((with_reducible apply tl_id); first | ((with_reducible apply tl_nil)) | ((with_reducible apply u_q); exact rfl; exact rfl; exact rfl; exact rfl)) | ((with_reducible apply t_id); first | (apply t_region; kernel_rfl)) | with_reducible apply q_thenN)
      all_goals (refine ⟨(i + 1, o2), ⟨(by simp only; omega), ho2⟩, (by simp only; omega), ?_, ?_⟩)
      all_goals first
        | ((try simp only [List.cons_append, List.nil_append]); (repeat (first | exact FrSub.nil | (apply FrSub.cons; exact rfl))); done)
        | ((try simp only [List.cons_append, List.nil_append]); (repeat (first | exact HpSub.refl _ | (apply HpSub.consE; (repeat (first | exact P0 | apply P1 | apply PA)); exact rfl) | apply HpSub.appC | apply HpSub.skipX | apply HpSub.skip | apply HpSub.skipApp | exact HpSub.nil)); done)
  · obtain rfl : i = n := by omega
    rw [hti]
    repeat' (first | ((with_reducible apply oq_id); first | ((with_reducible apply oq_lssF); exact rfl; exact rfl; omega) | (apply oq_fn; exact rfl; first | exact trivial | (refine ⟨?_, ?_⟩ <;> omega) | (refine ⟨?_, ?_, ?_⟩ <;> omega) | omega | skip)) | ((with_reducible apply tl_id); first | ((with_reducible apply tl_nil)) | ((with_reducible apply u_q); exact rfl; exact rfl; exact rfl; exact rfl)) | ((with_reducible apply t_id); first | ((with_reducible apply t_seq)) | (apply t_region; kernel_rfl) | ((with_reducible apply t_condF); exact rfl) | ((with_reducible apply t_ret)) | ((with_reducible apply t_exit))) | with_reducible apply q_thenN | with_reducible apply q_thenE | ((with_reducible apply q_blockE); exact rfl) | ((with_reducible apply end_ret)) | exact rvs_nil | ((with_reducible apply rvs_cons)) | ((with_reducible apply rv_tmp); exact rfl))
    all_goals exact ⟨_, ⟨o, ho, rfl, rfl⟩, hp_left⟩

end Go.Proofs.Ytmlmgipngbndgaa
/- Tired and CheckDuty, the program's. -/
namespace Go.Proofs.Ytmlmgipngbndgaa
open Go.RowKit
attribute [local irreducible] OQ OS OX Rd T TL GX GL AL AI RV wpG SAny Calls
set_option maxRecDepth 100000
set_option maxHeartbeats 2000000
set_option linter.unusedVariables false
set_option linter.unusedSimpArgs false

theorem dutyR_calls (d : Du) (w : World) : Calls Try.prog 44 #[.agg #[.int .i64 d.most, .int .i64 d.rest, .int .i64 d.win, .int .i64 d.sum]] w fun e w' => e = .returned (.int .i64 (duE d)) ∧ Ext w w' := by
  obtain ⟨q1, hq1⟩ : ∃ q, allFrom 1 100000 [d.most, d.win] = q := ⟨_, rfl⟩
  obtain ⟨q2, hq2⟩ : ∃ q, allFrom 0 100000 [d.rest] = q := ⟨_, rfl⟩
  obtain ⟨q3, hq3⟩ : ∃ q, allFrom 0 d.win [d.sum] = q := ⟨_, rfl⟩
  have e1 : q1 = true ↔ (1 ≤ d.most ∧ d.most ≤ 100000) ∧ 1 ≤ d.win ∧ d.win ≤ 100000 := by rw [← hq1]; unfold allFrom; simp
  have e2 : q2 = true ↔ 0 ≤ d.rest ∧ d.rest ≤ 100000 := by rw [← hq2]; exact allFrom_one
  have e3 : q3 = true ↔ 0 ≤ d.sum ∧ d.sum ≤ d.win := by rw [← hq3]; exact allFrom_one
  have hdu : duB d ↔ q1 = true ∧ q2 = true ∧ q3 = true := by rw [e1, e2, e3]; unfold duB; omega
  unfold duE
  cases q1 with
  | false =>
    rw [if_neg (fun h => by have := (hdu.1 h).1; cases this)]
    refine enterQ (c := cx w 26) Try.func44 rfl rfl rfl rfl ?_
    repeat' (first | ((with_reducible apply oq_id); first | (apply oq_fn; exact rfl; first | exact trivial | (refine ⟨?_, ?_⟩ <;> omega) | (refine ⟨?_, ?_, ?_⟩ <;> omega) | omega | skip) | ((with_reducible apply oq_load); exact rfl; exact rfl) | ((with_reducible apply oq_call (k := 63) (hc := Try.call63)); exact rfl; exact rfl; exact fun D w1 hw1 => fromTwo hq1 hw1 (by (repeat (first | exact P0 | apply P1))))) | ((with_reducible apply tl_id); first | ((with_reducible apply tl_nil)) | ((with_reducible apply u_q); exact rfl; exact rfl; exact rfl; exact rfl) | ((with_reducible apply u_s); exact rfl; exact rfl; exact rfl) | ((with_reducible apply u_skip); exact rfl; exact rfl; exact rfl)) | ((with_reducible apply os_id); first | ((with_reducible apply os_x); exact rfl)) | ((with_reducible apply ox_id); first | ((with_reducible apply ox_boxAgg); exact rfl; intro _) | ((with_reducible apply ox_buildSlice1); exact rfl; exact rfl; exact rfl; exact rfl; exact rfl; exact rfl; intro _)) | ((with_reducible apply rd_id); first | (apply Rd.own; (repeat (first | exact P0 | apply P1)); exact rfl; done)) | ((with_reducible apply t_id); first | ((with_reducible apply t_seq)) | (apply t_region; kernel_rfl) | ((with_reducible apply t_condT); exact rfl) | ((with_reducible apply t_ret))) | with_reducible apply q_thenN | with_reducible apply q_thenR | ((with_reducible apply end_ret)) | exact rvs_nil | ((with_reducible apply rvs_cons)) | ((with_reducible apply rv_tmp); exact rfl))
    all_goals rfl
  | true =>
    cases q2 with
    | false =>
      rw [if_neg (fun h => by have := (hdu.1 h).2.1; cases this)]
      refine enterQ (c := cx w 26) Try.func44 rfl rfl rfl rfl ?_
      repeat' (first | ((with_reducible apply oq_id); first | (apply oq_fn; exact rfl; first | exact trivial | (refine ⟨?_, ?_⟩ <;> omega) | (refine ⟨?_, ?_, ?_⟩ <;> omega) | omega | skip) | ((with_reducible apply oq_load); exact rfl; exact rfl) | ((with_reducible apply oq_call (k := 63) (hc := Try.call63)); exact rfl; exact rfl; exact fun D w1 hw1 => fromTwo hq1 hw1 (by (repeat (first | exact P0 | apply P1)))) | ((with_reducible apply oq_call (k := 63) (hc := Try.call63)); exact rfl; exact rfl; exact fun D w1 hw1 => fromOne hq2 hw1 (by (repeat (first | exact P0 | apply P1))))) | ((with_reducible apply tl_id); first | ((with_reducible apply tl_nil)) | ((with_reducible apply u_q); exact rfl; exact rfl; exact rfl; exact rfl) | ((with_reducible apply u_s); exact rfl; exact rfl; exact rfl) | ((with_reducible apply u_skip); exact rfl; exact rfl; exact rfl)) | ((with_reducible apply os_id); first | ((with_reducible apply os_x); exact rfl)) | ((with_reducible apply ox_id); first | ((with_reducible apply ox_boxAgg); exact rfl; intro _) | ((with_reducible apply ox_buildSlice1); exact rfl; exact rfl; exact rfl; exact rfl; exact rfl; exact rfl; intro _)) | ((with_reducible apply rd_id); first | (apply Rd.own; (repeat (first | exact P0 | apply P1)); exact rfl; done)) | ((with_reducible apply t_id); first | ((with_reducible apply t_seq)) | (apply t_region; kernel_rfl) | ((with_reducible apply t_condT); exact rfl) | ((with_reducible apply t_ret))) | with_reducible apply q_thenN | with_reducible apply q_thenR | ((with_reducible apply end_ret)) | exact rvs_nil | ((with_reducible apply rvs_cons)) | ((with_reducible apply rv_tmp); exact rfl))
      all_goals rfl
    | true =>
      cases q3 with
      | false =>
        rw [if_neg (fun h => by have := (hdu.1 h).2.2; cases this)]
        refine enterQ (c := cx w 26) Try.func44 rfl rfl rfl rfl ?_
        repeat' (first | ((with_reducible apply oq_id); first | (apply oq_fn; exact rfl; first | exact trivial | (refine ⟨?_, ?_⟩ <;> omega) | (refine ⟨?_, ?_, ?_⟩ <;> omega) | omega | skip) | ((with_reducible apply oq_load); exact rfl; exact rfl) | ((with_reducible apply oq_call (k := 63) (hc := Try.call63)); exact rfl; exact rfl; exact fun D w1 hw1 => fromTwo hq1 hw1 (by (repeat (first | exact P0 | apply P1)))) | ((with_reducible apply oq_call (k := 63) (hc := Try.call63)); exact rfl; exact rfl; exact fun D w1 hw1 => fromOne hq2 hw1 (by (repeat (first | exact P0 | apply P1)))) | ((with_reducible apply oq_call (k := 63) (hc := Try.call63)); exact rfl; exact rfl; exact fun D w1 hw1 => fromOne hq3 hw1 (by (repeat (first | exact P0 | apply P1))))) | ((with_reducible apply tl_id); first | ((with_reducible apply tl_nil)) | ((with_reducible apply u_q); exact rfl; exact rfl; exact rfl; exact rfl) | ((with_reducible apply u_s); exact rfl; exact rfl; exact rfl)) | ((with_reducible apply os_id); first | ((with_reducible apply os_x); exact rfl)) | ((with_reducible apply ox_id); first | ((with_reducible apply ox_boxAgg); exact rfl; intro _) | ((with_reducible apply ox_buildSlice1); exact rfl; exact rfl; exact rfl; exact rfl; exact rfl; exact rfl; intro _)) | ((with_reducible apply rd_id); first | (apply Rd.own; (repeat (first | exact P0 | apply P1)); exact rfl; done)) | ((with_reducible apply t_id); first | ((with_reducible apply t_seq)) | (apply t_region; kernel_rfl) | ((with_reducible apply t_condT); exact rfl) | ((with_reducible apply t_ret))) | with_reducible apply q_thenN | with_reducible apply q_thenR | ((with_reducible apply end_ret)) | exact rvs_nil | ((with_reducible apply rvs_cons)) | ((with_reducible apply rv_tmp); exact rfl))
        all_goals rfl
      | true =>
        rw [if_pos (hdu.2 ⟨rfl, rfl, rfl⟩)]
        refine enterQ (c := cx w 26) Try.func44 rfl rfl rfl rfl ?_
        repeat' (first | ((with_reducible apply oq_id); first | (apply oq_fn; exact rfl; first | exact trivial | (refine ⟨?_, ?_⟩ <;> omega) | (refine ⟨?_, ?_, ?_⟩ <;> omega) | omega | skip) | ((with_reducible apply oq_load); exact rfl; exact rfl) | ((with_reducible apply oq_call (k := 63) (hc := Try.call63)); exact rfl; exact rfl; exact fun D w1 hw1 => fromTwo hq1 hw1 (by (repeat (first | exact P0 | apply P1)))) | ((with_reducible apply oq_call (k := 63) (hc := Try.call63)); exact rfl; exact rfl; exact fun D w1 hw1 => fromOne hq2 hw1 (by (repeat (first | exact P0 | apply P1)))) | ((with_reducible apply oq_call (k := 63) (hc := Try.call63)); exact rfl; exact rfl; exact fun D w1 hw1 => fromOne hq3 hw1 (by (repeat (first | exact P0 | apply P1))))) | ((with_reducible apply tl_id); first | ((with_reducible apply tl_nil)) | ((with_reducible apply u_q); exact rfl; exact rfl; exact rfl; exact rfl) | ((with_reducible apply u_s); exact rfl; exact rfl; exact rfl)) | ((with_reducible apply os_id); first | ((with_reducible apply os_x); exact rfl)) | ((with_reducible apply ox_id); first | ((with_reducible apply ox_boxAgg); exact rfl; intro _) | ((with_reducible apply ox_buildSlice1); exact rfl; exact rfl; exact rfl; exact rfl; exact rfl; exact rfl; intro _)) | ((with_reducible apply rd_id); first | (apply Rd.own; (repeat (first | exact P0 | apply P1)); exact rfl; done)) | ((with_reducible apply t_id); first | ((with_reducible apply t_seq)) | (apply t_region; kernel_rfl) | ((with_reducible apply t_condF); exact rfl) | ((with_reducible apply t_ret)) | ((with_reducible apply t_skip))) | with_reducible apply q_thenN | ((with_reducible apply end_ret)) | exact rvs_nil | ((with_reducible apply rvs_cons)) | ((with_reducible apply rv_tmp); exact rfl))
        all_goals rfl
/-- What Tired hands out. -/
def tiL (d : Du) (l : List Sh) : List Ti := if tiE d l = 0 then tiV d l else []
def TiE (E : Int) (T : List Ti) (v : Value) (H : Hp) : Prop := ∃ x, (x = none → T.length = 0) ∧ v = .tuple #[.slice (clA x) T.length (clC x), .int .i64 E] ∧ H = clH 99 3 (tiB T) x
theorem tiE_ok {d : Du} {l : List Sh} (h : tiE d l = 0) : duB d ∧ l.length ≤ 40 ∧ Ros l := by
  unfold tiE duE rosE at h
  by_cases h1 : duB d
  · rw [if_pos h1] at h
    by_cases h2 : 40 < l.length
    · rw [if_pos h2] at h; simp at h
    · rw [if_neg h2] at h
      by_cases h3 : Ros l
      · exact ⟨h1, by omega, h3⟩
      · rw [if_neg h3] at h; simp at h
  · rw [if_neg h1] at h; simp at h
theorem tiE_eq {d : Du} {l : List Sh} : (if duE d = 0 then rosE l else duE d) = tiE d l := rfl
theorem tiredE_T (d : Du) (A : Option Addr) (n c : Nat) (l : List Sh) (w : World) (hr : RdS w 3 A n (l.map shCells)) (hA : A = none → n = 0 ∧ c = 0) (hn : n ≤ 1000000) : Calls Try.prog 42 #[.agg #[.int .i64 d.most, .int .i64 d.rest, .int .i64 d.win, .int .i64 d.sum], .slice A n c] w fun e w' => ∃ v H', e = .returned v ∧ TiE (tiE d l) (tiL d l) v H' ∧ Has w ⟨[], []⟩ H' w' := by
  have hl := hr.len
  simp only [List.length_map] at hl
  have HD := fun w1 => dutyR_calls d w1
  have HR := fun w1 h => rosR_calls A n c l w1 h hA hn
  obtain ⟨E, hE⟩ : ∃ E, tiE d l = E := ⟨_, rfl⟩
  have hEq := tiE_eq (d := d) (l := l)
  rw [hE] at hEq
  obtain ⟨p, hp⟩ : ∃ p, duE d = p := ⟨_, rfl⟩
  obtain ⟨q, hq⟩ : ∃ q, rosE l = q := ⟨_, rfl⟩
  rw [hp, hq] at hEq
  rw [hp] at HD
  rw [hq] at HR
  have HO := fun A cp w c0 c1 => orE_calls p q A cp w c0 c1
  rw [hEq] at HO
  rw [hE]
  by_cases h0 : E = 0
  · subst h0
    obtain ⟨hd, hl40, hRos⟩ := tiE_ok hE
    have hL : tiL d l = tiV d l := by unfold tiL; rw [if_pos hE]
    rw [hL]
    obtain ⟨T, hT⟩ : ∃ T, tiV d l = T := ⟨_, rfl⟩
    rw [hT]
    refine enterF (c := cx w 19) Try.func42 rfl rfl rfl rfl ?_
    repeat' (first | ((with_reducible apply oq_id); first | ((with_reducible apply oq_neqF); exact rfl; exact rfl; omega) | (apply oq_fn; exact rfl; first | exact trivial | (refine ⟨?_, ?_⟩ <;> omega) | (refine ⟨?_, ?_, ?_⟩ <;> omega) | omega | skip) | ((with_reducible apply oq_loadAgg); exact rfl; exact rfl) | ((with_reducible apply oq_call (k := 44) (hc := Try.call44)); exact rfl; exact rfl; exact fun D w1 hw1 => HD w1) | ((with_reducible apply oq_call (k := 46) (hc := Try.call46)); exact rfl; exact rfl; exact fun D w1 hw1 => HR w1 (hr.ext hw1.ext.ext)) | ((with_reducible apply oq_call (k := 81) (hc := Try.call81)); exact rfl; exact rfl; exact fun D w1 hw1 => HO _ _ w1 (hw1.cellAt (by (repeat (first | exact P0 | apply P1))) rfl) (hw1.cellAt (by (repeat (first | exact P0 | apply P1))) rfl))) | ((with_reducible apply tl_id); first | ((with_reducible apply tl_nil)) | ((with_reducible apply u_s); exact rfl; exact rfl; exact rfl; (with_reducible apply os_callF (PV := TiO T) (k := 82) (hc := Try.call82)); exact rfl; exact rfl; exact fun D w1 hw1 => (by rw [← hT]; exact tiredR_T d hd A n c l w1 (hr.ext hw1.ext.ext) hA (by omega) hRos); rintro v H' ⟨x, hx, rfl, rfl⟩; (try simp only [List.append_nil])) | ((with_reducible apply u_q); exact rfl; exact rfl; exact rfl; exact rfl) | ((with_reducible apply u_s); exact rfl; exact rfl; exact rfl)) | ((with_reducible apply os_id); first | ((with_reducible apply os_x); exact rfl)) | ((with_reducible apply ox_id); first | ((with_reducible apply ox_boxAgg); exact rfl; intro _) | ((with_reducible apply ox_buildSlice1); exact rfl; exact rfl; exact rfl; exact rfl; exact rfl; exact rfl; intro _)) | ((with_reducible apply rd_id); first | (apply Rd.own; (repeat (first | exact P0 | apply P1)); exact rfl; done)) | ((with_reducible apply t_id); first | ((with_reducible apply t_seq)) | (apply t_region; kernel_rfl) | ((with_reducible apply t_condF); exact rfl) | ((with_reducible apply t_ret)) | ((with_reducible apply t_skip))) | with_reducible apply q_thenN | exact Rdn.zero | apply Rdn.succ | ((with_reducible apply end_ret)) | exact rvs_nil | ((with_reducible apply rvs_cons)) | ((with_reducible apply rv_tmp); exact rfl))
    all_goals exact ⟨_, ⟨x, hx, rfl, rfl⟩, hp_left⟩
  · have hL : tiL d l = [] := by unfold tiL; rw [if_neg (by rw [hE]; exact h0)]
    rw [hL]
    refine enterF (c := cx w 19) Try.func42 rfl rfl rfl rfl ?_
    repeat' (first | ((with_reducible apply oq_id); first | ((with_reducible apply oq_neqT); exact rfl; exact rfl; omega) | (apply oq_fn; exact rfl; first | exact trivial | (refine ⟨?_, ?_⟩ <;> omega) | (refine ⟨?_, ?_, ?_⟩ <;> omega) | omega | skip) | ((with_reducible apply oq_loadAgg); exact rfl; exact rfl) | ((with_reducible apply oq_call (k := 44) (hc := Try.call44)); exact rfl; exact rfl; exact fun D w1 hw1 => HD w1) | ((with_reducible apply oq_call (k := 46) (hc := Try.call46)); exact rfl; exact rfl; exact fun D w1 hw1 => HR w1 (hr.ext hw1.ext.ext)) | ((with_reducible apply oq_call (k := 81) (hc := Try.call81)); exact rfl; exact rfl; exact fun D w1 hw1 => HO _ _ w1 (hw1.cellAt (by (repeat (first | exact P0 | apply P1))) rfl) (hw1.cellAt (by (repeat (first | exact P0 | apply P1))) rfl))) | ((with_reducible apply tl_id); first | ((with_reducible apply tl_nil)) | ((with_reducible apply u_q); exact rfl; exact rfl; exact rfl; exact rfl) | ((with_reducible apply u_s); exact rfl; exact rfl; exact rfl)) | ((with_reducible apply os_id); first | ((with_reducible apply os_x); exact rfl)) | ((with_reducible apply ox_id); first | ((with_reducible apply ox_boxAgg); exact rfl; intro _) | ((with_reducible apply ox_buildSlice1); exact rfl; exact rfl; exact rfl; exact rfl; exact rfl; exact rfl; intro _)) | ((with_reducible apply rd_id); first | (apply Rd.own; (repeat (first | exact P0 | apply P1)); exact rfl; done)) | ((with_reducible apply t_id); first | ((with_reducible apply t_seq)) | (apply t_region; kernel_rfl) | ((with_reducible apply t_condT); exact rfl) | ((with_reducible apply t_ret))) | with_reducible apply q_thenN | with_reducible apply q_thenR | exact Rdn.zero | apply Rdn.succ | ((with_reducible apply end_ret)) | exact rvs_nil | ((with_reducible apply rvs_cons)) | ((with_reducible apply rv_tmp); exact rfl))
    all_goals exact ⟨_, ⟨none, fun _ => rfl, rfl, rfl⟩, HpSub.nil⟩

end Go.Proofs.Ytmlmgipngbndgaa
