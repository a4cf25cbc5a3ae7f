/- Settling: what the code computes, part 2. -/
import Derived.Test.YtalidommelefaaaSet1
namespace Go.Proofs.Ytalidommelefaaa
open Go.RowKit
attribute [local irreducible] OQ OS OX Rd T TL GX GL AL AI RV wpG SAny Calls
set_option maxRecDepth 100000
set_option maxHeartbeats 2000000
set_option linter.unusedVariables false
set_option linter.unusedSimpArgs false


theorem Pick.uniq {w0 : World} {M : Ms} {H H1 H2 : Hp} {w : World} {a : Nat} {C C' : List Value} {g g' : Tg} (h : Has w0 M H w) (p : Pick H a C g H1) (q : Pick H a C' g' H2) : C = C' ∧ g = g' := by
  have hn := h.nodup
  have hp := p.mem
  have hq := q.mem
  clear p q
  clear h
  induction H generalizing H1 H2 with
  | nil => cases hp
  | cons x H ih =>
    rw [List.map_cons, List.nodup_cons] at hn
    rcases List.mem_cons.1 hp with hp | hp <;> rcases List.mem_cons.1 hq with hq | hq
    · rw [← hp] at hq
      simp only [Prod.mk.injEq, true_and] at hq
      exact ⟨hq.1.symm, hq.2.symm⟩
    · exact absurd (List.mem_map.2 ⟨_, hq, by rw [← hp]⟩) hn.1
    · exact absurd (List.mem_map.2 ⟨_, hp, by rw [← hq]⟩) hn.1
    · exact ih (H1 := []) (H2 := []) hn.2 hp hq
theorem Pick.ne_tag {w0 : World} {M : Ms} {H H1 H2 : Hp} {w : World} {a b : Nat} {C C' : List Value} {g g' : Tg} (h : Has w0 M H w) (p : Pick H a C g H1) (q : Pick H b C' g' H2) (hg : g ≠ g') : a ≠ b := by
  rintro rfl
  exact hg (Pick.uniq h p q).2
/-- In between: tighter than the sounding, and within bounds. -/
structure OkL (l cur : List Lv) : Prop where
  tt : Tt cur l
  bd : ∀ x ∈ cur, 0 ≤ x.plo ∧ x.plo ≤ 400000000 ∧ 0 ≤ x.phi ∧ x.phi ≤ 12000
theorem Snd.ch {l : List Lv} (h : Snd l) : Ch l := by
  have key : ∀ (m : List Lv), (∀ x ∈ m, 0 ≤ x.plo ∧ 0 ≤ x.phi) → (∀ {i : Nat} {x y : Lv}, m[i]? = some x → m[i + 1]? = some y → GapOk (y.h - x.h) (gapT x y)) → Ch m := by
    intro m
    induction m with
    | nil => intro _ _; exact .nil
    | cons a r ih =>
      intro h1 h2
      cases r with
      | nil => exact .one (h1 a (List.mem_cons_self ..))
      | cons b r => exact .cons (h1 a (List.mem_cons_self ..)) (h2 (i := 0) rfl rfl) (ih (fun x hx => h1 x (List.mem_cons_of_mem _ hx)) (fun {i x y} hx hy => h2 (i := i + 1) (by simpa using hx) (by simpa using hy)))
  refine key l (fun x hx => by have := h.ok x hx; omega) (fun {i x y} hx hy => ?_)
  have := h.rise hx hy
  have kx := h.ok x (List.mem_of_getElem? hx)
  have ky := h.ok y (List.mem_of_getElem? hy)
  refine ⟨by omega, by omega, ?_, ?_, ?_⟩ <;> (unfold gapT hullS Lv.temp; simp only; omega)
theorem upF_bd {B : Int} : ∀ {r : List Lv} {a : Lv}, Ch (a :: r) → (∀ x ∈ a :: r, x.plo ≤ B) → ∀ x ∈ upF a r, x.plo ≤ B
  | [], a, _, h => h
  | b :: r, a, hc, h => by
    cases hc with
    | cons ha g k =>
      have hb := upB_pos g ha k.head
      have hr := rise_pos g (x := a.press) ha.1 ha.2
      have h1 : (upB a b).plo ≤ B := by
        have e1 := h a (List.mem_cons_self ..)
        have e2 := h b (by simp)
        have e3 : (upB a b).plo = max b.plo (upI a b).1 := rfl
        have e4 : (upI a b).1 ≤ a.plo := hr.2.1
        omega
      intro x hx
      simp only [upF] at hx
      rcases List.mem_cons.1 hx with rfl | hx
      · exact h _ (List.mem_cons_self ..)
      · have hb' : Ch (upB a b :: r) := k.put rfl rfl rfl hb
        exact upF_bd (a := upB a b) (r := r) hb' (fun y hy => by
          rcases List.mem_cons.1 hy with rfl | hy
          · exact h1
          · exact h y (by simp [hy])) x hx
theorem dnL_bd {B : Int} (hB : 0 ≤ B) : ∀ {l : List Lv}, Ch l → FixU l → (∀ x ∈ l, x.plo ≤ B) → ∀ x ∈ dnL l, x.plo ≤ B * 2 ^ (l.length - 1)
  | [], _, _, _, x, hx => by cases hx
  | [a], _, _, h, x, hx => by have := h x hx; simpa using this
  | a :: b :: r, hc, hu, h, x, hx => by
    cases hc with
    | cons ha g k =>
      cases hu with
      | cons u1 u2 =>
        have ih := dnL_bd hB k u2 (fun y hy => h y (List.mem_cons_of_mem _ hy))
        obtain ⟨i1, i2, i3⟩ := dnL_ch k u2
        have hp : (0 : Int) < 2 ^ ((b :: r).length - 1) := Int.pow_pos (by omega)
        have e2 : B * 2 ^ ((a :: b :: r).length - 1) = 2 * (B * 2 ^ ((b :: r).length - 1)) := by
          simp only [List.length_cons, Nat.add_sub_cancel, Int.pow_succ]
          rw [← Int.mul_assoc, Int.mul_comm]
        rw [e2]
        have hBp : B ≤ B * 2 ^ ((b :: r).length - 1) := by
          have := Int.mul_le_mul_of_nonneg_left (show (1 : Int) ≤ 2 ^ ((b :: r).length - 1) by omega) hB
          omega
        have hx' : x ∈ dnH a (dnL (b :: r)) := hx
        cases hd : dnL (b :: r) with
        | nil => rw [hd] at i3; cases i3
        | cons c s =>
          rw [hd] at hx' i1 i3 ih
          simp only [dnH] at hx'
          rcases List.mem_cons.1 hx' with rfl | hx'
          · cases i3 with
            | cons e i3 =>
              obtain ⟨e1, e2', e3, e4⟩ := e
              have eg := upI_eq (a := a) (a' := a) rfl rfl rfl e1 e2' e3
              have gc : GapOk (c.h - a.h) (gapT a c) := by rw [eg.1, eg.2]; exact g
              have hcp := i1.head
              have hs := sink_pos gc (x := c.press) hcp.1 hcp.2
              have k1 : (dnA a c).plo = max a.plo (dnI a c).1 := rfl
              have k2 : (dnI a c).1 ≤ 2 * c.plo := hs.2.1
              have k3 := ih c (List.mem_cons_self ..)
              have k4 := h a (List.mem_cons_self ..)
              have := hcp.1
              omega
          · have := ih x hx'
            have h0 := (i1.pos hx').1
            omega
theorem Tt.mem_of {l m : List Lv} (h : Tt m l) {y : Lv} (hy : y ∈ m) : ∃ x ∈ l, y.h = x.h ∧ y.tlo = x.tlo ∧ y.thi = x.thi ∧ SIn y.press x.press := by
  obtain ⟨i, hi, rfl⟩ := List.getElem_of_mem hy
  have hl := h.len
  exact ⟨l[i]'(by omega), List.getElem_mem _, h.get (List.getElem?_eq_getElem hi) (List.getElem?_eq_getElem (by omega))⟩
theorem Snd.setl_bd {l : List Lv} (h : Snd l) : ∀ x ∈ setl l, x.plo ≤ 400000000 := by
  have hc := h.ch
  have h16 := h.n16
  cases l with
  | nil => intro x hx; cases hx
  | cons a r =>
    obtain ⟨h1, h2, h3, _⟩ := upF_ch hc
    intro x hx
    have := dnL_bd (B := 12000) (by omega) h1 h2 (upF_bd hc (fun y hy => by have := h.ok y hy; omega)) x hx
    have hl : (upF a r).length - 1 ≤ 15 := by rw [upF_len]; simp at h16; omega
    have hp : (2 : Int) ^ ((upF a r).length - 1) ≤ 2 ^ 15 := by
      have := Nat.pow_le_pow_right (show 0 < 2 by omega) hl
      exact_mod_cast this
    have := Int.mul_le_mul_of_nonneg_left hp (show (0 : Int) ≤ 12000 by omega)
    have e : (12000 : Int) * 2 ^ 15 = 393216000 := by decide
    omega
/-- What lies between the sounding and what it settles to is within bounds. -/
theorem okL_of {l cur : List Lv} (h : Snd l) (h1 : Tt cur l) (h2 : Tt (setl l) cur) : OkL l cur := by
  refine ⟨h1, fun x hx => ?_⟩
  obtain ⟨y, hy, _, _, _, k1, k2⟩ := h1.mem_of hx
  have hb := h.ok y hy
  obtain ⟨i, hi, rfl⟩ := List.getElem_of_mem hx
  have hl := h2.len
  have hz : (setl l)[i]? = some (setl l)[i] := List.getElem?_eq_getElem (by omega)
  obtain ⟨_, _, _, k3, k4⟩ := h2.get hz (List.getElem?_eq_getElem hi)
  have b1 := h.setl_bd _ (List.mem_of_getElem? hz)
  have b2 := (setl_fix h.ch).1.pos (List.mem_of_getElem? hz)
  unfold Lv.press at *
  simp only at *
  omega
theorem valV_adj {l : List Lv} (hs : Snd l) {i : Nat} {x y : Lv} (hx : l[i]? = some x) (hy : l[i + 1]? = some y) : valV (tabOf l) x.h y.h = gapT x y := by
  have ht := hs.tab
  have kx : (tabOf l)[i]? = some (knOf x) := by simp [tabOf, hx]
  have ky : (tabOf l)[i + 1]? = some (knOf y) := by simp [tabOf, hy]
  unfold valV
  have e1 : atV (tabOf l) x.h = (x.tlo, x.thi) := atV_knot ht.inc kx ht.l2
  have e2 : atV (tabOf l) y.h = (y.tlo, y.thi) := atV_knot ht.inc ky ht.l2
  have e3 : (tabOf l).filter (kIn x.h y.h) = [] := by
    rw [List.filter_eq_nil_iff]
    intro k hk
    obtain ⟨j, hj, rfl⟩ := List.getElem_of_mem hk
    have hkj : (tabOf l)[j]? = some (tabOf l)[j] := List.getElem?_eq_getElem hj
    simp only [kIn, Bool.and_eq_true, decide_eq_true_eq]
    rcases Nat.lt_or_ge i j with h | h
    · rcases Nat.lt_or_eq_of_le h with h2 | h2
      · have : (knOf y).x < ((tabOf l)[j]).x := ht.inc.at_ h2 ky hkj
        have e : (knOf y).x = y.h := rfl
        omega
      · subst h2
        rw [ky] at hkj
        have := Option.some.inj hkj
        rw [← this]
        have e : (knOf y).x = y.h := rfl
        omega
    · rcases Nat.lt_or_eq_of_le h with h2 | h2
      · have : ((tabOf l)[j]).x < (knOf x).x := ht.inc.at_ h2 hkj kx
        have e : (knOf x).x = x.h := rfl
        omega
      · subst h2
        rw [kx] at hkj
        have := Option.some.inj hkj
        rw [← this]
        have e : (knOf x).x = x.h := rfl
        omega
  rw [e1, e2, e3]
  rfl
/-- Heights only grow. -/
theorem Snd.mono {l : List Lv} (hs : Snd l) {i j : Nat} {x y : Lv} (hx : l[i]? = some x) (hy : l[j]? = some y) (h : i ≤ j) : x.h ≤ y.h := by
  rcases Nat.lt_or_eq_of_le h with h2 | h2
  · have kx : (tabOf l)[i]? = some (knOf x) := by simp [tabOf, hx]
    have ky : (tabOf l)[j]? = some (knOf y) := by simp [tabOf, hy]
    have : (knOf x).x < (knOf y).x := hs.tab.inc.at_ h2 kx ky
    have e1 : (knOf x).x = x.h := rfl
    have e2 : (knOf y).x = y.h := rfl
    omega
  · subst h2
    rw [hx] at hy
    rw [Option.some.inj hy]
    exact Int.le_refl _
section
variable {w0 : World} {M : Ms} {H H0 H1 H2 H3 H4 : Hp} {w1 : World} {g bo bt bk gk n cap ck : Nat} {l cur : List Lv}
theorem thermo_at (hs : Snd l) (hl : l.length = n) {i : Nat} {x y : Lv} (hx : l[i]? = some x) (hy : l[i + 1]? = some y) (hw : Has w0 M H w1) (pg : Pick H g (cur.map lvCells).flatten (some (76, 5, cap)) H0)
    (pk : Pick H bk [.slice (some ⟨gk, 0, none⟩) n ck] (some (164, 1, 1)) H3) (pq : Pick H gk ((tabOf l).map knCells).flatten (some (166, 3, ck)) H4) (a b : Int) (hab : (a = x.h ∧ b = y.h) ∨ (a = y.h ∧ b = x.h)) (w2 : World) (he : ExtM [g] w1 w2) :
    Calls Try.prog 133 #[.int .i64 a, .int .i64 b, .pointer (some ⟨bk, 0, none⟩)] w2 fun e w' => e = .returned (.agg #[.int .i64 (gapT x y).1, .int .i64 (gapT x y).2]) ∧ Ext w2 w' := by
  have n1 := Pick.ne_tag hw pk pg (by simp)
  have n2 := Pick.ne_tag hw pq pg (by simp)
  have c1 := hw.cellAt pk (o := 0) rfl
  have hB := (hw.blk _ pq.mem).2
  have c1' : w2.cell? ⟨bk, 0, none⟩ = some (.slice (some ⟨gk, 0, none⟩) n ck) := by
    rw [World.cell?_of_block (w := w1) (a := ⟨bk, 0, none⟩) (he.block bk (cell_lt c1) (by simpa using n1))]
    exact c1
  have hB' : Blk w2 gk ((tabOf l).map knCells).flatten (some (166, 3, ck)) := hB.same (he.block gk hB.lt (by simpa using n2))
  have hr := hB'.rows (k := 3) (n := n) (by simp [tabOf, hl]) (by simp only [List.mem_map]; rintro r ⟨z, _, rfl⟩; rfl)
  have hxy := hs.rise hx hy
  have hn := hs.n2
  have key := thermo1_calls bk gk ck n l a b w2 hs hl c1' hr (fun z hz => by have := hs.mono hz hx (by omega); omega) (fun z hz => by
    have hi := (List.getElem?_eq_some_iff.1 hy).1
    have := hs.mono hy hz (by omega); omega)
  have e : valV (tabOf l) (min a b) (max a b) = gapT x y := by
    rw [← valV_adj hs hx hy]
    congr 1 <;> omega
  rw [e] at key
  exact key
theorem okL_pair (hs : Snd l) (ho : OkL l cur) {i : Nat} {x y : Lv} (hx : cur[i]? = some x) (hy : cur[i + 1]? = some y) : ∃ x' y', l[i]? = some x' ∧ l[i + 1]? = some y' ∧ x.h = x'.h ∧ y.h = y'.h ∧ gapT x y = gapT x' y' ∧ GapOk (y.h - x.h) (gapT x y) ∧ 1 ≤ y.h - x.h ∧ (-10000 ≤ x.h ∧ x.h ≤ 10000) ∧ (-10000 ≤ y.h ∧ y.h ≤ 10000) ∧
    (0 ≤ x.plo ∧ x.plo ≤ 400000000 ∧ 0 ≤ x.phi ∧ x.phi ≤ 12000) ∧ (0 ≤ y.plo ∧ y.plo ≤ 400000000 ∧ 0 ≤ y.phi ∧ y.phi ≤ 12000) := by
  have hl := ho.tt.len
  have h1 := (List.getElem?_eq_some_iff.1 hx).1
  have h2 := (List.getElem?_eq_some_iff.1 hy).1
  have kx : l[i]? = some l[i] := List.getElem?_eq_getElem (by omega)
  have ky : l[i + 1]? = some l[i + 1] := List.getElem?_eq_getElem (by omega)
  obtain ⟨a1, a2, a3, _⟩ := ho.tt.get hx kx
  obtain ⟨b1, b2, b3, _⟩ := ho.tt.get hy ky
  have e := upI_eq a1 a2 a3 b1 b2 b3
  have hr := hs.rise kx ky
  have bx := hs.ok _ (List.mem_of_getElem? kx)
  have byy := hs.ok _ (List.mem_of_getElem? ky)
  exact ⟨_, _, kx, ky, a1, b1, e.1, by rw [e.1, e.2]; exact hs.ch.get kx ky, by omega, by omega, by omega, ho.bd x (List.mem_of_getElem? hx), ho.bd y (List.mem_of_getElem? hy)⟩
theorem takeUp_at (hs : Snd l) (hl : l.length = n) (ho : OkL l cur) (k : Nat) (hk : k + 1 < n) (hw : Has w0 M H w1) (pg : Pick H g (cur.map lvCells).flatten (some (76, 5, cap)) H0) (po : Pick H bo [.slice (some ⟨g, 0, none⟩) n cap] (some (42, 1, 1)) H1)
    (pt : Pick H bt [.func (.func 133) #[] #[.pointer (some ⟨bk, 0, none⟩)]] (some (88, 1, 1)) H2) (pk : Pick H bk [.slice (some ⟨gk, 0, none⟩) n ck] (some (164, 1, 1)) H3) (pq : Pick H gk ((tabOf l).map knCells).flatten (some (166, 3, ck)) H4) :
    Calls Try.prog 102 #[.int .i64 ((k + 1 : Nat) : Int), .int .i64 (k : Int), .pointer (some ⟨bo, 0, none⟩), .pointer (some ⟨bt, 0, none⟩)] w1 fun e w' => e = .returned (.tuple #[]) ∧ ExtM [g] w1 w' ∧ Blk w' g ((takeUp cur k).map lvCells).flatten (some (76, 5, cap)) := by
  have hcl := ho.tt.len
  have hx : cur[k]? = some cur[k] := List.getElem?_eq_getElem (by omega)
  have hy : cur[k + 1]? = some cur[k + 1] := List.getElem?_eq_getElem (by omega)
  obtain ⟨x', y', kx, ky, e1, e2, e3, g1, g2, b1, b2, b3, b4⟩ := okL_pair hs ho hx hy
  have e : takeUp cur k = cur.set (k + 1) (cur[k + 1].put (joinS cur[k + 1].press (upI cur[k] cur[k + 1]))) := by unfold takeUp; simp only [hx, hy]; rfl
  rw [e]
  refine take_T bo bt bk g n cap (k + 1) k cur cur[k] cur[k + 1] (gapT cur[k] cur[k + 1]) (upI cur[k] cur[k + 1]) w1 (by omega) hx hy b1 b2 (hw.cellAt po rfl) (hw.cellAt pt rfl) (by simpa using Pick.ne_tag hw po pg (by simp)) (by simpa using Pick.ne_tag hw pt pg (by simp)) (hw.blk _ pg.mem).2 (fun w2 h2 => ?_) (fun w2 => ?_)
  · rw [e3]
    exact thermo_at hs hl kx ky hw pg pk pq _ _ (.inl ⟨e1, e2⟩) w2 h2
  · exact carry_up _ _ _ _ _ ⟨by omega, by omega⟩ ⟨by omega, by omega⟩ ⟨by omega, g1.c1⟩ ⟨g1.t0, g1.t1, g1.t2⟩ w2
theorem takeDn_at (hs : Snd l) (hl : l.length = n) (ho : OkL l cur) (k : Nat) (hk : k + 1 < n) (hw : Has w0 M H w1) (pg : Pick H g (cur.map lvCells).flatten (some (76, 5, cap)) H0) (po : Pick H bo [.slice (some ⟨g, 0, none⟩) n cap] (some (42, 1, 1)) H1)
    (pt : Pick H bt [.func (.func 133) #[] #[.pointer (some ⟨bk, 0, none⟩)]] (some (88, 1, 1)) H2) (pk : Pick H bk [.slice (some ⟨gk, 0, none⟩) n ck] (some (164, 1, 1)) H3) (pq : Pick H gk ((tabOf l).map knCells).flatten (some (166, 3, ck)) H4) :
    Calls Try.prog 102 #[.int .i64 (k : Int), .int .i64 ((k + 1 : Nat) : Int), .pointer (some ⟨bo, 0, none⟩), .pointer (some ⟨bt, 0, none⟩)] w1 fun e w' => e = .returned (.tuple #[]) ∧ ExtM [g] w1 w' ∧ Blk w' g ((takeDn cur k).map lvCells).flatten (some (76, 5, cap)) := by
  have hcl := ho.tt.len
  have hx : cur[k]? = some cur[k] := List.getElem?_eq_getElem (by omega)
  have hy : cur[k + 1]? = some cur[k + 1] := List.getElem?_eq_getElem (by omega)
  obtain ⟨x', y', kx, ky, e1, e2, e3, g1, g2, b1, b2, b3, b4⟩ := okL_pair hs ho hx hy
  have e : takeDn cur k = cur.set k (cur[k].put (joinS cur[k].press (dnI cur[k] cur[k + 1]))) := by unfold takeDn; simp only [hx, hy]; rfl
  rw [e]
  refine take_T bo bt bk g n cap k (k + 1) cur cur[k + 1] cur[k] (gapT cur[k] cur[k + 1]) (dnI cur[k] cur[k + 1]) w1 (by omega) hy hx b2 b1 (hw.cellAt po rfl) (hw.cellAt pt rfl) (by simpa using Pick.ne_tag hw po pg (by simp)) (by simpa using Pick.ne_tag hw pt pg (by simp)) (hw.blk _ pg.mem).2 (fun w2 h2 => ?_) (fun w2 => ?_)
  · rw [e3]
    exact thermo_at hs hl kx ky hw pg pk pq _ _ (.inr ⟨e2, e1⟩) w2 h2
  · have := carry_dn cur[k + 1].plo cur[k + 1].phi (cur[k + 1].h - cur[k].h) (gapT cur[k] cur[k + 1]).1 (gapT cur[k] cur[k + 1]).2 ⟨by omega, by omega⟩ ⟨by omega, by omega⟩ ⟨by omega, g1.c1⟩ ⟨g1.t0, g1.t1, g1.t2⟩ w2
    rw [show -(cur[k + 1].h - cur[k].h) = cur[k].h - cur[k + 1].h by omega] at this
    exact this
end

end Go.Proofs.Ytalidommelefaaa
