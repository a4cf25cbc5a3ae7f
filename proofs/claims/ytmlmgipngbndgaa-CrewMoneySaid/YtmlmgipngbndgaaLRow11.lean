/- What the statement computes, walked. -/
import Derived.Test.YtmlmgipngbndgaaPkL
import Derived.Test.YtmlmgipngbndgaaPkJ
import Derived.Test.YtmlmgipngbndgaaPkI
import Derived.Test.YtmlmgipngbndgaaPkO
/- What a deal leaves of the bookings: plain laws. -/
namespace Go.Proofs.Ytmlmgipngbndgaa
set_option linter.unusedVariables false
set_option linter.unusedSimpArgs false
/-- The deals that are not refused, one by one. -/
inductive DoneK (o : Off) (d : Deal) : Prop
  | add (k : d.kind = 1) (e : doneO o d = addV o d)
  | sell (k : d.kind = 2) (i : Nat) (x : Dep) (n : d.n = (i : Int)) (h : o.fl[i]? = some x) (s : x.state = 0) (l : o.bk.length < 120) (e : doneO o d = { o with bk := o.bk ++ [⟨(i : Int), if manyV o.bk i 1 < x.seats then 1 else 2, 0⟩], inn := o.inn + x.price })
  | cancel (k : d.kind = 3) (j : Nat) (b : Bk) (n : d.n = (j : Int)) (h : o.bk[j]? = some b) (s : b.state = 1 ∨ b.state = 2) (e : doneO o d = cancelV o (j : Int))
  | close (k : d.kind = 4 ∨ d.kind = 5) (i : Nat) (x : Dep) (st to : Int) (n : d.n = (i : Int)) (h : o.fl[i]? = some x) (s : x.state = 0) (q : (d.kind = 4 ∧ st = 1 ∧ to = 3 ∧ x.leaves ≤ o.now) ∨ (d.kind = 5 ∧ st = 2 ∧ to = 4)) (e : doneO o d = closedV o i x st to)
  | tick (k : d.kind = 6) (e : doneO o d = { o with now := o.now + d.n })
  | seat (k : d.kind = 7) (i : Nat) (x : Dep) (n : d.n = (i : Int)) (h : o.fl[i]? = some x) (s : x.state = 0) (e : doneO o d = givenV { o with fl := o.fl.set i ⟨d.seats, x.price, x.leaves, x.state⟩ } i)
theorem done_cases {o : Off} (hv : OkO o) (d : Deal) (hE : doneE o d = 0) : DoneK o d := by
  unfold doneE at hE
  by_cases k1 : d.kind = 1
  · exact .add k1 (by unfold doneO; rw [if_pos k1])
  rw [if_neg k1] at hE
  by_cases k2 : d.kind = 2
  · rw [if_pos k2] at hE
    by_cases c1 : openE o d.n = 0
    · rw [if_pos c1] at hE
      by_cases c2 : o.bk.length < 120
      · obtain ⟨i, e, hn, hi, h0⟩ := openE_ok c1
        refine .sell k2 i e hn hi h0 c2 ?_
        unfold doneO
        rw [if_neg k1, if_pos k2, hn]
        exact sell_eq hv hi h0
      · rw [if_neg c2] at hE; exact absurd hE (by decide)
    · rw [if_neg c1] at hE; exact absurd hE c1
  rw [if_neg k2] at hE
  by_cases k3 : d.kind = 3
  · rw [if_pos k3] at hE
    by_cases c1 : 0 ≤ d.n ∧ d.n < (o.bk.length : Int)
    · rw [if_pos c1] at hE
      by_cases c2 : (bkAt o d.n).state = 1 ∨ (bkAt o d.n).state = 2
      · obtain ⟨j, hj⟩ : ∃ j : Nat, d.n = (j : Int) := ⟨d.n.toNat, by omega⟩
        obtain ⟨b, hb⟩ : ∃ b, o.bk[j]? = some b := ⟨_, List.getElem?_eq_getElem (by omega)⟩
        have hbat : bkAt o (j : Int) = b := by unfold bkAt; rw [Int.toNat_natCast, hb]
        rw [hj, hbat] at c2
        refine .cancel k3 j b hj hb c2 ?_
        unfold doneO
        rw [if_neg k1, if_neg k2, if_pos k3, hj]
      · rw [if_neg c2] at hE; exact absurd hE (by decide)
    · rw [if_neg c1] at hE; exact absurd hE (by decide)
  rw [if_neg k3] at hE
  by_cases k4 : d.kind = 4
  · rw [if_pos k4] at hE
    by_cases c1 : openE o d.n = 0
    · rw [if_pos c1] at hE
      by_cases c2 : (depAt o d.n).leaves ≤ o.now
      · obtain ⟨i, e, hn, hi, h0⟩ := openE_ok c1
        have hdep : depAt o (i : Int) = e := by unfold depAt; rw [Int.toNat_natCast, hi]
        rw [hn, hdep] at c2
        refine .close (.inl k4) i e 1 3 hn hi h0 (.inl ⟨k4, rfl, rfl, c2⟩) ?_
        unfold doneO
        rw [if_neg k1, if_neg k2, if_neg k3, if_pos k4, hn, hdep, Int.toNat_natCast]
      · rw [if_neg c2] at hE; exact absurd hE (by decide)
    · rw [if_neg c1] at hE; exact absurd hE c1
  rw [if_neg k4] at hE
  by_cases k5 : d.kind = 5
  · rw [if_pos k5] at hE
    obtain ⟨i, e, hn, hi, h0⟩ := openE_ok hE
    have hdep : depAt o (i : Int) = e := by unfold depAt; rw [Int.toNat_natCast, hi]
    refine .close (.inr k5) i e 2 4 hn hi h0 (.inr ⟨k5, rfl, rfl⟩) ?_
    unfold doneO
    rw [if_neg k1, if_neg k2, if_neg k3, if_neg k4, if_pos k5, hn, hdep, Int.toNat_natCast]
  rw [if_neg k5] at hE
  by_cases k6 : d.kind = 6
  · exact .tick k6 (by unfold doneO; rw [if_neg k1, if_neg k2, if_neg k3, if_neg k4, if_neg k5, if_pos k6])
  rw [if_neg k6] at hE
  by_cases k7 : d.kind = 7
  · rw [if_pos k7] at hE
    by_cases c1 : openE o d.n = 0
    · obtain ⟨i, e, hn, hi, h0⟩ := openE_ok c1
      have hdep : depAt o (i : Int) = e := by unfold depAt; rw [Int.toNat_natCast, hi]
      refine .seat k7 i e hn hi h0 ?_
      unfold doneO seatsV
      rw [if_neg k1, if_neg k2, if_neg k3, if_neg k4, if_neg k5, if_neg k6]
      simp only [hn, hdep, Int.toNat_natCast]
    · rw [if_neg c1] at hE; exact absurd hE c1
  rw [if_neg k7] at hE
  exact absurd hE (by decide)
theorem give_at {f : Int} : ∀ {n : Int} {l : List Bk} {i : Nat} {x : Bk}, l[i]? = some x → ∃ y, (giveL f n l)[i]? = some y ∧ (y = x ∨ (isB f 2 x = true ∧ y = ⟨x.flight, 1, x.kept⟩))
  | n, [], i, x, h => by simp at h
  | n, a :: l, 0, x, h => by
    obtain rfl : a = x := by simpa using h
    unfold giveL
    split
    · rename_i hc
      exact ⟨_, rfl, .inr ⟨hc.1, rfl⟩⟩
    · exact ⟨_, rfl, .inl rfl⟩
  | n, a :: l, i + 1, x, h => by
    have h' : l[i]? = some x := by simpa using h
    unfold giveL
    split
    · exact give_at (n := n - 1) h'
    · exact give_at (n := n) h'
/-- What becomes of a booking. -/
structure BkS (o : Off) (d : Deal) (i : Nat) (x y : Bk) : Prop where
  fl : y.flight = x.flight
  old : x.state = 3 ∨ x.state = 4 → y = x
  kept : y.kept = x.kept ∨ (d.kind = 3 ∧ d.n = (i : Int) ∧ x.state = 1 ∧ ∃ e, o.fl[x.flight.toNat]? = some e ∧ e.leaves - o.now < o.notice ∧ y.kept = feeV e.price o.fee)
structure Stp (o p : Off) (d : Deal) : Prop where
  fl : ∀ (k : Nat) x, o.fl[k]? = some x → ∃ y, p.fl[k]? = some y ∧ y.price = x.price ∧ (¬ x.state = 0 → y = x)
  bl : p.bk.length = o.bk.length + (if d.kind = 2 then 1 else 0)
  inn : (d.kind = 2 ∧ ∃ (i : Nat) (x : Dep), d.n = (i : Int) ∧ o.fl[i]? = some x ∧ p.inn = o.inn + x.price) ∨ (¬ d.kind = 2 ∧ p.inn = o.inn)
  each : ∀ (i : Nat) x, o.bk[i]? = some x → ∃ y, p.bk[i]? = some y ∧ BkS o d i x y
  new : ∀ (i : Nat) y, o.bk.length ≤ i → p.bk[i]? = some y → ¬ y.state = 4
theorem BkS.same {o : Off} {d : Deal} {i : Nat} {x : Bk} : BkS o d i x x := ⟨rfl, fun _ => rfl, .inl rfl⟩
theorem fl_same {o p : Off} (h : p.fl = o.fl) (k : Nat) (x : Dep) (hk : o.fl[k]? = some x) : ∃ y, p.fl[k]? = some y ∧ y.price = x.price ∧ (¬ x.state = 0 → y = x) := ⟨x, by rw [h]; exact hk, rfl, fun _ => rfl⟩
theorem fl_set {o : Off} {i : Nat} {e z : Dep} (hi : o.fl[i]? = some e) (h0 : e.state = 0) (hz : z.price = e.price) (k : Nat) (x : Dep) (hk : o.fl[k]? = some x) : ∃ y, (o.fl.set i z)[k]? = some y ∧ y.price = x.price ∧ (¬ x.state = 0 → y = x) := by
  rw [set_at hi]
  by_cases h : k = i
  · subst h
    rw [hi] at hk
    cases hk
    exact ⟨z, if_pos rfl, hz, fun h => absurd h0 h⟩
  · exact ⟨x, by rw [if_neg h]; exact hk, rfl, fun _ => rfl⟩
theorem new_none {o : Off} {l : List Bk} (h : l.length = o.bk.length) (i : Nat) (y : Bk) (hi : o.bk.length ≤ i) (hy : l[i]? = some y) : ¬ y.state = 4 := by
  rw [List.getElem?_eq_none (by omega)] at hy
  cases hy
theorem done_stp {o : Off} (hv : OkO o) {d : Deal} (hE : doneE o d = 0) : Stp o (doneO o d) d := by
  rcases done_cases hv d hE with ⟨k, e⟩ | ⟨k, i, x, n, h, s, l, e⟩ | ⟨k, j, b, n, h, s, e⟩ | ⟨k, i, x, st, to, n, h, s, q, e⟩ | ⟨k, e⟩ | ⟨k, i, x, n, h, s, e⟩
  · rw [e]
    refine ⟨fun k x hk => ⟨x, ?_, rfl, fun _ => rfl⟩, ?_, .inr ⟨by omega, rfl⟩, fun i x hx => ⟨x, hx, BkS.same⟩, new_none rfl⟩
    · unfold addV
      have := (List.getElem?_eq_some_iff.1 hk).1
      simp only
      rw [List.getElem?_append_left this]
      exact hk
    · rw [if_neg (by omega)]; rfl
  · rw [e]
    refine ⟨fl_same rfl, ?_, .inl ⟨k, i, x, n, h, rfl⟩, fun i x hx => ⟨x, ?_, BkS.same⟩, fun i y hi hy => ?_⟩
    · rw [if_pos k]; simp
    · have := (List.getElem?_eq_some_iff.1 hx).1
      simp only
      rw [List.getElem?_append_left this]
      exact hx
    · simp only at hy
      rw [List.getElem?_append_right hi] at hy
      have hm := List.mem_of_getElem? hy
      rw [List.mem_singleton.1 hm]
      simp only
      split <;> omega
  · rw [e]
    have hbat : bkAt o (j : Int) = b := by unfold bkAt; rw [Int.toNat_natCast, h]
    obtain ⟨f, dep, hf, hfl, _⟩ := hv.bkok (List.mem_of_getElem? h)
    have hdep : depAt o b.flight = dep := by unfold depAt; rw [hf, Int.toNat_natCast, hfl]
    have hk0 := hv.kept0 (List.mem_of_getElem? h) s
    unfold cancelV givenV paidB
    simp only [hbat, hdep, Int.toNat_natCast]
    refine ⟨fl_same rfl, ?_, .inr ⟨by omega, rfl⟩, fun i x hx => ?_, new_none (by simp [giveL_length])⟩
    · rw [if_neg (by omega)]; simp [giveL_length]
    · simp only
      by_cases hij : i = j
      · subst hij
        obtain rfl : b = x := by rw [h] at hx; exact Option.some.inj hx
        have hset : (o.bk.set i ⟨b.flight, 4, keptV o dep b⟩)[i]? = some ⟨b.flight, 4, keptV o dep b⟩ := by
          rw [List.getElem?_set_self (List.getElem?_eq_some_iff.1 h).1]
        obtain ⟨y, hy, hc⟩ := give_at (f := (b.flight.toNat : Int)) (n := freeV { o with bk := o.bk.set i ⟨b.flight, 4, keptV o dep b⟩, out := o.out + (dep.price - keptV o dep b) } b.flight.toNat) hset
        refine ⟨y, hy, ?_⟩
        have hy' : y = ⟨b.flight, 4, keptV o dep b⟩ := by
          rcases hc with hc | ⟨hc, _⟩
          · exact hc
          · unfold isB at hc; simp at hc
        subst hy'
        refine ⟨rfl, fun h3 => by omega, ?_⟩
        simp only
        unfold keptV
        split
        · rename_i hc
          exact .inr ⟨k, n, hc.1, dep, by rw [hf, Int.toNat_natCast]; exact hfl, hc.2, rfl⟩
        · exact .inl hk0.symm
      · have hset : (o.bk.set j ⟨b.flight, 4, keptV o dep b⟩)[i]? = some x := by
          rw [List.getElem?_set_ne (fun h => hij h.symm)]; exact hx
        obtain ⟨y, hy, hc⟩ := give_at (f := (b.flight.toNat : Int)) (n := freeV { o with bk := o.bk.set j ⟨b.flight, 4, keptV o dep b⟩, out := o.out + (dep.price - keptV o dep b) } b.flight.toNat) hset
        refine ⟨y, hy, ?_⟩
        rcases hc with rfl | ⟨hc, rfl⟩
        · exact BkS.same
        · have := isB_st hc
          exact ⟨rfl, fun h3 => by omega, .inl rfl⟩
  · rw [e]
    unfold closedV
    refine ⟨fl_set h s rfl, ?_, .inr ⟨by omega, rfl⟩, fun j y hy => ⟨shutB i to y, by simp [hy], ?_⟩, new_none (by simp)⟩
    · rw [if_neg (by omega)]; simp
    · unfold shutB
      split
      · rename_i hc
        have := isB_st hc
        exact ⟨rfl, fun h3 => by omega, .inl rfl⟩
      split
      · rename_i hc
        have := isB_st hc
        exact ⟨rfl, fun h3 => by omega, .inl rfl⟩
      · exact BkS.same
  · rw [e]
    exact ⟨fl_same rfl, by rw [if_neg (by omega)]; rfl, .inr ⟨by omega, rfl⟩, fun i x hx => ⟨x, hx, BkS.same⟩, new_none rfl⟩
  · rw [e]
    unfold givenV
    refine ⟨fl_set h s rfl, ?_, .inr ⟨by omega, rfl⟩, fun j y hy => ?_, new_none (by simp [giveL_length])⟩
    · rw [if_neg (by omega)]; simp [giveL_length]
    · obtain ⟨z, hz, hc⟩ := give_at (f := (i : Int)) (n := freeV { o with fl := o.fl.set i ⟨d.seats, x.price, x.leaves, x.state⟩ } i) hy
      refine ⟨z, hz, ?_⟩
      rcases hc with rfl | ⟨hc, rfl⟩
      · exact BkS.same
      · have := isB_st hc
        exact ⟨rfl, fun h3 => by omega, .inl rfl⟩
/-! Sums -/
theorem sm_le {f g : Bk → Int} : ∀ {l m : List Bk}, (∀ (i : Nat) x, l[i]? = some x → ∃ y, m[i]? = some y ∧ f x ≤ g y) → (∀ y ∈ m, 0 ≤ g y) → sm f l ≤ sm g m
  | [], [], _, _ => Int.le_refl _
  | [], y :: m, h, h0 => by
    have h1 := h0 y (List.mem_cons_self ..)
    have h2 := sm_le (f := f) (g := g) (l := []) (m := m) (fun i x hx => by simp at hx) (fun z hz => h0 z (List.mem_cons_of_mem _ hz))
    simp only [sm] at h2 ⊢
    omega
  | x :: l, [], h, _ => by
    obtain ⟨y, hy, _⟩ := h 0 x rfl
    simp at hy
  | x :: l, y :: m, h, h0 => by
    obtain ⟨y', hy, h1⟩ := h 0 x rfl
    obtain rfl : y = y' := by simpa using hy
    have h2 := sm_le (f := f) (g := g) (l := l) (m := m) (fun i z hz => by
      obtain ⟨u, hu, hk⟩ := h (i + 1) z (by simpa using hz)
      exact ⟨u, by simpa using hu, hk⟩) (fun z hz => h0 z (List.mem_cons_of_mem _ hz))
    simp only [sm]
    omega
theorem sm_take {f : Bk → Int} {l : List Bk} {k : Nat} {x : Bk} (h : l[k]? = some x) : sm f (l.take (k + 1)) = sm f (l.take k) + f x := by
  rw [List.take_add_one, h, sm_append]
  simp [sm]
theorem sm_zero {f : Bk → Int} : ∀ {l : List Bk}, (∀ x ∈ l, f x = 0) → sm f l = 0
  | [], _ => rfl
  | x :: l, h => by
    simp only [sm]
    rw [h x (List.mem_cons_self ..), sm_zero fun y hy => h y (List.mem_cons_of_mem _ hy)]
    rfl
end Go.Proofs.Ytmlmgipngbndgaa
/- The money of an office, before and after a deal: plain laws. -/
namespace Go.Proofs.Ytmlmgipngbndgaa
set_option linter.unusedVariables false
set_option linter.unusedSimpArgs false
def sH (o : Off) : Int := sm (cH o.fl) o.bk
def sE (o : Off) : Int := sm (cE o.fl) o.bk
def sK (o : Off) : Int := sm (cK o.fl) o.bk
def sB (o : Off) : Int := sm (cB o.fl) o.bk
structure MonO (o : Off) : Prop where
  inn : o.inn = sH o + sE o + sK o + sB o
  out : o.out = sB o
  h : 0 ≤ sH o ∧ sH o ≤ 120000000
  e : 0 ≤ sE o ∧ sE o ≤ 120000000
  k : 0 ≤ sK o ∧ sK o ≤ 120000000
  b : -120000000 ≤ sB o ∧ sB o ≤ 120000000
theorem OkO.mon {o : Off} (hO : OkO o) : MonO o := by
  have hm := hO.money
  unfold moneyB at hm
  simp only [Bool.and_eq_true, decide_eq_true_eq] at hm
  have hs := sums_in hO.deps hO.bks (Nat.le_refl o.bk.length)
  rw [sums_all (Nat.le_refl _)] at hs
  unfold Small at hs
  rw [sums_sm] at hm hs
  simp only at hm hs
  have hn := hO.nb
  have : (o.bk.length : Int) ≤ 120 := by omega
  refine ⟨hm.1, hm.2, ?_, ?_, ?_, ?_⟩
  all_goals
    simp only [sH, sE, sK, sB]
    omega
theorem OkO.bkx {o : Off} (hO : OkO o) {i : Nat} {x : Bk} (hx : o.bk[i]? = some x) : ∃ (f : Nat) (e : Dep), x.flight = (f : Int) ∧ o.fl[f]? = some e ∧ (¬ x.state = 4 → x.kept = 0) ∧ 0 ≤ x.kept ∧ x.kept ≤ e.price ∧ 0 ≤ e.price ∧ e.price ≤ 1000000 := by
  obtain ⟨f, e, h1, h2, h3⟩ := hO.bkok (List.mem_of_getElem? hx)
  have hd := hO.dep h2
  have hf := fee_in (price := e.price) (fee := o.fee) ⟨hd.2.2.1, hd.2.2.2.1⟩ hO.fee
  have hle : feeV e.price o.fee ≤ e.price := by
    have hh := Int.mul_le_mul_of_nonneg_left hO.fee.2 hd.2.2.1
    have h0 := hf.1
    unfold feeV
    rw [Int.tdiv_eq_ediv_of_nonneg h0]
    omega
  refine ⟨f, e, h1, h2, ?_, ?_, ?_, hd.2.2.1, hd.2.2.2.1⟩
  all_goals (rcases h3 with ⟨h4, h5, h6⟩ | ⟨h4, h5, h6⟩ <;> first | omega | (intro h; omega))
theorem OkO.prc_in {o : Off} (hO : OkO o) {i : Nat} {x : Bk} (hx : o.bk[i]? = some x) : 0 ≤ prc o.fl x ∧ x.kept ≤ prc o.fl x ∧ 0 ≤ x.kept ∧ x.kept ≤ 1000000 := by
  obtain ⟨f, e, h1, h2, h3, h4, h5, h6, h7⟩ := hO.bkx hx
  rw [prc_at h1 h2]
  omega
theorem mem_at {l : List Bk} {x : Bk} (h : x ∈ l) : ∃ i : Nat, l[i]? = some x := by
  obtain ⟨i, hi, he⟩ := List.getElem_of_mem h
  exact ⟨i, by rw [List.getElem?_eq_getElem hi, he]⟩
theorem Stp.prc {o p : Off} {d : Deal} (hO : OkO o) (hS : Stp o p d) {i : Nat} {x y : Bk} (hx : o.bk[i]? = some x) (hy : y.flight = x.flight) : Go.Proofs.Ytmlmgipngbndgaa.prc p.fl y = Go.Proofs.Ytmlmgipngbndgaa.prc o.fl x := by
  obtain ⟨f, e, h1, h2, _⟩ := hO.bkx hx
  obtain ⟨e', h3, h4, _⟩ := hS.fl f e h2
  rw [prc_at h1 h2, prc_at (by rw [hy]; exact h1) h3, h4]
/-- No sum gets smaller: what is earned, what is kept, what goes back. -/
theorem Stp.mono {o p : Off} {d : Deal} (hO : OkO o) (hP : OkO p) (hS : Stp o p d) : sE o ≤ sE p ∧ sK o ≤ sK p ∧ sB o ≤ sB p := by
  refine ⟨sm_le (fun i x hx => ?_) fun y hy => ?_, sm_le (fun i x hx => ?_) fun y hy => ?_, sm_le (fun i x hx => ?_) fun y hy => ?_⟩
  · obtain ⟨y, hy, hb⟩ := hS.each i x hx
    refine ⟨y, hy, ?_⟩
    have hp := hS.prc hO hx hb.fl
    have h0 := (hO.prc_in hx).1
    unfold cE
    by_cases h3 : x.state = 3
    · rw [hb.old (.inl h3)] at hp ⊢
      rw [if_pos h3, if_pos h3, hp]; exact Int.le_refl _
    · rw [if_neg h3]; split <;> omega
  · obtain ⟨i, hi⟩ := mem_at hy
    have h0 := (hP.prc_in hi).1
    unfold cE; split <;> omega
  · obtain ⟨y, hy, hb⟩ := hS.each i x hx
    refine ⟨y, hy, ?_⟩
    have h0 := hP.prc_in hy
    unfold cK
    by_cases h3 : x.state = 4
    · rw [hb.old (.inr h3)]; exact Int.le_refl _
    · rw [if_neg h3]; split <;> omega
  · obtain ⟨i, hi⟩ := mem_at hy
    have h0 := hP.prc_in hi
    unfold cK; split <;> omega
  · obtain ⟨y, hy, hb⟩ := hS.each i x hx
    refine ⟨y, hy, ?_⟩
    have hp := hS.prc hO hx hb.fl
    have h0 := hP.prc_in hy
    unfold cB
    by_cases h3 : x.state = 4
    · rw [hb.old (.inr h3)] at hp ⊢
      rw [if_pos h3, if_pos h3, hp]; exact Int.le_refl _
    · rw [if_neg h3]; split <;> omega
  · obtain ⟨i, hi⟩ := mem_at hy
    have h0 := hP.prc_in hi
    unfold cB; split <;> omega
/-- What is kept of the first k bookings more than before. -/
def lostV (o p : Off) (k : Nat) : Int := sm (cK o.fl) (p.bk.take k) - sm (cK o.fl) (o.bk.take k)
theorem lost_zero (o p : Off) : lostV o p 0 = 0 := by simp [lostV, sm]
theorem cK_any (a b : List Dep) : cK a = cK b := rfl
theorem lost_end {o p : Off} {d : Deal} (hS : Stp o p d) : sK p = sK o + lostV o p o.bk.length := by
  have h1 : sm (cK p.fl) (p.bk.drop o.bk.length) = 0 := sm_zero fun y hy => by
    obtain ⟨i, hi⟩ := mem_at hy
    rw [List.getElem?_drop] at hi
    unfold cK
    rw [if_neg (hS.new _ y (by omega) hi)]
  have h2 := sm_append (f := cK p.fl) (p.bk.drop o.bk.length) (p.bk.take o.bk.length)
  rw [List.take_append_drop, h1] at h2
  unfold sK lostV
  rw [List.take_length, cK_any o.fl p.fl]
  omega
theorem lost_same {o p : Off} {d : Deal} (hO : OkO o) (hP : OkO p) {k : Nat} {x y : Bk} (hx : o.bk[k]? = some x) (hy : p.bk[k]? = some y) (hb : BkS o d k x y) (h : y.kept = x.kept) : lostV o p (k + 1) = lostV o p k := by
  unfold lostV
  rw [sm_take hx, sm_take hy]
  have : cK o.fl y = cK o.fl x := by
    unfold cK
    by_cases h4 : x.state = 4
    · rw [hb.old (.inr h4)]
    · obtain ⟨_, _, _, _, hk, _⟩ := hO.bkx hx
      have := hk h4
      rw [if_neg h4]; split <;> omega
  omega
theorem lost_more {o p : Off} (hO : OkO o) (hP : OkO p) {k : Nat} {x y : Bk} (hx : o.bk[k]? = some x) (hy : p.bk[k]? = some y) (h1 : x.state = 1) (h : ¬ y.kept = x.kept) : lostV o p (k + 1) = lostV o p k + y.kept := by
  unfold lostV
  rw [sm_take hx, sm_take hy]
  obtain ⟨_, _, _, _, hk, _⟩ := hO.bkx hx
  have h0 := hk (by omega)
  obtain ⟨_, _, _, _, hk2, _⟩ := hP.bkx hy
  have hy4 : y.state = 4 := Classical.byContradiction fun hn => h (by rw [hk2 hn, h0])
  have e1 : cK o.fl y = y.kept := by unfold cK; rw [if_pos hy4]
  have e2 : cK o.fl x = 0 := by unfold cK; rw [if_neg (by omega)]
  omega
theorem lost_in {o p : Off} {d : Deal} (hO : OkO o) (hP : OkO p) (hS : Stp o p d) : ∀ k : Nat, k ≤ o.bk.length → 0 ≤ lostV o p k ∧ lostV o p k ≤ 1000000 * (k : Int)
  | 0, _ => by rw [lost_zero]; simp
  | k + 1, h => by
    have ih := lost_in hO hP hS k (by omega)
    obtain ⟨x, hx⟩ : ∃ x, o.bk[k]? = some x := ⟨_, List.getElem?_eq_getElem (by omega)⟩
    obtain ⟨y, hy, hb⟩ := hS.each k x hx
    have hin := hP.prc_in hy
    by_cases hk : y.kept = x.kept
    · rw [lost_same hO hP hx hy hb hk]; omega
    · rcases hb.kept with h1 | ⟨_, _, h1, _⟩
      · exact absurd h1 hk
      · rw [lost_more hO hP hx hy h1 hk]; omega
/-- What a round of the law sees: two bookings of one departure. -/
theorem money_round {o p : Off} {d : Deal} (hO : OkO o) (hP : OkO p) (hS : Stp o p d) {k : Nat} (h : k < o.bk.length) :
    ∃ (f : Nat) (xs xk ys yk : Int) (e : Dep), o.bk[k]? = some ⟨(f : Int), xs, xk⟩ ∧ p.bk[k]? = some ⟨(f : Int), ys, yk⟩ ∧ o.fl[f]? = some e ∧
      ((xs = 3 ∧ ys = xs ∧ yk = xk ∧ lostV o p (k + 1) = lostV o p k) ∨ (xs = 4 ∧ ys = xs ∧ yk = xk ∧ lostV o p (k + 1) = lostV o p k) ∨ (¬ xs = 3 ∧ ¬ xs = 4 ∧ yk = xk ∧ lostV o p (k + 1) = lostV o p k) ∨
        (¬ yk = xk ∧ d.kind = 3 ∧ d.n = (k : Int) ∧ xs = 1 ∧ e.leaves - o.now < o.notice ∧ yk = feeV e.price o.fee ∧ lostV o p (k + 1) = lostV o p k + yk)) ∧ -1000000 ≤ yk ∧ yk ≤ 1000000 := by
  obtain ⟨x, hx⟩ : ∃ x, o.bk[k]? = some x := ⟨_, List.getElem?_eq_getElem h⟩
  obtain ⟨y, hy, hb⟩ := hS.each k x hx
  obtain ⟨f, e, h1, h2, _⟩ := hO.bkx hx
  have hin := hP.prc_in hy
  have hfl := hb.fl
  obtain ⟨xf, xs, xk⟩ := x
  obtain ⟨yf, ys, yk⟩ := y
  simp only at h1 hfl hin
  subst hfl h1
  refine ⟨f, xs, xk, ys, yk, e, hx, hy, h2, ?_, by omega, by omega⟩
  by_cases hk : yk = xk
  · have hl := lost_same hO hP hx hy hb hk
    by_cases h3 : xs = 3
    · have := hb.old (.inl h3)
      simp only [Bk.mk.injEq] at this
      exact .inl ⟨h3, this.2.1, hk, hl⟩
    by_cases h4 : xs = 4
    · have := hb.old (.inr h4)
      simp only [Bk.mk.injEq] at this
      exact .inr (.inl ⟨h4, this.2.1, hk, hl⟩)
    exact .inr (.inr (.inl ⟨h3, h4, hk, hl⟩))
  · rcases hb.kept with h1 | ⟨c1, c2, c3, e', c4, c5, c6⟩
    · exact absurd h1 hk
    · have hl := lost_more hO hP hx hy c3 hk
      simp only [Int.toNat_natCast] at c4
      rw [h2] at c4
      cases c4
      exact .inr (.inr (.inr ⟨hk, c1, c2, c3, c5, c6, hl⟩))
end Go.Proofs.Ytmlmgipngbndgaa
/- What the outright laws of the office share. -/
namespace Go.Proofs.Ytmlmgipngbndgaa
open Go.RowKit
attribute [local irreducible] OQ OS OX Rd T TL GX GL AL AI RV wpG SAny Calls
set_option maxRecDepth 100000
set_option maxHeartbeats 2000000
set_option linter.unusedVariables false
set_option linter.unusedSimpArgs false

theorem chkOk {o : Off} (hO : OkO o) (hv : officeB o = true) (A : Option Addr) (cf : Nat) (B : Option Addr) (cb : Nat) (w : World) (hA : RdS w 4 A o.fl.length (o.fl.map depCells)) (hB : RdS w 3 B o.bk.length (o.bk.map bkCells)) (hnA : A = none → o.fl.length = 0 ∧ cf = 0) (hnB : B = none → o.bk.length = 0 ∧ cb = 0) : Calls Try.prog 39 #[.agg ⟨offCells o A cf B cb⟩] w fun e w' => e = .returned (.int .i64 0) ∧ Ext w w' := by
  have h := check_calls o A cf B cb w hA hB hnA hnB (fun d hd => (hO.deps d hd).2) (by have := hO.nf; omega) (by have := hO.nb; omega)
  unfold chkE at h
  rw [if_pos hv] at h
  exact h
theorem doY {o : Off} (hO : OkO o) (hv : officeB o = true) {d : Deal} (hE : doneE o d = 0) (A : Option Addr) (cf : Nat) (B : Option Addr) (cb : Nat) (w : World) (hA : RdS w 4 A o.fl.length (o.fl.map depCells)) (hB : RdS w 3 B o.bk.length (o.bk.map bkCells)) (hnA : A = none → o.fl.length = 0 ∧ cf = 0) (hnB : B = none → o.bk.length = 0 ∧ cb = 0) (hk : 0 ≤ d.kind ∧ d.kind ≤ 255) : Calls Try.prog 37 #[.agg ⟨offCells o A cf B cb⟩, .agg ⟨dealCells d⟩] w fun e w' => ∃ v H', e = .returned v ∧ AnyV (doneO o d) 0 v H' ∧ Has w ⟨[], []⟩ H' w' := by
  have h := cDo_T o A cf B cb w hA hB hnA hnB (fun d hd => (hO.deps d hd).2) (by have := hO.nf; omega) (by have := hO.nb; omega) d hk
  unfold doR doE at h
  rw [if_pos ⟨hv, hE⟩, if_pos hv, hE] at h
  exact h
theorem doN {o : Off} (hO : OkO o) (hv : officeB o = true) {d : Deal} {z : Int} (hE : ¬ doneE o d = 0) (hz : doneE o d = z) (A : Option Addr) (cf : Nat) (B : Option Addr) (cb : Nat) (w : World) (hA : RdS w 4 A o.fl.length (o.fl.map depCells)) (hB : RdS w 3 B o.bk.length (o.bk.map bkCells)) (hnA : A = none → o.fl.length = 0 ∧ cf = 0) (hnB : B = none → o.bk.length = 0 ∧ cb = 0) (hk : 0 ≤ d.kind ∧ d.kind ≤ 255) : Calls Try.prog 37 #[.agg ⟨offCells o A cf B cb⟩, .agg ⟨dealCells d⟩] w fun e w' => ∃ v H', e = .returned v ∧ AnyV zeroO z v H' ∧ Has w ⟨[], []⟩ H' w' := by
  have h := cDo_T o A cf B cb w hA hB hnA hnB (fun d hd => (hO.deps d hd).2) (by have := hO.nf; omega) (by have := hO.nb; omega) d hk
  unfold doR doE at h
  rw [if_neg (fun h => hE h.2), if_pos hv, hz] at h
  exact h
theorem sameZ (w : World) (A B : Option Addr) (cf cb : Nat) : Calls Try.prog 36 #[.agg ⟨offCells zeroO A cf B cb⟩, .agg ⟨offCells zeroO none 0 none 0⟩] w fun e w' => e = .returned (.bool true) ∧ Ext w w' :=
  same_calls zeroO A cf B cb none 0 none 0 w (RdS.nil _ _ _) (RdS.nil _ _ _) (RdS.nil _ _ _) (RdS.nil _ _ _) (Nat.zero_le _) (Nat.zero_le _)
theorem purseOk {o : Off} (hO : OkO o) (hv : officeB o = true) {a b c f : Int} (ha : sH o = a) (hb : sE o = b) (hc : sK o = c) (hf : sB o = f) (A : Option Addr) (cf : Nat) (B : Option Addr) (cb : Nat) (w : World) (hA : RdS w 4 A o.fl.length (o.fl.map depCells)) (hB : RdS w 3 B o.bk.length (o.bk.map bkCells)) (hnA : A = none → o.fl.length = 0 ∧ cf = 0) (hnB : B = none → o.bk.length = 0 ∧ cb = 0) : Calls Try.prog 22 #[.agg ⟨offCells o A cf B cb⟩] w fun e w' => e = .returned (.tuple #[.int .i64 a, .int .i64 b, .int .i64 c, .int .i64 f, .int .i64 0]) ∧ Ext w w' := by
  have h := opurse_T o A cf B cb w hA hB hnA hnB (fun d hd => (hO.deps d hd).2) (by have := hO.nf; omega) (by have := hO.nb; omega)
  unfold purseS at h
  rw [if_pos hv, sums_sm] at h
  subst ha hb hc hf
  exact h
theorem Stp.flen {o p : Off} {d : Deal} (hS : Stp o p d) : o.fl.length ≤ p.fl.length := by
  by_cases h : o.fl.length = 0
  · omega
  · obtain ⟨x, hx⟩ : ∃ x, o.fl[o.fl.length - 1]? = some x := ⟨_, List.getElem?_eq_getElem (by omega)⟩
    obtain ⟨y, hy, _⟩ := hS.fl _ x hx
    have := (List.getElem?_eq_some_iff.1 hy).1
    omega
end Go.Proofs.Ytmlmgipngbndgaa
/- Money is kept whole. -/
namespace Go.Proofs.Ytmlmgipngbndgaa
open Go.RowKit
attribute [local irreducible] OQ OS OX Rd T TL GX GL AL AI RV wpG SAny Calls
set_option maxRecDepth 100000
set_option maxHeartbeats 2000000
set_option linter.unusedVariables false
set_option linter.unusedSimpArgs false


theorem crewMoney_T (o : Off) (A : Option Addr) (cf : Nat) (B : Option Addr) (cb : Nat) (w : World) (hA : RdS w 4 A o.fl.length (o.fl.map depCells)) (hB : RdS w 3 B o.bk.length (o.bk.map bkCells)) (hnA : A = none → o.fl.length = 0 ∧ cf = 0) (hnB : B = none → o.bk.length = 0 ∧ cb = 0) (hu : ∀ d ∈ o.fl, 0 ≤ d.state) (d : Deal) (hk : 0 ≤ d.kind ∧ d.kind ≤ 255) : Calls Try.prog 11 #[.agg ⟨offCells o A cf B cb⟩, .agg ⟨dealCells d⟩] w fun e w' => e = .returned (.bool true) ∧ Ext w w' := by
  refine enterQ (c := cx w 292) Try.func11 rfl rfl rfl rfl ?_
  refine t_cut (ι := Nat × Nat) (fun z => [(2, .pointer (some ⟨z.1, 0, none⟩)), (3, .pointer (some ⟨z.2, 0, none⟩))]) (fun z => (z.2, dealCells d, some (63, 5, 1)) :: (z.1, offCells o A cf B cb, some (25, 7, 1)) :: []) (fun _ => True) ?_ ?_
  · repeat' (first | ((with_reducible apply oq_id); first | (apply oq_fn; exact rfl; first | exact trivial | (refine ⟨?_, ?_⟩ <;> omega) | (refine ⟨?_, ?_, ?_⟩ <;> omega) | omega | skip)) | ((with_reducible apply tl_id); first | ((with_reducible apply tl_nil)) | ((with_reducible apply u_q); exact rfl; exact rfl; exact rfl; exact rfl) | ((with_reducible apply u_s); exact rfl; exact rfl; exact rfl)) | ((with_reducible apply os_id); first | ((with_reducible apply os_x); exact rfl)) | ((with_reducible apply ox_id); first | ((with_reducible apply ox_boxAgg); exact rfl; intro _)) | ((with_reducible apply t_id); first | (apply t_region; kernel_rfl)))
    all_goals exact ⟨rfl, (_, _), trivial, by (repeat (first | exact FrSub.nil | (apply FrSub.cons; exact rfl))), by (repeat (first | exact HpSub.refl _ | (apply HpSub.consE; (repeat (first | exact P0 | apply P1 | apply PA)); exact rfl) | exact HpSub.nil))⟩
  rintro ⟨b2, b3⟩ -
  simp only
  refine t_cut (ι := Unit) (fun _ => [(2, .pointer (some ⟨b2, 0, none⟩)), (3, .pointer (some ⟨b3, 0, none⟩)), (5, .bool true)]) (fun _ => (b3, dealCells d, some (63, 5, 1)) :: (b2, offCells o A cf B cb, some (25, 7, 1)) :: []) (fun _ => True) ?_ ?_
  · repeat' (first | ((with_reducible apply oq_id); first | (apply oq_fn; exact rfl; first | exact trivial | (refine ⟨?_, ?_⟩ <;> omega) | (refine ⟨?_, ?_, ?_⟩ <;> omega) | omega | skip) | ((with_reducible apply oq_call (k := 53) (hc := Try.call53)); exact rfl; exact rfl; exact fun D w1 hw1 => alive_calls w1)) | ((with_reducible apply tl_id); first | ((with_reducible apply tl_nil)) | ((with_reducible apply u_q); exact rfl; exact rfl; exact rfl; exact rfl)) | ((with_reducible apply t_id); first | (apply t_region; kernel_rfl)))
    all_goals exact ⟨rfl, (), trivial, by (repeat (first | exact FrSub.nil | (apply FrSub.cons; exact rfl))), by (repeat (first | exact HpSub.refl _ | (apply HpSub.consE; (repeat (first | exact P0 | apply P1 | apply PA)); exact rfl) | exact HpSub.nil))⟩
  rintro ⟨⟩ -
  have HG := fun w1 => great_calls o A cf B cb w1
  by_cases hg : 20 < o.fl.length ∨ 150 < o.bk.length
  · rw [decide_eq_true hg] at HG
    repeat' (first | ((with_reducible apply oq_id); first | (apply oq_fn; exact rfl; first | exact trivial | (refine ⟨?_, ?_⟩ <;> omega) | (refine ⟨?_, ?_, ?_⟩ <;> omega) | omega | skip) | ((with_reducible apply oq_loadAgg); exact rfl; exact rfl) | ((with_reducible apply oq_call (k := 19) (hc := Try.call19)); exact rfl; exact rfl; exact fun D w1 hw1 => HG w1)) | ((with_reducible apply tl_id); first | ((with_reducible apply tl_nil)) | ((with_reducible apply u_q); exact rfl; exact rfl; exact rfl; exact rfl) | ((with_reducible apply u_skip); exact rfl; exact rfl; exact rfl)) | ((with_reducible apply rd_id); first | (apply Rd.own; (repeat (first | exact P0 | apply P1 | apply PA)); exact rfl; done)) | ((with_reducible apply t_id); first | ((with_reducible apply t_seq)) | (apply t_region; kernel_rfl) | ((with_reducible apply t_condT); exact rfl) | ((with_reducible apply t_ret))) | with_reducible apply q_thenN | with_reducible apply q_thenR | exact Rdn.zero | apply Rdn.succ | ((with_reducible apply end_ret)) | exact rvs_nil | ((with_reducible apply rvs_cons)) | ((with_reducible apply rv_tmp); exact rfl))
    all_goals rfl
  rw [decide_eq_false hg] at HG
  have hn : o.fl.length ≤ 1000000 := by omega
  have hn2 : o.bk.length ≤ 1000000 := by omega
  refine t_cut (ι := Unit) (fun _ => [(2, .pointer (some ⟨b2, 0, none⟩)), (3, .pointer (some ⟨b3, 0, none⟩)), (5, .bool true)]) (fun _ => (b3, dealCells d, some (63, 5, 1)) :: (b2, offCells o A cf B cb, some (25, 7, 1)) :: []) (fun _ => True) ?_ ?_
  · repeat' (first | ((with_reducible apply oq_id); first | (apply oq_fn; exact rfl; first | exact trivial | (refine ⟨?_, ?_⟩ <;> omega) | (refine ⟨?_, ?_, ?_⟩ <;> omega) | omega | skip) | ((with_reducible apply oq_loadAgg); exact rfl; exact rfl) | ((with_reducible apply oq_call (k := 19) (hc := Try.call19)); exact rfl; exact rfl; exact fun D w1 hw1 => HG w1)) | ((with_reducible apply tl_id); first | ((with_reducible apply tl_nil)) | ((with_reducible apply u_q); exact rfl; exact rfl; exact rfl; exact rfl)) | ((with_reducible apply rd_id); first | (apply Rd.own; (repeat (first | exact P0 | apply P1 | apply PA)); exact rfl; done)) | ((with_reducible apply t_id); first | ((with_reducible apply t_seq)) | (apply t_region; kernel_rfl) | ((with_reducible apply t_condF); exact rfl) | ((with_reducible apply t_skip))) | with_reducible apply q_thenN | exact Rdn.zero | apply Rdn.succ)
    all_goals exact ⟨rfl, (), trivial, by (repeat (first | exact FrSub.nil | (apply FrSub.cons; exact rfl))), by (repeat (first | exact HpSub.refl _ | (apply HpSub.consE; (repeat (first | exact P0 | apply P1 | apply PA)); exact rfl) | exact HpSub.nil))⟩
  rintro ⟨⟩ -
  obtain ⟨p, hp⟩ : ∃ p, doR o d = p := ⟨_, rfl⟩
  obtain ⟨e, he⟩ : ∃ e, doE o d = e := ⟨_, rfl⟩
  refine t_cut (ι := Nat × Option (Nat × Nat) × Option (Nat × Nat)) (fun z => [(2, .pointer (some ⟨b2, 0, none⟩)), (3, .pointer (some ⟨b3, 0, none⟩)), (5, .bool true), (6, .pointer (some ⟨z.1, 0, none⟩)), (7, .int .i64 e)]) (fun z => (z.1, offCells p (clA z.2.1) (clC z.2.1) (clA z.2.2) (clC z.2.2), some (25, 7, 1)) :: (flH p z.2.1 ++ (bkH p z.2.2 ++ ((b3, dealCells d, some (63, 5, 1)) :: (b2, offCells o A cf B cb, some (25, 7, 1)) :: [])))) (fun z => (z.2.1 = none → p.fl.length = 0) ∧ (z.2.2 = none → p.bk.length = 0)) ?_ ?_
  · repeat' (first | ((with_reducible apply oq_id); first | (apply oq_fn; exact rfl; first | exact trivial | (refine ⟨?_, ?_⟩ <;> omega) | (refine ⟨?_, ?_, ?_⟩ <;> omega) | omega | skip) | ((with_reducible apply oq_loadAgg); exact rfl; exact rfl)) | ((with_reducible apply tl_id); first | ((with_reducible apply tl_nil)) | ((with_reducible apply u_s); exact rfl; exact rfl; exact rfl; (with_reducible apply os_callF (PV := AnyV (doR o d) (doE o d)) (k := 37) (hc := Try.call37)); exact rfl; exact rfl; exact fun D w1 hw1 => cDo_T o A cf B cb w1 (hA.ext hw1.ext.ext) (hB.ext hw1.ext.ext) hnA hnB hu hn hn2 d hk; rintro v H' ⟨x1, y1, hx1, hy1, rfl, rfl⟩; (simp only [List.append_assoc])) | ((with_reducible apply u_q); exact rfl; exact rfl; exact rfl; exact rfl) | ((with_reducible apply u_s0); exact rfl; exact rfl) | ((with_reducible apply u_s); exact rfl; exact rfl; exact rfl)) | ((with_reducible apply os_id); first | ((with_reducible apply os_x); exact rfl) | ((with_reducible apply os_storeAgg); exact rfl; exact rfl; exact rfl; exact rfl; exact rfl)) | ((with_reducible apply ox_id); first | ((with_reducible apply ox_alloc); exact rfl; intro _)) | ((with_reducible apply rd_id); first | (apply Rd.own; (repeat (first | exact P0 | apply P1 | apply PA)); exact rfl; done)) | ((with_reducible apply t_id); first | (apply t_region; kernel_rfl)) | exact P0 | exact Rdn.zero | apply Rdn.succ | ((with_reducible apply Norm.nil); exact rfl) | ((with_reducible apply Norm.cons); exact rfl) | exact Nat.le_of_ble_eq_true rfl)
    all_goals (rw [hp] at hx1 hy1)
    all_goals (refine ⟨by trivial, (_, x1, y1), ⟨hx1, hy1⟩, by (simp only [he]; (repeat (first | exact FrSub.nil | (apply FrSub.cons; exact rfl)))), ?_⟩)
    all_goals (simp only [hp]; (repeat (first | exact HpSub.refl _ | (apply HpSub.consE; (repeat (first | exact P0 | apply P1 | apply PA)); exact rfl) | apply HpSub.appC | apply HpSub.skipX | apply HpSub.skipApp | exact HpSub.nil)))
  rintro ⟨b6, x1, y1⟩ ⟨hx1, hy1⟩
  simp only at hx1 hy1 ⊢
  cases hv : officeB o with
  | false =>
    have hch : chkE o = 84 := by unfold chkE; rw [hv]; rfl
    have he2 : e = 84 := by rw [← he]; unfold doE; rw [hv]; rfl
    subst he2
    repeat' (first | ((with_reducible apply oq_id); first | ((with_reducible apply oq_neqT); exact rfl; exact rfl; omega) | ((with_reducible apply oq_eqlT); exact rfl; exact rfl; omega) | (apply oq_fn; exact rfl; first | exact trivial | (refine ⟨?_, ?_⟩ <;> omega) | (refine ⟨?_, ?_, ?_⟩ <;> omega) | omega | skip) | ((with_reducible apply oq_loadAgg); exact rfl; exact rfl) | ((with_reducible apply oq_call (k := 39) (hc := Try.call39)); exact rfl; exact rfl; exact fun D w1 hw1 => check_calls o A cf B cb w1 (hA.ext hw1.ext.ext) (hB.ext hw1.ext.ext) hnA hnB hu hn hn2)) | ((with_reducible apply tl_id); first | ((with_reducible apply tl_nil)) | ((with_reducible apply u_q); exact rfl; exact rfl; exact rfl; exact rfl)) | ((with_reducible apply rd_id); first | (apply Rd.own; (repeat (first | exact P0 | apply P1 | apply PA)); exact rfl; done)) | ((with_reducible apply t_id); first | ((with_reducible apply t_seq)) | (apply t_region; kernel_rfl) | ((with_reducible apply t_condT); exact rfl) | ((with_reducible apply t_ret))) | with_reducible apply q_thenN | with_reducible apply q_thenR | exact Rdn.zero | apply Rdn.succ | ((with_reducible apply end_ret)) | exact rvs_nil | ((with_reducible apply rvs_cons)) | ((with_reducible apply rv_tmp); exact rfl))
    all_goals rfl
  | true =>
    have hO := okO hu hv
    have hch : chkE o = 0 := by unfold chkE; rw [hv]; rfl
    have hmo := hO.mon
    have hi1 := hmo.inn
    have hi2 := hmo.out
    have hi3 := hmo.h
    have hi4 := hmo.e
    have hi5 := hmo.k
    have hi6 := hmo.b
    obtain ⟨a, ha⟩ : ∃ a, sH o = a := ⟨_, rfl⟩
    obtain ⟨b, hb⟩ : ∃ b, sE o = b := ⟨_, rfl⟩
    obtain ⟨c, hc⟩ : ∃ c, sK o = c := ⟨_, rfl⟩
    obtain ⟨f, hf⟩ : ∃ f, sB o = f := ⟨_, rfl⟩
    rw [ha, hb, hc, hf] at hi1
    rw [hf] at hi2 hi6
    rw [ha] at hi3
    rw [hb] at hi4
    rw [hc] at hi5
    by_cases hE : doneE o d = 0
    · obtain rfl : e = 0 := by rw [← he]; unfold doE; rw [if_pos hv, hE]
      have hp2 : p = doneO o d := by rw [← hp]; unfold doR; rw [if_pos ⟨hv, hE⟩]
      have hP : OkO p := by rw [hp2]; exact done_okO hO d hE
      have hvp : officeB p = true := by rw [hp2]; exact done_valid hO d hE
      have hS : Stp o p d := by rw [hp2]; exact done_stp hO hE
      clear hp hp2
      have hmo' := hP.mon
      have hj1 := hmo'.inn
      have hj2 := hmo'.out
      have hj3 := hmo'.h
      have hj4 := hmo'.e
      have hj5 := hmo'.k
      have hj6 := hmo'.b
      have hmn := hS.mono hO hP
      have hle0 := lost_end hS
      obtain ⟨a', ha'⟩ : ∃ a, sH p = a := ⟨_, rfl⟩
      obtain ⟨b', hb'⟩ : ∃ b, sE p = b := ⟨_, rfl⟩
      obtain ⟨c', hc'⟩ : ∃ c, sK p = c := ⟨_, rfl⟩
      obtain ⟨f', hf'⟩ : ∃ f, sB p = f := ⟨_, rfl⟩
      rw [ha', hb', hc', hf'] at hj1
      rw [hf'] at hj2 hj6
      rw [ha'] at hj3
      rw [hb'] at hj4
      rw [hc'] at hj5
      rw [hb', hc', hf', hb, hc, hf] at hmn
      rw [hc', hc] at hle0
      have hbl := hS.bl
      have hfl := hS.flen
      have hnf := hP.nf
      have hnb := hP.nb
      refine t_cut (ι := Unit) (fun _ => [(2, .pointer (some ⟨b2, 0, none⟩)), (3, .pointer (some ⟨b3, 0, none⟩)), (5, .bool true), (6, .pointer (some ⟨b6, 0, none⟩)), (7, .int .i64 0)]) (fun _ => (b6, offCells p (clA x1) (clC x1) (clA y1) (clC y1), some (25, 7, 1)) :: (flH p x1 ++ (bkH p y1 ++ ((b3, dealCells d, some (63, 5, 1)) :: (b2, offCells o A cf B cb, some (25, 7, 1)) :: [])))) (fun _ => True) ?_ ?_
      · repeat' (first | ((with_reducible apply oq_id); first | ((with_reducible apply oq_neqF); exact rfl; exact rfl; omega) | ((with_reducible apply oq_loadAgg); exact rfl; exact rfl) | ((with_reducible apply oq_call (k := 39) (hc := Try.call39)); exact rfl; exact rfl; exact fun D w1 hw1 => check_calls o A cf B cb w1 (hA.ext hw1.ext.ext) (hB.ext hw1.ext.ext) hnA hnB hu hn hn2)) | ((with_reducible apply tl_id); first | ((with_reducible apply tl_nil)) | ((with_reducible apply u_q); exact rfl; exact rfl; exact rfl; exact rfl)) | ((with_reducible apply rd_id); first | (apply Rd.own; (repeat (first | exact P0 | apply P1 | apply PA)); exact rfl; done)) | ((with_reducible apply t_id); first | ((with_reducible apply t_seq)) | (apply t_region; kernel_rfl) | ((with_reducible apply t_condF); exact rfl) | ((with_reducible apply t_skip))) | with_reducible apply q_thenN | exact Rdn.zero | apply Rdn.succ)
        all_goals exact ⟨rfl, (), trivial, by (repeat (first | exact FrSub.nil | (apply FrSub.cons; exact rfl))), by (repeat (first | exact HpSub.refl _ | (apply HpSub.consE; (repeat (first | exact P0 | apply P1 | apply PA)); exact rfl) | apply HpSub.appC | apply HpSub.skipX | apply HpSub.skipApp | exact HpSub.nil))⟩
      rintro ⟨⟩ -
      refine t_cut (ι := Unit) (fun _ => [(2, .pointer (some ⟨b2, 0, none⟩)), (3, .pointer (some ⟨b3, 0, none⟩)), (5, .bool true), (6, .pointer (some ⟨b6, 0, none⟩)), (7, .int .i64 0), (8, .int .i64 a), (9, .int .i64 b), (10, .int .i64 c), (11, .int .i64 f), (12, .int .i64 0)]) (fun _ => (b6, offCells p (clA x1) (clC x1) (clA y1) (clC y1), some (25, 7, 1)) :: (flH p x1 ++ (bkH p y1 ++ ((b3, dealCells d, some (63, 5, 1)) :: (b2, offCells o A cf B cb, some (25, 7, 1)) :: [])))) (fun _ => True) ?_ ?_
      · repeat' (first | ((with_reducible apply oq_id); first | (apply oq_fn; exact rfl; first | exact trivial | (refine ⟨?_, ?_⟩ <;> omega) | (refine ⟨?_, ?_, ?_⟩ <;> omega) | omega | skip) | ((with_reducible apply oq_loadAgg); exact rfl; exact rfl) | ((with_reducible apply oq_call (k := 22) (hc := Try.call22)); exact rfl; exact rfl; exact fun D w1 hw1 => purseOk hO hv ha hb hc hf A cf B cb w1 (hA.ext hw1.ext.ext) (hB.ext hw1.ext.ext) hnA hnB)) | ((with_reducible apply tl_id); first | ((with_reducible apply tl_nil)) | ((with_reducible apply u_q); exact rfl; exact rfl; exact rfl; exact rfl)) | ((with_reducible apply rd_id); first | (apply Rd.own; (repeat (first | exact P0 | apply P1 | apply PA)); exact rfl; done)) | ((with_reducible apply t_id); first | (apply t_region; kernel_rfl)) | exact Rdn.zero | apply Rdn.succ)
        all_goals exact ⟨rfl, (), trivial, by (repeat (first | exact FrSub.nil | (apply FrSub.cons; exact rfl))), by (repeat (first | exact HpSub.refl _ | (apply HpSub.consE; (repeat (first | exact P0 | apply P1 | apply PA)); exact rfl) | apply HpSub.appC | apply HpSub.skipX | apply HpSub.skipApp | exact HpSub.nil))⟩
      rintro ⟨⟩ -
      refine t_cut (ι := Unit) (fun _ => [(2, .pointer (some ⟨b2, 0, none⟩)), (3, .pointer (some ⟨b3, 0, none⟩)), (5, .bool true), (6, .pointer (some ⟨b6, 0, none⟩)), (7, .int .i64 0), (9, .int .i64 b), (10, .int .i64 c), (11, .int .i64 f)]) (fun _ => (b6, offCells p (clA x1) (clC x1) (clA y1) (clC y1), some (25, 7, 1)) :: (flH p x1 ++ (bkH p y1 ++ ((b3, dealCells d, some (63, 5, 1)) :: (b2, offCells o A cf B cb, some (25, 7, 1)) :: [])))) (fun _ => True) ?_ ?_
      · repeat' (first | ((with_reducible apply oq_id); first | ((with_reducible apply oq_neqF); exact rfl; exact rfl; omega) | (apply oq_fn; exact rfl; first | exact trivial | (refine ⟨?_, ?_⟩ <;> omega) | (refine ⟨?_, ?_, ?_⟩ <;> omega) | omega | skip) | ((with_reducible apply oq_load); exact rfl; exact rfl)) | ((with_reducible apply tl_id); first | ((with_reducible apply tl_nil)) | ((with_reducible apply u_q); exact rfl; exact rfl; exact rfl; exact rfl)) | ((with_reducible apply rd_id); first | (apply Rd.own; (repeat (first | exact P0 | apply P1 | apply PA)); exact rfl; done)) | ((with_reducible apply t_id); first | ((with_reducible apply t_seq)) | (apply t_region; kernel_rfl) | ((with_reducible apply t_condF); exact rfl) | ((with_reducible apply t_skip))) | with_reducible apply q_thenN)
        all_goals exact ⟨rfl, (), trivial, by (repeat (first | exact FrSub.nil | (apply FrSub.cons; exact rfl))), by (repeat (first | exact HpSub.refl _ | (apply HpSub.consE; (repeat (first | exact P0 | apply P1 | apply PA)); exact rfl) | apply HpSub.appC | apply HpSub.skipX | apply HpSub.skipApp | exact HpSub.nil))⟩
      rintro ⟨⟩ -
      refine t_cut (ι := Unit) (fun _ => [(2, .pointer (some ⟨b2, 0, none⟩)), (3, .pointer (some ⟨b3, 0, none⟩)), (5, .bool true), (6, .pointer (some ⟨b6, 0, none⟩)), (9, .int .i64 b), (10, .int .i64 c), (11, .int .i64 f)]) (fun _ => (b6, offCells p (clA x1) (clC x1) (clA y1) (clC y1), some (25, 7, 1)) :: (flH p x1 ++ (bkH p y1 ++ ((b3, dealCells d, some (63, 5, 1)) :: (b2, offCells o A cf B cb, some (25, 7, 1)) :: [])))) (fun _ => True) ?_ ?_
      · repeat' (first | ((with_reducible apply oq_id); first | ((with_reducible apply oq_neqF); exact rfl; exact rfl; omega) | (apply oq_fn; exact rfl; first | exact trivial | (refine ⟨?_, ?_⟩ <;> omega) | (refine ⟨?_, ?_, ?_⟩ <;> omega) | omega | skip)) | ((with_reducible apply tl_id); first | ((with_reducible apply tl_nil)) | ((with_reducible apply u_q); exact rfl; exact rfl; exact rfl; exact rfl)) | ((with_reducible apply t_id); first | ((with_reducible apply t_seq)) | (apply t_region; kernel_rfl) | ((with_reducible apply t_condF); exact rfl) | ((with_reducible apply t_skip))) | with_reducible apply q_thenN)
        all_goals exact ⟨rfl, (), trivial, by (repeat (first | exact FrSub.nil | (apply FrSub.cons; exact rfl))), by (repeat (first | exact HpSub.refl _ | (apply HpSub.consE; (repeat (first | exact P0 | apply P1 | apply PA)); exact rfl) | apply HpSub.appC | apply HpSub.skipX | apply HpSub.skipApp | exact HpSub.nil))⟩
      rintro ⟨⟩ -
      refine t_cut (ι := Unit) (fun _ => [(2, .pointer (some ⟨b2, 0, none⟩)), (3, .pointer (some ⟨b3, 0, none⟩)), (5, .bool true), (6, .pointer (some ⟨b6, 0, none⟩)), (9, .int .i64 b), (10, .int .i64 c), (11, .int .i64 f), (13, .int .i64 a'), (14, .int .i64 b'), (15, .int .i64 c'), (16, .int .i64 f'), (17, .int .i64 0)]) (fun _ => (b6, offCells p (clA x1) (clC x1) (clA y1) (clC y1), some (25, 7, 1)) :: (flH p x1 ++ (bkH p y1 ++ ((b3, dealCells d, some (63, 5, 1)) :: (b2, offCells o A cf B cb, some (25, 7, 1)) :: [])))) (fun _ => True) ?_ ?_
      · repeat' (first | ((with_reducible apply oq_id); first | (apply oq_fn; exact rfl; first | exact trivial | (refine ⟨?_, ?_⟩ <;> omega) | (refine ⟨?_, ?_, ?_⟩ <;> omega) | omega | skip) | ((with_reducible apply oq_loadAgg); exact rfl; exact rfl) | ((with_reducible apply oq_call (k := 22) (hc := Try.call22)); exact rfl; exact rfl; exact fun D w1 hw1 => purseOk hP hvp ha' hb' hc' hf' (clA x1) (clC x1) (clA y1) (clC y1) w1 (clH_rows (x := x1) (hw1.sub (show HpSub _ (clH 106 4 (p.fl.map depCells).flatten x1) from (by repeat (first | exact HpSub.refl _ | exact HpSub.appLeft | apply HpSub.skipX | apply HpSub.skipApp)))) (fun _ => rfl) rfl hx1) (clH_rows (x := y1) (hw1.sub (show HpSub _ (clH 71 3 (p.bk.map bkCells).flatten y1) from (by repeat (first | exact HpSub.refl _ | exact HpSub.appLeft | apply HpSub.skipX | apply HpSub.skipApp)))) (fun _ => rfl) rfl hy1) (nilA hx1) (nilA hy1))) | ((with_reducible apply tl_id); first | ((with_reducible apply tl_nil)) | ((with_reducible apply u_q); exact rfl; exact rfl; exact rfl; exact rfl)) | ((with_reducible apply rd_id); first | (apply Rd.own; (repeat (first | exact P0 | apply P1 | apply PA)); exact rfl; done)) | ((with_reducible apply t_id); first | (apply t_region; kernel_rfl)) | exact Rdn.zero | apply Rdn.succ)
        all_goals exact ⟨rfl, (), trivial, by (repeat (first | exact FrSub.nil | (apply FrSub.cons; exact rfl))), by (repeat (first | exact HpSub.refl _ | (apply HpSub.consE; (repeat (first | exact P0 | apply P1 | apply PA)); exact rfl) | apply HpSub.appC | apply HpSub.skipX | apply HpSub.skipApp | exact HpSub.nil))⟩
      rintro ⟨⟩ -
      refine t_cut (ι := Unit) (fun _ => [(2, .pointer (some ⟨b2, 0, none⟩)), (3, .pointer (some ⟨b3, 0, none⟩)), (5, .bool true), (6, .pointer (some ⟨b6, 0, none⟩)), (10, .int .i64 c), (15, .int .i64 c')]) (fun _ => (b6, offCells p (clA x1) (clC x1) (clA y1) (clC y1), some (25, 7, 1)) :: (flH p x1 ++ (bkH p y1 ++ ((b3, dealCells d, some (63, 5, 1)) :: (b2, offCells o A cf B cb, some (25, 7, 1)) :: [])))) (fun _ => True) ?_ ?_
      · repeat' (first | ((with_reducible apply oq_id); first | ((with_reducible apply oq_neqF); exact rfl; exact rfl; omega) | ((with_reducible apply oq_lssF); exact rfl; exact rfl; omega) | (apply oq_fn; exact rfl; first | exact trivial | (refine ⟨?_, ?_⟩ <;> omega) | (refine ⟨?_, ?_, ?_⟩ <;> omega) | omega | skip) | ((with_reducible apply oq_load); exact rfl; exact rfl) | ((with_reducible apply oq_loadAgg); exact rfl; exact rfl) | ((with_reducible apply oq_call (k := 39) (hc := Try.call39)); exact rfl; exact rfl; exact fun D w1 hw1 => chkOk hP hvp (clA x1) (clC x1) (clA y1) (clC y1) w1 (clH_rows (x := x1) (hw1.sub (show HpSub _ (clH 106 4 (p.fl.map depCells).flatten x1) from (by repeat (first | exact HpSub.refl _ | exact HpSub.appLeft | apply HpSub.skipX | apply HpSub.skipApp)))) (fun _ => rfl) rfl hx1) (clH_rows (x := y1) (hw1.sub (show HpSub _ (clH 71 3 (p.bk.map bkCells).flatten y1) from (by repeat (first | exact HpSub.refl _ | exact HpSub.appLeft | apply HpSub.skipX | apply HpSub.skipApp)))) (fun _ => rfl) rfl hy1) (nilA hx1) (nilA hy1))) | ((with_reducible apply tl_id); first | ((with_reducible apply tl_nil)) | ((with_reducible apply u_q); exact rfl; exact rfl; exact rfl; exact rfl)) | ((with_reducible apply rd_id); first | (apply Rd.own; (repeat (first | exact P0 | apply P1 | apply PA)); exact rfl; done)) | ((with_reducible apply t_id); first | ((with_reducible apply t_seq)) | (apply t_region; kernel_rfl) | ((with_reducible apply t_condF); exact rfl) | ((with_reducible apply t_skip))) | with_reducible apply q_thenN | exact Rdn.zero | apply Rdn.succ)
        all_goals exact ⟨rfl, (), trivial, by (repeat (first | exact FrSub.nil | (apply FrSub.cons; exact rfl))), by (repeat (first | exact HpSub.refl _ | (apply HpSub.consE; (repeat (first | exact P0 | apply P1 | apply PA)); exact rfl) | apply HpSub.appC | apply HpSub.skipX | apply HpSub.skipApp | exact HpSub.nil))⟩
      rintro ⟨⟩ -
      refine t_cut (ι := Unit) (fun _ => [(2, .pointer (some ⟨b2, 0, none⟩)), (3, .pointer (some ⟨b3, 0, none⟩)), (5, .bool true), (6, .pointer (some ⟨b6, 0, none⟩)), (10, .int .i64 c), (15, .int .i64 c')]) (fun _ => (b6, offCells p (clA x1) (clC x1) (clA y1) (clC y1), some (25, 7, 1)) :: (flH p x1 ++ (bkH p y1 ++ ((b3, dealCells d, some (63, 5, 1)) :: (b2, offCells o A cf B cb, some (25, 7, 1)) :: [])))) (fun _ => True) ?_ ?_
      · rcases hS.inn with ⟨k2, i, x, hdn, hi, hin⟩ | ⟨k2, hin⟩
        · have hil := (List.getElem?_eq_some_iff.1 hi).1
          obtain ⟨b1, o1, x', rfl, _, hx0, c0, c1, c2, c3⟩ := dep_read hA hil
          rw [hi] at hx0
          cases hx0
          have hxd := hO.dep hi
          rw [if_pos k2] at hbl
          obtain ⟨dk, dn, ds, dp, dl⟩ := d
          simp only at hdn k2
          subst hdn k2
          simp only [dealCells]
          repeat' (first | ((with_reducible apply oq_id); first | (focus ((with_reducible apply oq_indexAddrN); exact rfl; exact rfl; exact rfl; exact rfl; omega)) | ((with_reducible apply oq_eqlT); exact rfl; exact rfl; omega) | ((with_reducible apply oq_neqF); exact rfl; exact rfl; omega) | ((with_reducible apply oq_lssF); exact rfl; exact rfl; omega) | ((with_reducible apply oq_geqF); exact rfl; exact rfl; omega) | (apply oq_fn; exact rfl; first | exact trivial | (refine ⟨?_, ?_⟩ <;> omega) | (refine ⟨?_, ?_, ?_⟩ <;> omega) | omega | skip) | ((with_reducible apply oq_load); exact rfl; exact rfl)) | ((with_reducible apply tl_id); first | ((with_reducible apply tl_nil)) | ((with_reducible apply u_q); exact rfl; exact rfl; exact rfl; exact rfl)) | ((with_reducible apply gx_id); first | ((with_reducible apply v_nil)) | ((with_reducible apply v_q); exact rfl; exact rfl; exact rfl)) | ((with_reducible apply rd_id); first | (apply Rd.own; (repeat (first | exact P0 | apply P1 | apply PA)); exact rfl; done) | (apply Rd.old; (first | (with_reducible assumption) | exact c0 | exact c1 | exact c2 | exact c3 | exact c4 | exact c5 | exact c6 | exact c7 | exact c8 | exact d0 | exact d1 | exact d2 | exact d3 | exact d4 | exact d5); first | exact List.not_mem_nil | exact m0 | exact m1 | exact m2 | exact m3 | exact m4 | exact m5 | exact m6 | exact m7 | exact m8 | exact m9)) | ((with_reducible apply t_id); first | ((with_reducible apply t_seq)) | (apply t_region; kernel_rfl) | (apply t_drawn; kernel_rfl; decide +kernel; try simp only [List.append_eq, List.cons_append, List.nil_append]) | ((with_reducible apply t_condT); exact rfl) | ((with_reducible apply t_condF); exact rfl) | ((with_reducible apply t_skip))) | with_reducible apply q_thenN)
          all_goals exact ⟨rfl, (), trivial, by (repeat (first | exact FrSub.nil | (apply FrSub.cons; exact rfl))), by (repeat (first | exact HpSub.refl _ | (apply HpSub.consE; (repeat (first | exact P0 | apply P1 | apply PA)); exact rfl) | apply HpSub.appC | apply HpSub.skipX | apply HpSub.skipApp | exact HpSub.nil))⟩
        · rw [if_neg k2] at hbl
          repeat' (first | ((with_reducible apply oq_id); first | ((with_reducible apply oq_eqlF); exact rfl; exact rfl; omega) | ((with_reducible apply oq_neqF); exact rfl; exact rfl; omega) | (apply oq_fn; exact rfl; first | exact trivial | (refine ⟨?_, ?_⟩ <;> omega) | (refine ⟨?_, ?_, ?_⟩ <;> omega) | omega | skip) | ((with_reducible apply oq_load); exact rfl; exact rfl)) | ((with_reducible apply tl_id); first | ((with_reducible apply tl_nil)) | ((with_reducible apply u_q); exact rfl; exact rfl; exact rfl; exact rfl)) | ((with_reducible apply rd_id); first | (apply Rd.own; (repeat (first | exact P0 | apply P1 | apply PA)); exact rfl; done)) | ((with_reducible apply t_id); first | ((with_reducible apply t_seq)) | (apply t_region; kernel_rfl) | ((with_reducible apply t_condF); exact rfl) | ((with_reducible apply t_skip))) | with_reducible apply q_thenN)
          all_goals exact ⟨rfl, (), trivial, by (repeat (first | exact FrSub.nil | (apply FrSub.cons; exact rfl))), by (repeat (first | exact HpSub.refl _ | (apply HpSub.consE; (repeat (first | exact P0 | apply P1 | apply PA)); exact rfl) | apply HpSub.appC | apply HpSub.skipX | apply HpSub.skipApp | exact HpSub.nil))⟩
      rintro ⟨⟩ -
      have hbl2 : o.bk.length ≤ p.bk.length := by split at hbl <;> omega
      repeat' (first | ((with_reducible apply oq_id); first | (apply oq_fn; exact rfl; first | exact trivial | (refine ⟨?_, ?_⟩ <;> omega) | (refine ⟨?_, ?_, ?_⟩ <;> omega) | omega | skip) | ((with_reducible apply oq_load); exact rfl; exact rfl)) | ((with_reducible apply tl_id); first | ((with_reducible apply tl_nil)) | ((with_reducible apply u_q); exact rfl; exact rfl; exact rfl; exact rfl)) | ((with_reducible apply rd_id); first | (apply Rd.own; (repeat (first | exact P0 | apply P1 | apply PA)); exact rfl; done)) | ((with_reducible apply t_id); first | ((with_reducible apply t_seq)) | (apply t_region; kernel_rfl) | ((with_reducible apply t_block))) | with_reducible apply q_thenN)
      apply t_loopK (GH := []) (ι := Nat × Int) [2, 3, 5, 6, 10, 15, 201, 202, 284, 285, 286, 287, 288, 289, 290, 291] (fun z => [(18, .int .i64 z.2), (203, .int .i64 (z.1 : Nat))]) (fun z => (b6, offCells p (clA x1) (clC x1) (clA y1) (clC y1), some (25, 7, 1)) :: (flH p x1 ++ (bkH p y1 ++ ((b3, dealCells d, some (63, 5, 1)) :: (b2, offCells o A cf B cb, some (25, 7, 1)) :: [])))) (fun z => z.1 ≤ o.bk.length ∧ z.2 = lostV o p z.1) (fun z => o.bk.length - z.1) ((0, 0))
      (repeat (first | exact KeepF.nil | (apply KeepF.cons; exact rfl) | apply KeepF.skip))
      (repeat (first | exact FrSub.nil | (apply FrSub.cons; exact rfl)))
      (simp only [List.append_nil]; (repeat (first | exact HpSub.refl _ | (apply HpSub.consE; (repeat (first | exact P0 | apply P1 | apply PA)); exact rfl) | apply HpSub.appC | apply HpSub.skipX | apply HpSub.skipApp | exact HpSub.nil)))
      · exact ⟨Nat.zero_le _, (lost_zero o p).symm⟩
      rintro ⟨k, lo⟩ ⟨hkl, hlo⟩
      simp only at hkl hlo
      try simp only [List.cons_append, List.nil_append]
      simp only [List.append_nil]
      have hlin := lost_in hO hP hS k hkl
      by_cases hlt : k < o.bk.length
      · obtain ⟨f0, xs, xk, ys, yk, e, hx, hy, he, hcase, hy1', hy2'⟩ := money_round hO hP hS hlt
        obtain ⟨b1, o1, x, rfl, _, hx0, c0, c1, c2⟩ := bk_read hB hlt
        rw [hx] at hx0
        cases hx0
        simp only at c0 c1 c2
        have hfl := (List.getElem?_eq_some_iff.1 he).1
        obtain ⟨b1', o1', e', rfl, _, he0, d0, d1, d2, d3⟩ := dep_read hA hfl
        rw [he] at he0
        cases he0
        have hed := hO.dep he
        obtain ⟨q0, q1, q2⟩ := bk_at hy
        have hyl := (List.getElem?_eq_some_iff.1 hy).1
        have hnow := hO.now
        have hno := hO.notice
        rcases y1 with _ | ⟨gy, cy⟩
        · have := hy1 rfl
          omega
        simp only [clA_some, clC_some, clH_some, List.cons_append, List.nil_append] at *
        rcases hcase with ⟨h1, h2, h3, hl⟩ | ⟨h1, h2, h3, hl⟩ | ⟨h1, h2, h3, hl⟩ | ⟨h1, h2, h3, h4, h5, h6, hl⟩
        rotate_right 1
        · have hfi := fee_in (price := e.price) (fee := o.fee) (by omega) hO.fee
          obtain ⟨P, hPP⟩ : ∃ P, e.price * o.fee = P := ⟨_, rfl⟩
          unfold feeV at hfi h6
          rw [hPP] at hfi h6
          repeat' (first | ((with_reducible apply oq_id); first | (focus ((with_reducible apply oq_indexAddrN); exact rfl; exact rfl; exact rfl; exact rfl; omega)) | (focus ((with_reducible apply oq_mulE (k := P)); exact rfl; exact rfl; exact hPP; omega)) | ((with_reducible apply oq_lssT); exact rfl; exact rfl; omega) | ((with_reducible apply oq_neqT); exact rfl; exact rfl; omega) | ((with_reducible apply oq_neqF); exact rfl; exact rfl; omega) | ((with_reducible apply oq_eqlF); exact rfl; exact rfl; omega) | ((with_reducible apply oq_geqF); exact rfl; exact rfl; omega) | (apply oq_fn; exact rfl; first | exact trivial | (refine ⟨?_, ?_⟩ <;> omega) | (refine ⟨?_, ?_, ?_⟩ <;> omega) | omega | skip) | ((with_reducible apply oq_load); exact rfl; exact rfl) | ((with_reducible apply oq_loadAgg); exact rfl; exact rfl)) | ((with_reducible apply tl_id); first | ((with_reducible apply tl_nil)) | ((with_reducible apply u_q); exact rfl; exact rfl; exact rfl; exact rfl) | ((with_reducible apply u_s0); exact rfl; exact rfl) | ((with_reducible apply u_s); exact rfl; exact rfl; exact rfl) | ((with_reducible apply u_skip); exact rfl; exact rfl; exact rfl)) | ((with_reducible apply os_id); first | ((with_reducible apply os_x); exact rfl) | ((with_reducible apply os_storeAgg); exact rfl; exact rfl; exact rfl; exact rfl; exact rfl)) | ((with_reducible apply ox_id); first | ((with_reducible apply ox_alloc); exact rfl; intro _)) | ((with_reducible apply rd_id); first | (apply Rd.own; (repeat (first | exact P0 | apply P1 | apply PA)); first | exact q0 | exact q1 | exact q2; done) | (apply Rd.own; (repeat (first | exact P0 | apply P1 | apply PA)); exact rfl; done) | (apply Rd.old; (first | (with_reducible assumption) | exact c0 | exact c1 | exact c2 | exact c3 | exact c4 | exact c5 | exact c6 | exact c7 | exact c8 | exact d0 | exact d1 | exact d2 | exact d3 | exact d4 | exact d5); first | exact List.not_mem_nil | exact m0 | exact m1 | exact m2 | exact m3 | exact m4 | exact m5 | exact m6 | exact m7 | exact m8 | exact m9)) | ((with_reducible apply t_id); first | ((with_reducible apply t_seq)) | (apply t_region; kernel_rfl) | ((with_reducible apply t_condT); exact rfl) | ((with_reducible apply t_condF); exact rfl) | ((with_reducible apply t_skip)) | ((with_reducible apply t_block))) | with_reducible apply q_thenN | with_reducible apply q_blockN | exact P0 | exact Rdn.zero | apply Rdn.succ | ((with_reducible apply Norm.nil); exact rfl) | ((with_reducible apply Norm.cons); exact rfl) | exact Nat.le_of_ble_eq_true rfl)
          all_goals (refine ⟨(k + 1, lo + yk), ⟨(by simp only; omega), (by simp only; omega)⟩, (by simp only; omega), ?_, ?_⟩)
          · try simp only [List.cons_append, List.nil_append]
            (repeat (first | exact FrSub.nil | (apply FrSub.cons; exact rfl)))
          · (repeat (first | exact HpSub.refl _ | (apply HpSub.consE; (repeat (first | exact P0 | apply P1 | apply PA)); exact rfl) | apply HpSub.appC | apply HpSub.skipX | apply HpSub.skipApp | exact HpSub.nil))
        all_goals (try subst h2 h3)
        all_goals (repeat' (first | ((with_reducible apply oq_id); first | (focus ((with_reducible apply oq_indexAddrN); exact rfl; exact rfl; exact rfl; exact rfl; omega)) | ((with_reducible apply oq_ne71F); exact rfl; exact rfl) | ((with_reducible apply oq_lssT); exact rfl; exact rfl; omega) | ((with_reducible apply oq_neqF); exact rfl; exact rfl; omega) | ((with_reducible apply oq_eqlT); exact rfl; exact rfl; omega) | ((with_reducible apply oq_eqlF); exact rfl; exact rfl; omega) | (apply oq_fn; exact rfl; first | exact trivial | (refine ⟨?_, ?_⟩ <;> omega) | (refine ⟨?_, ?_, ?_⟩ <;> omega) | omega | skip) | ((with_reducible apply oq_load); exact rfl; exact rfl) | ((with_reducible apply oq_loadAgg); exact rfl; exact rfl)) | ((with_reducible apply tl_id); first | ((with_reducible apply tl_nil)) | ((with_reducible apply u_q); exact rfl; exact rfl; exact rfl; exact rfl) | ((with_reducible apply u_s0); exact rfl; exact rfl) | ((with_reducible apply u_s); exact rfl; exact rfl; exact rfl) | ((with_reducible apply u_skip); exact rfl; exact rfl; exact rfl)) | ((with_reducible apply os_id); first | ((with_reducible apply os_x); exact rfl) | ((with_reducible apply os_storeAgg); exact rfl; exact rfl; exact rfl; exact rfl; exact rfl)) | ((with_reducible apply ox_id); first | ((with_reducible apply ox_alloc); exact rfl; intro _)) | ((with_reducible apply rd_id); first | (apply Rd.own; (repeat (first | exact P0 | apply P1 | apply PA)); first | exact q0 | exact q1 | exact q2; done) | (apply Rd.own; (repeat (first | exact P0 | apply P1 | apply PA)); exact rfl; done) | (apply Rd.old; (first | (with_reducible assumption) | exact c0 | exact c1 | exact c2 | exact c3 | exact c4 | exact c5 | exact c6 | exact c7 | exact c8 | exact d0 | exact d1 | exact d2 | exact d3 | exact d4 | exact d5); first | exact List.not_mem_nil | exact m0 | exact m1 | exact m2 | exact m3 | exact m4 | exact m5 | exact m6 | exact m7 | exact m8 | exact m9)) | ((with_reducible apply t_id); first | ((with_reducible apply t_seq)) | (apply t_region; kernel_rfl) | ((with_reducible apply t_condT); exact rfl) | ((with_reducible apply t_condF); exact rfl) | ((with_reducible apply t_skip)) | ((with_reducible apply t_block))) | with_reducible apply q_thenN | with_reducible apply q_blockN | exact P0 | exact Rdn.zero | apply Rdn.succ | ((with_reducible apply Norm.nil); exact rfl) | ((with_reducible apply Norm.cons); exact rfl) | exact Nat.le_of_ble_eq_true rfl))
        all_goals (refine ⟨(k + 1, lo), ⟨(by simp only; omega), (by simp only; omega)⟩, (by simp only; omega), ?_, ?_⟩)
        all_goals (first | ((try simp only [List.cons_append, List.nil_append]); (repeat (first | exact FrSub.nil | (apply FrSub.cons; exact rfl))); done) | ((repeat (first | exact HpSub.refl _ | (apply HpSub.consE; (repeat (first | exact P0 | apply P1 | apply PA)); exact rfl) | apply HpSub.appC | apply HpSub.skipX | apply HpSub.skipApp | exact HpSub.nil)); done))
      · obtain rfl : k = o.bk.length := by omega
        have hle := lost_end hS
        repeat' (first | ((with_reducible apply oq_id); first | ((with_reducible apply oq_lssF); exact rfl; exact rfl; omega) | ((with_reducible apply oq_eqlT); exact rfl; exact rfl; omega) | (apply oq_fn; exact rfl; first | exact trivial | (refine ⟨?_, ?_⟩ <;> omega) | (refine ⟨?_, ?_, ?_⟩ <;> omega) | omega | skip)) | ((with_reducible apply tl_id); first | ((with_reducible apply tl_nil)) | ((with_reducible apply u_q); exact rfl; exact rfl; exact rfl; exact rfl)) | ((with_reducible apply t_id); first | ((with_reducible apply t_seq)) | (apply t_region; kernel_rfl) | ((with_reducible apply t_condF); exact rfl) | ((with_reducible apply t_ret)) | ((with_reducible apply t_exit))) | with_reducible apply q_thenN | with_reducible apply q_thenE | ((with_reducible apply q_blockE); exact rfl) | ((with_reducible apply end_ret)) | exact rvs_nil | ((with_reducible apply rvs_cons)) | ((with_reducible apply rv_tmp); exact rfl))
        all_goals rfl
    · obtain rfl : p = zeroO := by rw [← hp]; unfold doR; rw [if_neg fun h => hE h.2]
      have he2 : ¬ e = 0 := by rw [← he]; unfold doE; rw [if_pos hv]; exact hE
      repeat' (first | ((with_reducible apply oq_id); first | ((with_reducible apply oq_neqT); exact rfl; exact rfl; omega) | ((with_reducible apply oq_neqF); exact rfl; exact rfl; omega) | (apply oq_fn; exact rfl; first | exact trivial | (refine ⟨?_, ?_⟩ <;> omega) | (refine ⟨?_, ?_, ?_⟩ <;> omega) | omega | skip) | ((with_reducible apply oq_load); exact rfl; exact rfl) | ((with_reducible apply oq_loadAgg); exact rfl; exact rfl) | ((with_reducible apply oq_call (k := 39) (hc := Try.call39)); exact rfl; exact rfl; exact fun D w1 hw1 => check_calls o A cf B cb w1 (hA.ext hw1.ext.ext) (hB.ext hw1.ext.ext) hnA hnB hu hn hn2) | ((with_reducible apply oq_call (k := 22) (hc := Try.call22)); exact rfl; exact rfl; exact fun D w1 hw1 => purseOk hO hv ha hb hc hf A cf B cb w1 (hA.ext hw1.ext.ext) (hB.ext hw1.ext.ext) hnA hnB) | ((with_reducible apply oq_call (k := 36) (hc := Try.call36)); exact rfl; exact rfl; exact fun D w1 hw1 => sameZ w1 _ _ _ _) | ((with_reducible apply oq_build); exact rfl; exact rfl; exact rfl)) | ((with_reducible apply tl_id); first | ((with_reducible apply tl_nil)) | ((with_reducible apply u_q); exact rfl; exact rfl; exact rfl; exact rfl)) | ((with_reducible apply rd_id); first | (apply Rd.own; (repeat (first | exact P0 | apply P1 | apply PA)); exact rfl; done)) | ((with_reducible apply t_id); first | ((with_reducible apply t_seq)) | (apply t_region; kernel_rfl) | ((with_reducible apply t_condT); exact rfl) | ((with_reducible apply t_condF); exact rfl) | ((with_reducible apply t_ret)) | ((with_reducible apply t_skip))) | with_reducible apply q_thenN | with_reducible apply q_thenR | exact Rdn.zero | apply Rdn.succ | ((with_reducible apply Norm.nil); exact rfl) | ((with_reducible apply Norm.cons); exact rfl) | ((with_reducible apply end_ret)) | exact rvs_nil | ((with_reducible apply rvs_cons)) | ((with_reducible apply rv_tmp); exact rfl))
      all_goals rfl

end Go.Proofs.Ytmlmgipngbndgaa
