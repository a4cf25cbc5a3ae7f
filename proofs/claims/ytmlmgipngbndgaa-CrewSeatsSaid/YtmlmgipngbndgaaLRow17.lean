/- What the statement computes, walked. -/
import Derived.Test.YtmlmgipngbndgaaPkL
import Derived.Test.YtmlmgipngbndgaaPkJ
import Derived.Test.YtmlmgipngbndgaaPkO
import Derived.Test.YtmlmgipngbndgaaPkI
/- What a deal leaves of the bookings: plain laws. -/
namespace Go.Proofs.Ytmlmgipngbndgaa
set_option linter.unusedVariables false
set_option linter.unusedSimpArgs false
/-- The deals that are not refused, one by one. -/
inductive DoneK (o : Off) (d : Deal) : Prop
  | add (k : d.kind = 1) (e : doneO o d = addV o d)
  | sell (k : d.kind = 2) (i : Nat) (x : Dep) (n : d.n = (i : Int)) (h : o.fl[i]? = some x) (s : x.state = 0) (l : o.bk.length < 120) (e : doneO o d = { o with bk := o.bk ++ [⟨(i : Int), if manyV o.bk i 1 < x.seats then 1 else 2, 0⟩], inn := o.inn + x.price })
  | cancel (k : d.kind = 3) (j : Nat) (b : Bk) (n : d.n = (j : Int)) (h : o.bk[j]? = some b) (s : b.state = 1 ∨ b.state = 2) (e : doneO o d = cancelV o (j : Int))
  | close (k : d.kind = 4 ∨ d.kind = 5) (i : Nat) (x : Dep) (st to : Int) (n : d.n = (i : Int)) (h : o.fl[i]? = some x) (s : x.state = 0) (q : (d.kind = 4 ∧ st = 1 ∧ to = 3 ∧ x.leaves ≤ o.now) ∨ (d.kind = 5 ∧ st = 2 ∧ to = 4)) (e : doneO o d = closedV o i x st to)
  | tick (k : d.kind = 6) (e : doneO o d = { o with now := o.now + d.n })
  | seat (k : d.kind = 7) (i : Nat) (x : Dep) (n : d.n = (i : Int)) (h : o.fl[i]? = some x) (s : x.state = 0) (e : doneO o d = givenV { o with fl := o.fl.set i ⟨d.seats, x.price, x.leaves, x.state⟩ } i)
theorem done_cases {o : Off} (hv : OkO o) (d : Deal) (hE : doneE o d = 0) : DoneK o d := by
  unfold doneE at hE
  by_cases k1 : d.kind = 1
  · exact .add k1 (by unfold doneO; rw [if_pos k1])
  rw [if_neg k1] at hE
  by_cases k2 : d.kind = 2
  · rw [if_pos k2] at hE
    by_cases c1 : openE o d.n = 0
    · rw [if_pos c1] at hE
      by_cases c2 : o.bk.length < 120
      · obtain ⟨i, e, hn, hi, h0⟩ := openE_ok c1
        refine .sell k2 i e hn hi h0 c2 ?_
        unfold doneO
        rw [if_neg k1, if_pos k2, hn]
        exact sell_eq hv hi h0
      · rw [if_neg c2] at hE; exact absurd hE (by decide)
    · rw [if_neg c1] at hE; exact absurd hE c1
  rw [if_neg k2] at hE
  by_cases k3 : d.kind = 3
  · rw [if_pos k3] at hE
    by_cases c1 : 0 ≤ d.n ∧ d.n < (o.bk.length : Int)
    · rw [if_pos c1] at hE
      by_cases c2 : (bkAt o d.n).state = 1 ∨ (bkAt o d.n).state = 2
      · obtain ⟨j, hj⟩ : ∃ j : Nat, d.n = (j : Int) := ⟨d.n.toNat, by omega⟩
        obtain ⟨b, hb⟩ : ∃ b, o.bk[j]? = some b := ⟨_, List.getElem?_eq_getElem (by omega)⟩
        have hbat : bkAt o (j : Int) = b := by unfold bkAt; rw [Int.toNat_natCast, hb]
        rw [hj, hbat] at c2
        refine .cancel k3 j b hj hb c2 ?_
        unfold doneO
        rw [if_neg k1, if_neg k2, if_pos k3, hj]
      · rw [if_neg c2] at hE; exact absurd hE (by decide)
    · rw [if_neg c1] at hE; exact absurd hE (by decide)
  rw [if_neg k3] at hE
  by_cases k4 : d.kind = 4
  · rw [if_pos k4] at hE
    by_cases c1 : openE o d.n = 0
    · rw [if_pos c1] at hE
      by_cases c2 : (depAt o d.n).leaves ≤ o.now
      · obtain ⟨i, e, hn, hi, h0⟩ := openE_ok c1
        have hdep : depAt o (i : Int) = e := by unfold depAt; rw [Int.toNat_natCast, hi]
        rw [hn, hdep] at c2
        refine .close (.inl k4) i e 1 3 hn hi h0 (.inl ⟨k4, rfl, rfl, c2⟩) ?_
        unfold doneO
        rw [if_neg k1, if_neg k2, if_neg k3, if_pos k4, hn, hdep, Int.toNat_natCast]
      · rw [if_neg c2] at hE; exact absurd hE (by decide)
    · rw [if_neg c1] at hE; exact absurd hE c1
  rw [if_neg k4] at hE
  by_cases k5 : d.kind = 5
  · rw [if_pos k5] at hE
    obtain ⟨i, e, hn, hi, h0⟩ := openE_ok hE
    have hdep : depAt o (i : Int) = e := by unfold depAt; rw [Int.toNat_natCast, hi]
    refine .close (.inr k5) i e 2 4 hn hi h0 (.inr ⟨k5, rfl, rfl⟩) ?_
    unfold doneO
    rw [if_neg k1, if_neg k2, if_neg k3, if_neg k4, if_pos k5, hn, hdep, Int.toNat_natCast]
  rw [if_neg k5] at hE
  by_cases k6 : d.kind = 6
  · exact .tick k6 (by unfold doneO; rw [if_neg k1, if_neg k2, if_neg k3, if_neg k4, if_neg k5, if_pos k6])
  rw [if_neg k6] at hE
  by_cases k7 : d.kind = 7
  · rw [if_pos k7] at hE
    by_cases c1 : openE o d.n = 0
    · obtain ⟨i, e, hn, hi, h0⟩ := openE_ok c1
      have hdep : depAt o (i : Int) = e := by unfold depAt; rw [Int.toNat_natCast, hi]
      refine .seat k7 i e hn hi h0 ?_
      unfold doneO seatsV
      rw [if_neg k1, if_neg k2, if_neg k3, if_neg k4, if_neg k5, if_neg k6]
      simp only [hn, hdep, Int.toNat_natCast]
    · rw [if_neg c1] at hE; exact absurd hE c1
  rw [if_neg k7] at hE
  exact absurd hE (by decide)
theorem give_at {f : Int} : ∀ {n : Int} {l : List Bk} {i : Nat} {x : Bk}, l[i]? = some x → ∃ y, (giveL f n l)[i]? = some y ∧ (y = x ∨ (isB f 2 x = true ∧ y = ⟨x.flight, 1, x.kept⟩))
  | n, [], i, x, h => by simp at h
  | n, a :: l, 0, x, h => by
    obtain rfl : a = x := by simpa using h
    unfold giveL
    split
    · rename_i hc
      exact ⟨_, rfl, .inr ⟨hc.1, rfl⟩⟩
    · exact ⟨_, rfl, .inl rfl⟩
  | n, a :: l, i + 1, x, h => by
    have h' : l[i]? = some x := by simpa using h
    unfold giveL
    split
    · exact give_at (n := n - 1) h'
    · exact give_at (n := n) h'
/-- What becomes of a booking. -/
structure BkS (o : Off) (d : Deal) (i : Nat) (x y : Bk) : Prop where
  fl : y.flight = x.flight
  old : x.state = 3 ∨ x.state = 4 → y = x
  kept : y.kept = x.kept ∨ (d.kind = 3 ∧ d.n = (i : Int) ∧ x.state = 1 ∧ ∃ e, o.fl[x.flight.toNat]? = some e ∧ e.leaves - o.now < o.notice ∧ y.kept = feeV e.price o.fee)
structure Stp (o p : Off) (d : Deal) : Prop where
  fl : ∀ (k : Nat) x, o.fl[k]? = some x → ∃ y, p.fl[k]? = some y ∧ y.price = x.price ∧ (¬ x.state = 0 → y = x)
  bl : p.bk.length = o.bk.length + (if d.kind = 2 then 1 else 0)
  inn : (d.kind = 2 ∧ ∃ (i : Nat) (x : Dep), d.n = (i : Int) ∧ o.fl[i]? = some x ∧ p.inn = o.inn + x.price) ∨ (¬ d.kind = 2 ∧ p.inn = o.inn)
  each : ∀ (i : Nat) x, o.bk[i]? = some x → ∃ y, p.bk[i]? = some y ∧ BkS o d i x y
  new : ∀ (i : Nat) y, o.bk.length ≤ i → p.bk[i]? = some y → ¬ y.state = 4
theorem BkS.same {o : Off} {d : Deal} {i : Nat} {x : Bk} : BkS o d i x x := ⟨rfl, fun _ => rfl, .inl rfl⟩
theorem fl_same {o p : Off} (h : p.fl = o.fl) (k : Nat) (x : Dep) (hk : o.fl[k]? = some x) : ∃ y, p.fl[k]? = some y ∧ y.price = x.price ∧ (¬ x.state = 0 → y = x) := ⟨x, by rw [h]; exact hk, rfl, fun _ => rfl⟩
theorem fl_set {o : Off} {i : Nat} {e z : Dep} (hi : o.fl[i]? = some e) (h0 : e.state = 0) (hz : z.price = e.price) (k : Nat) (x : Dep) (hk : o.fl[k]? = some x) : ∃ y, (o.fl.set i z)[k]? = some y ∧ y.price = x.price ∧ (¬ x.state = 0 → y = x) := by
  rw [set_at hi]
  by_cases h : k = i
  · subst h
    rw [hi] at hk
    cases hk
    exact ⟨z, if_pos rfl, hz, fun h => absurd h0 h⟩
  · exact ⟨x, by rw [if_neg h]; exact hk, rfl, fun _ => rfl⟩
theorem new_none {o : Off} {l : List Bk} (h : l.length = o.bk.length) (i : Nat) (y : Bk) (hi : o.bk.length ≤ i) (hy : l[i]? = some y) : ¬ y.state = 4 := by
  rw [List.getElem?_eq_none (by omega)] at hy
  cases hy
theorem done_stp {o : Off} (hv : OkO o) {d : Deal} (hE : doneE o d = 0) : Stp o (doneO o d) d := by
  rcases done_cases hv d hE with ⟨k, e⟩ | ⟨k, i, x, n, h, s, l, e⟩ | ⟨k, j, b, n, h, s, e⟩ | ⟨k, i, x, st, to, n, h, s, q, e⟩ | ⟨k, e⟩ | ⟨k, i, x, n, h, s, e⟩
  · rw [e]
    refine ⟨fun k x hk => ⟨x, ?_, rfl, fun _ => rfl⟩, ?_, .inr ⟨by omega, rfl⟩, fun i x hx => ⟨x, hx, BkS.same⟩, new_none rfl⟩
    · unfold addV
      have := (List.getElem?_eq_some_iff.1 hk).1
      simp only
      rw [List.getElem?_append_left this]
      exact hk
    · rw [if_neg (by omega)]; rfl
  · rw [e]
    refine ⟨fl_same rfl, ?_, .inl ⟨k, i, x, n, h, rfl⟩, fun i x hx => ⟨x, ?_, BkS.same⟩, fun i y hi hy => ?_⟩
    · rw [if_pos k]; simp
    · have := (List.getElem?_eq_some_iff.1 hx).1
      simp only
      rw [List.getElem?_append_left this]
      exact hx
    · simp only at hy
      rw [List.getElem?_append_right hi] at hy
      have hm := List.mem_of_getElem? hy
      rw [List.mem_singleton.1 hm]
      simp only
      split <;> omega
  · rw [e]
    have hbat : bkAt o (j : Int) = b := by unfold bkAt; rw [Int.toNat_natCast, h]
    obtain ⟨f, dep, hf, hfl, _⟩ := hv.bkok (List.mem_of_getElem? h)
    have hdep : depAt o b.flight = dep := by unfold depAt; rw [hf, Int.toNat_natCast, hfl]
    have hk0 := hv.kept0 (List.mem_of_getElem? h) s
    unfold cancelV givenV paidB
    simp only [hbat, hdep, Int.toNat_natCast]
    refine ⟨fl_same rfl, ?_, .inr ⟨by omega, rfl⟩, fun i x hx => ?_, new_none (by simp [giveL_length])⟩
    · rw [if_neg (by omega)]; simp [giveL_length]
    · simp only
      by_cases hij : i = j
      · subst hij
        obtain rfl : b = x := by rw [h] at hx; exact Option.some.inj hx
        have hset : (o.bk.set i ⟨b.flight, 4, keptV o dep b⟩)[i]? = some ⟨b.flight, 4, keptV o dep b⟩ := by
          rw [List.getElem?_set_self (List.getElem?_eq_some_iff.1 h).1]
        obtain ⟨y, hy, hc⟩ := give_at (f := (b.flight.toNat : Int)) (n := freeV { o with bk := o.bk.set i ⟨b.flight, 4, keptV o dep b⟩, out := o.out + (dep.price - keptV o dep b) } b.flight.toNat) hset
        refine ⟨y, hy, ?_⟩
        have hy' : y = ⟨b.flight, 4, keptV o dep b⟩ := by
          rcases hc with hc | ⟨hc, _⟩
          · exact hc
          · unfold isB at hc; simp at hc
        subst hy'
        refine ⟨rfl, fun h3 => by omega, ?_⟩
        simp only
        unfold keptV
        split
        · rename_i hc
          exact .inr ⟨k, n, hc.1, dep, by rw [hf, Int.toNat_natCast]; exact hfl, hc.2, rfl⟩
        · exact .inl hk0.symm
      · have hset : (o.bk.set j ⟨b.flight, 4, keptV o dep b⟩)[i]? = some x := by
          rw [List.getElem?_set_ne (fun h => hij h.symm)]; exact hx
        obtain ⟨y, hy, hc⟩ := give_at (f := (b.flight.toNat : Int)) (n := freeV { o with bk := o.bk.set j ⟨b.flight, 4, keptV o dep b⟩, out := o.out + (dep.price - keptV o dep b) } b.flight.toNat) hset
        refine ⟨y, hy, ?_⟩
        rcases hc with rfl | ⟨hc, rfl⟩
        · exact BkS.same
        · have := isB_st hc
          exact ⟨rfl, fun h3 => by omega, .inl rfl⟩
  · rw [e]
    unfold closedV
    refine ⟨fl_set h s rfl, ?_, .inr ⟨by omega, rfl⟩, fun j y hy => ⟨shutB i to y, by simp [hy], ?_⟩, new_none (by simp)⟩
    · rw [if_neg (by omega)]; simp
    · unfold shutB
      split
      · rename_i hc
        have := isB_st hc
        exact ⟨rfl, fun h3 => by omega, .inl rfl⟩
      split
      · rename_i hc
        have := isB_st hc
        exact ⟨rfl, fun h3 => by omega, .inl rfl⟩
      · exact BkS.same
  · rw [e]
    exact ⟨fl_same rfl, by rw [if_neg (by omega)]; rfl, .inr ⟨by omega, rfl⟩, fun i x hx => ⟨x, hx, BkS.same⟩, new_none rfl⟩
  · rw [e]
    unfold givenV
    refine ⟨fl_set h s rfl, ?_, .inr ⟨by omega, rfl⟩, fun j y hy => ?_, new_none (by simp [giveL_length])⟩
    · rw [if_neg (by omega)]; simp [giveL_length]
    · obtain ⟨z, hz, hc⟩ := give_at (f := (i : Int)) (n := freeV { o with fl := o.fl.set i ⟨d.seats, x.price, x.leaves, x.state⟩ } i) hy
      refine ⟨z, hz, ?_⟩
      rcases hc with rfl | ⟨hc, rfl⟩
      · exact BkS.same
      · have := isB_st hc
        exact ⟨rfl, fun h3 => by omega, .inl rfl⟩
/-! Sums -/
theorem sm_le {f g : Bk → Int} : ∀ {l m : List Bk}, (∀ (i : Nat) x, l[i]? = some x → ∃ y, m[i]? = some y ∧ f x ≤ g y) → (∀ y ∈ m, 0 ≤ g y) → sm f l ≤ sm g m
  | [], [], _, _ => Int.le_refl _
  | [], y :: m, h, h0 => by
    have h1 := h0 y (List.mem_cons_self ..)
    have h2 := sm_le (f := f) (g := g) (l := []) (m := m) (fun i x hx => by simp at hx) (fun z hz => h0 z (List.mem_cons_of_mem _ hz))
    simp only [sm] at h2 ⊢
    omega
  | x :: l, [], h, _ => by
    obtain ⟨y, hy, _⟩ := h 0 x rfl
    simp at hy
  | x :: l, y :: m, h, h0 => by
    obtain ⟨y', hy, h1⟩ := h 0 x rfl
    obtain rfl : y = y' := by simpa using hy
    have h2 := sm_le (f := f) (g := g) (l := l) (m := m) (fun i z hz => by
      obtain ⟨u, hu, hk⟩ := h (i + 1) z (by simpa using hz)
      exact ⟨u, by simpa using hu, hk⟩) (fun z hz => h0 z (List.mem_cons_of_mem _ hz))
    simp only [sm]
    omega
theorem sm_take {f : Bk → Int} {l : List Bk} {k : Nat} {x : Bk} (h : l[k]? = some x) : sm f (l.take (k + 1)) = sm f (l.take k) + f x := by
  rw [List.take_add_one, h, sm_append]
  simp [sm]
theorem sm_zero {f : Bk → Int} : ∀ {l : List Bk}, (∀ x ∈ l, f x = 0) → sm f l = 0
  | [], _ => rfl
  | x :: l, h => by
    simp only [sm]
    rw [h x (List.mem_cons_self ..), sm_zero fun y hy => h y (List.mem_cons_of_mem _ hy)]
    rfl
end Go.Proofs.Ytmlmgipngbndgaa
/- Seats and those who wait, before and after a deal: plain laws. -/
namespace Go.Proofs.Ytmlmgipngbndgaa
set_option linter.unusedVariables false
set_option linter.unusedSimpArgs false
/-- Is a booking of a departure? -/
def cF (f : Int) (x : Bk) : Int := if x.flight = f then 1 else 0
def nTo (bk : List Bk) (f : Int) (k : Nat) : Int := sm (cF f) (bk.take k)
theorem nTo_zero (bk : List Bk) (f : Int) : nTo bk f 0 = 0 := by simp [nTo, sm]
theorem nTo_succ {bk : List Bk} {k : Nat} {x : Bk} (h : bk[k]? = some x) (f : Int) : nTo bk f (k + 1) = nTo bk f k + cF f x := sm_take h
theorem nTo_in (bk : List Bk) (f : Int) : ∀ k : Nat, k ≤ bk.length → 0 ≤ nTo bk f k ∧ nTo bk f k ≤ (k : Int)
  | 0, _ => by rw [nTo_zero]; simp
  | k + 1, h => by
    have ih := nTo_in bk f k (by omega)
    obtain ⟨x, hx⟩ : ∃ x, bk[k]? = some x := ⟨_, List.getElem?_eq_getElem (by omega)⟩
    rw [nTo_succ hx]
    unfold cF
    split <;> omega
theorem OkO.st_in {o : Off} (hO : OkO o) {x : Bk} (hx : x ∈ o.bk) : x.state = 1 ∨ x.state = 2 ∨ x.state = 3 ∨ x.state = 4 := by
  obtain ⟨f, e, _, _, h | ⟨_, h, _⟩⟩ := hO.bkok hx
  · omega
  · unfold fitB at h
    simp only [Bool.or_eq_true, Bool.and_eq_true, decide_eq_true_eq] at h
    omega
theorem OkO.counts {o : Off} (hO : OkO o) (f : Int) : nTo o.bk f o.bk.length = manyV o.bk f 1 + manyV o.bk f 2 + manyV o.bk f 3 + manyV o.bk f 4 := by
  unfold nTo
  rw [List.take_length, many_sm, many_sm, many_sm, many_sm, ← sm_add, ← sm_add, ← sm_add]
  refine sm_congr fun x hx => ?_
  have := hO.st_in hx
  unfold cF cN isB
  by_cases hf : x.flight = f
  · rw [if_pos hf]
    simp only [hf, decide_true, Bool.true_and, decide_eq_true_eq]
    rcases this with h | h | h | h <;> rw [h] <;> simp
  · rw [if_neg hf]
    simp [hf]
/-- The seats of a departure. -/
theorem OkO.full {o : Off} (hO : OkO o) {i : Nat} {d : Dep} (hi : o.fl[i]? = some d) : manyV o.bk i 1 + manyV o.bk i 3 ≤ d.seats ∧ (manyV o.bk i 1 < d.seats → manyV o.bk i 2 ≤ 0) := by
  obtain ⟨h1, h2⟩ := hO.seat hi
  refine ⟨h1, fun h => ?_⟩
  rcases h2 with h2 | h2
  · by_cases h3 : manyV o.bk i 2 ≤ 0
    · exact h3
    · exfalso
      have : ∃ x ∈ o.bk, isB i 2 x = true := Classical.byContradiction fun hn => h3 (by
        rw [many_zero_of fun x hx => by
          cases hb : isB i 2 x with
          | false => rfl
          | true => exact absurd ⟨x, hx, hb⟩ hn]
        exact Int.le_refl _)
      obtain ⟨x, hx, hb⟩ := this
      obtain ⟨hf, hs⟩ := isB_st hb
      have h0 := hO.st_open hx (.inr hs) hf hi
      have := hO.noflown hi h0
      omega
  · exact h2
theorem give_first {f : Int} : ∀ {n : Int} {l : List Bk} {j : Nat} {x y : Bk}, l[j]? = some x → (giveL f n l)[j]? = some y → x.state = 2 → y.state = 1 → isB f 2 x = true ∧ ∀ j' y', j' < j → (giveL f n l)[j']? = some y' → isB f 2 y' = false
  | n, [], j, x, y, h, _, _, _ => by simp at h
  | n, a :: l, 0, x, y, hx, hy, h2, h1 => by
    refine ⟨?_, fun j' y' hj => by omega⟩
    obtain rfl : a = x := by simpa using hx
    unfold giveL at hy
    split at hy
    · rename_i hc; exact hc.1
    · obtain rfl : a = y := by simpa using hy
      omega
  | n, a :: l, j + 1, x, y, hx, hy, h2, h1 => by
    have hx' : l[j]? = some x := by simpa using hx
    by_cases hc : isB f 2 a = true ∧ 0 < n
    · have hg : giveL f n (a :: l) = ⟨a.flight, 1, a.kept⟩ :: giveL f (n - 1) l := by
        show (if _ then _ else _) = _
        rw [if_pos hc]
      rw [hg] at hy ⊢
      obtain ⟨e1, e2⟩ := give_first (n := n - 1) hx' (by simpa using hy) h2 h1
      refine ⟨e1, fun j' y' hj hy' => ?_⟩
      cases j' with
      | zero =>
        obtain rfl : (⟨a.flight, 1, a.kept⟩ : Bk) = y' := by simpa using hy'
        unfold isB; simp
      | succ j' => exact e2 j' y' (by omega) (by simpa using hy')
    · have hg : giveL f n (a :: l) = a :: giveL f n l := by
        show (if _ then _ else _) = _
        rw [if_neg hc]
      rw [hg] at hy ⊢
      by_cases hn : 0 < n
      · have ha : isB f 2 a = false := by
          cases hb : isB f 2 a with
          | false => rfl
          | true => exact absurd ⟨hb, hn⟩ hc
        obtain ⟨e1, e2⟩ := give_first (n := n) hx' (by simpa using hy) h2 h1
        refine ⟨e1, fun j' y' hj hy' => ?_⟩
        cases j' with
        | zero =>
          obtain rfl : a = y' := by simpa using hy'
          exact ha
        | succ j' => exact e2 j' y' (by omega) (by simpa using hy')
      · rw [giveL_le (by omega)] at hy
        have : l[j]? = some y := by simpa using hy
        rw [hx'] at this
        cases this
        omega
theorem many_none_to {bk : List Bk} {f s : Int} {k : Nat} (h : ∀ j y, j < k → bk[j]? = some y → isB f s y = false) : manyTo bk f s k = 0 := by
  unfold manyTo
  rw [List.filter_eq_nil_iff.2 fun y hy => ?_]
  · rfl
  · obtain ⟨j, hj, he⟩ := List.getElem_of_mem hy
    have hj' : j < k := by simp at hj; omega
    have hy' : bk[j]? = some y := by
      rw [← he, List.getElem_take]
      exact List.getElem?_eq_getElem _
    rw [h j y hj' hy']
    exact Bool.false_ne_true
/-- Who waits waited before; who has got a seat has nobody before him that waits. -/
structure SeaS (o p : Off) : Prop where
  wait : ∀ (j : Nat) x y, o.bk[j]? = some x → p.bk[j]? = some y → y.state = 2 → x.state = 2
  first : ∀ (j : Nat) x y, o.bk[j]? = some x → p.bk[j]? = some y → y.state = 1 → x.state = 2 → manyTo p.bk y.flight 2 j = 0
theorem sea_same {o p : Off} (h : ∀ (j : Nat) x, o.bk[j]? = some x → p.bk[j]? = some x) : SeaS o p := by
  refine ⟨fun j x y hx hy h2 => ?_, fun j x y hx hy h1 h2 => ?_⟩
  all_goals (rw [h j x hx] at hy; cases hy; omega)
theorem sea_give {o p : Off} {l : List Bk} {f n : Int} (hl : ∀ (j : Nat) x y, o.bk[j]? = some x → l[j]? = some y → y = x ∨ y.state = 4) (hlen : o.bk.length = l.length) (hp : p.bk = giveL f n l) : SeaS o p := by
  refine ⟨fun j x y hx hy h2 => ?_, fun j x y hx hy h1 h2 => ?_⟩
  · have hj := (List.getElem?_eq_some_iff.1 hx).1
    obtain ⟨z, hz⟩ : ∃ z, l[j]? = some z := ⟨_, List.getElem?_eq_getElem (by omega)⟩
    obtain ⟨y', hy', hc⟩ := give_at (f := f) (n := n) hz
    rw [hp, hy'] at hy
    cases hy
    rcases hc with rfl | ⟨_, rfl⟩
    · rcases hl j x _ hx hz with rfl | h4
      · exact h2
      · omega
    · simp at h2
  · have hj := (List.getElem?_eq_some_iff.1 hx).1
    obtain ⟨z, hz⟩ : ∃ z, l[j]? = some z := ⟨_, List.getElem?_eq_getElem (by omega)⟩
    rcases hl j x z hx hz with rfl | h4
    · rw [hp] at hy ⊢
      obtain ⟨e1, e2⟩ := give_first hz hy h2 h1
      obtain ⟨y', hy', hc⟩ := give_at (f := f) (n := n) hz
      rw [hy'] at hy
      cases hy
      have hfl : y.flight = f := by
        rcases hc with rfl | ⟨hc, rfl⟩
        · omega
        · exact (isB_st hc).1
      rw [hfl]
      exact many_none_to e2
    · obtain ⟨y', hy', hc⟩ := give_at (f := f) (n := n) hz
      rw [hp, hy'] at hy
      cases hy
      rcases hc with rfl | ⟨hc, rfl⟩
      · omega
      · have := isB_st hc
        omega
theorem done_sea {o : Off} (hv : OkO o) {d : Deal} (hE : doneE o d = 0) : SeaS o (doneO o d) := by
  rcases done_cases hv d hE with ⟨k, e⟩ | ⟨k, i, x, n, h, s, l, e⟩ | ⟨k, j, b, n, h, s, e⟩ | ⟨k, i, x, st, to, n, h, s, q, e⟩ | ⟨k, e⟩ | ⟨k, i, x, n, h, s, e⟩
  · rw [e]; exact sea_same fun j x hx => hx
  · rw [e]
    refine sea_same fun j x hx => ?_
    simp only
    rw [List.getElem?_append_left (List.getElem?_eq_some_iff.1 hx).1]
    exact hx
  · rw [e]
    have hbat : bkAt o (j : Int) = b := by unfold bkAt; rw [Int.toNat_natCast, h]
    refine sea_give (l := (paidB o (j : Int)).bk) (fun i x y hx hy => ?_) ?_ rfl
    · unfold paidB at hy
      simp only [Int.toNat_natCast] at hy
      by_cases hij : j = i
      · subst hij
        rw [List.getElem?_set_self (List.getElem?_eq_some_iff.1 h).1] at hy
        cases hy
        exact .inr rfl
      · rw [List.getElem?_set_ne hij, hx] at hy
        cases hy
        exact .inl rfl
    · unfold paidB; simp
  · rw [e]
    unfold closedV
    have hto : to = 3 ∨ to = 4 := by omega
    refine ⟨fun j x y hx hy h2 => ?_, fun j x y hx hy h1 h2 => ?_⟩
    all_goals
      simp only [List.getElem?_map, hx, Option.map_some, Option.some.injEq] at hy
      unfold shutB at hy
      split at hy
      · subst hy; simp only at *; omega
      split at hy
      · subst hy; simp only at *; omega
      · subst hy; omega
  · rw [e]; exact sea_same fun j x hx => hx
  · rw [e]
    exact sea_give (l := o.bk) (fun i x y hx hy => .inl (by rw [hx] at hy; cases hy; rfl)) rfl rfl
end Go.Proofs.Ytmlmgipngbndgaa
/- Departures, bookings that are the same. -/
namespace Go.Proofs.Ytmlmgipngbndgaa
open Go.RowKit
attribute [local irreducible] OQ OS OX Rd T TL GX GL AL AI RV wpG SAny Calls
set_option maxRecDepth 100000
set_option maxHeartbeats 2000000
set_option linter.unusedVariables false
set_option linter.unusedSimpArgs false

theorem eq_u8 {w : World} {d : Nat} {a b : Int} : (Op.equalIn (d + 1) 5 (.int .u8 a) (.int .u8 b)).run Try.prog w = .ok (decide (a = b)) w := by
  rw [run_equalIn_int w d 5 .u8 .u8 a b Try.underlying5]
  rfl
theorem eqF_u8 {w : World} {d o : Nat} {xs ys : List Value} {f : Field} {fs : List Field} {a b : Int} {q : Bool} (hn : (f.name == "_") = false) (ht : f.type = 5) (ho : f.offset = o) (hx : xs[o]? = some (.int .u8 a)) (hy : ys[o]? = some (.int .u8 b))
    (hr : (Op.eqFields (d + 1) ⟨xs⟩ ⟨ys⟩ fs).run Try.prog w = .ok q w) : (Op.eqFields (d + 1) ⟨xs⟩ ⟨ys⟩ (f :: fs)).run Try.prog w = .ok (decide (a = b) && q) w := by
  rw [eqF_cons hn (by rw [ht, ho]; exact part_cell (Try.isAgg5 w) hx) (by rw [ht, ho]; exact part_cell (Try.isAgg5 w) hy) (by rw [ht]; exact eq_u8), hr]
  by_cases h : a = b <;> simp [h]
theorem eq_dep {w : World} {d : Nat} {a b e f a' b' e' f' : Int} : (Op.equalIn (d + 2) 106 (.agg ⟨[.int .i64 a, .int .i64 b, .int .i64 e, .int .u8 f]⟩) (.agg ⟨[.int .i64 a', .int .i64 b', .int .i64 e', .int .u8 f']⟩)).run Try.prog w = .ok (decide (a = a') && (decide (b = b') && (decide (e = e') && (decide (f = f') && true)))) w := by
  rw [run_equalIn_struct w (d + 1) 106 _ _ (by kernel_rfl) (by kernel_rfl)]
  simp only [Program.fieldsOf, Try.underlying106]
  exact eqF_int rfl rfl rfl rfl rfl (eqF_int rfl rfl rfl rfl rfl (eqF_int rfl rfl rfl rfl rfl (eqF_u8 rfl rfl rfl rfl rfl eqF_nil)))
theorem eq_bk {w : World} {d : Nat} {a b e a' b' e' : Int} : (Op.equalIn (d + 2) 71 (.agg ⟨[.int .i64 a, .int .u8 b, .int .i64 e]⟩) (.agg ⟨[.int .i64 a', .int .u8 b', .int .i64 e']⟩)).run Try.prog w = .ok (decide (a = a') && (decide (b = b') && (decide (e = e') && true))) w := by
  rw [run_equalIn_struct w (d + 1) 71 _ _ (by kernel_rfl) (by kernel_rfl)]
  simp only [Program.fieldsOf, Try.underlying71]
  exact eqF_int rfl rfl rfl rfl rfl (eqF_u8 rfl rfl rfl rfl rfl (eqF_int rfl rfl rfl rfl rfl eqF_nil))
section
variable {w : World} {N : Nat} {F : Fr} {H : Hp} {M : List Nat} {d : Option Tmp} {ty t' : TypeId} {pos : String} {af : Array Edge} {g : Option (Nat × Bool)} {x y : Operand} {a b e f a' b' e' f' : Int}
theorem oq_ne106 (hx : ev F x = some (.agg ⟨[.int .i64 a, .int .i64 b, .int .i64 e, .int .u8 f]⟩)) (hy : ev F y = some (.agg ⟨[.int .i64 a', .int .i64 b', .int .i64 e', .int .u8 f']⟩)) :
    OQ (cxM M w N) ⟨d, .binOp .neq 106 x y t', ty, pos, af, g⟩ F H (.bool (!decide (a = a' ∧ b = b' ∧ e = e' ∧ f = f'))) := oq_neS (by kernel_rfl) (fun w => by rw [eq_dep (d := 9998)]; congr 1; rw [Bool.eq_iff_iff]; simp) hx hy
theorem oq_ne71 (hx : ev F x = some (.agg ⟨[.int .i64 a, .int .u8 b, .int .i64 e]⟩)) (hy : ev F y = some (.agg ⟨[.int .i64 a', .int .u8 b', .int .i64 e']⟩)) :
    OQ (cxM M w N) ⟨d, .binOp .neq 71 x y t', ty, pos, af, g⟩ F H (.bool (!decide (a = a' ∧ b = b' ∧ e = e'))) := oq_neS (by kernel_rfl) (fun w => by rw [eq_bk (d := 9998)]; congr 1; rw [Bool.eq_iff_iff]; simp) hx hy
theorem oq_ne106F (hx : ev F x = some (.agg ⟨[.int .i64 a, .int .i64 b, .int .i64 e, .int .u8 f]⟩)) (hy : ev F y = some (.agg ⟨[.int .i64 a, .int .i64 b, .int .i64 e, .int .u8 f]⟩)) : OQ (cxM M w N) ⟨d, .binOp .neq 106 x y t', ty, pos, af, g⟩ F H (.bool false) := (oq_ne106 hx hy).as (by simp)
theorem oq_ne71F (hx : ev F x = some (.agg ⟨[.int .i64 a, .int .u8 b, .int .i64 e]⟩)) (hy : ev F y = some (.agg ⟨[.int .i64 a, .int .u8 b, .int .i64 e]⟩)) : OQ (cxM M w N) ⟨d, .binOp .neq 71 x y t', ty, pos, af, g⟩ F H (.bool false) := (oq_ne71 hx hy).as (by simp)
end
end Go.Proofs.Ytmlmgipngbndgaa
/- Seats are given as they have to be. -/
namespace Go.Proofs.Ytmlmgipngbndgaa
open Go.RowKit
attribute [local irreducible] OQ OS OX Rd T TL GX GL AL AI RV wpG SAny Calls
set_option maxRecDepth 100000
set_option maxHeartbeats 2000000
set_option linter.unusedVariables false
set_option linter.unusedSimpArgs false

theorem crewSeats_T (o : Off) (A : Option Addr) (cf : Nat) (B : Option Addr) (cb : Nat) (w : World) (hA : RdS w 4 A o.fl.length (o.fl.map depCells)) (hB : RdS w 3 B o.bk.length (o.bk.map bkCells)) (hnA : A = none → o.fl.length = 0 ∧ cf = 0) (hnB : B = none → o.bk.length = 0 ∧ cb = 0) (hu : ∀ d ∈ o.fl, 0 ≤ d.state) (d : Deal) (hk : 0 ≤ d.kind ∧ d.kind ≤ 255) : Calls Try.prog 17 #[.agg ⟨offCells o A cf B cb⟩, .agg ⟨dealCells d⟩] w fun e w' => e = .returned (.bool true) ∧ Ext w w' := by
  refine enterQ (c := cx w 205) Try.func17 rfl rfl rfl rfl ?_
  refine t_cut (ι := Nat × Nat) (fun z => [(2, .pointer (some ⟨z.1, 0, none⟩)), (3, .pointer (some ⟨z.2, 0, none⟩))]) (fun z => (z.2, dealCells d, some (63, 5, 1)) :: (z.1, offCells o A cf B cb, some (25, 7, 1)) :: []) (fun _ => True) ?_ ?_
  · repeat' (first | ((with_reducible apply oq_id); first | (apply oq_fn; exact rfl; first | exact trivial | (refine ⟨?_, ?_⟩ <;> omega) | (refine ⟨?_, ?_, ?_⟩ <;> omega) | omega | skip)) | ((with_reducible apply tl_id); first | ((with_reducible apply tl_nil)) | ((with_reducible apply u_q); exact rfl; exact rfl; exact rfl; exact rfl) | ((with_reducible apply u_s); exact rfl; exact rfl; exact rfl)) | ((with_reducible apply os_id); first | ((with_reducible apply os_x); exact rfl)) | ((with_reducible apply ox_id); first | ((with_reducible apply ox_boxAgg); exact rfl; intro _)) | ((with_reducible apply t_id); first | (apply t_region; kernel_rfl)))
    all_goals exact ⟨rfl, (_, _), trivial, by (repeat (first | exact FrSub.nil | (apply FrSub.cons; exact rfl))), by (repeat (first | exact HpSub.refl _ | (apply HpSub.consE; (repeat (first | exact P0 | apply P1 | apply PA)); exact rfl) | exact HpSub.nil))⟩
  rintro ⟨b2, b3⟩ -
  simp only
  refine t_cut (ι := Unit) (fun _ => [(2, .pointer (some ⟨b2, 0, none⟩)), (3, .pointer (some ⟨b3, 0, none⟩)), (5, .bool true)]) (fun _ => (b3, dealCells d, some (63, 5, 1)) :: (b2, offCells o A cf B cb, some (25, 7, 1)) :: []) (fun _ => True) ?_ ?_
  · repeat' (first | ((with_reducible apply oq_id); first | (apply oq_fn; exact rfl; first | exact trivial | (refine ⟨?_, ?_⟩ <;> omega) | (refine ⟨?_, ?_, ?_⟩ <;> omega) | omega | skip) | ((with_reducible apply oq_call (k := 53) (hc := Try.call53)); exact rfl; exact rfl; exact fun D w1 hw1 => alive_calls w1)) | ((with_reducible apply tl_id); first | ((with_reducible apply tl_nil)) | ((with_reducible apply u_q); exact rfl; exact rfl; exact rfl; exact rfl)) | ((with_reducible apply t_id); first | (apply t_region; kernel_rfl)))
    all_goals exact ⟨rfl, (), trivial, by (repeat (first | exact FrSub.nil | (apply FrSub.cons; exact rfl))), by (repeat (first | exact HpSub.refl _ | (apply HpSub.consE; (repeat (first | exact P0 | apply P1 | apply PA)); exact rfl) | exact HpSub.nil))⟩
  rintro ⟨⟩ -
  have HG := fun w1 => great_calls o A cf B cb w1
  by_cases hg : 20 < o.fl.length ∨ 150 < o.bk.length
  · rw [decide_eq_true hg] at HG
    repeat' (first | ((with_reducible apply oq_id); first | (apply oq_fn; exact rfl; first | exact trivial | (refine ⟨?_, ?_⟩ <;> omega) | (refine ⟨?_, ?_, ?_⟩ <;> omega) | omega | skip) | ((with_reducible apply oq_loadAgg); exact rfl; exact rfl) | ((with_reducible apply oq_call (k := 19) (hc := Try.call19)); exact rfl; exact rfl; exact fun D w1 hw1 => HG w1)) | ((with_reducible apply tl_id); first | ((with_reducible apply tl_nil)) | ((with_reducible apply u_q); exact rfl; exact rfl; exact rfl; exact rfl) | ((with_reducible apply u_skip); exact rfl; exact rfl; exact rfl)) | ((with_reducible apply rd_id); first | (apply Rd.own; (repeat (first | exact P0 | apply P1 | apply PA)); exact rfl; done)) | ((with_reducible apply t_id); first | ((with_reducible apply t_seq)) | (apply t_region; kernel_rfl) | ((with_reducible apply t_condT); exact rfl) | ((with_reducible apply t_ret))) | with_reducible apply q_thenN | with_reducible apply q_thenR | exact Rdn.zero | apply Rdn.succ | ((with_reducible apply end_ret)) | exact rvs_nil | ((with_reducible apply rvs_cons)) | ((with_reducible apply rv_tmp); exact rfl))
    all_goals rfl
  rw [decide_eq_false hg] at HG
  have hn : o.fl.length ≤ 1000000 := by omega
  have hn2 : o.bk.length ≤ 1000000 := by omega
  refine t_cut (ι := Unit) (fun _ => [(2, .pointer (some ⟨b2, 0, none⟩)), (3, .pointer (some ⟨b3, 0, none⟩)), (5, .bool true)]) (fun _ => (b3, dealCells d, some (63, 5, 1)) :: (b2, offCells o A cf B cb, some (25, 7, 1)) :: []) (fun _ => True) ?_ ?_
  · repeat' (first | ((with_reducible apply oq_id); first | (apply oq_fn; exact rfl; first | exact trivial | (refine ⟨?_, ?_⟩ <;> omega) | (refine ⟨?_, ?_, ?_⟩ <;> omega) | omega | skip) | ((with_reducible apply oq_loadAgg); exact rfl; exact rfl) | ((with_reducible apply oq_call (k := 19) (hc := Try.call19)); exact rfl; exact rfl; exact fun D w1 hw1 => HG w1)) | ((with_reducible apply tl_id); first | ((with_reducible apply tl_nil)) | ((with_reducible apply u_q); exact rfl; exact rfl; exact rfl; exact rfl)) | ((with_reducible apply rd_id); first | (apply Rd.own; (repeat (first | exact P0 | apply P1 | apply PA)); exact rfl; done)) | ((with_reducible apply t_id); first | ((with_reducible apply t_seq)) | (apply t_region; kernel_rfl) | ((with_reducible apply t_condF); exact rfl) | ((with_reducible apply t_skip))) | with_reducible apply q_thenN | exact Rdn.zero | apply Rdn.succ)
    all_goals exact ⟨rfl, (), trivial, by (repeat (first | exact FrSub.nil | (apply FrSub.cons; exact rfl))), by (repeat (first | exact HpSub.refl _ | (apply HpSub.consE; (repeat (first | exact P0 | apply P1 | apply PA)); exact rfl) | exact HpSub.nil))⟩
  rintro ⟨⟩ -
  obtain ⟨p, hp⟩ : ∃ p, doR o d = p := ⟨_, rfl⟩
  obtain ⟨e, he⟩ : ∃ e, doE o d = e := ⟨_, rfl⟩
  refine t_cut (ι := Nat × Option (Nat × Nat) × Option (Nat × Nat)) (fun z => [(2, .pointer (some ⟨b2, 0, none⟩)), (5, .bool true), (6, .pointer (some ⟨z.1, 0, none⟩)), (7, .int .i64 e)]) (fun z => (z.1, offCells p (clA z.2.1) (clC z.2.1) (clA z.2.2) (clC z.2.2), some (25, 7, 1)) :: (flH p z.2.1 ++ (bkH p z.2.2 ++ ((b2, offCells o A cf B cb, some (25, 7, 1)) :: [])))) (fun z => (z.2.1 = none → p.fl.length = 0) ∧ (z.2.2 = none → p.bk.length = 0)) ?_ ?_
  · repeat' (first | ((with_reducible apply oq_id); first | (apply oq_fn; exact rfl; first | exact trivial | (refine ⟨?_, ?_⟩ <;> omega) | (refine ⟨?_, ?_, ?_⟩ <;> omega) | omega | skip) | ((with_reducible apply oq_loadAgg); exact rfl; exact rfl)) | ((with_reducible apply tl_id); first | ((with_reducible apply tl_nil)) | ((with_reducible apply u_s); exact rfl; exact rfl; exact rfl; (with_reducible apply os_callF (PV := AnyV (doR o d) (doE o d)) (k := 37) (hc := Try.call37)); exact rfl; exact rfl; exact fun D w1 hw1 => cDo_T o A cf B cb w1 (hA.ext hw1.ext.ext) (hB.ext hw1.ext.ext) hnA hnB hu hn hn2 d hk; rintro v H' ⟨x1, y1, hx1, hy1, rfl, rfl⟩; (simp only [List.append_assoc])) | ((with_reducible apply u_q); exact rfl; exact rfl; exact rfl; exact rfl) | ((with_reducible apply u_s0); exact rfl; exact rfl) | ((with_reducible apply u_s); exact rfl; exact rfl; exact rfl)) | ((with_reducible apply os_id); first | ((with_reducible apply os_x); exact rfl) | ((with_reducible apply os_storeAgg); exact rfl; exact rfl; exact rfl; exact rfl; exact rfl)) | ((with_reducible apply ox_id); first | ((with_reducible apply ox_alloc); exact rfl; intro _)) | ((with_reducible apply rd_id); first | (apply Rd.own; (repeat (first | exact P0 | apply P1 | apply PA)); exact rfl; done)) | ((with_reducible apply t_id); first | (apply t_region; kernel_rfl)) | exact P0 | exact Rdn.zero | apply Rdn.succ | ((with_reducible apply Norm.nil); exact rfl) | ((with_reducible apply Norm.cons); exact rfl) | exact Nat.le_of_ble_eq_true rfl)
    all_goals (rw [hp] at hx1 hy1)
    all_goals (refine ⟨by trivial, (_, x1, y1), ⟨hx1, hy1⟩, by (simp only [he]; (repeat (first | exact FrSub.nil | (apply FrSub.cons; exact rfl)))), ?_⟩)
    all_goals (simp only [hp]; (repeat (first | exact HpSub.refl _ | (apply HpSub.consE; (repeat (first | exact P0 | apply P1 | apply PA)); exact rfl) | apply HpSub.appC | apply HpSub.skipX | apply HpSub.skipApp | exact HpSub.nil)))
  rintro ⟨b6, x1, y1⟩ ⟨hx1, hy1⟩
  simp only at hx1 hy1 ⊢
  by_cases he0 : e = 0
  rotate_left
  · repeat' (first | ((with_reducible apply oq_id); first | ((with_reducible apply oq_neqT); exact rfl; exact rfl; omega) | (apply oq_fn; exact rfl; first | exact trivial | (refine ⟨?_, ?_⟩ <;> omega) | (refine ⟨?_, ?_, ?_⟩ <;> omega) | omega | skip)) | ((with_reducible apply tl_id); first | ((with_reducible apply tl_nil)) | ((with_reducible apply u_q); exact rfl; exact rfl; exact rfl; exact rfl)) | ((with_reducible apply t_id); first | ((with_reducible apply t_seq)) | (apply t_region; kernel_rfl) | ((with_reducible apply t_condT); exact rfl) | ((with_reducible apply t_ret))) | with_reducible apply q_thenN | with_reducible apply q_thenR | ((with_reducible apply end_ret)) | exact rvs_nil | ((with_reducible apply rvs_cons)) | ((with_reducible apply rv_tmp); exact rfl))
    all_goals rfl
  subst he0
  have hv : officeB o = true := by
    cases hv : officeB o with
    | true => rfl
    | false => unfold doE at he; rw [hv] at he; cases he
  have hO := okO hu hv
  have hE : doneE o d = 0 := by unfold doE at he; rw [if_pos hv] at he; exact he
  have hp2 : p = doneO o d := by rw [← hp]; unfold doR; rw [if_pos ⟨hv, hE⟩]
  have hP : OkO p := by rw [hp2]; exact done_okO hO d hE
  have hvp : officeB p = true := by rw [hp2]; exact done_valid hO d hE
  have hS : Stp o p d := by rw [hp2]; exact done_stp hO hE
  have hSea : SeaS o p := by rw [hp2]; exact done_sea hO hE
  have hup : ∀ d ∈ p.fl, 0 ≤ d.state := fun d hd => (hP.deps d hd).2
  have hnf := hP.nf
  have hnb := hP.nb
  have hnp : p.fl.length ≤ 1000000 := by omega
  have hnp2 : p.bk.length ≤ 1000000 := by omega
  clear hp hp2 HG
  refine t_cut (ι := Unit) (fun _ => [(2, .pointer (some ⟨b2, 0, none⟩)), (5, .bool true), (6, .pointer (some ⟨b6, 0, none⟩))]) (fun _ => (b6, offCells p (clA x1) (clC x1) (clA y1) (clC y1), some (25, 7, 1)) :: (flH p x1 ++ (bkH p y1 ++ ((b2, offCells o A cf B cb, some (25, 7, 1)) :: [])))) (fun _ => True) ?_ ?_
  · repeat' (first | ((with_reducible apply oq_id); first | ((with_reducible apply oq_neqF); exact rfl; exact rfl; omega) | (apply oq_fn; exact rfl; first | exact trivial | (refine ⟨?_, ?_⟩ <;> omega) | (refine ⟨?_, ?_, ?_⟩ <;> omega) | omega | skip)) | ((with_reducible apply tl_id); first | ((with_reducible apply tl_nil)) | ((with_reducible apply u_q); exact rfl; exact rfl; exact rfl; exact rfl)) | ((with_reducible apply t_id); first | ((with_reducible apply t_seq)) | (apply t_region; kernel_rfl) | ((with_reducible apply t_condF); exact rfl) | ((with_reducible apply t_skip))) | with_reducible apply q_thenN)
    all_goals exact ⟨rfl, (), trivial, by (repeat (first | exact FrSub.nil | (apply FrSub.cons; exact rfl))), by (repeat (first | exact HpSub.refl _ | (apply HpSub.consE; (repeat (first | exact P0 | apply P1 | apply PA)); exact rfl) | apply HpSub.appC | apply HpSub.skipX | apply HpSub.skipApp | exact HpSub.nil))⟩
  rintro ⟨⟩ -
  repeat' (first | ((with_reducible apply oq_id); first | (apply oq_fn; exact rfl; first | exact trivial | (refine ⟨?_, ?_⟩ <;> omega) | (refine ⟨?_, ?_, ?_⟩ <;> omega) | omega | skip) | ((with_reducible apply oq_load); exact rfl; exact rfl)) | ((with_reducible apply tl_id); first | ((with_reducible apply tl_nil)) | ((with_reducible apply u_q); exact rfl; exact rfl; exact rfl; exact rfl)) | ((with_reducible apply rd_id); first | (apply Rd.own; (repeat (first | exact P0 | apply P1 | apply PA)); exact rfl; done)) | ((with_reducible apply t_id); first | ((with_reducible apply t_seq)) | (apply t_region; kernel_rfl) | ((with_reducible apply t_block))) | with_reducible apply q_thenN)
  apply t_loopK (GH := []) (ι := Nat) [2, 5, 6, 42, 43, 204] (fun z => [(44, .int .i64 (z : Nat))]) (fun z => (b6, offCells p (clA x1) (clC x1) (clA y1) (clC y1), some (25, 7, 1)) :: (flH p x1 ++ (bkH p y1 ++ ((b2, offCells o A cf B cb, some (25, 7, 1)) :: [])))) (fun z => z ≤ p.fl.length) (fun z => p.fl.length - z) (0)
  (repeat (first | exact KeepF.nil | (apply KeepF.cons; exact rfl) | apply KeepF.skip))
  (repeat (first | exact FrSub.nil | (apply FrSub.cons; exact rfl)))
  (simp only [List.append_nil]; (repeat (first | exact HpSub.refl _ | (apply HpSub.consE; (repeat (first | exact P0 | apply P1 | apply PA)); exact rfl) | apply HpSub.appC | apply HpSub.skipX | apply HpSub.skipApp | exact HpSub.nil)))
  · exact Nat.zero_le _
  rintro i hil
  try simp only [List.cons_append, List.nil_append]
  simp only [List.append_nil]
  by_cases hlt : i < p.fl.length
  · obtain ⟨f, hf⟩ : ∃ f, p.fl[i]? = some f := ⟨_, List.getElem?_eq_getElem hlt⟩
    have hfd := hP.dep hf
    refine t_cut (ι := Unit) (fun _ => [(2, .pointer (some ⟨b2, 0, none⟩)), (5, .bool true), (6, .pointer (some ⟨b6, 0, none⟩)), (42, .slice (clA x1) p.fl.length (clC x1)), (43, .int .i64 (p.fl.length : Nat)), (44, .int .i64 (i : Nat)), (45, .bool true)]) (fun _ => (b6, offCells p (clA x1) (clC x1) (clA y1) (clC y1), some (25, 7, 1)) :: (flH p x1 ++ (bkH p y1 ++ ((b2, offCells o A cf B cb, some (25, 7, 1)) :: [])))) (fun _ => True) ?_ ?_
    · repeat' (first | ((with_reducible apply oq_id); first | ((with_reducible apply oq_lssT); exact rfl; exact rfl; omega)) | ((with_reducible apply tl_id); first | ((with_reducible apply tl_nil)) | ((with_reducible apply u_q); exact rfl; exact rfl; exact rfl; exact rfl)) | ((with_reducible apply t_id); first | (apply t_region; kernel_rfl)))
      all_goals exact ⟨rfl, (), trivial, by (repeat (first | exact FrSub.nil | (apply FrSub.cons; exact rfl))), by (repeat (first | exact HpSub.refl _ | (apply HpSub.consE; (repeat (first | exact P0 | apply P1 | apply PA)); exact rfl) | apply HpSub.appC | apply HpSub.skipX | apply HpSub.skipApp | exact HpSub.nil))⟩
    rintro ⟨⟩ -
    refine t_seq (t_condT rfl (t_skip (q_thenN ?_)))
    refine t_seq (t_block ?_)
    refine t_cut (ι := Nat) (fun z => [(2, .pointer (some ⟨b2, 0, none⟩)), (5, .bool true), (6, .pointer (some ⟨b6, 0, none⟩)), (8, .int .i64 (i : Nat)), (9, .pointer (some ⟨z, 0, none⟩)), (42, .slice (clA x1) p.fl.length (clC x1)), (43, .int .i64 (p.fl.length : Nat)), (44, .int .i64 (i : Nat))]) (fun z => (z, depCells f, some (106, 4, 1)) :: (b6, offCells p (clA x1) (clC x1) (clA y1) (clC y1), some (25, 7, 1)) :: (flH p x1 ++ (bkH p y1 ++ ((b2, offCells o A cf B cb, some (25, 7, 1)) :: [])))) (fun _ => True) ?_ ?_
    · obtain ⟨r0, r1, r2, r3⟩ := dep_at hf
      rcases x1 with _ | ⟨gx, cx⟩
      · have := hx1 rfl
        omega
      simp only [clA_some, clC_some, clH_some, List.cons_append, List.nil_append]
      repeat' (first | ((with_reducible apply oq_id); first | (focus ((with_reducible apply oq_indexAddrN); exact rfl; exact rfl; exact rfl; exact rfl; omega)) | (apply oq_fn; exact rfl; first | exact trivial | (refine ⟨?_, ?_⟩ <;> omega) | (refine ⟨?_, ?_, ?_⟩ <;> omega) | omega | skip) | ((with_reducible apply oq_loadAgg); exact rfl; exact rfl)) | ((with_reducible apply tl_id); first | ((with_reducible apply tl_nil)) | ((with_reducible apply u_q); exact rfl; exact rfl; exact rfl; exact rfl) | ((with_reducible apply u_s0); exact rfl; exact rfl) | ((with_reducible apply u_s); exact rfl; exact rfl; exact rfl)) | ((with_reducible apply os_id); first | ((with_reducible apply os_x); exact rfl) | ((with_reducible apply os_storeAgg); exact rfl; exact rfl; exact rfl; exact rfl; exact rfl)) | ((with_reducible apply ox_id); first | ((with_reducible apply ox_alloc); exact rfl; intro _)) | ((with_reducible apply rd_id); first | (apply Rd.own; (repeat (first | exact P0 | apply P1 | apply PA)); first | exact q0 | exact q1 | exact q2 | exact r0 | exact r1 | exact r2 | exact r3; done)) | ((with_reducible apply t_id); first | (apply t_region; kernel_rfl)) | exact P0 | exact Rdn.zero | apply Rdn.succ | ((with_reducible apply Norm.nil); exact rfl) | ((with_reducible apply Norm.cons); exact rfl) | exact Nat.le_of_ble_eq_true rfl)
      all_goals exact ⟨rfl, _, trivial, by (repeat (first | exact FrSub.nil | (apply FrSub.cons; exact rfl))), by (repeat (first | exact HpSub.refl _ | (apply HpSub.consE; (repeat (first | exact P0 | apply P1 | apply PA)); exact rfl) | apply HpSub.appC | apply HpSub.skipX | apply HpSub.skipApp | exact HpSub.nil))⟩
    rintro b9 -
    have hct := hP.counts (i : Int)
    obtain ⟨hfu1, hfu2⟩ := hP.full hf
    have hcs : countsS p (i : Int) = (manyV p.bk i 1, manyV p.bk i 2, manyV p.bk i 3, manyV p.bk i 4, 0) := by
      unfold countsS
      rw [if_pos hvp, if_pos (by omega)]
    have hm1 := many_pos p.bk i 1
    have hm2 := many_pos p.bk i 2
    have hm3 := many_pos p.bk i 3
    have hm4 := many_pos p.bk i 4
    have hnn := nTo_in p.bk i p.bk.length (Nat.le_refl _)
    have hfo : o.fl.length ≤ i ∨ ∃ h : i < o.fl.length, ∃ e0, o.fl[i]? = some e0 ∧ (e0.state = 0 ∨ (¬ e0.state = 0 ∧ f = e0)) := by
      by_cases h : i < o.fl.length
      · obtain ⟨e0, he0⟩ : ∃ e0, o.fl[i]? = some e0 := ⟨_, List.getElem?_eq_getElem h⟩
        obtain ⟨y, hy, _, h3⟩ := hS.fl i e0 he0
        rw [hf] at hy
        cases hy
        refine .inr ⟨h, e0, he0, ?_⟩
        by_cases h0 : e0.state = 0
        · exact .inl h0
        · exact .inr ⟨h0, h3 h0⟩
      · exact .inl (by omega)
    obtain ⟨m1, hm1e⟩ : ∃ m, manyV p.bk i 1 = m := ⟨_, rfl⟩
    obtain ⟨m2, hm2e⟩ : ∃ m, manyV p.bk i 2 = m := ⟨_, rfl⟩
    obtain ⟨m3, hm3e⟩ : ∃ m, manyV p.bk i 3 = m := ⟨_, rfl⟩
    obtain ⟨m4, hm4e⟩ : ∃ m, manyV p.bk i 4 = m := ⟨_, rfl⟩
    simp only [hm1e, hm2e, hm3e, hm4e] at hct hfu1 hfu2 hcs hm1 hm2 hm3 hm4
    have HC := fun A cf B cb w1 hA hB hnA hnB => counts_T p A cf B cb w1 hA hB hnA hnB hup hnp hnp2 (i : Int)
    simp only [hcs] at HC
    repeat' (first | ((with_reducible apply oq_id); first | (apply oq_fn; exact rfl; first | exact trivial | (refine ⟨?_, ?_⟩ <;> omega) | (refine ⟨?_, ?_, ?_⟩ <;> omega) | omega | skip) | ((with_reducible apply oq_load); exact rfl; exact rfl) | ((with_reducible apply oq_loadAgg); exact rfl; exact rfl) | ((with_reducible apply oq_call (k := 20) (hc := Try.call20)); exact rfl; exact rfl; exact fun D w1 hw1 => HC (clA x1) (clC x1) (clA y1) (clC y1) w1 (clH_rows (x := x1) (hw1.sub (show HpSub _ (clH 106 4 (p.fl.map depCells).flatten x1) from (by repeat (first | exact HpSub.refl _ | exact HpSub.appLeft | apply HpSub.skipX | apply HpSub.skipApp)))) (fun _ => rfl) rfl hx1) (clH_rows (x := y1) (hw1.sub (show HpSub _ (clH 71 3 (p.bk.map bkCells).flatten y1) from (by repeat (first | exact HpSub.refl _ | exact HpSub.appLeft | apply HpSub.skipX | apply HpSub.skipApp)))) (fun _ => rfl) rfl hy1) (nilA hx1) (nilA hy1))) | ((with_reducible apply tl_id); first | ((with_reducible apply tl_nil)) | ((with_reducible apply u_q); exact rfl; exact rfl; exact rfl; exact rfl)) | ((with_reducible apply rd_id); first | (apply Rd.own; (repeat (first | exact P0 | apply P1 | apply PA)); exact rfl; done)) | ((with_reducible apply t_id); first | ((with_reducible apply t_seq)) | (apply t_region; kernel_rfl) | ((with_reducible apply t_block))) | with_reducible apply q_thenN | exact Rdn.zero | apply Rdn.succ)
    apply t_loopK (GH := []) (ι := Nat) [2, 4, 5, 6, 8, 9, 10, 11, 12, 13, 14, 18, 19, 20, 21, 22, 23, 42, 43, 44, 45, 46, 47, 48, 49, 50, 51, 52, 53, 54, 55, 56, 57, 58, 59, 60, 72, 73, 74, 75, 76, 77, 78, 79, 80, 81, 82, 83, 84, 85, 86, 87, 88, 89, 90, 91, 92, 93, 94, 95, 96, 97, 98, 99, 100, 101, 102, 103, 104, 105, 106, 107, 108, 109, 110, 111, 112, 113, 114, 115, 116, 117, 118, 119, 120, 121, 122, 123, 124, 125, 126, 127, 128, 129, 130, 131, 132, 133, 134, 135, 136, 137, 138, 139, 140, 141, 142, 143, 144, 145, 146, 147, 148, 149, 150, 151, 152, 153, 154, 155, 156, 157, 158, 159, 160, 161, 162, 163, 164, 165, 166, 167, 168, 169, 170, 171, 172, 173, 174, 175, 176, 177, 178, 179, 180, 181, 182, 183, 184, 185, 186, 187, 188, 189, 190, 191, 192, 193, 194, 195, 196, 197, 198, 199, 200, 201, 202, 203, 204] (fun z => [(15, .int .i64 (nTo p.bk i z)), (61, .int .i64 (z : Nat))]) (fun z => (b9, depCells f, some (106, 4, 1)) :: (b6, offCells p (clA x1) (clC x1) (clA y1) (clC y1), some (25, 7, 1)) :: (flH p x1 ++ (bkH p y1 ++ ((b2, offCells o A cf B cb, some (25, 7, 1)) :: [])))) (fun z => z ≤ p.bk.length) (fun z => p.bk.length - z) (0)
    (repeat (first | exact KeepF.nil | (apply KeepF.cons; exact rfl) | apply KeepF.skip))
    (repeat (first | exact FrSub.nil | (apply FrSub.cons; exact rfl)))
    (simp only [List.append_nil]; (repeat (first | exact HpSub.refl _ | (apply HpSub.consE; (repeat (first | exact P0 | apply P1 | apply PA)); exact rfl) | apply HpSub.appC | apply HpSub.skipX | apply HpSub.skipApp | exact HpSub.nil)))
    · exact Nat.zero_le _
    rintro k hkl
    try simp only [List.cons_append, List.nil_append]
    simp only [List.append_nil]
    have hnin := nTo_in p.bk i k hkl
    by_cases hlt : k < p.bk.length
    · obtain ⟨x, hx⟩ : ∃ x, p.bk[k]? = some x := ⟨_, List.getElem?_eq_getElem hlt⟩
      have hsc := nTo_succ hx (i : Int)
      unfold cF at hsc
      obtain ⟨xf, xs, xk⟩ := x
      obtain ⟨q0, q1, q2⟩ := bk_at hx
      simp only at hsc q0 q1 q2
      rcases y1 with _ | ⟨gy, cy⟩
      · have := hy1 rfl
        omega
      simp only [clA_some, clC_some, clH_some, List.cons_append, List.nil_append]
      by_cases hxi : xf = (i : Int)
      · rw [if_pos hxi] at hsc
        repeat' (first | ((with_reducible apply oq_id); first | (focus ((with_reducible apply oq_indexAddrN); exact rfl; exact rfl; exact rfl; exact rfl; omega)) | ((with_reducible apply oq_lssT); exact rfl; exact rfl; omega) | ((with_reducible apply oq_eqlT); exact rfl; exact rfl; omega) | (apply oq_fn; exact rfl; first | exact trivial | (refine ⟨?_, ?_⟩ <;> omega) | (refine ⟨?_, ?_, ?_⟩ <;> omega) | omega | skip) | ((with_reducible apply oq_load); exact rfl; exact rfl) | ((with_reducible apply oq_loadAgg); exact rfl; exact rfl)) | ((with_reducible apply tl_id); first | ((with_reducible apply tl_nil)) | ((with_reducible apply u_q); exact rfl; exact rfl; exact rfl; exact rfl) | ((with_reducible apply u_s0); exact rfl; exact rfl) | ((with_reducible apply u_s); exact rfl; exact rfl; exact rfl)) | ((with_reducible apply os_id); first | ((with_reducible apply os_x); exact rfl) | ((with_reducible apply os_storeAgg); exact rfl; exact rfl; exact rfl; exact rfl; exact rfl)) | ((with_reducible apply ox_id); first | ((with_reducible apply ox_alloc); exact rfl; intro _)) | ((with_reducible apply rd_id); first | (apply Rd.own; (repeat (first | exact P0 | apply P1 | apply PA)); first | exact q0 | exact q1 | exact q2 | exact r0 | exact r1 | exact r2 | exact r3; done) | (apply Rd.own; (repeat (first | exact P0 | apply P1 | apply PA)); exact rfl; done)) | ((with_reducible apply t_id); first | ((with_reducible apply t_seq)) | (apply t_region; kernel_rfl) | ((with_reducible apply t_condT); exact rfl) | ((with_reducible apply t_skip)) | ((with_reducible apply t_block))) | with_reducible apply q_thenN | with_reducible apply q_blockN | exact P0 | exact Rdn.zero | apply Rdn.succ | ((with_reducible apply Norm.nil); exact rfl) | ((with_reducible apply Norm.cons); exact rfl) | exact Nat.le_of_ble_eq_true rfl)
        all_goals (refine ⟨k + 1, (by omega), (by (try simp only); omega), ?_, ?_⟩)
        · try simp only [List.cons_append, List.nil_append]
          (repeat (first | exact FrSub.nil | (apply FrSub.cons; exact rfl) | (apply FrSub.consE; exact rfl; (first | (rw [hms]; done) | (congr 1; omega)))))
        · (repeat (first | exact HpSub.refl _ | (apply HpSub.consE; (repeat (first | exact P0 | apply P1 | apply PA)); exact rfl) | apply HpSub.appC | apply HpSub.skipX | apply HpSub.skipApp | exact HpSub.nil))
      · rw [if_neg hxi] at hsc
        repeat' (first | ((with_reducible apply oq_id); first | (focus ((with_reducible apply oq_indexAddrN); exact rfl; exact rfl; exact rfl; exact rfl; omega)) | ((with_reducible apply oq_lssT); exact rfl; exact rfl; omega) | ((with_reducible apply oq_eqlF); exact rfl; exact rfl; omega) | (apply oq_fn; exact rfl; first | exact trivial | (refine ⟨?_, ?_⟩ <;> omega) | (refine ⟨?_, ?_, ?_⟩ <;> omega) | omega | skip) | ((with_reducible apply oq_load); exact rfl; exact rfl) | ((with_reducible apply oq_loadAgg); exact rfl; exact rfl)) | ((with_reducible apply tl_id); first | ((with_reducible apply tl_nil)) | ((with_reducible apply u_q); exact rfl; exact rfl; exact rfl; exact rfl) | ((with_reducible apply u_s0); exact rfl; exact rfl) | ((with_reducible apply u_s); exact rfl; exact rfl; exact rfl)) | ((with_reducible apply os_id); first | ((with_reducible apply os_x); exact rfl) | ((with_reducible apply os_storeAgg); exact rfl; exact rfl; exact rfl; exact rfl; exact rfl)) | ((with_reducible apply ox_id); first | ((with_reducible apply ox_alloc); exact rfl; intro _)) | ((with_reducible apply rd_id); first | (apply Rd.own; (repeat (first | exact P0 | apply P1 | apply PA)); first | exact q0 | exact q1 | exact q2 | exact r0 | exact r1 | exact r2 | exact r3; done) | (apply Rd.own; (repeat (first | exact P0 | apply P1 | apply PA)); exact rfl; done)) | ((with_reducible apply t_id); first | ((with_reducible apply t_seq)) | (apply t_region; kernel_rfl) | ((with_reducible apply t_condT); exact rfl) | ((with_reducible apply t_condF); exact rfl) | ((with_reducible apply t_skip)) | ((with_reducible apply t_block))) | with_reducible apply q_thenN | with_reducible apply q_blockN | exact P0 | exact Rdn.zero | apply Rdn.succ | ((with_reducible apply Norm.nil); exact rfl) | ((with_reducible apply Norm.cons); exact rfl) | exact Nat.le_of_ble_eq_true rfl)
        all_goals (refine ⟨k + 1, (by omega), (by (try simp only); omega), ?_, ?_⟩)
        · try simp only [List.cons_append, List.nil_append]
          (repeat (first | exact FrSub.nil | (apply FrSub.cons; exact rfl) | (apply FrSub.consE; exact rfl; (first | (rw [hms]; done) | (congr 1; omega)))))
        · (repeat (first | exact HpSub.refl _ | (apply HpSub.consE; (repeat (first | exact P0 | apply P1 | apply PA)); exact rfl) | apply HpSub.appC | apply HpSub.skipX | apply HpSub.skipApp | exact HpSub.nil))
    · obtain rfl : k = p.bk.length := by omega
      rw [hct] at hnin
      refine t_cut (ι := Unit) (fun _ => [(2, .pointer (some ⟨b2, 0, none⟩)), (5, .bool true), (6, .pointer (some ⟨b6, 0, none⟩)), (8, .int .i64 (i : Nat)), (9, .pointer (some ⟨b9, 0, none⟩)), (42, .slice (clA x1) p.fl.length (clC x1)), (43, .int .i64 (p.fl.length : Nat)), (44, .int .i64 (i : Nat)), (10, .int .i64 m1), (11, .int .i64 m2), (12, .int .i64 m3), (13, .int .i64 m4), (14, .int .i64 0), (15, .int .i64 (nTo p.bk i p.bk.length)), (62, .bool false)]) (fun _ => (b9, depCells f, some (106, 4, 1)) :: (b6, offCells p (clA x1) (clC x1) (clA y1) (clC y1), some (25, 7, 1)) :: (flH p x1 ++ (bkH p y1 ++ ((b2, offCells o A cf B cb, some (25, 7, 1)) :: [])))) (fun _ => True) ?_ ?_
      · repeat' (first | ((with_reducible apply oq_id); first | ((with_reducible apply oq_lssF); exact rfl; exact rfl; omega)) | ((with_reducible apply tl_id); first | ((with_reducible apply tl_nil)) | ((with_reducible apply u_q); exact rfl; exact rfl; exact rfl; exact rfl)) | ((with_reducible apply t_id); first | (apply t_region; kernel_rfl)))
        all_goals exact ⟨rfl, (), trivial, by (repeat (first | exact FrSub.nil | (apply FrSub.cons; exact rfl))), by (repeat (first | exact HpSub.refl _ | (apply HpSub.consE; (repeat (first | exact P0 | apply P1 | apply PA)); exact rfl) | apply HpSub.appC | apply HpSub.skipX | apply HpSub.skipApp | exact HpSub.nil))⟩
      rintro ⟨⟩ -
      refine t_seq (t_condF rfl (t_exit ?_))
      repeat' (first | with_reducible apply q_thenE | with_reducible apply q_thenN | ((with_reducible apply q_blockE); exact rfl))
      refine t_cut (ι := Unit) (fun _ => [(2, .pointer (some ⟨b2, 0, none⟩)), (5, .bool true), (6, .pointer (some ⟨b6, 0, none⟩)), (8, .int .i64 (i : Nat)), (9, .pointer (some ⟨b9, 0, none⟩)), (42, .slice (clA x1) p.fl.length (clC x1)), (43, .int .i64 (p.fl.length : Nat)), (44, .int .i64 (i : Nat))]) (fun _ => (b9, depCells f, some (106, 4, 1)) :: (b6, offCells p (clA x1) (clC x1) (clA y1) (clC y1), some (25, 7, 1)) :: (flH p x1 ++ (bkH p y1 ++ ((b2, offCells o A cf B cb, some (25, 7, 1)) :: [])))) (fun _ => True) ?_ ?_
      · by_cases hms : m1 < f.seats
        all_goals (repeat' (first | ((with_reducible apply oq_id); first | ((with_reducible apply oq_lssT); exact rfl; exact rfl; omega) | ((with_reducible apply oq_lssF); exact rfl; exact rfl; omega) | ((with_reducible apply oq_neqF); exact rfl; exact rfl; omega) | ((with_reducible apply oq_gtrF); exact rfl; exact rfl; omega) | (apply oq_fn; exact rfl; first | exact trivial | (refine ⟨?_, ?_⟩ <;> omega) | (refine ⟨?_, ?_, ?_⟩ <;> omega) | omega | skip) | ((with_reducible apply oq_load); exact rfl; exact rfl)) | ((with_reducible apply tl_id); first | ((with_reducible apply tl_nil)) | ((with_reducible apply u_q); exact rfl; exact rfl; exact rfl; exact rfl) | ((with_reducible apply u_skip); exact rfl; exact rfl; exact rfl)) | ((with_reducible apply rd_id); first | (apply Rd.own; (repeat (first | exact P0 | apply P1 | apply PA)); exact rfl; done)) | ((with_reducible apply t_id); first | ((with_reducible apply t_seq)) | (apply t_region; kernel_rfl) | ((with_reducible apply t_condF); exact rfl) | ((with_reducible apply t_skip))) | with_reducible apply q_thenN))
        all_goals exact ⟨rfl, (), trivial, by (repeat (first | exact FrSub.nil | (apply FrSub.cons; exact rfl))), by (repeat (first | exact HpSub.refl _ | (apply HpSub.consE; (repeat (first | exact P0 | apply P1 | apply PA)); exact rfl) | apply HpSub.appC | apply HpSub.skipX | apply HpSub.skipApp | exact HpSub.nil))⟩
      rintro ⟨⟩ -
      repeat' (first | ((with_reducible apply oq_id); first | (apply oq_fn; exact rfl; first | exact trivial | (refine ⟨?_, ?_⟩ <;> omega) | (refine ⟨?_, ?_, ?_⟩ <;> omega) | omega | skip) | ((with_reducible apply oq_load); exact rfl; exact rfl)) | ((with_reducible apply tl_id); first | ((with_reducible apply tl_nil)) | ((with_reducible apply u_q); exact rfl; exact rfl; exact rfl; exact rfl)) | ((with_reducible apply rd_id); first | (apply Rd.own; (repeat (first | exact P0 | apply P1 | apply PA)); exact rfl; done)) | ((with_reducible apply t_id); first | ((with_reducible apply t_seq)) | (apply t_region; kernel_rfl) | ((with_reducible apply t_block))) | with_reducible apply q_thenN)
      apply t_loopK (GH := []) (ι := Nat × Bool) [2, 5, 6, 8, 9, 10, 11, 12, 13, 14, 15, 17, 42, 43, 44, 45, 46, 47, 48, 49, 50, 51, 52, 53, 54, 55, 56, 57, 58, 59, 60, 61, 62, 63, 64, 65, 66, 67, 68, 69, 70, 71, 72, 73, 74, 75, 76, 77, 78, 79, 80, 81, 82, 83, 84, 85, 86, 87, 88, 89, 90, 91, 92, 93, 94, 95, 96, 97, 98, 99, 100, 101, 102, 103, 104, 105, 180, 181, 182, 183, 184, 185, 186, 187, 188, 189, 190, 191, 192, 193, 194, 195, 196, 197, 198, 199, 200, 201, 202, 203, 204] (fun z => [(18, .bool z.2), (19, .int .i64 (manyTo p.bk i 2 z.1)), (106, .int .i64 (z.1 : Nat))]) (fun z => (b9, depCells f, some (106, 4, 1)) :: (b6, offCells p (clA x1) (clC x1) (clA y1) (clC y1), some (25, 7, 1)) :: (flH p x1 ++ (bkH p y1 ++ ((b2, offCells o A cf B cb, some (25, 7, 1)) :: [])))) (fun z => z.1 ≤ p.bk.length ∧ (z.2 = true ↔ 0 < manyTo p.bk i 2 z.1)) (fun z => p.bk.length - z.1) ((0, false))
      (repeat (first | exact KeepF.nil | (apply KeepF.cons; exact rfl) | apply KeepF.skip))
      (repeat (first | exact FrSub.nil | (apply FrSub.cons; exact rfl)))
      (simp only [List.append_nil]; (repeat (first | exact HpSub.refl _ | (apply HpSub.consE; (repeat (first | exact P0 | apply P1 | apply PA)); exact rfl) | apply HpSub.appC | apply HpSub.skipX | apply HpSub.skipApp | exact HpSub.nil)))
      · exact ⟨Nat.zero_le _, by simp [many_zero]⟩
      rintro ⟨k, wb⟩ ⟨hkl, hwb⟩
      simp only at hkl hwb
      try simp only [List.cons_append, List.nil_append]
      simp only [List.append_nil]
      have hmin := many_in p.bk i 2 k
      by_cases hlt : k < p.bk.length
      · obtain ⟨x, hx⟩ : ∃ x, p.bk[k]? = some x := ⟨_, List.getElem?_eq_getElem hlt⟩
        refine t_cut (ι := Unit) (fun _ => [(2, .pointer (some ⟨b2, 0, none⟩)), (5, .bool true), (6, .pointer (some ⟨b6, 0, none⟩)), (8, .int .i64 (i : Nat)), (9, .pointer (some ⟨b9, 0, none⟩)), (42, .slice (clA x1) p.fl.length (clC x1)), (43, .int .i64 (p.fl.length : Nat)), (44, .int .i64 (i : Nat)), (18, .bool wb), (19, .int .i64 (manyTo p.bk i 2 k)), (103, .pointer (some ⟨b6, 0 + 4, none⟩)), (104, .slice (clA y1) p.bk.length (clC y1)), (105, .int .i64 (p.bk.length : Nat)), (106, .int .i64 (k : Nat)), (107, .bool true)]) (fun _ => (b9, depCells f, some (106, 4, 1)) :: (b6, offCells p (clA x1) (clC x1) (clA y1) (clC y1), some (25, 7, 1)) :: (flH p x1 ++ (bkH p y1 ++ ((b2, offCells o A cf B cb, some (25, 7, 1)) :: [])))) (fun _ => True) ?_ ?_
        · repeat' (first | ((with_reducible apply oq_id); first | ((with_reducible apply oq_lssT); exact rfl; exact rfl; omega)) | ((with_reducible apply tl_id); first | ((with_reducible apply tl_nil)) | ((with_reducible apply u_q); exact rfl; exact rfl; exact rfl; exact rfl)) | ((with_reducible apply t_id); first | (apply t_region; kernel_rfl)))
          all_goals exact ⟨rfl, (), trivial, by (repeat (first | exact FrSub.nil | (apply FrSub.cons; exact rfl))), by (repeat (first | exact HpSub.refl _ | (apply HpSub.consE; (repeat (first | exact P0 | apply P1 | apply PA)); exact rfl) | apply HpSub.appC | apply HpSub.skipX | apply HpSub.skipApp | exact HpSub.nil))⟩
        rintro ⟨⟩ -
        refine t_seq (t_condT rfl (t_skip (q_thenN ?_)))
        refine t_seq (t_block ?_)
        refine t_cut (ι := Nat) (fun z => [(2, .pointer (some ⟨b2, 0, none⟩)), (5, .bool true), (6, .pointer (some ⟨b6, 0, none⟩)), (8, .int .i64 (i : Nat)), (9, .pointer (some ⟨b9, 0, none⟩)), (18, .bool wb), (19, .int .i64 (manyTo p.bk i 2 k)), (20, .int .i64 (k : Nat)), (21, .pointer (some ⟨z, 0, none⟩)), (42, .slice (clA x1) p.fl.length (clC x1)), (43, .int .i64 (p.fl.length : Nat)), (44, .int .i64 (i : Nat)), (103, .pointer (some ⟨b6, 0 + 4, none⟩)), (104, .slice (clA y1) p.bk.length (clC y1)), (105, .int .i64 (p.bk.length : Nat)), (106, .int .i64 (k : Nat))]) (fun z => (z, bkCells x, some (71, 3, 1)) :: (b9, depCells f, some (106, 4, 1)) :: (b6, offCells p (clA x1) (clC x1) (clA y1) (clC y1), some (25, 7, 1)) :: (flH p x1 ++ (bkH p y1 ++ ((b2, offCells o A cf B cb, some (25, 7, 1)) :: [])))) (fun _ => True) ?_ ?_
        · obtain ⟨q0, q1, q2⟩ := bk_at hx
          rcases y1 with _ | ⟨gy, cy⟩
          · have := hy1 rfl
            omega
          simp only [clA_some, clC_some, clH_some, List.cons_append, List.nil_append]
          repeat' (first | ((with_reducible apply oq_id); first | (focus ((with_reducible apply oq_indexAddrN); exact rfl; exact rfl; exact rfl; exact rfl; omega)) | (apply oq_fn; exact rfl; first | exact trivial | (refine ⟨?_, ?_⟩ <;> omega) | (refine ⟨?_, ?_, ?_⟩ <;> omega) | omega | skip) | ((with_reducible apply oq_loadAgg); exact rfl; exact rfl)) | ((with_reducible apply tl_id); first | ((with_reducible apply tl_nil)) | ((with_reducible apply u_q); exact rfl; exact rfl; exact rfl; exact rfl) | ((with_reducible apply u_s0); exact rfl; exact rfl) | ((with_reducible apply u_s); exact rfl; exact rfl; exact rfl)) | ((with_reducible apply os_id); first | ((with_reducible apply os_x); exact rfl) | ((with_reducible apply os_storeAgg); exact rfl; exact rfl; exact rfl; exact rfl; exact rfl)) | ((with_reducible apply ox_id); first | ((with_reducible apply ox_alloc); exact rfl; intro _)) | ((with_reducible apply rd_id); first | (apply Rd.own; (repeat (first | exact P0 | apply P1 | apply PA)); first | exact q0 | exact q1 | exact q2 | exact r0 | exact r1 | exact r2 | exact r3; done)) | ((with_reducible apply t_id); first | (apply t_region; kernel_rfl)) | exact P0 | exact Rdn.zero | apply Rdn.succ | ((with_reducible apply Norm.nil); exact rfl) | ((with_reducible apply Norm.cons); exact rfl) | exact Nat.le_of_ble_eq_true rfl)
          all_goals exact ⟨rfl, _, trivial, by (repeat (first | exact FrSub.nil | (apply FrSub.cons; exact rfl))), by (repeat (first | exact HpSub.refl _ | (apply HpSub.consE; (repeat (first | exact P0 | apply P1 | apply PA)); exact rfl) | apply HpSub.appC | apply HpSub.skipX | apply HpSub.skipApp | exact HpSub.nil))⟩
        rintro b21 -
        have hmY := fun h => many_yes (f := (i : Int)) (s := 2) hx h
        have hmN := fun h => many_no (f := (i : Int)) (s := 2) hx h
        by_cases hxi : x.flight = (i : Int)
        rotate_left
        · have hms := hmN (by unfold isB; simp [hxi])
          repeat' (first | ((with_reducible apply oq_id); first | ((with_reducible apply oq_neqT); exact rfl; exact rfl; omega) | (apply oq_fn; exact rfl; first | exact trivial | (refine ⟨?_, ?_⟩ <;> omega) | (refine ⟨?_, ?_, ?_⟩ <;> omega) | omega | skip) | ((with_reducible apply oq_load); exact rfl; exact rfl)) | ((with_reducible apply tl_id); first | ((with_reducible apply tl_nil)) | ((with_reducible apply u_q); exact rfl; exact rfl; exact rfl; exact rfl)) | ((with_reducible apply rd_id); first | (apply Rd.own; (repeat (first | exact P0 | apply P1 | apply PA)); exact rfl; done)) | ((with_reducible apply t_id); first | ((with_reducible apply t_seq)) | (apply t_region; kernel_rfl) | ((with_reducible apply t_condT); exact rfl) | ((with_reducible apply t_exit))) | with_reducible apply q_thenN | with_reducible apply q_thenE | ((with_reducible apply q_blockE); exact rfl))
          all_goals (refine ⟨(k + 1, wb), ⟨(by simp only; omega), (by rw [hms]; exact hwb)⟩, (by (try simp only); omega), ?_, ?_⟩)
          · try simp only [List.cons_append, List.nil_append]
            (repeat (first | exact FrSub.nil | (apply FrSub.cons; exact rfl) | (apply FrSub.consE; exact rfl; (first | (rw [hms]; done) | (congr 1; omega)))))
          · (repeat (first | exact HpSub.refl _ | (apply HpSub.consE; (repeat (first | exact P0 | apply P1 | apply PA)); exact rfl) | apply HpSub.appC | apply HpSub.skipX | apply HpSub.skipApp | exact HpSub.nil))
        by_cases h1 : x.state = 1
        · have hms := hmN (by unfold isB; simp [h1])
          have hts : turnS p (k : Int) = (0, 0) := by
            unfold turnS
            rw [if_pos hvp, if_pos (by omega), Int.toNat_natCast, hx]
            simp only
            rw [if_pos h1]
          have HT := fun A cf B cb w1 hA hB hnA hnB => turn_T p A cf B cb w1 hA hB hnA hnB hup hnp hnp2 (k : Int)
          simp only [hts] at HT
          have hok : wb = false ∨ (wb = true ∧ o.bk.length ≤ k) ∨ (wb = true ∧ ∃ hko : k < o.bk.length, ∀ x0, o.bk[k]? = some x0 → ¬ x0.state = 2) := by
            cases wb with
            | false => exact .inl rfl
            | true =>
              by_cases hko : k < o.bk.length
              · refine .inr (.inr ⟨rfl, hko, fun x0 hx0 h2 => ?_⟩)
                have := hSea.first k x0 x hx0 hx h1 h2
                rw [hxi] at this
                have := hwb.1 rfl
                omega
              · exact .inr (.inl ⟨rfl, by omega⟩)
          rcases hok with h2 | ⟨h2, h3⟩ | ⟨h2, hko, h3⟩
          rotate_left 2
          · obtain ⟨b1, o1, x0, rfl, _, hx0, c0, c1, c2⟩ := bk_read hB hko
            have h4 := h3 x0 hx0
            subst h2
            repeat' (first | ((with_reducible apply oq_id); first | (focus ((with_reducible apply oq_indexAddrN); exact rfl; exact rfl; exact rfl; exact rfl; omega)) | ((with_reducible apply oq_lssT); exact rfl; exact rfl; omega) | ((with_reducible apply oq_neqF); exact rfl; exact rfl; omega) | ((with_reducible apply oq_eqlT); exact rfl; exact rfl; omega) | ((with_reducible apply oq_eqlF); exact rfl; exact rfl; omega) | (apply oq_fn; exact rfl; first | exact trivial | (refine ⟨?_, ?_⟩ <;> omega) | (refine ⟨?_, ?_, ?_⟩ <;> omega) | omega | skip) | ((with_reducible apply oq_load); exact rfl; exact rfl) | ((with_reducible apply oq_loadAgg); exact rfl; exact rfl) | ((with_reducible apply oq_call (k := 24) (hc := Try.call24)); exact rfl; exact rfl; exact fun D w1 hw1 => HT (clA x1) (clC x1) (clA y1) (clC y1) w1 (clH_rows (x := x1) (hw1.sub (show HpSub _ (clH 106 4 (p.fl.map depCells).flatten x1) from (by repeat (first | exact HpSub.refl _ | exact HpSub.appLeft | apply HpSub.skipX | apply HpSub.skipApp)))) (fun _ => rfl) rfl hx1) (clH_rows (x := y1) (hw1.sub (show HpSub _ (clH 71 3 (p.bk.map bkCells).flatten y1) from (by repeat (first | exact HpSub.refl _ | exact HpSub.appLeft | apply HpSub.skipX | apply HpSub.skipApp)))) (fun _ => rfl) rfl hy1) (nilA hx1) (nilA hy1))) | ((with_reducible apply tl_id); first | ((with_reducible apply tl_nil)) | ((with_reducible apply u_q); exact rfl; exact rfl; exact rfl; exact rfl)) | ((with_reducible apply rd_id); first | (apply Rd.own; (repeat (first | exact P0 | apply P1 | apply PA)); exact rfl; done) | (apply Rd.old; (first | (with_reducible assumption) | exact c0 | exact c1 | exact c2 | exact c3 | exact c4 | exact c5 | exact c6 | exact c7 | exact c8 | exact d0 | exact d1 | exact d2 | exact d3 | exact d4 | exact d5); first | exact List.not_mem_nil | exact m0 | exact m1 | exact m2 | exact m3 | exact m4 | exact m5 | exact m6 | exact m7 | exact m8 | exact m9)) | ((with_reducible apply t_id); first | ((with_reducible apply t_seq)) | (apply t_region; kernel_rfl) | ((with_reducible apply t_condT); exact rfl) | ((with_reducible apply t_condF); exact rfl) | ((with_reducible apply t_skip)) | ((with_reducible apply t_block))) | with_reducible apply q_thenN | with_reducible apply q_blockN | exact Rdn.zero | apply Rdn.succ)
            all_goals (refine ⟨(k + 1, true), ⟨(by simp only; omega), (by rw [hms]; exact hwb)⟩, (by (try simp only); omega), ?_, ?_⟩)
            · try simp only [List.cons_append, List.nil_append]
              (repeat (first | exact FrSub.nil | (apply FrSub.cons; exact rfl) | (apply FrSub.consE; exact rfl; (first | (rw [hms]; done) | (congr 1; omega)))))
            · (repeat (first | exact HpSub.refl _ | (apply HpSub.consE; (repeat (first | exact P0 | apply P1 | apply PA)); exact rfl) | apply HpSub.appC | apply HpSub.skipX | apply HpSub.skipApp | exact HpSub.nil))
          all_goals subst h2
          all_goals (repeat' (first | ((with_reducible apply oq_id); first | ((with_reducible apply oq_lssF); exact rfl; exact rfl; omega) | ((with_reducible apply oq_neqF); exact rfl; exact rfl; omega) | ((with_reducible apply oq_eqlT); exact rfl; exact rfl; omega) | (apply oq_fn; exact rfl; first | exact trivial | (refine ⟨?_, ?_⟩ <;> omega) | (refine ⟨?_, ?_, ?_⟩ <;> omega) | omega | skip) | ((with_reducible apply oq_load); exact rfl; exact rfl) | ((with_reducible apply oq_loadAgg); exact rfl; exact rfl) | ((with_reducible apply oq_call (k := 24) (hc := Try.call24)); exact rfl; exact rfl; exact fun D w1 hw1 => HT (clA x1) (clC x1) (clA y1) (clC y1) w1 (clH_rows (x := x1) (hw1.sub (show HpSub _ (clH 106 4 (p.fl.map depCells).flatten x1) from (by repeat (first | exact HpSub.refl _ | exact HpSub.appLeft | apply HpSub.skipX | apply HpSub.skipApp)))) (fun _ => rfl) rfl hx1) (clH_rows (x := y1) (hw1.sub (show HpSub _ (clH 71 3 (p.bk.map bkCells).flatten y1) from (by repeat (first | exact HpSub.refl _ | exact HpSub.appLeft | apply HpSub.skipX | apply HpSub.skipApp)))) (fun _ => rfl) rfl hy1) (nilA hx1) (nilA hy1))) | ((with_reducible apply tl_id); first | ((with_reducible apply tl_nil)) | ((with_reducible apply u_q); exact rfl; exact rfl; exact rfl; exact rfl) | ((with_reducible apply u_skip); exact rfl; exact rfl; exact rfl)) | ((with_reducible apply rd_id); first | (apply Rd.own; (repeat (first | exact P0 | apply P1 | apply PA)); exact rfl; done)) | ((with_reducible apply t_id); first | ((with_reducible apply t_seq)) | (apply t_region; kernel_rfl) | ((with_reducible apply t_condT); exact rfl) | ((with_reducible apply t_condF); exact rfl) | ((with_reducible apply t_skip)) | ((with_reducible apply t_block))) | with_reducible apply q_thenN | with_reducible apply q_blockN | exact Rdn.zero | apply Rdn.succ))
          all_goals (refine ⟨(k + 1, _), ⟨(by simp only; omega), (by rw [hms]; exact hwb)⟩, (by simp only; omega), ?_, ?_⟩)
          all_goals (first | ((try simp only [List.cons_append, List.nil_append]); (repeat (first | exact FrSub.nil | (apply FrSub.cons; exact rfl) | (apply FrSub.consE; exact rfl; (first | (rw [hms]; done) | (congr 1; omega))))); done) | ((repeat (first | exact HpSub.refl _ | (apply HpSub.consE; (repeat (first | exact P0 | apply P1 | apply PA)); exact rfl) | apply HpSub.appC | apply HpSub.skipX | apply HpSub.skipApp | exact HpSub.nil)); done))
        by_cases h2 : x.state = 2
        · have hms := hmY (by unfold isB; simp [hxi, h2])
          have hts : turnS p (k : Int) = (manyTo p.bk i 2 k + 1, 0) := by
            unfold turnS
            rw [if_pos hvp, if_pos (by omega), Int.toNat_natCast, hx]
            simp only
            rw [if_neg h1, if_pos h2, hxi]
          have HT := fun A cf B cb w1 hA hB hnA hnB => turn_T p A cf B cb w1 hA hB hnA hnB hup hnp hnp2 (k : Int)
          simp only [hts] at HT
          by_cases hko : k < o.bk.length
          · obtain ⟨b1, o1, x0, rfl, _, hx0, c0, c1, c2⟩ := bk_read hB hko
            have h4 := hSea.wait k x0 x hx0 hx h2
            repeat' (first | ((with_reducible apply oq_id); first | (focus ((with_reducible apply oq_indexAddrN); exact rfl; exact rfl; exact rfl; exact rfl; omega)) | ((with_reducible apply oq_lssT); exact rfl; exact rfl; omega) | ((with_reducible apply oq_neqF); exact rfl; exact rfl; omega) | ((with_reducible apply oq_eqlT); exact rfl; exact rfl; omega) | ((with_reducible apply oq_eqlF); exact rfl; exact rfl; omega) | (apply oq_fn; exact rfl; first | exact trivial | (refine ⟨?_, ?_⟩ <;> omega) | (refine ⟨?_, ?_, ?_⟩ <;> omega) | omega | skip) | ((with_reducible apply oq_load); exact rfl; exact rfl) | ((with_reducible apply oq_loadAgg); exact rfl; exact rfl) | ((with_reducible apply oq_call (k := 24) (hc := Try.call24)); exact rfl; exact rfl; exact fun D w1 hw1 => HT (clA x1) (clC x1) (clA y1) (clC y1) w1 (clH_rows (x := x1) (hw1.sub (show HpSub _ (clH 106 4 (p.fl.map depCells).flatten x1) from (by repeat (first | exact HpSub.refl _ | exact HpSub.appLeft | apply HpSub.skipX | apply HpSub.skipApp)))) (fun _ => rfl) rfl hx1) (clH_rows (x := y1) (hw1.sub (show HpSub _ (clH 71 3 (p.bk.map bkCells).flatten y1) from (by repeat (first | exact HpSub.refl _ | exact HpSub.appLeft | apply HpSub.skipX | apply HpSub.skipApp)))) (fun _ => rfl) rfl hy1) (nilA hx1) (nilA hy1))) | ((with_reducible apply tl_id); first | ((with_reducible apply tl_nil)) | ((with_reducible apply u_q); exact rfl; exact rfl; exact rfl; exact rfl)) | ((with_reducible apply rd_id); first | (apply Rd.own; (repeat (first | exact P0 | apply P1 | apply PA)); exact rfl; done) | (apply Rd.old; (first | (with_reducible assumption) | exact c0 | exact c1 | exact c2 | exact c3 | exact c4 | exact c5 | exact c6 | exact c7 | exact c8 | exact d0 | exact d1 | exact d2 | exact d3 | exact d4 | exact d5); first | exact List.not_mem_nil | exact m0 | exact m1 | exact m2 | exact m3 | exact m4 | exact m5 | exact m6 | exact m7 | exact m8 | exact m9)) | ((with_reducible apply t_id); first | ((with_reducible apply t_seq)) | (apply t_region; kernel_rfl) | ((with_reducible apply t_condT); exact rfl) | ((with_reducible apply t_condF); exact rfl) | ((with_reducible apply t_skip)) | ((with_reducible apply t_block))) | with_reducible apply q_thenN | with_reducible apply q_blockN | exact Rdn.zero | apply Rdn.succ)
            all_goals (refine ⟨(k + 1, true), ⟨(by simp only; omega), (by rw [hms]; simp; omega)⟩, (by (try simp only); omega), ?_, ?_⟩)
            · try simp only [List.cons_append, List.nil_append]
              (repeat (first | exact FrSub.nil | (apply FrSub.cons; exact rfl) | (apply FrSub.consE; exact rfl; (first | (rw [hms]; done) | (congr 1; omega)))))
            · (repeat (first | exact HpSub.refl _ | (apply HpSub.consE; (repeat (first | exact P0 | apply P1 | apply PA)); exact rfl) | apply HpSub.appC | apply HpSub.skipX | apply HpSub.skipApp | exact HpSub.nil))
          · repeat' (first | ((with_reducible apply oq_id); first | ((with_reducible apply oq_lssF); exact rfl; exact rfl; omega) | ((with_reducible apply oq_neqF); exact rfl; exact rfl; omega) | ((with_reducible apply oq_eqlT); exact rfl; exact rfl; omega) | ((with_reducible apply oq_eqlF); exact rfl; exact rfl; omega) | (apply oq_fn; exact rfl; first | exact trivial | (refine ⟨?_, ?_⟩ <;> omega) | (refine ⟨?_, ?_, ?_⟩ <;> omega) | omega | skip) | ((with_reducible apply oq_load); exact rfl; exact rfl) | ((with_reducible apply oq_loadAgg); exact rfl; exact rfl) | ((with_reducible apply oq_call (k := 24) (hc := Try.call24)); exact rfl; exact rfl; exact fun D w1 hw1 => HT (clA x1) (clC x1) (clA y1) (clC y1) w1 (clH_rows (x := x1) (hw1.sub (show HpSub _ (clH 106 4 (p.fl.map depCells).flatten x1) from (by repeat (first | exact HpSub.refl _ | exact HpSub.appLeft | apply HpSub.skipX | apply HpSub.skipApp)))) (fun _ => rfl) rfl hx1) (clH_rows (x := y1) (hw1.sub (show HpSub _ (clH 71 3 (p.bk.map bkCells).flatten y1) from (by repeat (first | exact HpSub.refl _ | exact HpSub.appLeft | apply HpSub.skipX | apply HpSub.skipApp)))) (fun _ => rfl) rfl hy1) (nilA hx1) (nilA hy1))) | ((with_reducible apply tl_id); first | ((with_reducible apply tl_nil)) | ((with_reducible apply u_q); exact rfl; exact rfl; exact rfl; exact rfl) | ((with_reducible apply u_skip); exact rfl; exact rfl; exact rfl)) | ((with_reducible apply rd_id); first | (apply Rd.own; (repeat (first | exact P0 | apply P1 | apply PA)); exact rfl; done)) | ((with_reducible apply t_id); first | ((with_reducible apply t_seq)) | (apply t_region; kernel_rfl) | ((with_reducible apply t_condT); exact rfl) | ((with_reducible apply t_condF); exact rfl) | ((with_reducible apply t_skip)) | ((with_reducible apply t_block))) | with_reducible apply q_thenN | with_reducible apply q_blockN | exact Rdn.zero | apply Rdn.succ)
            all_goals (refine ⟨(k + 1, true), ⟨(by simp only; omega), (by rw [hms]; simp; omega)⟩, (by (try simp only); omega), ?_, ?_⟩)
            · try simp only [List.cons_append, List.nil_append]
              (repeat (first | exact FrSub.nil | (apply FrSub.cons; exact rfl) | (apply FrSub.consE; exact rfl; (first | (rw [hms]; done) | (congr 1; omega)))))
            · (repeat (first | exact HpSub.refl _ | (apply HpSub.consE; (repeat (first | exact P0 | apply P1 | apply PA)); exact rfl) | apply HpSub.appC | apply HpSub.skipX | apply HpSub.skipApp | exact HpSub.nil))
        · have hms := hmN (by unfold isB; simp [h2])
          have hts : turnS p (k : Int) = (0, 85) := by
            unfold turnS
            rw [if_pos hvp, if_pos (by omega), Int.toNat_natCast, hx]
            simp only
            rw [if_neg h1, if_neg h2]
          have HT := fun A cf B cb w1 hA hB hnA hnB => turn_T p A cf B cb w1 hA hB hnA hnB hup hnp hnp2 (k : Int)
          simp only [hts] at HT
          repeat' (first | ((with_reducible apply oq_id); first | ((with_reducible apply oq_neqF); exact rfl; exact rfl; omega) | ((with_reducible apply oq_eqlF); exact rfl; exact rfl; omega) | (apply oq_fn; exact rfl; first | exact trivial | (refine ⟨?_, ?_⟩ <;> omega) | (refine ⟨?_, ?_, ?_⟩ <;> omega) | omega | skip) | ((with_reducible apply oq_load); exact rfl; exact rfl) | ((with_reducible apply oq_loadAgg); exact rfl; exact rfl) | ((with_reducible apply oq_call (k := 24) (hc := Try.call24)); exact rfl; exact rfl; exact fun D w1 hw1 => HT (clA x1) (clC x1) (clA y1) (clC y1) w1 (clH_rows (x := x1) (hw1.sub (show HpSub _ (clH 106 4 (p.fl.map depCells).flatten x1) from (by repeat (first | exact HpSub.refl _ | exact HpSub.appLeft | apply HpSub.skipX | apply HpSub.skipApp)))) (fun _ => rfl) rfl hx1) (clH_rows (x := y1) (hw1.sub (show HpSub _ (clH 71 3 (p.bk.map bkCells).flatten y1) from (by repeat (first | exact HpSub.refl _ | exact HpSub.appLeft | apply HpSub.skipX | apply HpSub.skipApp)))) (fun _ => rfl) rfl hy1) (nilA hx1) (nilA hy1))) | ((with_reducible apply tl_id); first | ((with_reducible apply tl_nil)) | ((with_reducible apply u_q); exact rfl; exact rfl; exact rfl; exact rfl)) | ((with_reducible apply rd_id); first | (apply Rd.own; (repeat (first | exact P0 | apply P1 | apply PA)); exact rfl; done)) | ((with_reducible apply t_id); first | ((with_reducible apply t_seq)) | (apply t_region; kernel_rfl) | ((with_reducible apply t_condF); exact rfl) | ((with_reducible apply t_skip)) | ((with_reducible apply t_block))) | with_reducible apply q_thenN | with_reducible apply q_blockN | exact Rdn.zero | apply Rdn.succ)
          all_goals (refine ⟨(k + 1, wb), ⟨(by simp only; omega), (by rw [hms]; exact hwb)⟩, (by (try simp only); omega), ?_, ?_⟩)
          · try simp only [List.cons_append, List.nil_append]
            (repeat (first | exact FrSub.nil | (apply FrSub.cons; exact rfl) | (apply FrSub.consE; exact rfl; (first | (rw [hms]; done) | (congr 1; omega)))))
          · (repeat (first | exact HpSub.refl _ | (apply HpSub.consE; (repeat (first | exact P0 | apply P1 | apply PA)); exact rfl) | apply HpSub.appC | apply HpSub.skipX | apply HpSub.skipApp | exact HpSub.nil))
      · obtain rfl : k = p.bk.length := by omega
        rcases hfo with h1 | ⟨h1, e0, he0, h2⟩
        · repeat' (first | ((with_reducible apply oq_id); first | ((with_reducible apply oq_lssF); exact rfl; exact rfl; omega) | (apply oq_fn; exact rfl; first | exact trivial | (refine ⟨?_, ?_⟩ <;> omega) | (refine ⟨?_, ?_, ?_⟩ <;> omega) | omega | skip) | ((with_reducible apply oq_load); exact rfl; exact rfl)) | ((with_reducible apply tl_id); first | ((with_reducible apply tl_nil)) | ((with_reducible apply u_q); exact rfl; exact rfl; exact rfl; exact rfl)) | ((with_reducible apply gx_id); first | ((with_reducible apply v_nil)) | ((with_reducible apply v_q); exact rfl; exact rfl; exact rfl) | ((with_reducible apply v_skip); exact rfl; exact rfl; exact rfl)) | ((with_reducible apply rd_id); first | (apply Rd.own; (repeat (first | exact P0 | apply P1 | apply PA)); exact rfl; done)) | ((with_reducible apply t_id); first | ((with_reducible apply t_seq)) | (apply t_region; kernel_rfl) | (apply t_drawn; kernel_rfl; decide +kernel; try simp only [List.append_eq, List.cons_append, List.nil_append]) | ((with_reducible apply t_condF); exact rfl) | ((with_reducible apply t_skip)) | ((with_reducible apply t_exit))) | with_reducible apply q_thenN | with_reducible apply q_blockN | with_reducible apply q_thenE | ((with_reducible apply q_blockE); exact rfl))
          all_goals (refine ⟨i + 1, (by omega), (by (try simp only); omega), ?_, ?_⟩)
          · try simp only [List.cons_append, List.nil_append]
            (repeat (first | exact FrSub.nil | (apply FrSub.cons; exact rfl) | (apply FrSub.consE; exact rfl; (first | (rw [hms]; done) | (congr 1; omega)))))
          · (repeat (first | exact HpSub.refl _ | (apply HpSub.consE; (repeat (first | exact P0 | apply P1 | apply PA)); exact rfl) | apply HpSub.appC | apply HpSub.skipX | apply HpSub.skipApp | exact HpSub.nil))
        · obtain ⟨b1, o1, e1, rfl, _, he1, d0, d1, d2, d3⟩ := dep_read hA h1
          rw [he0] at he1
          cases he1
          rcases h2 with h2 | ⟨h2, h3⟩
          · repeat' (first | ((with_reducible apply oq_id); first | (focus ((with_reducible apply oq_indexAddrN); exact rfl; exact rfl; exact rfl; exact rfl; omega)) | ((with_reducible apply oq_lssT); exact rfl; exact rfl; omega) | ((with_reducible apply oq_lssF); exact rfl; exact rfl; omega) | ((with_reducible apply oq_neqF); exact rfl; exact rfl; omega) | (apply oq_fn; exact rfl; first | exact trivial | (refine ⟨?_, ?_⟩ <;> omega) | (refine ⟨?_, ?_, ?_⟩ <;> omega) | omega | skip) | ((with_reducible apply oq_load); exact rfl; exact rfl)) | ((with_reducible apply tl_id); first | ((with_reducible apply tl_nil)) | ((with_reducible apply u_q); exact rfl; exact rfl; exact rfl; exact rfl)) | ((with_reducible apply gx_id); first | ((with_reducible apply v_nil)) | ((with_reducible apply v_q); exact rfl; exact rfl; exact rfl) | ((with_reducible apply v_skip); exact rfl; exact rfl; exact rfl)) | ((with_reducible apply rd_id); first | (apply Rd.own; (repeat (first | exact P0 | apply P1 | apply PA)); exact rfl; done) | (apply Rd.old; (first | (with_reducible assumption) | exact c0 | exact c1 | exact c2 | exact c3 | exact c4 | exact c5 | exact c6 | exact c7 | exact c8 | exact d0 | exact d1 | exact d2 | exact d3 | exact d4 | exact d5); first | exact List.not_mem_nil | exact m0 | exact m1 | exact m2 | exact m3 | exact m4 | exact m5 | exact m6 | exact m7 | exact m8 | exact m9)) | ((with_reducible apply t_id); first | ((with_reducible apply t_seq)) | (apply t_region; kernel_rfl) | (apply t_drawn; kernel_rfl; decide +kernel; try simp only [List.append_eq, List.cons_append, List.nil_append]) | ((with_reducible apply t_condF); exact rfl) | ((with_reducible apply t_skip)) | ((with_reducible apply t_exit))) | with_reducible apply q_thenN | with_reducible apply q_blockN | with_reducible apply q_thenE | ((with_reducible apply q_blockE); exact rfl))
            all_goals (refine ⟨i + 1, (by omega), (by (try simp only); omega), ?_, ?_⟩)
            · try simp only [List.cons_append, List.nil_append]
              (repeat (first | exact FrSub.nil | (apply FrSub.cons; exact rfl) | (apply FrSub.consE; exact rfl; (first | (rw [hms]; done) | (congr 1; omega)))))
            · (repeat (first | exact HpSub.refl _ | (apply HpSub.consE; (repeat (first | exact P0 | apply P1 | apply PA)); exact rfl) | apply HpSub.appC | apply HpSub.skipX | apply HpSub.skipApp | exact HpSub.nil))
          · subst h3
            repeat' (first | ((with_reducible apply oq_id); first | (focus ((with_reducible apply oq_indexAddrN); exact rfl; exact rfl; exact rfl; exact rfl; omega)) | ((with_reducible apply oq_ne106F); exact rfl; exact rfl) | ((with_reducible apply oq_lssT); exact rfl; exact rfl; omega) | ((with_reducible apply oq_lssF); exact rfl; exact rfl; omega) | ((with_reducible apply oq_neqT); exact rfl; exact rfl; omega) | (apply oq_fn; exact rfl; first | exact trivial | (refine ⟨?_, ?_⟩ <;> omega) | (refine ⟨?_, ?_, ?_⟩ <;> omega) | omega | skip) | ((with_reducible apply oq_load); exact rfl; exact rfl) | ((with_reducible apply oq_loadAgg); exact rfl; exact rfl)) | ((with_reducible apply tl_id); first | ((with_reducible apply tl_nil)) | ((with_reducible apply u_q); exact rfl; exact rfl; exact rfl; exact rfl)) | ((with_reducible apply gx_id); first | ((with_reducible apply v_nil)) | ((with_reducible apply v_q); exact rfl; exact rfl; exact rfl)) | ((with_reducible apply rd_id); first | (apply Rd.own; (repeat (first | exact P0 | apply P1 | apply PA)); exact rfl; done) | (apply Rd.old; (first | (with_reducible assumption) | exact c0 | exact c1 | exact c2 | exact c3 | exact c4 | exact c5 | exact c6 | exact c7 | exact c8 | exact d0 | exact d1 | exact d2 | exact d3 | exact d4 | exact d5); first | exact List.not_mem_nil | exact m0 | exact m1 | exact m2 | exact m3 | exact m4 | exact m5 | exact m6 | exact m7 | exact m8 | exact m9)) | ((with_reducible apply t_id); first | ((with_reducible apply t_seq)) | (apply t_region; kernel_rfl) | (apply t_drawn; kernel_rfl; decide +kernel; try simp only [List.append_eq, List.cons_append, List.nil_append]) | ((with_reducible apply t_condF); exact rfl) | ((with_reducible apply t_skip)) | ((with_reducible apply t_exit))) | with_reducible apply q_thenN | with_reducible apply q_blockN | with_reducible apply q_thenE | ((with_reducible apply q_blockE); exact rfl) | exact Rdn.zero | apply Rdn.succ)
            all_goals (refine ⟨i + 1, (by omega), (by (try simp only); omega), ?_, ?_⟩)
            · try simp only [List.cons_append, List.nil_append]
              (repeat (first | exact FrSub.nil | (apply FrSub.cons; exact rfl) | (apply FrSub.consE; exact rfl; (first | (rw [hms]; done) | (congr 1; omega)))))
            · (repeat (first | exact HpSub.refl _ | (apply HpSub.consE; (repeat (first | exact P0 | apply P1 | apply PA)); exact rfl) | apply HpSub.appC | apply HpSub.skipX | apply HpSub.skipApp | exact HpSub.nil))
  · repeat' (first | ((with_reducible apply oq_id); first | ((with_reducible apply oq_lssF); exact rfl; exact rfl; omega) | (apply oq_fn; exact rfl; first | exact trivial | (refine ⟨?_, ?_⟩ <;> omega) | (refine ⟨?_, ?_, ?_⟩ <;> omega) | omega | skip)) | ((with_reducible apply tl_id); first | ((with_reducible apply tl_nil)) | ((with_reducible apply u_q); exact rfl; exact rfl; exact rfl; exact rfl)) | ((with_reducible apply t_id); first | ((with_reducible apply t_seq)) | (apply t_region; kernel_rfl) | ((with_reducible apply t_condF); exact rfl) | ((with_reducible apply t_ret)) | ((with_reducible apply t_exit))) | with_reducible apply q_thenN | with_reducible apply q_thenE | ((with_reducible apply q_blockE); exact rfl) | ((with_reducible apply end_ret)) | exact rvs_nil | ((with_reducible apply rvs_cons)) | ((with_reducible apply rv_tmp); exact rfl))
    all_goals rfl

end Go.Proofs.Ytmlmgipngbndgaa
