/- What the statement computes, walked. -/
import Derived.Test.YtmlmgipngbndgaaPkL
import Derived.Test.YtmlmgipngbndgaaPkJ
import Derived.Test.YtmlmgipngbndgaaPkE
import Derived.Test.YtmlmgipngbndgaaPkO
import Derived.Test.YtmlmgipngbndgaaPkI
/- What a deal leaves of the bookings: plain laws. -/
namespace Go.Proofs.Ytmlmgipngbndgaa
set_option linter.unusedVariables false
set_option linter.unusedSimpArgs false
/-- The deals that are not refused, one by one. -/
inductive DoneK (o : Off) (d : Deal) : Prop
  | add (k : d.kind = 1) (e : doneO o d = addV o d)
  | sell (k : d.kind = 2) (i : Nat) (x : Dep) (n : d.n = (i : Int)) (h : o.fl[i]? = some x) (s : x.state = 0) (l : o.bk.length < 120) (e : doneO o d = { o with bk := o.bk ++ [⟨(i : Int), if manyV o.bk i 1 < x.seats then 1 else 2, 0⟩], inn := o.inn + x.price })
  | cancel (k : d.kind = 3) (j : Nat) (b : Bk) (n : d.n = (j : Int)) (h : o.bk[j]? = some b) (s : b.state = 1 ∨ b.state = 2) (e : doneO o d = cancelV o (j : Int))
  | close (k : d.kind = 4 ∨ d.kind = 5) (i : Nat) (x : Dep) (st to : Int) (n : d.n = (i : Int)) (h : o.fl[i]? = some x) (s : x.state = 0) (q : (d.kind = 4 ∧ st = 1 ∧ to = 3 ∧ x.leaves ≤ o.now) ∨ (d.kind = 5 ∧ st = 2 ∧ to = 4)) (e : doneO o d = closedV o i x st to)
  | tick (k : d.kind = 6) (e : doneO o d = { o with now := o.now + d.n })
  | seat (k : d.kind = 7) (i : Nat) (x : Dep) (n : d.n = (i : Int)) (h : o.fl[i]? = some x) (s : x.state = 0) (e : doneO o d = givenV { o with fl := o.fl.set i ⟨d.seats, x.price, x.leaves, x.state⟩ } i)
theorem done_cases {o : Off} (hv : OkO o) (d : Deal) (hE : doneE o d = 0) : DoneK o d := by
  unfold doneE at hE
  by_cases k1 : d.kind = 1
  · exact .add k1 (by unfold doneO; rw [if_pos k1])
  rw [if_neg k1] at hE
  by_cases k2 : d.kind = 2
  · rw [if_pos k2] at hE
    by_cases c1 : openE o d.n = 0
    · rw [if_pos c1] at hE
      by_cases c2 : o.bk.length < 120
      · obtain ⟨i, e, hn, hi, h0⟩ := openE_ok c1
        refine .sell k2 i e hn hi h0 c2 ?_
        unfold doneO
        rw [if_neg k1, if_pos k2, hn]
        exact sell_eq hv hi h0
      · rw [if_neg c2] at hE; exact absurd hE (by decide)
    · rw [if_neg c1] at hE; exact absurd hE c1
  rw [if_neg k2] at hE
  by_cases k3 : d.kind = 3
  · rw [if_pos k3] at hE
    by_cases c1 : 0 ≤ d.n ∧ d.n < (o.bk.length : Int)
    · rw [if_pos c1] at hE
      by_cases c2 : (bkAt o d.n).state = 1 ∨ (bkAt o d.n).state = 2
      · obtain ⟨j, hj⟩ : ∃ j : Nat, d.n = (j : Int) := ⟨d.n.toNat, by omega⟩
        obtain ⟨b, hb⟩ : ∃ b, o.bk[j]? = some b := ⟨_, List.getElem?_eq_getElem (by omega)⟩
        have hbat : bkAt o (j : Int) = b := by unfold bkAt; rw [Int.toNat_natCast, hb]
        rw [hj, hbat] at c2
        refine .cancel k3 j b hj hb c2 ?_
        unfold doneO
        rw [if_neg k1, if_neg k2, if_pos k3, hj]
      · rw [if_neg c2] at hE; exact absurd hE (by decide)
    · rw [if_neg c1] at hE; exact absurd hE (by decide)
  rw [if_neg k3] at hE
  by_cases k4 : d.kind = 4
  · rw [if_pos k4] at hE
    by_cases c1 : openE o d.n = 0
    · rw [if_pos c1] at hE
      by_cases c2 : (depAt o d.n).leaves ≤ o.now
      · obtain ⟨i, e, hn, hi, h0⟩ := openE_ok c1
        have hdep : depAt o (i : Int) = e := by unfold depAt; rw [Int.toNat_natCast, hi]
        rw [hn, hdep] at c2
        refine .close (.inl k4) i e 1 3 hn hi h0 (.inl ⟨k4, rfl, rfl, c2⟩) ?_
        unfold doneO
        rw [if_neg k1, if_neg k2, if_neg k3, if_pos k4, hn, hdep, Int.toNat_natCast]
      · rw [if_neg c2] at hE; exact absurd hE (by decide)
    · rw [if_neg c1] at hE; exact absurd hE c1
  rw [if_neg k4] at hE
  by_cases k5 : d.kind = 5
  · rw [if_pos k5] at hE
    obtain ⟨i, e, hn, hi, h0⟩ := openE_ok hE
    have hdep : depAt o (i : Int) = e := by unfold depAt; rw [Int.toNat_natCast, hi]
    refine .close (.inr k5) i e 2 4 hn hi h0 (.inr ⟨k5, rfl, rfl⟩) ?_
    unfold doneO
    rw [if_neg k1, if_neg k2, if_neg k3, if_neg k4, if_pos k5, hn, hdep, Int.toNat_natCast]
  rw [if_neg k5] at hE
  by_cases k6 : d.kind = 6
  · exact .tick k6 (by unfold doneO; rw [if_neg k1, if_neg k2, if_neg k3, if_neg k4, if_neg k5, if_pos k6])
  rw [if_neg k6] at hE
  by_cases k7 : d.kind = 7
  · rw [if_pos k7] at hE
    by_cases c1 : openE o d.n = 0
    · obtain ⟨i, e, hn, hi, h0⟩ := openE_ok c1
      have hdep : depAt o (i : Int) = e := by unfold depAt; rw [Int.toNat_natCast, hi]
      refine .seat k7 i e hn hi h0 ?_
      unfold doneO seatsV
      rw [if_neg k1, if_neg k2, if_neg k3, if_neg k4, if_neg k5, if_neg k6]
      simp only [hn, hdep, Int.toNat_natCast]
    · rw [if_neg c1] at hE; exact absurd hE c1
  rw [if_neg k7] at hE
  exact absurd hE (by decide)
theorem give_at {f : Int} : ∀ {n : Int} {l : List Bk} {i : Nat} {x : Bk}, l[i]? = some x → ∃ y, (giveL f n l)[i]? = some y ∧ (y = x ∨ (isB f 2 x = true ∧ y = ⟨x.flight, 1, x.kept⟩))
  | n, [], i, x, h => by simp at h
  | n, a :: l, 0, x, h => by
    obtain rfl : a = x := by simpa using h
    unfold giveL
    split
    · rename_i hc
      exact ⟨_, rfl, .inr ⟨hc.1, rfl⟩⟩
    · exact ⟨_, rfl, .inl rfl⟩
  | n, a :: l, i + 1, x, h => by
    have h' : l[i]? = some x := by simpa using h
    unfold giveL
    split
    · exact give_at (n := n - 1) h'
    · exact give_at (n := n) h'
/-- What becomes of a booking. -/
structure BkS (o : Off) (d : Deal) (i : Nat) (x y : Bk) : Prop where
  fl : y.flight = x.flight
  old : x.state = 3 ∨ x.state = 4 → y = x
  kept : y.kept = x.kept ∨ (d.kind = 3 ∧ d.n = (i : Int) ∧ x.state = 1 ∧ ∃ e, o.fl[x.flight.toNat]? = some e ∧ e.leaves - o.now < o.notice ∧ y.kept = feeV e.price o.fee)
structure Stp (o p : Off) (d : Deal) : Prop where
  fl : ∀ (k : Nat) x, o.fl[k]? = some x → ∃ y, p.fl[k]? = some y ∧ y.price = x.price ∧ (¬ x.state = 0 → y = x)
  bl : p.bk.length = o.bk.length + (if d.kind = 2 then 1 else 0)
  inn : (d.kind = 2 ∧ ∃ (i : Nat) (x : Dep), d.n = (i : Int) ∧ o.fl[i]? = some x ∧ p.inn = o.inn + x.price) ∨ (¬ d.kind = 2 ∧ p.inn = o.inn)
  each : ∀ (i : Nat) x, o.bk[i]? = some x → ∃ y, p.bk[i]? = some y ∧ BkS o d i x y
  new : ∀ (i : Nat) y, o.bk.length ≤ i → p.bk[i]? = some y → ¬ y.state = 4
theorem BkS.same {o : Off} {d : Deal} {i : Nat} {x : Bk} : BkS o d i x x := ⟨rfl, fun _ => rfl, .inl rfl⟩
theorem fl_same {o p : Off} (h : p.fl = o.fl) (k : Nat) (x : Dep) (hk : o.fl[k]? = some x) : ∃ y, p.fl[k]? = some y ∧ y.price = x.price ∧ (¬ x.state = 0 → y = x) := ⟨x, by rw [h]; exact hk, rfl, fun _ => rfl⟩
theorem fl_set {o : Off} {i : Nat} {e z : Dep} (hi : o.fl[i]? = some e) (h0 : e.state = 0) (hz : z.price = e.price) (k : Nat) (x : Dep) (hk : o.fl[k]? = some x) : ∃ y, (o.fl.set i z)[k]? = some y ∧ y.price = x.price ∧ (¬ x.state = 0 → y = x) := by
  rw [set_at hi]
  by_cases h : k = i
  · subst h
    rw [hi] at hk
    cases hk
    exact ⟨z, if_pos rfl, hz, fun h => absurd h0 h⟩
  · exact ⟨x, by rw [if_neg h]; exact hk, rfl, fun _ => rfl⟩
theorem new_none {o : Off} {l : List Bk} (h : l.length = o.bk.length) (i : Nat) (y : Bk) (hi : o.bk.length ≤ i) (hy : l[i]? = some y) : ¬ y.state = 4 := by
  rw [List.getElem?_eq_none (by omega)] at hy
  cases hy
theorem done_stp {o : Off} (hv : OkO o) {d : Deal} (hE : doneE o d = 0) : Stp o (doneO o d) d := by
  rcases done_cases hv d hE with ⟨k, e⟩ | ⟨k, i, x, n, h, s, l, e⟩ | ⟨k, j, b, n, h, s, e⟩ | ⟨k, i, x, st, to, n, h, s, q, e⟩ | ⟨k, e⟩ | ⟨k, i, x, n, h, s, e⟩
  · rw [e]
    refine ⟨fun k x hk => ⟨x, ?_, rfl, fun _ => rfl⟩, ?_, .inr ⟨by omega, rfl⟩, fun i x hx => ⟨x, hx, BkS.same⟩, new_none rfl⟩
    · unfold addV
      have := (List.getElem?_eq_some_iff.1 hk).1
      simp only
      rw [List.getElem?_append_left this]
      exact hk
    · rw [if_neg (by omega)]; rfl
  · rw [e]
    refine ⟨fl_same rfl, ?_, .inl ⟨k, i, x, n, h, rfl⟩, fun i x hx => ⟨x, ?_, BkS.same⟩, fun i y hi hy => ?_⟩
    · rw [if_pos k]; simp
    · have := (List.getElem?_eq_some_iff.1 hx).1
      simp only
      rw [List.getElem?_append_left this]
      exact hx
    · simp only at hy
      rw [List.getElem?_append_right hi] at hy
      have hm := List.mem_of_getElem? hy
      rw [List.mem_singleton.1 hm]
      simp only
      split <;> omega
  · rw [e]
    have hbat : bkAt o (j : Int) = b := by unfold bkAt; rw [Int.toNat_natCast, h]
    obtain ⟨f, dep, hf, hfl, _⟩ := hv.bkok (List.mem_of_getElem? h)
    have hdep : depAt o b.flight = dep := by unfold depAt; rw [hf, Int.toNat_natCast, hfl]
    have hk0 := hv.kept0 (List.mem_of_getElem? h) s
    unfold cancelV givenV paidB
    simp only [hbat, hdep, Int.toNat_natCast]
    refine ⟨fl_same rfl, ?_, .inr ⟨by omega, rfl⟩, fun i x hx => ?_, new_none (by simp [giveL_length])⟩
    · rw [if_neg (by omega)]; simp [giveL_length]
    · simp only
      by_cases hij : i = j
      · subst hij
        obtain rfl : b = x := by rw [h] at hx; exact Option.some.inj hx
        have hset : (o.bk.set i ⟨b.flight, 4, keptV o dep b⟩)[i]? = some ⟨b.flight, 4, keptV o dep b⟩ := by
          rw [List.getElem?_set_self (List.getElem?_eq_some_iff.1 h).1]
        obtain ⟨y, hy, hc⟩ := give_at (f := (b.flight.toNat : Int)) (n := freeV { o with bk := o.bk.set i ⟨b.flight, 4, keptV o dep b⟩, out := o.out + (dep.price - keptV o dep b) } b.flight.toNat) hset
        refine ⟨y, hy, ?_⟩
        have hy' : y = ⟨b.flight, 4, keptV o dep b⟩ := by
          rcases hc with hc | ⟨hc, _⟩
          · exact hc
          · unfold isB at hc; simp at hc
        subst hy'
        refine ⟨rfl, fun h3 => by omega, ?_⟩
        simp only
        unfold keptV
        split
        · rename_i hc
          exact .inr ⟨k, n, hc.1, dep, by rw [hf, Int.toNat_natCast]; exact hfl, hc.2, rfl⟩
        · exact .inl hk0.symm
      · have hset : (o.bk.set j ⟨b.flight, 4, keptV o dep b⟩)[i]? = some x := by
          rw [List.getElem?_set_ne (fun h => hij h.symm)]; exact hx
        obtain ⟨y, hy, hc⟩ := give_at (f := (b.flight.toNat : Int)) (n := freeV { o with bk := o.bk.set j ⟨b.flight, 4, keptV o dep b⟩, out := o.out + (dep.price - keptV o dep b) } b.flight.toNat) hset
        refine ⟨y, hy, ?_⟩
        rcases hc with rfl | ⟨hc, rfl⟩
        · exact BkS.same
        · have := isB_st hc
          exact ⟨rfl, fun h3 => by omega, .inl rfl⟩
  · rw [e]
    unfold closedV
    refine ⟨fl_set h s rfl, ?_, .inr ⟨by omega, rfl⟩, fun j y hy => ⟨shutB i to y, by simp [hy], ?_⟩, new_none (by simp)⟩
    · rw [if_neg (by omega)]; simp
    · unfold shutB
      split
      · rename_i hc
        have := isB_st hc
        exact ⟨rfl, fun h3 => by omega, .inl rfl⟩
      split
      · rename_i hc
        have := isB_st hc
        exact ⟨rfl, fun h3 => by omega, .inl rfl⟩
      · exact BkS.same
  · rw [e]
    exact ⟨fl_same rfl, by rw [if_neg (by omega)]; rfl, .inr ⟨by omega, rfl⟩, fun i x hx => ⟨x, hx, BkS.same⟩, new_none rfl⟩
  · rw [e]
    unfold givenV
    refine ⟨fl_set h s rfl, ?_, .inr ⟨by omega, rfl⟩, fun j y hy => ?_, new_none (by simp [giveL_length])⟩
    · rw [if_neg (by omega)]; simp [giveL_length]
    · obtain ⟨z, hz, hc⟩ := give_at (f := (i : Int)) (n := freeV { o with fl := o.fl.set i ⟨d.seats, x.price, x.leaves, x.state⟩ } i) hy
      refine ⟨z, hz, ?_⟩
      rcases hc with rfl | ⟨hc, rfl⟩
      · exact BkS.same
      · have := isB_st hc
        exact ⟨rfl, fun h3 => by omega, .inl rfl⟩
/-! Sums -/
theorem sm_le {f g : Bk → Int} : ∀ {l m : List Bk}, (∀ (i : Nat) x, l[i]? = some x → ∃ y, m[i]? = some y ∧ f x ≤ g y) → (∀ y ∈ m, 0 ≤ g y) → sm f l ≤ sm g m
  | [], [], _, _ => Int.le_refl _
  | [], y :: m, h, h0 => by
    have h1 := h0 y (List.mem_cons_self ..)
    have h2 := sm_le (f := f) (g := g) (l := []) (m := m) (fun i x hx => by simp at hx) (fun z hz => h0 z (List.mem_cons_of_mem _ hz))
    simp only [sm] at h2 ⊢
    omega
  | x :: l, [], h, _ => by
    obtain ⟨y, hy, _⟩ := h 0 x rfl
    simp at hy
  | x :: l, y :: m, h, h0 => by
    obtain ⟨y', hy, h1⟩ := h 0 x rfl
    obtain rfl : y = y' := by simpa using hy
    have h2 := sm_le (f := f) (g := g) (l := l) (m := m) (fun i z hz => by
      obtain ⟨u, hu, hk⟩ := h (i + 1) z (by simpa using hz)
      exact ⟨u, by simpa using hu, hk⟩) (fun z hz => h0 z (List.mem_cons_of_mem _ hz))
    simp only [sm]
    omega
theorem sm_take {f : Bk → Int} {l : List Bk} {k : Nat} {x : Bk} (h : l[k]? = some x) : sm f (l.take (k + 1)) = sm f (l.take k) + f x := by
  rw [List.take_add_one, h, sm_append]
  simp [sm]
theorem sm_zero {f : Bk → Int} : ∀ {l : List Bk}, (∀ x ∈ l, f x = 0) → sm f l = 0
  | [], _ => rfl
  | x :: l, h => by
    simp only [sm]
    rw [h x (List.mem_cons_self ..), sm_zero fun y hy => h y (List.mem_cons_of_mem _ hy)]
    rfl
end Go.Proofs.Ytmlmgipngbndgaa
/- Seats and those who wait, before and after a deal: plain laws. -/
namespace Go.Proofs.Ytmlmgipngbndgaa
set_option linter.unusedVariables false
set_option linter.unusedSimpArgs false
/-- Is a booking of a departure? -/
def cF (f : Int) (x : Bk) : Int := if x.flight = f then 1 else 0
def nTo (bk : List Bk) (f : Int) (k : Nat) : Int := sm (cF f) (bk.take k)
theorem nTo_zero (bk : List Bk) (f : Int) : nTo bk f 0 = 0 := by simp [nTo, sm]
theorem nTo_succ {bk : List Bk} {k : Nat} {x : Bk} (h : bk[k]? = some x) (f : Int) : nTo bk f (k + 1) = nTo bk f k + cF f x := sm_take h
theorem nTo_in (bk : List Bk) (f : Int) : ∀ k : Nat, k ≤ bk.length → 0 ≤ nTo bk f k ∧ nTo bk f k ≤ (k : Int)
  | 0, _ => by rw [nTo_zero]; simp
  | k + 1, h => by
    have ih := nTo_in bk f k (by omega)
    obtain ⟨x, hx⟩ : ∃ x, bk[k]? = some x := ⟨_, List.getElem?_eq_getElem (by omega)⟩
    rw [nTo_succ hx]
    unfold cF
    split <;> omega
theorem OkO.st_in {o : Off} (hO : OkO o) {x : Bk} (hx : x ∈ o.bk) : x.state = 1 ∨ x.state = 2 ∨ x.state = 3 ∨ x.state = 4 := by
  obtain ⟨f, e, _, _, h | ⟨_, h, _⟩⟩ := hO.bkok hx
  · omega
  · unfold fitB at h
    simp only [Bool.or_eq_true, Bool.and_eq_true, decide_eq_true_eq] at h
    omega
theorem OkO.counts {o : Off} (hO : OkO o) (f : Int) : nTo o.bk f o.bk.length = manyV o.bk f 1 + manyV o.bk f 2 + manyV o.bk f 3 + manyV o.bk f 4 := by
  unfold nTo
  rw [List.take_length, many_sm, many_sm, many_sm, many_sm, ← sm_add, ← sm_add, ← sm_add]
  refine sm_congr fun x hx => ?_
  have := hO.st_in hx
  unfold cF cN isB
  by_cases hf : x.flight = f
  · rw [if_pos hf]
    simp only [hf, decide_true, Bool.true_and, decide_eq_true_eq]
    rcases this with h | h | h | h <;> rw [h] <;> simp
  · rw [if_neg hf]
    simp [hf]
/-- The seats of a departure. -/
theorem OkO.full {o : Off} (hO : OkO o) {i : Nat} {d : Dep} (hi : o.fl[i]? = some d) : manyV o.bk i 1 + manyV o.bk i 3 ≤ d.seats ∧ (manyV o.bk i 1 < d.seats → manyV o.bk i 2 ≤ 0) := by
  obtain ⟨h1, h2⟩ := hO.seat hi
  refine ⟨h1, fun h => ?_⟩
  rcases h2 with h2 | h2
  · by_cases h3 : manyV o.bk i 2 ≤ 0
    · exact h3
    · exfalso
      have : ∃ x ∈ o.bk, isB i 2 x = true := Classical.byContradiction fun hn => h3 (by
        rw [many_zero_of fun x hx => by
          cases hb : isB i 2 x with
          | false => rfl
          | true => exact absurd ⟨x, hx, hb⟩ hn]
        exact Int.le_refl _)
      obtain ⟨x, hx, hb⟩ := this
      obtain ⟨hf, hs⟩ := isB_st hb
      have h0 := hO.st_open hx (.inr hs) hf hi
      have := hO.noflown hi h0
      omega
  · exact h2
theorem give_first {f : Int} : ∀ {n : Int} {l : List Bk} {j : Nat} {x y : Bk}, l[j]? = some x → (giveL f n l)[j]? = some y → x.state = 2 → y.state = 1 → isB f 2 x = true ∧ ∀ j' y', j' < j → (giveL f n l)[j']? = some y' → isB f 2 y' = false
  | n, [], j, x, y, h, _, _, _ => by simp at h
  | n, a :: l, 0, x, y, hx, hy, h2, h1 => by
    refine ⟨?_, fun j' y' hj => by omega⟩
    obtain rfl : a = x := by simpa using hx
    unfold giveL at hy
    split at hy
    · rename_i hc; exact hc.1
    · obtain rfl : a = y := by simpa using hy
      omega
  | n, a :: l, j + 1, x, y, hx, hy, h2, h1 => by
    have hx' : l[j]? = some x := by simpa using hx
    by_cases hc : isB f 2 a = true ∧ 0 < n
    · have hg : giveL f n (a :: l) = ⟨a.flight, 1, a.kept⟩ :: giveL f (n - 1) l := by
        show (if _ then _ else _) = _
        rw [if_pos hc]
      rw [hg] at hy ⊢
      obtain ⟨e1, e2⟩ := give_first (n := n - 1) hx' (by simpa using hy) h2 h1
      refine ⟨e1, fun j' y' hj hy' => ?_⟩
      cases j' with
      | zero =>
        obtain rfl : (⟨a.flight, 1, a.kept⟩ : Bk) = y' := by simpa using hy'
        unfold isB; simp
      | succ j' => exact e2 j' y' (by omega) (by simpa using hy')
    · have hg : giveL f n (a :: l) = a :: giveL f n l := by
        show (if _ then _ else _) = _
        rw [if_neg hc]
      rw [hg] at hy ⊢
      by_cases hn : 0 < n
      · have ha : isB f 2 a = false := by
          cases hb : isB f 2 a with
          | false => rfl
          | true => exact absurd ⟨hb, hn⟩ hc
        obtain ⟨e1, e2⟩ := give_first (n := n) hx' (by simpa using hy) h2 h1
        refine ⟨e1, fun j' y' hj hy' => ?_⟩
        cases j' with
        | zero =>
          obtain rfl : a = y' := by simpa using hy'
          exact ha
        | succ j' => exact e2 j' y' (by omega) (by simpa using hy')
      · rw [giveL_le (by omega)] at hy
        have : l[j]? = some y := by simpa using hy
        rw [hx'] at this
        cases this
        omega
theorem many_none_to {bk : List Bk} {f s : Int} {k : Nat} (h : ∀ j y, j < k → bk[j]? = some y → isB f s y = false) : manyTo bk f s k = 0 := by
  unfold manyTo
  rw [List.filter_eq_nil_iff.2 fun y hy => ?_]
  · rfl
  · obtain ⟨j, hj, he⟩ := List.getElem_of_mem hy
    have hj' : j < k := by simp at hj; omega
    have hy' : bk[j]? = some y := by
      rw [← he, List.getElem_take]
      exact List.getElem?_eq_getElem _
    rw [h j y hj' hy']
    exact Bool.false_ne_true
/-- Who waits waited before; who has got a seat has nobody before him that waits. -/
structure SeaS (o p : Off) : Prop where
  wait : ∀ (j : Nat) x y, o.bk[j]? = some x → p.bk[j]? = some y → y.state = 2 → x.state = 2
  first : ∀ (j : Nat) x y, o.bk[j]? = some x → p.bk[j]? = some y → y.state = 1 → x.state = 2 → manyTo p.bk y.flight 2 j = 0
theorem sea_same {o p : Off} (h : ∀ (j : Nat) x, o.bk[j]? = some x → p.bk[j]? = some x) : SeaS o p := by
  refine ⟨fun j x y hx hy h2 => ?_, fun j x y hx hy h1 h2 => ?_⟩
  all_goals (rw [h j x hx] at hy; cases hy; omega)
theorem sea_give {o p : Off} {l : List Bk} {f n : Int} (hl : ∀ (j : Nat) x y, o.bk[j]? = some x → l[j]? = some y → y = x ∨ y.state = 4) (hlen : o.bk.length = l.length) (hp : p.bk = giveL f n l) : SeaS o p := by
  refine ⟨fun j x y hx hy h2 => ?_, fun j x y hx hy h1 h2 => ?_⟩
  · have hj := (List.getElem?_eq_some_iff.1 hx).1
    obtain ⟨z, hz⟩ : ∃ z, l[j]? = some z := ⟨_, List.getElem?_eq_getElem (by omega)⟩
    obtain ⟨y', hy', hc⟩ := give_at (f := f) (n := n) hz
    rw [hp, hy'] at hy
    cases hy
    rcases hc with rfl | ⟨_, rfl⟩
    · rcases hl j x _ hx hz with rfl | h4
      · exact h2
      · omega
    · simp at h2
  · have hj := (List.getElem?_eq_some_iff.1 hx).1
    obtain ⟨z, hz⟩ : ∃ z, l[j]? = some z := ⟨_, List.getElem?_eq_getElem (by omega)⟩
    rcases hl j x z hx hz with rfl | h4
    · rw [hp] at hy ⊢
      obtain ⟨e1, e2⟩ := give_first hz hy h2 h1
      obtain ⟨y', hy', hc⟩ := give_at (f := f) (n := n) hz
      rw [hy'] at hy
      cases hy
      have hfl : y.flight = f := by
        rcases hc with rfl | ⟨hc, rfl⟩
        · omega
        · exact (isB_st hc).1
      rw [hfl]
      exact many_none_to e2
    · obtain ⟨y', hy', hc⟩ := give_at (f := f) (n := n) hz
      rw [hp, hy'] at hy
      cases hy
      rcases hc with rfl | ⟨hc, rfl⟩
      · omega
      · have := isB_st hc
        omega
theorem done_sea {o : Off} (hv : OkO o) {d : Deal} (hE : doneE o d = 0) : SeaS o (doneO o d) := by
  rcases done_cases hv d hE with ⟨k, e⟩ | ⟨k, i, x, n, h, s, l, e⟩ | ⟨k, j, b, n, h, s, e⟩ | ⟨k, i, x, st, to, n, h, s, q, e⟩ | ⟨k, e⟩ | ⟨k, i, x, n, h, s, e⟩
  · rw [e]; exact sea_same fun j x hx => hx
  · rw [e]
    refine sea_same fun j x hx => ?_
    simp only
    rw [List.getElem?_append_left (List.getElem?_eq_some_iff.1 hx).1]
    exact hx
  · rw [e]
    have hbat : bkAt o (j : Int) = b := by unfold bkAt; rw [Int.toNat_natCast, h]
    refine sea_give (l := (paidB o (j : Int)).bk) (fun i x y hx hy => ?_) ?_ rfl
    · unfold paidB at hy
      simp only [Int.toNat_natCast] at hy
      by_cases hij : j = i
      · subst hij
        rw [List.getElem?_set_self (List.getElem?_eq_some_iff.1 h).1] at hy
        cases hy
        exact .inr rfl
      · rw [List.getElem?_set_ne hij, hx] at hy
        cases hy
        exact .inl rfl
    · unfold paidB; simp
  · rw [e]
    unfold closedV
    have hto : to = 3 ∨ to = 4 := by omega
    refine ⟨fun j x y hx hy h2 => ?_, fun j x y hx hy h1 h2 => ?_⟩
    all_goals
      simp only [List.getElem?_map, hx, Option.map_some, Option.some.injEq] at hy
      unfold shutB at hy
      split at hy
      · subst hy; simp only at *; omega
      split at hy
      · subst hy; simp only at *; omega
      · subst hy; omega
  · rw [e]; exact sea_same fun j x hx => hx
  · rw [e]
    exact sea_give (l := o.bk) (fun i x y hx hy => .inl (by rw [hx] at hy; cases hy; rfl)) rfl rfl
end Go.Proofs.Ytmlmgipngbndgaa
/- A departure that is called off, that leaves; a booking sold and cancelled: plain laws. -/
namespace Go.Proofs.Ytmlmgipngbndgaa
set_option linter.unusedVariables false
set_option linter.unusedSimpArgs false
theorem cnt_sm (b : Bk → Bool) : ∀ l : List Bk, (((l.filter b).length : Nat) : Int) = sm (fun x => if b x = true then 1 else 0) l
  | [] => rfl
  | x :: l => by
    simp only [sm]
    rw [← cnt_sm b l]
    by_cases h : b x = true
    · rw [List.filter_cons_of_pos h, if_pos h]; simp; omega
    · rw [List.filter_cons_of_neg h, if_neg h]; simp
theorem isB_iff {f s : Int} {x : Bk} : isB f s x = true ↔ x.flight = f ∧ x.state = s := by
  unfold isB
  simp only [Bool.and_eq_true, decide_eq_true_eq]
theorem isB_no {f s : Int} {x : Bk} (h : ¬ (x.flight = f ∧ x.state = s)) : isB f s x = false := by
  cases hb : isB f s x with
  | false => rfl
  | true => exact absurd (isB_iff.1 hb) h
theorem paid_four (bk : List Bk) (f price : Int) : paidV bk f 4 price = price * (manyV bk f 1 + manyV bk f 2) := by
  unfold paidV
  rw [cnt_sm, many_sm, many_sm, ← sm_add, Int.mul_comm]
  congr 1
  refine sm_congr fun x _ => ?_
  unfold backB cN
  by_cases h1 : isB f 1 x = true
  · have h2 : isB f 2 x = false := isB_no fun h => by have := isB_iff.1 h1; omega
    simp [h1, h2]
  · simp [h1]
theorem paid_three (bk : List Bk) (f price : Int) : paidV bk f 3 price = price * manyV bk f 2 := by
  unfold paidV
  rw [cnt_sm, many_sm, Int.mul_comm]
  congr 1
  refine sm_congr fun x _ => ?_
  unfold backB cN
  simp
theorem many_shut {bk : List Bk} {f to s : Int} {g : Bk → Int} (h : ∀ x, cN f s (shutB f to x) = g x) : manyV (bk.map (shutB f to)) f s = sm g bk := by
  rw [many_sm, sm_map]
  exact sm_congr fun x _ => h x
theorem shut_zero (bk : List Bk) (f to : Int) (s : Int) (hs : s = 1 ∨ s = 2) (ht : to = 3 ∨ to = 4) : manyV (bk.map (shutB f to)) f s = 0 := by
  rw [many_shut (g := fun _ => 0)]
  · exact sm_zero fun _ _ => rfl
  · intro x
    unfold cN shutB
    rw [if_neg]
    intro h
    split at h
    · have := (isB_iff.1 h).2; simp only at this; omega
    split at h
    · have := (isB_iff.1 h).2; simp only at this; omega
    · rename_i a b
      rcases hs with rfl | rfl
      · exact a h
      · exact b h
theorem shut_three (bk : List Bk) (f : Int) : manyV (bk.map (shutB f 4)) f 3 = manyV bk f 3 ∧ manyV (bk.map (shutB f 3)) f 3 = manyV bk f 1 + manyV bk f 3 := by
  constructor
  · rw [many_shut (g := cN f 3), many_sm]
    intro x
    unfold cN shutB
    split
    · rename_i h
      have h1 := isB_iff.1 h
      rw [if_neg (fun h2 => by have := (isB_iff.1 h2).2; simp at this), if_neg (fun h2 => by have := (isB_iff.1 h2).2; omega)]
    split
    · rename_i h
      have h1 := isB_iff.1 h
      rw [if_neg (fun h2 => by have := (isB_iff.1 h2).2; simp at this), if_neg (fun h2 => by have := (isB_iff.1 h2).2; omega)]
    · rfl
  · rw [many_shut (g := fun x => cN f 1 x + cN f 3 x), sm_add, many_sm, many_sm]
    intro x
    unfold cN shutB
    split
    · rename_i h
      have h1 := isB_iff.1 h
      rw [if_pos (show isB f 3 ⟨x.flight, 3, x.kept⟩ = true from isB_iff.2 ⟨h1.1, rfl⟩), if_neg (fun h2 => by have := (isB_iff.1 h2).2; omega)]
      rfl
    split
    · rename_i a h
      have h1 := isB_iff.1 h
      rw [if_neg (fun h2 => by have := (isB_iff.1 h2).2; simp at this), if_neg (fun h2 => by have := (isB_iff.1 h2).2; omega)]
      rfl
    · rename_i a b
      simp
theorem mul_in {price m : Int} {bk : List Bk} {f to : Int} (hp : 0 ≤ price ∧ price ≤ 1000000) (hn : bk.length ≤ 120) (h : paidV bk f to price = price * m) : 0 ≤ price * m ∧ price * m ≤ 120000000 := by
  have := paid_in (bk := bk) (f := f) (to := to) (price := price) hp hn bk.length
  rw [paid_all (Nat.le_refl _), h] at this
  exact this
theorem open_zero {o : Off} {i : Nat} {x : Dep} (hi : o.fl[i]? = some x) (h0 : x.state = 0) : openE o (i : Int) = 0 ∧ depAt o (i : Int) = x := by
  have := (List.getElem?_eq_some_iff.1 hi).1
  unfold openE depAt
  rw [if_pos (by omega), Int.toNat_natCast, hi]
  simp only [h0, if_true, and_self]
structure OffF (o p : Off) (i : Nat) (price : Int) : Prop where
  ok : OkO p
  v : officeB p = true
  c : ∃ m, countsS p (i : Int) = (0, 0, 0, m, 0)
  out : p.out = o.out + price * (manyV o.bk i 1 + manyV o.bk i 2)
theorem off_done {o : Off} (hO : OkO o) {i : Nat} {x : Dep} (hi : o.fl[i]? = some x) (h0 : x.state = 0) : doneE o ⟨5, i, 0, 0, 0⟩ = 0 ∧ OffF o (doneO o ⟨5, i, 0, 0, 0⟩) i x.price := by
  obtain ⟨h1, h2⟩ := open_zero hi h0
  have hE : doneE o ⟨5, i, 0, 0, 0⟩ = 0 := by
    unfold doneE
    simp [h1]
  have hd : doneO o ⟨5, i, 0, 0, 0⟩ = closedV o i x 2 4 := by
    unfold doneO
    simp [h2]
  have hil := (List.getElem?_eq_some_iff.1 hi).1
  refine ⟨hE, done_okO hO _ hE, done_valid hO _ hE, ?_, ?_⟩
  · have hv := done_valid hO _ hE
    refine ⟨manyV (doneO o ⟨5, i, 0, 0, 0⟩).bk i 4, ?_⟩
    unfold countsS
    rw [if_pos hv]
    rw [hd]
    unfold closedV
    simp only [List.length_set]
    rw [if_pos (by omega), shut_zero _ _ _ 1 (.inl rfl) (.inr rfl), shut_zero _ _ _ 2 (.inr rfl) (.inr rfl), (shut_three _ _).1, hO.noflown hi h0]
  · rw [hd, ← paid_four]; rfl
structure LeaF (o p : Off) (i : Nat) (price : Int) : Prop where
  ok : OkO p
  v : officeB p = true
  c : ∃ m, countsS p (i : Int) = (0, 0, manyV o.bk i 1, m, 0)
  out : p.out = o.out + price * manyV o.bk i 2
theorem leave_done {o : Off} (hO : OkO o) {i : Nat} {x : Dep} (hi : o.fl[i]? = some x) (h0 : x.state = 0) (hl : x.leaves ≤ o.now) : doneE o ⟨4, i, 0, 0, 0⟩ = 0 ∧ LeaF o (doneO o ⟨4, i, 0, 0, 0⟩) i x.price := by
  obtain ⟨h1, h2⟩ := open_zero hi h0
  have hE : doneE o ⟨4, i, 0, 0, 0⟩ = 0 := by
    unfold doneE
    simp [h1, h2, hl]
  have hd : doneO o ⟨4, i, 0, 0, 0⟩ = closedV o i x 1 3 := by
    unfold doneO
    simp [h2]
  have hil := (List.getElem?_eq_some_iff.1 hi).1
  refine ⟨hE, done_okO hO _ hE, done_valid hO _ hE, ?_, ?_⟩
  · have hv := done_valid hO _ hE
    refine ⟨manyV (doneO o ⟨4, i, 0, 0, 0⟩).bk i 4, ?_⟩
    unfold countsS
    rw [if_pos hv]
    rw [hd]
    unfold closedV
    simp only [List.length_set]
    rw [if_pos (by omega), shut_zero _ _ _ 1 (.inl rfl) (.inl rfl), shut_zero _ _ _ 2 (.inr rfl) (.inl rfl), (shut_three _ _).2, hO.noflown hi h0, Int.add_zero]
  · rw [hd, ← paid_three]; rfl
theorem leave_no {o : Off} {i : Nat} {x : Dep} (hi : o.fl[i]? = some x) (h0 : x.state = 0) (hl : o.now < x.leaves) : doneE o ⟨4, i, 0, 0, 0⟩ = 86 := by
  obtain ⟨h1, h2⟩ := open_zero hi h0
  unfold doneE
  have : ¬ x.leaves ≤ o.now := by omega
  simp [h1, h2, this]
theorem sell_no {o : Off} {i : Nat} {x : Dep} (hi : o.fl[i]? = some x) (h0 : x.state = 0) (hl : ¬ o.bk.length < 120) : doneE o ⟨2, i, 0, 0, 0⟩ = 9 := by
  obtain ⟨h1, h2⟩ := open_zero hi h0
  unfold doneE
  simp [h1, hl]
structure SelF (o r : Off) (i : Nat) (x : Dep) : Prop where
  ok : OkO r
  v : officeB r = true
  fl : r.fl = o.fl
  bk : r.bk = o.bk ++ [⟨(i : Int), if manyV o.bk i 1 < x.seats then 1 else 2, 0⟩]
  inn : r.inn = o.inn + x.price
  out : r.out = o.out
  now : r.now = o.now
  notice : r.notice = o.notice
theorem sell_done {o : Off} (hO : OkO o) {i : Nat} {x : Dep} (hi : o.fl[i]? = some x) (h0 : x.state = 0) (hl : o.bk.length < 120) : doneE o ⟨2, i, 0, 0, 0⟩ = 0 ∧ SelF o (doneO o ⟨2, i, 0, 0, 0⟩) i x := by
  obtain ⟨h1, h2⟩ := open_zero hi h0
  have hE : doneE o ⟨2, i, 0, 0, 0⟩ = 0 := by
    unfold doneE
    simp [h1, hl]
  have hd : doneO o ⟨2, i, 0, 0, 0⟩ = sellV o (i : Int) := by
    unfold doneO
    simp
  refine ⟨hE, done_okO hO _ hE, done_valid hO _ hE, ?_, ?_, ?_, ?_, ?_, ?_⟩
  all_goals (rw [hd, sell_eq hO hi h0])
/-- What is sold and cancelled at once leaves the others as they were. -/
structure CanF (o s : Off) (i : Nat) (x : Dep) : Prop where
  ok : OkO s
  len : s.bk.length = o.bk.length + 1
  last : ∃ y, s.bk[o.bk.length]? = some y ∧ y.state = 4
  old : ∀ (j : Nat) y, o.bk[j]? = some y → s.bk[j]? = some y
  out : (x.leaves - o.now ≥ o.notice ∨ manyV o.bk i 1 = x.seats) → s.out = o.out + x.price
theorem cancel_done {o r : Off} (hO : OkO o) {i : Nat} {x : Dep} (hi : o.fl[i]? = some x) (h0 : x.state = 0) (hr : SelF o r i x) : doneE r ⟨3, (o.bk.length : Nat), 0, 0, 0⟩ = 0 ∧ CanF o (doneO r ⟨3, (o.bk.length : Nat), 0, 0, 0⟩) i x := by
  obtain ⟨b, hb, hbe⟩ : ∃ b, r.bk[o.bk.length]? = some b ∧ b = ⟨(i : Int), if manyV o.bk i 1 < x.seats then 1 else 2, 0⟩ := ⟨_, by rw [hr.bk]; simp, rfl⟩
  have hrl : r.bk.length = o.bk.length + 1 := by rw [hr.bk]; simp
  have hbat : bkAt r ((o.bk.length : Nat) : Int) = b := by unfold bkAt; rw [Int.toNat_natCast, hb]
  have hst : b.state = 1 ∨ b.state = 2 := by rw [hbe]; simp only; split <;> simp
  have hbf : b.flight = (i : Int) := by rw [hbe]
  have hE : doneE r ⟨3, (o.bk.length : Nat), 0, 0, 0⟩ = 0 := by
    unfold doneE
    simp only [show ¬ ((3 : Int) = 1) by decide, show ¬ ((3 : Int) = 2) by decide, if_false, if_true]
    rw [if_pos (by omega), hbat, if_pos hst]
  have hdep : depAt r (i : Int) = x := by unfold depAt; rw [Int.toNat_natCast, hr.fl, hi]
  have hd : doneO r ⟨3, (o.bk.length : Nat), 0, 0, 0⟩ = cancelV r ((o.bk.length : Nat) : Int) := by
    unfold doneO
    simp
  have hseat := hO.seat hi
  rw [hO.noflown hi h0] at hseat
  have hset : r.bk.set o.bk.length ⟨(i : Int), 4, keptV r x b⟩ = o.bk ++ [⟨(i : Int), 4, keptV r x b⟩] := by
    rw [hr.bk, List.set_append_right _ _ (Nat.le_refl _)]
    simp
  have hcan : cancelV r ((o.bk.length : Nat) : Int) = { r with bk := o.bk ++ [⟨(i : Int), 4, keptV r x b⟩], out := r.out + (x.price - keptV r x b) } := by
    unfold cancelV givenV paidB freeV
    simp only [hbat, hbf, hdep, Int.toNat_natCast, hset, hr.fl, hi]
    have hm : manyV (o.bk ++ [⟨(i : Int), 4, keptV r x b⟩]) i 1 = manyV o.bk i 1 := by
      rw [many_add, if_neg (by unfold isB; simp)]; omega
    rw [hm]
    by_cases hlt : manyV o.bk i 1 < x.seats
    · rw [giveL_none (many_none (by omega))]
      rw [show giveL (i : Int) (x.seats - manyV o.bk i 1) [(⟨(i : Int), 4, keptV r x b⟩ : Bk)] = [⟨(i : Int), 4, keptV r x b⟩] by
        show (if _ then _ else _) = _
        rw [if_neg (by unfold isB; simp)]
        rfl]
    · rw [giveL_le (by omega)]
  refine ⟨hE, done_okO hr.ok _ hE, ?_, ?_, ?_, ?_⟩
  · rw [hd, hcan]; simp
  · rw [hd, hcan]; exact ⟨⟨(i : Int), 4, keptV r x b⟩, by simp, rfl⟩
  · intro j y hj
    rw [hd, hcan]
    simp only
    rw [List.getElem?_append_left (List.getElem?_eq_some_iff.1 hj).1]
    exact hj
  · intro h
    rw [hd, hcan]
    simp only
    have hk : keptV r x b = 0 := by
      unfold keptV
      rw [if_neg, ]
      intro hc
      rw [hr.now, hr.notice] at hc
      have h1 := hc.1
      rw [hbe] at h1
      simp only at h1
      split at h1
      · rcases h with h | h <;> omega
      · omega
    rw [hk, hr.out]
    omega
end Go.Proofs.Ytmlmgipngbndgaa
/- Departures, bookings that are the same. -/
namespace Go.Proofs.Ytmlmgipngbndgaa
open Go.RowKit
attribute [local irreducible] OQ OS OX Rd T TL GX GL AL AI RV wpG SAny Calls
set_option maxRecDepth 100000
set_option maxHeartbeats 2000000
set_option linter.unusedVariables false
set_option linter.unusedSimpArgs false

theorem eq_u8 {w : World} {d : Nat} {a b : Int} : (Op.equalIn (d + 1) 5 (.int .u8 a) (.int .u8 b)).run Try.prog w = .ok (decide (a = b)) w := by
  rw [run_equalIn_int w d 5 .u8 .u8 a b Try.underlying5]
  rfl
theorem eqF_u8 {w : World} {d o : Nat} {xs ys : List Value} {f : Field} {fs : List Field} {a b : Int} {q : Bool} (hn : (f.name == "_") = false) (ht : f.type = 5) (ho : f.offset = o) (hx : xs[o]? = some (.int .u8 a)) (hy : ys[o]? = some (.int .u8 b))
    (hr : (Op.eqFields (d + 1) ⟨xs⟩ ⟨ys⟩ fs).run Try.prog w = .ok q w) : (Op.eqFields (d + 1) ⟨xs⟩ ⟨ys⟩ (f :: fs)).run Try.prog w = .ok (decide (a = b) && q) w := by
  rw [eqF_cons hn (by rw [ht, ho]; exact part_cell (Try.isAgg5 w) hx) (by rw [ht, ho]; exact part_cell (Try.isAgg5 w) hy) (by rw [ht]; exact eq_u8), hr]
  by_cases h : a = b <;> simp [h]
theorem eq_dep {w : World} {d : Nat} {a b e f a' b' e' f' : Int} : (Op.equalIn (d + 2) 106 (.agg ⟨[.int .i64 a, .int .i64 b, .int .i64 e, .int .u8 f]⟩) (.agg ⟨[.int .i64 a', .int .i64 b', .int .i64 e', .int .u8 f']⟩)).run Try.prog w = .ok (decide (a = a') && (decide (b = b') && (decide (e = e') && (decide (f = f') && true)))) w := by
  rw [run_equalIn_struct w (d + 1) 106 _ _ (by kernel_rfl) (by kernel_rfl)]
  simp only [Program.fieldsOf, Try.underlying106]
  exact eqF_int rfl rfl rfl rfl rfl (eqF_int rfl rfl rfl rfl rfl (eqF_int rfl rfl rfl rfl rfl (eqF_u8 rfl rfl rfl rfl rfl eqF_nil)))
theorem eq_bk {w : World} {d : Nat} {a b e a' b' e' : Int} : (Op.equalIn (d + 2) 71 (.agg ⟨[.int .i64 a, .int .u8 b, .int .i64 e]⟩) (.agg ⟨[.int .i64 a', .int .u8 b', .int .i64 e']⟩)).run Try.prog w = .ok (decide (a = a') && (decide (b = b') && (decide (e = e') && true))) w := by
  rw [run_equalIn_struct w (d + 1) 71 _ _ (by kernel_rfl) (by kernel_rfl)]
  simp only [Program.fieldsOf, Try.underlying71]
  exact eqF_int rfl rfl rfl rfl rfl (eqF_u8 rfl rfl rfl rfl rfl (eqF_int rfl rfl rfl rfl rfl eqF_nil))
section
variable {w : World} {N : Nat} {F : Fr} {H : Hp} {M : List Nat} {d : Option Tmp} {ty t' : TypeId} {pos : String} {af : Array Edge} {g : Option (Nat × Bool)} {x y : Operand} {a b e f a' b' e' f' : Int}
theorem oq_ne106 (hx : ev F x = some (.agg ⟨[.int .i64 a, .int .i64 b, .int .i64 e, .int .u8 f]⟩)) (hy : ev F y = some (.agg ⟨[.int .i64 a', .int .i64 b', .int .i64 e', .int .u8 f']⟩)) :
    OQ (cxM M w N) ⟨d, .binOp .neq 106 x y t', ty, pos, af, g⟩ F H (.bool (!decide (a = a' ∧ b = b' ∧ e = e' ∧ f = f'))) := oq_neS (by kernel_rfl) (fun w => by rw [eq_dep (d := 9998)]; congr 1; rw [Bool.eq_iff_iff]; simp) hx hy
theorem oq_ne71 (hx : ev F x = some (.agg ⟨[.int .i64 a, .int .u8 b, .int .i64 e]⟩)) (hy : ev F y = some (.agg ⟨[.int .i64 a', .int .u8 b', .int .i64 e']⟩)) :
    OQ (cxM M w N) ⟨d, .binOp .neq 71 x y t', ty, pos, af, g⟩ F H (.bool (!decide (a = a' ∧ b = b' ∧ e = e'))) := oq_neS (by kernel_rfl) (fun w => by rw [eq_bk (d := 9998)]; congr 1; rw [Bool.eq_iff_iff]; simp) hx hy
theorem oq_ne106F (hx : ev F x = some (.agg ⟨[.int .i64 a, .int .i64 b, .int .i64 e, .int .u8 f]⟩)) (hy : ev F y = some (.agg ⟨[.int .i64 a, .int .i64 b, .int .i64 e, .int .u8 f]⟩)) : OQ (cxM M w N) ⟨d, .binOp .neq 106 x y t', ty, pos, af, g⟩ F H (.bool false) := (oq_ne106 hx hy).as (by simp)
theorem oq_ne71F (hx : ev F x = some (.agg ⟨[.int .i64 a, .int .u8 b, .int .i64 e]⟩)) (hy : ev F y = some (.agg ⟨[.int .i64 a, .int .u8 b, .int .i64 e]⟩)) : OQ (cxM M w N) ⟨d, .binOp .neq 71 x y t', ty, pos, af, g⟩ F H (.bool false) := (oq_ne71 hx hy).as (by simp)
end
end Go.Proofs.Ytmlmgipngbndgaa
/- A departure is called off; one leaves; a booking is sold and cancelled. -/
namespace Go.Proofs.Ytmlmgipngbndgaa
open Go.RowKit
attribute [local irreducible] OQ OS OX Rd T TL GX GL AL AI RV wpG SAny Calls
set_option maxRecDepth 100000
set_option maxHeartbeats 2000000
set_option linter.unusedVariables false
set_option linter.unusedSimpArgs false

theorem crewOff_T (o : Off) (A : Option Addr) (cf : Nat) (B : Option Addr) (cb : Nat) (w : World) (hA : RdS w 4 A o.fl.length (o.fl.map depCells)) (hB : RdS w 3 B o.bk.length (o.bk.map bkCells)) (hnA : A = none → o.fl.length = 0 ∧ cf = 0) (hnB : B = none → o.bk.length = 0 ∧ cb = 0) (hu : ∀ d ∈ o.fl, 0 ≤ d.state) (n : Int) : Calls Try.prog 13 #[.agg ⟨offCells o A cf B cb⟩, .int .i64 n] w fun e w' => e = .returned (.bool true) ∧ Ext w w' := by
  refine enterQ (c := cx w 289) Try.func13 rfl rfl rfl rfl ?_
  refine t_cut (ι := Nat) (fun z => [(1, .int .i64 n), (2, .pointer (some ⟨z, 0, none⟩))]) (fun z => (z, offCells o A cf B cb, some (25, 7, 1)) :: []) (fun _ => True) ?_ ?_
  · repeat' (first | ((with_reducible apply oq_id); first | (apply oq_fn; exact rfl; first | exact trivial | (refine ⟨?_, ?_⟩ <;> omega) | (refine ⟨?_, ?_, ?_⟩ <;> omega) | omega | skip)) | ((with_reducible apply tl_id); first | ((with_reducible apply tl_nil)) | ((with_reducible apply u_q); exact rfl; exact rfl; exact rfl; exact rfl) | ((with_reducible apply u_s); exact rfl; exact rfl; exact rfl)) | ((with_reducible apply os_id); first | ((with_reducible apply os_x); exact rfl)) | ((with_reducible apply ox_id); first | ((with_reducible apply ox_boxAgg); exact rfl; intro _)) | ((with_reducible apply t_id); first | (apply t_region; kernel_rfl)))
    all_goals exact ⟨rfl, _, trivial, by (repeat (first | exact FrSub.nil | (apply FrSub.cons; exact rfl))), by (repeat (first | exact HpSub.refl _ | (apply HpSub.consE; (repeat (first | exact P0 | apply P1 | apply PA)); exact rfl) | exact HpSub.nil))⟩
  rintro b2 -
  refine t_cut (ι := Unit) (fun _ => [(1, .int .i64 n), (2, .pointer (some ⟨b2, 0, none⟩)), (5, .bool true)]) (fun _ => (b2, offCells o A cf B cb, some (25, 7, 1)) :: []) (fun _ => True) ?_ ?_
  · repeat' (first | ((with_reducible apply oq_id); first | (apply oq_fn; exact rfl; first | exact trivial | (refine ⟨?_, ?_⟩ <;> omega) | (refine ⟨?_, ?_, ?_⟩ <;> omega) | omega | skip) | ((with_reducible apply oq_call (k := 53) (hc := Try.call53)); exact rfl; exact rfl; exact fun D w1 hw1 => alive_calls w1)) | ((with_reducible apply tl_id); first | ((with_reducible apply tl_nil)) | ((with_reducible apply u_q); exact rfl; exact rfl; exact rfl; exact rfl)) | ((with_reducible apply t_id); first | (apply t_region; kernel_rfl)))
    all_goals exact ⟨rfl, (), trivial, by (repeat (first | exact FrSub.nil | (apply FrSub.cons; exact rfl))), by (repeat (first | exact HpSub.refl _ | (apply HpSub.consE; (repeat (first | exact P0 | apply P1 | apply PA)); exact rfl) | apply HpSub.appC | apply HpSub.skipX | apply HpSub.skipApp | exact HpSub.nil))⟩
  rintro ⟨⟩ -
  have HG := fun w1 => great_calls o A cf B cb w1
  by_cases hg : 20 < o.fl.length ∨ 150 < o.bk.length
  · rw [decide_eq_true hg] at HG
    repeat' (first | ((with_reducible apply oq_id); first | (apply oq_fn; exact rfl; first | exact trivial | (refine ⟨?_, ?_⟩ <;> omega) | (refine ⟨?_, ?_, ?_⟩ <;> omega) | omega | skip) | ((with_reducible apply oq_loadAgg); exact rfl; exact rfl) | ((with_reducible apply oq_call (k := 19) (hc := Try.call19)); exact rfl; exact rfl; exact fun D w1 hw1 => HG w1)) | ((with_reducible apply tl_id); first | ((with_reducible apply tl_nil)) | ((with_reducible apply u_q); exact rfl; exact rfl; exact rfl; exact rfl) | ((with_reducible apply u_skip); exact rfl; exact rfl; exact rfl)) | ((with_reducible apply rd_id); first | (apply Rd.own; (repeat (first | exact P0 | apply P1 | apply PA)); exact rfl; done)) | ((with_reducible apply t_id); first | ((with_reducible apply t_seq)) | (apply t_region; kernel_rfl) | ((with_reducible apply t_condT); exact rfl) | ((with_reducible apply t_ret))) | with_reducible apply q_thenN | with_reducible apply q_thenR | exact Rdn.zero | apply Rdn.succ | ((with_reducible apply end_ret)) | exact rvs_nil | ((with_reducible apply rvs_cons)) | ((with_reducible apply rv_tmp); exact rfl))
    all_goals rfl
  rw [decide_eq_false hg] at HG
  have hn : o.fl.length ≤ 1000000 := by omega
  have hn2 : o.bk.length ≤ 1000000 := by omega
  refine t_cut (ι := Unit) (fun _ => [(1, .int .i64 n), (2, .pointer (some ⟨b2, 0, none⟩)), (5, .bool true)]) (fun _ => (b2, offCells o A cf B cb, some (25, 7, 1)) :: []) (fun _ => True) ?_ ?_
  · repeat' (first | ((with_reducible apply oq_id); first | (apply oq_fn; exact rfl; first | exact trivial | (refine ⟨?_, ?_⟩ <;> omega) | (refine ⟨?_, ?_, ?_⟩ <;> omega) | omega | skip) | ((with_reducible apply oq_loadAgg); exact rfl; exact rfl) | ((with_reducible apply oq_call (k := 19) (hc := Try.call19)); exact rfl; exact rfl; exact fun D w1 hw1 => HG w1)) | ((with_reducible apply tl_id); first | ((with_reducible apply tl_nil)) | ((with_reducible apply u_q); exact rfl; exact rfl; exact rfl; exact rfl)) | ((with_reducible apply rd_id); first | (apply Rd.own; (repeat (first | exact P0 | apply P1 | apply PA)); exact rfl; done)) | ((with_reducible apply t_id); first | ((with_reducible apply t_seq)) | (apply t_region; kernel_rfl) | ((with_reducible apply t_condF); exact rfl) | ((with_reducible apply t_skip))) | with_reducible apply q_thenN | exact Rdn.zero | apply Rdn.succ)
    all_goals exact ⟨rfl, (), trivial, by (repeat (first | exact FrSub.nil | (apply FrSub.cons; exact rfl))), by (repeat (first | exact HpSub.refl _ | (apply HpSub.consE; (repeat (first | exact P0 | apply P1 | apply PA)); exact rfl) | apply HpSub.appC | apply HpSub.skipX | apply HpSub.skipApp | exact HpSub.nil))⟩
  rintro ⟨⟩ -
  have HC := fun w1 hA hB => counts_T o A cf B cb w1 hA hB hnA hnB hu hn hn2 n
  by_cases hin : officeB o = true ∧ 0 ≤ n ∧ n < (o.fl.length : Int)
  rotate_left
  · have hcs : ∃ E, ¬ E = 0 ∧ countsS o n = (0, 0, 0, 0, E) := by
      unfold countsS
      by_cases hv : officeB o = true
      · exact ⟨2, by decide, by rw [if_pos hv, if_neg fun h => hin ⟨hv, h⟩]⟩
      · exact ⟨84, by decide, by rw [if_neg hv]⟩
    obtain ⟨E, hE0, hcs⟩ := hcs
    simp only [hcs] at HC
    repeat' (first | ((with_reducible apply oq_id); first | ((with_reducible apply oq_neqT); exact rfl; exact rfl; omega) | ((with_reducible apply oq_eqlF); exact rfl; exact rfl; omega) | (apply oq_fn; exact rfl; first | exact trivial | (refine ⟨?_, ?_⟩ <;> omega) | (refine ⟨?_, ?_, ?_⟩ <;> omega) | omega | skip) | ((with_reducible apply oq_loadAgg); exact rfl; exact rfl) | ((with_reducible apply oq_call (k := 20) (hc := Try.call20)); exact rfl; exact rfl; exact fun D w1 hw1 => HC w1 (hA.ext hw1.ext.ext) (hB.ext hw1.ext.ext))) | ((with_reducible apply tl_id); first | ((with_reducible apply tl_nil)) | ((with_reducible apply u_q); exact rfl; exact rfl; exact rfl; exact rfl) | ((with_reducible apply u_skip); exact rfl; exact rfl; exact rfl)) | ((with_reducible apply rd_id); first | (apply Rd.own; (repeat (first | exact P0 | apply P1 | apply PA)); exact rfl; done)) | ((with_reducible apply t_id); first | ((with_reducible apply t_seq)) | (apply t_region; kernel_rfl) | ((with_reducible apply t_condT); exact rfl) | ((with_reducible apply t_condF); exact rfl) | ((with_reducible apply t_ret)) | ((with_reducible apply t_skip))) | with_reducible apply q_thenN | with_reducible apply q_thenR | exact Rdn.zero | apply Rdn.succ | ((with_reducible apply end_ret)) | exact rvs_nil | ((with_reducible apply rvs_cons)) | ((with_reducible apply rv_tmp); exact rfl))
    all_goals rfl
  obtain ⟨hv, hn0, hn1⟩ := hin
  obtain ⟨i, rfl⟩ : ∃ i : Nat, n = (i : Int) := ⟨n.toNat, by omega⟩
  have hil : i < o.fl.length := by omega
  obtain ⟨x, hi⟩ : ∃ x, o.fl[i]? = some x := ⟨_, List.getElem?_eq_getElem hil⟩
  have hO := okO hu hv
  have hxd := hO.dep hi
  have hcs : countsS o (i : Int) = (manyV o.bk i 1, manyV o.bk i 2, manyV o.bk i 3, manyV o.bk i 4, 0) := by
    unfold countsS
    rw [if_pos hv, if_pos (by omega)]
  have hP1 := mul_in (price := x.price) ⟨hxd.2.2.1, hxd.2.2.2.1⟩ hO.nb (paid_four o.bk i x.price)
  have hP2 := mul_in (price := x.price) ⟨hxd.2.2.1, hxd.2.2.2.1⟩ hO.nb (paid_three o.bk i x.price)
  have hoff := off_done hO hi
  have hlea := leave_done hO hi
  have hmi1 := many_pos o.bk i 1
  have hmi2 := many_pos o.bk i 2
  have hml1 : manyV o.bk i 1 ≤ 120 := by have := many_in o.bk i 1 o.bk.length; rw [many_all (Nat.le_refl _)] at this; have := hO.nb; omega
  have hml2 : manyV o.bk i 2 ≤ 120 := by have := many_in o.bk i 2 o.bk.length; rw [many_all (Nat.le_refl _)] at this; have := hO.nb; omega
  obtain ⟨m1, hm1e⟩ : ∃ m, manyV o.bk i 1 = m := ⟨_, rfl⟩
  obtain ⟨m2, hm2e⟩ : ∃ m, manyV o.bk i 2 = m := ⟨_, rfl⟩
  rw [hm1e] at hcs hmi1 hml1
  rw [hm2e] at hcs hmi2 hml2 hP2
  rw [hm1e, hm2e] at hP1
  simp only [hcs] at HC
  obtain ⟨b1, o1, x', hA1, _, hx0, c0, c1, c2, c3⟩ := dep_read hA hil
  rw [hi] at hx0
  cases hx0
  subst hA1
  by_cases h0 : x.state = 0
  rotate_left
  · repeat' (first | ((with_reducible apply oq_id); first | (focus ((with_reducible apply oq_indexAddrN); exact rfl; exact rfl; exact rfl; exact rfl; omega)) | ((with_reducible apply oq_neqT); exact rfl; exact rfl; omega) | ((with_reducible apply oq_neqF); exact rfl; exact rfl; omega) | ((with_reducible apply oq_eqlT); exact rfl; exact rfl; omega) | ((with_reducible apply oq_lssF); exact rfl; exact rfl; omega) | ((with_reducible apply oq_geqF); exact rfl; exact rfl; omega) | (apply oq_fn; exact rfl; first | exact trivial | (refine ⟨?_, ?_⟩ <;> omega) | (refine ⟨?_, ?_, ?_⟩ <;> omega) | omega | skip) | ((with_reducible apply oq_load); exact rfl; exact rfl) | ((with_reducible apply oq_loadAgg); exact rfl; exact rfl) | ((with_reducible apply oq_call (k := 20) (hc := Try.call20)); exact rfl; exact rfl; exact fun D w1 hw1 => HC w1 (hA.ext hw1.ext.ext) (hB.ext hw1.ext.ext))) | ((with_reducible apply tl_id); first | ((with_reducible apply tl_nil)) | ((with_reducible apply u_q); exact rfl; exact rfl; exact rfl; exact rfl)) | ((with_reducible apply rd_id); first | (apply Rd.own; (repeat (first | exact P0 | apply P1 | apply PA)); exact rfl; done) | (apply Rd.old; (first | (with_reducible assumption) | exact c0 | exact c1 | exact c2 | exact c3 | exact c4 | exact c5 | exact c6 | exact c7 | exact c8 | exact d0 | exact d1 | exact d2 | exact d3 | exact d4 | exact d5); first | exact List.not_mem_nil | exact m0 | exact m1 | exact m2 | exact m3 | exact m4 | exact m5 | exact m6 | exact m7 | exact m8 | exact m9)) | ((with_reducible apply t_id); first | ((with_reducible apply t_seq)) | (apply t_region; kernel_rfl) | ((with_reducible apply t_condT); exact rfl) | ((with_reducible apply t_condF); exact rfl) | ((with_reducible apply t_ret)) | ((with_reducible apply t_skip))) | with_reducible apply q_thenN | with_reducible apply q_thenR | exact Rdn.zero | apply Rdn.succ | ((with_reducible apply end_ret)) | exact rvs_nil | ((with_reducible apply rvs_cons)) | ((with_reducible apply rv_tmp); exact rfl))
    all_goals rfl
  obtain ⟨hE5, hF5⟩ := hoff h0
  obtain ⟨U1, hPP1⟩ : ∃ P, x.price * (m1 + m2) = P := ⟨_, rfl⟩
  obtain ⟨U2, hPP2⟩ : ∃ P, x.price * m2 = P := ⟨_, rfl⟩
  rw [hPP1] at hP1
  rw [hPP2] at hP2
  have hmi := hO.out
  have hk5 : (0 : Int) ≤ 5 ∧ (5 : Int) ≤ 255 := by decide
  have hk4 : (0 : Int) ≤ 4 ∧ (4 : Int) ≤ 255 := by decide
  have hk3 : (0 : Int) ≤ 3 ∧ (3 : Int) ≤ 255 := by decide
  have hk2 : (0 : Int) ≤ 2 ∧ (2 : Int) ≤ 255 := by decide
  refine t_cut (ι := Unit) (fun _ => [(1, .int .i64 (i : Nat)), (2, .pointer (some ⟨b2, 0, none⟩)), (5, .bool true), (6, .int .i64 m1), (7, .int .i64 m2), (10, .int .i64 0)]) (fun _ => (b2, offCells o (some ⟨b1, o1, none⟩) cf B cb, some (25, 7, 1)) :: []) (fun _ => True) ?_ ?_
  · repeat' (first | ((with_reducible apply oq_id); first | (apply oq_fn; exact rfl; first | exact trivial | (refine ⟨?_, ?_⟩ <;> omega) | (refine ⟨?_, ?_, ?_⟩ <;> omega) | omega | skip) | ((with_reducible apply oq_loadAgg); exact rfl; exact rfl) | ((with_reducible apply oq_call (k := 20) (hc := Try.call20)); exact rfl; exact rfl; exact fun D w1 hw1 => HC w1 (hA.ext hw1.ext.ext) (hB.ext hw1.ext.ext))) | ((with_reducible apply tl_id); first | ((with_reducible apply tl_nil)) | ((with_reducible apply u_q); exact rfl; exact rfl; exact rfl; exact rfl)) | ((with_reducible apply rd_id); first | (apply Rd.own; (repeat (first | exact P0 | apply P1 | apply PA)); exact rfl; done)) | ((with_reducible apply t_id); first | (apply t_region; kernel_rfl)) | exact Rdn.zero | apply Rdn.succ)
    all_goals exact ⟨rfl, (), trivial, by (repeat (first | exact FrSub.nil | (apply FrSub.cons; exact rfl))), by (repeat (first | exact HpSub.refl _ | (apply HpSub.consE; (repeat (first | exact P0 | apply P1 | apply PA)); exact rfl) | apply HpSub.appC | apply HpSub.skipX | apply HpSub.skipApp | exact HpSub.nil))⟩
  rintro ⟨⟩ -
  refine t_cut (ι := Unit) (fun _ => [(1, .int .i64 (i : Nat)), (2, .pointer (some ⟨b2, 0, none⟩)), (5, .bool true), (6, .int .i64 m1), (7, .int .i64 m2), (10, .int .i64 0)]) (fun _ => (b2, offCells o (some ⟨b1, o1, none⟩) cf B cb, some (25, 7, 1)) :: []) (fun _ => True) ?_ ?_
  · repeat' (first | ((with_reducible apply oq_id); first | ((with_reducible apply oq_eqlT); exact rfl; exact rfl; omega) | ((with_reducible apply oq_lssF); exact rfl; exact rfl; omega) | ((with_reducible apply oq_geqF); exact rfl; exact rfl; omega) | (apply oq_fn; exact rfl; first | exact trivial | (refine ⟨?_, ?_⟩ <;> omega) | (refine ⟨?_, ?_, ?_⟩ <;> omega) | omega | skip) | ((with_reducible apply oq_load); exact rfl; exact rfl)) | ((with_reducible apply tl_id); first | ((with_reducible apply tl_nil)) | ((with_reducible apply u_q); exact rfl; exact rfl; exact rfl; exact rfl)) | ((with_reducible apply rd_id); first | (apply Rd.own; (repeat (first | exact P0 | apply P1 | apply PA)); exact rfl; done)) | ((with_reducible apply t_id); first | ((with_reducible apply t_seq)) | (apply t_region; kernel_rfl) | ((with_reducible apply t_condF); exact rfl) | ((with_reducible apply t_skip))) | with_reducible apply q_thenN)
    all_goals exact ⟨rfl, (), trivial, by (repeat (first | exact FrSub.nil | (apply FrSub.cons; exact rfl))), by (repeat (first | exact HpSub.refl _ | (apply HpSub.consE; (repeat (first | exact P0 | apply P1 | apply PA)); exact rfl) | apply HpSub.appC | apply HpSub.skipX | apply HpSub.skipApp | exact HpSub.nil))⟩
  rintro ⟨⟩ -
  refine t_cut (ι := Unit) (fun _ => [(1, .int .i64 (i : Nat)), (2, .pointer (some ⟨b2, 0, none⟩)), (5, .bool true), (6, .int .i64 m1), (7, .int .i64 m2)]) (fun _ => (b2, offCells o (some ⟨b1, o1, none⟩) cf B cb, some (25, 7, 1)) :: []) (fun _ => True) ?_ ?_
  · repeat' (first | ((with_reducible apply oq_id); first | (focus ((with_reducible apply oq_indexAddrN); exact rfl; exact rfl; exact rfl; exact rfl; omega)) | ((with_reducible apply oq_neqF); exact rfl; exact rfl; omega) | (apply oq_fn; exact rfl; first | exact trivial | (refine ⟨?_, ?_⟩ <;> omega) | (refine ⟨?_, ?_, ?_⟩ <;> omega) | omega | skip) | ((with_reducible apply oq_load); exact rfl; exact rfl)) | ((with_reducible apply tl_id); first | ((with_reducible apply tl_nil)) | ((with_reducible apply u_q); exact rfl; exact rfl; exact rfl; exact rfl)) | ((with_reducible apply rd_id); first | (apply Rd.own; (repeat (first | exact P0 | apply P1 | apply PA)); exact rfl; done) | (apply Rd.old; (first | (with_reducible assumption) | exact c0 | exact c1 | exact c2 | exact c3 | exact c4 | exact c5 | exact c6 | exact c7 | exact c8 | exact d0 | exact d1 | exact d2 | exact d3 | exact d4 | exact d5); first | exact List.not_mem_nil | exact m0 | exact m1 | exact m2 | exact m3 | exact m4 | exact m5 | exact m6 | exact m7 | exact m8 | exact m9)) | ((with_reducible apply t_id); first | ((with_reducible apply t_seq)) | (apply t_region; kernel_rfl) | ((with_reducible apply t_condF); exact rfl) | ((with_reducible apply t_skip))) | with_reducible apply q_thenN)
    all_goals exact ⟨rfl, (), trivial, by (repeat (first | exact FrSub.nil | (apply FrSub.cons; exact rfl))), by (repeat (first | exact HpSub.refl _ | (apply HpSub.consE; (repeat (first | exact P0 | apply P1 | apply PA)); exact rfl) | apply HpSub.appC | apply HpSub.skipX | apply HpSub.skipApp | exact HpSub.nil))⟩
  rintro ⟨⟩ -
  refine t_cut (ι := Unit) (fun _ => [(1, .int .i64 (i : Nat)), (2, .pointer (some ⟨b2, 0, none⟩)), (5, .bool true), (6, .int .i64 m1), (7, .int .i64 m2), (11, .int .i64 x.price)]) (fun _ => (b2, offCells o (some ⟨b1, o1, none⟩) cf B cb, some (25, 7, 1)) :: []) (fun _ => True) ?_ ?_
  · repeat' (first | ((with_reducible apply oq_id); first | (focus ((with_reducible apply oq_indexAddrN); exact rfl; exact rfl; exact rfl; exact rfl; omega)) | (apply oq_fn; exact rfl; first | exact trivial | (refine ⟨?_, ?_⟩ <;> omega) | (refine ⟨?_, ?_, ?_⟩ <;> omega) | omega | skip) | ((with_reducible apply oq_load); exact rfl; exact rfl)) | ((with_reducible apply tl_id); first | ((with_reducible apply tl_nil)) | ((with_reducible apply u_q); exact rfl; exact rfl; exact rfl; exact rfl)) | ((with_reducible apply rd_id); first | (apply Rd.own; (repeat (first | exact P0 | apply P1 | apply PA)); exact rfl; done) | (apply Rd.old; (first | (with_reducible assumption) | exact c0 | exact c1 | exact c2 | exact c3 | exact c4 | exact c5 | exact c6 | exact c7 | exact c8 | exact d0 | exact d1 | exact d2 | exact d3 | exact d4 | exact d5); first | exact List.not_mem_nil | exact m0 | exact m1 | exact m2 | exact m3 | exact m4 | exact m5 | exact m6 | exact m7 | exact m8 | exact m9)) | ((with_reducible apply t_id); first | (apply t_region; kernel_rfl)))
    all_goals exact ⟨rfl, (), trivial, by (repeat (first | exact FrSub.nil | (apply FrSub.cons; exact rfl))), by (repeat (first | exact HpSub.refl _ | (apply HpSub.consE; (repeat (first | exact P0 | apply P1 | apply PA)); exact rfl) | apply HpSub.appC | apply HpSub.skipX | apply HpSub.skipApp | exact HpSub.nil))⟩
  rintro ⟨⟩ -
  obtain ⟨p, hp⟩ : ∃ p, doR o ⟨5, (i : Int), 0, 0, 0⟩ = p := ⟨_, rfl⟩
  obtain ⟨e5, he5⟩ : ∃ e, doE o ⟨5, (i : Int), 0, 0, 0⟩ = e := ⟨_, rfl⟩
  refine t_cut (ι := Nat × Option (Nat × Nat) × Option (Nat × Nat)) (fun z => [(1, .int .i64 (i : Nat)), (2, .pointer (some ⟨b2, 0, none⟩)), (5, .bool true), (6, .int .i64 m1), (7, .int .i64 m2), (11, .int .i64 x.price), (12, .pointer (some ⟨z.1, 0, none⟩)), (13, .int .i64 e5)]) (fun z => (z.1, offCells p (clA z.2.1) (clC z.2.1) (clA z.2.2) (clC z.2.2), some (25, 7, 1)) :: (flH p z.2.1 ++ (bkH p z.2.2 ++ ((b2, offCells o (some ⟨b1, o1, none⟩) cf B cb, some (25, 7, 1)) :: [])))) (fun z => (z.2.1 = none → p.fl.length = 0) ∧ (z.2.2 = none → p.bk.length = 0)) ?_ ?_
  · repeat' (first | ((with_reducible apply oq_id); first | (apply oq_fn; exact rfl; first | exact trivial | (refine ⟨?_, ?_⟩ <;> omega) | (refine ⟨?_, ?_, ?_⟩ <;> omega) | omega | skip) | ((with_reducible apply oq_loadAgg); exact rfl; exact rfl) | ((with_reducible apply oq_build); exact rfl; exact rfl; exact rfl)) | ((with_reducible apply tl_id); first | ((with_reducible apply tl_nil)) | ((with_reducible apply u_s); exact rfl; exact rfl; exact rfl; (with_reducible apply os_callF (PV := AnyV (doR o ⟨5, (i : Int), 0, 0, 0⟩) (doE o ⟨5, (i : Int), 0, 0, 0⟩)) (k := 37) (hc := Try.call37)); exact rfl; exact rfl; exact fun D w1 hw1 => cDo_T o (some ⟨b1, o1, none⟩) cf B cb w1 (hA.ext hw1.ext.ext) (hB.ext hw1.ext.ext) hnA hnB hu hn hn2 ⟨5, (i : Int), 0, 0, 0⟩ hk5; rintro v H' ⟨x1, y1, hx1, hy1, rfl, rfl⟩; (simp only [List.append_assoc])) | ((with_reducible apply u_q); exact rfl; exact rfl; exact rfl; exact rfl) | ((with_reducible apply u_s0); exact rfl; exact rfl) | ((with_reducible apply u_s); exact rfl; exact rfl; exact rfl)) | ((with_reducible apply os_id); first | ((with_reducible apply os_x); exact rfl) | ((with_reducible apply os_storeAgg); exact rfl; exact rfl; exact rfl; exact rfl; exact rfl)) | ((with_reducible apply ox_id); first | ((with_reducible apply ox_alloc); exact rfl; intro _)) | ((with_reducible apply rd_id); first | (apply Rd.own; (repeat (first | exact P0 | apply P1 | apply PA)); exact rfl; done)) | ((with_reducible apply t_id); first | (apply t_region; kernel_rfl)) | exact P0 | exact Rdn.zero | apply Rdn.succ | ((with_reducible apply Norm.nil); exact rfl) | ((with_reducible apply Norm.cons); exact rfl) | exact Nat.le_of_ble_eq_true rfl)
    all_goals (rw [hp] at hx1 hy1)
    all_goals (refine ⟨by trivial, (_, x1, y1), ⟨hx1, hy1⟩, by (simp only [he5]; (repeat (first | exact FrSub.nil | (apply FrSub.cons; exact rfl)))), ?_⟩)
    all_goals (simp only [hp]; (repeat (first | exact HpSub.refl _ | (apply HpSub.consE; (repeat (first | exact P0 | apply P1 | apply PA)); exact rfl) | apply HpSub.appC | apply HpSub.skipX | apply HpSub.skipApp | exact HpSub.nil)))
  rintro ⟨b12, x1, y1⟩ ⟨hx1, hy1⟩
  simp only at hx1 hy1 ⊢
  have hp2 : p = doneO o ⟨5, (i : Int), 0, 0, 0⟩ := by rw [← hp]; unfold doR; rw [if_pos ⟨hv, hE5⟩]
  obtain rfl : e5 = 0 := by rw [← he5]; unfold doE; rw [if_pos hv, hE5]
  rw [← hp2] at hF5
  obtain ⟨hPo, hPv, ⟨mm, hPc⟩, hPout⟩ := hF5
  rw [hm1e, hm2e, hPP1] at hPout
  have HCp := fun A cf B cb w1 hA hB hnA hnB => counts_T p A cf B cb w1 hA hB hnA hnB (fun d hd => (hPo.deps d hd).2) (by have := hPo.nf; omega) (by have := hPo.nb; omega) (i : Int)
  simp only [hPc] at HCp
  refine t_cut (ι := Unit) (fun _ => [(1, .int .i64 (i : Nat)), (2, .pointer (some ⟨b2, 0, none⟩)), (5, .bool true), (6, .int .i64 m1), (7, .int .i64 m2), (11, .int .i64 x.price), (12, .pointer (some ⟨b12, 0, none⟩)), (13, .int .i64 0), (14, .int .i64 0), (15, .int .i64 0), (16, .int .i64 0), (18, .int .i64 0)]) (fun _ => (b12, offCells p (clA x1) (clC x1) (clA y1) (clC y1), some (25, 7, 1)) :: (flH p x1 ++ (bkH p y1 ++ ((b2, offCells o (some ⟨b1, o1, none⟩) cf B cb, some (25, 7, 1)) :: [])))) (fun _ => True) ?_ ?_
  · repeat' (first | ((with_reducible apply oq_id); first | (apply oq_fn; exact rfl; first | exact trivial | (refine ⟨?_, ?_⟩ <;> omega) | (refine ⟨?_, ?_, ?_⟩ <;> omega) | omega | skip) | ((with_reducible apply oq_loadAgg); exact rfl; exact rfl) | ((with_reducible apply oq_call (k := 20) (hc := Try.call20)); exact rfl; exact rfl; exact fun D w1 hw1 => HCp (clA x1) (clC x1) (clA y1) (clC y1) w1 (clH_rows (x := x1) (hw1.sub (show HpSub _ (clH 106 4 (p.fl.map depCells).flatten x1) from (by repeat (first | exact HpSub.refl _ | exact HpSub.appLeft | apply HpSub.skipX | apply HpSub.skipApp)))) (fun _ => rfl) rfl hx1) (clH_rows (x := y1) (hw1.sub (show HpSub _ (clH 71 3 (p.bk.map bkCells).flatten y1) from (by repeat (first | exact HpSub.refl _ | exact HpSub.appLeft | apply HpSub.skipX | apply HpSub.skipApp)))) (fun _ => rfl) rfl hy1) (nilA hx1) (nilA hy1))) | ((with_reducible apply tl_id); first | ((with_reducible apply tl_nil)) | ((with_reducible apply u_q); exact rfl; exact rfl; exact rfl; exact rfl)) | ((with_reducible apply rd_id); first | (apply Rd.own; (repeat (first | exact P0 | apply P1 | apply PA)); exact rfl; done)) | ((with_reducible apply t_id); first | (apply t_region; kernel_rfl)) | exact Rdn.zero | apply Rdn.succ)
    all_goals exact ⟨rfl, (), trivial, by (repeat (first | exact FrSub.nil | (apply FrSub.cons; exact rfl))), by (repeat (first | exact HpSub.refl _ | (apply HpSub.consE; (repeat (first | exact P0 | apply P1 | apply PA)); exact rfl) | apply HpSub.appC | apply HpSub.skipX | apply HpSub.skipApp | exact HpSub.nil))⟩
  rintro ⟨⟩ -
  refine t_cut (ι := Unit) (fun _ => [(1, .int .i64 (i : Nat)), (2, .pointer (some ⟨b2, 0, none⟩)), (5, .bool true), (6, .int .i64 m1), (7, .int .i64 m2), (11, .int .i64 x.price)]) (fun _ => (b2, offCells o (some ⟨b1, o1, none⟩) cf B cb, some (25, 7, 1)) :: []) (fun _ => True) ?_ ?_
  · repeat' (first | ((with_reducible apply oq_id); first | (focus ((with_reducible apply oq_mulE (k := U1)); exact rfl; exact rfl; exact hPP1; omega)) | ((with_reducible apply oq_neqF); exact rfl; exact rfl; omega) | (apply oq_fn; exact rfl; first | exact trivial | (refine ⟨?_, ?_⟩ <;> omega) | (refine ⟨?_, ?_, ?_⟩ <;> omega) | omega | skip) | ((with_reducible apply oq_load); exact rfl; exact rfl)) | ((with_reducible apply tl_id); first | ((with_reducible apply tl_nil)) | ((with_reducible apply u_q); exact rfl; exact rfl; exact rfl; exact rfl)) | ((with_reducible apply rd_id); first | (apply Rd.own; (repeat (first | exact P0 | apply P1 | apply PA)); exact rfl; done)) | ((with_reducible apply t_id); first | ((with_reducible apply t_seq)) | (apply t_region; kernel_rfl) | ((with_reducible apply t_condF); exact rfl) | ((with_reducible apply t_skip))) | with_reducible apply q_thenN)
    all_goals exact ⟨rfl, (), trivial, by (repeat (first | exact FrSub.nil | (apply FrSub.cons; exact rfl))), by (repeat (first | exact HpSub.refl _ | (apply HpSub.consE; (repeat (first | exact P0 | apply P1 | apply PA)); exact rfl) | apply HpSub.appC | apply HpSub.skipX | apply HpSub.skipApp | exact HpSub.nil))⟩
  rintro ⟨⟩ -
  obtain ⟨q, hq⟩ : ∃ p, doR o ⟨4, (i : Int), 0, 0, 0⟩ = p := ⟨_, rfl⟩
  obtain ⟨e4, he4⟩ : ∃ e, doE o ⟨4, (i : Int), 0, 0, 0⟩ = e := ⟨_, rfl⟩
  refine t_cut (ι := Nat × Option (Nat × Nat) × Option (Nat × Nat)) (fun z => [(1, .int .i64 (i : Nat)), (2, .pointer (some ⟨b2, 0, none⟩)), (5, .bool true), (6, .int .i64 m1), (7, .int .i64 m2), (11, .int .i64 x.price), (19, .pointer (some ⟨z.1, 0, none⟩)), (13, .int .i64 e4)]) (fun z => (z.1, offCells q (clA z.2.1) (clC z.2.1) (clA z.2.2) (clC z.2.2), some (25, 7, 1)) :: (flH q z.2.1 ++ (bkH q z.2.2 ++ ((b2, offCells o (some ⟨b1, o1, none⟩) cf B cb, some (25, 7, 1)) :: [])))) (fun z => (z.2.1 = none → q.fl.length = 0) ∧ (z.2.2 = none → q.bk.length = 0)) ?_ ?_
  · repeat' (first | ((with_reducible apply oq_id); first | (apply oq_fn; exact rfl; first | exact trivial | (refine ⟨?_, ?_⟩ <;> omega) | (refine ⟨?_, ?_, ?_⟩ <;> omega) | omega | skip) | ((with_reducible apply oq_loadAgg); exact rfl; exact rfl) | ((with_reducible apply oq_build); exact rfl; exact rfl; exact rfl)) | ((with_reducible apply tl_id); first | ((with_reducible apply tl_nil)) | ((with_reducible apply u_s); exact rfl; exact rfl; exact rfl; (with_reducible apply os_callF (PV := AnyV (doR o ⟨4, (i : Int), 0, 0, 0⟩) (doE o ⟨4, (i : Int), 0, 0, 0⟩)) (k := 37) (hc := Try.call37)); exact rfl; exact rfl; exact fun D w1 hw1 => cDo_T o (some ⟨b1, o1, none⟩) cf B cb w1 (hA.ext hw1.ext.ext) (hB.ext hw1.ext.ext) hnA hnB hu hn hn2 ⟨4, (i : Int), 0, 0, 0⟩ hk4; rintro v H' ⟨x2, y2, hx2, hy2, rfl, rfl⟩; (simp only [List.append_assoc])) | ((with_reducible apply u_q); exact rfl; exact rfl; exact rfl; exact rfl) | ((with_reducible apply u_s0); exact rfl; exact rfl) | ((with_reducible apply u_s); exact rfl; exact rfl; exact rfl)) | ((with_reducible apply os_id); first | ((with_reducible apply os_x); exact rfl) | ((with_reducible apply os_storeAgg); exact rfl; exact rfl; exact rfl; exact rfl; exact rfl)) | ((with_reducible apply ox_id); first | ((with_reducible apply ox_alloc); exact rfl; intro _)) | ((with_reducible apply rd_id); first | (apply Rd.own; (repeat (first | exact P0 | apply P1 | apply PA)); exact rfl; done)) | ((with_reducible apply t_id); first | (apply t_region; kernel_rfl)) | exact P0 | exact Rdn.zero | apply Rdn.succ | ((with_reducible apply Norm.nil); exact rfl) | ((with_reducible apply Norm.cons); exact rfl) | exact Nat.le_of_ble_eq_true rfl)
    all_goals (rw [hq] at hx2 hy2)
    all_goals (refine ⟨by trivial, (_, x2, y2), ⟨hx2, hy2⟩, by (simp only [he4]; (repeat (first | exact FrSub.nil | (apply FrSub.cons; exact rfl)))), ?_⟩)
    all_goals (simp only [hq]; (repeat (first | exact HpSub.refl _ | (apply HpSub.consE; (repeat (first | exact P0 | apply P1 | apply PA)); exact rfl) | apply HpSub.appC | apply HpSub.skipX | apply HpSub.skipApp | exact HpSub.nil)))
  rintro ⟨b19, x2, y2⟩ ⟨hx2, hy2⟩
  simp only at hx2 hy2 ⊢
  have hq2 : (x.leaves ≤ o.now ∧ e4 = 0 ∧ LeaF o q i x.price) ∨ (o.now < x.leaves ∧ e4 = 86 ∧ q = zeroO) := by
    by_cases hl : x.leaves ≤ o.now
    · obtain ⟨hE, hF⟩ := hlea h0 hl
      refine .inl ⟨hl, by rw [← he4]; unfold doE; rw [if_pos hv, hE], ?_⟩
      rw [← hq]
      unfold doR
      rw [if_pos ⟨hv, hE⟩]
      exact hF
    · have hE := leave_no hi h0 (show o.now < x.leaves by omega)
      refine .inr ⟨by omega, by rw [← he4]; unfold doE; rw [if_pos hv, hE], ?_⟩
      rw [← hq]
      unfold doR
      rw [if_neg fun h => by rw [hE] at h; exact absurd h.2 (by decide)]
  have hql : (∀ d ∈ q.fl, 0 ≤ d.state) ∧ q.fl.length ≤ 1000000 ∧ q.bk.length ≤ 1000000 := by
    rcases hq2 with ⟨_, _, hF⟩ | ⟨_, _, rfl⟩
    · exact ⟨fun d hd => (hF.ok.deps d hd).2, by have := hF.ok.nf; omega, by have := hF.ok.nb; omega⟩
    · exact ⟨fun d hd => by simp [zeroO] at hd, by simp [zeroO], by simp [zeroO]⟩
  have HCq := fun A cf B cb w1 hA hB hnA hnB => counts_T q A cf B cb w1 hA hB hnA hnB hql.1 hql.2.1 hql.2.2 (i : Int)
  have hqc : x.leaves ≤ o.now → (∃ m, countsS q (i : Int) = (0, 0, m1, m, 0)) ∧ e4 = 0 ∧ q.out = o.out + U2 := fun hl => by
    rcases hq2 with ⟨_, h1, hF⟩ | ⟨h1, _⟩
    · have h2 := hF.c
      have h3 := hF.out
      rw [hm1e] at h2
      rw [hm2e, hPP2] at h3
      exact ⟨h2, h1, h3⟩
    · omega
  have hqn : ¬ x.leaves ≤ o.now → e4 = 86 := fun hl => by
    rcases hq2 with ⟨h1, _⟩ | ⟨_, h1, _⟩
    · exact absurd h1 hl
    · exact h1
  generalize countsS q (i : Int) = cq at HCq hqc
  obtain ⟨c1', c2', c3', c4', c5'⟩ := cq
  simp only at HCq
  refine t_cut (ι := Unit) (fun _ => [(1, .int .i64 (i : Nat)), (2, .pointer (some ⟨b2, 0, none⟩)), (5, .bool true), (6, .int .i64 m1), (7, .int .i64 m2), (11, .int .i64 x.price), (13, .int .i64 e4), (14, .int .i64 c1'), (15, .int .i64 c2'), (16, .int .i64 c3'), (18, .int .i64 c5'), (19, .pointer (some ⟨b19, 0, none⟩))]) (fun _ => (b19, offCells q (clA x2) (clC x2) (clA y2) (clC y2), some (25, 7, 1)) :: (flH q x2 ++ (bkH q y2 ++ ((b2, offCells o (some ⟨b1, o1, none⟩) cf B cb, some (25, 7, 1)) :: [])))) (fun _ => True) ?_ ?_
  · repeat' (first | ((with_reducible apply oq_id); first | (apply oq_fn; exact rfl; first | exact trivial | (refine ⟨?_, ?_⟩ <;> omega) | (refine ⟨?_, ?_, ?_⟩ <;> omega) | omega | skip) | ((with_reducible apply oq_loadAgg); exact rfl; exact rfl) | ((with_reducible apply oq_call (k := 20) (hc := Try.call20)); exact rfl; exact rfl; exact fun D w1 hw1 => HCq (clA x2) (clC x2) (clA y2) (clC y2) w1 (clH_rows (x := x2) (hw1.sub (show HpSub _ (clH 106 4 (q.fl.map depCells).flatten x2) from (by repeat (first | exact HpSub.refl _ | exact HpSub.appLeft | apply HpSub.skipX | apply HpSub.skipApp)))) (fun _ => rfl) rfl hx2) (clH_rows (x := y2) (hw1.sub (show HpSub _ (clH 71 3 (q.bk.map bkCells).flatten y2) from (by repeat (first | exact HpSub.refl _ | exact HpSub.appLeft | apply HpSub.skipX | apply HpSub.skipApp)))) (fun _ => rfl) rfl hy2) (nilA hx2) (nilA hy2))) | ((with_reducible apply tl_id); first | ((with_reducible apply tl_nil)) | ((with_reducible apply u_q); exact rfl; exact rfl; exact rfl; exact rfl)) | ((with_reducible apply rd_id); first | (apply Rd.own; (repeat (first | exact P0 | apply P1 | apply PA)); exact rfl; done)) | ((with_reducible apply t_id); first | (apply t_region; kernel_rfl)) | exact Rdn.zero | apply Rdn.succ)
    all_goals exact ⟨rfl, (), trivial, by (repeat (first | exact FrSub.nil | (apply FrSub.cons; exact rfl))), by (repeat (first | exact HpSub.refl _ | (apply HpSub.consE; (repeat (first | exact P0 | apply P1 | apply PA)); exact rfl) | apply HpSub.appC | apply HpSub.skipX | apply HpSub.skipApp | exact HpSub.nil))⟩
  rintro ⟨⟩ -
  refine t_cut (ι := Unit) (fun _ => [(1, .int .i64 (i : Nat)), (2, .pointer (some ⟨b2, 0, none⟩)), (5, .bool true), (6, .int .i64 m1), (7, .int .i64 m2), (11, .int .i64 x.price)]) (fun _ => (b2, offCells o (some ⟨b1, o1, none⟩) cf B cb, some (25, 7, 1)) :: []) (fun _ => True) ?_ ?_
  · by_cases hl : x.leaves ≤ o.now
    · obtain ⟨⟨mq, hcq⟩, h2, h3⟩ := hqc hl
      simp only [Prod.mk.injEq] at hcq
      obtain ⟨e1, e2, e3, e4', e5'⟩ := hcq
      subst e1 e2 e3 e5'
      repeat' (first | ((with_reducible apply oq_id); first | (focus ((with_reducible apply oq_indexAddrN); exact rfl; exact rfl; exact rfl; exact rfl; omega)) | (focus ((with_reducible apply oq_mulE (k := U2)); exact rfl; exact rfl; exact hPP2; omega)) | ((with_reducible apply oq_lssF); exact rfl; exact rfl; omega) | ((with_reducible apply oq_neqF); exact rfl; exact rfl; omega) | (apply oq_fn; exact rfl; first | exact trivial | (refine ⟨?_, ?_⟩ <;> omega) | (refine ⟨?_, ?_, ?_⟩ <;> omega) | omega | skip) | ((with_reducible apply oq_load); exact rfl; exact rfl)) | ((with_reducible apply tl_id); first | ((with_reducible apply tl_nil)) | ((with_reducible apply u_q); exact rfl; exact rfl; exact rfl; exact rfl)) | ((with_reducible apply gx_id); first | ((with_reducible apply v_nil)) | ((with_reducible apply v_q); exact rfl; exact rfl; exact rfl)) | ((with_reducible apply rd_id); first | (apply Rd.own; (repeat (first | exact P0 | apply P1 | apply PA)); exact rfl; done) | (apply Rd.old; (first | (with_reducible assumption) | exact c0 | exact c1 | exact c2 | exact c3 | exact c4 | exact c5 | exact c6 | exact c7 | exact c8 | exact d0 | exact d1 | exact d2 | exact d3 | exact d4 | exact d5); first | exact List.not_mem_nil | exact m0 | exact m1 | exact m2 | exact m3 | exact m4 | exact m5 | exact m6 | exact m7 | exact m8 | exact m9)) | ((with_reducible apply t_id); first | ((with_reducible apply t_seq)) | (apply t_region; kernel_rfl) | (apply t_drawn; kernel_rfl; decide +kernel; try simp only [List.append_eq, List.cons_append, List.nil_append]) | ((with_reducible apply t_condF); exact rfl) | ((with_reducible apply t_skip))) | with_reducible apply q_thenN)
      all_goals exact ⟨rfl, (), trivial, by (repeat (first | exact FrSub.nil | (apply FrSub.cons; exact rfl))), by (repeat (first | exact HpSub.refl _ | (apply HpSub.consE; (repeat (first | exact P0 | apply P1 | apply PA)); exact rfl) | apply HpSub.appC | apply HpSub.skipX | apply HpSub.skipApp | exact HpSub.nil))⟩
    · have h2 := hqn hl
      repeat' (first | ((with_reducible apply oq_id); first | (focus ((with_reducible apply oq_indexAddrN); exact rfl; exact rfl; exact rfl; exact rfl; omega)) | ((with_reducible apply oq_lssT); exact rfl; exact rfl; omega) | ((with_reducible apply oq_neqF); exact rfl; exact rfl; omega) | (apply oq_fn; exact rfl; first | exact trivial | (refine ⟨?_, ?_⟩ <;> omega) | (refine ⟨?_, ?_, ?_⟩ <;> omega) | omega | skip) | ((with_reducible apply oq_load); exact rfl; exact rfl)) | ((with_reducible apply tl_id); first | ((with_reducible apply tl_nil)) | ((with_reducible apply u_q); exact rfl; exact rfl; exact rfl; exact rfl)) | ((with_reducible apply gx_id); first | ((with_reducible apply v_nil)) | ((with_reducible apply v_q); exact rfl; exact rfl; exact rfl)) | ((with_reducible apply rd_id); first | (apply Rd.own; (repeat (first | exact P0 | apply P1 | apply PA)); exact rfl; done) | (apply Rd.old; (first | (with_reducible assumption) | exact c0 | exact c1 | exact c2 | exact c3 | exact c4 | exact c5 | exact c6 | exact c7 | exact c8 | exact d0 | exact d1 | exact d2 | exact d3 | exact d4 | exact d5); first | exact List.not_mem_nil | exact m0 | exact m1 | exact m2 | exact m3 | exact m4 | exact m5 | exact m6 | exact m7 | exact m8 | exact m9)) | ((with_reducible apply t_id); first | ((with_reducible apply t_seq)) | (apply t_region; kernel_rfl) | (apply t_drawn; kernel_rfl; decide +kernel; try simp only [List.append_eq, List.cons_append, List.nil_append]) | ((with_reducible apply t_condT); exact rfl) | ((with_reducible apply t_condF); exact rfl) | ((with_reducible apply t_skip))) | with_reducible apply q_thenN)
      all_goals exact ⟨rfl, (), trivial, by (repeat (first | exact FrSub.nil | (apply FrSub.cons; exact rfl))), by (repeat (first | exact HpSub.refl _ | (apply HpSub.consE; (repeat (first | exact P0 | apply P1 | apply PA)); exact rfl) | apply HpSub.appC | apply HpSub.skipX | apply HpSub.skipApp | exact HpSub.nil))⟩
  rintro ⟨⟩ -
  clear hqc hqn hq2 hql HCq HCp
  obtain ⟨r, hr⟩ : ∃ p, doR o ⟨2, (i : Int), 0, 0, 0⟩ = p := ⟨_, rfl⟩
  obtain ⟨e2, he2⟩ : ∃ e, doE o ⟨2, (i : Int), 0, 0, 0⟩ = e := ⟨_, rfl⟩
  refine t_cut (ι := Nat × Option (Nat × Nat) × Option (Nat × Nat)) (fun z => [(1, .int .i64 (i : Nat)), (2, .pointer (some ⟨b2, 0, none⟩)), (5, .bool true), (6, .int .i64 m1), (7, .int .i64 m2), (11, .int .i64 x.price), (20, .pointer (some ⟨z.1, 0, none⟩)), (13, .int .i64 e2)]) (fun z => (z.1, offCells r (clA z.2.1) (clC z.2.1) (clA z.2.2) (clC z.2.2), some (25, 7, 1)) :: (flH r z.2.1 ++ (bkH r z.2.2 ++ ((b2, offCells o (some ⟨b1, o1, none⟩) cf B cb, some (25, 7, 1)) :: [])))) (fun z => (z.2.1 = none → r.fl.length = 0) ∧ (z.2.2 = none → r.bk.length = 0)) ?_ ?_
  · repeat' (first | ((with_reducible apply oq_id); first | (apply oq_fn; exact rfl; first | exact trivial | (refine ⟨?_, ?_⟩ <;> omega) | (refine ⟨?_, ?_, ?_⟩ <;> omega) | omega | skip) | ((with_reducible apply oq_loadAgg); exact rfl; exact rfl) | ((with_reducible apply oq_build); exact rfl; exact rfl; exact rfl)) | ((with_reducible apply tl_id); first | ((with_reducible apply tl_nil)) | ((with_reducible apply u_s); exact rfl; exact rfl; exact rfl; (with_reducible apply os_callF (PV := AnyV (doR o ⟨2, (i : Int), 0, 0, 0⟩) (doE o ⟨2, (i : Int), 0, 0, 0⟩)) (k := 37) (hc := Try.call37)); exact rfl; exact rfl; exact fun D w1 hw1 => cDo_T o (some ⟨b1, o1, none⟩) cf B cb w1 (hA.ext hw1.ext.ext) (hB.ext hw1.ext.ext) hnA hnB hu hn hn2 ⟨2, (i : Int), 0, 0, 0⟩ hk2; rintro v H' ⟨x3, y3, hx3, hy3, rfl, rfl⟩; (simp only [List.append_assoc])) | ((with_reducible apply u_q); exact rfl; exact rfl; exact rfl; exact rfl) | ((with_reducible apply u_s0); exact rfl; exact rfl) | ((with_reducible apply u_s); exact rfl; exact rfl; exact rfl)) | ((with_reducible apply os_id); first | ((with_reducible apply os_x); exact rfl) | ((with_reducible apply os_storeAgg); exact rfl; exact rfl; exact rfl; exact rfl; exact rfl)) | ((with_reducible apply ox_id); first | ((with_reducible apply ox_alloc); exact rfl; intro _)) | ((with_reducible apply rd_id); first | (apply Rd.own; (repeat (first | exact P0 | apply P1 | apply PA)); exact rfl; done)) | ((with_reducible apply t_id); first | (apply t_region; kernel_rfl)) | exact P0 | exact Rdn.zero | apply Rdn.succ | ((with_reducible apply Norm.nil); exact rfl) | ((with_reducible apply Norm.cons); exact rfl) | exact Nat.le_of_ble_eq_true rfl)
    all_goals (rw [hr] at hx3 hy3)
    all_goals (refine ⟨by trivial, (_, x3, y3), ⟨hx3, hy3⟩, by (simp only [he2]; (repeat (first | exact FrSub.nil | (apply FrSub.cons; exact rfl)))), ?_⟩)
    all_goals (simp only [hr]; (repeat (first | exact HpSub.refl _ | (apply HpSub.consE; (repeat (first | exact P0 | apply P1 | apply PA)); exact rfl) | apply HpSub.appC | apply HpSub.skipX | apply HpSub.skipApp | exact HpSub.nil)))
  rintro ⟨b20, x3, y3⟩ ⟨hx3, hy3⟩
  simp only at hx3 hy3 ⊢
  by_cases hl : o.bk.length < 120
  rotate_left
  · have hE := sell_no hi h0 hl
    have h9 : e2 = 9 := by rw [← he2]; unfold doE; rw [if_pos hv, hE]
    have hnb := hO.nb
    repeat' (first | ((with_reducible apply oq_id); first | ((with_reducible apply oq_eqlT); exact rfl; exact rfl; omega) | (apply oq_fn; exact rfl; first | exact trivial | (refine ⟨?_, ?_⟩ <;> omega) | (refine ⟨?_, ?_, ?_⟩ <;> omega) | omega | skip) | ((with_reducible apply oq_load); exact rfl; exact rfl)) | ((with_reducible apply tl_id); first | ((with_reducible apply tl_nil)) | ((with_reducible apply u_q); exact rfl; exact rfl; exact rfl; exact rfl)) | ((with_reducible apply rd_id); first | (apply Rd.own; (repeat (first | exact P0 | apply P1 | apply PA)); exact rfl; done)) | ((with_reducible apply t_id); first | ((with_reducible apply t_seq)) | (apply t_region; kernel_rfl) | ((with_reducible apply t_condT); exact rfl) | ((with_reducible apply t_ret))) | with_reducible apply q_thenN | with_reducible apply q_thenR | ((with_reducible apply end_ret)) | exact rvs_nil | ((with_reducible apply rvs_cons)) | ((with_reducible apply rv_tmp); exact rfl))
    all_goals rfl
  obtain ⟨hE2, hF2⟩ := sell_done hO hi h0 hl
  have hr2 : r = doneO o ⟨2, (i : Int), 0, 0, 0⟩ := by rw [← hr]; unfold doR; rw [if_pos ⟨hv, hE2⟩]
  obtain rfl : e2 = 0 := by rw [← he2]; unfold doE; rw [if_pos hv, hE2]
  rw [← hr2] at hF2
  have hrl : r.bk.length = o.bk.length + 1 := by rw [hF2.bk]; simp
  have hrin := hF2.inn
  have hoin := hO.inn
  have hur : ∀ d ∈ r.fl, 0 ≤ d.state := fun d hd => (hF2.ok.deps d hd).2
  have hnr : r.fl.length ≤ 1000000 := by have := hF2.ok.nf; omega
  have hnr2 : r.bk.length ≤ 1000000 := by have := hF2.ok.nb; omega
  obtain ⟨hE3, hs⟩ := cancel_done hO hi h0 hF2
  refine t_cut (ι := Unit) (fun _ => [(1, .int .i64 (i : Nat)), (2, .pointer (some ⟨b2, 0, none⟩)), (5, .bool true), (6, .int .i64 m1), (7, .int .i64 m2), (11, .int .i64 x.price), (13, .int .i64 0), (20, .pointer (some ⟨b20, 0, none⟩))]) (fun _ => (b20, offCells r (clA x3) (clC x3) (clA y3) (clC y3), some (25, 7, 1)) :: (flH r x3 ++ (bkH r y3 ++ ((b2, offCells o (some ⟨b1, o1, none⟩) cf B cb, some (25, 7, 1)) :: [])))) (fun _ => True) ?_ ?_
  · repeat' (first | ((with_reducible apply oq_id); first | ((with_reducible apply oq_eqlF); exact rfl; exact rfl; omega) | (apply oq_fn; exact rfl; first | exact trivial | (refine ⟨?_, ?_⟩ <;> omega) | (refine ⟨?_, ?_, ?_⟩ <;> omega) | omega | skip)) | ((with_reducible apply tl_id); first | ((with_reducible apply tl_nil)) | ((with_reducible apply u_q); exact rfl; exact rfl; exact rfl; exact rfl)) | ((with_reducible apply t_id); first | ((with_reducible apply t_seq)) | (apply t_region; kernel_rfl) | ((with_reducible apply t_condF); exact rfl) | ((with_reducible apply t_skip))) | with_reducible apply q_thenN)
    all_goals exact ⟨rfl, (), trivial, by (repeat (first | exact FrSub.nil | (apply FrSub.cons; exact rfl))), by (repeat (first | exact HpSub.refl _ | (apply HpSub.consE; (repeat (first | exact P0 | apply P1 | apply PA)); exact rfl) | apply HpSub.appC | apply HpSub.skipX | apply HpSub.skipApp | exact HpSub.nil))⟩
  rintro ⟨⟩ -
  refine t_cut (ι := Unit) (fun _ => [(1, .int .i64 (i : Nat)), (2, .pointer (some ⟨b2, 0, none⟩)), (5, .bool true), (6, .int .i64 m1), (7, .int .i64 m2), (11, .int .i64 x.price), (13, .int .i64 0), (20, .pointer (some ⟨b20, 0, none⟩)), (21, .int .i64 (o.bk.length : Nat))]) (fun _ => (b20, offCells r (clA x3) (clC x3) (clA y3) (clC y3), some (25, 7, 1)) :: (flH r x3 ++ (bkH r y3 ++ ((b2, offCells o (some ⟨b1, o1, none⟩) cf B cb, some (25, 7, 1)) :: [])))) (fun _ => True) ?_ ?_
  · repeat' (first | ((with_reducible apply oq_id); first | (apply oq_fn; exact rfl; first | exact trivial | (refine ⟨?_, ?_⟩ <;> omega) | (refine ⟨?_, ?_, ?_⟩ <;> omega) | omega | skip) | ((with_reducible apply oq_load); exact rfl; exact rfl)) | ((with_reducible apply tl_id); first | ((with_reducible apply tl_nil)) | ((with_reducible apply u_q); exact rfl; exact rfl; exact rfl; exact rfl)) | ((with_reducible apply rd_id); first | (apply Rd.own; (repeat (first | exact P0 | apply P1 | apply PA)); exact rfl; done)) | ((with_reducible apply t_id); first | (apply t_region; kernel_rfl)))
    all_goals exact ⟨rfl, (), trivial, by (repeat (first | exact FrSub.nil | (apply FrSub.cons; exact rfl))), by (repeat (first | exact HpSub.refl _ | (apply HpSub.consE; (repeat (first | exact P0 | apply P1 | apply PA)); exact rfl) | apply HpSub.appC | apply HpSub.skipX | apply HpSub.skipApp | exact HpSub.nil))⟩
  rintro ⟨⟩ -
  refine t_cut (ι := Unit) (fun _ => [(1, .int .i64 (i : Nat)), (2, .pointer (some ⟨b2, 0, none⟩)), (5, .bool true), (6, .int .i64 m1), (7, .int .i64 m2), (11, .int .i64 x.price), (20, .pointer (some ⟨b20, 0, none⟩)), (21, .int .i64 (o.bk.length : Nat))]) (fun _ => (b20, offCells r (clA x3) (clC x3) (clA y3) (clC y3), some (25, 7, 1)) :: (flH r x3 ++ (bkH r y3 ++ ((b2, offCells o (some ⟨b1, o1, none⟩) cf B cb, some (25, 7, 1)) :: [])))) (fun _ => True) ?_ ?_
  · repeat' (first | ((with_reducible apply oq_id); first | ((with_reducible apply oq_neqF); exact rfl; exact rfl; omega) | (apply oq_fn; exact rfl; first | exact trivial | (refine ⟨?_, ?_⟩ <;> omega) | (refine ⟨?_, ?_, ?_⟩ <;> omega) | omega | skip) | ((with_reducible apply oq_load); exact rfl; exact rfl)) | ((with_reducible apply tl_id); first | ((with_reducible apply tl_nil)) | ((with_reducible apply u_q); exact rfl; exact rfl; exact rfl; exact rfl)) | ((with_reducible apply rd_id); first | (apply Rd.own; (repeat (first | exact P0 | apply P1 | apply PA)); exact rfl; done)) | ((with_reducible apply t_id); first | ((with_reducible apply t_seq)) | (apply t_region; kernel_rfl) | ((with_reducible apply t_condF); exact rfl) | ((with_reducible apply t_skip))) | with_reducible apply q_thenN)
    all_goals exact ⟨rfl, (), trivial, by (repeat (first | exact FrSub.nil | (apply FrSub.cons; exact rfl))), by (repeat (first | exact HpSub.refl _ | (apply HpSub.consE; (repeat (first | exact P0 | apply P1 | apply PA)); exact rfl) | apply HpSub.appC | apply HpSub.skipX | apply HpSub.skipApp | exact HpSub.nil))⟩
  rintro ⟨⟩ -
  obtain ⟨s, hse⟩ : ∃ p, doR r ⟨3, ((o.bk.length : Nat) : Int), 0, 0, 0⟩ = p := ⟨_, rfl⟩
  obtain ⟨e3, he3⟩ : ∃ e, doE r ⟨3, ((o.bk.length : Nat) : Int), 0, 0, 0⟩ = e := ⟨_, rfl⟩
  refine t_cut (ι := Nat × Option (Nat × Nat) × Option (Nat × Nat)) (fun z => [(1, .int .i64 (i : Nat)), (2, .pointer (some ⟨b2, 0, none⟩)), (5, .bool true), (6, .int .i64 m1), (7, .int .i64 m2), (11, .int .i64 x.price), (21, .int .i64 (o.bk.length : Nat)), (22, .pointer (some ⟨z.1, 0, none⟩)), (13, .int .i64 e3)]) (fun z => (z.1, offCells s (clA z.2.1) (clC z.2.1) (clA z.2.2) (clC z.2.2), some (25, 7, 1)) :: (flH s z.2.1 ++ (bkH s z.2.2 ++ ((b2, offCells o (some ⟨b1, o1, none⟩) cf B cb, some (25, 7, 1)) :: [])))) (fun z => (z.2.1 = none → s.fl.length = 0) ∧ (z.2.2 = none → s.bk.length = 0)) ?_ ?_
  · repeat' (first | ((with_reducible apply oq_id); first | (apply oq_fn; exact rfl; first | exact trivial | (refine ⟨?_, ?_⟩ <;> omega) | (refine ⟨?_, ?_, ?_⟩ <;> omega) | omega | skip) | ((with_reducible apply oq_loadAgg); exact rfl; exact rfl) | ((with_reducible apply oq_build); exact rfl; exact rfl; exact rfl)) | ((with_reducible apply tl_id); first | ((with_reducible apply tl_nil)) | ((with_reducible apply u_s); exact rfl; exact rfl; exact rfl; (with_reducible apply os_callF (PV := AnyV (doR r ⟨3, ((o.bk.length : Nat) : Int), 0, 0, 0⟩) (doE r ⟨3, ((o.bk.length : Nat) : Int), 0, 0, 0⟩)) (k := 37) (hc := Try.call37)); exact rfl; exact rfl; exact fun D w1 hw1 => cDo_T r (clA x3) (clC x3) (clA y3) (clC y3) w1 (clH_rows (x := x3) (hw1.sub (show HpSub _ (clH 106 4 (r.fl.map depCells).flatten x3) from (by repeat (first | exact HpSub.refl _ | exact HpSub.appLeft | apply HpSub.skipX | apply HpSub.skipApp)))) (fun _ => rfl) rfl hx3) (clH_rows (x := y3) (hw1.sub (show HpSub _ (clH 71 3 (r.bk.map bkCells).flatten y3) from (by repeat (first | exact HpSub.refl _ | exact HpSub.appLeft | apply HpSub.skipX | apply HpSub.skipApp)))) (fun _ => rfl) rfl hy3) (nilA hx3) (nilA hy3) hur hnr hnr2 ⟨3, ((o.bk.length : Nat) : Int), 0, 0, 0⟩ hk3; rintro v H' ⟨x4, y4, hx4, hy4, rfl, rfl⟩; (simp only [List.append_assoc])) | ((with_reducible apply u_q); exact rfl; exact rfl; exact rfl; exact rfl) | ((with_reducible apply u_s0); exact rfl; exact rfl) | ((with_reducible apply u_s); exact rfl; exact rfl; exact rfl)) | ((with_reducible apply os_id); first | ((with_reducible apply os_x); exact rfl) | ((with_reducible apply os_storeAgg); exact rfl; exact rfl; exact rfl; exact rfl; exact rfl)) | ((with_reducible apply ox_id); first | ((with_reducible apply ox_alloc); exact rfl; intro _)) | ((with_reducible apply rd_id); first | (apply Rd.own; (repeat (first | exact P0 | apply P1 | apply PA)); exact rfl; done)) | ((with_reducible apply t_id); first | (apply t_region; kernel_rfl)) | exact P0 | exact Rdn.zero | apply Rdn.succ | ((with_reducible apply Norm.nil); exact rfl) | ((with_reducible apply Norm.cons); exact rfl) | exact Nat.le_of_ble_eq_true rfl)
    all_goals (rw [hse] at hx4 hy4)
    all_goals (refine ⟨by trivial, (_, x4, y4), ⟨hx4, hy4⟩, by (simp only [he3]; (repeat (first | exact FrSub.nil | (apply FrSub.cons; exact rfl)))), ?_⟩)
    all_goals (simp only [hse]; (repeat (first | exact HpSub.refl _ | (apply HpSub.consE; (repeat (first | exact P0 | apply P1 | apply PA)); exact rfl) | apply HpSub.appC | apply HpSub.skipX | apply HpSub.skipApp | exact HpSub.nil)))
  rintro ⟨b22, x4, y4⟩ ⟨hx4, hy4⟩
  simp only at hx4 hy4 ⊢
  have hs2 : s = doneO r ⟨3, ((o.bk.length : Nat) : Int), 0, 0, 0⟩ := by rw [← hse]; unfold doR; rw [if_pos ⟨hF2.v, hE3⟩]
  obtain rfl : e3 = 0 := by rw [← he3]; unfold doE; rw [if_pos hF2.v, hE3]
  rw [← hs2] at hs
  refine t_cut (ι := Unit) (fun _ => [(1, .int .i64 (i : Nat)), (2, .pointer (some ⟨b2, 0, none⟩)), (5, .bool true), (6, .int .i64 m1), (7, .int .i64 m2), (11, .int .i64 x.price), (22, .pointer (some ⟨b22, 0, none⟩))]) (fun _ => (b22, offCells s (clA x4) (clC x4) (clA y4) (clC y4), some (25, 7, 1)) :: (flH s x4 ++ (bkH s y4 ++ ((b2, offCells o (some ⟨b1, o1, none⟩) cf B cb, some (25, 7, 1)) :: [])))) (fun _ => True) ?_ ?_
  · obtain ⟨y, hy, hy4s⟩ := hs.last
    have hsl := hs.len
    obtain ⟨q0, q1, q2⟩ := bk_at hy
    rcases y4 with _ | ⟨gy, cy⟩
    · have := hy4 rfl
      omega
    simp only [clA_some, clC_some, clH_some, List.cons_append, List.nil_append]
    repeat' (first | ((with_reducible apply oq_id); first | (focus ((with_reducible apply oq_indexAddrN); exact rfl; exact rfl; exact rfl; exact rfl; omega)) | ((with_reducible apply oq_neqF); exact rfl; exact rfl; omega) | (apply oq_fn; exact rfl; first | exact trivial | (refine ⟨?_, ?_⟩ <;> omega) | (refine ⟨?_, ?_, ?_⟩ <;> omega) | omega | skip) | ((with_reducible apply oq_load); exact rfl; exact rfl)) | ((with_reducible apply tl_id); first | ((with_reducible apply tl_nil)) | ((with_reducible apply u_q); exact rfl; exact rfl; exact rfl; exact rfl)) | ((with_reducible apply rd_id); first | (apply Rd.own; (repeat (first | exact P0 | apply P1 | apply PA)); first | exact q0 | exact q1 | exact q2; done) | (apply Rd.own; (repeat (first | exact P0 | apply P1 | apply PA)); exact rfl; done)) | ((with_reducible apply t_id); first | ((with_reducible apply t_seq)) | (apply t_region; kernel_rfl) | ((with_reducible apply t_condF); exact rfl) | ((with_reducible apply t_skip))) | with_reducible apply q_thenN)
    all_goals exact ⟨rfl, (), trivial, by (repeat (first | exact FrSub.nil | (apply FrSub.cons; exact rfl))), by (repeat (first | exact HpSub.refl _ | (apply HpSub.consE; (repeat (first | exact P0 | apply P1 | apply PA)); exact rfl) | apply HpSub.appC | apply HpSub.skipX | apply HpSub.skipApp | exact HpSub.nil))⟩
  rintro ⟨⟩ -
  repeat' (first | ((with_reducible apply oq_id); first | (apply oq_fn; exact rfl; first | exact trivial | (refine ⟨?_, ?_⟩ <;> omega) | (refine ⟨?_, ?_, ?_⟩ <;> omega) | omega | skip) | ((with_reducible apply oq_load); exact rfl; exact rfl)) | ((with_reducible apply tl_id); first | ((with_reducible apply tl_nil)) | ((with_reducible apply u_q); exact rfl; exact rfl; exact rfl; exact rfl)) | ((with_reducible apply rd_id); first | (apply Rd.own; (repeat (first | exact P0 | apply P1 | apply PA)); exact rfl; done)) | ((with_reducible apply t_id); first | ((with_reducible apply t_seq)) | (apply t_region; kernel_rfl) | ((with_reducible apply t_block))) | with_reducible apply q_thenN)
  apply t_loopK (GH := []) (ι := Nat) [1, 2, 5, 6, 11, 22, 24, 237, 253, 254, 255, 256, 257, 258, 259, 260, 261, 262, 263, 264, 265, 266, 267, 268, 269, 270, 271, 272, 273, 274, 275, 276, 277, 278, 279, 280, 281, 282, 283, 284, 285, 286, 287, 288] (fun z => [(238, .int .i64 (z : Nat))]) (fun z => (b22, offCells s (clA x4) (clC x4) (clA y4) (clC y4), some (25, 7, 1)) :: (flH s x4 ++ (bkH s y4 ++ ((b2, offCells o (some ⟨b1, o1, none⟩) cf B cb, some (25, 7, 1)) :: [])))) (fun z => z ≤ o.bk.length) (fun z => o.bk.length - z) (0)
  (repeat (first | exact KeepF.nil | (apply KeepF.cons; exact rfl) | apply KeepF.skip))
  (repeat (first | exact FrSub.nil | (apply FrSub.cons; exact rfl)))
  (simp only [List.append_nil]; (repeat (first | exact HpSub.refl _ | (apply HpSub.consE; (repeat (first | exact P0 | apply P1 | apply PA)); exact rfl) | apply HpSub.appC | apply HpSub.skipX | apply HpSub.skipApp | exact HpSub.nil)))
  · exact Nat.zero_le _
  rintro k hkl
  try simp only [List.cons_append, List.nil_append]
  simp only [List.append_nil]
  by_cases hlt : k < o.bk.length
  · obtain ⟨b7, o7, z, rfl, _, hz, d0, d1, d2⟩ := bk_read hB hlt
    obtain ⟨q0, q1, q2⟩ := bk_at (hs.old k z hz)
    have hsl := hs.len
    rcases y4 with _ | ⟨gy, cy⟩
    · have := hy4 rfl
      omega
    simp only [clA_some, clC_some, clH_some, List.cons_append, List.nil_append]
    repeat' (first | ((with_reducible apply oq_id); first | (focus ((with_reducible apply oq_indexAddrN); exact rfl; exact rfl; exact rfl; exact rfl; omega)) | ((with_reducible apply oq_ne71F); exact rfl; exact rfl) | ((with_reducible apply oq_lssT); exact rfl; exact rfl; omega) | (apply oq_fn; exact rfl; first | exact trivial | (refine ⟨?_, ?_⟩ <;> omega) | (refine ⟨?_, ?_, ?_⟩ <;> omega) | omega | skip) | ((with_reducible apply oq_load); exact rfl; exact rfl) | ((with_reducible apply oq_loadAgg); exact rfl; exact rfl)) | ((with_reducible apply tl_id); first | ((with_reducible apply tl_nil)) | ((with_reducible apply u_q); exact rfl; exact rfl; exact rfl; exact rfl)) | ((with_reducible apply gx_id); first | ((with_reducible apply v_nil)) | ((with_reducible apply v_q); exact rfl; exact rfl; exact rfl)) | ((with_reducible apply rd_id); first | (apply Rd.own; (repeat (first | exact P0 | apply P1 | apply PA)); first | exact q0 | exact q1 | exact q2; done) | (apply Rd.own; (repeat (first | exact P0 | apply P1 | apply PA)); exact rfl; done) | (apply Rd.old; (first | (with_reducible assumption) | exact c0 | exact c1 | exact c2 | exact c3 | exact c4 | exact c5 | exact c6 | exact c7 | exact c8 | exact d0 | exact d1 | exact d2 | exact d3 | exact d4 | exact d5); first | exact List.not_mem_nil | exact m0 | exact m1 | exact m2 | exact m3 | exact m4 | exact m5 | exact m6 | exact m7 | exact m8 | exact m9)) | ((with_reducible apply t_id); first | ((with_reducible apply t_seq)) | (apply t_region; kernel_rfl) | (apply t_drawn; kernel_rfl; decide +kernel; try simp only [List.append_eq, List.cons_append, List.nil_append]) | ((with_reducible apply t_condT); exact rfl) | ((with_reducible apply t_condF); exact rfl) | ((with_reducible apply t_skip)) | ((with_reducible apply t_block))) | with_reducible apply q_thenN | with_reducible apply q_blockN | exact Rdn.zero | apply Rdn.succ)
    all_goals (refine ⟨k + 1, (by omega), (by (try simp only); omega), ?_, ?_⟩)
    · try simp only [List.cons_append, List.nil_append]
      (repeat (first | exact FrSub.nil | (apply FrSub.cons; exact rfl) | (apply FrSub.consE; exact rfl; (first | (rw [hms]; done) | (congr 1; omega)))))
    · (repeat (first | exact HpSub.refl _ | (apply HpSub.consE; (repeat (first | exact P0 | apply P1 | apply PA)); exact rfl) | apply HpSub.appC | apply HpSub.skipX | apply HpSub.skipApp | exact HpSub.nil))
  · have hout := hs.out
    have hcase : (o.notice ≤ x.leaves - o.now ∧ s.out = o.out + x.price) ∨ (¬ o.notice ≤ x.leaves - o.now ∧ m1 = x.seats ∧ s.out = o.out + x.price) ∨ (¬ o.notice ≤ x.leaves - o.now ∧ ¬ m1 = x.seats) := by
      rw [hm1e] at hout
      by_cases h1 : o.notice ≤ x.leaves - o.now
      · exact .inl ⟨h1, hout (.inl h1)⟩
      · by_cases h2 : m1 = x.seats
        · exact .inr (.inl ⟨h1, h2, hout (.inr h2)⟩)
        · exact .inr (.inr ⟨h1, h2⟩)
    have hxd := hO.dep hi
    have hnow := hO.now
    rcases hcase with ⟨h1, h2⟩ | ⟨h1, h2, h3⟩ | ⟨h1, h2⟩
    all_goals (repeat' (first | ((with_reducible apply oq_id); first | (focus ((with_reducible apply oq_indexAddrN); exact rfl; exact rfl; exact rfl; exact rfl; omega)) | ((with_reducible apply oq_lssF); exact rfl; exact rfl; omega) | ((with_reducible apply oq_geqT); exact rfl; exact rfl; omega) | ((with_reducible apply oq_geqF); exact rfl; exact rfl; omega) | ((with_reducible apply oq_eqlT); exact rfl; exact rfl; omega) | ((with_reducible apply oq_eqlF); exact rfl; exact rfl; omega) | (apply oq_fn; exact rfl; first | exact trivial | (refine ⟨?_, ?_⟩ <;> omega) | (refine ⟨?_, ?_, ?_⟩ <;> omega) | omega | skip) | ((with_reducible apply oq_load); exact rfl; exact rfl)) | ((with_reducible apply tl_id); first | ((with_reducible apply tl_nil)) | ((with_reducible apply u_q); exact rfl; exact rfl; exact rfl; exact rfl) | ((with_reducible apply u_skip); exact rfl; exact rfl; exact rfl)) | ((with_reducible apply gx_id); first | ((with_reducible apply v_nil)) | ((with_reducible apply v_q); exact rfl; exact rfl; exact rfl) | ((with_reducible apply v_skip); exact rfl; exact rfl; exact rfl)) | ((with_reducible apply rd_id); first | (apply Rd.own; (repeat (first | exact P0 | apply P1 | apply PA)); exact rfl; done) | (apply Rd.old; (first | (with_reducible assumption) | exact c0 | exact c1 | exact c2 | exact c3 | exact c4 | exact c5 | exact c6 | exact c7 | exact c8 | exact d0 | exact d1 | exact d2 | exact d3 | exact d4 | exact d5); first | exact List.not_mem_nil | exact m0 | exact m1 | exact m2 | exact m3 | exact m4 | exact m5 | exact m6 | exact m7 | exact m8 | exact m9)) | ((with_reducible apply t_id); first | ((with_reducible apply t_seq)) | (apply t_region; kernel_rfl) | (apply t_drawn; kernel_rfl; decide +kernel; try simp only [List.append_eq, List.cons_append, List.nil_append]) | ((with_reducible apply t_condF); exact rfl) | ((with_reducible apply t_ret)) | ((with_reducible apply t_exit))) | with_reducible apply q_thenN | with_reducible apply q_thenE | ((with_reducible apply q_blockE); exact rfl) | ((with_reducible apply end_ret)) | exact rvs_nil | ((with_reducible apply rvs_cons)) | ((with_reducible apply rv_tmp); exact rfl)))
    all_goals rfl

end Go.Proofs.Ytmlmgipngbndgaa
