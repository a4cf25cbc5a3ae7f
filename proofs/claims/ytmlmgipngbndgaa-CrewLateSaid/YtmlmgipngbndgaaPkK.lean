/- A deal leaves a valid office valid. -/
import Derived.Test.YtmlmgipngbndgaaPkE
/- A deal leaves a valid office valid: plain laws. -/
namespace Go.Proofs.Ytmlmgipngbndgaa
set_option linter.unusedVariables false
set_option linter.unusedSimpArgs false
/-! Sums -/
def cH (fl : List Dep) (x : Bk) : Int := if x.state = 1 ∨ x.state = 2 then prc fl x else 0
def cE (fl : List Dep) (x : Bk) : Int := if x.state = 3 then prc fl x else 0
def cK (fl : List Dep) (x : Bk) : Int := if x.state = 4 then x.kept else 0
def cB (fl : List Dep) (x : Bk) : Int := if x.state = 4 then prc fl x - x.kept else 0
def sm (f : Bk → Int) : List Bk → Int
  | [] => 0
  | x :: l => f x + sm f l
theorem sums_gen (fl : List Dep) : ∀ (bk : List Bk) (p : Sum4), bk.foldl (addB fl) p = ⟨p.held + sm (cH fl) bk, p.earned + sm (cE fl) bk, p.kept + sm (cK fl) bk, p.back + sm (cB fl) bk⟩
  | [], p => by simp [sm]
  | x :: l, p => by
    rw [List.foldl_cons, sums_gen fl l]
    have h : addB fl p x = ⟨p.held + cH fl x, p.earned + cE fl x, p.kept + cK fl x, p.back + cB fl x⟩ := by
      unfold addB cH cE cK cB
      by_cases h1 : x.state = 1 ∨ x.state = 2
      · rw [if_pos h1, if_pos h1, if_neg (by omega), if_neg (by omega), if_neg (by omega)]
        simp
      · rw [if_neg h1, if_neg h1]
        by_cases h3 : x.state = 3
        · rw [if_pos h3, if_pos h3, if_neg (by omega), if_neg (by omega)]; simp
        · rw [if_neg h3, if_neg h3]
          by_cases h4 : x.state = 4
          · rw [if_pos h4, if_pos h4, if_pos h4]; simp
          · rw [if_neg h4, if_neg h4, if_neg h4]; simp
    rw [h]
    simp only [sm, Int.add_assoc]
theorem sums_sm (fl : List Dep) (bk : List Bk) : sumsV fl bk = ⟨sm (cH fl) bk, sm (cE fl) bk, sm (cK fl) bk, sm (cB fl) bk⟩ := by
  unfold sumsV
  rw [sums_gen]
  simp
theorem sm_congr {f g : Bk → Int} : ∀ {l : List Bk}, (∀ x ∈ l, f x = g x) → sm f l = sm g l
  | [], _ => rfl
  | x :: l, h => by
    simp only [sm]
    rw [h x (List.mem_cons_self ..), sm_congr (fun y hy => h y (List.mem_cons_of_mem _ hy))]
theorem sm_append {f : Bk → Int} (r : List Bk) : ∀ (l : List Bk), sm f (l ++ r) = sm f l + sm f r
  | [] => by simp [sm]
  | x :: l => by simp only [List.cons_append, sm, sm_append r l, Int.add_assoc]
theorem sm_set {f : Bk → Int} {y : Bk} : ∀ {l : List Bk} {i : Nat} {x : Bk}, l[i]? = some x → sm f (l.set i y) = sm f l - f x + f y
  | [], i, x, h => by simp at h
  | a :: l, 0, x, h => by
    obtain rfl : a = x := by simpa using h
    simp only [List.set_cons_zero, sm]; omega
  | a :: l, i + 1, x, h => by
    simp only [List.set_cons_succ, sm]
    rw [sm_set (l := l) (i := i) (x := x) (by simpa using h)]; omega
theorem sm_give {g : Bk → Int} {f : Int} (hg : ∀ x, isB f 2 x = true → g ⟨x.flight, 1, x.kept⟩ = g x) : ∀ {n : Int} {l : List Bk}, sm g (giveL f n l) = sm g l
  | n, [] => rfl
  | n, x :: l => by
    unfold giveL
    split
    · rename_i h
      simp only [sm]
      rw [hg x h.1, sm_give hg]
    · simp only [sm]
      rw [sm_give hg]
theorem sm_map {g : Bk → Int} {h : Bk → Bk} : ∀ {l : List Bk}, sm g (l.map h) = sm (fun x => g (h x)) l
  | [] => rfl
  | x :: l => by simp only [List.map_cons, sm]; rw [sm_map]
theorem sm_add {f g : Bk → Int} : ∀ {l : List Bk}, sm (fun x => f x + g x) l = sm f l + sm g l
  | [] => rfl
  | x :: l => by simp only [sm]; rw [sm_add]; omega
/-! Counts -/
def cN (f s : Int) (x : Bk) : Int := if isB f s x = true then 1 else 0
theorem many_sm (f s : Int) : ∀ (l : List Bk), manyV l f s = sm (cN f s) l
  | [] => rfl
  | x :: l => by
    unfold manyV
    simp only [sm, cN]
    rw [← many_sm f s l]
    unfold manyV
    by_cases h : isB f s x = true
    · rw [List.filter_cons_of_pos h, if_pos h]; simp; omega
    · rw [List.filter_cons_of_neg h, if_neg h]; simp
theorem many_pos (l : List Bk) (f s : Int) : 0 ≤ manyV l f s := by unfold manyV; omega
theorem isB_ne {f g s t : Int} {x : Bk} (h : isB f s x = true) (hg : g ≠ f) : isB g t x = false := by
  unfold isB at *
  simp only [Bool.and_eq_true, decide_eq_true_eq] at h
  have : ¬ x.flight = g := fun e => hg (by rw [← e]; exact h.1)
  simp [this]
/-- How many get a seat. -/
theorem many_give (f : Int) : ∀ (n : Int) (l : List Bk), ∃ g : Int, 0 ≤ g ∧ manyV (giveL f n l) f 1 = manyV l f 1 + g ∧ manyV (giveL f n l) f 2 = manyV l f 2 - g ∧ (n ≤ g ∨ manyV (giveL f n l) f 2 = 0) ∧ (g ≤ n ∨ g = 0)
  | n, [] => ⟨0, by omega, rfl, rfl, .inr rfl, .inr rfl⟩
  | n, x :: l => by
    unfold giveL
    split
    · rename_i h
      obtain ⟨g, h0, h1, h2, h3, h4⟩ := many_give f (n - 1) l
      have e1 : isB f 1 ⟨x.flight, 1, x.kept⟩ = true := by
        have := h.1; unfold isB at this ⊢; simp only [Bool.and_eq_true, decide_eq_true_eq] at this ⊢; exact ⟨this.1, trivial⟩
      have e2 : isB f 2 ⟨x.flight, 1, x.kept⟩ = false := by unfold isB; simp
      have e3 : isB f 1 x = false := by
        have := h.1; unfold isB at this ⊢; simp only [Bool.and_eq_true, decide_eq_true_eq] at this; simp [this.2]
      refine ⟨g + 1, by omega, ?_, ?_, ?_, ?_⟩
      · simp only [many_sm, sm, cN, e1, e3, if_true, if_false, Bool.false_eq_true] at h1 ⊢; omega
      · simp only [many_sm, sm, cN, e2, h.1, if_true, if_false, Bool.false_eq_true] at h2 ⊢; omega
      · rcases h3 with h3 | h3
        · exact .inl (by omega)
        · refine .inr ?_
          simp only [many_sm, sm, cN, e2, if_false, Bool.false_eq_true] at h3 ⊢; omega
      · rcases h4 with h4 | h4
        · exact .inl (by omega)
        · exact .inl (by omega)
    · rename_i h
      obtain ⟨g, h0, h1, h2, h3, h4⟩ := many_give f n l
      refine ⟨g, h0, ?_, ?_, ?_, h4⟩
      · simp only [many_sm, sm] at h1 ⊢; omega
      · simp only [many_sm, sm] at h2 ⊢; omega
      · rcases h3 with h3 | h3
        · exact .inl h3
        · by_cases hb : isB f 2 x = true
          · have hn : ¬ 0 < n := fun hn => h ⟨hb, hn⟩
            exact .inl (by omega)
          · refine .inr ?_
            simp only [many_sm, sm, cN, hb, if_false, Bool.false_eq_true] at h3 ⊢; omega
theorem many_give_ne {f g s : Int} (h : g ≠ f ∨ (s ≠ 1 ∧ s ≠ 2)) (n : Int) (l : List Bk) : manyV (giveL f n l) g s = manyV l g s := by
  rw [many_sm, many_sm]
  refine sm_give fun x hx => ?_
  unfold cN
  rcases h with h | h
  · rw [isB_ne hx h]
    have : isB f 1 ⟨x.flight, 1, x.kept⟩ = true := by
      unfold isB at hx ⊢; simp only [Bool.and_eq_true, decide_eq_true_eq] at hx ⊢; exact ⟨hx.1, trivial⟩
    rw [isB_ne this h]
  · have e1 : isB g s ⟨x.flight, 1, x.kept⟩ = false := by unfold isB; simp; intro _ e; exact h.1 e.symm
    have e2 : isB g s x = false := by
      unfold isB at hx ⊢; simp only [Bool.and_eq_true, decide_eq_true_eq] at hx; simp [hx.2]; intro _ e; exact h.2 e.symm
    rw [e1, e2]
end Go.Proofs.Ytmlmgipngbndgaa
/- A deal leaves a valid office valid. -/
namespace Go.Proofs.Ytmlmgipngbndgaa
set_option linter.unusedVariables false
set_option linter.unusedSimpArgs false
/-- A booking that is valid. -/
def BkOk (fl : List Dep) (fee : Int) (x : Bk) : Prop := ∃ (i : Nat) (d : Dep), x.flight = (i : Int) ∧ fl[i]? = some d ∧ ((x.state = 4 ∧ 0 ≤ x.kept ∧ x.kept ≤ feeV d.price fee) ∨ (¬ x.state = 4 ∧ fitB d.state x.state = true ∧ x.kept = 0))
theorem booked_iff {fl : List Dep} {fee : Int} {x : Bk} : bookedB fl fee x = true ↔ BkOk fl fee x := by
  unfold bookedB BkOk
  constructor
  · intro h
    split at h
    · rename_i hin
      obtain ⟨d, hd⟩ : ∃ d, fl[x.flight.toNat]? = some d := ⟨_, List.getElem?_eq_getElem (by omega)⟩
      rw [hd] at h
      refine ⟨x.flight.toNat, d, by omega, hd, ?_⟩
      by_cases h4 : x.state = 4
      · simp only [h4, if_true, Bool.and_eq_true, decide_eq_true_eq] at h
        exact .inl ⟨h4, h.1, h.2⟩
      · simp only [h4, if_false, Bool.and_eq_true, decide_eq_true_eq] at h
        exact .inr ⟨h4, h.1, h.2⟩
    · cases h
  · rintro ⟨i, d, hf, hd, h⟩
    have hl := (List.getElem?_eq_some_iff.1 hd).1
    rw [if_pos (by omega), hf, Int.toNat_natCast, hd]
    simp only
    rcases h with ⟨h4, h1, h2⟩ | ⟨h4, h1, h2⟩
    · rw [if_pos h4]; simp [h1, h2]
    · rw [if_neg h4]; simp [h1, h2]
/-- What is asked of a valid office, but for the seats of departure i. -/
structure Semi (o : Off) (i : Nat) : Prop where
  now : 0 ≤ o.now ∧ o.now ≤ 1000000
  notice : 0 ≤ o.notice ∧ o.notice ≤ 1000000
  fee : 0 ≤ o.fee ∧ o.fee ≤ 100
  nf : o.fl.length ≤ 10
  nb : o.bk.length ≤ 120
  deps : DepsOk o.fl
  bks : ∀ x ∈ o.bk, BkOk o.fl o.fee x
  seat : ∀ (j : Nat) (d : Dep), j ≠ i → o.fl[j]? = some d → manyV o.bk j 1 + manyV o.bk j 3 ≤ d.seats ∧ (manyV o.bk j 1 + manyV o.bk j 3 = d.seats ∨ manyV o.bk j 2 ≤ 0)
  inn : o.inn = sm (cH o.fl) o.bk + sm (cE o.fl) o.bk + sm (cK o.fl) o.bk + sm (cB o.fl) o.bk
  out : o.out = sm (cB o.fl) o.bk
theorem Semi.valid {o : Off} {i : Nat} (h : Semi o i) (hs : ∀ d, o.fl[i]? = some d → manyV o.bk i 1 + manyV o.bk i 3 ≤ d.seats ∧ (manyV o.bk i 1 + manyV o.bk i 3 = d.seats ∨ manyV o.bk i 2 ≤ 0)) : officeB o = true := by
  unfold officeB headB moneyB
  rw [sums_sm]
  simp only [Bool.and_eq_true, decide_eq_true_eq, List.all_eq_true]
  refine ⟨⟨h.now.1, h.now.2, h.notice.1, h.notice.2, h.fee.1, h.fee.2, h.nf, h.nb⟩, fun d hd => (h.deps d hd).1, fun x hx => booked_iff.2 (h.bks x hx), fun j hj => ?_, h.inn, h.out⟩
  have hl := List.mem_range.1 hj
  obtain ⟨d, hd⟩ : ∃ d, o.fl[j]? = some d := ⟨_, List.getElem?_eq_getElem hl⟩
  unfold seatB
  rw [hd]
  simp only [Bool.and_eq_true, Bool.or_eq_true, decide_eq_true_eq]
  by_cases hji : j = i
  · subst hji; exact hs d hd
  · exact h.seat j d hji hd
theorem OkO.semi {o : Off} (hv : OkO o) (i : Nat) : Semi o i := by
  have hm := hv.money
  unfold moneyB at hm
  rw [sums_sm] at hm
  simp only [Bool.and_eq_true, decide_eq_true_eq] at hm
  exact ⟨hv.now, hv.notice, hv.fee, hv.nf, hv.nb, hv.deps, fun x hx => booked_iff.1 (List.all_eq_true.1 hv.fit x hx), fun j d _ hd => hv.seat hd, hm.1, hm.2⟩
theorem OkO.bkok {o : Off} (hv : OkO o) {x : Bk} (hx : x ∈ o.bk) : BkOk o.fl o.fee x := booked_iff.1 (List.all_eq_true.1 hv.fit x hx)
theorem mem_give {f : Int} : ∀ {n : Int} {l : List Bk} {y : Bk}, y ∈ giveL f n l → y ∈ l ∨ ∃ x ∈ l, isB f 2 x = true ∧ y = ⟨x.flight, 1, x.kept⟩
  | n, [], y, h => by cases h
  | n, x :: l, y, h => by
    unfold giveL at h
    split at h
    · rename_i hc
      rcases List.mem_cons.1 h with rfl | h
      · exact .inr ⟨x, List.mem_cons_self .., hc.1, rfl⟩
      · rcases mem_give h with h | ⟨z, hz, h1, h2⟩
        · exact .inl (List.mem_cons_of_mem _ h)
        · exact .inr ⟨z, List.mem_cons_of_mem _ hz, h1, h2⟩
    · rcases List.mem_cons.1 h with rfl | h
      · exact .inl (List.mem_cons_self ..)
      · rcases mem_give h with h | ⟨z, hz, h1, h2⟩
        · exact .inl (List.mem_cons_of_mem _ h)
        · exact .inr ⟨z, List.mem_cons_of_mem _ hz, h1, h2⟩
theorem isB_st {f s : Int} {x : Bk} (h : isB f s x = true) : x.flight = f ∧ x.state = s := by
  unfold isB at h
  simpa using h
theorem give_sums {fl : List Dep} {f n : Int} {l : List Bk} : sm (cH fl) (giveL f n l) = sm (cH fl) l ∧ sm (cE fl) (giveL f n l) = sm (cE fl) l ∧ sm (cK fl) (giveL f n l) = sm (cK fl) l ∧ sm (cB fl) (giveL f n l) = sm (cB fl) l := by
  refine ⟨sm_give fun x hx => ?_, sm_give fun x hx => ?_, sm_give fun x hx => ?_, sm_give fun x hx => ?_⟩
  · unfold cH prc; simp [(isB_st hx).2]
  · unfold cE; simp [(isB_st hx).2]
  · unfold cK; simp [(isB_st hx).2]
  · unfold cB; simp [(isB_st hx).2]
theorem Semi.given {o : Off} {i : Nat} (h : Semi o i) {d : Dep} (hi : o.fl[i]? = some d) (h0 : d.state = 0) (h1 : manyV o.bk i 1 ≤ d.seats) (h3 : manyV o.bk i 3 = 0) : officeB (givenV o i) = true := by
  have hf : freeV o i = d.seats - manyV o.bk i 1 := by unfold freeV; rw [hi]
  obtain ⟨s1, s2, s3, s4⟩ := give_sums (fl := o.fl) (f := (i : Int)) (n := freeV o i) (l := o.bk)
  have hS : Semi (givenV o i) i := by
    refine ⟨h.now, h.notice, h.fee, h.nf, by unfold givenV; simp only [giveL_length]; exact h.nb, h.deps, fun y hy => ?_, fun j e hj he => ?_, ?_, ?_⟩
    · rcases mem_give hy with hy | ⟨x, hx, hb, rfl⟩
      · exact h.bks y hy
      · obtain ⟨k, e, hk, he, hc⟩ := h.bks x hx
        obtain ⟨b1, b2⟩ := isB_st hb
        have hki : k = i := by have := hk.symm.trans b1; omega
        subst hki
        obtain rfl : e = d := by have := he.symm.trans hi; exact Option.some.inj this
        refine ⟨k, e, hk, hi, .inr ⟨by simp, by unfold fitB; simp [h0], ?_⟩⟩
        rcases hc with hc | hc
        · omega
        · exact hc.2.2
    · have hne : ((j : Int)) ≠ (i : Int) := by omega
      have := h.seat j e hj he
      unfold givenV
      simp only
      rw [many_give_ne (.inl hne), many_give_ne (.inl hne), many_give_ne (.inl hne)]
      exact this
    · unfold givenV; simp only; rw [s1, s2, s3, s4]; exact h.inn
    · unfold givenV; simp only; rw [s4]; exact h.out
  refine hS.valid fun e he => ?_
  obtain rfl : e = d := by have := he.symm.trans hi; exact Option.some.inj this
  obtain ⟨g, g0, g1, g2, g3, g4⟩ := many_give (i : Int) (freeV o i) o.bk
  have g5 := many_give_ne (f := (i : Int)) (g := (i : Int)) (s := 3) (.inr ⟨by decide, by decide⟩) (freeV o i) o.bk
  unfold givenV
  simp only
  rw [hf] at *
  omega
/-- A departure that is open: how its bookings are. -/
theorem OkO.open_st {o : Off} (hv : OkO o) {i : Nat} {d : Dep} (hi : o.fl[i]? = some d) (h0 : d.state = 0) {x : Bk} (hx : x ∈ o.bk) (hf : x.flight = (i : Int)) : x.state = 1 ∨ x.state = 2 ∨ x.state = 4 := by
  obtain ⟨k, e, hk, he, hc⟩ := hv.bkok hx
  have hki : k = i := by have := hk.symm.trans hf; omega
  subst hki
  obtain rfl : e = d := by have := he.symm.trans hi; exact Option.some.inj this
  rcases hc with hc | hc
  · exact .inr (.inr hc.1)
  · have := hc.2.1
    unfold fitB at this
    simp [h0] at this
    rcases this with h | h
    · exact .inl h
    · exact .inr (.inl h)
theorem OkO.st_open {o : Off} (hv : OkO o) {x : Bk} (hx : x ∈ o.bk) (hs : x.state = 1 ∨ x.state = 2) {i : Nat} {d : Dep} (hf : x.flight = (i : Int)) (hi : o.fl[i]? = some d) : d.state = 0 := by
  obtain ⟨k, e, hk, he, hc⟩ := hv.bkok hx
  have hki : k = i := by have := hk.symm.trans hf; omega
  subst hki
  obtain rfl : e = d := by have := he.symm.trans hi; exact Option.some.inj this
  rcases hc with hc | hc
  · omega
  · have := hc.2.1
    unfold fitB at this
    simp at this
    omega
theorem add_valid {o : Off} (hv : OkO o) {z : Dep} (hz : depOk z = true) (hz0 : z.state = 0) (hl : o.fl.length < 10) : officeB { o with fl := o.fl ++ [z] } = true := by
  have h := hv.semi o.fl.length
  have hat : ∀ (i : Nat) (d : Dep), o.fl[i]? = some d → (o.fl ++ [z])[i]? = some d := fun i d hd => by
    rw [List.getElem?_append_left (List.getElem?_eq_some_iff.1 hd).1]; exact hd
  have hprc : ∀ x ∈ o.bk, prc (o.fl ++ [z]) x = prc o.fl x := fun x hx => by
    obtain ⟨k, e, hk, he, _⟩ := hv.bkok hx
    rw [prc_at hk he, prc_at hk (hat k e he)]
  have hno : ∀ s, manyV o.bk (o.fl.length : Nat) s = 0 := fun s => many_zero_of fun x hx => by
    obtain ⟨k, e, hk, he, _⟩ := hv.bkok hx
    have := (List.getElem?_eq_some_iff.1 he).1
    unfold isB
    have : ¬ x.flight = ((o.fl.length : Nat) : Int) := by omega
    simp [this]
  have hs1 : sm (cH (o.fl ++ [z])) o.bk = sm (cH o.fl) o.bk := sm_congr fun x hx => by unfold cH; rw [hprc x hx]
  have hs2 : sm (cE (o.fl ++ [z])) o.bk = sm (cE o.fl) o.bk := sm_congr fun x hx => by unfold cE; rw [hprc x hx]
  have hs3 : sm (cK (o.fl ++ [z])) o.bk = sm (cK o.fl) o.bk := sm_congr fun x hx => rfl
  have hs4 : sm (cB (o.fl ++ [z])) o.bk = sm (cB o.fl) o.bk := sm_congr fun x hx => by unfold cB; rw [hprc x hx]
  have hS : Semi { o with fl := o.fl ++ [z] } o.fl.length := by
    refine ⟨h.now, h.notice, h.fee, by simp; omega, h.nb, fun d hd => ?_, fun x hx => ?_, fun j d hj hd => ?_, ?_, ?_⟩
    · rcases List.mem_append.1 hd with hd | hd
      · exact h.deps d hd
      · rw [List.mem_singleton.1 hd]; exact ⟨hz, by omega⟩
    · obtain ⟨k, e, hk, he, hc⟩ := h.bks x hx
      exact ⟨k, e, hk, hat k e he, hc⟩
    · have hlt := (List.getElem?_eq_some_iff.1 hd).1
      simp only [List.length_append, List.length_singleton] at hlt
      have hjl : j < o.fl.length := by omega
      simp only at hd
      rw [List.getElem?_append_left hjl] at hd
      exact hv.seat hd
    · simp only; rw [hs1, hs2, hs3, hs4]; exact h.inn
    · simp only; rw [hs4]; exact h.out
  refine hS.valid fun d hd => ?_
  simp only at hd ⊢
  rw [List.getElem?_append_right (Nat.le_refl _)] at hd
  simp at hd
  subst hd
  rw [hno, hno, hno]
  have := depOk_in hz
  omega
theorem tick_valid {o : Off} (hv : OkO o) {n : Int} (h1 : 0 ≤ n ∧ n ≤ 1000000) : officeB { o with now := n } = true := by
  have h := hv.semi 0
  exact Semi.valid (o := { o with now := n }) (i := 0) ⟨h1, h.notice, h.fee, h.nf, h.nb, h.deps, h.bks, h.seat, h.inn, h.out⟩ fun d hd => hv.seat hd
theorem sell_valid {o : Off} (hv : OkO o) {i : Nat} {d : Dep} (hi : o.fl[i]? = some d) (h0 : d.state = 0) (hb : o.bk.length < 120) : officeB (sellV o (i : Int)) = true := by
  have h := hv.semi i
  have hdep : depAt o (i : Int) = d := by unfold depAt; rw [Int.toNat_natCast, hi]
  have hdd := hv.dep hi
  have hmi : ∀ s, s ≠ 2 → manyV (o.bk ++ [⟨(i : Int), 2, 0⟩]) i s = manyV o.bk i s := fun s hs => by
    rw [many_add, if_neg (by unfold isB; simp; exact fun e => hs e.symm)]; omega
  have hmj : ∀ (j : Nat) s, j ≠ i → manyV (o.bk ++ [⟨(i : Int), 2, 0⟩]) j s = manyV o.bk j s := fun j s hj => by
    rw [many_add, if_neg (by unfold isB; simp; intro e; omega)]; omega
  have hp : prc o.fl ⟨(i : Int), 2, 0⟩ = d.price := prc_at rfl hi
  unfold sellV
  rw [hdep, Int.toNat_natCast]
  refine Semi.given (o := { o with bk := o.bk ++ [⟨(i : Int), 2, 0⟩], inn := o.inn + d.price }) (i := i) ⟨h.now, h.notice, h.fee, h.nf, by simp; omega, h.deps, fun x hx => ?_, fun j e hj he => ?_, ?_, ?_⟩ hi h0 ?_ ?_
  · rcases List.mem_append.1 hx with hx | hx
    · exact h.bks x hx
    · rw [List.mem_singleton.1 hx]
      exact ⟨i, d, rfl, hi, .inr ⟨by simp, by unfold fitB; simp [h0], rfl⟩⟩
  · simp only
    rw [hmj j _ hj, hmj j _ hj, hmj j _ hj]
    exact h.seat j e hj he
  · simp only [sm_append, sm]
    have := h.inn
    have c1 : cH o.fl ⟨(i : Int), 2, 0⟩ = d.price := by unfold cH; simp [hp]
    have c2 : cE o.fl ⟨(i : Int), 2, 0⟩ = 0 := by unfold cE; simp
    have c3 : cK o.fl ⟨(i : Int), 2, 0⟩ = 0 := by unfold cK; simp
    have c4 : cB o.fl ⟨(i : Int), 2, 0⟩ = 0 := by unfold cB; simp
    rw [c1, c2, c3, c4]
    omega
  · simp only [sm_append, sm]
    have := h.out
    have c4 : cB o.fl ⟨(i : Int), 2, 0⟩ = 0 := by unfold cB; simp
    rw [c4]; omega
  · simp only
    rw [hmi 1 (by decide)]
    have := hv.seat hi
    have := many_pos o.bk (i : Int) 3
    omega
  · simp only
    rw [hmi 3 (by decide)]
    exact hv.noflown hi h0
end Go.Proofs.Ytmlmgipngbndgaa
/- A deal leaves a valid office valid: what is left. -/
namespace Go.Proofs.Ytmlmgipngbndgaa
set_option linter.unusedVariables false
set_option linter.unusedSimpArgs false
theorem many_set {l : List Bk} {j : Nat} {x y : Bk} (h : l[j]? = some x) (f s : Int) : manyV (l.set j y) f s = manyV l f s - cN f s x + cN f s y := by
  rw [many_sm, many_sm, sm_set h]
theorem cN_in (f s : Int) (x : Bk) : 0 ≤ cN f s x ∧ cN f s x ≤ 1 := by unfold cN; split <;> omega
theorem cN_no {f s : Int} {x : Bk} (h : x.flight ≠ f ∨ x.state ≠ s) : cN f s x = 0 := by
  unfold cN
  rw [if_neg]
  intro hb
  obtain ⟨h1, h2⟩ := isB_st hb
  rcases h with h | h
  · exact h h1
  · exact h h2
theorem cancel_valid {o : Off} (hv : OkO o) {j : Nat} {b : Bk} (hb : o.bk[j]? = some b) (hs : b.state = 1 ∨ b.state = 2) : officeB (cancelV o (j : Int)) = true := by
  have hm := List.mem_of_getElem? hb
  obtain ⟨i, d, hf, hi, hc⟩ := hv.bkok hm
  have h := hv.semi i
  have h0 := hv.st_open hm hs hf hi
  have hdep : depAt o (i : Int) = d := by unfold depAt; rw [Int.toNat_natCast, hi]
  have hbat : bkAt o (j : Int) = b := by unfold bkAt; rw [Int.toNat_natCast, hb]
  have hdd := hv.dep hi
  have hfe := fee_in ⟨hdd.2.2.1, hdd.2.2.2.1⟩ hv.fee
  have hp : prc o.fl b = d.price := prc_at hf hi
  have hp2 : ∀ k, prc o.fl ⟨b.flight, 4, k⟩ = d.price := fun k => prc_at hf hi
  have hk : 0 ≤ keptV o d b ∧ keptV o d b ≤ feeV d.price o.fee := by unfold keptV; split <;> omega
  unfold cancelV paidB
  simp only [hbat, hf, hdep, Int.toNat_natCast]
  obtain ⟨kp, hkp⟩ : ∃ kp, keptV o d b = kp := ⟨_, rfl⟩
  rw [hkp] at hk ⊢
  have c1 : cH o.fl b = d.price := by unfold cH; rw [if_pos hs, hp]
  have c2 : cE o.fl b = 0 := by unfold cE; rw [if_neg (by omega)]
  have c3 : cK o.fl b = 0 := by unfold cK; rw [if_neg (by omega)]
  have c4 : cB o.fl b = 0 := by unfold cB; rw [if_neg (by omega)]
  have e1 : cH o.fl ⟨(i : Int), 4, kp⟩ = 0 := by unfold cH; simp
  have e2 : cE o.fl ⟨(i : Int), 4, kp⟩ = 0 := by unfold cE; simp
  have e3 : cK o.fl ⟨(i : Int), 4, kp⟩ = kp := by unfold cK; simp
  have e4 : cB o.fl ⟨(i : Int), 4, kp⟩ = d.price - kp := by unfold cB; simp; rw [prc_at rfl hi]
  have n1 := many_set (y := ⟨(i : Int), 4, kp⟩) hb
  refine Semi.given (o := { o with bk := o.bk.set j ⟨(i : Int), 4, kp⟩, out := o.out + (d.price - kp) }) (i := i) ⟨h.now, h.notice, h.fee, h.nf, by simp only [List.length_set]; exact h.nb, h.deps, fun x hx => ?_, fun k e hk2 he => ?_, ?_, ?_⟩ hi h0 ?_ ?_
  · rcases List.mem_or_eq_of_mem_set hx with hx | rfl
    · exact h.bks x hx
    · exact ⟨i, d, rfl, hi, .inl ⟨rfl, hk.1, hk.2⟩⟩
  · simp only
    have z : ∀ s, manyV (o.bk.set j ⟨(i : Int), 4, kp⟩) (k : Int) s = manyV o.bk (k : Int) s := fun s => by
      rw [n1, cN_no (x := b) (.inl (by rw [hf]; omega)), cN_no (x := ⟨(i : Int), 4, kp⟩) (.inl (by simp only; omega))]; omega
    rw [z, z, z]
    exact h.seat k e hk2 he
  · simp only [sm_set hb, c1, c2, c3, c4, e1, e2, e3, e4]
    have := h.inn
    omega
  · simp only [sm_set hb, c4, e4]
    have := h.out
    omega
  · simp only
    rw [n1, cN_no (x := ⟨(i : Int), 4, kp⟩) (.inr (by simp))]
    have := hv.seat hi
    have := many_pos o.bk (i : Int) 3
    have := cN_in (i : Int) 1 b
    omega
  · simp only
    rw [n1, cN_no (x := ⟨(i : Int), 4, kp⟩) (.inr (by simp)), cN_no (x := b) (.inr (by omega)), hv.noflown hi h0]; omega
/-- The departures, with another one at i of the same price. -/
theorem set_at {fl : List Dep} {i : Nat} {d z : Dep} (hi : fl[i]? = some d) (k : Nat) : (fl.set i z)[k]? = if k = i then some z else fl[k]? := by
  by_cases hk : k = i
  · subst hk; rw [if_pos rfl]; simp [(List.getElem?_eq_some_iff.1 hi).1]
  · rw [if_neg hk, List.getElem?_set_ne (fun e => hk e.symm)]
theorem set_prc {fl : List Dep} {i : Nat} {d z : Dep} (hi : fl[i]? = some d) (hp : z.price = d.price) {x : Bk} {k : Nat} {e : Dep} (hk : x.flight = (k : Int)) (he : fl[k]? = some e) : prc (fl.set i z) x = prc fl x := by
  rw [prc_at hk he]
  by_cases hki : k = i
  · subst hki
    obtain rfl : e = d := by rw [hi] at he; exact (Option.some.inj he).symm
    rw [prc_at hk (by rw [set_at hi, if_pos rfl]), hp]
  · rw [prc_at hk (by rw [set_at hi, if_neg hki]; exact he)]
theorem seats_valid {o : Off} (hv : OkO o) {i : Nat} {d : Dep} (hi : o.fl[i]? = some d) (h0 : d.state = 0) {s : Int} (hs : 0 ≤ s ∧ s ≤ 50) (hm : manyV o.bk i 1 ≤ s) (x : Deal) (hx1 : x.n = (i : Int)) (hx2 : x.seats = s) : officeB (seatsV o x) = true := by
  have h := hv.semi i
  have hdep : depAt o (i : Int) = d := by unfold depAt; rw [Int.toNat_natCast, hi]
  have hdd := hv.dep hi
  have hil := (List.getElem?_eq_some_iff.1 hi).1
  unfold seatsV
  simp only [hx1, hx2, hdep, Int.toNat_natCast]
  have hat := fun k => set_at (z := ⟨s, d.price, d.leaves, d.state⟩) hi k
  have hpr : ∀ y ∈ o.bk, prc (o.fl.set i ⟨s, d.price, d.leaves, d.state⟩) y = prc o.fl y := fun y hy => by
    obtain ⟨k, e, hk, he, _⟩ := hv.bkok hy
    exact set_prc (z := ⟨s, d.price, d.leaves, d.state⟩) hi rfl hk he
  have hs1 : sm (cH (o.fl.set i ⟨s, d.price, d.leaves, d.state⟩)) o.bk = sm (cH o.fl) o.bk := sm_congr fun x hx => by unfold cH; rw [hpr x hx]
  have hs2 : sm (cE (o.fl.set i ⟨s, d.price, d.leaves, d.state⟩)) o.bk = sm (cE o.fl) o.bk := sm_congr fun x hx => by unfold cE; rw [hpr x hx]
  have hs3 : sm (cK (o.fl.set i ⟨s, d.price, d.leaves, d.state⟩)) o.bk = sm (cK o.fl) o.bk := sm_congr fun x hx => rfl
  have hs4 : sm (cB (o.fl.set i ⟨s, d.price, d.leaves, d.state⟩)) o.bk = sm (cB o.fl) o.bk := sm_congr fun x hx => by unfold cB; rw [hpr x hx]
  refine Semi.given (o := { o with fl := o.fl.set i ⟨s, d.price, d.leaves, d.state⟩ }) (i := i) (d := ⟨s, d.price, d.leaves, d.state⟩) ⟨h.now, h.notice, h.fee, by simp only [List.length_set]; exact h.nf, h.nb, fun e he => ?_, fun y hy => ?_, fun k e hk he => ?_, ?_, ?_⟩ (by rw [hat, if_pos rfl]) h0 hm (hv.noflown hi h0)
  · rcases List.mem_or_eq_of_mem_set he with he | rfl
    · exact h.deps e he
    · refine ⟨?_, by simp only; omega⟩
      unfold depOk
      simp only [Bool.and_eq_true, decide_eq_true_eq]
      omega
  · obtain ⟨k, e, hk, he, hc⟩ := h.bks y hy
    by_cases hki : k = i
    · subst hki
      obtain rfl : e = d := by rw [hi] at he; exact (Option.some.inj he).symm
      exact ⟨k, ⟨s, e.price, e.leaves, e.state⟩, hk, by simp only; rw [hat, if_pos rfl], hc⟩
    · exact ⟨k, e, hk, by simp only; rw [hat, if_neg hki]; exact he, hc⟩
  · simp only at he
    rw [hat, if_neg hk] at he
    exact h.seat k e hk he
  · simp only; rw [hs1, hs2, hs3, hs4]; exact h.inn
  · simp only; rw [hs4]; exact h.out
theorem sm_paid (f to price : Int) : ∀ (l : List Bk), sm (fun x => if backB f to x = true then price else 0) l = paidV l f to price
  | [] => by simp [sm, paidV]
  | x :: l => by
    unfold paidV
    simp only [sm]
    rw [sm_paid f to price l]
    unfold paidV
    by_cases h : backB f to x = true
    · rw [if_pos h, List.filter_cons_of_pos h, List.length_cons]; simp only [Int.natCast_add, Int.natCast_one, Int.add_mul, Int.one_mul]; omega
    · rw [if_neg h, List.filter_cons_of_neg h]; omega
theorem closed_valid {o : Off} (hv : OkO o) {i : Nat} {d : Dep} (hi : o.fl[i]? = some d) (h0 : d.state = 0) {st to : Int} (hst : (st = 1 ∧ to = 3) ∨ (st = 2 ∧ to = 4)) : officeB (closedV o i d st to) = true := by
  have h := hv.semi i
  have hdd := hv.dep hi
  have hfe := fee_in ⟨hdd.2.2.1, hdd.2.2.2.1⟩ hv.fee
  have hat := fun k => set_at (z := ⟨d.seats, d.price, d.leaves, st⟩) hi k
  have hpr : ∀ y ∈ o.bk, ∀ z : Bk, z.flight = y.flight → prc (o.fl.set i ⟨d.seats, d.price, d.leaves, st⟩) z = prc o.fl y := fun y hy z hz => by
    obtain ⟨k, e, hk, he, _⟩ := hv.bkok hy
    rw [set_prc (z := ⟨d.seats, d.price, d.leaves, st⟩) hi rfl (hz.trans hk) he, prc_at (hz.trans hk) he, prc_at hk he]
  -- how a booking is
  have key : ∀ x ∈ o.bk, (x.flight = (i : Int) ∧ x.state = 1 ∧ shutB (i : Int) to x = ⟨x.flight, to, x.kept⟩ ∧ x.kept = 0 ∧ backB (i : Int) to x = decide (to = 4)) ∨ (x.flight = (i : Int) ∧ x.state = 2 ∧ shutB (i : Int) to x = ⟨x.flight, 4, x.kept⟩ ∧ x.kept = 0 ∧ backB (i : Int) to x = true) ∨ ((x.flight ≠ (i : Int) ∨ x.state = 4) ∧ shutB (i : Int) to x = x ∧ backB (i : Int) to x = false) := fun x hx => by
    by_cases hf : x.flight = (i : Int)
    · rcases hv.open_st hi h0 hx hf with h1 | h1 | h1
      · refine .inl ⟨hf, h1, ?_, hv.kept0 hx (.inl h1), ?_⟩
        · unfold shutB; rw [if_pos (by unfold isB; simp [hf, h1])]
        · unfold backB isB; simp [hf, h1]
      · refine .inr (.inl ⟨hf, h1, ?_, hv.kept0 hx (.inr h1), ?_⟩)
        · unfold shutB; rw [if_neg (by unfold isB; simp [h1]), if_pos (by unfold isB; simp [hf, h1])]
        · unfold backB isB; simp [hf, h1]
      · have := shut_no (f := (i : Int)) (to := to) (x := x) (by rw [mt_is2]; unfold isB; simp [h1])
        exact .inr (.inr ⟨.inr h1, this.1, this.2⟩)
    · have := shut_no (f := (i : Int)) (to := to) (x := x) (by rw [mt_is2]; unfold isB; simp [hf])
      exact .inr (.inr ⟨.inl hf, this.1, this.2⟩)
  have pr : ∀ x ∈ o.bk, x.flight = (i : Int) → prc o.fl x = d.price := fun x hx hf => prc_at hf hi
  have hB : sm (cB (o.fl.set i ⟨d.seats, d.price, d.leaves, st⟩)) (o.bk.map (shutB (i : Int) to)) = sm (cB o.fl) o.bk + paidV o.bk (i : Int) to d.price := by
    rw [sm_map, ← sm_paid, ← sm_add]
    refine sm_congr fun x hx => ?_
    rcases key x hx with ⟨hf, hs, e1, e2, e3⟩ | ⟨hf, hs, e1, e2, e3⟩ | ⟨hf, e1, e3⟩
    · rw [e1, e3]
      unfold cB
      simp only [hs, e2]
      rw [hpr x hx ⟨x.flight, to, 0⟩ rfl, pr x hx hf]
      rcases hst with ⟨_, ht⟩ | ⟨_, ht⟩ <;> subst ht <;> simp
    · rw [e1, e3]
      unfold cB
      simp only [hs, e2, if_true]
      rw [hpr x hx ⟨x.flight, 4, 0⟩ rfl, pr x hx hf]; simp
    · rw [e1, e3]
      unfold cB
      rw [hpr x hx x rfl]; simp
  have hT : sm (fun x => cH (o.fl.set i ⟨d.seats, d.price, d.leaves, st⟩) x + cE (o.fl.set i ⟨d.seats, d.price, d.leaves, st⟩) x + cK (o.fl.set i ⟨d.seats, d.price, d.leaves, st⟩) x + cB (o.fl.set i ⟨d.seats, d.price, d.leaves, st⟩) x) (o.bk.map (shutB (i : Int) to)) = sm (fun x => cH o.fl x + cE o.fl x + cK o.fl x + cB o.fl x) o.bk := by
    rw [sm_map]
    refine sm_congr fun x hx => ?_
    rcases key x hx with ⟨hf, hs, e1, e2, e3⟩ | ⟨hf, hs, e1, e2, e3⟩ | ⟨hf, e1, e3⟩
    · rw [e1]
      unfold cH cE cK cB
      simp only [hs, e2]
      rw [hpr x hx ⟨x.flight, to, 0⟩ rfl, pr x hx hf]
      rcases hst with ⟨_, ht⟩ | ⟨_, ht⟩ <;> subst ht <;> simp
    · rw [e1]
      unfold cH cE cK cB
      simp only [hs, e2]
      rw [hpr x hx ⟨x.flight, 4, 0⟩ rfl, pr x hx hf]; simp
    · rw [e1]
      unfold cH cE cK cB
      rw [hpr x hx x rfl]
  simp only [sm_add] at hT
  have nj : ∀ (k : Nat) (s : Int), k ≠ i → manyV (o.bk.map (shutB (i : Int) to)) (k : Int) s = manyV o.bk (k : Int) s := fun k s hk => by
    rw [many_sm, many_sm, sm_map]
    refine sm_congr fun x hx => ?_
    rcases key x hx with ⟨hf, hs, e1, e2, e3⟩ | ⟨hf, hs, e1, e2, e3⟩ | ⟨hf, e1, e3⟩
    · rw [e1, cN_no (x := ⟨x.flight, to, x.kept⟩) (.inl (by simp only; omega)), cN_no (x := x) (.inl (by omega))]
    · rw [e1, cN_no (x := ⟨x.flight, 4, x.kept⟩) (.inl (by simp only; omega)), cN_no (x := x) (.inl (by omega))]
    · rw [e1]
  have n2 : ∀ s : Int, s = 1 ∨ s = 2 → manyV (o.bk.map (shutB (i : Int) to)) (i : Int) s = 0 := fun s hs12 => by
    refine many_zero_of fun y hy => ?_
    obtain ⟨x, hx, rfl⟩ := List.mem_map.1 hy
    cases hb : isB (i : Int) s (shutB (i : Int) to x) with
    | false => rfl
    | true =>
      exfalso
      obtain ⟨b1, b2⟩ := isB_st hb
      rcases key x hx with ⟨hf, hs, e1, e2, e3⟩ | ⟨hf, hs, e1, e2, e3⟩ | ⟨hf, e1, e3⟩
      · rw [e1] at b2; simp only at b2; omega
      · rw [e1] at b2; simp only at b2; omega
      · rw [e1] at b1 b2
        rcases hf with hf | hf
        · exact hf b1
        · omega
  have n3 : manyV (o.bk.map (shutB (i : Int) to)) (i : Int) 3 ≤ manyV o.bk (i : Int) 3 + manyV o.bk (i : Int) 1 := by
    rw [many_sm, many_sm, many_sm, sm_map, ← sm_add]
    have le : ∀ l : List Bk, (∀ x ∈ l, x ∈ o.bk) → sm (fun x => cN (i : Int) 3 (shutB (i : Int) to x)) l ≤ sm (fun x => cN (i : Int) 3 x + cN (i : Int) 1 x) l := by
      intro l
      induction l with
      | nil => intro _; exact Int.le_refl _
      | cons x l ih =>
        intro hl
        have ih' := ih (fun y hy => hl y (List.mem_cons_of_mem _ hy))
        simp only [sm]
        have c1 := cN_in (i : Int) 3 x
        have c2 := cN_in (i : Int) 1 x
        rcases key x (hl x (List.mem_cons_self ..)) with ⟨hf, hs, e1, e2, e3⟩ | ⟨hf, hs, e1, e2, e3⟩ | ⟨hf, e1, e3⟩
        · have c3 := cN_in (i : Int) 3 ⟨x.flight, to, x.kept⟩
          have c4 : cN (i : Int) 1 x = 1 := by unfold cN isB; simp [hf, hs]
          rw [e1]; omega
        · rw [e1, cN_no (x := ⟨x.flight, 4, x.kept⟩) (.inr (by simp))]; omega
        · rw [e1]; omega
    exact le o.bk (fun x hx => hx)
  have hS : Semi (closedV o i d st to) i := by
    refine ⟨h.now, h.notice, h.fee, by unfold closedV; simp only [List.length_set]; exact h.nf, by unfold closedV; simp only [List.length_map]; exact h.nb, fun e he => ?_, fun y hy => ?_, fun k e hk he => ?_, ?_, ?_⟩
    · rcases List.mem_or_eq_of_mem_set he with he | rfl
      · exact h.deps e he
      · refine ⟨?_, by simp only; omega⟩
        unfold depOk
        simp only [Bool.and_eq_true, decide_eq_true_eq]
        omega
    · obtain ⟨x, hx, rfl⟩ := List.mem_map.1 hy
      obtain ⟨k, e, hk, he, hc⟩ := h.bks x hx
      rcases key x hx with ⟨hf, hs, e1, e2, e3⟩ | ⟨hf, hs, e1, e2, e3⟩ | ⟨hf, e1, e3⟩
      · rw [e1]
        refine ⟨i, _, hf, by unfold closedV; simp only; rw [hat, if_pos rfl], ?_⟩
        rcases hst with ⟨h1, ht⟩ | ⟨h1, ht⟩
        · exact .inr ⟨by simp only; omega, by unfold fitB; simp [h1, ht], e2⟩
        · refine .inl ⟨ht, ?_, ?_⟩
          · simp only; omega
          · show x.kept ≤ feeV d.price o.fee; omega
      · rw [e1]
        refine ⟨i, _, hf, by unfold closedV; simp only; rw [hat, if_pos rfl], .inl ⟨rfl, ?_, ?_⟩⟩
        · simp only; omega
        · show x.kept ≤ feeV d.price o.fee; omega
      · rw [e1]
        by_cases hki : k = i
        · subst hki
          obtain rfl : e = d := by rw [hi] at he; exact (Option.some.inj he).symm
          have h4 : x.state = 4 := by
            rcases hf with hf | hf
            · exact absurd hk hf
            · exact hf
          refine ⟨k, _, hk, by unfold closedV; simp only; rw [hat, if_pos rfl], ?_⟩
          rcases hc with hc | hc
          · exact .inl hc
          · exact absurd h4 hc.1
        · exact ⟨k, e, hk, by unfold closedV; simp only; rw [hat, if_neg hki]; exact he, hc⟩
    · unfold closedV at he ⊢
      simp only at he ⊢
      rw [hat, if_neg hk] at he
      rw [nj k _ hk, nj k _ hk, nj k _ hk]
      exact h.seat k e hk he
    · unfold closedV
      simp only
      have := h.inn
      omega
    · unfold closedV
      simp only
      rw [hB, h.out]
  refine hS.valid fun e he => ?_
  unfold closedV at he ⊢
  simp only at he ⊢
  rw [hat, if_pos rfl] at he
  obtain rfl := Option.some.inj he
  rw [n2 1 (.inl rfl), n2 2 (.inr rfl)]
  have := hv.seat hi
  have := hv.noflown hi h0
  have := many_pos (o.bk.map (shutB (i : Int) to)) (i : Int) 3
  simp only
  omega
/-- The departures' states stay numbers from 0. -/
theorem done_st {o : Off} (hu : ∀ d ∈ o.fl, 0 ≤ d.state) (d : Deal) : ∀ e ∈ (doneO o d).fl, 0 ≤ e.state := by
  have hdep : ∀ n, 0 ≤ (depAt o n).state := fun n => by
    unfold depAt
    cases hh : o.fl[n.toNat]? with
    | none => exact Int.le_refl _
    | some e => exact hu e (List.mem_of_getElem? hh)
  intro e he
  unfold doneO at he
  split at he
  · unfold addV at he
    rcases List.mem_append.1 he with he | he
    · exact hu e he
    · rw [List.mem_singleton.1 he]; exact Int.le_refl _
  split at he
  · exact hu e he
  split at he
  · exact hu e he
  split at he
  · unfold closedV at he
    rcases List.mem_or_eq_of_mem_set he with he | rfl
    · exact hu e he
    · show (0 : Int) ≤ 1; decide
  split at he
  · unfold closedV at he
    rcases List.mem_or_eq_of_mem_set he with he | rfl
    · exact hu e he
    · show (0 : Int) ≤ 2; decide
  split at he
  · exact hu e he
  · unfold seatsV givenV at he
    rcases List.mem_or_eq_of_mem_set he with he | rfl
    · exact hu e he
    · exact hdep _
theorem done_valid {o : Off} (hv : OkO o) (d : Deal) (hE : doneE o d = 0) : officeB (doneO o d) = true := by
  obtain ⟨dk, dn, ds, dp, dl⟩ := d
  unfold doneE at hE
  unfold doneO
  simp only at hE ⊢
  by_cases k1 : dk = 1
  · subst k1
    rw [if_pos rfl] at hE ⊢
    by_cases c1 : depOk ⟨ds, dp, dl, 0⟩ = true ∧ o.now ≤ dl
    · rw [if_pos c1] at hE
      by_cases c2 : o.fl.length < 10
      · exact add_valid hv c1.1 rfl c2
      · rw [if_neg c2] at hE; exact absurd hE (by decide)
    · rw [if_neg c1] at hE; exact absurd hE (by decide)
  rw [if_neg k1] at hE ⊢
  by_cases k2 : dk = 2
  · subst k2
    rw [if_pos rfl] at hE ⊢
    by_cases c1 : openE o dn = 0
    · rw [if_pos c1] at hE
      by_cases c2 : o.bk.length < 120
      · obtain ⟨i, e, rfl, hi, h0⟩ := openE_ok c1
        exact sell_valid hv hi h0 c2
      · rw [if_neg c2] at hE; exact absurd hE (by decide)
    · rw [if_neg c1] at hE; exact absurd hE c1
  rw [if_neg k2] at hE ⊢
  by_cases k3 : dk = 3
  · subst k3
    rw [if_pos rfl] at hE ⊢
    by_cases c1 : 0 ≤ dn ∧ dn < (o.bk.length : Int)
    · rw [if_pos c1] at hE
      by_cases c2 : (bkAt o dn).state = 1 ∨ (bkAt o dn).state = 2
      · obtain ⟨j, rfl⟩ : ∃ j : Nat, dn = (j : Int) := ⟨dn.toNat, by omega⟩
        obtain ⟨b, hb⟩ : ∃ b, o.bk[j]? = some b := ⟨_, List.getElem?_eq_getElem (by omega)⟩
        have hbat : bkAt o (j : Int) = b := by unfold bkAt; rw [Int.toNat_natCast, hb]
        rw [hbat] at c2
        exact cancel_valid hv hb c2
      · rw [if_neg c2] at hE; exact absurd hE (by decide)
    · rw [if_neg c1] at hE; exact absurd hE (by decide)
  rw [if_neg k3] at hE ⊢
  by_cases k4 : dk = 4
  · subst k4
    rw [if_pos rfl] at hE ⊢
    by_cases c1 : openE o dn = 0
    · obtain ⟨i, e, rfl, hi, h0⟩ := openE_ok c1
      have hdep : depAt o (i : Int) = e := by unfold depAt; rw [Int.toNat_natCast, hi]
      rw [hdep, Int.toNat_natCast]
      exact closed_valid hv hi h0 (.inl ⟨rfl, rfl⟩)
    · rw [if_neg c1] at hE; exact absurd hE c1
  rw [if_neg k4] at hE ⊢
  by_cases k5 : dk = 5
  · subst k5
    rw [if_pos rfl] at hE ⊢
    obtain ⟨i, e, rfl, hi, h0⟩ := openE_ok hE
    have hdep : depAt o (i : Int) = e := by unfold depAt; rw [Int.toNat_natCast, hi]
    rw [hdep, Int.toNat_natCast]
    exact closed_valid hv hi h0 (.inr ⟨rfl, rfl⟩)
  rw [if_neg k5] at hE ⊢
  by_cases k6 : dk = 6
  · subst k6
    rw [if_pos rfl] at hE ⊢
    by_cases c1 : 1 ≤ dn ∧ dn ≤ 1000000 ∧ o.now + dn ≤ 1000000
    · have := hv.now
      exact tick_valid hv (by omega)
    · rw [if_neg c1] at hE; exact absurd hE (by decide)
  rw [if_neg k6] at hE ⊢
  by_cases k7 : dk = 7
  · subst k7
    rw [if_pos rfl] at hE
    by_cases c1 : openE o dn = 0
    · rw [if_pos c1] at hE
      by_cases c2 : 0 ≤ ds ∧ ds ≤ 50
      · rw [if_pos c2] at hE
        by_cases c3 : manyV o.bk dn 1 ≤ ds
        · obtain ⟨i, e, rfl, hi, h0⟩ := openE_ok c1
          exact seats_valid hv hi h0 c2 c3 _ rfl rfl
        · rw [if_neg c3] at hE; exact absurd hE (by decide)
      · rw [if_neg c2] at hE; exact absurd hE (by decide)
    · rw [if_neg c1] at hE; exact absurd hE c1
  rw [if_neg k7] at hE
  exact absurd hE (by decide)
theorem done_okO {o : Off} (hv : OkO o) (d : Deal) (hE : doneE o d = 0) : OkO (doneO o d) := okO (done_st (fun e he => (hv.deps e he).2) d) (done_valid hv d hE)
end Go.Proofs.Ytmlmgipngbndgaa
