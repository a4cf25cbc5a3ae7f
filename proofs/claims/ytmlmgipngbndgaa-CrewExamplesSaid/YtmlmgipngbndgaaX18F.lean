/- A part of the proof: rules for walks, and contracts of functions (6). -/
import Derived.Test.YtmlmgipngbndgaaX18C
import Derived.Test.YtmlmgipngbndgaaX18D
import Derived.Test.YtmlmgipngbndgaaX18E
import Derived.Recover
import Derived.Test.YtmlmgipngbndgaaX18B
set_option linter.unusedVariables false
set_option linter.unusedSimpArgs false
set_option maxRecDepth 100000
set_option maxHeartbeats 2000000
namespace Go.Proofs.Ytmlmgipngbndgaa
open Go.RowKit
attribute [local irreducible] TE AE OP OQ OS OX Rd T TL GX GL AL AI RV wpG SAny Calls
theorem flight_ok (bd : Nat) (o : Off) (A : Option Addr) (cf : Nat) (B : Option Addr) (cb : Nat) (w : World) (hD : Desk w bd o A cf B cb) (hn : o.fl.length ≤ 1000000) (gA oA : Nat) (hAp : A = some ⟨gA, oA, none⟩) (i : Nat) (d : Dep) (hi : o.fl[i]? = some d) (h0 : d.state = 0) : Calls Try.prog 133 #[.pointer (some ⟨bd, 0, none⟩), .int .i64 (i : Int)] w fun e w' => e = .returned (.pointer (some ⟨gA, oA + i * 4, none⟩)) ∧ Ext w w' := by
 have hil := (List.getElem?_eq_some_iff.1 hi).1
 have d3 := hD.fls
 have hA := hD.fl
 obtain ⟨b1, o1, x, rfl, _, hx, c0, c1, c2, c3⟩ := dep_read hA hil
 obtain rfl : d = x := by rw [hi] at hx; exact Option.some.inj hx
 obtain ⟨rfl, rfl⟩ : b1 = gA ∧ o1 = oA := by cases hAp; exact ⟨rfl, rfl⟩
 have hq := allFrom_t (lo := 0) (hi := (o.fl.length : Int) - 1) (z := (i : Int)) ⟨by omega, by omega⟩
 refine enterQ (c := cx w 34) Try.func133 rfl rfl rfl rfl ?_
 repeat' (first | (focus ((with_reducible apply oq_indexAddrN); (iterate 4 exact rfl); omega)) | ((with_reducible apply oq_eqlT); exact rfl; exact rfl; omega) | (apply oq_fn; exact rfl; try first | exact trivial | (and_intros <;> omega)) | ((with_reducible apply oq_load); exact rfl; exact rfl) | ((with_reducible apply oq_call (k := 63) (hc := Try.call63)); exact rfl; exact rfl; exact fun D w1 hw1 => fromOne hq hw1 (by (repeat (first | exact P0 | apply P1)))) | ((with_reducible apply oq_call (k := 106) (hc := Try.call106)); exact rfl; exact rfl; exact fun D w1 hw1 => must_ok _ w1) | (with_reducible apply tl_nil) | ((with_reducible apply u_q); (iterate 4 exact rfl)) | ((with_reducible apply u_s); (iterate 3 exact rfl)) | ((with_reducible apply os_x); exact rfl) | ((with_reducible apply ox_buildSlice1); (iterate 6 exact rfl); intro _) | (apply Rd.old; (first | (with_reducible assumption) | exact c0 | exact c1 | exact c2 | exact c3 | exact c4 | exact c5 | exact c6 | exact c7 | exact c8 | exact d0 | exact d1 | exact d2 | exact d3 | exact d4 | exact d5); first | exact List.not_mem_nil | exact m0 | exact m1 | exact m2 | exact m3 | exact m4 | exact m5 | exact m6 | exact m7 | exact m8 | exact m9) | (with_reducible apply t_seq) | (apply t_region; kernel_rfl) | (with_reducible apply t_ret) | with_reducible apply q_thenN | (with_reducible apply end_ret) | exact rvs_nil | (with_reducible apply rvs_cons) | ((with_reducible apply rv_tmp); exact rfl))
 all_goals rfl
theorem flight_gone (bd : Nat) (o : Off) (A : Option Addr) (cf : Nat) (B : Option Addr) (cb : Nat) (w : World) (hD : Desk w bd o A cf B cb) (hn : o.fl.length ≤ 1000000) (i : Nat) (d : Dep) (hi : o.fl[i]? = some d) (h0 : ¬ d.state = 0) : Calls Try.prog 133 #[.pointer (some ⟨bd, 0, none⟩), .int .i64 (i : Int)] w fun e w' => e = .panicked (refu 85) ∧ Ext w w' := by
 have hil := (List.getElem?_eq_some_iff.1 hi).1
 have d3 := hD.fls
 have hA := hD.fl
 obtain ⟨b1, o1, x, rfl, _, hx, c0, c1, c2, c3⟩ := dep_read hA hil
 obtain rfl : d = x := by rw [hi] at hx; exact Option.some.inj hx
 have hq := allFrom_t (lo := 0) (hi := (o.fl.length : Int) - 1) (z := (i : Int)) ⟨by omega, by omega⟩
 refine enterPQ (c := cx w 34) Try.func133 rfl rfl rfl ?_
 repeat' (first | (focus ((with_reducible apply oq_indexAddrN); (iterate 4 exact rfl); omega)) | ((with_reducible apply oq_eqlF); exact rfl; exact rfl; omega) | (apply oq_fn; exact rfl; try first | exact trivial | (and_intros <;> omega)) | ((with_reducible apply oq_load); exact rfl; exact rfl) | ((with_reducible apply oq_call (k := 63) (hc := Try.call63)); exact rfl; exact rfl; exact fun D w1 hw1 => fromOne hq hw1 (by (repeat (first | exact P0 | apply P1)))) | ((with_reducible apply oq_call (k := 106) (hc := Try.call106)); exact rfl; exact rfl; exact fun D w1 hw1 => must_ok _ w1) | ((with_reducible apply os_x); exact rfl) | ((with_reducible apply ox_buildSlice1); (iterate 6 exact rfl); intro _) | (apply Rd.old; (first | (with_reducible assumption) | exact c0 | exact c1 | exact c2 | exact c3 | exact c4 | exact c5 | exact c6 | exact c7 | exact c8 | exact d0 | exact d1 | exact d2 | exact d3 | exact d4 | exact d5); first | exact List.not_mem_nil | exact m0 | exact m1 | exact m2 | exact m3 | exact m4 | exact m5 | exact m6 | exact m7 | exact m8 | exact m9) | (apply t_regionE) | (with_reducible apply t_seq) | with_reducible apply q_thenN | ((with_reducible apply e_p); exact rfl; ((with_reducible apply op_call (k := 106) (hc := Try.call106)); exact rfl; exact rfl; exact fun D w1 hw1 => must_no _ w1)) | ((with_reducible apply e_q); (iterate 4 exact rfl)) | ((with_reducible apply e_s); (iterate 3 exact rfl)) | (with_reducible apply e_nil))
 all_goals exact ⟨_, rfl, rfl⟩
theorem flight_arg (bd : Nat) (o : Off) (A : Option Addr) (cf : Nat) (B : Option Addr) (cb : Nat) (w : World) (hD : Desk w bd o A cf B cb) (hn : o.fl.length ≤ 1000000) (n : Int) (h0 : ¬ (0 ≤ n ∧ n < (o.fl.length : Int))) : Calls Try.prog 133 #[.pointer (some ⟨bd, 0, none⟩), .int .i64 n] w fun e w' => e = .panicked (refu 2) ∧ Ext w w' := by
 have d3 := hD.fls
 have hA := hD.fl
 have hq := allFrom_f (lo := 0) (hi := (o.fl.length : Int) - 1) (z := n) (by omega)
 refine enterPQ (c := cx w 34) Try.func133 rfl rfl rfl ?_
 repeat' (first | (apply oq_fn; exact rfl; try first | exact trivial | (and_intros <;> omega)) | ((with_reducible apply oq_load); exact rfl; exact rfl) | ((with_reducible apply oq_call (k := 63) (hc := Try.call63)); exact rfl; exact rfl; exact fun D w1 hw1 => fromOne hq hw1 (by (repeat (first | exact P0 | apply P1)))) | ((with_reducible apply os_x); exact rfl) | ((with_reducible apply ox_buildSlice1); (iterate 6 exact rfl); intro _) | (apply Rd.old; (first | (with_reducible assumption) | exact c0 | exact c1 | exact c2 | exact c3 | exact c4 | exact c5 | exact c6 | exact c7 | exact c8 | exact d0 | exact d1 | exact d2 | exact d3 | exact d4 | exact d5); first | exact List.not_mem_nil | exact m0 | exact m1 | exact m2 | exact m3 | exact m4 | exact m5 | exact m6 | exact m7 | exact m8 | exact m9) | (apply t_regionE) | (with_reducible apply t_seq) | with_reducible apply q_thenN | ((with_reducible apply e_p); exact rfl; ((with_reducible apply op_call (k := 106) (hc := Try.call106)); exact rfl; exact rfl; exact fun D w1 hw1 => must_no _ w1)) | ((with_reducible apply e_q); (iterate 4 exact rfl)) | ((with_reducible apply e_s); (iterate 3 exact rfl)) | (with_reducible apply e_nil))
 all_goals exact ⟨_, rfl, rfl⟩
theorem flight_no (bd : Nat) (o : Off) (A : Option Addr) (cf : Nat) (B : Option Addr) (cb : Nat) (w : World) (hD : Desk w bd o A cf B cb) (hn : o.fl.length ≤ 1000000) (n : Int) (h0 : ¬ openE o n = 0) : Calls Try.prog 133 #[.pointer (some ⟨bd, 0, none⟩), .int .i64 n] w fun e w' => e = .panicked (refu (openE o n)) ∧ Ext w w' := by
 by_cases hin : 0 ≤ n ∧ n < (o.fl.length : Int)
 ·obtain ⟨i, rfl⟩ : ∃ i : Nat, n = (i : Int) := ⟨n.toNat, by omega⟩
  obtain ⟨d, hi⟩ : ∃ d, o.fl[i]? = some d := ⟨_, List.getElem?_eq_getElem (by omega)⟩
  have e : openE o (i : Int) = if d.state = 0 then 0 else 85 := by unfold openE; rw [if_pos hin, Int.toNat_natCast, hi]
  rw [e] at h0 ⊢
  by_cases hs : d.state = 0
  ·rw [if_pos hs] at h0; exact absurd rfl h0
  ·rw [if_neg hs]; exact flight_gone bd o A cf B cb w hD hn i d hi hs
 ·have e : openE o n = 2 := by unfold openE; rw [if_neg hin]
  rw [e]
  exact flight_arg bd o A cf B cb w hD hn n hin
theorem openE_ok {o : Off} {n : Int} (h : openE o n = 0) : ∃ (i : Nat) (d : Dep), n = (i : Int) ∧ o.fl[i]? = some d ∧ d.state = 0 := by
 by_cases hin : 0 ≤ n ∧ n < (o.fl.length : Int)
 ·obtain ⟨i, rfl⟩ : ∃ i : Nat, n = (i : Int) := ⟨n.toNat, by omega⟩
  obtain ⟨d, hi⟩ : ∃ d, o.fl[i]? = some d := ⟨_, List.getElem?_eq_getElem (by omega)⟩
  refine ⟨i, d, rfl, hi, ?_⟩
  unfold openE at h
  rw [if_pos hin, Int.toNat_natCast, hi] at h
  by_cases hs : d.state = 0
  ·exact hs
  ·simp [hs] at h
 ·unfold openE at h
  rw [if_neg hin] at h
  exact absurd h (by decide)
end Go.Proofs.Ytmlmgipngbndgaa
namespace Go.Proofs.Ytmlmgipngbndgaa
theorem many_set {l : List Bk} {j : Nat} {x y : Bk} (h : l[j]? = some x) (f s : Int) : manyV (l.set j y) f s = manyV l f s - cN f s x + cN f s y := by
 rw [many_sm, many_sm, sm_set h]
theorem cN_in (f s : Int) (x : Bk) : 0 ≤ cN f s x ∧ cN f s x ≤ 1 := by unfold cN; split <;> omega
theorem cN_no {f s : Int} {x : Bk} (h : x.flight ≠ f ∨ x.state ≠ s) : cN f s x = 0 := by
 unfold cN
 rw [if_neg]
 intro hb
 obtain ⟨h1, h2⟩ := isB_st hb
 rcases h with h | h
 ·exact h h1
 ·exact h h2
theorem cancel_valid {o : Off} (hv : OkO o) {j : Nat} {b : Bk} (hb : o.bk[j]? = some b) (hs : b.state = 1 ∨ b.state = 2) : officeB (cancelV o (j : Int)) = true := by
 have hm := List.mem_of_getElem? hb
 obtain ⟨i, d, hf, hi, hc⟩ := hv.bkok hm
 have h := hv.semi i
 have h0 := hv.st_open hm hs hf hi
 have hdep : depAt o (i : Int) = d := by unfold depAt; rw [Int.toNat_natCast, hi]
 have hbat : bkAt o (j : Int) = b := by unfold bkAt; rw [Int.toNat_natCast, hb]
 have hdd := hv.dep hi
 have hfe := fee_in ⟨hdd.2.2.1, hdd.2.2.2.1⟩ hv.fee
 have hp : prc o.fl b = d.price := prc_at hf hi
 have hp2 : ∀ k, prc o.fl ⟨b.flight, 4, k⟩ = d.price := fun k => prc_at hf hi
 have hk : 0 ≤ keptV o d b ∧ keptV o d b ≤ feeV d.price o.fee := by unfold keptV; split <;> omega
 unfold cancelV paidB
 simp only [hbat, hf, hdep, Int.toNat_natCast]
 obtain ⟨kp, hkp⟩ : ∃ kp, keptV o d b = kp := ⟨_, rfl⟩
 rw [hkp] at hk ⊢
 have c1 : cH o.fl b = d.price := by unfold cH; rw [if_pos hs, hp]
 have c2 : cE o.fl b = 0 := by unfold cE; rw [if_neg (by omega)]
 have c3 : cK o.fl b = 0 := by unfold cK; rw [if_neg (by omega)]
 have c4 : cB o.fl b = 0 := by unfold cB; rw [if_neg (by omega)]
 have e1 : cH o.fl ⟨(i : Int), 4, kp⟩ = 0 := by unfold cH; simp
 have e2 : cE o.fl ⟨(i : Int), 4, kp⟩ = 0 := by unfold cE; simp
 have e3 : cK o.fl ⟨(i : Int), 4, kp⟩ = kp := by unfold cK; simp
 have e4 : cB o.fl ⟨(i : Int), 4, kp⟩ = d.price - kp := by unfold cB; simp; rw [prc_at rfl hi]
 have n1 := many_set (y := ⟨(i : Int), 4, kp⟩) hb
 refine Semi.given (o := { o with bk := o.bk.set j ⟨(i : Int), 4, kp⟩, out := o.out + (d.price - kp) }) (i := i) ⟨h.now, h.notice, h.fee, h.nf, by simp only [List.length_set]; exact h.nb, h.deps, fun x hx => ?_, fun k e hk2 he => ?_, ?_, ?_⟩ hi h0 ?_ ?_
 ·rcases List.mem_or_eq_of_mem_set hx with hx | rfl
  ·exact h.bks x hx
  ·exact ⟨i, d, rfl, hi, .inl ⟨rfl, hk.1, hk.2⟩⟩
 ·simp only
  have z : ∀ s, manyV (o.bk.set j ⟨(i : Int), 4, kp⟩) (k : Int) s = manyV o.bk (k : Int) s := fun s => by
   rw [n1, cN_no (x := b) (.inl (by rw [hf]; omega)), cN_no (x := ⟨(i : Int), 4, kp⟩) (.inl (by simp only; omega))]; omega
  rw [z, z, z]
  exact h.seat k e hk2 he
 ·simp only [sm_set hb, c1, c2, c3, c4, e1, e2, e3, e4]
  have := h.inn
  omega
 ·simp only [sm_set hb, c4, e4]
  have := h.out
  omega
 ·simp only
  rw [n1, cN_no (x := ⟨(i : Int), 4, kp⟩) (.inr (by simp))]
  have := hv.seat hi
  have := many_pos o.bk (i : Int) 3
  have := cN_in (i : Int) 1 b
  omega
 ·simp only
  rw [n1, cN_no (x := ⟨(i : Int), 4, kp⟩) (.inr (by simp)), cN_no (x := b) (.inr (by omega)), hv.noflown hi h0]; omega
/-- The departures, with another one at i of the same price. -/
theorem set_at {fl : List Dep} {i : Nat} {d z : Dep} (hi : fl[i]? = some d) (k : Nat) : (fl.set i z)[k]? = if k = i then some z else fl[k]? := by
 by_cases hk : k = i
 ·subst hk; rw [if_pos rfl]; simp [(List.getElem?_eq_some_iff.1 hi).1]
 ·rw [if_neg hk, List.getElem?_set_ne (fun e => hk e.symm)]
theorem set_prc {fl : List Dep} {i : Nat} {d z : Dep} (hi : fl[i]? = some d) (hp : z.price = d.price) {x : Bk} {k : Nat} {e : Dep} (hk : x.flight = (k : Int)) (he : fl[k]? = some e) : prc (fl.set i z) x = prc fl x := by
 rw [prc_at hk he]
 by_cases hki : k = i
 ·subst hki
  obtain rfl : e = d := by rw [hi] at he; exact (Option.some.inj he).symm
  rw [prc_at hk (by rw [set_at hi, if_pos rfl]), hp]
 ·rw [prc_at hk (by rw [set_at hi, if_neg hki]; exact he)]
theorem seats_valid {o : Off} (hv : OkO o) {i : Nat} {d : Dep} (hi : o.fl[i]? = some d) (h0 : d.state = 0) {s : Int} (hs : 0 ≤ s ∧ s ≤ 50) (hm : manyV o.bk i 1 ≤ s) (x : Deal) (hx1 : x.n = (i : Int)) (hx2 : x.seats = s) : officeB (seatsV o x) = true := by
 have h := hv.semi i
 have hdep : depAt o (i : Int) = d := by unfold depAt; rw [Int.toNat_natCast, hi]
 have hdd := hv.dep hi
 have hil := (List.getElem?_eq_some_iff.1 hi).1
 unfold seatsV
 simp only [hx1, hx2, hdep, Int.toNat_natCast]
 have hat := fun k => set_at (z := ⟨s, d.price, d.leaves, d.state⟩) hi k
 have hpr : ∀ y ∈ o.bk, prc (o.fl.set i ⟨s, d.price, d.leaves, d.state⟩) y = prc o.fl y := fun y hy => by
  obtain ⟨k, e, hk, he, _⟩ := hv.bkok hy
  exact set_prc (z := ⟨s, d.price, d.leaves, d.state⟩) hi rfl hk he
 have hs1 : sm (cH (o.fl.set i ⟨s, d.price, d.leaves, d.state⟩)) o.bk = sm (cH o.fl) o.bk := sm_congr fun x hx => by unfold cH; rw [hpr x hx]
 have hs2 : sm (cE (o.fl.set i ⟨s, d.price, d.leaves, d.state⟩)) o.bk = sm (cE o.fl) o.bk := sm_congr fun x hx => by unfold cE; rw [hpr x hx]
 have hs3 : sm (cK (o.fl.set i ⟨s, d.price, d.leaves, d.state⟩)) o.bk = sm (cK o.fl) o.bk := sm_congr fun x hx => rfl
 have hs4 : sm (cB (o.fl.set i ⟨s, d.price, d.leaves, d.state⟩)) o.bk = sm (cB o.fl) o.bk := sm_congr fun x hx => by unfold cB; rw [hpr x hx]
 refine Semi.given (o := { o with fl := o.fl.set i ⟨s, d.price, d.leaves, d.state⟩ }) (i := i) (d := ⟨s, d.price, d.leaves, d.state⟩) ⟨h.now, h.notice, h.fee, by simp only [List.length_set]; exact h.nf, h.nb, fun e he => ?_, fun y hy => ?_, fun k e hk he => ?_, ?_, ?_⟩ (by rw [hat, if_pos rfl]) h0 hm (hv.noflown hi h0)
 ·rcases List.mem_or_eq_of_mem_set he with he | rfl
  ·exact h.deps e he
  ·refine ⟨?_, by simp only; omega⟩
   unfold depOk
   simp only [Bool.and_eq_true, decide_eq_true_eq]
   omega
 ·obtain ⟨k, e, hk, he, hc⟩ := h.bks y hy
  by_cases hki : k = i
  ·subst hki
   obtain rfl : e = d := by rw [hi] at he; exact (Option.some.inj he).symm
   exact ⟨k, ⟨s, e.price, e.leaves, e.state⟩, hk, by simp only; rw [hat, if_pos rfl], hc⟩
  ·exact ⟨k, e, hk, by simp only; rw [hat, if_neg hki]; exact he, hc⟩
 ·simp only at he
  rw [hat, if_neg hk] at he
  exact h.seat k e hk he
 ·simp only; rw [hs1, hs2, hs3, hs4]; exact h.inn
 ·simp only; rw [hs4]; exact h.out
theorem sm_paid (f to price : Int) : ∀ (l : List Bk), sm (fun x => if backB f to x = true then price else 0) l = paidV l f to price
 | [] => by simp [sm, paidV]
 | x :: l => by
  unfold paidV
  simp only [sm]
  rw [sm_paid f to price l]
  unfold paidV
  by_cases h : backB f to x = true
  ·rw [if_pos h, List.filter_cons_of_pos h, List.length_cons]; simp only [Int.natCast_add, Int.natCast_one, Int.add_mul, Int.one_mul]; omega
  ·rw [if_neg h, List.filter_cons_of_neg h]; omega
theorem closed_valid {o : Off} (hv : OkO o) {i : Nat} {d : Dep} (hi : o.fl[i]? = some d) (h0 : d.state = 0) {st to : Int} (hst : (st = 1 ∧ to = 3) ∨ (st = 2 ∧ to = 4)) : officeB (closedV o i d st to) = true := by
 have h := hv.semi i
 have hdd := hv.dep hi
 have hfe := fee_in ⟨hdd.2.2.1, hdd.2.2.2.1⟩ hv.fee
 have hat := fun k => set_at (z := ⟨d.seats, d.price, d.leaves, st⟩) hi k
 have hpr : ∀ y ∈ o.bk, ∀ z : Bk, z.flight = y.flight → prc (o.fl.set i ⟨d.seats, d.price, d.leaves, st⟩) z = prc o.fl y := fun y hy z hz => by
  obtain ⟨k, e, hk, he, _⟩ := hv.bkok hy
  rw [set_prc (z := ⟨d.seats, d.price, d.leaves, st⟩) hi rfl (hz.trans hk) he, prc_at (hz.trans hk) he, prc_at hk he]
 -- how a booking is
 have key : ∀ x ∈ o.bk, (x.flight = (i : Int) ∧ x.state = 1 ∧ shutB (i : Int) to x = ⟨x.flight, to, x.kept⟩ ∧ x.kept = 0 ∧ backB (i : Int) to x = decide (to = 4)) ∨ (x.flight = (i : Int) ∧ x.state = 2 ∧ shutB (i : Int) to x = ⟨x.flight, 4, x.kept⟩ ∧ x.kept = 0 ∧ backB (i : Int) to x = true) ∨ ((x.flight ≠ (i : Int) ∨ x.state = 4) ∧ shutB (i : Int) to x = x ∧ backB (i : Int) to x = false) := fun x hx => by
  by_cases hf : x.flight = (i : Int)
  ·rcases hv.open_st hi h0 hx hf with h1 | h1 | h1
   ·refine .inl ⟨hf, h1, ?_, hv.kept0 hx (.inl h1), ?_⟩
    ·unfold shutB; rw [if_pos (by unfold isB; simp [hf, h1])]
    ·unfold backB isB; simp [hf, h1]
   ·refine .inr (.inl ⟨hf, h1, ?_, hv.kept0 hx (.inr h1), ?_⟩)
    ·unfold shutB; rw [if_neg (by unfold isB; simp [h1]), if_pos (by unfold isB; simp [hf, h1])]
    ·unfold backB isB; simp [hf, h1]
   ·have := shut_no (f := (i : Int)) (to := to) (x := x) (by rw [mt_is2]; unfold isB; simp [h1])
    exact .inr (.inr ⟨.inr h1, this.1, this.2⟩)
  ·have := shut_no (f := (i : Int)) (to := to) (x := x) (by rw [mt_is2]; unfold isB; simp [hf])
   exact .inr (.inr ⟨.inl hf, this.1, this.2⟩)
 have pr : ∀ x ∈ o.bk, x.flight = (i : Int) → prc o.fl x = d.price := fun x hx hf => prc_at hf hi
 have hB : sm (cB (o.fl.set i ⟨d.seats, d.price, d.leaves, st⟩)) (o.bk.map (shutB (i : Int) to)) = sm (cB o.fl) o.bk + paidV o.bk (i : Int) to d.price := by
  rw [sm_map, ← sm_paid, ← sm_add]
  refine sm_congr fun x hx => ?_
  rcases key x hx with ⟨hf, hs, e1, e2, e3⟩ | ⟨hf, hs, e1, e2, e3⟩ | ⟨hf, e1, e3⟩
  ·rw [e1, e3]
   unfold cB
   simp only [hs, e2]
   rw [hpr x hx ⟨x.flight, to, 0⟩ rfl, pr x hx hf]
   rcases hst with ⟨_, ht⟩ | ⟨_, ht⟩ <;> subst ht <;> simp
  ·rw [e1, e3]
   unfold cB
   simp only [hs, e2, if_true]
   rw [hpr x hx ⟨x.flight, 4, 0⟩ rfl, pr x hx hf]; simp
  ·rw [e1, e3]
   unfold cB
   rw [hpr x hx x rfl]; simp
 have hT : sm (fun x => cH (o.fl.set i ⟨d.seats, d.price, d.leaves, st⟩) x + cE (o.fl.set i ⟨d.seats, d.price, d.leaves, st⟩) x + cK (o.fl.set i ⟨d.seats, d.price, d.leaves, st⟩) x + cB (o.fl.set i ⟨d.seats, d.price, d.leaves, st⟩) x) (o.bk.map (shutB (i : Int) to)) = sm (fun x => cH o.fl x + cE o.fl x + cK o.fl x + cB o.fl x) o.bk := by
  rw [sm_map]
  refine sm_congr fun x hx => ?_
  rcases key x hx with ⟨hf, hs, e1, e2, e3⟩ | ⟨hf, hs, e1, e2, e3⟩ | ⟨hf, e1, e3⟩
  ·rw [e1]
   unfold cH cE cK cB
   simp only [hs, e2]
   rw [hpr x hx ⟨x.flight, to, 0⟩ rfl, pr x hx hf]
   rcases hst with ⟨_, ht⟩ | ⟨_, ht⟩ <;> subst ht <;> simp
  ·rw [e1]
   unfold cH cE cK cB
   simp only [hs, e2]
   rw [hpr x hx ⟨x.flight, 4, 0⟩ rfl, pr x hx hf]; simp
  ·rw [e1]
   unfold cH cE cK cB
   rw [hpr x hx x rfl]
 simp only [sm_add] at hT
 have nj : ∀ (k : Nat) (s : Int), k ≠ i → manyV (o.bk.map (shutB (i : Int) to)) (k : Int) s = manyV o.bk (k : Int) s := fun k s hk => by
  rw [many_sm, many_sm, sm_map]
  refine sm_congr fun x hx => ?_
  rcases key x hx with ⟨hf, hs, e1, e2, e3⟩ | ⟨hf, hs, e1, e2, e3⟩ | ⟨hf, e1, e3⟩
  ·rw [e1, cN_no (x := ⟨x.flight, to, x.kept⟩) (.inl (by simp only; omega)), cN_no (x := x) (.inl (by omega))]
  ·rw [e1, cN_no (x := ⟨x.flight, 4, x.kept⟩) (.inl (by simp only; omega)), cN_no (x := x) (.inl (by omega))]
  ·rw [e1]
 have n2 : ∀ s : Int, s = 1 ∨ s = 2 → manyV (o.bk.map (shutB (i : Int) to)) (i : Int) s = 0 := fun s hs12 => by
  refine many_zero_of fun y hy => ?_
  obtain ⟨x, hx, rfl⟩ := List.mem_map.1 hy
  cases hb : isB (i : Int) s (shutB (i : Int) to x) with
  | false => rfl
  | true =>
   exfalso
   obtain ⟨b1, b2⟩ := isB_st hb
   rcases key x hx with ⟨hf, hs, e1, e2, e3⟩ | ⟨hf, hs, e1, e2, e3⟩ | ⟨hf, e1, e3⟩
   ·rw [e1] at b2; simp only at b2; omega
   ·rw [e1] at b2; simp only at b2; omega
   ·rw [e1] at b1 b2
    rcases hf with hf | hf
    ·exact hf b1
    ·omega
 have n3 : manyV (o.bk.map (shutB (i : Int) to)) (i : Int) 3 ≤ manyV o.bk (i : Int) 3 + manyV o.bk (i : Int) 1 := by
  rw [many_sm, many_sm, many_sm, sm_map, ← sm_add]
  have le : ∀ l : List Bk, (∀ x ∈ l, x ∈ o.bk) → sm (fun x => cN (i : Int) 3 (shutB (i : Int) to x)) l ≤ sm (fun x => cN (i : Int) 3 x + cN (i : Int) 1 x) l := by
   intro l
   induction l with
   | nil => intro _; exact Int.le_refl _
   | cons x l ih =>
    intro hl
    have ih' := ih (fun y hy => hl y (List.mem_cons_of_mem _ hy))
    simp only [sm]
    have c1 := cN_in (i : Int) 3 x
    have c2 := cN_in (i : Int) 1 x
    rcases key x (hl x (List.mem_cons_self ..)) with ⟨hf, hs, e1, e2, e3⟩ | ⟨hf, hs, e1, e2, e3⟩ | ⟨hf, e1, e3⟩
    ·have c3 := cN_in (i : Int) 3 ⟨x.flight, to, x.kept⟩
     have c4 : cN (i : Int) 1 x = 1 := by unfold cN isB; simp [hf, hs]
     rw [e1]; omega
    ·rw [e1, cN_no (x := ⟨x.flight, 4, x.kept⟩) (.inr (by simp))]; omega
    ·rw [e1]; omega
  exact le o.bk (fun x hx => hx)
 have hS : Semi (closedV o i d st to) i := by
  refine ⟨h.now, h.notice, h.fee, by unfold closedV; simp only [List.length_set]; exact h.nf, by unfold closedV; simp only [List.length_map]; exact h.nb, fun e he => ?_, fun y hy => ?_, fun k e hk he => ?_, ?_, ?_⟩
  ·rcases List.mem_or_eq_of_mem_set he with he | rfl
   ·exact h.deps e he
   ·refine ⟨?_, by simp only; omega⟩
    unfold depOk
    simp only [Bool.and_eq_true, decide_eq_true_eq]
    omega
  ·obtain ⟨x, hx, rfl⟩ := List.mem_map.1 hy
   obtain ⟨k, e, hk, he, hc⟩ := h.bks x hx
   rcases key x hx with ⟨hf, hs, e1, e2, e3⟩ | ⟨hf, hs, e1, e2, e3⟩ | ⟨hf, e1, e3⟩
   ·rw [e1]
    refine ⟨i, _, hf, by unfold closedV; simp only; rw [hat, if_pos rfl], ?_⟩
    rcases hst with ⟨h1, ht⟩ | ⟨h1, ht⟩
    ·exact .inr ⟨by simp only; omega, by unfold fitB; simp [h1, ht], e2⟩
    ·refine .inl ⟨ht, ?_, ?_⟩
     ·simp only; omega
     ·show x.kept ≤ feeV d.price o.fee; omega
   ·rw [e1]
    refine ⟨i, _, hf, by unfold closedV; simp only; rw [hat, if_pos rfl], .inl ⟨rfl, ?_, ?_⟩⟩
    ·simp only; omega
    ·show x.kept ≤ feeV d.price o.fee; omega
   ·rw [e1]
    by_cases hki : k = i
    ·subst hki
     obtain rfl : e = d := by rw [hi] at he; exact (Option.some.inj he).symm
     have h4 : x.state = 4 := by
      rcases hf with hf | hf
      ·exact absurd hk hf
      ·exact hf
     refine ⟨k, _, hk, by unfold closedV; simp only; rw [hat, if_pos rfl], ?_⟩
     rcases hc with hc | hc
     ·exact .inl hc
     ·exact absurd h4 hc.1
    ·exact ⟨k, e, hk, by unfold closedV; simp only; rw [hat, if_neg hki]; exact he, hc⟩
  ·unfold closedV at he ⊢
   simp only at he ⊢
   rw [hat, if_neg hk] at he
   rw [nj k _ hk, nj k _ hk, nj k _ hk]
   exact h.seat k e hk he
  ·unfold closedV
   simp only
   have := h.inn
   omega
  ·unfold closedV
   simp only
   rw [hB, h.out]
 refine hS.valid fun e he => ?_
 unfold closedV at he ⊢
 simp only at he ⊢
 rw [hat, if_pos rfl] at he
 obtain rfl := Option.some.inj he
 rw [n2 1 (.inl rfl), n2 2 (.inr rfl)]
 have := hv.seat hi
 have := hv.noflown hi h0
 have := many_pos (o.bk.map (shutB (i : Int) to)) (i : Int) 3
 simp only
 omega
/-- The departures' states stay numbers from 0. -/
theorem done_st {o : Off} (hu : ∀ d ∈ o.fl, 0 ≤ d.state) (d : Deal) : ∀ e ∈ (doneO o d).fl, 0 ≤ e.state := by
 have hdep : ∀ n, 0 ≤ (depAt o n).state := fun n => by
  unfold depAt
  cases hh : o.fl[n.toNat]? with
  | none => exact Int.le_refl _
  | some e => exact hu e (List.mem_of_getElem? hh)
 intro e he
 unfold doneO at he
 split at he
 ·unfold addV at he
  rcases List.mem_append.1 he with he | he
  ·exact hu e he
  ·rw [List.mem_singleton.1 he]; exact Int.le_refl _
 split at he
 ·exact hu e he
 split at he
 ·exact hu e he
 split at he
 ·unfold closedV at he
  rcases List.mem_or_eq_of_mem_set he with he | rfl
  ·exact hu e he
  ·show (0 : Int) ≤ 1; decide
 split at he
 ·unfold closedV at he
  rcases List.mem_or_eq_of_mem_set he with he | rfl
  ·exact hu e he
  ·show (0 : Int) ≤ 2; decide
 split at he
 ·exact hu e he
 ·unfold seatsV givenV at he
  rcases List.mem_or_eq_of_mem_set he with he | rfl
  ·exact hu e he
  ·exact hdep _
theorem done_valid {o : Off} (hv : OkO o) (d : Deal) (hE : doneE o d = 0) : officeB (doneO o d) = true := by
 obtain ⟨dk, dn, ds, dp, dl⟩ := d
 unfold doneE at hE
 unfold doneO
 simp only at hE ⊢
 by_cases k1 : dk = 1
 ·subst k1
  rw [if_pos rfl] at hE ⊢
  by_cases c1 : depOk ⟨ds, dp, dl, 0⟩ = true ∧ o.now ≤ dl
  ·rw [if_pos c1] at hE
   by_cases c2 : o.fl.length < 10
   ·exact add_valid hv c1.1 rfl c2
   ·rw [if_neg c2] at hE; exact absurd hE (by decide)
  ·rw [if_neg c1] at hE; exact absurd hE (by decide)
 rw [if_neg k1] at hE ⊢
 by_cases k2 : dk = 2
 ·subst k2
  rw [if_pos rfl] at hE ⊢
  by_cases c1 : openE o dn = 0
  ·rw [if_pos c1] at hE
   by_cases c2 : o.bk.length < 120
   ·obtain ⟨i, e, rfl, hi, h0⟩ := openE_ok c1
    exact sell_valid hv hi h0 c2
   ·rw [if_neg c2] at hE; exact absurd hE (by decide)
  ·rw [if_neg c1] at hE; exact absurd hE c1
 rw [if_neg k2] at hE ⊢
 by_cases k3 : dk = 3
 ·subst k3
  rw [if_pos rfl] at hE ⊢
  by_cases c1 : 0 ≤ dn ∧ dn < (o.bk.length : Int)
  ·rw [if_pos c1] at hE
   by_cases c2 : (bkAt o dn).state = 1 ∨ (bkAt o dn).state = 2
   ·obtain ⟨j, rfl⟩ : ∃ j : Nat, dn = (j : Int) := ⟨dn.toNat, by omega⟩
    obtain ⟨b, hb⟩ : ∃ b, o.bk[j]? = some b := ⟨_, List.getElem?_eq_getElem (by omega)⟩
    have hbat : bkAt o (j : Int) = b := by unfold bkAt; rw [Int.toNat_natCast, hb]
    rw [hbat] at c2
    exact cancel_valid hv hb c2
   ·rw [if_neg c2] at hE; exact absurd hE (by decide)
  ·rw [if_neg c1] at hE; exact absurd hE (by decide)
 rw [if_neg k3] at hE ⊢
 by_cases k4 : dk = 4
 ·subst k4
  rw [if_pos rfl] at hE ⊢
  by_cases c1 : openE o dn = 0
  ·obtain ⟨i, e, rfl, hi, h0⟩ := openE_ok c1
   have hdep : depAt o (i : Int) = e := by unfold depAt; rw [Int.toNat_natCast, hi]
   rw [hdep, Int.toNat_natCast]
   exact closed_valid hv hi h0 (.inl ⟨rfl, rfl⟩)
  ·rw [if_neg c1] at hE; exact absurd hE c1
 rw [if_neg k4] at hE ⊢
 by_cases k5 : dk = 5
 ·subst k5
  rw [if_pos rfl] at hE ⊢
  obtain ⟨i, e, rfl, hi, h0⟩ := openE_ok hE
  have hdep : depAt o (i : Int) = e := by unfold depAt; rw [Int.toNat_natCast, hi]
  rw [hdep, Int.toNat_natCast]
  exact closed_valid hv hi h0 (.inr ⟨rfl, rfl⟩)
 rw [if_neg k5] at hE ⊢
 by_cases k6 : dk = 6
 ·subst k6
  rw [if_pos rfl] at hE ⊢
  by_cases c1 : 1 ≤ dn ∧ dn ≤ 1000000 ∧ o.now + dn ≤ 1000000
  ·have := hv.now
   exact tick_valid hv (by omega)
  ·rw [if_neg c1] at hE; exact absurd hE (by decide)
 rw [if_neg k6] at hE ⊢
 by_cases k7 : dk = 7
 ·subst k7
  rw [if_pos rfl] at hE
  by_cases c1 : openE o dn = 0
  ·rw [if_pos c1] at hE
   by_cases c2 : 0 ≤ ds ∧ ds ≤ 50
   ·rw [if_pos c2] at hE
    by_cases c3 : manyV o.bk dn 1 ≤ ds
    ·obtain ⟨i, e, rfl, hi, h0⟩ := openE_ok c1
     exact seats_valid hv hi h0 c2 c3 _ rfl rfl
    ·rw [if_neg c3] at hE; exact absurd hE (by decide)
   ·rw [if_neg c2] at hE; exact absurd hE (by decide)
  ·rw [if_neg c1] at hE; exact absurd hE c1
 rw [if_neg k7] at hE
 exact absurd hE (by decide)
theorem done_okO {o : Off} (hv : OkO o) (d : Deal) (hE : doneE o d = 0) : OkO (doneO o d) := okO (done_st (fun e he => (hv.deps e he).2) d) (done_valid hv d hE)
end Go.Proofs.Ytmlmgipngbndgaa
namespace Go.Proofs.Ytmlmgipngbndgaa
open Go.RowKit
/-- A frame with the deferred calls ds, no marks. -/
def Fd (c : Cx) (ds : List Deferred) (F : Fr) (a : Act) : Prop := Frm [] c.N F ⟨a.tmps, []⟩ ∧ a.defers = ds
def cvd (c : Cx) (ds : List Deferred) (Q : QS) : Exit → Act → World → Prop := fun e a w => ∃ F H, Q e F H ∧ Fd c ds F a ∧ Has c.w0 ⟨c.M, []⟩ H w
def DT (c : Cx) (ds : List Deferred) (k : Code) (Q : QS) (F : Fr) (H : Hp) : Prop := ∀ a w, Fd c ds F a → Has c.w0 ⟨c.M, []⟩ H w → k.wp c.P (cvd c ds Q) a w
def DE (c : Cx) (ds : List Deferred) (ops : Array Oper) (rest : List Oper) (Q : QS) (F : Fr) (H : Hp) : Prop :=
 ∀ i, ops.toList.drop i = rest → ∀ a w, Fd c ds F a → Has c.w0 ⟨c.M, []⟩ H w → wpOps c.P ops (cvd c ds Q) (List.range' i (ops.size - i)) a w
section
variable {c : Cx} {ds : List Deferred} {Q : QS} {F : Fr} {H : Hp} {ops : Array Oper} {o : Oper} {rest : List Oper} {d : Nat} {v : Value} {x y : Code}
theorem eval_ds (a : Act) : (⟨a.tmps, []⟩ : Act).eval = a.eval := by funext x; cases x <;> rfl
theorem put_ds (a : Act) (d : Option Tmp) (v : Value) : (a.put d v).defers = a.defers := by cases d <;> rfl
theorem put_tm (a : Act) (d : Option Tmp) (v : Value) : (⟨a.tmps, []⟩ : Act).put d v = ⟨(a.put d v).tmps, []⟩ := by cases d <;> rfl
theorem Fd.put {a : Act} (h : Fd c ds F a) (hd : Nat.blt d c.N = true) (v : Value) : Fd c ds ((d, v) :: F) (a.put (some d) v) := ⟨h.1.put hd v, h.2⟩
theorem Fd.putNone {a : Act} (h : Fd c ds F a) (v : Value) : Fd c ds F (a.put none v) := h
theorem Fd.wanted {a : Act} {r : Bool} (h : Fd c ds F a) (hr : runs ops F o = some r) : Region.wanted o (yielded ops a.tmps) = r := runs_spec (a := ⟨a.tmps, []⟩) h.1 hr
theorem dt_seq (h : DT c ds x (thenQ (DT c ds y Q) Q) F H) : DT c ds (.seq x y) Q F H := fun a w ha hw =>
 wp_seq (wp_mono (h a w ha hw) fun e a w ⟨F', H', h1, h2, h3⟩ => by
  cases e <;> first
   | exact ⟨F', H', h1, h2, h3⟩
   | exact h1 a w h2 h3)
theorem dt_skip (h : Q .normal F H) : DT c ds .skip Q F H := fun a w ha hw => wp_skip ⟨F, H, h, ha, hw⟩
theorem dt_condT {o : Operand} (ho : ev F o = some (.bool true)) (h : DT c ds x Q F H) : DT c ds (.cond o x y) Q F H := fun a w ha hw => wp_cond (t := true) (ha.1.ev ho) (h a w ha hw)
theorem dt_condF {o : Operand} (ho : ev F o = some (.bool false)) (h : DT c ds y Q F H) : DT c ds (.cond o x y) Q F H := fun a w ha hw => wp_cond (t := false) (ha.1.ev ho) (h a w ha hw)
theorem dt_region {id : Nat} {l : List Oper} (h : DE c ds ⟨l⟩ l Q F H) : DT c ds (.region id ⟨l⟩ false) Q F H := fun a w ha hw => by
 refine wp_region ?_
 have := h 0 rfl a w ha hw
 rw [List.range_eq_range']
 exact this
theorem d_nil (h : Q .normal F H) : DE c ds ops [] Q F H := fun i hi a w ha hw => by
 have : ops.size - i = 0 := by
  have := congrArg List.length hi
  simp at this
  omega
 rw [this]
 exact ⟨F, H, h, ha, hw⟩
theorem d_q (hr : runs ops F o = some true) (_hw : isW o.op = false) (hd : o.dst = some d) (hN : Nat.blt d c.N = true) (h : OQ c o F H v) (k : DE c ds ops rest Q ((d, v) :: F) H) : DE c ds ops (o :: rest) Q F H := fun i hi a w ha hw => by
 obtain ⟨h1, h2, h3⟩ := drop_cons hi
 rw [h3]
 simp only [wpOps, h1, ha.wanted hr, if_true]
 refine .inl (givesUpon_wpQ (eval_ds a ▸ h [] ⟨a.tmps, []⟩ w ha.1 hw) fun u w' ⟨hu, hx⟩ => ?_)
 subst hu
 rw [hd]
 exact k _ h2 _ _ (ha.put hN _) (hw.grow hx)
theorem d_s (hr : runs ops F o = some true) (hd : o.dst = some d) (hN : Nat.blt d c.N = true) (h : OS c o F H (fun v H' => DE c ds ops rest Q ((d, v) :: F) H')) : DE c ds ops (o :: rest) Q F H := fun i hi a w ha hw => by
 obtain ⟨h1, h2, h3⟩ := drop_cons hi
 rw [h3]
 simp only [wpOps, h1, ha.wanted hr, if_true]
 refine .inl (givesUpon_wpQ (eval_ds a ▸ h [] ⟨a.tmps, []⟩ w ha.1 hw) fun u w' ⟨H', hu, hx⟩ => ?_)
 rw [hd]
 exact hu _ h2 _ _ (ha.put hN _) hx
theorem d_s0 (hr : runs ops F o = some true) (hd : o.dst = none) (h : OS c o F H (fun _ H' => DE c ds ops rest Q F H')) : DE c ds ops (o :: rest) Q F H := fun i hi a w ha hw => by
 obtain ⟨h1, h2, h3⟩ := drop_cons hi
 rw [h3]
 simp only [wpOps, h1, ha.wanted hr, if_true]
 refine .inl (givesUpon_wpQ (eval_ds a ▸ h [] ⟨a.tmps, []⟩ w ha.1 hw) fun u w' ⟨H', hu, hx⟩ => ?_)
 rw [hd]
 exact hu _ h2 _ _ (ha.putNone _) hx
theorem d_p (hr : runs ops F o = some true) (h : OP c o F H (fun ch H' => Q (.panic ch) F H')) : DE c ds ops (o :: rest) Q F H := fun i hi a w ha hw => by
 obtain ⟨h1, h2, h3⟩ := drop_cons hi
 rw [h3]
 simp only [wpOps, h1, ha.wanted hr, if_true]
 exact .inl (panics_wp (eval_ds a ▸ h [] ⟨a.tmps, []⟩ w ha.1 hw) fun ch w' ⟨H', hk, hw'⟩ => ⟨F, H', hk, ha, hw'⟩)
theorem wpGI_ds {P : Program} {I : World → Prop} {R : Act → Prop} : ∀ (l : List Nat) (a : Act), a.defers = ds → wpGI P ops I R l ⟨a.tmps, []⟩ → wpGI P ops I (fun a' => R ⟨a'.tmps, []⟩ ∧ a'.defers = ds) l a
 | [], a, hd, h => ⟨h, hd⟩
 | i :: l, a, hd, h => by
  unfold wpGI at h ⊢
  cases ho : ops[i]? with
  | none => simp only [ho] at h
  | some o =>
   simp only [ho] at h ⊢
   by_cases hw : Region.wanted o (yielded ops a.tmps) = true
   ·simp only [hw, if_true] at h ⊢
    obtain ⟨v, h1, h2⟩ := h
    refine ⟨v, ?_, ?_⟩
    ·intro W hW; have := h1 W hW; rw [eval_ds] at this; exact this
    exact wpGI_ds l (a.put o.dst v) (by rw [put_ds]; exact hd) (by rw [← put_tm]; exact h2)
   ·simp only [hw] at h ⊢
    exact wpGI_ds l (a.put o.dst undef) (by rw [put_ds]; exact hd) (by rw [← put_tm]; exact h)
/-- A drawn region: quiet operations, then one that is not. -/
theorem dt_mix1 {id i : Nat} {l ql : List Oper} (q : List Nat) (cov : Array Bool) (hm : c.P.follows .mixedOrders = true) (hB : (Region.noSelect ⟨l⟩ && (1 + q.length == (Array.mk l).size) && lexOk ⟨l⟩ cov q (Array.replicate (Array.mk l).size false)) = true)
  (hq : pickOps l q = some ql) (hr : Region.ready .any ⟨l⟩ (listedBy q (Array.replicate (Array.mk l).size false)) = [i]) (hc : cov.getD i false = true) (ho : l[i]? = some o)
  (hz : Region.ready .any ⟨l⟩ ((listedBy q (Array.replicate (Array.mk l).size false)).setIfInBounds i true) = []) (hd : o.dst = some d) (hN : Nat.blt d c.N = true)
  (h : GX c ⟨l⟩ ql (fun F' => runs ⟨l⟩ F' o = some true ∧ (OS c o F' H (fun v H' => Q .normal ((d, v) :: F') H') ∨ OP c o F' H (fun ch H' => Q (.panic ch) F' H'))) F H) : DT c ds (.region id ⟨l⟩ true) Q F H := fun a w ha hw => by
 refine wpIn_wide.1 (wpInW_mixed (n := 0) (cov := cov) (Has.up (M := ⟨c.M, []⟩)) hw q 1 hm hB (wpGI_mono (fun a' ⟨⟨F', ⟨h1, h2⟩, h3⟩, h4⟩ w' hw' => ?_) q a (wpGI_ds q a ha.2 (h q (pickOps_spec hq) [] _ ha.1))))
 have hfd : Fd c ds F' a' := ⟨h3, h4⟩
 refine SInI_one hr hc (wpOpIn_on (o := o) (by simpa using ho) (hfd.wanted h1) ?_)
 rcases h2 with h2 | h2
 ·refine wpInW_of_wp (givesUpon_wp (eval_ds a' ▸ h2 [] ⟨a'.tmps, []⟩ w' h3 hw') fun u w'' ⟨H', hu, hx⟩ => ?_)
  rw [hd]
  exact ⟨hz, _, H', hu, hfd.put hN _, hx⟩
 ·exact panics_wpIn (eval_ds a' ▸ h2 [] ⟨a'.tmps, []⟩ w' h3 hw') fun ch w'' ⟨H', hk, hx⟩ => ⟨F', H', hk, hfd, hx⟩
theorem dt_ret (h : Q .ret F H) : DT c ds .ret Q F H := fun a w ha hw => wp_ret ⟨F, H, h, ha, hw⟩
theorem dt_run {k : Code} (h : DT c ds k Q F H) (a : Act) (w : World) (ha : Fd c ds F a) (hw : Has c.w0 ⟨c.M, []⟩ H w) : k.wp c.P (cvd c ds Q) a w := h a w ha hw
theorem dt_id {k : Code} (h : DT c ds k Q F H) : DT c ds k Q F H := h
theorem de_id {l : List Oper} (h : DE c ds ops l Q F H) : DE c ds ops l Q F H := h
end
end Go.Proofs.Ytmlmgipngbndgaa
namespace Go.Proofs.Ytmlmgipngbndgaa
open Go.RowKit
attribute [local irreducible] DT DE TE AE OP OQ OS OX Rd T TL GX GL AL AI RV wpG SAny Calls
theorem assert_ok (v : Value) (w : World) : (Instr.typeAssert (.iface 169 v) 20 169 true).run Try.prog w = .ok (.tuple #[v, .bool true]) w := by
 kernel_rfl
theorem assert_nil (w : World) : (Instr.typeAssert .nilIface 20 169 true).run Try.prog w = .ok (.tuple #[.agg #[.int .i64 0], .bool false]) w := by
 kernel_rfl
theorem neq_nil (w : World) : (binOp .neq 20 .nilIface .nilIface).run Try.prog w = .ok (.bool false) w := by
 kernel_rfl
section
variable {w0 : World} {M : List Nat} {N : Nat} {F : Fr} {H : Hp} {d : Option Tmp} {ty : TypeId} {pos : String} {af : Array Edge} {g : Option (Nat × Bool)} {x y : Operand} {v : Value}
theorem oq_assertOk (hx : ev F x = some (.iface 169 v)) : OQ (cxM M w0 N) ⟨d, .typeAssert x 20 169 true, ty, pos, af, g⟩ F H (.tuple #[v, .bool true]) := .of fun D a w ha _ => by
 simp only [execOp, ha.ev hx, Sem.run_bind, assert_ok, Result.andThen, Sem.run_pure]
theorem oq_assertNil (hx : ev F x = some .nilIface) : OQ (cxM M w0 N) ⟨d, .typeAssert x 20 169 true, ty, pos, af, g⟩ F H (.tuple #[.agg #[.int .i64 0], .bool false]) := .of fun D a w ha _ => by
 simp only [execOp, ha.ev hx, Sem.run_bind, assert_nil, Result.andThen, Sem.run_pure]
theorem oq_neqNilI (hx : ev F x = some .nilIface) : OQ (cxM M w0 N) ⟨d, .binOp .neq 20 x (.const .nilIface) 20, ty, pos, af, g⟩ F H (.bool false) := .of fun D a w ha _ => by
 have e1 : (eqGuard .neq 20 x (.const .nilIface) .nilIface .nilIface).run Try.prog w = .ok () w := by simp [eqGuard, go_sem]
 simp only [execOp, ha.ev hx, (show a (.const .nilIface) = .nilIface from ha.ev (F := F) rfl), Sem.run_bind, neq_nil, e1, Result.andThen, Sem.run_pure]
end
theorem wpS_of_dt {c : Cx} {k : Code} {Q : QS} {F : Fr} {H : Hp} {a : Act} {cs : List Frame} {w : World} {Q' : Exit → Act → List Frame → World → Prop} (h : DT c [] k Q F H) (hf : Fd c [] F a) (hw : Has c.w0 ⟨c.M, []⟩ H w) (hq : ∀ e a w, cvd c [] Q e a w → Q' e a cs w) : k.wpS c.P Q' a cs w :=
 wpS_of_wp (wp_mono (dt_run h a w hf hw) hq)
theorem rec_pan (be : Nat) (z old : Int) (tg : Tg) (w : World) (hw : Has w ⟨[be], []⟩ [(be, [.int .i64 old], tg)] w) :
  CallsD Try.prog 104 #[.pointer (some ⟨be, 0, none⟩)] (.panicking (refu z)) w fun e u' w' => e = .returned (.tuple #[]) ∧ u' = .panicking [{ v := .iface 169 (.agg #[.int .i64 z]), recovered := true }] ∧ Has w ⟨[be], []⟩ [(be, [.int .i64 z], tg)] w' := by
 refine callsD_of_wpS Try.func104 rfl fun c₀ cs hu => ?_
 apply wpS_seq
 apply wpS_region
 simp [wpOpsS, go_sem, recoverD, hu, refu, Exit.thenS]
 refine wpS_of_dt (c := cxM [be] w 16) (Q := fun e _ H => (e = .normal ∨ e = .ret) ∧ HpSub H [(be, [.int .i64 z], tg)]) (F := [(1, .iface 169 (.agg #[.int .i64 z])), (0, .pointer (some ⟨be, 0, none⟩))]) (H := [(be, [.int .i64 old], tg)]) ?D ⟨⟨by simp, rfl, fun d v h => ?_⟩, rfl⟩ hw ?_
 case D =>
  repeat' (first | (apply oq_fn; exact rfl; try first | exact trivial | (and_intros <;> omega)) | ((with_reducible apply oq_load); exact rfl; exact rfl) | ((with_reducible apply oq_assertOk); exact rfl) | ((with_reducible apply os_x); exact rfl) | ((with_reducible apply os_store); (iterate 4 exact rfl)) | ((with_reducible apply os_storeAgg); (iterate 5 exact rfl)) | ((with_reducible apply ox_alloc); exact rfl; intro _) | (apply Rd.own; (repeat (first | exact P0 | apply P1)); exact rfl; done) | with_reducible apply q_thenN | exact P0 | (with_reducible apply P1) | ((with_reducible apply Norm.nil); exact rfl) | ((with_reducible apply Norm.cons); exact rfl) | ((with_reducible apply d_q); (iterate 4 exact rfl)) | ((with_reducible apply d_s0); exact rfl; exact rfl) | ((with_reducible apply d_s); (iterate 3 exact rfl)) | (with_reducible apply d_nil) | (with_reducible apply dt_seq) | (apply dt_region) | ((with_reducible apply dt_condT); exact rfl) | exact Nat.le_of_ble_eq_true rfl)
  all_goals (refine ⟨.inl rfl, ?_⟩)
  all_goals (repeat (first | exact HpSub.refl _ | (apply HpSub.consE; (repeat (first | exact P0 | apply P1)); exact rfl) | exact HpSub.nil))
 ·rcases d with _ | _ | d
  ·simpa [look] using h
  ·simpa [look] using h
  ·rw [look_cons_ne _ _ (by omega), look_cons_ne _ _ (by omega)] at h; cases h
 ·rintro e a w' ⟨F', H', ⟨he, hs⟩, ⟨hf1, hf2⟩, hw'⟩
  have hres : (results Try.f104 a.tmps).run Try.prog w' = .ok (.tuple #[]) w' := results_run (c := cxM [be] w 16) (fn := Try.f104) (rs := []) (vs := []) (D := []) (a := ⟨a.tmps, []⟩) rfl hf1 hw' trivial
  have hu' : ({ fn := c₀.fn, tmps := c₀.tmps, todo := c₀.todo, defers := c₀.defers, mode := .panicking [{ v := .iface 169 (.agg #[.int .i64 z]), recovered := true }], kind := c₀.kind, roundOf := c₀.roundOf } : Frame) = { c₀ with mode := .panicking [{ v := .iface 169 (.agg #[.int .i64 z]), recovered := true }] } := rfl
  rcases he with rfl | rfl
  ·exact ⟨hf2, _, rfl, _, hres, rfl, rfl, hw'.sub hs⟩
  ·exact ⟨hf2, _, rfl, _, hres, rfl, rfl, hw'.sub hs⟩
theorem rec_idle (be : Nat) (z old : Int) (tg : Tg) (w : World) (hw : Has w ⟨[be], []⟩ [(be, [.int .i64 old], tg)] w) :
  CallsD Try.prog 104 #[.pointer (some ⟨be, 0, none⟩)] .returning w fun e u' w' => e = .returned (.tuple #[]) ∧ u' = .returning ∧ Has w ⟨[be], []⟩ [(be, [.int .i64 old], tg)] w' := by
 refine callsD_of_wpS Try.func104 rfl fun c₀ cs hu => ?_
 apply wpS_seq
 apply wpS_region
 simp [wpOpsS, go_sem, recoverD, hu, refu, Exit.thenS]
 refine wpS_of_dt (c := cxM [be] w 16) (Q := fun e _ H => (e = .normal ∨ e = .ret) ∧ HpSub H [(be, [.int .i64 old], tg)]) (F := [(1, .nilIface), (0, .pointer (some ⟨be, 0, none⟩))]) (H := [(be, [.int .i64 old], tg)]) ?D ⟨⟨by simp, rfl, fun d v h => ?_⟩, rfl⟩ hw ?_
 case D =>
  repeat' (first | (apply oq_fn; exact rfl; try first | exact trivial | (and_intros <;> omega)) | ((with_reducible apply oq_assertNil); exact rfl) | ((with_reducible apply oq_neqNilI); exact rfl) | ((with_reducible apply os_x); exact rfl) | ((with_reducible apply os_storeAgg); (iterate 5 exact rfl)) | ((with_reducible apply ox_alloc); exact rfl; intro _) | with_reducible apply q_thenN | exact P0 | ((with_reducible apply Norm.nil); exact rfl) | ((with_reducible apply Norm.cons); exact rfl) | ((with_reducible apply d_q); (iterate 4 exact rfl)) | ((with_reducible apply d_s0); exact rfl; exact rfl) | ((with_reducible apply d_s); (iterate 3 exact rfl)) | (with_reducible apply d_nil) | (with_reducible apply dt_seq) | (apply dt_region) | (with_reducible apply dt_skip) | ((with_reducible apply dt_condF); exact rfl) | exact Nat.le_of_ble_eq_true rfl)
  all_goals (refine ⟨.inl rfl, ?_⟩)
  all_goals (repeat (first | exact HpSub.refl _ | (apply HpSub.consE; (repeat (first | exact P0 | apply P1)); exact rfl) | exact HpSub.nil))
 ·rcases d with _ | _ | d
  ·simpa [look] using h
  ·simpa [look] using h
  ·rw [look_cons_ne _ _ (by omega), look_cons_ne _ _ (by omega)] at h; cases h
 ·rintro e a w' ⟨F', H', ⟨he, hs⟩, ⟨hf1, hf2⟩, hw'⟩
  have hres : (results Try.f104 a.tmps).run Try.prog w' = .ok (.tuple #[]) w' := results_run (c := cxM [be] w 16) (fn := Try.f104) (rs := []) (vs := []) (D := []) (a := ⟨a.tmps, []⟩) rfl hf1 hw' trivial
  have hu' : ({ fn := c₀.fn, tmps := c₀.tmps, todo := c₀.todo, defers := c₀.defers, mode := .returning, kind := c₀.kind, roundOf := c₀.roundOf } : Frame) = { c₀ with mode := .returning } := rfl
  rcases he with rfl | rfl
  ·exact ⟨hf2, _, (by rw [← hu]), _, hres, rfl, rfl, hw'.sub hs⟩
  ·exact ⟨hf2, _, (by rw [← hu]), _, hres, rfl, rfl, hw'.sub hs⟩
end Go.Proofs.Ytmlmgipngbndgaa
namespace Go.Proofs.Ytmlmgipngbndgaa
open Go.RowKit
attribute [local irreducible] OQ OS OX Rd T TL GX GL AL AI RV wpG SAny Calls
theorem repay_T (bd gB cB gA oA cf i j : Nat) (o : Off) (tgd tgb : Tg) (price kept : Int) (C : List Bk) (x : Bk) (w : World) (hw : Has w ⟨[bd, gB], []⟩ [(bd, offCells o (some ⟨gA, oA, none⟩) cf (some ⟨gB, 0, none⟩) cB, tgd), (gB, (C.map bkCells).flatten, tgb)] w)
  (hx : C[j]? = some x) (hf : x.flight = (i : Int)) (hi : i < o.fl.length) (hp : w.cell? ⟨gA, oA + i * 4 + 1, none⟩ = some (.int .i64 price)) (hm : gA ∉ [bd, gB]) (hb1 : -1000000000 ≤ o.out ∧ o.out ≤ 1000000000) (hb2 : 0 ≤ price ∧ price ≤ 1000000) (hb3 : 0 ≤ kept ∧ kept ≤ 1000000) :
  Calls Try.prog 135 #[.pointer (some ⟨bd, 0, none⟩), .pointer (some ⟨gB, 0 + j * 3, none⟩), .int .i64 kept] w fun e w' => ∃ v H', e = .returned v ∧ (v = .tuple #[] ∧ H' = [(bd, offCells { o with out := o.out + (price - kept) } (some ⟨gA, oA, none⟩) cf (some ⟨gB, 0, none⟩) cB, tgd), (gB, ((C.set j ⟨x.flight, 4, kept⟩).map bkCells).flatten, tgb)]) ∧ Has w ⟨[bd, gB], []⟩ H' w' := by
 obtain ⟨f, st, kp⟩ := x
 simp only at hf
 subst hf
 have c0 := hp
 have m0 := hm
 have hjl := (List.getElem?_eq_some_iff.1 hx).1
 have hS1 := bk_set1 hx 4
 have hx1 : (C.set j ⟨(i : Int), 4, kp⟩)[j]? = some ⟨(i : Int), 4, kp⟩ := by simp [hjl]
 have hS2 := bk_set2 hx1 kept
 rw [List.set_set] at hS2
 simp only at hS1 hS2
 have room1 := Nat.le_of_succ_le (bk_room hx)
 have room2 := bk_room hx1
 have hx2 : (C.set j ⟨(i : Int), 4, kept⟩)[j]? = some ⟨(i : Int), 4, kept⟩ := by simp [hjl]
 obtain ⟨r0, r1, r2⟩ := bk_at hx2
 simp only at r0 r1 r2 ⊢
 have hO := desk_out o (some ⟨gA, oA, none⟩) cf (some ⟨gB, 0, none⟩) cB (o.out + (price - kept))
 refine (enter (c := cxM [bd, gB] w 36) (H := [(bd, offCells o (some ⟨gA, oA, none⟩) cf (some ⟨gB, 0, none⟩) cB, tgd), (gB, (C.map bkCells).flatten, tgb)]) (F := frOf 0 _) (PV := fun v H => v = .tuple #[] ∧ HpSub H [(bd, offCells { o with out := o.out + (price - kept) } (some ⟨gA, oA, none⟩) cf (some ⟨gB, 0, none⟩) cB, tgd), (gB, ((C.set j ⟨(i : Int), 4, kept⟩).map bkCells).flatten, tgb)]) Try.func135 rfl rfl rfl (fun d v hv => (look_frOf _ 0 d v hv).2) hw ?_).mono fun e w' ⟨v, H', h1, ⟨h2, h3⟩, h4⟩ => ⟨v, _, h1, ⟨h2, rfl⟩, h4.sub h3⟩
 repeat' (first | (focus ((with_reducible apply oq_indexAddrN); (iterate 4 exact rfl); omega)) | (apply oq_fn; exact rfl; try first | exact trivial | (and_intros <;> omega)) | ((with_reducible apply oq_load); exact rfl; exact rfl) | (with_reducible apply tl_nil) | ((with_reducible apply u_q); (iterate 4 exact rfl)) | ((with_reducible apply u_s0); exact rfl; exact rfl) | (with_reducible apply v_nil) | ((with_reducible apply v_q); (iterate 3 exact rfl)) | ((with_reducible apply os_storeB (hC := hS1)); (iterate 4 exact rfl); (repeat (first | exact P0 | apply P1)); exact room1) | ((with_reducible apply os_storeB (hC := hS2)); (iterate 4 exact rfl); (repeat (first | exact P0 | apply P1)); exact room2) | ((with_reducible apply os_storeB (hC := hO)); (iterate 4 exact rfl); (repeat (first | exact P0 | apply P1)); exact Nat.le_refl 7) | ((with_reducible apply ai_s0); (iterate 4 exact rfl)) | (apply Rd.own; (repeat (first | exact P0 | apply P1)); first | exact r0 | exact r1 | exact r2; done) | (apply Rd.own; (repeat (first | exact P0 | apply P1)); exact rfl; done) | (apply Rd.old; (first | (with_reducible assumption) | exact c0 | exact c1 | exact c2 | exact c3 | exact c4 | exact c5 | exact c6 | exact c7 | exact c8 | exact d0 | exact d1 | exact d2 | exact d3 | exact d4 | exact d5); first | exact List.not_mem_nil | exact m0 | exact m1 | exact m2 | exact m3 | exact m4 | exact m5 | exact m6 | exact m7 | exact m8 | exact m9) | (apply t_mix (id := 1) [0, 1, 2, 3, 4, 5, 6, 7, 8, 9, 10, 11, 12, 13, 14, 15, 16, 17, 18, 19, 20, 21, 22] 1 #[false, false, false, false, false, false, false, false, false, false, false, false, false, false, false, false, false, false, false, false, false, false, false, true]; kernel_rfl; kernel_rfl; exact rfl) | (with_reducible apply t_seq) | (apply t_region; kernel_rfl) | with_reducible apply q_thenN | (with_reducible apply end_normal) | exact rvs_nil | (apply al_done; decide +kernel) | (apply al_one 23; decide +kernel))
 all_goals (refine ⟨rfl, ?_⟩)
 all_goals (repeat (first | exact HpSub.refl _ | (apply HpSub.consE; (repeat (first | exact P0 | apply P1)); exact rfl) | exact HpSub.nil))
theorem give_T (bd : Nat) (o : Off) (x y : Option (Nat × Nat)) (hxn : x = none → o.fl.length = 0) (hyn : y = none → o.bk.length = 0) (w : World) (hw : Has w ⟨(deskH bd o x y).map Prod.fst, []⟩ (deskH bd o x y) w) (hn2 : o.bk.length ≤ 1000) (i : Nat) (d : Dep) (hi : o.fl[i]? = some d) (hs : 0 ≤ d.seats ∧ d.seats ≤ 100000) :
  Calls Try.prog 134 #[.pointer (some ⟨bd, 0, none⟩), .int .i64 (i : Int)] w fun e w' => ∃ v H', e = .returned v ∧ (v = .tuple #[] ∧ H' = deskH bd (givenV o i) x y) ∧ Has w ⟨(deskH bd o x y).map Prod.fst, []⟩ H' w' := by
 have hil := (List.getElem?_eq_some_iff.1 hi).1
 rcases x with _ | ⟨gF, cF⟩
 ·exact absurd (hxn rfl) (by omega)
 have hy0 : ∃ gB, 0 < o.bk.length → clA y = some ⟨gB, 0, none⟩ := by
  rcases y with _ | ⟨gB, cB⟩
  ·exact ⟨0, fun h => absurd (hyn rfl) (by omega)⟩
  ·exact ⟨gB, fun _ => rfl⟩
 obtain ⟨gB, hgB⟩ := hy0
 have hfree : freeV o i = d.seats - manyV o.bk i 1 := by unfold freeV; rw [hi]
 obtain ⟨fin, hfin⟩ : ∃ fin, giveL (i : Int) (freeV o i) o.bk = fin := ⟨_, rfl⟩
 have hfl : fin.length = o.bk.length := by rw [← hfin]; exact giveL_length _ _ _
 have hgo : deskH bd (givenV o i) (some (gF, cF)) y = (bd, offCells o (some ⟨gF, 0, none⟩) cF (clA y) (clC y), some (135, 7, 1)) :: (gF, (o.fl.map depCells).flatten, some (106, 4, cF)) :: clH 71 3 (fin.map bkCells).flatten y := by
  unfold deskH flH bkH givenV
  rw [clH_some, hfin]
  rw [offCells_len (o := o) (o' := { o with bk := fin }) rfl rfl rfl rfl rfl rfl hfl]
  rfl
 obtain ⟨r0, r1, r2, r3⟩ := dep_at hi
 obtain ⟨M, hM⟩ : ∃ M, (deskH bd o (some (gF, cF)) y).map Prod.fst = M := ⟨_, rfl⟩
 rw [hM] at hw ⊢
 refine (enter (c := cxM M w 32) (H := deskH bd o (some (gF, cF)) y) (F := frOf 0 _) (PV := fun v H => v = .tuple #[] ∧ HpSub H (deskH bd (givenV o i) (some (gF, cF)) y)) Try.func134 rfl rfl rfl (fun d v hv => (look_frOf _ 0 d v hv).2) hw ?_).mono fun e w' ⟨v, H', h1, ⟨h2, h3⟩, h4⟩ => ⟨v, _, h1, ⟨h2, rfl⟩, h4.sub h3⟩
 rw [hgo]
 unfold deskH flH bkH
 simp only [clH_some, clA_some, clC_some, List.cons_append, List.nil_append]
 refine t_cut (ι := Nat) (fun bn => [(0, .pointer (some ⟨bd, 0, none⟩)), (1, .int .i64 (i : Int)), (4, .pointer (some ⟨bn, 0, none⟩))]) (fun bn => (bn, [.int .i64 (freeV o i)], some (3, 1, 1)) :: (bd, offCells o (some ⟨gF, 0, none⟩) cF (clA y) (clC y), some (135, 7, 1)) :: (gF, (o.fl.map depCells).flatten, some (106, 4, cF)) :: clH 71 3 (o.bk.map bkCells).flatten y) (fun _ => True) ?_ ?_
 ·have HM := fun g cp w1 hD1 hS => count_calls bd o (some ⟨gF, 0, none⟩) cF (clA y) (clC y) w1 hD1 (by omega) (i : Int) (some ⟨g, 0, none⟩) 1 cp [1] hS (by omega)
  rw [mt_many] at HM
  have hm1 := many_in o.bk (i : Int) 1 o.bk.length
  rw [many_all (Nat.le_refl _)] at hm1
  rw [hfree]
  obtain ⟨mv, hmv⟩ : ∃ mv, manyV o.bk (i : Int) 1 = mv := ⟨_, rfl⟩
  rw [hmv] at HM hm1 ⊢
  repeat' (first | (focus ((with_reducible apply oq_indexAddrN); (iterate 4 exact rfl); omega)) | (apply oq_fn; exact rfl; try first | exact trivial | (and_intros <;> omega)) | ((with_reducible apply oq_load); exact rfl; exact rfl) | ((with_reducible apply oq_call (k := 64) (hc := Try.call64)); exact rfl; exact rfl; exact fun D w1 hw1 => HM _ _ w1 (desk_of (x := some (gF, cF)) hw1 (by (repeat (first | exact HpSub.refl _ | (apply HpSub.consE; (repeat (first | exact P0 | apply P1 | apply PA)); exact rfl) | apply HpSub.skipX | apply HpSub.skipX | exact HpSub.nil))) (fun h => by cases h) hyn) (one8 hw1 (by (repeat (first | exact P0 | apply P1 | apply PA))))) | (with_reducible apply v_nil) | ((with_reducible apply v_q); (iterate 3 exact rfl)) | ((with_reducible apply os_store); (iterate 4 exact rfl)) | ((with_reducible apply ox_alloc); exact rfl; intro _) | ((with_reducible apply ox_buildSlice1); (iterate 6 exact rfl); intro _) | ((with_reducible apply ai_q); (iterate 5 exact rfl)) | ((with_reducible apply ai_x); (iterate 5 exact rfl)) | ((with_reducible apply ai_n0); (iterate 3 exact rfl)) | ((with_reducible apply al_keep); focus (repeat (first | exact HpSub.refl _ | (apply HpSub.cons; (repeat (first | exact P0 | apply P1 | apply PA))) | apply HpSub.skipX | exact HpSub.nil))) | (apply Rd.own; (repeat (first | exact P0 | apply P1 | apply PA)); first | exact r0 | exact r1 | exact r2 | exact r3; done) | (apply Rd.own; (repeat (first | exact P0 | apply P1 | apply PA)); exact rfl; done) | (apply t_mix (id := 0) [0, 1, 2, 3, 4, 5, 6, 7, 8, 9, 10] 5 #[false, false, false, false, false, false, false, false, false, false, false, false, false, false, false, false]; kernel_rfl; kernel_rfl; exact rfl) | exact P0 | (first | (with_reducible apply P1) | (with_reducible apply PA)) | ((with_reducible apply Norm.nil); exact rfl) | ((with_reducible apply Norm.cons); exact rfl) | (apply al_done; decide +kernel) | (apply al_one 11; decide +kernel) | (apply al_one 12; decide +kernel) | (apply al_one 13; decide +kernel) | (apply al_one 14; decide +kernel) | (apply al_one 15; decide +kernel) | (apply al_two 11 14; decide +kernel) | (apply al_two 12 14; decide +kernel) | (apply al_two 13 14; decide +kernel) | exact Nat.le_of_ble_eq_true rfl)
  all_goals (refine ⟨by trivial, _, trivial, by (repeat (first | exact FrSub.nil | (apply FrSub.cons; exact rfl))), ?_⟩)
  all_goals (repeat (first | exact HpSub.refl _ | (apply HpSub.consE; (repeat (first | exact P0 | apply P1 | apply PA)); exact rfl) | apply HpSub.skipX | exact HpSub.nil))
 rintro bn -
 repeat' (first | (apply oq_fn; exact rfl; try first | exact trivial | (and_intros <;> omega)) | (with_reducible apply tl_nil) | ((with_reducible apply u_s); (iterate 3 exact rfl); (with_reducible apply os_callF (PV := OfV bd i (some ⟨_, 0, none⟩) 1 1) (k := 70) (hc := Try.call70)); exact rfl; exact rfl; exact fun D w1 hw1 => of_T _ _ _ _ _ w1; rintro v H' ⟨b0, b1, b2, rfl, rfl⟩; (try simp only [List.cons_append, List.nil_append])) | ((with_reducible apply u_q); (iterate 4 exact rfl)) | ((with_reducible apply u_s); (iterate 3 exact rfl)) | ((with_reducible apply os_x); exact rfl) | ((with_reducible apply ox_buildSlice1); (iterate 6 exact rfl); intro _) | (with_reducible apply t_seq) | (apply t_region; kernel_rfl) | (with_reducible apply t_block) | with_reducible apply q_thenN)
 rename_i bs
 refine t_rangeV (m := 1) (α := Ix o.bk.length) (β := Unit) (κ := Int) (ι := Int × List Bk) (encs := fun z => [.pointer (some ⟨gB, 0 + z.1 * 3, none⟩)]) (Rq := fun _ W => OfAt b0 b1 b2 bd (clA y) o.bk.length (clC y) i (some ⟨bs, 0, none⟩) 1 1 [2] W) (G := OfG (clA y) o.bk.length i [2]) (E := OfE (clA y) o.bk.length i [2])
  (hk := (b2, [.slice (some ⟨bs, 0, none⟩) 1 1], some (109, 1, 1)) :: (b1, [.int .i64 i], some (3, 1, 1)) :: (b0, [.pointer (some ⟨bd, 0, none⟩)], some (121, 1, 1)) :: (bs, [.int .u8 2], some (5, 1, 1)) :: (bd, offCells o (some ⟨gF, 0, none⟩) cF (clA y) (clC y), some (135, 7, 1)) :: (gF, (o.fl.map depCells).flatten, some (106, 4, cF)) :: [])
  (fun z => (bn, [.int .i64 z.1], some (3, 1, 1)) :: clH 71 3 (z.2.map bkCells).flatten y) (fun pre z => GivR o i (freeV o i) (bnd pre) z.1 z.2) (fun _ _ => []) (fun z _ => [(5, .pointer (some ⟨gB, 0 + z.1 * 3, none⟩)), (4, .pointer (some ⟨bn, 0, none⟩))]) (fun n => (bn, [.int .i64 n], some (3, 1, 1)) :: clH 71 3 (fin.map bkCells).flatten y)
  (fun k _ n => k = .ret) (freeV o i, o.bk) rfl Try.call100
  (of1_seqV 2 b0 b1 b2 bd gB 0 (clA y) o.bk.length (clC y) i (some ⟨bs, 0, none⟩) 1 1 [2] hgB (by omega) (by omega)) (fun n0 x => OfG.abide _ _ _ _ n0 x) (fun n0 => OfE.abide _ _ _ _ n0) ?rq ?h0 ?sub ?ok ?done ?stop
 case rq =>
  rintro pre ⟨n, C⟩ D W ⟨hlen, hR, hn1, hn2⟩ hw
  have hrd : RdS W 3 (clA y) o.bk.length (C.map bkCells) := clH_rows (hw.left.sub (HpSub.skipX (HpSub.refl _))) (fun _ => rfl) hlen hyn
  have hw' := hw.right
  exact ⟨hw'.cellAt (by (repeat (first | exact P0 | apply P1 | apply PA))) rfl, hw'.cellAt (by (repeat (first | exact P0 | apply P1 | apply PA))) rfl, hw'.cellAt (by (repeat (first | exact P0 | apply P1 | apply PA))) rfl, one8 hw' (by (repeat (first | exact P0 | apply P1 | apply PA))), hw'.cellAt (by (repeat (first | exact P0 | apply P1 | apply PA))) rfl, _, hrd⟩
 case h0 =>
  have hm1 := many_in o.bk (i : Int) 1 o.bk.length
  rw [many_all (Nat.le_refl _)] at hm1
  refine ⟨rfl, by simp [bnd_nil], ?_, ?_⟩ <;> rw [hfree] <;> omega
 case sub =>
  simp only [List.cons_append, List.nil_append]
  refine HpSub.cons (C := [.int .i64 (freeV o i)]) (by (repeat (first | exact P0 | apply P1 | apply PA))) ?_
  rcases y with _ | ⟨gB', cB'⟩ <;> simp only [clH, List.nil_append, List.cons_append]
  all_goals (repeat (first | exact HpSub.refl _ | (apply HpSub.consE; (repeat (first | exact P0 | apply P1 | apply PA)); exact rfl) | apply HpSub.skipX | exact HpSub.nil))
 case ok =>
  refine ⟨fun _ => rfl, rfl, fun x W => .inr ?_, fun x b i n W D hb hw _ y hy => (List.not_mem_nil hy).elim, fun l' pre z s b W D ⟨hlen, hR, hn1, hn3⟩ hw hG hl' => ?_⟩
  ·refine sl0_region (by kernel_rfl) ?_
   repeat' (first | (apply oq_fn; exact rfl; try first | exact trivial | (and_intros <;> omega)) | (with_reducible apply tl_nil) | ((with_reducible apply u_q); (iterate 4 exact rfl)))
   refine ⟨(), ?_, ?_⟩
   ·(repeat (first | exact FrSub.nil | (apply FrSub.cons; exact rfl)))
   ·(repeat (first | exact HpSub.refl _ | (apply HpSub.consE; (repeat (first | exact P0 | apply P1 | apply PA)); exact rfl) | apply HpSub.skipX | exact HpSub.nil))
  ·obtain ⟨n, C⟩ := s
   simp only at hlen hR hn1 hn3
   obtain ⟨hbe, bk', hr', hm, hno⟩ := hG
   have hzl : z.1 < o.bk.length := z.2
   rcases y with _ | ⟨gB', cB⟩
   ·exact absurd (hyn rfl) (by omega)
   obtain rfl : gB' = gB := by have := hgB (by omega); cases this; rfl
   simp only [List.cons_append, List.nil_append, clH_some, clA_some, clC_some] at hw hr' ⊢
   obtain rfl : bk' = C := bk_inj (hr'.inj (clH_rows (x := some (gB', cB)) (hw.sub (by refine HpSub.skipX ?_; simp only [clH_some]; (repeat (first | exact HpSub.refl _ | (apply HpSub.consE; (repeat (first | exact P0 | apply P1 | apply PA)); exact rfl) | apply HpSub.skipX | exact HpSub.nil)))) (fun _ => rfl) hlen (fun h => by cases h)))
   have hgz : bk'[z.1]? = some bk'[z.1] := List.getElem?_eq_getElem (by omega)
   obtain ⟨u, hu⟩ : ∃ u, bk'[z.1]? = some u := ⟨_, hgz⟩
   have hmu := hm u hu
   rw [mt_isB] at hmu
   rw [hfin] at hR
   have hR2 := giv_gap (behind_iff.1 hbe) (fun j y h1 h2 h3 => (by rw [← mt_isB]; exact hno j y (behind_iff.2 h1) h2 h3)) hR
   have hS1 := bk_set1 hu 1
   have room1 := Nat.le_of_succ_le (bk_room hu)
   by_cases hneg : n - 1 < 0
   ·repeat' (first | ((with_reducible apply oq_lssT); exact rfl; exact rfl; omega) | (apply oq_fn; exact rfl; try first | exact trivial | (and_intros <;> omega)) | ((with_reducible apply oq_load); exact rfl; exact rfl) | (with_reducible apply tl_nil) | ((with_reducible apply u_q); (iterate 4 exact rfl)) | ((with_reducible apply u_s0); exact rfl; exact rfl) | ((with_reducible apply os_store); (iterate 4 exact rfl)) | (apply Rd.own; (repeat (first | exact P0 | apply P1 | apply PA)); exact rfl; done) | (with_reducible apply t_seq) | (apply t_region; kernel_rfl) | ((with_reducible apply t_condT); exact rfl) | (with_reducible apply t_ret) | (with_reducible apply t_block) | with_reducible apply q_thenN | with_reducible apply q_thenR | with_reducible apply q_blockR | exact P0 | ((with_reducible apply Norm.nil); exact rfl) | ((with_reducible apply Norm.cons); exact rfl) | exact Nat.le_of_ble_eq_true rfl)
    refine ⟨n - 1, rfl, ?_⟩
    rw [giv_stop (by omega) hR2]
    (repeat (first | exact HpSub.refl _ | (apply HpSub.consE; (repeat (first | exact P0 | apply P1 | apply PA)); exact rfl) | apply HpSub.skipX | exact HpSub.nil))
   ·have hR3 := giv_hit hu hmu (by omega) hR2
    repeat' (first | ((with_reducible apply oq_lssF); exact rfl; exact rfl; omega) | (apply oq_fn; exact rfl; try first | exact trivial | (and_intros <;> omega)) | ((with_reducible apply oq_load); exact rfl; exact rfl) | (with_reducible apply tl_nil) | ((with_reducible apply u_q); (iterate 4 exact rfl)) | ((with_reducible apply u_s0); exact rfl; exact rfl) | ((with_reducible apply os_storeB (hC := hS1)); (iterate 4 exact rfl); (repeat (first | exact P0 | apply P1 | apply PA)); exact room1) | ((with_reducible apply os_store); (iterate 4 exact rfl)) | (apply Rd.own; (repeat (first | exact P0 | apply P1 | apply PA)); exact rfl; done) | (with_reducible apply t_seq) | (apply t_region; kernel_rfl) | ((with_reducible apply t_condF); exact rfl) | (with_reducible apply t_skip) | (with_reducible apply t_block) | with_reducible apply q_thenN | with_reducible apply q_blockN | exact P0 | ((with_reducible apply Norm.nil); exact rfl) | ((with_reducible apply Norm.cons); exact rfl) | exact Nat.le_of_ble_eq_true rfl)
    refine ⟨(n - 1, bk'.set z.1 ⟨u.flight, 1, u.kept⟩), ⟨by simpa using hlen, by rw [bnd_snoc hbe, hfin]; exact hR3, by simp only; omega, by simp only; omega⟩, ?_⟩
    simp only [clH_some]
    (repeat (first | exact HpSub.refl _ | (apply HpSub.consE; (repeat (first | exact P0 | apply P1 | apply PA)); exact rfl) | apply HpSub.skipX | exact HpSub.nil))
 case done =>
  rintro D xs ⟨n, C⟩ W ⟨bk', hr', hno⟩ ⟨hlen, hR, hn1, hn3⟩ hw
  simp only at hlen hR hn1 hn3 hw ⊢
  have hrd : RdS W 3 (clA y) o.bk.length (C.map bkCells) := clH_rows (hw.left.sub (HpSub.skipX (HpSub.refl _))) (fun _ => rfl) hlen hyn
  obtain rfl : bk' = C := bk_inj (hr'.inj hrd)
  rw [hfin] at hR
  obtain rfl := giv_end (fun j y h1 h2 => (by rw [← mt_isB]; exact hno j y (behind_iff.2 h1) h2)) hR
  simp only [List.cons_append]
  repeat' (first | with_reducible apply q_blockN | (with_reducible apply end_normal) | exact rvs_nil)
  all_goals (refine ⟨rfl, ?_⟩)
  all_goals (rcases y with _ | ⟨gB', cB'⟩ <;> simp only [clH, List.nil_append, List.cons_append])
  all_goals (repeat (first | exact HpSub.refl _ | (apply HpSub.consE; (repeat (first | exact P0 | apply P1 | apply PA)); exact rfl) | apply HpSub.skipX | exact HpSub.nil))
 case stop =>
  rintro k pre n rfl
  simp only [List.cons_append]
  repeat' (first | (with_reducible apply t_ret) | with_reducible apply q_blockR | (with_reducible apply end_ret) | exact rvs_nil)
  all_goals (refine ⟨rfl, ?_⟩)
  all_goals (rcases y with _ | ⟨gB', cB'⟩ <;> simp only [clH, List.nil_append, List.cons_append])
  all_goals (repeat (first | exact HpSub.refl _ | (apply HpSub.consE; (repeat (first | exact P0 | apply P1 | apply PA)); exact rfl) | apply HpSub.skipX | exact HpSub.nil))
theorem tick_T (bd : Nat) (o : Off) (x y : Option (Nat × Nat)) (hxn : x = none → o.fl.length = 0) (hyn : y = none → o.bk.length = 0) (hv : OkO o) (w : World) (hw : Has w ⟨(deskH bd o x y).map Prod.fst, []⟩ (deskH bd o x y) w) (dk dn ds dp dl : Int) (h : 1 ≤ dn ∧ dn ≤ 1000000 ∧ o.now + dn ≤ 1000000) : Calls Try.prog 128 #[.pointer (some ⟨bd, 0, none⟩), .agg ⟨[.int .u8 dk, .int .i64 dn, .int .i64 ds, .int .i64 dp, .int .i64 dl]⟩] w fun e w' => ∃ v H', e = .returned v ∧ DV bd ({ o with now := o.now + dn }) v H' ∧ Has w ⟨(deskH bd o x y).map Prod.fst, []⟩ H' w' := by
 have hq := allFrom_t (lo := 1) (hi := 1000000) (z := dn) ⟨h.1, h.2.1⟩
 have hO := desk_now o (clA x) (clC x) (clA y) (clC y) (o.now + dn)
 obtain ⟨M, hM⟩ : ∃ M, (deskH bd o x y).map Prod.fst = M := ⟨_, rfl⟩
 rw [hM] at hw ⊢
 have hnow := hv.now
 refine ds_dv (enter (c := cxM M w 31) (H := deskH bd o x y) (F := frOf 0 _) Try.func128 rfl rfl rfl (fun d v hv => (look_frOf _ 0 d v hv).2) hw ?_)
 unfold deskH flH bkH
 repeat' (first | ((with_reducible apply oq_leqT); exact rfl; exact rfl; omega) | (apply oq_fn; exact rfl; try first | exact trivial | (and_intros <;> omega)) | ((with_reducible apply oq_load); exact rfl; exact rfl) | ((with_reducible apply oq_call (k := 63) (hc := Try.call63)); exact rfl; exact rfl; exact fun D w1 hw1 => fromOne hq hw1 (by (repeat (first | exact P0 | apply P1 | apply PA)))) | ((with_reducible apply oq_call (k := 106) (hc := Try.call106)); exact rfl; exact rfl; exact fun D w1 hw1 => must_ok _ w1) | (with_reducible apply tl_nil) | ((with_reducible apply u_s); (iterate 3 exact rfl)) | (with_reducible apply v_nil) | ((with_reducible apply v_q); (iterate 3 exact rfl)) | ((with_reducible apply os_storeB (hC := hO)); (iterate 4 exact rfl); (repeat (first | exact P0 | apply P1 | apply PA)); exact Nat.le_of_ble_eq_true rfl) | ((with_reducible apply os_x); exact rfl) | ((with_reducible apply ox_boxAgg); exact rfl; intro _) | ((with_reducible apply ox_buildSlice1); (iterate 6 exact rfl); intro _) | ((with_reducible apply ai_q); (iterate 5 exact rfl)) | ((with_reducible apply ai_x); (iterate 5 exact rfl)) | ((with_reducible apply ai_s0); (iterate 4 exact rfl)) | (apply Rd.own; (repeat (first | exact P0 | apply P1 | apply PA)); exact rfl; done) | (apply t_mix (id := 1) [0, 1] 14 #[false, false, false, false, false, false, false, false, false, false, false, false, false, false, false, false]; kernel_rfl; kernel_rfl; exact rfl) | (apply t_mix (id := 2) [0, 1, 2, 3, 4, 5, 6, 7, 8, 9, 10] 1 #[false, false, false, false, false, false, false, false, false, false, false, true]; kernel_rfl; kernel_rfl; exact rfl) | (with_reducible apply t_seq) | (apply t_region; kernel_rfl) | with_reducible apply q_thenN | (with_reducible apply end_normal) | exact rvs_nil | (apply al_done; decide +kernel) | (apply al_one 2; decide +kernel) | (apply al_one 3; decide +kernel) | (apply al_one 4; decide +kernel) | (apply al_two 5 10; decide +kernel) | (apply al_two 6 10; decide +kernel) | (apply al_two 7 10; decide +kernel) | (apply al_two 8 10; decide +kernel) | (apply al_two 9 10; decide +kernel) | (apply al_one 10; decide +kernel) | (apply al_one 11; decide +kernel) | (apply al_one 12; decide +kernel) | (apply al_one 13; decide +kernel) | (apply al_one 14; decide +kernel) | (apply al_one 15; decide +kernel) | (apply al_two 9 11; decide +kernel) | (apply al_one 9; decide +kernel) | (apply al_two 8 11; decide +kernel) | (apply al_one 8; decide +kernel) | (apply al_two 7 11; decide +kernel) | (apply al_one 7; decide +kernel) | (apply al_two 6 11; decide +kernel) | (apply al_one 6; decide +kernel) | (apply al_two 5 11; decide +kernel) | (apply al_one 5; decide +kernel))
 all_goals (refine ⟨rfl, x, y, hxn, hyn, ?_⟩)
 all_goals (unfold deskH flH bkH; rcases x with _ | ⟨gF, cF⟩ <;> rcases y with _ | ⟨gB, cB⟩ <;> simp only [clH, List.nil_append, List.cons_append, List.append_nil])
 all_goals (repeat (first | exact HpSub.refl _ | (apply HpSub.consE; (repeat (first | exact P0 | apply P1 | apply PA)); exact rfl) | apply HpSub.skipX | exact HpSub.nil))
end Go.Proofs.Ytmlmgipngbndgaa
namespace Go.Proofs.Ytmlmgipngbndgaa
open Go.RowKit
attribute [local irreducible] DT DE TE AE OP OQ OS OX Rd T TL GX GL AL AI RV wpG SAny Calls
/-- The call that a deal defers. -/
def dref (be : Nat) : Deferred := { target := .fn (.func 104) #[.pointer (some ⟨be, 0, none⟩)], args := #[] }
def doQ (be : Nat) (PV : Hp → Prop) (PP : Int → Hp → Prop) : QS := fun e F H => FrSub F [(4, .pointer (some ⟨be, 0, none⟩))] ∧ ∃ H2, HpSub H ((be, [.int .i64 0], some (27, 1, 1)) :: H2) ∧ ((e = .ret ∧ PV H2) ∨ ∃ z, e = .panic (refu z) ∧ PP z H2)
theorem doers_T (w : World) : Calls Try.prog 105 #[] w fun e w' => e = .returned (.agg #[.nilFunc, .func (.func 123) #[] #[], .func (.func 124) #[] #[], .func (.func 125) #[] #[], .func (.func 126) #[] #[], .func (.func 127) #[] #[], .func (.func 128) #[] #[], .func (.func 129) #[] #[]]) ∧ Ext w w' := by
 refine enterQ (c := cx w 2) Try.func105 rfl rfl rfl rfl ?_
 repeat' (first | ((with_reducible apply oq_buildA); (iterate 4 exact rfl)) | (with_reducible apply tl_nil) | ((with_reducible apply u_q); (iterate 4 exact rfl)) | ((with_reducible apply u_s0); exact rfl; exact rfl) | ((with_reducible apply u_s); (iterate 3 exact rfl)) | ((with_reducible apply os_x); exact rfl) | ((with_reducible apply os_storeAgg); (iterate 5 exact rfl)) | ((with_reducible apply ox_alloc); exact rfl; intro _) | (apply Rd.own; (repeat (first | exact P0 | apply P1)); exact rfl; done) | (with_reducible apply t_seq) | (apply t_region; kernel_rfl) | (with_reducible apply t_ret) | with_reducible apply q_thenN | exact P0 | exact Rdn.zero | apply Rdn.succ | ((with_reducible apply Norm.nil); exact rfl) | ((with_reducible apply Norm.cons); exact rfl) | (with_reducible apply end_ret) | exact rvs_nil | (with_reducible apply rvs_cons) | ((with_reducible apply rv_cellAgg); exact rfl; exact rfl) | exact Nat.le_of_ble_eq_true rfl)
 all_goals rfl
theorem FrSub.frm {D : List Nat} {N : Nat} {F G : Fr} {a : Act} (h : FrSub F G) (hf : Frm D N F a) : Frm D N G a := by
 refine ⟨hf.size, hf.defers, ?_⟩
 intro d v hd
 induction G with
 | nil => cases hd
 | cons p G ih =>
  obtain ⟨e, u⟩ := p
  by_cases he : e = d
  ·subst he
   rw [look_cons_self] at hd
   cases hd
   exact hf.at_ _ _ h.1
  ·rw [look_cons_ne _ _ he] at hd
   exact ih h.2 hd
theorem do_of {rest r0 r1 : Code} (hb : Try.f79.body = some (.seq r0 (.seq r1 rest))) (M : List Nat) (H0 : Hp) (w : World) (hw : Has w ⟨M, []⟩ H0 w) (bd : Nat) (cells : List Value) (hc : cells.length = 5) (PV : Hp → Prop) (PP : Int → Hp → Prop)
  (h : ∀ b3 be, DT (cxM M w 21) [dref be] rest (doQ be PV PP) [(0, .pointer (some ⟨bd, 0, none⟩)), (3, .pointer (some ⟨b3, 0, none⟩)), (4, .pointer (some ⟨be, 0, none⟩))] ((be, [.int .i64 0], some (27, 1, 1)) :: (b3, cells, some (63, 5, 1)) :: H0)) :
  Calls Try.prog 79 #[.pointer (some ⟨bd, 0, none⟩), .agg ⟨cells⟩] w fun e w' => (∃ H', e = .returned (.int .i64 0) ∧ PV H' ∧ Has w ⟨M, []⟩ H' w') ∨ ∃ z H', e = .returned (.int .i64 z) ∧ PP z H' ∧ Has w ⟨M, []⟩ H' w' := by
 have hb' := hb
 simp only [Try.f79, Option.some.injEq, Code.seq.injEq] at hb'
 obtain ⟨rfl, rfl, -⟩ := hb'
 refine calls_of_wp_defers Try.func79 hb ?_
 have hf0 : Fd (cxM M w 21) [] [(0, .pointer (some ⟨bd, 0, none⟩)), (1, .agg ⟨cells⟩)] { tmps := #[.pointer (some ⟨bd, 0, none⟩), .agg ⟨cells⟩] ++ Array.replicate (21 - 2) undef, defers := [] } := by
  refine ⟨⟨by simp, rfl, fun d v h => ?_⟩, rfl⟩
  rcases d with _ | _ | d
  ·simpa [look] using h
  ·simpa [look] using h
  ·rw [look_cons_ne _ _ (by omega), look_cons_ne _ _ (by omega)] at h; cases h
 refine wp_seq (wp_mono (dt_run (c := cxM M w 21) (ds := []) (Q := fun e F H => e = .normal ∧ ∃ b3 be, FrSub F [(0, .pointer (some ⟨bd, 0, none⟩)), (3, .pointer (some ⟨b3, 0, none⟩)), (4, .pointer (some ⟨be, 0, none⟩))] ∧ HpSub H ((be, [.int .i64 0], some (27, 1, 1)) :: (b3, cells, some (63, 5, 1)) :: H0)) (F := [(0, .pointer (some ⟨bd, 0, none⟩)), (1, .agg ⟨cells⟩)]) (H := H0) ?R0 _ _ hf0 hw) ?_)
 case R0 =>
  repeat' (first | ((with_reducible apply os_x); exact rfl) | ((with_reducible apply ox_alloc); exact rfl; intro _) | ((with_reducible apply ox_boxAgg); exact rfl; intro _) | ((with_reducible apply d_s); (iterate 3 exact rfl)) | (with_reducible apply d_nil) | (apply dt_region))
  all_goals (refine ⟨rfl, _, _, ⟨rfl, rfl, rfl, trivial⟩, ?_⟩)
  all_goals (rw [hc]; exact HpSub.refl _)
 rintro e a w' ⟨F', H', ⟨rfl, b3, be, hfs, hhs⟩, ⟨hf1, hf2⟩, hw'⟩
 have hmf : ∀ (fn : Fn) (first cap : Array Value) (w : World), (Instr.makeFunc fn first cap).run Try.prog w = .ok (.func fn first cap) w := fun _ _ _ _ => rfl
 have hfr := hfs.frm hf1
 have he4 : a.eval (.tmp 4) = .pointer (some ⟨be, 0, none⟩) := eval_ds a ▸ hfr.ev (x := .tmp 4) rfl
 have hsz : a.tmps.size = 21 := hf1.size
 refine wp_seq (wp_region ?_)
 have he4' : a.tmps[4]?.getD undef = .pointer (some ⟨be, 0, none⟩) := by simpa [Act.eval] using he4
 have he5 : a.tmps[4]'(by omega) = .pointer (some ⟨be, 0, none⟩) := by simpa [hsz] using he4'
 simp [wpOps, go_sem, he5, hsz, hmf, Region.wanted, Oper.upon, Act.put, Exit.then]
 refine .inl (.inl ?_)
 rw [hf2]
 have hfd : Fd (cxM M w 21) [dref be] [(0, .pointer (some ⟨bd, 0, none⟩)), (3, .pointer (some ⟨b3, 0, none⟩)), (4, .pointer (some ⟨be, 0, none⟩))] { tmps := a.tmps.setIfInBounds 6 (.func (.func 104) #[] #[.pointer (some ⟨be, 0, none⟩)]), defers := [dref be] } :=
  ⟨FrSub.frm (F := (6, .func (.func 104) #[] #[.pointer (some ⟨be, 0, none⟩)]) :: [(0, .pointer (some ⟨bd, 0, none⟩)), (3, .pointer (some ⟨b3, 0, none⟩)), (4, .pointer (some ⟨be, 0, none⟩))]) ⟨rfl, rfl, rfl, trivial⟩ (hfr.put (d := 6) rfl (.func (.func 104) #[] #[.pointer (some ⟨be, 0, none⟩)])), rfl⟩
 refine wp_mono (Q := cvd (cxM M w 21) [dref be] (doQ be PV PP)) ?hx ?_
 case hx => exact dt_run (h b3 be) _ w' hfd (hw'.sub hhs)
 rintro e a2 w2 ⟨F2, H2', ⟨hs4, H2, hh2, hcase⟩, ⟨g1, g2⟩, hw2⟩
 have hwb : Has w2 ⟨[be], []⟩ [(be, [.int .i64 0], some (27, 1, 1))] w2 := (hw2.sub hh2).ownG (HpSub.cons P0 HpSub.nil)
 have hinv : ∀ w3, (invoke (.fn (.func 104) #[.pointer (some ⟨be, 0, none⟩)]) #[]).run Try.prog w3 = .ok (.enter 104 #[.pointer (some ⟨be, 0, none⟩)]) w3 := fun w3 => by simp [invoke, go_sem, Try.call104]
 have fin : ∀ (z : Int) (w3 : World), Has w2 ⟨[be], []⟩ [(be, [.int .i64 z], some (27, 1, 1))] w3 → (results Try.f79 a2.tmps).run Try.prog w3 = .ok (.int .i64 z) w3 ∧ Has w ⟨M, []⟩ H2 w3 := fun z w3 h3 => by
  have hc3 := Has.called (G := [(be, [.int .i64 0], some (27, 1, 1))]) (R := H2) (hw2.sub hh2) h3
  refine ⟨results_run (c := cxM M w 21) (fn := Try.f79) (rs := [.cell 4 27]) (vs := [.int .i64 z]) (D := []) (a := ⟨a2.tmps, []⟩) (F := [(4, .pointer (some ⟨be, 0, none⟩))]) rfl (hs4.frm g1) hc3 ⟨rv_cell (z0 := [.int .i64 0]) rfl rfl (Rd.own P0 rfl), trivial⟩, hc3.right⟩
 rcases hcase with ⟨rfl, hp⟩ | ⟨z, rfl, hp⟩
 ·show Leaves Try.prog Try.f79 a2.tmps _ a2.defers .returning w2
  rw [g2]
  refine leaves_cons (f := 104) (args := #[.pointer (some ⟨be, 0, none⟩)]) (by simp) (hinv w2) ((rec_idle be 0 0 _ w2 hwb).mono ?_)
  rintro e u' w3 ⟨rfl, rfl, h3⟩
  obtain ⟨k1, k2⟩ := fin 0 w3 h3
  exact ⟨_, k1, .inl ⟨rfl, H2, hp, k2⟩⟩
 ·show Leaves Try.prog Try.f79 a2.tmps _ a2.defers (.panicking (refu z)) w2
  rw [g2]
  refine leaves_cons (f := 104) (args := #[.pointer (some ⟨be, 0, none⟩)]) (by simp) (hinv w2) ((rec_pan be z 0 _ w2 hwb).mono ?_)
  rintro e u' w3 ⟨rfl, rfl, h3⟩
  obtain ⟨k1, k2⟩ := fin z w3 h3
  exact ⟨_, k1, .inr ⟨z, rfl, H2, hp, k2⟩⟩
end Go.Proofs.Ytmlmgipngbndgaa
namespace Go.Proofs.Ytmlmgipngbndgaa
open Go.RowKit
attribute [local irreducible] TE AE OP OQ OS OX Rd T TL GX GL AL AI RV wpG SAny Calls
theorem add_arg (bd : Nat) (o : Off) (A : Option Addr) (cf : Nat) (B : Option Addr) (cb : Nat) (w : World) (hD : Desk w bd o A cf B cb) (hn : o.fl.length ≤ 1000000) (hn2 : o.bk.length ≤ 1000000) (hnow : 0 ≤ o.now ∧ o.now ≤ 1000000) (dk dn ds dp dl : Int) (h : ¬ (depOk ⟨ds, dp, dl, 0⟩ = true ∧ o.now ≤ dl)) : Calls Try.prog 123 #[.pointer (some ⟨bd, 0, none⟩), .agg ⟨[.int .u8 dk, .int .i64 dn, .int .i64 ds, .int .i64 dp, .int .i64 dl]⟩] w fun e w' => e = .panicked (refu (2)) ∧ Ext w w' := by
 have d0 := hD.now
 have d3 := hD.fls
 have d4 := hD.bks
 have hA := hD.fl
 have hB := hD.bk
 obtain ⟨q, hfine⟩ : ∃ q, depOk ⟨ds, dp, dl, 0⟩ = q := ⟨_, rfl⟩
 rw [hfine] at h
 have hq : True := trivial
 cases q with
 | false =>
  refine enterPQ (c := cx w 45) Try.func123 rfl rfl rfl ?_
  repeat' (first | (apply oq_fn; exact rfl; try first | exact trivial | (and_intros <;> omega)) | ((with_reducible apply oq_load); exact rfl; exact rfl) | ((with_reducible apply oq_loadAgg); exact rfl; exact rfl) | ((with_reducible apply oq_call (k := 94) (hc := Try.call94)); exact rfl; exact rfl; exact fun D w1 hw1 => (hfine ▸ fine_calls _ _ _ _ w1)) | ((with_reducible apply oq_build); (iterate 3 exact rfl)) | (with_reducible apply v_nil) | ((with_reducible apply v_q); (iterate 3 exact rfl)) | ((with_reducible apply v_skip); (iterate 3 exact rfl)) | ((with_reducible apply os_x); exact rfl) | ((with_reducible apply os_storeAgg); (iterate 5 exact rfl)) | ((with_reducible apply ox_alloc); exact rfl; intro _) | ((with_reducible apply ox_boxAgg); exact rfl; intro _) | (apply Rd.own; (repeat (first | exact P0 | apply P1)); exact rfl; done) | (apply t_regionE) | (apply t_mixE (id := 2) [0, 1, 2, 3, 4, 5, 6, 7, 8, 9, 10, 11] 1 #[false, false, false, false, false, false, false, false, false, false, false, false, true]; kernel_rfl; kernel_rfl; exact rfl) | (with_reducible apply t_seq) | with_reducible apply q_thenN | exact P0 | exact Rdn.zero | apply Rdn.succ | ((with_reducible apply Norm.nil); exact rfl) | ((with_reducible apply Norm.cons); exact rfl) | ((with_reducible apply e_q); (iterate 4 exact rfl)) | ((with_reducible apply e_s0); exact rfl; exact rfl) | ((with_reducible apply e_s); (iterate 3 exact rfl)) | (with_reducible apply e_nil) | (apply ae_p (i := 12); decide +kernel; (iterate 3 exact rfl); first | ((with_reducible apply op_call (k := 106) (hc := Try.call106)); exact rfl; exact rfl; exact fun D w1 hw1 => must_no _ w1) | ((with_reducible apply op_call (k := 133) (hc := Try.call133)); exact rfl; exact rfl; exact fun D w1 hw1 => flight_no bd o A cf B cb w1 (hD.ext hw1.ext.ext) hn _ hE)) | exact Nat.le_of_ble_eq_true rfl)
  all_goals exact ⟨_, rfl, rfl⟩
 | true =>
  have hlt : ¬ o.now ≤ dl := fun hh => h ⟨rfl, hh⟩
  refine enterPQ (c := cx w 45) Try.func123 rfl rfl rfl ?_
  repeat' (first | ((with_reducible apply oq_geqF); exact rfl; exact rfl; omega) | (apply oq_fn; exact rfl; try first | exact trivial | (and_intros <;> omega)) | ((with_reducible apply oq_load); exact rfl; exact rfl) | ((with_reducible apply oq_loadAgg); exact rfl; exact rfl) | ((with_reducible apply oq_call (k := 94) (hc := Try.call94)); exact rfl; exact rfl; exact fun D w1 hw1 => (hfine ▸ fine_calls _ _ _ _ w1)) | ((with_reducible apply oq_build); (iterate 3 exact rfl)) | (with_reducible apply v_nil) | ((with_reducible apply v_q); (iterate 3 exact rfl)) | ((with_reducible apply os_x); exact rfl) | ((with_reducible apply os_storeAgg); (iterate 5 exact rfl)) | ((with_reducible apply ox_alloc); exact rfl; intro _) | ((with_reducible apply ox_boxAgg); exact rfl; intro _) | (apply Rd.own; (repeat (first | exact P0 | apply P1)); exact rfl; done) | (apply Rd.old; (first | (with_reducible assumption) | exact c0 | exact c1 | exact c2 | exact c3 | exact c4 | exact c5 | exact c6 | exact c7 | exact c8 | exact d0 | exact d1 | exact d2 | exact d3 | exact d4 | exact d5); first | exact List.not_mem_nil | exact m0 | exact m1 | exact m2 | exact m3 | exact m4 | exact m5 | exact m6 | exact m7 | exact m8 | exact m9) | (apply t_regionE) | (apply t_mixE (id := 2) [0, 1, 2, 3, 4, 5, 6, 7, 8, 9, 10, 11] 1 #[false, false, false, false, false, false, false, false, false, false, false, false, true]; kernel_rfl; kernel_rfl; exact rfl) | (with_reducible apply t_seq) | with_reducible apply q_thenN | exact P0 | exact Rdn.zero | apply Rdn.succ | ((with_reducible apply Norm.nil); exact rfl) | ((with_reducible apply Norm.cons); exact rfl) | ((with_reducible apply e_q); (iterate 4 exact rfl)) | ((with_reducible apply e_s0); exact rfl; exact rfl) | ((with_reducible apply e_s); (iterate 3 exact rfl)) | (with_reducible apply e_nil) | (apply ae_p (i := 12); decide +kernel; (iterate 3 exact rfl); first | ((with_reducible apply op_call (k := 106) (hc := Try.call106)); exact rfl; exact rfl; exact fun D w1 hw1 => must_no _ w1) | ((with_reducible apply op_call (k := 133) (hc := Try.call133)); exact rfl; exact rfl; exact fun D w1 hw1 => flight_no bd o A cf B cb w1 (hD.ext hw1.ext.ext) hn _ hE)) | exact Nat.le_of_ble_eq_true rfl)
  all_goals exact ⟨_, rfl, rfl⟩
theorem add_full (bd : Nat) (o : Off) (A : Option Addr) (cf : Nat) (B : Option Addr) (cb : Nat) (w : World) (hD : Desk w bd o A cf B cb) (hn : o.fl.length ≤ 1000000) (hn2 : o.bk.length ≤ 1000000) (hnow : 0 ≤ o.now ∧ o.now ≤ 1000000) (dk dn ds dp dl : Int) (h : depOk ⟨ds, dp, dl, 0⟩ = true ∧ o.now ≤ dl) (h2 : ¬ o.fl.length < 10) : Calls Try.prog 123 #[.pointer (some ⟨bd, 0, none⟩), .agg ⟨[.int .u8 dk, .int .i64 dn, .int .i64 ds, .int .i64 dp, .int .i64 dl]⟩] w fun e w' => e = .panicked (refu (9)) ∧ Ext w w' := by
 have d0 := hD.now
 have d3 := hD.fls
 have d4 := hD.bks
 have hA := hD.fl
 have hB := hD.bk
 obtain ⟨hfine, hlt⟩ := h
 refine enterPQ (c := cx w 45) Try.func123 rfl rfl rfl ?_
 repeat' (first | ((with_reducible apply oq_lssF); exact rfl; exact rfl; omega) | ((with_reducible apply oq_geqT); exact rfl; exact rfl; omega) | (apply oq_fn; exact rfl; try first | exact trivial | (and_intros <;> omega)) | ((with_reducible apply oq_load); exact rfl; exact rfl) | ((with_reducible apply oq_loadAgg); exact rfl; exact rfl) | ((with_reducible apply oq_call (k := 106) (hc := Try.call106)); exact rfl; exact rfl; exact fun D w1 hw1 => must_ok _ w1) | ((with_reducible apply oq_call (k := 94) (hc := Try.call94)); exact rfl; exact rfl; exact fun D w1 hw1 => (hfine ▸ fine_calls _ _ _ _ w1)) | ((with_reducible apply oq_build); (iterate 3 exact rfl)) | (with_reducible apply v_nil) | ((with_reducible apply v_q); (iterate 3 exact rfl)) | ((with_reducible apply os_x); exact rfl) | ((with_reducible apply os_storeAgg); (iterate 5 exact rfl)) | ((with_reducible apply ox_alloc); exact rfl; intro _) | ((with_reducible apply ox_boxAgg); exact rfl; intro _) | (apply Rd.own; (repeat (first | exact P0 | apply P1)); exact rfl; done) | (apply Rd.old; (first | (with_reducible assumption) | exact c0 | exact c1 | exact c2 | exact c3 | exact c4 | exact c5 | exact c6 | exact c7 | exact c8 | exact d0 | exact d1 | exact d2 | exact d3 | exact d4 | exact d5); first | exact List.not_mem_nil | exact m0 | exact m1 | exact m2 | exact m3 | exact m4 | exact m5 | exact m6 | exact m7 | exact m8 | exact m9) | (apply t_regionE) | (with_reducible apply t_seq) | (apply t_drawn; kernel_rfl; decide +kernel; try simp only [List.append_eq, List.cons_append, List.nil_append]) | with_reducible apply q_thenN | exact P0 | exact Rdn.zero | apply Rdn.succ | ((with_reducible apply Norm.nil); exact rfl) | ((with_reducible apply Norm.cons); exact rfl) | ((with_reducible apply e_p); exact rfl; ((with_reducible apply op_call (k := 106) (hc := Try.call106)); exact rfl; exact rfl; exact fun D w1 hw1 => must_no _ w1)) | ((with_reducible apply e_q); (iterate 4 exact rfl)) | ((with_reducible apply e_s0); exact rfl; exact rfl) | ((with_reducible apply e_s); (iterate 3 exact rfl)) | (with_reducible apply e_nil) | exact Nat.le_of_ble_eq_true rfl)
 all_goals exact ⟨_, rfl, rfl⟩
theorem sell_open (bd : Nat) (o : Off) (A : Option Addr) (cf : Nat) (B : Option Addr) (cb : Nat) (w : World) (hD : Desk w bd o A cf B cb) (hn : o.fl.length ≤ 1000000) (hn2 : o.bk.length ≤ 1000000) (hnow : 0 ≤ o.now ∧ o.now ≤ 1000000) (dk dn ds dp dl : Int) (hE : ¬ openE o dn = 0) : Calls Try.prog 124 #[.pointer (some ⟨bd, 0, none⟩), .agg ⟨[.int .u8 dk, .int .i64 dn, .int .i64 ds, .int .i64 dp, .int .i64 dl]⟩] w fun e w' => e = .panicked (refu (openE o dn)) ∧ Ext w w' := by
 have d0 := hD.now
 have d3 := hD.fls
 have d4 := hD.bks
 have hA := hD.fl
 have hB := hD.bk
 refine enterPQ (c := cx w 48) Try.func124 rfl rfl rfl ?_
 repeat' (first | (apply oq_fn; exact rfl; try first | exact trivial | (and_intros <;> omega)) | ((with_reducible apply oq_load); exact rfl; exact rfl) | ((with_reducible apply os_x); exact rfl) | ((with_reducible apply ox_boxAgg); exact rfl; intro _) | (apply Rd.own; (repeat (first | exact P0 | apply P1)); exact rfl; done) | (apply t_regionE) | (with_reducible apply t_seq) | with_reducible apply q_thenN | ((with_reducible apply e_p); exact rfl; ((with_reducible apply op_call (k := 133) (hc := Try.call133)); exact rfl; exact rfl; exact fun D w1 hw1 => flight_no bd o A cf B cb w1 (hD.ext hw1.ext.ext) hn _ hE)) | ((with_reducible apply e_q); (iterate 4 exact rfl)) | ((with_reducible apply e_s); (iterate 3 exact rfl)) | (with_reducible apply e_nil))
 all_goals exact ⟨_, rfl, rfl⟩
theorem sell_full (bd : Nat) (o : Off) (A : Option Addr) (cf : Nat) (B : Option Addr) (cb : Nat) (w : World) (hD : Desk w bd o A cf B cb) (hn : o.fl.length ≤ 1000000) (hn2 : o.bk.length ≤ 1000000) (hnow : 0 ≤ o.now ∧ o.now ≤ 1000000) (dk dn ds dp dl : Int) (hO : openE o dn = 0) (h2 : ¬ o.bk.length < 120) : Calls Try.prog 124 #[.pointer (some ⟨bd, 0, none⟩), .agg ⟨[.int .u8 dk, .int .i64 dn, .int .i64 ds, .int .i64 dp, .int .i64 dl]⟩] w fun e w' => e = .panicked (refu (9)) ∧ Ext w w' := by
 have d0 := hD.now
 have d3 := hD.fls
 have d4 := hD.bks
 have hA := hD.fl
 have hB := hD.bk
 obtain ⟨i, x, rfl, hi, h0⟩ := openE_ok hO
 have hil := (List.getElem?_eq_some_iff.1 hi).1
 obtain ⟨b1, o1, x', rfl, _, hx, c0, c1, c2, c3⟩ := dep_read hA hil
 obtain rfl : x = x' := by rw [hi] at hx; exact Option.some.inj hx
 refine enterPQ (c := cx w 48) Try.func124 rfl rfl rfl ?_
 repeat' (first | ((with_reducible apply oq_lssF); exact rfl; exact rfl; omega) | (apply oq_fn; exact rfl; try first | exact trivial | (and_intros <;> omega)) | ((with_reducible apply oq_load); exact rfl; exact rfl) | ((with_reducible apply oq_call (k := 133) (hc := Try.call133)); exact rfl; exact rfl; exact fun D w1 hw1 => flight_ok bd o _ cf B cb w1 (hD.ext hw1.ext.ext) hn _ _ rfl i x hi h0) | ((with_reducible apply os_x); exact rfl) | ((with_reducible apply ox_boxAgg); exact rfl; intro _) | (apply Rd.own; (repeat (first | exact P0 | apply P1)); exact rfl; done) | (apply Rd.old; (first | (with_reducible assumption) | exact c0 | exact c1 | exact c2 | exact c3 | exact c4 | exact c5 | exact c6 | exact c7 | exact c8 | exact d0 | exact d1 | exact d2 | exact d3 | exact d4 | exact d5); first | exact List.not_mem_nil | exact m0 | exact m1 | exact m2 | exact m3 | exact m4 | exact m5 | exact m6 | exact m7 | exact m8 | exact m9) | (apply t_regionE) | (with_reducible apply t_seq) | with_reducible apply q_thenN | ((with_reducible apply e_p); exact rfl; ((with_reducible apply op_call (k := 106) (hc := Try.call106)); exact rfl; exact rfl; exact fun D w1 hw1 => must_no _ w1)) | ((with_reducible apply e_q); (iterate 4 exact rfl)) | ((with_reducible apply e_s); (iterate 3 exact rfl)) | (with_reducible apply e_nil))
 all_goals exact ⟨_, rfl, rfl⟩
theorem off_open (bd : Nat) (o : Off) (A : Option Addr) (cf : Nat) (B : Option Addr) (cb : Nat) (w : World) (hD : Desk w bd o A cf B cb) (hn : o.fl.length ≤ 1000000) (hn2 : o.bk.length ≤ 1000000) (hnow : 0 ≤ o.now ∧ o.now ≤ 1000000) (dk dn ds dp dl : Int) (hE : ¬ openE o dn = 0) : Calls Try.prog 127 #[.pointer (some ⟨bd, 0, none⟩), .agg ⟨[.int .u8 dk, .int .i64 dn, .int .i64 ds, .int .i64 dp, .int .i64 dl]⟩] w fun e w' => e = .panicked (refu (openE o dn)) ∧ Ext w w' := by
 have d0 := hD.now
 have d3 := hD.fls
 have d4 := hD.bks
 have hA := hD.fl
 have hB := hD.bk
 refine enterPQ (c := cx w 20) Try.func127 rfl rfl rfl ?_
 repeat' (first | (apply oq_fn; exact rfl; try first | exact trivial | (and_intros <;> omega)) | ((with_reducible apply oq_load); exact rfl; exact rfl) | ((with_reducible apply os_x); exact rfl) | ((with_reducible apply ox_box); exact rfl; exact rfl; intro _) | ((with_reducible apply ox_boxAgg); exact rfl; intro _) | (apply Rd.own; (repeat (first | exact P0 | apply P1)); exact rfl; done) | (apply t_regionE) | (with_reducible apply t_seq) | with_reducible apply q_thenN | ((with_reducible apply e_p); exact rfl; ((with_reducible apply op_call (k := 133) (hc := Try.call133)); exact rfl; exact rfl; exact fun D w1 hw1 => flight_no bd o A cf B cb w1 (hD.ext hw1.ext.ext) hn _ hE)) | ((with_reducible apply e_q); (iterate 4 exact rfl)) | ((with_reducible apply e_s); (iterate 3 exact rfl)) | (with_reducible apply e_nil))
 all_goals exact ⟨_, rfl, rfl⟩
theorem leave_open (bd : Nat) (o : Off) (A : Option Addr) (cf : Nat) (B : Option Addr) (cb : Nat) (w : World) (hD : Desk w bd o A cf B cb) (hn : o.fl.length ≤ 1000000) (hn2 : o.bk.length ≤ 1000000) (hnow : 0 ≤ o.now ∧ o.now ≤ 1000000) (dk dn ds dp dl : Int) (hE : ¬ openE o dn = 0) : Calls Try.prog 126 #[.pointer (some ⟨bd, 0, none⟩), .agg ⟨[.int .u8 dk, .int .i64 dn, .int .i64 ds, .int .i64 dp, .int .i64 dl]⟩] w fun e w' => e = .panicked (refu (openE o dn)) ∧ Ext w w' := by
 have d0 := hD.now
 have d3 := hD.fls
 have d4 := hD.bks
 have hA := hD.fl
 have hB := hD.bk
 refine enterPQ (c := cx w 41) Try.func126 rfl rfl rfl ?_
 repeat' (first | (apply oq_fn; exact rfl; try first | exact trivial | (and_intros <;> omega)) | ((with_reducible apply oq_load); exact rfl; exact rfl) | ((with_reducible apply os_x); exact rfl) | ((with_reducible apply ox_box); exact rfl; exact rfl; intro _) | ((with_reducible apply ox_boxAgg); exact rfl; intro _) | (apply Rd.own; (repeat (first | exact P0 | apply P1)); exact rfl; done) | (apply t_regionE) | (with_reducible apply t_seq) | with_reducible apply q_thenN | ((with_reducible apply e_p); exact rfl; ((with_reducible apply op_call (k := 133) (hc := Try.call133)); exact rfl; exact rfl; exact fun D w1 hw1 => flight_no bd o A cf B cb w1 (hD.ext hw1.ext.ext) hn _ hE)) | ((with_reducible apply e_q); (iterate 4 exact rfl)) | ((with_reducible apply e_s); (iterate 3 exact rfl)) | (with_reducible apply e_nil))
 all_goals exact ⟨_, rfl, rfl⟩
theorem leave_early (bd : Nat) (o : Off) (A : Option Addr) (cf : Nat) (B : Option Addr) (cb : Nat) (w : World) (hD : Desk w bd o A cf B cb) (hn : o.fl.length ≤ 1000000) (hn2 : o.bk.length ≤ 1000000) (hnow : 0 ≤ o.now ∧ o.now ≤ 1000000) (dk dn ds dp dl : Int) (hO : openE o dn = 0) (h2 : ¬ (depAt o dn).leaves ≤ o.now) : Calls Try.prog 126 #[.pointer (some ⟨bd, 0, none⟩), .agg ⟨[.int .u8 dk, .int .i64 dn, .int .i64 ds, .int .i64 dp, .int .i64 dl]⟩] w fun e w' => e = .panicked (refu (86)) ∧ Ext w w' := by
 have d0 := hD.now
 have d3 := hD.fls
 have d4 := hD.bks
 have hA := hD.fl
 have hB := hD.bk
 obtain ⟨i, x, rfl, hi, h0⟩ := openE_ok hO
 have hil := (List.getElem?_eq_some_iff.1 hi).1
 obtain ⟨b1, o1, x', rfl, _, hx, c0, c1, c2, c3⟩ := dep_read hA hil
 obtain rfl : x = x' := by rw [hi] at hx; exact Option.some.inj hx
 have hlv : ¬ x.leaves ≤ o.now := by
  unfold depAt at h2
  rw [Int.toNat_natCast, hi] at h2
  exact h2
 refine enterPQ (c := cx w 41) Try.func126 rfl rfl rfl ?_
 repeat' (first | ((with_reducible apply oq_geqF); exact rfl; exact rfl; omega) | (apply oq_fn; exact rfl; try first | exact trivial | (and_intros <;> omega)) | ((with_reducible apply oq_load); exact rfl; exact rfl) | ((with_reducible apply oq_call (k := 133) (hc := Try.call133)); exact rfl; exact rfl; exact fun D w1 hw1 => flight_ok bd o _ cf B cb w1 (hD.ext hw1.ext.ext) hn _ _ rfl i x hi h0) | (with_reducible apply v_nil) | ((with_reducible apply v_q); (iterate 3 exact rfl)) | ((with_reducible apply os_x); exact rfl) | ((with_reducible apply ox_box); exact rfl; exact rfl; intro _) | ((with_reducible apply ox_boxAgg); exact rfl; intro _) | (apply Rd.own; (repeat (first | exact P0 | apply P1)); exact rfl; done) | (apply Rd.old; (first | (with_reducible assumption) | exact c0 | exact c1 | exact c2 | exact c3 | exact c4 | exact c5 | exact c6 | exact c7 | exact c8 | exact d0 | exact d1 | exact d2 | exact d3 | exact d4 | exact d5); first | exact List.not_mem_nil | exact m0 | exact m1 | exact m2 | exact m3 | exact m4 | exact m5 | exact m6 | exact m7 | exact m8 | exact m9) | (apply t_regionE) | (apply t_mixE (id := 2) [0, 1, 2, 3, 4, 5, 6, 7, 8, 9] 1 #[false, false, false, false, false, false, false, false, false, false, true]; kernel_rfl; kernel_rfl; exact rfl) | (with_reducible apply t_seq) | with_reducible apply q_thenN | ((with_reducible apply e_q); (iterate 4 exact rfl)) | ((with_reducible apply e_s); (iterate 3 exact rfl)) | (with_reducible apply e_nil) | (apply ae_p (i := 10); decide +kernel; (iterate 3 exact rfl); first | ((with_reducible apply op_call (k := 106) (hc := Try.call106)); exact rfl; exact rfl; exact fun D w1 hw1 => must_no _ w1) | ((with_reducible apply op_call (k := 133) (hc := Try.call133)); exact rfl; exact rfl; exact fun D w1 hw1 => flight_no bd o A cf B cb w1 (hD.ext hw1.ext.ext) hn _ hE)))
 all_goals exact ⟨_, rfl, rfl⟩
theorem tick_no (bd : Nat) (o : Off) (A : Option Addr) (cf : Nat) (B : Option Addr) (cb : Nat) (w : World) (hD : Desk w bd o A cf B cb) (hn : o.fl.length ≤ 1000000) (hn2 : o.bk.length ≤ 1000000) (hnow : 0 ≤ o.now ∧ o.now ≤ 1000000) (dk dn ds dp dl : Int) (h : ¬ (1 ≤ dn ∧ dn ≤ 1000000 ∧ o.now + dn ≤ 1000000)) : Calls Try.prog 128 #[.pointer (some ⟨bd, 0, none⟩), .agg ⟨[.int .u8 dk, .int .i64 dn, .int .i64 ds, .int .i64 dp, .int .i64 dl]⟩] w fun e w' => e = .panicked (refu (2)) ∧ Ext w w' := by
 have d0 := hD.now
 have d3 := hD.fls
 have d4 := hD.bks
 have hA := hD.fl
 have hB := hD.bk
 by_cases hin : 1 ≤ dn ∧ dn ≤ 1000000
 ·have hq := allFrom_t (lo := 1) (hi := 1000000) (z := dn) hin
  have hgt : ¬ o.now + dn ≤ 1000000 := fun hh => h ⟨hin.1, hin.2, hh⟩
  refine enterPQ (c := cx w 31) Try.func128 rfl rfl rfl ?_
  repeat' (first | ((with_reducible apply oq_leqF); exact rfl; exact rfl; omega) | (apply oq_fn; exact rfl; try first | exact trivial | (and_intros <;> omega)) | ((with_reducible apply oq_load); exact rfl; exact rfl) | ((with_reducible apply oq_call (k := 63) (hc := Try.call63)); exact rfl; exact rfl; exact fun D w1 hw1 => fromOne hq hw1 (by (repeat (first | exact P0 | apply P1)))) | (with_reducible apply v_nil) | ((with_reducible apply v_q); (iterate 3 exact rfl)) | ((with_reducible apply os_x); exact rfl) | ((with_reducible apply ox_boxAgg); exact rfl; intro _) | ((with_reducible apply ox_buildSlice1); (iterate 6 exact rfl); intro _) | (apply Rd.own; (repeat (first | exact P0 | apply P1)); exact rfl; done) | (apply Rd.old; (first | (with_reducible assumption) | exact c0 | exact c1 | exact c2 | exact c3 | exact c4 | exact c5 | exact c6 | exact c7 | exact c8 | exact d0 | exact d1 | exact d2 | exact d3 | exact d4 | exact d5); first | exact List.not_mem_nil | exact m0 | exact m1 | exact m2 | exact m3 | exact m4 | exact m5 | exact m6 | exact m7 | exact m8 | exact m9) | (apply t_regionE) | (apply t_mixE (id := 1) [0, 1] 14 #[false, false, false, false, false, false, false, false, false, false, false, false, false, false, false, true]; kernel_rfl; kernel_rfl; exact rfl) | (with_reducible apply t_seq) | with_reducible apply q_thenN | ((with_reducible apply e_s); (iterate 3 exact rfl)) | (with_reducible apply e_nil) | (apply ae_x (i := 2); decide +kernel; (iterate 5 exact rfl)) | (apply ae_q (i := 3); decide +kernel; (iterate 5 exact rfl)) | (apply ae_more [4, 5, 6, 7, 8, 9, 10, 11, 12, 13, 14] 1; decide +kernel; exact rfl; exact rfl; focus (repeat (first | exact HpSub.refl _ | (apply HpSub.cons; (repeat (first | exact P0 | apply P1))) | exact HpSub.nil))) | (apply ae_p (i := 15); decide +kernel; (iterate 3 exact rfl); first | ((with_reducible apply op_call (k := 106) (hc := Try.call106)); exact rfl; exact rfl; exact fun D w1 hw1 => must_no _ w1) | ((with_reducible apply op_call (k := 133) (hc := Try.call133)); exact rfl; exact rfl; exact fun D w1 hw1 => flight_no bd o A cf B cb w1 (hD.ext hw1.ext.ext) hn _ hE)))
  all_goals exact ⟨_, rfl, rfl⟩
 ·have hq := allFrom_f (lo := 1) (hi := 1000000) (z := dn) hin
  refine enterPQ (c := cx w 31) Try.func128 rfl rfl rfl ?_
  repeat' (first | (apply oq_fn; exact rfl; try first | exact trivial | (and_intros <;> omega)) | ((with_reducible apply oq_load); exact rfl; exact rfl) | ((with_reducible apply oq_call (k := 63) (hc := Try.call63)); exact rfl; exact rfl; exact fun D w1 hw1 => fromOne hq hw1 (by (repeat (first | exact P0 | apply P1)))) | (with_reducible apply v_nil) | ((with_reducible apply v_q); (iterate 3 exact rfl)) | ((with_reducible apply v_skip); (iterate 3 exact rfl)) | ((with_reducible apply os_x); exact rfl) | ((with_reducible apply ox_boxAgg); exact rfl; intro _) | ((with_reducible apply ox_buildSlice1); (iterate 6 exact rfl); intro _) | (apply Rd.own; (repeat (first | exact P0 | apply P1)); exact rfl; done) | (apply t_regionE) | (apply t_mixE (id := 1) [0, 1] 14 #[false, false, false, false, false, false, false, false, false, false, false, false, false, false, false, true]; kernel_rfl; kernel_rfl; exact rfl) | (with_reducible apply t_seq) | with_reducible apply q_thenN | ((with_reducible apply e_s); (iterate 3 exact rfl)) | (with_reducible apply e_nil) | (apply ae_x (i := 2); decide +kernel; (iterate 5 exact rfl)) | (apply ae_q (i := 3); decide +kernel; (iterate 5 exact rfl)) | (apply ae_more [4, 5, 6, 7, 8, 9, 10, 11, 12, 13, 14] 1; decide +kernel; exact rfl; exact rfl; focus (repeat (first | exact HpSub.refl _ | (apply HpSub.cons; (repeat (first | exact P0 | apply P1))) | exact HpSub.nil))) | (apply ae_p (i := 15); decide +kernel; (iterate 3 exact rfl); first | ((with_reducible apply op_call (k := 106) (hc := Try.call106)); exact rfl; exact rfl; exact fun D w1 hw1 => must_no _ w1) | ((with_reducible apply op_call (k := 133) (hc := Try.call133)); exact rfl; exact rfl; exact fun D w1 hw1 => flight_no bd o A cf B cb w1 (hD.ext hw1.ext.ext) hn _ hE)))
  all_goals exact ⟨_, rfl, rfl⟩
theorem cancel_arg (bd : Nat) (o : Off) (A : Option Addr) (cf : Nat) (B : Option Addr) (cb : Nat) (w : World) (hD : Desk w bd o A cf B cb) (hn : o.fl.length ≤ 1000000) (hn2 : o.bk.length ≤ 1000000) (hnow : 0 ≤ o.now ∧ o.now ≤ 1000000) (dk dn ds dp dl : Int) (h : ¬ (0 ≤ dn ∧ dn < (o.bk.length : Int))) : Calls Try.prog 125 #[.pointer (some ⟨bd, 0, none⟩), .agg ⟨[.int .u8 dk, .int .i64 dn, .int .i64 ds, .int .i64 dp, .int .i64 dl]⟩] w fun e w' => e = .panicked (refu (2)) ∧ Ext w w' := by
 have d0 := hD.now
 have d3 := hD.fls
 have d4 := hD.bks
 have hA := hD.fl
 have hB := hD.bk
 have hq := allFrom_f (lo := 0) (hi := (o.bk.length : Int) - 1) (z := dn) (by omega)
 refine enterPQ (c := cx w 86) Try.func125 rfl rfl rfl ?_
 repeat' (first | (apply oq_fn; exact rfl; try first | exact trivial | (and_intros <;> omega)) | ((with_reducible apply oq_load); exact rfl; exact rfl) | ((with_reducible apply oq_call (k := 63) (hc := Try.call63)); exact rfl; exact rfl; exact fun D w1 hw1 => fromOne hq hw1 (by (repeat (first | exact P0 | apply P1)))) | (with_reducible apply v_nil) | ((with_reducible apply v_q); (iterate 3 exact rfl)) | ((with_reducible apply os_x); exact rfl) | ((with_reducible apply ox_boxAgg); exact rfl; intro _) | ((with_reducible apply ox_buildSlice1); (iterate 6 exact rfl); intro _) | (apply Rd.own; (repeat (first | exact P0 | apply P1)); exact rfl; done) | (apply Rd.old; (first | (with_reducible assumption) | exact c0 | exact c1 | exact c2 | exact c3 | exact c4 | exact c5 | exact c6 | exact c7 | exact c8 | exact d0 | exact d1 | exact d2 | exact d3 | exact d4 | exact d5); first | exact List.not_mem_nil | exact m0 | exact m1 | exact m2 | exact m3 | exact m4 | exact m5 | exact m6 | exact m7 | exact m8 | exact m9) | (apply t_regionE) | (apply t_mixE (id := 1) [0, 1, 2, 3, 4, 5, 6, 7, 8] 3 #[false, false, false, false, false, false, false, false, false, false, false, true]; kernel_rfl; kernel_rfl; exact rfl) | (with_reducible apply t_seq) | with_reducible apply q_thenN | ((with_reducible apply e_s); (iterate 3 exact rfl)) | (with_reducible apply e_nil) | (apply ae_x (i := 9); decide +kernel; (iterate 5 exact rfl)) | (apply ae_q (i := 10); decide +kernel; (iterate 5 exact rfl)) | (apply ae_p (i := 11); decide +kernel; (iterate 3 exact rfl); first | ((with_reducible apply op_call (k := 106) (hc := Try.call106)); exact rfl; exact rfl; exact fun D w1 hw1 => must_no _ w1) | ((with_reducible apply op_call (k := 133) (hc := Try.call133)); exact rfl; exact rfl; exact fun D w1 hw1 => flight_no bd o A cf B cb w1 (hD.ext hw1.ext.ext) hn _ hE)))
 all_goals exact ⟨_, rfl, rfl⟩
theorem seats_open (bd : Nat) (o : Off) (A : Option Addr) (cf : Nat) (B : Option Addr) (cb : Nat) (w : World) (hD : Desk w bd o A cf B cb) (hn : o.fl.length ≤ 1000000) (hn2 : o.bk.length ≤ 1000000) (hnow : 0 ≤ o.now ∧ o.now ≤ 1000000) (dk dn ds dp dl : Int) (hE : ¬ openE o dn = 0) : Calls Try.prog 129 #[.pointer (some ⟨bd, 0, none⟩), .agg ⟨[.int .u8 dk, .int .i64 dn, .int .i64 ds, .int .i64 dp, .int .i64 dl]⟩] w fun e w' => e = .panicked (refu (openE o dn)) ∧ Ext w w' := by
 have d0 := hD.now
 have d3 := hD.fls
 have d4 := hD.bks
 have hA := hD.fl
 have hB := hD.bk
 refine enterPQ (c := cx w 32) Try.func129 rfl rfl rfl ?_
 repeat' (first | (apply oq_fn; exact rfl; try first | exact trivial | (and_intros <;> omega)) | ((with_reducible apply oq_load); exact rfl; exact rfl) | ((with_reducible apply os_x); exact rfl) | ((with_reducible apply ox_boxAgg); exact rfl; intro _) | (apply Rd.own; (repeat (first | exact P0 | apply P1)); exact rfl; done) | (apply t_regionE) | (with_reducible apply t_seq) | with_reducible apply q_thenN | ((with_reducible apply e_p); exact rfl; ((with_reducible apply op_call (k := 133) (hc := Try.call133)); exact rfl; exact rfl; exact fun D w1 hw1 => flight_no bd o A cf B cb w1 (hD.ext hw1.ext.ext) hn _ hE)) | ((with_reducible apply e_q); (iterate 4 exact rfl)) | ((with_reducible apply e_s); (iterate 3 exact rfl)) | (with_reducible apply e_nil))
 all_goals exact ⟨_, rfl, rfl⟩
theorem seats_arg (bd : Nat) (o : Off) (A : Option Addr) (cf : Nat) (B : Option Addr) (cb : Nat) (w : World) (hD : Desk w bd o A cf B cb) (hn : o.fl.length ≤ 1000000) (hn2 : o.bk.length ≤ 1000000) (hnow : 0 ≤ o.now ∧ o.now ≤ 1000000) (dk dn ds dp dl : Int) (hO : openE o dn = 0) (h : ¬ (0 ≤ ds ∧ ds ≤ 50)) : Calls Try.prog 129 #[.pointer (some ⟨bd, 0, none⟩), .agg ⟨[.int .u8 dk, .int .i64 dn, .int .i64 ds, .int .i64 dp, .int .i64 dl]⟩] w fun e w' => e = .panicked (refu (2)) ∧ Ext w w' := by
 have d0 := hD.now
 have d3 := hD.fls
 have d4 := hD.bks
 have hA := hD.fl
 have hB := hD.bk
 obtain ⟨i, x, rfl, hi, h0⟩ := openE_ok hO
 have hil := (List.getElem?_eq_some_iff.1 hi).1
 obtain ⟨b1, o1, x', rfl, _, hx, c0, c1, c2, c3⟩ := dep_read hA hil
 obtain rfl : x = x' := by rw [hi] at hx; exact Option.some.inj hx
 have hq := allFrom_f (lo := 0) (hi := 50) (z := ds) h
 refine enterPQ (c := cx w 32) Try.func129 rfl rfl rfl ?_
 repeat' (first | (apply oq_fn; exact rfl; try first | exact trivial | (and_intros <;> omega)) | ((with_reducible apply oq_load); exact rfl; exact rfl) | ((with_reducible apply oq_call (k := 63) (hc := Try.call63)); exact rfl; exact rfl; exact fun D w1 hw1 => fromOne hq hw1 (by (repeat (first | exact P0 | apply P1)))) | ((with_reducible apply oq_call (k := 133) (hc := Try.call133)); exact rfl; exact rfl; exact fun D w1 hw1 => flight_ok bd o _ cf B cb w1 (hD.ext hw1.ext.ext) hn _ _ rfl i x hi h0) | ((with_reducible apply os_x); exact rfl) | ((with_reducible apply ox_boxAgg); exact rfl; intro _) | ((with_reducible apply ox_buildSlice1); (iterate 6 exact rfl); intro _) | (apply Rd.own; (repeat (first | exact P0 | apply P1)); exact rfl; done) | (apply t_regionE) | (with_reducible apply t_seq) | with_reducible apply q_thenN | ((with_reducible apply e_p); exact rfl; ((with_reducible apply op_call (k := 106) (hc := Try.call106)); exact rfl; exact rfl; exact fun D w1 hw1 => must_no _ w1)) | ((with_reducible apply e_q); (iterate 4 exact rfl)) | ((with_reducible apply e_s); (iterate 3 exact rfl)) | (with_reducible apply e_nil))
 all_goals exact ⟨_, rfl, rfl⟩
theorem cancel_gone (bd : Nat) (o : Off) (A : Option Addr) (cf : Nat) (B : Option Addr) (cb : Nat) (w : World) (hD : Desk w bd o A cf B cb) (hn : o.fl.length ≤ 1000000) (hn2 : o.bk.length ≤ 1000000) (hnow : 0 ≤ o.now ∧ o.now ≤ 1000000) (dk dn ds dp dl : Int) (hin : 0 ≤ dn ∧ dn < (o.bk.length : Int)) (h : ¬ ((bkAt o dn).state = 1 ∨ (bkAt o dn).state = 2)) : Calls Try.prog 125 #[.pointer (some ⟨bd, 0, none⟩), .agg ⟨[.int .u8 dk, .int .i64 dn, .int .i64 ds, .int .i64 dp, .int .i64 dl]⟩] w fun e w' => e = .panicked (refu (85)) ∧ Ext w w' := by
 have d0 := hD.now
 have d3 := hD.fls
 have d4 := hD.bks
 have hA := hD.fl
 have hB := hD.bk
 have hq := allFrom_t (lo := 0) (hi := (o.bk.length : Int) - 1) (z := dn) ⟨hin.1, by omega⟩
 obtain ⟨i, rfl⟩ : ∃ i : Nat, dn = (i : Int) := ⟨dn.toNat, by omega⟩
 have hil : i < o.bk.length := by omega
 obtain ⟨b1, o1, x, rfl, _, hx, c0, c1, c2⟩ := bk_read hB hil
 have hs : ¬ x.state = 1 ∧ ¬ x.state = 2 := by
  unfold bkAt at h
  rw [Int.toNat_natCast, hx] at h
  exact ⟨fun hh => h (.inl hh), fun hh => h (.inr hh)⟩
 refine enterPQ (c := cx w 86) Try.func125 rfl rfl rfl ?_
 repeat' (first | (focus ((with_reducible apply oq_indexAddrN); (iterate 4 exact rfl); omega)) | ((with_reducible apply oq_eqlF); exact rfl; exact rfl; omega) | (apply oq_fn; exact rfl; try first | exact trivial | (and_intros <;> omega)) | ((with_reducible apply oq_load); exact rfl; exact rfl) | ((with_reducible apply oq_call (k := 63) (hc := Try.call63)); exact rfl; exact rfl; exact fun D w1 hw1 => fromOne hq hw1 (by (repeat (first | exact P0 | apply P1)))) | ((with_reducible apply oq_call (k := 106) (hc := Try.call106)); exact rfl; exact rfl; exact fun D w1 hw1 => must_ok _ w1) | (with_reducible apply v_nil) | ((with_reducible apply v_q); (iterate 3 exact rfl)) | ((with_reducible apply os_x); exact rfl) | ((with_reducible apply ox_boxAgg); exact rfl; intro _) | ((with_reducible apply ox_buildSlice1); (iterate 6 exact rfl); intro _) | ((with_reducible apply ai_q); (iterate 5 exact rfl)) | ((with_reducible apply ai_x); (iterate 5 exact rfl)) | (apply Rd.own; (repeat (first | exact P0 | apply P1)); exact rfl; done) | (apply Rd.old; (first | (with_reducible assumption) | exact c0 | exact c1 | exact c2 | exact c3 | exact c4 | exact c5 | exact c6 | exact c7 | exact c8 | exact d0 | exact d1 | exact d2 | exact d3 | exact d4 | exact d5); first | exact List.not_mem_nil | exact m0 | exact m1 | exact m2 | exact m3 | exact m4 | exact m5 | exact m6 | exact m7 | exact m8 | exact m9) | (apply t_regionE) | (with_reducible apply t_seq) | (apply t_drawn; kernel_rfl; decide +kernel; try simp only [List.append_eq, List.cons_append, List.nil_append]) | with_reducible apply q_thenN | (apply t_mix (id := 1) [0, 1, 2, 3, 4, 5, 6, 7, 8] 3 #[false, false, false, false, false, false, false, false, false, false, false, false]; kernel_rfl; kernel_rfl; exact rfl) | (apply al_done; decide +kernel) | (apply al_one 9; decide +kernel) | (apply al_one 10; decide +kernel) | (apply al_one 11; decide +kernel) | ((with_reducible apply e_p); exact rfl; ((with_reducible apply op_call (k := 106) (hc := Try.call106)); exact rfl; exact rfl; exact fun D w1 hw1 => must_no _ w1)) | ((with_reducible apply e_q); (iterate 4 exact rfl)) | ((with_reducible apply e_s); (iterate 3 exact rfl)) | (with_reducible apply e_nil))
 all_goals exact ⟨_, rfl, rfl⟩
theorem seats_full (bd : Nat) (o : Off) (A : Option Addr) (cf : Nat) (B : Option Addr) (cb : Nat) (w : World) (hD : Desk w bd o A cf B cb) (hn : o.fl.length ≤ 1000000) (hn2 : o.bk.length ≤ 1000000) (hnow : 0 ≤ o.now ∧ o.now ≤ 1000000) (dk dn ds dp dl : Int) (hO : openE o dn = 0) (hs : 0 ≤ ds ∧ ds ≤ 50) (h : ¬ manyV o.bk dn 1 ≤ ds) : Calls Try.prog 129 #[.pointer (some ⟨bd, 0, none⟩), .agg ⟨[.int .u8 dk, .int .i64 dn, .int .i64 ds, .int .i64 dp, .int .i64 dl]⟩] w fun e w' => e = .panicked (refu (9)) ∧ Ext w w' := by
 have d0 := hD.now
 have d3 := hD.fls
 have d4 := hD.bks
 have hA := hD.fl
 have hB := hD.bk
 obtain ⟨i, x, rfl, hi, h0⟩ := openE_ok hO
 have hil := (List.getElem?_eq_some_iff.1 hi).1
 obtain ⟨b1, o1, x', rfl, _, hx, c0, c1, c2, c3⟩ := dep_read hA hil
 obtain rfl : x = x' := by rw [hi] at hx; exact Option.some.inj hx
 have hq := allFrom_t (lo := 0) (hi := 50) (z := ds) hs
 have hcnt : ¬ ((cntV (mtB (i : Int) [1]) o.bk : Nat) : Int) ≤ ds := by rw [mt_many]; exact h
 refine enterPQ (c := cx w 32) Try.func129 rfl rfl rfl ?_
 repeat' (first | ((with_reducible apply oq_leqF); exact rfl; exact rfl; omega) | (apply oq_fn; exact rfl; try first | exact trivial | (and_intros <;> omega)) | ((with_reducible apply oq_load); exact rfl; exact rfl) | ((with_reducible apply oq_call (k := 63) (hc := Try.call63)); exact rfl; exact rfl; exact fun D w1 hw1 => fromOne hq hw1 (by (repeat (first | exact P0 | apply P1)))) | ((with_reducible apply oq_call (k := 106) (hc := Try.call106)); exact rfl; exact rfl; exact fun D w1 hw1 => must_ok _ w1) | ((with_reducible apply oq_call (k := 133) (hc := Try.call133)); exact rfl; exact rfl; exact fun D w1 hw1 => flight_ok bd o _ cf B cb w1 (hD.ext hw1.ext.ext) hn _ _ rfl i x hi h0) | ((with_reducible apply oq_call (k := 64) (hc := Try.call64)); exact rfl; exact rfl; exact fun D w1 hw1 => count_calls bd o _ cf B cb w1 (hD.ext hw1.ext.ext) hn2 _ (some ⟨_, 0, none⟩) 1 _ [1] (one8 hw1 (by (repeat (first | exact P0 | apply P1)))) (by omega)) | (with_reducible apply v_nil) | ((with_reducible apply v_q); (iterate 3 exact rfl)) | ((with_reducible apply os_x); exact rfl) | ((with_reducible apply ox_boxAgg); exact rfl; intro _) | ((with_reducible apply ox_buildSlice1); (iterate 6 exact rfl); intro _) | (apply Rd.own; (repeat (first | exact P0 | apply P1)); exact rfl; done) | (apply t_regionE) | (apply t_mixE (id := 3) [0, 1, 2, 5, 6] 4 #[false, false, false, false, false, false, false, false, true]; kernel_rfl; kernel_rfl; exact rfl) | (with_reducible apply t_seq) | with_reducible apply q_thenN | ((with_reducible apply e_q); (iterate 4 exact rfl)) | ((with_reducible apply e_s); (iterate 3 exact rfl)) | (with_reducible apply e_nil) | (apply ae_x (i := 3); decide +kernel; (iterate 5 exact rfl)) | (apply ae_q (i := 4); decide +kernel; (iterate 5 exact rfl)) | (apply ae_q (i := 7); decide +kernel; (iterate 5 exact rfl)) | (apply ae_p (i := 8); decide +kernel; (iterate 3 exact rfl); first | ((with_reducible apply op_call (k := 106) (hc := Try.call106)); exact rfl; exact rfl; exact fun D w1 hw1 => must_no _ w1) | ((with_reducible apply op_call (k := 133) (hc := Try.call133)); exact rfl; exact rfl; exact fun D w1 hw1 => flight_no bd o A cf B cb w1 (hD.ext hw1.ext.ext) hn _ hE)))
 all_goals exact ⟨_, rfl, rfl⟩
end Go.Proofs.Ytmlmgipngbndgaa
namespace Go.Proofs.Ytmlmgipngbndgaa
open Go.RowKit
attribute [local irreducible] OQ OS OX Rd T TL GX GL AL AI RV wpG SAny Calls
theorem offCells_add (o : Off) (z : Dep) (A A' : Option Addr) (cf cf' : Nat) (B : Option Addr) (cb : Nat) : (offCells o A cf B cb).set 3 (.slice A' (o.fl.length + 1) cf') = offCells { o with fl := o.fl ++ [z] } A' cf' B cb := by
 simp [offCells]
theorem offCells_sell (o : Off) (z : Bk) (A B B' : Option Addr) (cf cb cb' : Nat) : (offCells o A cf B cb).set 4 (.slice B' (o.bk.length + 1) cb') = offCells { o with bk := o.bk ++ [z] } A cf B' cb' := by
 simp [offCells]
theorem flat_add {α : Type} (f : α → List Value) (l : List α) (z : α) : (l.map f).flatten ++ f z = ((l ++ [z]).map f).flatten := by simp
theorem add_T (bd : Nat) (o : Off) (x y : Option (Nat × Nat)) (hxn : x = none → o.fl.length = 0) (hyn : y = none → o.bk.length = 0) (hv : OkO o) (w : World) (hw : Has w ⟨(deskH bd o x y).map Prod.fst, []⟩ (deskH bd o x y) w) (dk dn ds dp dl : Int) (h : depOk ⟨ds, dp, dl, 0⟩ = true ∧ o.now ≤ dl) (h2 : o.fl.length < 10) : Calls Try.prog 123 #[.pointer (some ⟨bd, 0, none⟩), .agg ⟨[.int .u8 dk, .int .i64 dn, .int .i64 ds, .int .i64 dp, .int .i64 dl]⟩] w fun e w' => ∃ v H', e = .returned v ∧ DV bd ({ o with fl := o.fl ++ [⟨ds, dp, dl, 0⟩] }) v H' ∧ Has w ⟨(deskH bd o x y).map Prod.fst, []⟩ H' w' := by
 obtain ⟨hfine, hlt⟩ := h
 have hq : True := trivial
 have hFL := flat_len (f := depCells) (s := 4) (fun _ => rfl) o.fl
 have hO : ∀ A' cf', (offCells o (clA x) (clC x) (clA y) (clC y)).set 3 (.slice A' (o.fl.length + 1) cf') = offCells { o with fl := o.fl ++ [⟨ds, dp, dl, 0⟩] } A' cf' (clA y) (clC y) := fun A' cf' => offCells_add o _ _ _ _ _ _ _
 have hF := flat_add depCells o.fl ⟨ds, dp, dl, 0⟩
 obtain ⟨M, hM⟩ : ∃ M, (deskH bd o x y).map Prod.fst = M := ⟨_, rfl⟩
 rw [hM] at hw ⊢
 have hnow := hv.now
 refine ds_dv (enter (c := cxM M w 45) (H := deskH bd o x y) (F := frOf 0 _) Try.func123 rfl rfl rfl (fun d v hv => (look_frOf _ 0 d v hv).2) hw ?_)
 unfold deskH flH bkH
 rcases x with _ | ⟨gF, cF⟩
 ·have hz := hxn rfl
  simp only [clH, clA, clC, List.nil_append, List.cons_append] at hO ⊢
  rw [hz] at hO
  have hcell : (offCells o none 0 (clA y) (clC y))[3]? = some (.slice none 0 0) := by rw [← hz]; rfl
  have hnil : (o.fl.map depCells).flatten = [] := by
   cases hfl : o.fl with
   | nil => rfl
   | cons a l => rw [hfl] at hz; cases hz
  rw [hnil, List.nil_append] at hF
  repeat' (first | ((with_reducible apply oq_geqT); exact rfl; exact rfl; omega) | ((with_reducible apply oq_lssT); exact rfl; exact rfl; omega) | (apply oq_fn; exact rfl; try first | exact trivial | (and_intros <;> omega)) | ((with_reducible apply oq_load); exact rfl; exact rfl) | ((with_reducible apply oq_loadAgg); exact rfl; exact rfl) | ((with_reducible apply oq_call (k := 94) (hc := Try.call94)); exact rfl; exact rfl; exact fun D w1 hw1 => (hfine ▸ fine_calls _ _ _ _ w1)) | ((with_reducible apply oq_call (k := 106) (hc := Try.call106)); exact rfl; exact rfl; exact fun D w1 hw1 => must_ok _ w1) | ((with_reducible apply oq_build); (iterate 3 exact rfl)) | (with_reducible apply tl_nil) | ((with_reducible apply u_q); (iterate 4 exact rfl)) | ((with_reducible apply u_s0); exact rfl; exact rfl) | ((with_reducible apply u_s); (iterate 3 exact rfl)) | (with_reducible apply v_nil) | ((with_reducible apply v_q); (iterate 3 exact rfl)) | ((with_reducible apply os_storeB (hC := (hO _ _))); (iterate 4 exact rfl); (repeat (first | exact P0 | apply P1 | apply PA)); exact Nat.le_of_ble_eq_true rfl) | ((with_reducible apply os_x); exact rfl) | ((with_reducible apply os_storeAgg); (iterate 5 exact rfl)) | ((with_reducible apply os_appendNil (hk := app_ok22)); exact rfl; exact rfl) | ((with_reducible apply ox_alloc); exact rfl; intro _) | ((with_reducible apply ox_boxAgg); exact rfl; intro _) | ((with_reducible apply ox_buildSlice); (iterate 4 exact rfl)) | ((with_reducible apply ai_q); (iterate 5 exact rfl)) | ((with_reducible apply ai_x); (iterate 5 exact rfl)) | ((with_reducible apply ai_s0); (iterate 4 exact rfl)) | ((with_reducible apply ai_s); (iterate 5 exact rfl)) | (apply Rd.own; (repeat (first | exact P0 | apply P1 | apply PA)); exact hcell; done) | (apply Rd.own; (repeat (first | exact P0 | apply P1 | apply PA)); exact rfl; done) | (apply t_mix (id := 4) [1, 2, 3, 4, 5, 6] 7 #[false, false, false, false, false, false, false, false, true, false, false, false, true]; kernel_rfl; kernel_rfl; exact rfl) | (with_reducible apply t_seq) | (apply t_region; kernel_rfl) | (apply t_drawn; kernel_rfl; decide +kernel; try simp only [List.append_eq, List.cons_append, List.nil_append]) | with_reducible apply q_thenN | exact P0 | exact Rdn.zero | apply Rdn.succ | ((with_reducible apply Norm.nil); exact rfl) | ((with_reducible apply Norm.cons); exact rfl) | (with_reducible apply end_normal) | exact rvs_nil | (apply al_done; decide +kernel) | (apply al_one 0; decide +kernel) | (apply al_one 7; decide +kernel) | (apply al_one 8; decide +kernel) | (apply al_one 9; decide +kernel) | (apply al_one 10; decide +kernel) | (apply al_one 11; decide +kernel) | (apply al_one 12; decide +kernel) | (apply al_two 0 7; decide +kernel) | (apply al_two 0 8; decide +kernel) | exact Nat.le_of_ble_eq_true rfl | exact (rfl : (_ : Bool) = true) | (intro _ _; with_reducible apply al_id) | (intro _; with_reducible apply al_id))
  all_goals (rename_i g cp; refine ⟨rfl, some (g, cp), y, (fun h => by cases h), hyn, ?_⟩)
  all_goals (unfold deskH flH bkH; simp only [← hF]; rcases y with _ | ⟨gB, cB⟩ <;> simp only [clH, clA, clC, List.nil_append, List.cons_append, List.append_nil])
  all_goals (repeat (first | exact HpSub.refl _ | (apply HpSub.consE; (repeat (first | exact P0 | apply P1 | apply PA)); exact rfl) | apply HpSub.skipX | exact HpSub.nil))
 ·simp only [clH_some, clA_some, clC_some, List.nil_append, List.cons_append] at hO ⊢
  repeat' (first | ((with_reducible apply oq_geqT); exact rfl; exact rfl; omega) | ((with_reducible apply oq_lssT); exact rfl; exact rfl; omega) | (apply oq_fn; exact rfl; try first | exact trivial | (and_intros <;> omega)) | ((with_reducible apply oq_load); exact rfl; exact rfl) | ((with_reducible apply oq_loadAgg); exact rfl; exact rfl) | ((with_reducible apply oq_call (k := 94) (hc := Try.call94)); exact rfl; exact rfl; exact fun D w1 hw1 => (hfine ▸ fine_calls _ _ _ _ w1)) | ((with_reducible apply oq_call (k := 106) (hc := Try.call106)); exact rfl; exact rfl; exact fun D w1 hw1 => must_ok _ w1) | ((with_reducible apply oq_build); (iterate 3 exact rfl)) | (with_reducible apply tl_nil) | ((with_reducible apply u_q); (iterate 4 exact rfl)) | ((with_reducible apply u_s0); exact rfl; exact rfl) | ((with_reducible apply u_s); (iterate 3 exact rfl)) | (with_reducible apply v_nil) | ((with_reducible apply v_q); (iterate 3 exact rfl)) | ((with_reducible apply os_storeB (hC := (hO _ _))); (iterate 4 exact rfl); (repeat (first | exact P0 | apply P1 | apply PA)); exact Nat.le_of_ble_eq_true rfl) | ((with_reducible apply os_x); exact rfl) | ((with_reducible apply os_storeAgg); (iterate 5 exact rfl)) | ((with_reducible apply os_append (hk := app_ok22)); exact rfl; exact rfl; (repeat (first | exact P0 | apply P1 | apply PA))) | ((with_reducible apply ox_alloc); exact rfl; intro _) | ((with_reducible apply ox_boxAgg); exact rfl; intro _) | ((with_reducible apply ox_buildSlice); (iterate 4 exact rfl)) | ((with_reducible apply ai_q); (iterate 5 exact rfl)) | ((with_reducible apply ai_x); (iterate 5 exact rfl)) | ((with_reducible apply ai_s0); (iterate 4 exact rfl)) | ((with_reducible apply ai_s); (iterate 5 exact rfl)) | (apply Rd.own; (repeat (first | exact P0 | apply P1 | apply PA)); exact rfl; done) | (apply t_mix (id := 4) [1, 2, 3, 4, 5, 6] 7 #[false, false, false, false, false, false, false, false, true, false, false, false, true]; kernel_rfl; kernel_rfl; exact rfl) | (with_reducible apply t_seq) | (apply t_region; kernel_rfl) | (apply t_drawn; kernel_rfl; decide +kernel; try simp only [List.append_eq, List.cons_append, List.nil_append]) | with_reducible apply q_thenN | exact P0 | exact Rdn.zero | apply Rdn.succ | ((with_reducible apply Norm.nil); exact rfl) | ((with_reducible apply Norm.cons); exact rfl) | (with_reducible apply end_normal) | exact rvs_nil | (apply al_done; decide +kernel) | (apply al_one 0; decide +kernel) | (apply al_one 7; decide +kernel) | (apply al_one 8; decide +kernel) | (apply al_one 9; decide +kernel) | (apply al_one 10; decide +kernel) | (apply al_one 11; decide +kernel) | (apply al_one 12; decide +kernel) | (apply al_two 0 7; decide +kernel) | (apply al_two 0 8; decide +kernel) | exact hFL | exact Nat.le_of_ble_eq_true rfl | exact (rfl : (_ : Bool) = true) | omega | (intro _ _; with_reducible apply al_id) | (intro _; with_reducible apply al_id))
  all_goals (rename_i g cp; refine ⟨rfl, some (g, cp), y, (fun h => by cases h), hyn, ?_⟩)
  all_goals (unfold deskH flH bkH; simp only [← hF]; rcases y with _ | ⟨gB, cB⟩ <;> simp only [clH, clA, clC, List.nil_append, List.cons_append, List.append_nil])
  all_goals (repeat (first | exact HpSub.refl _ | (apply HpSub.consE; (repeat (first | exact P0 | apply P1 | apply PA)); exact rfl) | apply HpSub.skipX | exact HpSub.nil))
theorem sell_T (bd : Nat) (o : Off) (x y : Option (Nat × Nat)) (hxn : x = none → o.fl.length = 0) (hyn : y = none → o.bk.length = 0) (hv : OkO o) (w : World) (hw : Has w ⟨(deskH bd o x y).map Prod.fst, []⟩ (deskH bd o x y) w) (dk dn ds dp dl : Int) (hO1 : openE o dn = 0) (h2 : o.bk.length < 120) : Calls Try.prog 124 #[.pointer (some ⟨bd, 0, none⟩), .agg ⟨[.int .u8 dk, .int .i64 dn, .int .i64 ds, .int .i64 dp, .int .i64 dl]⟩] w fun e w' => ∃ v H', e = .returned v ∧ DV bd (sellV o dn) v H' ∧ Has w ⟨(deskH bd o x y).map Prod.fst, []⟩ H' w' := by
 obtain ⟨i, d, rfl, hi, h0⟩ := openE_ok hO1
 have hil := (List.getElem?_eq_some_iff.1 hi).1
 rcases x with _ | ⟨gF, cF⟩
 ·exact absurd (hxn rfl) (by omega)
 have hdd := hv.dep hi
 have hnb := hv.nb
 have hnf := hv.nf
 have hinn := hv.inn
 have hdep : depAt o (i : Int) = d := by unfold depAt; rw [Int.toNat_natCast, hi]
 have hsv : sellV o (i : Int) = givenV { o with bk := o.bk ++ [⟨(i : Int), 2, 0⟩], inn := o.inn + d.price } i := by unfold sellV; rw [hdep, Int.toNat_natCast]
 rw [hsv]
 obtain ⟨o1, ho1⟩ : ∃ o1 : Off, { o with bk := o.bk ++ [⟨(i : Int), 2, 0⟩] } = o1 := ⟨_, rfl⟩
 have hin1 : o1.inn = o.inn := by rw [← ho1]
 obtain ⟨o2, ho2⟩ : ∃ o2 : Off, { o with bk := o.bk ++ [⟨(i : Int), 2, 0⟩], inn := o.inn + d.price } = o2 := ⟨_, rfl⟩
 have hi2 : o2.fl[i]? = some d := by rw [← ho2]; exact hi
 have hfl2 : o2.fl = o.fl := by rw [← ho2]
 have hb2 : o2.bk.length ≤ 1000 := by rw [← ho2]; simp only [List.length_append, List.length_singleton]; omega
 obtain ⟨r0, r1, r2, r3⟩ := dep_at hi
 have hFL := flat_len (f := bkCells) (s := 3) (fun _ => rfl) o.bk
 have hO : ∀ B' cb', (offCells o (some ⟨gF, 0, none⟩) cF (clA y) (clC y)).set 4 (.slice B' (o.bk.length + 1) cb') = offCells o1 (some ⟨gF, 0, none⟩) cF B' cb' := fun B' cb' => by rw [← ho1]; exact offCells_sell o _ _ _ _ _ _ _
 have hF2 : (o2.bk.map bkCells).flatten = (o.bk.map bkCells).flatten ++ [.int .i64 (i : Int), .int .u8 2, .int .i64 0] := by rw [← ho2]; exact (flat_add bkCells o.bk ⟨(i : Int), 2, 0⟩).symm
 have hO2 : ∀ B' cb', (offCells o1 (some ⟨gF, 0, none⟩) cF B' cb').set 5 (.int .i64 (o1.inn + d.price)) = offCells o2 (some ⟨gF, 0, none⟩) cF B' cb' := fun B' cb' => by rw [← ho2, ← ho1]; rfl
 obtain ⟨M, hM⟩ : ∃ M, (deskH bd o (some (gF, cF)) y).map Prod.fst = M := ⟨_, rfl⟩
 rw [hM] at hw ⊢
 rw [ho2]
 refine ds_dv (enter (c := cxM M w 48) (H := deskH bd o (some (gF, cF)) y) (F := frOf 0 _) Try.func124 rfl rfl rfl (fun d v hv => (look_frOf _ 0 d v hv).2) hw ?_)
 unfold deskH flH bkH
 simp only [clH_some, clA_some, clC_some, List.nil_append, List.cons_append]
 rcases y with _ | ⟨gB, cB⟩
 ·have hz := hyn rfl
  have hnil : (o.bk.map bkCells).flatten = [] := by
   cases hbk : o.bk with
   | nil => rfl
   | cons a l => rw [hbk] at hz; cases hz
  rw [hnil, List.nil_append] at hF2
  simp only [clH, clA, clC] at hO ⊢
  rw [hz] at hO
  have hcell : (offCells o (some ⟨gF, 0, none⟩) cF none 0)[4]? = some (.slice none 0 0) := by rw [← hz]; rfl
  repeat' (first | ((with_reducible apply oq_lssT); exact rfl; exact rfl; omega) | (apply oq_fn; exact rfl; try first | exact trivial | (and_intros <;> omega)) | ((with_reducible apply oq_load); exact rfl; exact rfl) | ((with_reducible apply oq_call (k := 133) (hc := Try.call133)); exact rfl; exact rfl; exact fun D w1 hw1 => flight_ok bd o _ cF (clA none) (clC none) w1 (desk_of (x := some (gF, cF)) (y := none) hw1 (by (repeat (first | exact HpSub.refl _ | (apply HpSub.consE; (repeat (first | exact P0 | apply P1 | apply PA)); exact rfl) | apply HpSub.skipX | apply HpSub.skipX | exact HpSub.nil))) (fun h => by cases h) hyn) (by omega) gF 0 rfl i d hi h0) | ((with_reducible apply oq_call (k := 106) (hc := Try.call106)); exact rfl; exact rfl; exact fun D w1 hw1 => must_ok _ w1) | ((with_reducible apply oq_build); (iterate 3 exact rfl)) | (with_reducible apply tl_nil) | ((with_reducible apply u_s); (iterate 3 exact rfl); (with_reducible apply os_callM (PV := fun v H => v = .tuple #[] ∧ H = deskH bd (givenV o2 i) (some (gF, cF)) (some (gN, cN))) (G := deskH bd o2 (some (gF, cF)) (some (gN, cN))) (R := []) (k := 134) (hc := Try.call134)); exact rfl; exact rfl; (focus (unfold deskH flH bkH; simp only [clH_some, clA_some, clC_some, List.nil_append, List.cons_append, List.append_nil, hF2, hfl2]; (repeat (first | exact HpSub.refl _ | (apply HpSub.consE; (repeat (first | exact P0 | apply P1 | apply PA)); exact rfl) | apply HpSub.skipX | apply HpSub.skipX | exact HpSub.nil)))); exact (fun D w1 hw1 hwG => give_T bd o2 (some (gF, cF)) (some (gN, cN)) (fun h => by cases h) (fun h => by cases h) w1 hwG hb2 i d hi2 ⟨hdd.1, by omega⟩); rintro v H1 ⟨rfl, rfl⟩; (try simp only [List.append_nil])) | ((with_reducible apply u_q); (iterate 4 exact rfl)) | ((with_reducible apply u_s); (iterate 3 exact rfl)) | (with_reducible apply v_nil) | ((with_reducible apply v_q); (iterate 3 exact rfl)) | ((with_reducible apply os_storeB (hC := (hO _ _))); (iterate 4 exact rfl); (repeat (first | exact P0 | apply P1 | apply PA)); exact Nat.le_of_ble_eq_true rfl) | ((with_reducible apply os_storeB (hC := (hO2 _ _))); (iterate 4 exact rfl); (repeat (first | exact P0 | apply P1 | apply PA)); exact Nat.le_of_ble_eq_true rfl) | ((with_reducible apply os_x); exact rfl) | ((with_reducible apply os_appendNil (hk := app_ok23)); exact rfl; exact rfl) | ((with_reducible apply ox_boxAgg); exact rfl; intro _) | ((with_reducible apply ox_buildSlice); (iterate 4 exact rfl)) | ((with_reducible apply ai_q); (iterate 5 exact rfl)) | ((with_reducible apply ai_x); (iterate 5 exact rfl)) | ((with_reducible apply ai_s0); (iterate 4 exact rfl)) | ((with_reducible apply ai_s); (iterate 5 exact rfl)) | (apply Rd.own; (repeat (first | exact P0 | apply P1 | apply PA)); first | exact hcell | exact r0 | exact r1 | exact r2 | exact r3; done) | (apply Rd.own; (repeat (first | exact P0 | apply P1 | apply PA)); exact rfl; done) | (apply t_mix (id := 3) [1, 2, 3, 4, 5, 6, 7, 8] 7 #[false, false, false, false, false, false, false, false, false, false, true, false, false, false, true]; kernel_rfl; kernel_rfl; exact rfl) | (apply t_mix (id := 4) [0, 1, 2, 3, 4, 5, 6, 7, 8, 9, 10, 11, 12] 1 #[false, false, false, false, false, false, false, false, false, false, false, false, false, true]; kernel_rfl; kernel_rfl; exact rfl) | (with_reducible apply t_seq) | (apply t_region; kernel_rfl) | with_reducible apply q_thenN | exact Rdn.zero | apply Rdn.succ | ((with_reducible apply Norm.nil); exact rfl) | ((with_reducible apply Norm.cons); exact rfl) | (with_reducible apply end_normal) | exact rvs_nil | (apply al_done; decide +kernel) | (apply al_one 0; decide +kernel) | (apply al_one 9; decide +kernel) | (apply al_one 10; decide +kernel) | (apply al_one 11; decide +kernel) | (apply al_one 12; decide +kernel) | (apply al_one 13; decide +kernel) | (apply al_one 14; decide +kernel) | (apply al_two 0 9; decide +kernel) | (apply al_two 0 10; decide +kernel) | (intro gN cN; with_reducible apply al_id) | exact Nat.le_of_ble_eq_true rfl | exact (rfl : (_ : Bool) = true) | (intro _; with_reducible apply al_id))
  all_goals exact ⟨rfl, some (gF, cF), some (gN, cN), (fun h => by cases h), (fun h => by cases h), HpSub.refl _⟩
 ·simp only [clH_some, clA_some, clC_some] at hO ⊢
  have hcell : True := trivial
  repeat' (first | ((with_reducible apply oq_lssT); exact rfl; exact rfl; omega) | (apply oq_fn; exact rfl; try first | exact trivial | (and_intros <;> omega)) | ((with_reducible apply oq_load); exact rfl; exact rfl) | ((with_reducible apply oq_call (k := 133) (hc := Try.call133)); exact rfl; exact rfl; exact fun D w1 hw1 => flight_ok bd o _ cF (clA (some (gB, cB))) (clC (some (gB, cB))) w1 (desk_of (x := some (gF, cF)) (y := (some (gB, cB))) hw1 (by (repeat (first | exact HpSub.refl _ | (apply HpSub.consE; (repeat (first | exact P0 | apply P1 | apply PA)); exact rfl) | apply HpSub.skipX | apply HpSub.skipX | exact HpSub.nil))) (fun h => by cases h) hyn) (by omega) gF 0 rfl i d hi h0) | ((with_reducible apply oq_call (k := 106) (hc := Try.call106)); exact rfl; exact rfl; exact fun D w1 hw1 => must_ok _ w1) | ((with_reducible apply oq_build); (iterate 3 exact rfl)) | (with_reducible apply tl_nil) | ((with_reducible apply u_s); (iterate 3 exact rfl); (with_reducible apply os_callM (PV := fun v H => v = .tuple #[] ∧ H = deskH bd (givenV o2 i) (some (gF, cF)) (some (gN, cN))) (G := deskH bd o2 (some (gF, cF)) (some (gN, cN))) (R := []) (k := 134) (hc := Try.call134)); exact rfl; exact rfl; (focus (unfold deskH flH bkH; simp only [clH_some, clA_some, clC_some, List.nil_append, List.cons_append, List.append_nil, hF2, hfl2]; (repeat (first | exact HpSub.refl _ | (apply HpSub.consE; (repeat (first | exact P0 | apply P1 | apply PA)); exact rfl) | apply HpSub.skipX | apply HpSub.skipX | exact HpSub.nil)))); exact (fun D w1 hw1 hwG => give_T bd o2 (some (gF, cF)) (some (gN, cN)) (fun h => by cases h) (fun h => by cases h) w1 hwG hb2 i d hi2 ⟨hdd.1, by omega⟩); rintro v H1 ⟨rfl, rfl⟩; (try simp only [List.append_nil])) | ((with_reducible apply u_q); (iterate 4 exact rfl)) | ((with_reducible apply u_s); (iterate 3 exact rfl)) | (with_reducible apply v_nil) | ((with_reducible apply v_q); (iterate 3 exact rfl)) | ((with_reducible apply os_storeB (hC := (hO _ _))); (iterate 4 exact rfl); (repeat (first | exact P0 | apply P1 | apply PA)); exact Nat.le_of_ble_eq_true rfl) | ((with_reducible apply os_storeB (hC := (hO2 _ _))); (iterate 4 exact rfl); (repeat (first | exact P0 | apply P1 | apply PA)); exact Nat.le_of_ble_eq_true rfl) | ((with_reducible apply os_x); exact rfl) | ((with_reducible apply os_append (hk := app_ok23)); exact rfl; exact rfl; (repeat (first | exact P0 | apply P1 | apply PA))) | ((with_reducible apply ox_boxAgg); exact rfl; intro _) | ((with_reducible apply ox_buildSlice); (iterate 4 exact rfl)) | ((with_reducible apply ai_q); (iterate 5 exact rfl)) | ((with_reducible apply ai_x); (iterate 5 exact rfl)) | ((with_reducible apply ai_s0); (iterate 4 exact rfl)) | ((with_reducible apply ai_s); (iterate 5 exact rfl)) | (apply Rd.own; (repeat (first | exact P0 | apply P1 | apply PA)); first | exact hcell | exact r0 | exact r1 | exact r2 | exact r3; done) | (apply Rd.own; (repeat (first | exact P0 | apply P1 | apply PA)); exact rfl; done) | (apply t_mix (id := 3) [1, 2, 3, 4, 5, 6, 7, 8] 7 #[false, false, false, false, false, false, false, false, false, false, true, false, false, false, true]; kernel_rfl; kernel_rfl; exact rfl) | (apply t_mix (id := 4) [0, 1, 2, 3, 4, 5, 6, 7, 8, 9, 10, 11, 12] 1 #[false, false, false, false, false, false, false, false, false, false, false, false, false, true]; kernel_rfl; kernel_rfl; exact rfl) | (with_reducible apply t_seq) | (apply t_region; kernel_rfl) | with_reducible apply q_thenN | exact Rdn.zero | apply Rdn.succ | ((with_reducible apply Norm.nil); exact rfl) | ((with_reducible apply Norm.cons); exact rfl) | (with_reducible apply end_normal) | exact rvs_nil | (apply al_done; decide +kernel) | (apply al_one 0; decide +kernel) | (apply al_one 9; decide +kernel) | (apply al_one 10; decide +kernel) | (apply al_one 11; decide +kernel) | (apply al_one 12; decide +kernel) | (apply al_one 13; decide +kernel) | (apply al_one 14; decide +kernel) | (apply al_two 0 9; decide +kernel) | (apply al_two 0 10; decide +kernel) | (intro gN cN; with_reducible apply al_id) | exact hFL | exact Nat.le_of_ble_eq_true rfl | exact (rfl : (_ : Bool) = true) | omega | (intro _; with_reducible apply al_id))
  all_goals exact ⟨rfl, some (gF, cF), some (gN, cN), (fun h => by cases h), (fun h => by cases h), HpSub.refl _⟩
theorem seats_T (bd : Nat) (o : Off) (x y : Option (Nat × Nat)) (hxn : x = none → o.fl.length = 0) (hyn : y = none → o.bk.length = 0) (hv : OkO o) (w : World) (hw : Has w ⟨(deskH bd o x y).map Prod.fst, []⟩ (deskH bd o x y) w) (dk dn ds dp dl : Int) (hO1 : openE o dn = 0) (hs : 0 ≤ ds ∧ ds ≤ 50) (h2 : manyV o.bk dn 1 ≤ ds) : Calls Try.prog 129 #[.pointer (some ⟨bd, 0, none⟩), .agg ⟨[.int .u8 dk, .int .i64 dn, .int .i64 ds, .int .i64 dp, .int .i64 dl]⟩] w fun e w' => ∃ v H', e = .returned v ∧ DV bd (seatsV o ⟨dk, dn, ds, dp, dl⟩) v H' ∧ Has w ⟨(deskH bd o x y).map Prod.fst, []⟩ H' w' := by
 obtain ⟨i, d, rfl, hi, h0⟩ := openE_ok hO1
 have hil := (List.getElem?_eq_some_iff.1 hi).1
 rcases x with _ | ⟨gF, cF⟩
 ·exact absurd (hxn rfl) (by omega)
 have hdd := hv.dep hi
 have hnb := hv.nb
 have hnf := hv.nf
 have hdep : depAt o (i : Int) = d := by unfold depAt; rw [Int.toNat_natCast, hi]
 obtain ⟨o2, ho2⟩ : ∃ o2 : Off, { o with fl := o.fl.set i ⟨ds, d.price, d.leaves, d.state⟩ } = o2 := ⟨_, rfl⟩
 have hsv : seatsV o ⟨dk, (i : Int), ds, dp, dl⟩ = givenV o2 i := by unfold seatsV; simp only [hdep, Int.toNat_natCast, ho2]
 rw [hsv]
 have hi2 : o2.fl[i]? = some ⟨ds, d.price, d.leaves, d.state⟩ := by rw [← ho2]; simp [hil]
 have hbk2 : o2.bk = o.bk := by rw [← ho2]
 have hb2 : o2.bk.length ≤ 1000 := by rw [hbk2]; omega
 have hyn2 : y = none → o2.bk.length = 0 := by rw [hbk2]; exact hyn
 have hs2 : 0 ≤ (⟨ds, d.price, d.leaves, d.state⟩ : Dep).seats ∧ (⟨ds, d.price, d.leaves, d.state⟩ : Dep).seats ≤ 100000 := ⟨hs.1, Int.le_trans hs.2 (by decide)⟩
 have hoc : ∀ A cf B cb, offCells o2 A cf B cb = offCells o A cf B cb := fun A cf B cb => by rw [← ho2]; exact offCells_len (o := o) (o' := { o with fl := o.fl.set i ⟨ds, d.price, d.leaves, d.state⟩ }) rfl rfl rfl rfl rfl (List.length_set ..) rfl A cf B cb
 have hS1 := dep_set0 hi ds
 have hS2 : (o2.fl.map depCells).flatten = ((o.fl.set i ⟨ds, d.price, d.leaves, d.state⟩).map depCells).flatten := by rw [← ho2]
 rw [← hS2] at hS1
 have room1 : 0 + i * 4 + 1 ≤ ((o.fl.map depCells).flatten).length := by have := dep_room hi; omega
 have hq := allFrom_t (lo := 0) (hi := 50) (z := ds) hs
 have hcnt : ((cntV (mtB (i : Int) [1]) o.bk : Nat) : Int) ≤ ds := by rw [mt_many]; exact h2
 obtain ⟨M, hM⟩ : ∃ M, (deskH bd o (some (gF, cF)) y).map Prod.fst = M := ⟨_, rfl⟩
 rw [hM] at hw ⊢
 refine ds_dv (enter (c := cxM M w 32) (H := deskH bd o (some (gF, cF)) y) (F := frOf 0 _) Try.func129 rfl rfl rfl (fun d v hv => (look_frOf _ 0 d v hv).2) hw ?_)
 unfold deskH flH bkH
 simp only [clH_some, clA_some, clC_some, List.nil_append, List.cons_append]
 repeat' (first | ((with_reducible apply oq_leqT); exact rfl; exact rfl; omega) | (apply oq_fn; exact rfl; try first | exact trivial | (and_intros <;> omega)) | ((with_reducible apply oq_load); exact rfl; exact rfl) | ((with_reducible apply oq_call (k := 133) (hc := Try.call133)); exact rfl; exact rfl; exact fun D w1 hw1 => flight_ok bd o _ cF (clA y) (clC y) w1 (desk_of (x := some (gF, cF)) (y := y) hw1 (by (repeat (first | exact HpSub.refl _ | (apply HpSub.consE; (repeat (first | exact P0 | apply P1 | apply PA)); exact rfl) | apply HpSub.skipX | apply HpSub.skipX | exact HpSub.nil))) (fun h => by cases h) hyn) (by omega) gF 0 rfl i d hi h0) | ((with_reducible apply oq_call (k := 106) (hc := Try.call106)); exact rfl; exact rfl; exact fun D w1 hw1 => must_ok _ w1) | ((with_reducible apply oq_call (k := 63) (hc := Try.call63)); exact rfl; exact rfl; exact fun D w1 hw1 => fromOne hq hw1 (by (repeat (first | exact P0 | apply P1 | apply PA)))) | ((with_reducible apply oq_call (k := 64) (hc := Try.call64)); exact rfl; exact rfl; exact fun D w1 hw1 => count_calls bd o (some ⟨gF, 0, none⟩) cF (clA y) (clC y) w1 (desk_of (x := some (gF, cF)) (y := y) hw1 (by (repeat (first | exact HpSub.refl _ | (apply HpSub.consE; (repeat (first | exact P0 | apply P1 | apply PA)); exact rfl) | apply HpSub.skipX | apply HpSub.skipX | exact HpSub.nil))) (fun h => by cases h) hyn) (by omega) (i : Int) (some ⟨_, 0, none⟩) 1 _ [1] (one8 hw1 (by (repeat (first | exact P0 | apply P1 | apply PA)))) (by omega)) | (with_reducible apply tl_nil) | ((with_reducible apply u_s); (iterate 3 exact rfl); (with_reducible apply os_callM (PV := fun v H => v = .tuple #[] ∧ H = deskH bd (givenV o2 i) (some (gF, cF)) y) (G := deskH bd o2 (some (gF, cF)) y) (R := []) (k := 134) (hc := Try.call134)); exact rfl; exact rfl; (focus (unfold deskH flH bkH; simp only [clH_some, clA_some, clC_some, List.nil_append, List.cons_append, List.append_nil, hbk2, hoc]; (rcases y with _ | ⟨gB, cB⟩ <;> simp only [clH, clA, clC, List.nil_append, List.cons_append, List.append_nil]) <;> (repeat (first | exact HpSub.refl _ | (apply HpSub.consE; (repeat (first | exact P0 | apply P1 | apply PA)); exact rfl) | apply HpSub.skipX | apply HpSub.skipX | exact HpSub.nil)))); exact (fun D w1 hw1 hwG => give_T bd o2 (some (gF, cF)) y (fun h => by cases h) hyn2 w1 hwG hb2 i _ hi2 hs2); rintro v H1 ⟨rfl, rfl⟩; (try simp only [List.append_nil])) | ((with_reducible apply u_q); (iterate 4 exact rfl)) | ((with_reducible apply u_s0); exact rfl; exact rfl) | ((with_reducible apply u_s); (iterate 3 exact rfl)) | (with_reducible apply v_nil) | ((with_reducible apply v_q); (iterate 3 exact rfl)) | ((with_reducible apply os_storeB (hC := hS1)); (iterate 4 exact rfl); (repeat (first | exact P0 | apply P1 | apply PA)); exact room1) | ((with_reducible apply os_x); exact rfl) | ((with_reducible apply ox_boxAgg); exact rfl; intro _) | ((with_reducible apply ox_buildSlice1); (iterate 6 exact rfl); intro _) | ((with_reducible apply ai_q); (iterate 5 exact rfl)) | ((with_reducible apply ai_x); (iterate 5 exact rfl)) | (apply Rd.own; (repeat (first | exact P0 | apply P1 | apply PA)); exact rfl; done) | (apply t_mix (id := 3) [0, 1, 2, 5, 6] 4 #[false, false, false, false, false, false, false, false, false]; kernel_rfl; kernel_rfl; exact rfl) | (with_reducible apply t_seq) | (apply t_region; kernel_rfl) | with_reducible apply q_thenN | (with_reducible apply end_normal) | exact rvs_nil | (apply al_done; decide +kernel) | (apply al_one 3; decide +kernel) | (apply al_one 4; decide +kernel) | (apply al_one 7; decide +kernel) | (apply al_one 8; decide +kernel))
 all_goals exact ⟨rfl, some (gF, cF), y, (fun h => by cases h), (fun h => by rw [← hyn2 h]; exact giveL_length _ _ _), HpSub.refl _⟩
theorem cancel_T (bd : Nat) (o : Off) (x y : Option (Nat × Nat)) (hxn : x = none → o.fl.length = 0) (hyn : y = none → o.bk.length = 0) (hv : OkO o) (w : World) (hw : Has w ⟨(deskH bd o x y).map Prod.fst, []⟩ (deskH bd o x y) w) (dk dn ds dp dl : Int) (hin : 0 ≤ dn ∧ dn < (o.bk.length : Int)) (hst : (bkAt o dn).state = 1 ∨ (bkAt o dn).state = 2) : Calls Try.prog 125 #[.pointer (some ⟨bd, 0, none⟩), .agg ⟨[.int .u8 dk, .int .i64 dn, .int .i64 ds, .int .i64 dp, .int .i64 dl]⟩] w fun e w' => ∃ v H', e = .returned v ∧ DV bd (cancelV o dn) v H' ∧ Has w ⟨(deskH bd o x y).map Prod.fst, []⟩ H' w' := by
 obtain ⟨j, rfl⟩ : ∃ j : Nat, dn = (j : Int) := ⟨dn.toNat, by omega⟩
 have hjl : j < o.bk.length := by omega
 rcases y with _ | ⟨gB, cB⟩
 ·exact absurd (hyn rfl) (by omega)
 obtain ⟨b, hb⟩ : ∃ b, o.bk[j]? = some b := ⟨_, List.getElem?_eq_getElem hjl⟩
 have hbat : bkAt o (j : Int) = b := by unfold bkAt; rw [Int.toNat_natCast, hb]
 rw [hbat] at hst
 have hbk := hv.bks b (List.mem_of_getElem? hb)
 obtain ⟨i, hbi⟩ : ∃ i : Nat, b.flight = (i : Int) := ⟨b.flight.toNat, by omega⟩
 have hil : i < o.fl.length := by omega
 obtain ⟨d, hi⟩ : ∃ d, o.fl[i]? = some d := ⟨_, List.getElem?_eq_getElem hil⟩
 rcases x with _ | ⟨gF, cF⟩
 ·exact absurd (hxn rfl) (by omega)
 have hdd := hv.dep hi
 have hnb := hv.nb
 have hnf := hv.nf
 have hnow := hv.now
 have hnot := hv.notice
 have hout := hv.out
 have hfe := fee_in ⟨hdd.2.2.1, hdd.2.2.2.1⟩ hv.fee
 have hdep : depAt o (i : Int) = d := by unfold depAt; rw [Int.toNat_natCast, hi]
 obtain ⟨kp, hkp⟩ : ∃ kp, keptV o d b = kp := ⟨_, rfl⟩
 have hkb : 0 ≤ kp ∧ kp ≤ 1000000 := by
  rw [← hkp]; unfold keptV
  split <;> omega
 obtain ⟨o2, ho2⟩ : ∃ o2 : Off, { o with bk := o.bk.set j ⟨(i : Int), 4, kp⟩, out := o.out + (d.price - kp) } = o2 := ⟨_, rfl⟩
 have hsv : cancelV o (j : Int) = givenV o2 i := by
  unfold cancelV paidB
  simp only [hbat, hbi, hdep, hkp, Int.toNat_natCast, ho2]
 rw [hsv]
 have hfl2 : o2.fl = o.fl := by rw [← ho2]
 have hi2 : o2.fl[i]? = some d := by rw [hfl2]; exact hi
 have hlen2 : o2.bk.length = o.bk.length := by rw [← ho2]; exact List.length_set ..
 have hb2 : o2.bk.length ≤ 1000 := by omega
 have hbk2 : (o2.fl.map depCells).flatten = (o.fl.map depCells).flatten := by rw [hfl2]
 have hoc : True := trivial
 obtain ⟨r0, r1, r2, r3⟩ := dep_at hi
 obtain ⟨q0, q1, q2⟩ := bk_at hb
 rw [hbi] at q0
 have hu : o2.bk[j]? = some ⟨(i : Int), 4, kp⟩ := by rw [← ho2]; simp [hjl]
 have u0 := (bk_at hu).1
 simp only at u0
 have hcd : ∀ A cf B cb, offCells { o with out := o.out + (d.price - kp) } A cf B cb = offCells o2 A cf B cb := fun A cf B cb => (by rw [← ho2]; exact (offCells_len (o := { o with out := o.out + (d.price - kp) }) (o' := { o with bk := o.bk.set j ⟨(i : Int), 4, kp⟩, out := o.out + (d.price - kp) }) rfl rfl rfl rfl rfl rfl (List.length_set ..) A cf B cb).symm)
 have HRP := fun w1 hwG hp hm => repay_T bd gB cB gF 0 cF i j o (some (135, 7, 1)) (some (71, 3, cB)) d.price kp o.bk b w1 hwG hb hbi hil hp hm hout ⟨hdd.2.2.1, hdd.2.2.2.1⟩ hkb
 have hbs : (o.bk.set j ⟨b.flight, 4, kp⟩) = o2.bk := by rw [← ho2, hbi]
 simp only [hcd, hbs] at HRP
 have hq := allFrom_t (lo := 0) (hi := (o.bk.length : Int) - 1) (z := (j : Int)) ⟨by omega, by omega⟩
 obtain ⟨M, hM⟩ : ∃ M, (deskH bd o (some (gF, cF)) (some (gB, cB))).map Prod.fst = M := ⟨_, rfl⟩
 rw [hM] at hw ⊢
 refine ds_dv (enter (c := cxM M w 86) (H := deskH bd o (some (gF, cF)) (some (gB, cB))) (F := frOf 0 _) Try.func125 rfl rfl rfl (fun d v hv => (look_frOf _ 0 d v hv).2) hw ?_)
 unfold deskH flH bkH
 simp only [clH_some, clA_some, clC_some, List.nil_append, List.cons_append]
 by_cases hs1 : b.state = 1
 ·by_cases hlate : d.leaves - o.now < o.notice
  ·have hkv : feeV d.price o.fee = kp := by rw [← hkp]; unfold keptV; rw [if_pos ⟨hs1, hlate⟩]
   rw [hkv] at hfe
   have HFE := fun w1 hD1 => deskFee_calls bd o (some ⟨gF, 0, none⟩) cF (some ⟨gB, 0, none⟩) cB w1 hD1 hv.deps hv.fee i d hi
   rw [hkv] at HFE
   repeat' (first | (focus ((with_reducible apply oq_indexAddrN); (iterate 4 exact rfl); omega)) | ((with_reducible apply oq_eqlT); exact rfl; exact rfl; omega) | ((with_reducible apply oq_lssT); exact rfl; exact rfl; omega) | (apply oq_fn; exact rfl; try first | exact trivial | (and_intros <;> omega)) | ((with_reducible apply oq_load); exact rfl; exact rfl) | ((with_reducible apply oq_call (k := 63) (hc := Try.call63)); exact rfl; exact rfl; exact fun D w1 hw1 => fromOne hq hw1 (by (repeat (first | exact P0 | apply P1 | apply PA)))) | ((with_reducible apply oq_call (k := 106) (hc := Try.call106)); exact rfl; exact rfl; exact fun D w1 hw1 => must_ok _ w1) | ((with_reducible apply oq_call (k := 118) (hc := Try.call118)); exact rfl; exact rfl; exact fun D w1 hw1 => HFE w1 (desk_of (x := some (gF, cF)) (y := some (gB, cB)) hw1 (by (repeat (first | exact HpSub.refl _ | (apply HpSub.consE; (repeat (first | exact P0 | apply P1 | apply PA)); exact rfl) | apply HpSub.skipX | apply HpSub.skipX | exact HpSub.nil))) (fun h => by cases h) (fun h => by cases h))) | (with_reducible apply tl_nil) | ((with_reducible apply u_s); (iterate 3 exact rfl); (with_reducible apply os_callM (PV := fun v H => v = .tuple #[] ∧ H = [(bd, offCells o2 (some ⟨gF, 0, none⟩) cF (some ⟨gB, 0, none⟩) cB, some (135, 7, 1)), (gB, (o2.bk.map bkCells).flatten, some (71, 3, cB))]) (G := [(bd, offCells o (some ⟨gF, 0, none⟩) cF (some ⟨gB, 0, none⟩) cB, some (135, 7, 1)), (gB, (o.bk.map bkCells).flatten, some (71, 3, cB))]) (R := [(gF, (o.fl.map depCells).flatten, some (106, 4, cF))]) (k := 135) (hc := Try.call135)); exact rfl; exact rfl; (focus (simp only [List.nil_append, List.cons_append]; (repeat (first | exact HpSub.refl _ | (apply HpSub.consE; (repeat (first | exact P0 | apply P1 | apply PA)); exact rfl) | apply HpSub.skipX | apply HpSub.skipX | exact HpSub.nil)))); exact (fun D w1 hw1 hwG => HRP w1 hwG (hw1.cellAt (by (repeat (first | exact P0 | apply P1 | apply PA))) r1) (List.nodup_cons.1 ((hw1.sub (show HpSub _ ((gF, (o.fl.map depCells).flatten, some (106, 4, cF)) :: [(bd, offCells o (some ⟨gF, 0, none⟩) cF (some ⟨gB, 0, none⟩) cB, some (135, 7, 1)), (gB, (o.bk.map bkCells).flatten, some (71, 3, cB))]) from (by (repeat (first | exact HpSub.refl _ | (apply HpSub.consE; (repeat (first | exact P0 | apply P1 | apply PA)); exact rfl) | apply HpSub.skipX | apply HpSub.skipX | exact HpSub.nil))))).nodup)).1); rintro v H1 ⟨rfl, rfl⟩; (try simp only [List.nil_append, List.cons_append])) | ((with_reducible apply u_s); (iterate 3 exact rfl); (with_reducible apply os_callM (PV := fun v H => v = .tuple #[] ∧ H = deskH bd (givenV o2 i) (some (gF, cF)) (some (gB, cB))) (G := deskH bd o2 (some (gF, cF)) (some (gB, cB))) (R := []) (k := 134) (hc := Try.call134)); exact rfl; exact rfl; (focus (unfold deskH flH bkH; simp only [clH_some, clA_some, clC_some, List.nil_append, List.cons_append, List.append_nil, hbk2, hoc]; (repeat (first | exact HpSub.refl _ | (apply HpSub.consE; (repeat (first | exact P0 | apply P1 | apply PA)); exact rfl) | apply HpSub.skipX | apply HpSub.skipX | exact HpSub.nil)))); exact (fun D w1 hw1 hwG => give_T bd o2 (some (gF, cF)) (some (gB, cB)) (fun h => by cases h) (fun h => by cases h) w1 hwG hb2 i d hi2 ⟨hdd.1, by omega⟩); rintro v H1 ⟨rfl, rfl⟩; (try simp only [List.append_nil])) | ((with_reducible apply u_q); (iterate 4 exact rfl)) | ((with_reducible apply u_s); (iterate 3 exact rfl)) | ((with_reducible apply u_skip); (iterate 3 exact rfl)) | (with_reducible apply v_nil) | ((with_reducible apply v_q); (iterate 3 exact rfl)) | ((with_reducible apply os_x); exact rfl) | ((with_reducible apply ox_boxAgg); exact rfl; intro _) | ((with_reducible apply ox_buildSlice1); (iterate 6 exact rfl); intro _) | ((with_reducible apply ai_q); (iterate 5 exact rfl)) | ((with_reducible apply ai_x); (iterate 5 exact rfl)) | (apply Rd.own; (repeat (first | exact P0 | apply P1 | apply PA)); first | exact r0 | exact r1 | exact r2 | exact r3 | exact q0 | exact q1 | exact q2 | exact u0; done) | (apply Rd.own; (repeat (first | exact P0 | apply P1 | apply PA)); exact rfl; done) | (apply t_mix (id := 1) [0, 1, 2, 3, 4, 5, 6, 7, 8] 3 #[false, false, false, false, false, false, false, false, false, false, false, false]; kernel_rfl; kernel_rfl; exact rfl) | (apply t_mix (id := 5) [0, 1, 2, 3, 4, 5, 6, 7, 8, 9, 10, 11, 12, 13, 14, 15, 16, 17, 18, 19, 20, 21, 22, 23, 24, 25, 26, 27, 28, 29, 30] 0 #[false, false, false, false, false, false, false, false, false, false, false, false, false, false, false, false, false, false, false, false, false, false, false, false, false, false, false, false, false, false, false]; kernel_rfl; kernel_rfl; exact rfl) | (with_reducible apply t_seq) | (apply t_region; kernel_rfl) | (apply t_drawn; kernel_rfl; decide +kernel; try simp only [List.append_eq, List.cons_append, List.nil_append]) | ((with_reducible apply t_condT); exact rfl) | with_reducible apply q_thenN | (with_reducible apply end_normal) | exact rvs_nil | (apply al_done; decide +kernel) | (apply al_one 9; decide +kernel) | (apply al_one 10; decide +kernel) | (apply al_one 11; decide +kernel))
   all_goals exact ⟨rfl, some (gF, cF), some (gB, cB), (fun h => by cases h), (fun h => by cases h), HpSub.refl _⟩
  ·have hkv : (0 : Int) = kp := by rw [← hkp]; unfold keptV; rw [if_neg (fun h => hlate h.2)]
   subst hkv
   repeat' (first | (focus ((with_reducible apply oq_indexAddrN); (iterate 4 exact rfl); omega)) | ((with_reducible apply oq_eqlT); exact rfl; exact rfl; omega) | ((with_reducible apply oq_lssF); exact rfl; exact rfl; omega) | (apply oq_fn; exact rfl; try first | exact trivial | (and_intros <;> omega)) | ((with_reducible apply oq_load); exact rfl; exact rfl) | ((with_reducible apply oq_call (k := 63) (hc := Try.call63)); exact rfl; exact rfl; exact fun D w1 hw1 => fromOne hq hw1 (by (repeat (first | exact P0 | apply P1 | apply PA)))) | ((with_reducible apply oq_call (k := 106) (hc := Try.call106)); exact rfl; exact rfl; exact fun D w1 hw1 => must_ok _ w1) | (with_reducible apply tl_nil) | ((with_reducible apply u_s); (iterate 3 exact rfl); (with_reducible apply os_callM (PV := fun v H => v = .tuple #[] ∧ H = [(bd, offCells o2 (some ⟨gF, 0, none⟩) cF (some ⟨gB, 0, none⟩) cB, some (135, 7, 1)), (gB, (o2.bk.map bkCells).flatten, some (71, 3, cB))]) (G := [(bd, offCells o (some ⟨gF, 0, none⟩) cF (some ⟨gB, 0, none⟩) cB, some (135, 7, 1)), (gB, (o.bk.map bkCells).flatten, some (71, 3, cB))]) (R := [(gF, (o.fl.map depCells).flatten, some (106, 4, cF))]) (k := 135) (hc := Try.call135)); exact rfl; exact rfl; (focus (simp only [List.nil_append, List.cons_append]; (repeat (first | exact HpSub.refl _ | (apply HpSub.consE; (repeat (first | exact P0 | apply P1 | apply PA)); exact rfl) | apply HpSub.skipX | apply HpSub.skipX | exact HpSub.nil)))); exact (fun D w1 hw1 hwG => HRP w1 hwG (hw1.cellAt (by (repeat (first | exact P0 | apply P1 | apply PA))) r1) (List.nodup_cons.1 ((hw1.sub (show HpSub _ ((gF, (o.fl.map depCells).flatten, some (106, 4, cF)) :: [(bd, offCells o (some ⟨gF, 0, none⟩) cF (some ⟨gB, 0, none⟩) cB, some (135, 7, 1)), (gB, (o.bk.map bkCells).flatten, some (71, 3, cB))]) from (by (repeat (first | exact HpSub.refl _ | (apply HpSub.consE; (repeat (first | exact P0 | apply P1 | apply PA)); exact rfl) | apply HpSub.skipX | apply HpSub.skipX | exact HpSub.nil))))).nodup)).1); rintro v H1 ⟨rfl, rfl⟩; (try simp only [List.nil_append, List.cons_append])) | ((with_reducible apply u_s); (iterate 3 exact rfl); (with_reducible apply os_callM (PV := fun v H => v = .tuple #[] ∧ H = deskH bd (givenV o2 i) (some (gF, cF)) (some (gB, cB))) (G := deskH bd o2 (some (gF, cF)) (some (gB, cB))) (R := []) (k := 134) (hc := Try.call134)); exact rfl; exact rfl; (focus (unfold deskH flH bkH; simp only [clH_some, clA_some, clC_some, List.nil_append, List.cons_append, List.append_nil, hbk2, hoc]; (repeat (first | exact HpSub.refl _ | (apply HpSub.consE; (repeat (first | exact P0 | apply P1 | apply PA)); exact rfl) | apply HpSub.skipX | apply HpSub.skipX | exact HpSub.nil)))); exact (fun D w1 hw1 hwG => give_T bd o2 (some (gF, cF)) (some (gB, cB)) (fun h => by cases h) (fun h => by cases h) w1 hwG hb2 i d hi2 ⟨hdd.1, by omega⟩); rintro v H1 ⟨rfl, rfl⟩; (try simp only [List.append_nil])) | ((with_reducible apply u_q); (iterate 4 exact rfl)) | ((with_reducible apply u_s); (iterate 3 exact rfl)) | ((with_reducible apply u_skip); (iterate 3 exact rfl)) | (with_reducible apply v_nil) | ((with_reducible apply v_q); (iterate 3 exact rfl)) | ((with_reducible apply os_x); exact rfl) | ((with_reducible apply ox_boxAgg); exact rfl; intro _) | ((with_reducible apply ox_buildSlice1); (iterate 6 exact rfl); intro _) | ((with_reducible apply ai_q); (iterate 5 exact rfl)) | ((with_reducible apply ai_x); (iterate 5 exact rfl)) | (apply Rd.own; (repeat (first | exact P0 | apply P1 | apply PA)); first | exact r0 | exact r1 | exact r2 | exact r3 | exact q0 | exact q1 | exact q2 | exact u0; done) | (apply Rd.own; (repeat (first | exact P0 | apply P1 | apply PA)); exact rfl; done) | (apply t_mix (id := 1) [0, 1, 2, 3, 4, 5, 6, 7, 8] 3 #[false, false, false, false, false, false, false, false, false, false, false, false]; kernel_rfl; kernel_rfl; exact rfl) | (apply t_mix (id := 5) [0, 1, 2, 3, 4, 5, 6, 7, 8, 9, 10, 11, 12, 13, 14, 15, 16, 17, 18, 19, 20, 21, 22, 23, 24, 25, 26, 27, 28, 29, 30] 0 #[false, false, false, false, false, false, false, false, false, false, false, false, false, false, false, false, false, false, false, false, false, false, false, false, false, false, false, false, false, false, false]; kernel_rfl; kernel_rfl; exact rfl) | (with_reducible apply t_seq) | (apply t_region; kernel_rfl) | (apply t_drawn; kernel_rfl; decide +kernel; try simp only [List.append_eq, List.cons_append, List.nil_append]) | ((with_reducible apply t_condF); exact rfl) | (with_reducible apply t_skip) | with_reducible apply q_thenN | (with_reducible apply end_normal) | exact rvs_nil | (apply al_done; decide +kernel) | (apply al_one 9; decide +kernel) | (apply al_one 10; decide +kernel) | (apply al_one 11; decide +kernel))
   all_goals exact ⟨rfl, some (gF, cF), some (gB, cB), (fun h => by cases h), (fun h => by cases h), HpSub.refl _⟩
 ·have hs2 : b.state = 2 := by omega
  have hkv : (0 : Int) = kp := by rw [← hkp]; unfold keptV; rw [if_neg (fun h => hs1 h.1)]
  subst hkv
  repeat' (first | (focus ((with_reducible apply oq_indexAddrN); (iterate 4 exact rfl); omega)) | ((with_reducible apply oq_eqlT); exact rfl; exact rfl; omega) | ((with_reducible apply oq_eqlF); exact rfl; exact rfl; omega) | (apply oq_fn; exact rfl; try first | exact trivial | (and_intros <;> omega)) | ((with_reducible apply oq_load); exact rfl; exact rfl) | ((with_reducible apply oq_call (k := 63) (hc := Try.call63)); exact rfl; exact rfl; exact fun D w1 hw1 => fromOne hq hw1 (by (repeat (first | exact P0 | apply P1 | apply PA)))) | ((with_reducible apply oq_call (k := 106) (hc := Try.call106)); exact rfl; exact rfl; exact fun D w1 hw1 => must_ok _ w1) | (with_reducible apply tl_nil) | ((with_reducible apply u_s); (iterate 3 exact rfl); (with_reducible apply os_callM (PV := fun v H => v = .tuple #[] ∧ H = [(bd, offCells o2 (some ⟨gF, 0, none⟩) cF (some ⟨gB, 0, none⟩) cB, some (135, 7, 1)), (gB, (o2.bk.map bkCells).flatten, some (71, 3, cB))]) (G := [(bd, offCells o (some ⟨gF, 0, none⟩) cF (some ⟨gB, 0, none⟩) cB, some (135, 7, 1)), (gB, (o.bk.map bkCells).flatten, some (71, 3, cB))]) (R := [(gF, (o.fl.map depCells).flatten, some (106, 4, cF))]) (k := 135) (hc := Try.call135)); exact rfl; exact rfl; (focus (simp only [List.nil_append, List.cons_append]; (repeat (first | exact HpSub.refl _ | (apply HpSub.consE; (repeat (first | exact P0 | apply P1 | apply PA)); exact rfl) | apply HpSub.skipX | apply HpSub.skipX | exact HpSub.nil)))); exact (fun D w1 hw1 hwG => HRP w1 hwG (hw1.cellAt (by (repeat (first | exact P0 | apply P1 | apply PA))) r1) (List.nodup_cons.1 ((hw1.sub (show HpSub _ ((gF, (o.fl.map depCells).flatten, some (106, 4, cF)) :: [(bd, offCells o (some ⟨gF, 0, none⟩) cF (some ⟨gB, 0, none⟩) cB, some (135, 7, 1)), (gB, (o.bk.map bkCells).flatten, some (71, 3, cB))]) from (by (repeat (first | exact HpSub.refl _ | (apply HpSub.consE; (repeat (first | exact P0 | apply P1 | apply PA)); exact rfl) | apply HpSub.skipX | apply HpSub.skipX | exact HpSub.nil))))).nodup)).1); rintro v H1 ⟨rfl, rfl⟩; (try simp only [List.nil_append, List.cons_append])) | ((with_reducible apply u_s); (iterate 3 exact rfl); (with_reducible apply os_callM (PV := fun v H => v = .tuple #[] ∧ H = deskH bd (givenV o2 i) (some (gF, cF)) (some (gB, cB))) (G := deskH bd o2 (some (gF, cF)) (some (gB, cB))) (R := []) (k := 134) (hc := Try.call134)); exact rfl; exact rfl; (focus (unfold deskH flH bkH; simp only [clH_some, clA_some, clC_some, List.nil_append, List.cons_append, List.append_nil, hbk2, hoc]; (repeat (first | exact HpSub.refl _ | (apply HpSub.consE; (repeat (first | exact P0 | apply P1 | apply PA)); exact rfl) | apply HpSub.skipX | apply HpSub.skipX | exact HpSub.nil)))); exact (fun D w1 hw1 hwG => give_T bd o2 (some (gF, cF)) (some (gB, cB)) (fun h => by cases h) (fun h => by cases h) w1 hwG hb2 i d hi2 ⟨hdd.1, by omega⟩); rintro v H1 ⟨rfl, rfl⟩; (try simp only [List.append_nil])) | ((with_reducible apply u_q); (iterate 4 exact rfl)) | ((with_reducible apply u_s); (iterate 3 exact rfl)) | (with_reducible apply v_nil) | ((with_reducible apply v_q); (iterate 3 exact rfl)) | ((with_reducible apply v_skip); (iterate 3 exact rfl)) | ((with_reducible apply os_x); exact rfl) | ((with_reducible apply ox_boxAgg); exact rfl; intro _) | ((with_reducible apply ox_buildSlice1); (iterate 6 exact rfl); intro _) | ((with_reducible apply ai_q); (iterate 5 exact rfl)) | ((with_reducible apply ai_x); (iterate 5 exact rfl)) | (apply Rd.own; (repeat (first | exact P0 | apply P1 | apply PA)); first | exact r0 | exact r1 | exact r2 | exact r3 | exact q0 | exact q1 | exact q2 | exact u0; done) | (apply Rd.own; (repeat (first | exact P0 | apply P1 | apply PA)); exact rfl; done) | (apply t_mix (id := 1) [0, 1, 2, 3, 4, 5, 6, 7, 8] 3 #[false, false, false, false, false, false, false, false, false, false, false, false]; kernel_rfl; kernel_rfl; exact rfl) | (apply t_mix (id := 5) [0, 1, 2, 3, 4, 5, 6, 7, 8, 9, 10, 11, 12, 13, 14, 15, 16, 17, 18, 19, 20, 21, 22, 23, 24, 25, 26, 27, 28, 29, 30] 0 #[false, false, false, false, false, false, false, false, false, false, false, false, false, false, false, false, false, false, false, false, false, false, false, false, false, false, false, false, false, false, false]; kernel_rfl; kernel_rfl; exact rfl) | (with_reducible apply t_seq) | (apply t_region; kernel_rfl) | (apply t_drawn; kernel_rfl; decide +kernel; try simp only [List.append_eq, List.cons_append, List.nil_append]) | ((with_reducible apply t_condF); exact rfl) | (with_reducible apply t_skip) | with_reducible apply q_thenN | (with_reducible apply end_normal) | exact rvs_nil | (apply al_done; decide +kernel) | (apply al_one 9; decide +kernel) | (apply al_one 10; decide +kernel) | (apply al_one 11; decide +kernel))
  all_goals exact ⟨rfl, some (gF, cF), some (gB, cB), (fun h => by cases h), (fun h => by cases h), HpSub.refl _⟩
end Go.Proofs.Ytmlmgipngbndgaa
