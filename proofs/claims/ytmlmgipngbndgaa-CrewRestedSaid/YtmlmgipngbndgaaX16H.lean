/- A part of the proof: rules for walks, and contracts of functions (8). -/
import Derived.Test.YtmlmgipngbndgaaX16G
import Derived.Test.YtmlmgipngbndgaaX16C
import Derived.Test.YtmlmgipngbndgaaX16F
set_option linter.unusedVariables false
set_option linter.unusedSimpArgs false
set_option maxRecDepth 100000
set_option maxHeartbeats 2000000
namespace Go.Proofs.Ytmlmgipngbndgaa
open Go.RowKit
attribute [local irreducible] OQ OS OX Rd T TL GX GL AL AI RV wpG SAny Calls
theorem do_ok (bd : Nat) (o : Off) (x y : Option (Nat × Nat)) (hxn : x = none → o.fl.length = 0) (hyn : y = none → o.bk.length = 0) (hv : OkO o) (w : World) (hw : Has w ⟨(deskH bd o x y).map Prod.fst, []⟩ (deskH bd o x y) w) (d : Deal) (hE : doneE o d = 0) :
    Calls Try.prog 79 #[.pointer (some ⟨bd, 0, none⟩), .agg ⟨dealCells d⟩] w fun e w' => ∃ v H', e = .returned v ∧ (v = .int .i64 0 ∧ AtW bd (doneO o d) H') ∧ Has w ⟨(deskH bd o x y).map Prod.fst, []⟩ H' w' := by
  obtain ⟨dk, dn, ds, dp, dl⟩ := d
  unfold dealCells
  unfold doneE at hE
  unfold doneO
  simp only at hE ⊢
  by_cases k1 : dk = 1
  · subst k1
    rw [if_pos rfl] at hE ⊢
    by_cases c1 : depOk ⟨ds, dp, dl, 0⟩ = true ∧ o.now ≤ dl
    · rw [if_pos c1] at hE
      by_cases c2 : o.fl.length < 10
      · exact do_gen bd o x y w hw 123 1 _ _ _ _ _ rfl (by omega) (by omega) rfl Try.call123 _ fun w1 hw1 => add_T bd o x y hxn hyn hv w1 hw1 1 dn ds dp dl c1 c2
      · rw [if_neg c2] at hE; exact absurd hE (by decide)
    · rw [if_neg c1] at hE; exact absurd hE (by decide)
  rw [if_neg k1] at hE ⊢
  by_cases k2 : dk = 2
  · subst k2
    rw [if_pos rfl] at hE ⊢
    by_cases c1 : openE o dn = 0
    · rw [if_pos c1] at hE
      by_cases c2 : o.bk.length < 120
      · exact do_gen bd o x y w hw 124 2 _ _ _ _ _ rfl (by omega) (by omega) rfl Try.call124 _ fun w1 hw1 => sell_T bd o x y hxn hyn hv w1 hw1 2 dn ds dp dl c1 c2
      · rw [if_neg c2] at hE; exact absurd hE (by decide)
    · rw [if_neg c1] at hE; exact absurd hE c1
  rw [if_neg k2] at hE ⊢
  by_cases k3 : dk = 3
  · subst k3
    rw [if_pos rfl] at hE ⊢
    by_cases c1 : 0 ≤ dn ∧ dn < (o.bk.length : Int)
    · rw [if_pos c1] at hE
      by_cases c2 : (bkAt o dn).state = 1 ∨ (bkAt o dn).state = 2
      · exact do_gen bd o x y w hw 125 3 _ _ _ _ _ rfl (by omega) (by omega) rfl Try.call125 _ fun w1 hw1 => cancel_T bd o x y hxn hyn hv w1 hw1 3 dn ds dp dl c1 c2
      · rw [if_neg c2] at hE; exact absurd hE (by decide)
    · rw [if_neg c1] at hE; exact absurd hE (by decide)
  rw [if_neg k3] at hE ⊢
  by_cases k4 : dk = 4
  · subst k4
    rw [if_pos rfl] at hE ⊢
    by_cases c1 : openE o dn = 0
    · rw [if_pos c1] at hE
      by_cases c2 : (depAt o dn).leaves ≤ o.now
      · exact do_gen bd o x y w hw 126 4 _ _ _ _ _ rfl (by omega) (by omega) rfl Try.call126 _ fun w1 hw1 => leave_T bd o x y hxn hyn hv w1 hw1 4 dn ds dp dl c1 c2
      · rw [if_neg c2] at hE; exact absurd hE (by decide)
    · rw [if_neg c1] at hE; exact absurd hE c1
  rw [if_neg k4] at hE ⊢
  by_cases k5 : dk = 5
  · subst k5
    rw [if_pos rfl] at hE ⊢
    exact do_gen bd o x y w hw 127 5 _ _ _ _ _ rfl (by omega) (by omega) rfl Try.call127 _ fun w1 hw1 => off_T bd o x y hxn hyn hv w1 hw1 5 dn ds dp dl hE
  rw [if_neg k5] at hE ⊢
  by_cases k6 : dk = 6
  · subst k6
    rw [if_pos rfl] at hE ⊢
    by_cases c1 : 1 ≤ dn ∧ dn ≤ 1000000 ∧ o.now + dn ≤ 1000000
    · exact do_gen bd o x y w hw 128 6 _ _ _ _ _ rfl (by omega) (by omega) rfl Try.call128 _ fun w1 hw1 => tick_T bd o x y hxn hyn hv w1 hw1 6 dn ds dp dl c1
    · rw [if_neg c1] at hE; exact absurd hE (by decide)
  rw [if_neg k6] at hE ⊢
  by_cases k7 : dk = 7
  · subst k7
    rw [if_pos rfl] at hE
    by_cases c1 : openE o dn = 0
    · rw [if_pos c1] at hE
      by_cases c2 : 0 ≤ ds ∧ ds ≤ 50
      · rw [if_pos c2] at hE
        by_cases c3 : manyV o.bk dn 1 ≤ ds
        · exact do_gen bd o x y w hw 129 7 _ _ _ _ _ rfl (by omega) (by omega) rfl Try.call129 _ fun w1 hw1 => seats_T bd o x y hxn hyn hv w1 hw1 7 dn ds dp dl c1 c2 c3
        · rw [if_neg c3] at hE; exact absurd hE (by decide)
      · rw [if_neg c2] at hE; exact absurd hE (by decide)
    · rw [if_neg c1] at hE; exact absurd hE c1
  rw [if_neg k7] at hE
  exact absurd hE (by decide)
theorem do_no (bd : Nat) (o : Off) (A : Option Addr) (cf : Nat) (B : Option Addr) (cb : Nat) (w : World) (hD : Desk w bd o A cf B cb) (hv : OkO o) (d : Deal) (hk : 0 ≤ d.kind ∧ d.kind ≤ 255) (hE : ¬ doneE o d = 0) :
    Calls Try.prog 79 #[.pointer (some ⟨bd, 0, none⟩), .agg ⟨dealCells d⟩] w fun e w' => e = .returned (.int .i64 (doneE o d)) ∧ Ext w w' := by
  obtain ⟨dk, dn, ds, dp, dl⟩ := d
  have hnf := hv.nf
  have hnb := hv.nb
  have hn : o.fl.length ≤ 1000000 := by omega
  have hn2 : o.bk.length ≤ 1000000 := by omega
  have hnow := hv.now
  unfold dealCells
  unfold doneE at hE ⊢
  simp only at hE hk ⊢
  by_cases k1 : dk = 1
  · subst k1
    rw [if_pos rfl] at hE ⊢
    by_cases c1 : depOk ⟨ds, dp, dl, 0⟩ = true ∧ o.now ≤ dl
    · rw [if_pos c1] at hE ⊢
      by_cases c2 : o.fl.length < 10
      · rw [if_pos c2] at hE; exact absurd rfl hE
      · rw [if_neg c2]
        exact do_pan bd w 123 1 _ _ _ _ _ _ rfl (by omega) (by omega) rfl Try.call123 fun w1 he => add_full bd o A cf B cb w1 (hD.ext he) hn hn2 hnow 1 dn ds dp dl c1 c2
    · rw [if_neg c1]
      exact do_pan bd w 123 1 _ _ _ _ _ _ rfl (by omega) (by omega) rfl Try.call123 fun w1 he => add_arg bd o A cf B cb w1 (hD.ext he) hn hn2 hnow 1 dn ds dp dl c1
  rw [if_neg k1] at hE ⊢
  by_cases k2 : dk = 2
  · subst k2
    rw [if_pos rfl] at hE ⊢
    by_cases c1 : openE o dn = 0
    · rw [if_pos c1] at hE ⊢
      by_cases c2 : o.bk.length < 120
      · rw [if_pos c2] at hE; exact absurd rfl hE
      · rw [if_neg c2]
        exact do_pan bd w 124 2 _ _ _ _ _ _ rfl (by omega) (by omega) rfl Try.call124 fun w1 he => sell_full bd o A cf B cb w1 (hD.ext he) hn hn2 hnow 2 dn ds dp dl c1 c2
    · rw [if_neg c1]
      exact do_pan bd w 124 2 _ _ _ _ _ _ rfl (by omega) (by omega) rfl Try.call124 fun w1 he => sell_open bd o A cf B cb w1 (hD.ext he) hn hn2 hnow 2 dn ds dp dl c1
  rw [if_neg k2] at hE ⊢
  by_cases k3 : dk = 3
  · subst k3
    rw [if_pos rfl] at hE ⊢
    by_cases c1 : 0 ≤ dn ∧ dn < (o.bk.length : Int)
    · rw [if_pos c1] at hE ⊢
      by_cases c2 : (bkAt o dn).state = 1 ∨ (bkAt o dn).state = 2
      · rw [if_pos c2] at hE; exact absurd rfl hE
      · rw [if_neg c2]
        exact do_pan bd w 125 3 _ _ _ _ _ _ rfl (by omega) (by omega) rfl Try.call125 fun w1 he => cancel_gone bd o A cf B cb w1 (hD.ext he) hn hn2 hnow 3 dn ds dp dl c1 c2
    · rw [if_neg c1]
      exact do_pan bd w 125 3 _ _ _ _ _ _ rfl (by omega) (by omega) rfl Try.call125 fun w1 he => cancel_arg bd o A cf B cb w1 (hD.ext he) hn hn2 hnow 3 dn ds dp dl c1
  rw [if_neg k3] at hE ⊢
  by_cases k4 : dk = 4
  · subst k4
    rw [if_pos rfl] at hE ⊢
    by_cases c1 : openE o dn = 0
    · rw [if_pos c1] at hE ⊢
      by_cases c2 : (depAt o dn).leaves ≤ o.now
      · rw [if_pos c2] at hE; exact absurd rfl hE
      · rw [if_neg c2]
        exact do_pan bd w 126 4 _ _ _ _ _ _ rfl (by omega) (by omega) rfl Try.call126 fun w1 he => leave_early bd o A cf B cb w1 (hD.ext he) hn hn2 hnow 4 dn ds dp dl c1 c2
    · rw [if_neg c1]
      exact do_pan bd w 126 4 _ _ _ _ _ _ rfl (by omega) (by omega) rfl Try.call126 fun w1 he => leave_open bd o A cf B cb w1 (hD.ext he) hn hn2 hnow 4 dn ds dp dl c1
  rw [if_neg k4] at hE ⊢
  by_cases k5 : dk = 5
  · subst k5
    rw [if_pos rfl] at hE ⊢
    exact do_pan bd w 127 5 _ _ _ _ _ _ rfl (by omega) (by omega) rfl Try.call127 fun w1 he => off_open bd o A cf B cb w1 (hD.ext he) hn hn2 hnow 5 dn ds dp dl hE
  rw [if_neg k5] at hE ⊢
  by_cases k6 : dk = 6
  · subst k6
    rw [if_pos rfl] at hE ⊢
    by_cases c1 : 1 ≤ dn ∧ dn ≤ 1000000 ∧ o.now + dn ≤ 1000000
    · rw [if_pos c1] at hE; exact absurd rfl hE
    · rw [if_neg c1]
      exact do_pan bd w 128 6 _ _ _ _ _ _ rfl (by omega) (by omega) rfl Try.call128 fun w1 he => tick_no bd o A cf B cb w1 (hD.ext he) hn hn2 hnow 6 dn ds dp dl c1
  rw [if_neg k6] at hE ⊢
  by_cases k7 : dk = 7
  · subst k7
    rw [if_pos rfl] at hE ⊢
    by_cases c1 : openE o dn = 0
    · rw [if_pos c1] at hE ⊢
      by_cases c2 : 0 ≤ ds ∧ ds ≤ 50
      · rw [if_pos c2] at hE ⊢
        by_cases c3 : manyV o.bk dn 1 ≤ ds
        · rw [if_pos c3] at hE; exact absurd rfl hE
        · rw [if_neg c3]
          exact do_pan bd w 129 7 _ _ _ _ _ _ rfl (by omega) (by omega) rfl Try.call129 fun w1 he => seats_full bd o A cf B cb w1 (hD.ext he) hn hn2 hnow 7 dn ds dp dl c1 c2 c3
      · rw [if_neg c2]
        exact do_pan bd w 129 7 _ _ _ _ _ _ rfl (by omega) (by omega) rfl Try.call129 fun w1 he => seats_arg bd o A cf B cb w1 (hD.ext he) hn hn2 hnow 7 dn ds dp dl c1 c2
    · rw [if_neg c1]
      exact do_pan bd w 129 7 _ _ _ _ _ _ rfl (by omega) (by omega) rfl Try.call129 fun w1 he => seats_open bd o A cf B cb w1 (hD.ext he) hn hn2 hnow 7 dn ds dp dl c1
  rw [if_neg k7]
  exact do_kind bd w dk dn ds dp dl (by omega) hk
def OpenN (v : Value) (H : Hp) : Prop := ∃ p, v = .tuple #[.pointer p, .bool false] ∧ H = []
def OpenY (o : Off) (v : Value) (H : Hp) : Prop := ∃ bd x y, (x = none → o.fl.length = 0) ∧ (y = none → o.bk.length = 0) ∧ v = .tuple #[.pointer (some ⟨bd, 0, none⟩), .bool true] ∧ H = deskH bd o x y
theorem openN_T (o : Off) (A : Option Addr) (cf : Nat) (B : Option Addr) (cb : Nat) (w : World) (hA : RdS w 4 A o.fl.length (o.fl.map depCells)) (hB : RdS w 3 B o.bk.length (o.bk.map bkCells)) (hnA : A = none → o.fl.length = 0 ∧ cf = 0) (hnB : B = none → o.bk.length = 0 ∧ cb = 0) (hu : ∀ d ∈ o.fl, 0 ≤ d.state) (hn : o.fl.length ≤ 1000000) (hn2 : o.bk.length ≤ 1000000) (h : officeB o = false) : Calls Try.prog 62 #[.agg ⟨offCells o A cf B cb⟩] w fun e w' => ∃ v H', e = .returned v ∧ OpenN v H' ∧ Has w ⟨[], []⟩ H' w' :=
  (open_T o A cf B cb w hA hB hnA hnB hu hn hn2).mono fun e w' ⟨v, H', h1, h2, h3⟩ => ⟨v, H', h1, (by
    rcases h2 with ⟨_, p, hv, hH⟩ | ⟨h4, _⟩
    · exact ⟨p, hv, hH⟩
    · rw [h] at h4; cases h4), h3⟩
theorem openY_T (o : Off) (A : Option Addr) (cf : Nat) (B : Option Addr) (cb : Nat) (w : World) (hA : RdS w 4 A o.fl.length (o.fl.map depCells)) (hB : RdS w 3 B o.bk.length (o.bk.map bkCells)) (hnA : A = none → o.fl.length = 0 ∧ cf = 0) (hnB : B = none → o.bk.length = 0 ∧ cb = 0) (hu : ∀ d ∈ o.fl, 0 ≤ d.state) (hn : o.fl.length ≤ 1000000) (hn2 : o.bk.length ≤ 1000000) (h : officeB o = true) : Calls Try.prog 62 #[.agg ⟨offCells o A cf B cb⟩] w fun e w' => ∃ v H', e = .returned v ∧ OpenY o v H' ∧ Has w ⟨[], []⟩ H' w' :=
  (open_T o A cf B cb w hA hB hnA hnB hu hn hn2).mono fun e w' ⟨v, H', h1, h2, h3⟩ => ⟨v, H', h1, (by
    rcases h2 with ⟨h4, _⟩ | ⟨_, h4⟩
    · rw [h] at h4; cases h4
    · exact h4), h3⟩
theorem opurse_T (o : Off) (A : Option Addr) (cf : Nat) (B : Option Addr) (cb : Nat) (w : World) (hA : RdS w 4 A o.fl.length (o.fl.map depCells)) (hB : RdS w 3 B o.bk.length (o.bk.map bkCells)) (hnA : A = none → o.fl.length = 0 ∧ cf = 0) (hnB : B = none → o.bk.length = 0 ∧ cb = 0) (hu : ∀ d ∈ o.fl, 0 ≤ d.state) (hn : o.fl.length ≤ 1000000) (hn2 : o.bk.length ≤ 1000000) : Calls Try.prog 22 #[.agg ⟨offCells o A cf B cb⟩] w fun e w' => e = .returned (.tuple #[.int .i64 (purseS o).1, .int .i64 (purseS o).2.1, .int .i64 (purseS o).2.2.1, .int .i64 (purseS o).2.2.2.1, .int .i64 (purseS o).2.2.2.2]) ∧ Ext w w' := by
  unfold purseS
  cases hv : officeB o with
  | false =>
    simp only [Bool.false_eq_true, if_false]
    refine enterQ (c := cx w 27) Try.func22 rfl rfl rfl rfl ?_
    repeat' (first | ((with_reducible apply oq_id); first | (apply oq_fn; exact rfl; try first | exact trivial | (and_intros <;> omega)) | ((with_reducible apply oq_loadAgg); exact rfl; exact rfl)) | ((with_reducible apply tl_id); first | (with_reducible apply tl_nil) | ((with_reducible apply u_s); (iterate 3 exact rfl); (with_reducible apply os_callF (PV := OpenN) (k := 62) (hc := Try.call62)); exact rfl; exact rfl; exact fun D w1 hw1 => openN_T o A cf B cb w1 (hA.ext hw1.ext.ext) (hB.ext hw1.ext.ext) hnA hnB hu hn hn2 hv; rintro v H' ⟨p, rfl, rfl⟩; (try simp only [List.cons_append, List.nil_append])) | ((with_reducible apply u_q); (iterate 4 exact rfl)) | ((with_reducible apply u_s); (iterate 3 exact rfl))) | ((with_reducible apply os_x); exact rfl) | ((with_reducible apply ox_boxAgg); exact rfl; intro _) | ((with_reducible apply rd_id); first | (apply Rd.own; (repeat (first | exact P0 | apply P1 | apply PA)); exact rfl; done)) | ((with_reducible apply t_id); first | (with_reducible apply t_seq) | (apply t_region; kernel_rfl) | ((with_reducible apply t_condT); exact rfl) | (with_reducible apply t_ret)) | with_reducible apply q_thenN | with_reducible apply q_thenR | exact Rdn.zero | apply Rdn.succ | (with_reducible apply end_ret) | exact rvs_nil | (with_reducible apply rvs_cons) | ((with_reducible apply rv_tmp); exact rfl))
    all_goals rfl
  | true =>
    simp only [if_true]
    obtain ⟨h1, hd, hb, hba, _⟩ := officeB_in hu hv
    have hi := headB_in h1
    have hb2 := fun x hxm => booked_st hd (List.all_eq_true.1 hba x hxm)
    refine enterQ (c := cx w 27) Try.func22 rfl rfl rfl rfl ?_
    refine t_cut (ι := Nat) (fun b => [(1, .pointer (some ⟨b, 0, none⟩))]) (fun b => [(b, offCells o A cf B cb, some (25, 7, 1))]) (fun _ => True) ?_ ?_
    · repeat' (first | ((with_reducible apply oq_id); first | (apply oq_fn; exact rfl; try first | exact trivial | (and_intros <;> omega))) | ((with_reducible apply tl_id); first | (with_reducible apply tl_nil) | ((with_reducible apply u_q); (iterate 4 exact rfl)) | ((with_reducible apply u_s); (iterate 3 exact rfl))) | ((with_reducible apply os_x); exact rfl) | ((with_reducible apply ox_boxAgg); exact rfl; intro _) | ((with_reducible apply t_id); first | (apply t_region; kernel_rfl)))
      all_goals exact ⟨rfl, _, trivial, by (repeat (first | exact FrSub.nil | (apply FrSub.cons; exact rfl))), by (repeat (first | exact HpSub.refl _ | (apply HpSub.consE; (repeat (first | exact P0 | apply P1 | apply PA)); exact rfl) | exact HpSub.nil))⟩
    rintro bo -
    refine t_cut (ι := Nat × Option (Nat × Nat) × Option (Nat × Nat)) (fun z => [(1, .pointer (some ⟨bo, 0, none⟩)), (7, .pointer (some ⟨z.1, 0, none⟩)), (8, .bool true)]) (fun z => (z.1, offCells o (clA z.2.1) (clC z.2.1) (clA z.2.2) (clC z.2.2), some (135, 7, 1)) :: (bo, offCells o A cf B cb, some (25, 7, 1)) :: (flH o z.2.1 ++ bkH o z.2.2)) (fun z => (z.2.1 = none → o.fl.length = 0) ∧ (z.2.2 = none → o.bk.length = 0)) ?_ ?_
    · repeat' (first | ((with_reducible apply oq_id); first | (apply oq_fn; exact rfl; try first | exact trivial | (and_intros <;> omega)) | ((with_reducible apply oq_loadAgg); exact rfl; exact rfl)) | ((with_reducible apply tl_id); first | (with_reducible apply tl_nil) | ((with_reducible apply u_s); (iterate 3 exact rfl); (with_reducible apply os_callF (PV := OpenY o) (k := 62) (hc := Try.call62)); exact rfl; exact rfl; exact fun D w1 hw1 => openY_T o A cf B cb w1 (hA.ext hw1.ext.ext) (hB.ext hw1.ext.ext) hnA hnB hu hn hn2 hv; rintro v H' ⟨bd, x, y, hxn, hyn, rfl, rfl⟩; (try simp only [deskH, List.cons_append, List.nil_append, List.append_assoc])) | ((with_reducible apply u_q); (iterate 4 exact rfl))) | ((with_reducible apply rd_id); first | (apply Rd.own; (repeat (first | exact P0 | apply P1 | apply PA)); exact rfl; done)) | ((with_reducible apply t_id); first | (apply t_region; kernel_rfl)) | exact Rdn.zero | apply Rdn.succ)
      all_goals (refine ⟨by trivial, (bd, x, y), ⟨hxn, hyn⟩, by (repeat (first | exact FrSub.nil | (apply FrSub.cons; exact rfl))), ?_⟩)
      all_goals (rcases x with _ | ⟨g1, c1⟩ <;> rcases y with _ | ⟨g2, c2⟩ <;> simp only [flH, bkH, clH, clA, clC, List.cons_append, List.nil_append, List.append_nil])
      all_goals (repeat (first | exact HpSub.refl _ | (apply HpSub.consE; (repeat (first | exact P0 | apply P1 | apply PA)); exact rfl) | exact HpSub.nil))
    rintro ⟨bd, x, y⟩ ⟨hxn, hyn⟩
    simp only at hxn hyn ⊢
    have HS := fun w1 hD1 => purse_calls bd o (clA x) (clC x) (clA y) (clC y) w1 hD1 hd hb hb2 (by omega)
    repeat' (first | ((with_reducible apply oq_id); first | (apply oq_fn; exact rfl; try first | exact trivial | (and_intros <;> omega)) | ((with_reducible apply oq_load); exact rfl; exact rfl) | ((with_reducible apply oq_call (k := 68) (hc := Try.call68)); exact rfl; exact rfl; exact fun D w1 hw1 => HS w1 (desk_of hw1 (by (repeat (first | exact HpSub.refl _ | (apply HpSub.consE; (repeat (first | exact P0 | apply P1 | apply PA)); exact rfl) | apply HpSub.skipX | apply HpSub.skipX | exact HpSub.nil))) hxn hyn))) | ((with_reducible apply tl_id); first | (with_reducible apply tl_nil) | ((with_reducible apply u_q); (iterate 4 exact rfl)) | ((with_reducible apply u_s0); exact rfl; exact rfl) | ((with_reducible apply u_s); (iterate 3 exact rfl))) | ((with_reducible apply gx_id); first | (with_reducible apply v_nil) | ((with_reducible apply v_q); (iterate 3 exact rfl))) | ((with_reducible apply os_id); first | ((with_reducible apply os_x); exact rfl) | ((with_reducible apply os_storeAgg); (iterate 5 exact rfl))) | ((with_reducible apply ox_alloc); exact rfl; intro _) | ((with_reducible apply rd_id); first | (apply Rd.own; (repeat (first | exact P0 | apply P1 | apply PA)); exact rfl; done)) | ((with_reducible apply t_id); first | (with_reducible apply t_seq) | (apply t_region; kernel_rfl) | (apply t_drawn; kernel_rfl; decide +kernel; try simp only [List.append_eq, List.cons_append, List.nil_append]) | ((with_reducible apply t_condF); exact rfl) | (with_reducible apply t_ret) | (with_reducible apply t_skip)) | with_reducible apply q_thenN | exact P0 | ((with_reducible apply Norm.nil); exact rfl) | ((with_reducible apply Norm.cons); exact rfl) | (with_reducible apply end_ret) | exact rvs_nil | (with_reducible apply rvs_cons) | ((with_reducible apply rv_tmp); exact rfl) | exact Nat.le_of_ble_eq_true rfl)
    all_goals rfl
def zeroO : Off := ⟨0, 0, 0, 0, 0, [], []⟩
end Go.Proofs.Ytmlmgipngbndgaa
namespace Go.Proofs.Ytmlmgipngbndgaa
/-- The office after the first k deals. -/
def stV (o : Off) (l : List Deal) (k : Nat) : Off := (l.take k).foldl doneO o
/-- The first k deals are done. -/
def okTo (o : Off) (l : List Deal) (k : Nat) : Prop := ∀ j d, j < k → l[j]? = some d → doneE (stV o l j) d = 0
theorem stV_succ {o : Off} {l : List Deal} {k : Nat} {d : Deal} (h : l[k]? = some d) : stV o l (k + 1) = doneO (stV o l k) d := by
  unfold stV
  rw [List.take_add_one, h, List.foldl_append]
  rfl
theorem okTo_zero (o : Off) (l : List Deal) : okTo o l 0 := fun j d h => by omega
theorem okTo_succ {o : Off} {l : List Deal} {k : Nat} {d : Deal} (h : okTo o l k) (hd : l[k]? = some d) (hE : doneE (stV o l k) d = 0) : okTo o l (k + 1) := fun j e hj he => by
  by_cases hjk : j = k
  · subst hjk
    obtain rfl : d = e := by rw [hd] at he; exact Option.some.inj he
    exact hE
  · exact h j e (by omega) he
theorem stV_ok {o : Off} (hv : OkO o) {l : List Deal} : ∀ {k : Nat}, k ≤ l.length → okTo o l k → OkO (stV o l k)
  | 0, _, _ => hv
  | k + 1, hk, h => by
    obtain ⟨d, hd⟩ : ∃ d, l[k]? = some d := ⟨_, List.getElem?_eq_getElem (by omega)⟩
    rw [stV_succ hd]
    exact done_okO (stV_ok hv (by omega) fun j e hj he => h j e (by omega) he) d (h k d (by omega) hd)
/-- What Play answers for a valid office. -/
def runV (o : Off) : List Deal → Off × Int × Int
  | [] => (o, 0, 0)
  | d :: l => if doneE o d = 0 then (if (runV (doneO o d) l).2.2 = 0 then runV (doneO o d) l else (zeroO, (runV (doneO o d) l).2.1 + 1, (runV (doneO o d) l).2.2)) else (zeroO, 0, doneE o d)
theorem run_all {o : Off} : ∀ {l : List Deal}, okTo o l l.length → runV o l = (stV o l l.length, 0, 0)
  | [], _ => rfl
  | d :: l, h => by
    have h0 : doneE o d = 0 := h 0 d (by simp) rfl
    have ih := run_all (o := doneO o d) (l := l) fun j e hj he => h (j + 1) e (by simpa using hj) he
    unfold runV
    rw [if_pos h0, ih]
    rfl
theorem run_bad : ∀ {l : List Deal} {o : Off} {k : Nat} {d : Deal}, okTo o l k → l[k]? = some d → ¬ doneE (stV o l k) d = 0 → runV o l = (zeroO, (k : Int), doneE (stV o l k) d)
  | [], o, k, d, _, hd, _ => by simp at hd
  | a :: l, o, 0, d, h, hd, hE => by
    obtain rfl : a = d := by simpa using hd
    unfold runV
    rw [if_neg (show ¬ doneE o a = 0 from hE)]
    rfl
  | a :: l, o, k + 1, d, h, hd, hE => by
    have h0 : doneE o a = 0 := h 0 a (by omega) rfl
    have ih := run_bad (l := l) (o := doneO o a) (k := k) (d := d) (fun j e hj he => h (j + 1) e (by omega) he) (by simpa using hd) hE
    unfold runV
    have hE' : ¬ doneE (stV (doneO o a) l k) d = 0 := hE
    rw [if_pos h0, ih]
    simp only [hE', if_false]
    rfl
def playV (o : Off) (l : List Deal) : Off × Int × Int := if officeB o = true then (if l.length ≤ 200 then runV o l else (zeroO, 0, 4)) else (zeroO, 0, 84)
def AnyP (r : Off × Int × Int) (v : Value) (H : Hp) : Prop := ∃ x y, (x = none → r.1.fl.length = 0) ∧ (y = none → r.1.bk.length = 0) ∧ v = .tuple #[.agg ⟨offCells r.1 (clA x) (clC x) (clA y) (clC y)⟩, .int .i64 r.2.1, .int .i64 r.2.2] ∧ H = flH r.1 x ++ bkH r.1 y
theorem deal_read {w : World} {A : Option Addr} {n : Nat} {l : List Deal} (h : RdS w 5 A n (l.map dealCells)) {i : Nat} (hi : i < n) :
    ∃ b o x, A = some ⟨b, o, none⟩ ∧ b < w.heap.size ∧ l[i]? = some x ∧ w.cell? ⟨b, o + i * 5, none⟩ = some (.int .u8 x.kind) ∧ w.cell? ⟨b, o + i * 5 + 1, none⟩ = some (.int .i64 x.n) ∧ w.cell? ⟨b, o + i * 5 + 2, none⟩ = some (.int .i64 x.seats) ∧ w.cell? ⟨b, o + i * 5 + 3, none⟩ = some (.int .i64 x.price) ∧ w.cell? ⟨b, o + i * 5 + 4, none⟩ = some (.int .i64 x.leaves) := by
  obtain ⟨b, o, cs, hA, hb, hx, _, hc⟩ := h.row hi
  simp only [List.getElem?_map, Option.map_eq_some_iff] at hx
  obtain ⟨x, hx, rfl⟩ := hx
  exact ⟨b, o, x, hA, hb, hx, hc 0 _ rfl, hc 1 _ rfl, hc 2 _ rfl, hc 3 _ rfl, hc 4 _ rfl⟩
end Go.Proofs.Ytmlmgipngbndgaa
namespace Go.Proofs.Ytmlmgipngbndgaa
open Go.RowKit
attribute [local irreducible] OQ OS OX Rd T TL GX GL AL AI RV wpG SAny Calls
theorem play_T (o : Off) (A : Option Addr) (cf : Nat) (B : Option Addr) (cb : Nat) (w : World) (hA : RdS w 4 A o.fl.length (o.fl.map depCells)) (hB : RdS w 3 B o.bk.length (o.bk.map bkCells)) (hnA : A = none → o.fl.length = 0 ∧ cf = 0) (hnB : B = none → o.bk.length = 0 ∧ cb = 0) (hu : ∀ d ∈ o.fl, 0 ≤ d.state) (hn : o.fl.length ≤ 1000000) (hn2 : o.bk.length ≤ 1000000) (l : List Deal) (L : Option Addr) (nl cl : Nat) (hL : RdS w 5 L nl (l.map dealCells)) (hln : nl ≤ 1000000) (hlk : ∀ d ∈ l, 0 ≤ d.kind ∧ d.kind ≤ 255) : Calls Try.prog 34 #[.agg ⟨offCells o A cf B cb⟩, .slice L nl cl] w fun e w' => ∃ v H', e = .returned v ∧ AnyP (playV o l) v H' ∧ Has w ⟨[], []⟩ H' w' := by
  have hll := hL.len
  simp only [List.length_map] at hll
  unfold playV
  cases hv : officeB o with
  | false =>
    simp only [Bool.false_eq_true, if_false]
    refine enterF (c := cx w 44) Try.func34 rfl rfl rfl rfl ?_
    repeat' (first | ((with_reducible apply oq_id); first | (apply oq_fn; exact rfl; try first | exact trivial | (and_intros <;> omega)) | ((with_reducible apply oq_loadAgg); exact rfl; exact rfl) | ((with_reducible apply oq_build); (iterate 3 exact rfl))) | ((with_reducible apply tl_id); first | (with_reducible apply tl_nil) | ((with_reducible apply u_s); (iterate 3 exact rfl); (with_reducible apply os_callF (PV := OpenN) (k := 62) (hc := Try.call62)); exact rfl; exact rfl; exact fun D w1 hw1 => openN_T o A cf B cb w1 (hA.ext hw1.ext.ext) (hB.ext hw1.ext.ext) hnA hnB hu hn hn2 hv; rintro v H' ⟨p, rfl, rfl⟩; (try simp only [List.cons_append, List.nil_append])) | ((with_reducible apply u_q); (iterate 4 exact rfl)) | ((with_reducible apply u_s0); exact rfl; exact rfl) | ((with_reducible apply u_s); (iterate 3 exact rfl))) | ((with_reducible apply os_id); first | ((with_reducible apply os_x); exact rfl) | ((with_reducible apply os_storeAgg); (iterate 5 exact rfl))) | ((with_reducible apply ox_id); first | ((with_reducible apply ox_alloc); exact rfl; intro _) | ((with_reducible apply ox_boxAgg); exact rfl; intro _)) | ((with_reducible apply rd_id); first | (apply Rd.own; (repeat (first | exact P0 | apply P1 | apply PA)); exact rfl; done)) | ((with_reducible apply t_id); first | (with_reducible apply t_seq) | (apply t_region; kernel_rfl) | ((with_reducible apply t_condT); exact rfl) | (with_reducible apply t_ret)) | with_reducible apply q_thenN | with_reducible apply q_thenR | exact P0 | exact Rdn.zero | apply Rdn.succ | ((with_reducible apply Norm.nil); exact rfl) | ((with_reducible apply Norm.cons); exact rfl) | (with_reducible apply end_ret) | exact rvs_nil | (with_reducible apply rvs_cons) | ((with_reducible apply rv_tmp); exact rfl) | ((with_reducible apply rv_cellAgg); exact rfl; exact rfl) | exact Nat.le_of_ble_eq_true rfl)
    all_goals exact ⟨_, ⟨none, none, (fun _ => rfl), (fun _ => rfl), rfl, rfl⟩, HpSub.nil⟩
  | true =>
    have hO0 := okO hu hv
    simp only [if_true]
    by_cases h200 : l.length ≤ 200
    · rw [if_pos h200]
      refine enterF (c := cx w 44) Try.func34 rfl rfl rfl rfl ?_
      refine t_cut (ι := Nat × Nat) (fun z => [(1, .slice L nl cl), (2, .pointer (some ⟨z.1, 0, none⟩)), (4, .pointer (some ⟨z.2, 0, none⟩))]) (fun z => (z.2, [.int .i64 0, .int .i64 0, .int .i64 0, .slice none 0 0, .slice none 0 0, .int .i64 0, .int .i64 0], some (25, 7, 1)) :: (z.1, offCells o A cf B cb, some (25, 7, 1)) :: []) (fun _ => True) ?_ ?_
      · repeat' (first | ((with_reducible apply oq_id); first | (apply oq_fn; exact rfl; try first | exact trivial | (and_intros <;> omega))) | ((with_reducible apply tl_id); first | (with_reducible apply tl_nil) | ((with_reducible apply u_q); (iterate 4 exact rfl)) | ((with_reducible apply u_s); (iterate 3 exact rfl))) | ((with_reducible apply os_x); exact rfl) | ((with_reducible apply ox_id); first | ((with_reducible apply ox_alloc); exact rfl; intro _) | ((with_reducible apply ox_boxAgg); exact rfl; intro _)) | ((with_reducible apply t_id); first | (apply t_region; kernel_rfl)))
        all_goals exact ⟨rfl, (_, _), trivial, by (repeat (first | exact FrSub.nil | (apply FrSub.cons; exact rfl))), by (repeat (first | exact HpSub.refl _ | (apply HpSub.consE; (repeat (first | exact P0 | apply P1 | apply PA)); exact rfl) | exact HpSub.nil))⟩
      rintro ⟨b2, b4⟩ -
      refine t_cut (ι := Nat × Option (Nat × Nat) × Option (Nat × Nat)) (fun z => [(1, .slice L nl cl), (4, .pointer (some ⟨b4, 0, none⟩)), (7, .pointer (some ⟨z.1, 0, none⟩)), (8, .bool true)]) (fun z => (b4, [.int .i64 0, .int .i64 0, .int .i64 0, .slice none 0 0, .slice none 0 0, .int .i64 0, .int .i64 0], some (25, 7, 1)) :: deskH z.1 o z.2.1 z.2.2) (fun z => (z.2.1 = none → o.fl.length = 0) ∧ (z.2.2 = none → o.bk.length = 0)) ?_ ?_
      · repeat' (first | ((with_reducible apply oq_id); first | (apply oq_fn; exact rfl; try first | exact trivial | (and_intros <;> omega)) | ((with_reducible apply oq_loadAgg); exact rfl; exact rfl)) | ((with_reducible apply tl_id); first | (with_reducible apply tl_nil) | ((with_reducible apply u_s); (iterate 3 exact rfl); (with_reducible apply os_callF (PV := OpenY o) (k := 62) (hc := Try.call62)); exact rfl; exact rfl; exact fun D w1 hw1 => openY_T o A cf B cb w1 (hA.ext hw1.ext.ext) (hB.ext hw1.ext.ext) hnA hnB hu hn hn2 hv; rintro v H' ⟨bd, x, y, hxn, hyn, rfl, rfl⟩; (try simp only [deskH, List.cons_append, List.nil_append, List.append_assoc])) | ((with_reducible apply u_q); (iterate 4 exact rfl))) | ((with_reducible apply rd_id); first | (apply Rd.own; (repeat (first | exact P0 | apply P1 | apply PA)); exact rfl; done)) | ((with_reducible apply t_id); first | (apply t_region; kernel_rfl)) | exact Rdn.zero | apply Rdn.succ)
        all_goals (refine ⟨by trivial, (bd, x, y), ⟨hxn, hyn⟩, by (repeat (first | exact FrSub.nil | (apply FrSub.cons; exact rfl))), ?_⟩)
        all_goals ((try unfold deskH); rcases x with _ | ⟨g1, c1⟩ <;> rcases y with _ | ⟨g2, c2⟩ <;> simp only [flH, bkH, clH, clA, clC, List.cons_append, List.nil_append, List.append_nil])
        all_goals (repeat (first | exact HpSub.refl _ | (apply HpSub.consE; (repeat (first | exact P0 | apply P1 | apply PA)); exact rfl) | exact HpSub.nil))
      rintro ⟨bd, x0, y0⟩ ⟨hx0, hy0⟩
      simp only at hx0 hy0 ⊢
      repeat' (first | ((with_reducible apply oq_id); first | ((with_reducible apply oq_gtrF); exact rfl; exact rfl; omega) | (apply oq_fn; exact rfl; try first | exact trivial | (and_intros <;> omega))) | ((with_reducible apply tl_id); first | (with_reducible apply tl_nil) | ((with_reducible apply u_q); (iterate 4 exact rfl))) | ((with_reducible apply t_id); first | (with_reducible apply t_seq) | (apply t_region; kernel_rfl) | ((with_reducible apply t_condF); exact rfl) | (with_reducible apply t_skip) | (with_reducible apply t_block)) | with_reducible apply q_thenN)
      apply t_loopK (GH := []) (ι := Nat × Option (Nat × Nat) × Option (Nat × Nat)) [4, 7, 24, 25, 40, 41, 42, 43] (fun z => [(26, .int .i64 (z.1 : Nat))]) (fun z => (b4, [.int .i64 0, .int .i64 0, .int .i64 0, .slice none 0 0, .slice none 0 0, .int .i64 0, .int .i64 0], some (25, 7, 1)) :: deskH bd (stV o l z.1) z.2.1 z.2.2) (fun z => z.1 ≤ nl ∧ okTo o l z.1 ∧ (z.2.1 = none → (stV o l z.1).fl.length = 0) ∧ (z.2.2 = none → (stV o l z.1).bk.length = 0)) (fun z => nl - z.1) ((0, x0, y0))
      (repeat (first | exact KeepF.nil | (apply KeepF.cons; exact rfl) | apply KeepF.skip))
      (repeat (first | exact FrSub.nil | (apply FrSub.cons; exact rfl)))
      (rw [List.append_nil]; exact HpSub.refl _)
      · exact ⟨Nat.zero_le _, okTo_zero _ _, hx0, hy0⟩
      rintro ⟨k, x, y⟩ ⟨hkl, hok, hx, hy⟩
      simp only at hkl hok hx hy
      try simp only [List.cons_append, List.nil_append]
      rw [List.append_nil]
      have hO := stV_ok hO0 (by omega) hok
      by_cases hlt : k < nl
      · obtain ⟨b1, o1, d, rfl, _, hd, c0, c1, c2, c3, c4⟩ := deal_read hL hlt
        have hdk := hlk d (List.mem_of_getElem? hd)
        by_cases hE : doneE (stV o l k) d = 0
        · repeat' (first | ((with_reducible apply oq_id); first | (focus ((with_reducible apply oq_indexAddrN); (iterate 4 exact rfl); omega)) | ((with_reducible apply oq_lssT); exact rfl; exact rfl; omega) | ((with_reducible apply oq_neqF); exact rfl; exact rfl; omega) | (apply oq_fn; exact rfl; try first | exact trivial | (and_intros <;> omega)) | ((with_reducible apply oq_loadAgg); exact rfl; exact rfl)) | ((with_reducible apply tl_id); first | (with_reducible apply tl_nil) | ((with_reducible apply u_s); (iterate 3 exact rfl); (with_reducible apply os_callM (PV := fun v H => v = .int .i64 0 ∧ AtW bd (doneO (stV o l k) d) H) (G := deskH bd (stV o l k) x y) (R := [(b4, [.int .i64 0, .int .i64 0, .int .i64 0, .slice none 0 0, .slice none 0 0, .int .i64 0, .int .i64 0], some (25, 7, 1))]) (k := 79) (hc := Try.call79)); exact rfl; exact rfl; (focus ((try unfold deskH); (try unfold flH bkH); rcases x with _ | ⟨gF, cF⟩ <;> rcases y with _ | ⟨gB, cB⟩ <;> simp only [clH, clA, clC, List.nil_append, List.cons_append, List.append_nil] <;> ((repeat (first | exact HpSub.refl _ | (apply HpSub.consE; (repeat (first | exact P0 | apply P1 | apply PA)); exact rfl) | apply HpSub.skipX | apply HpSub.skipX | exact HpSub.nil))))); exact (fun D w1 hw1 hwG => do_ok bd (stV o l k) x y hx hy hO w1 hwG d hE); rintro v H1 ⟨rfl, x', y', hx', hy', rfl⟩) | ((with_reducible apply u_q); (iterate 4 exact rfl)) | ((with_reducible apply u_s0); exact rfl; exact rfl) | ((with_reducible apply u_s); (iterate 3 exact rfl))) | ((with_reducible apply os_id); first | ((with_reducible apply os_x); exact rfl) | ((with_reducible apply os_storeAgg); (iterate 5 exact rfl))) | ((with_reducible apply ox_alloc); exact rfl; intro _) | ((with_reducible apply rd_id); first | (apply Rd.own; (repeat (first | exact P0 | apply P1 | apply PA)); exact rfl; done) | (apply Rd.old; (first | (with_reducible assumption) | exact c0 | exact c1 | exact c2 | exact c3 | exact c4 | exact c5 | exact c6 | exact c7 | exact c8 | exact d0 | exact d1 | exact d2 | exact d3 | exact d4 | exact d5); first | exact List.not_mem_nil | exact m0 | exact m1 | exact m2 | exact m3 | exact m4 | exact m5 | exact m6 | exact m7 | exact m8 | exact m9)) | ((with_reducible apply t_id); first | (with_reducible apply t_seq) | (apply t_region; kernel_rfl) | ((with_reducible apply t_condT); exact rfl) | ((with_reducible apply t_condF); exact rfl) | (with_reducible apply t_skip) | (with_reducible apply t_block)) | with_reducible apply q_thenN | with_reducible apply q_blockN | exact P0 | exact Rdn.zero | apply Rdn.succ | ((with_reducible apply Norm.nil); exact rfl) | ((with_reducible apply Norm.cons); exact rfl) | exact Nat.le_of_ble_eq_true rfl)
          refine ⟨(k + 1, x', y'), ⟨(by simp only; omega), okTo_succ hok hd hE, (by simp only; rw [stV_succ hd]; exact hx'), (by simp only; rw [stV_succ hd]; exact hy')⟩, (by simp only; omega), ?_, ?_⟩
          · try simp only [List.cons_append, List.nil_append]
            (repeat (first | exact FrSub.nil | (apply FrSub.cons; exact rfl)))
          · simp only [stV_succ hd]
            (try unfold deskH); (try unfold flH bkH); rcases x' with _ | ⟨gF, cF⟩ <;> rcases y' with _ | ⟨gB, cB⟩ <;> simp only [clH, clA, clC, List.nil_append, List.cons_append, List.append_nil] <;> ((repeat (first | exact HpSub.refl _ | (apply HpSub.consE; (repeat (first | exact P0 | apply P1 | apply PA)); exact rfl) | apply HpSub.skipX | exact HpSub.nil)))
        · have HD := fun A' cf' B' cb' w1 hD => do_no bd (stV o l k) A' cf' B' cb' w1 hD hO d hdk hE
          obtain ⟨z, hz⟩ : ∃ z, doneE (stV o l k) d = z := ⟨_, rfl⟩
          have hrun := run_bad hok hd hE
          rw [hz] at HD hE hrun
          rw [hrun]
          repeat' (first | ((with_reducible apply oq_id); first | (focus ((with_reducible apply oq_indexAddrN); (iterate 4 exact rfl); omega)) | ((with_reducible apply oq_lssT); exact rfl; exact rfl; omega) | ((with_reducible apply oq_neqT); exact rfl; exact rfl; omega) | (apply oq_fn; exact rfl; try first | exact trivial | (and_intros <;> omega)) | ((with_reducible apply oq_loadAgg); exact rfl; exact rfl) | ((with_reducible apply oq_call (k := 79) (hc := Try.call79)); exact rfl; exact rfl; exact fun D w1 hw1 => HD _ _ _ _ w1 (desk_of (o := stV o l k) (x := x) (y := y) hw1 (by (try unfold deskH); (try unfold flH bkH); rcases x with _ | ⟨gF, cF⟩ <;> rcases y with _ | ⟨gB, cB⟩ <;> simp only [clH, clA, clC, List.nil_append, List.cons_append, List.append_nil] <;> ((repeat (first | exact HpSub.refl _ | (apply HpSub.consE; (repeat (first | exact P0 | apply P1 | apply PA)); exact rfl) | apply HpSub.skipX | apply HpSub.skipX | exact HpSub.nil)))) hx hy)) | ((with_reducible apply oq_build); (iterate 3 exact rfl))) | ((with_reducible apply tl_id); first | (with_reducible apply tl_nil) | ((with_reducible apply u_q); (iterate 4 exact rfl)) | ((with_reducible apply u_s0); exact rfl; exact rfl) | ((with_reducible apply u_s); (iterate 3 exact rfl))) | ((with_reducible apply os_id); first | ((with_reducible apply os_x); exact rfl) | ((with_reducible apply os_storeAgg); (iterate 5 exact rfl))) | ((with_reducible apply ox_alloc); exact rfl; intro _) | ((with_reducible apply rd_id); first | (apply Rd.own; (repeat (first | exact P0 | apply P1 | apply PA)); exact rfl; done) | (apply Rd.old; (first | (with_reducible assumption) | exact c0 | exact c1 | exact c2 | exact c3 | exact c4 | exact c5 | exact c6 | exact c7 | exact c8 | exact d0 | exact d1 | exact d2 | exact d3 | exact d4 | exact d5); first | exact List.not_mem_nil | exact m0 | exact m1 | exact m2 | exact m3 | exact m4 | exact m5 | exact m6 | exact m7 | exact m8 | exact m9)) | ((with_reducible apply t_id); first | (with_reducible apply t_seq) | (apply t_region; kernel_rfl) | ((with_reducible apply t_condT); exact rfl) | (with_reducible apply t_ret) | (with_reducible apply t_skip) | (with_reducible apply t_block)) | with_reducible apply q_thenN | with_reducible apply q_thenR | with_reducible apply q_blockR | exact P0 | (first | (with_reducible apply P1) | (with_reducible apply PA)) | exact Rdn.zero | apply Rdn.succ | ((with_reducible apply Norm.nil); exact rfl) | ((with_reducible apply Norm.cons); exact rfl) | (with_reducible apply end_ret) | exact rvs_nil | (with_reducible apply rvs_cons) | ((with_reducible apply rv_tmp); exact rfl) | ((with_reducible apply rv_cellAgg); exact rfl; exact rfl) | exact Nat.le_of_ble_eq_true rfl)
          all_goals exact ⟨_, ⟨none, none, (fun _ => rfl), (fun _ => rfl), rfl, rfl⟩, HpSub.nil⟩
      · have hkn : k = l.length := by omega
        subst hkn
        rw [run_all hok]
        unfold deskH; simp only [List.cons_append, List.append_nil]
        repeat' (first | ((with_reducible apply oq_id); first | ((with_reducible apply oq_lssF); exact rfl; exact rfl; omega) | (apply oq_fn; exact rfl; try first | exact trivial | (and_intros <;> omega)) | ((with_reducible apply oq_loadAgg); exact rfl; exact rfl)) | ((with_reducible apply tl_id); first | (with_reducible apply tl_nil) | ((with_reducible apply u_q); (iterate 4 exact rfl)) | ((with_reducible apply u_s0); exact rfl; exact rfl)) | ((with_reducible apply os_storeAgg); (iterate 5 exact rfl)) | ((with_reducible apply rd_id); first | (apply Rd.own; (repeat (first | exact P0 | apply P1 | apply PA)); exact rfl; done)) | ((with_reducible apply t_id); first | (with_reducible apply t_seq) | (apply t_region; kernel_rfl) | ((with_reducible apply t_condF); exact rfl) | (with_reducible apply t_ret) | (with_reducible apply t_exit)) | with_reducible apply q_thenN | with_reducible apply q_thenE | ((with_reducible apply q_blockE); exact rfl) | exact P0 | exact Rdn.zero | apply Rdn.succ | ((with_reducible apply Norm.nil); exact rfl) | ((with_reducible apply Norm.cons); exact rfl) | (with_reducible apply end_ret) | exact rvs_nil | (with_reducible apply rvs_cons) | ((with_reducible apply rv_tmp); exact rfl) | ((with_reducible apply rv_cellAgg); exact rfl; exact rfl) | exact Nat.le_of_ble_eq_true rfl)
        all_goals (refine ⟨_, ⟨x, y, hx, hy, rfl, rfl⟩, ?_⟩)
        all_goals ((try unfold deskH); (try unfold flH bkH); rcases x with _ | ⟨gF, cF⟩ <;> rcases y with _ | ⟨gB, cB⟩ <;> simp only [clH, clA, clC, List.nil_append, List.cons_append, List.append_nil] <;> ((repeat (first | exact HpSub.refl _ | (apply HpSub.consE; (repeat (first | exact P0 | apply P1 | apply PA)); exact rfl) | apply HpSub.skipX | exact HpSub.nil))))
    · rw [if_neg h200]
      refine enterF (c := cx w 44) Try.func34 rfl rfl rfl rfl ?_
      refine t_cut (ι := Nat × Nat) (fun z => [(1, .slice L nl cl), (2, .pointer (some ⟨z.1, 0, none⟩)), (4, .pointer (some ⟨z.2, 0, none⟩))]) (fun z => (z.2, [.int .i64 0, .int .i64 0, .int .i64 0, .slice none 0 0, .slice none 0 0, .int .i64 0, .int .i64 0], some (25, 7, 1)) :: (z.1, offCells o A cf B cb, some (25, 7, 1)) :: []) (fun _ => True) ?_ ?_
      · repeat' (first | ((with_reducible apply oq_id); first | (apply oq_fn; exact rfl; try first | exact trivial | (and_intros <;> omega))) | ((with_reducible apply tl_id); first | (with_reducible apply tl_nil) | ((with_reducible apply u_q); (iterate 4 exact rfl)) | ((with_reducible apply u_s); (iterate 3 exact rfl))) | ((with_reducible apply os_x); exact rfl) | ((with_reducible apply ox_id); first | ((with_reducible apply ox_alloc); exact rfl; intro _) | ((with_reducible apply ox_boxAgg); exact rfl; intro _)) | ((with_reducible apply t_id); first | (apply t_region; kernel_rfl)))
        all_goals exact ⟨rfl, (_, _), trivial, by (repeat (first | exact FrSub.nil | (apply FrSub.cons; exact rfl))), by (repeat (first | exact HpSub.refl _ | (apply HpSub.consE; (repeat (first | exact P0 | apply P1 | apply PA)); exact rfl) | exact HpSub.nil))⟩
      rintro ⟨b2, b4⟩ -
      refine t_cut (ι := Nat × Option (Nat × Nat) × Option (Nat × Nat)) (fun z => [(1, .slice L nl cl), (4, .pointer (some ⟨b4, 0, none⟩)), (7, .pointer (some ⟨z.1, 0, none⟩)), (8, .bool true)]) (fun z => (b4, [.int .i64 0, .int .i64 0, .int .i64 0, .slice none 0 0, .slice none 0 0, .int .i64 0, .int .i64 0], some (25, 7, 1)) :: deskH z.1 o z.2.1 z.2.2) (fun z => (z.2.1 = none → o.fl.length = 0) ∧ (z.2.2 = none → o.bk.length = 0)) ?_ ?_
      · repeat' (first | ((with_reducible apply oq_id); first | (apply oq_fn; exact rfl; try first | exact trivial | (and_intros <;> omega)) | ((with_reducible apply oq_loadAgg); exact rfl; exact rfl)) | ((with_reducible apply tl_id); first | (with_reducible apply tl_nil) | ((with_reducible apply u_s); (iterate 3 exact rfl); (with_reducible apply os_callF (PV := OpenY o) (k := 62) (hc := Try.call62)); exact rfl; exact rfl; exact fun D w1 hw1 => openY_T o A cf B cb w1 (hA.ext hw1.ext.ext) (hB.ext hw1.ext.ext) hnA hnB hu hn hn2 hv; rintro v H' ⟨bd, x, y, hxn, hyn, rfl, rfl⟩; (try simp only [deskH, List.cons_append, List.nil_append, List.append_assoc])) | ((with_reducible apply u_q); (iterate 4 exact rfl))) | ((with_reducible apply rd_id); first | (apply Rd.own; (repeat (first | exact P0 | apply P1 | apply PA)); exact rfl; done)) | ((with_reducible apply t_id); first | (apply t_region; kernel_rfl)) | exact Rdn.zero | apply Rdn.succ)
        all_goals (refine ⟨by trivial, (bd, x, y), ⟨hxn, hyn⟩, by (repeat (first | exact FrSub.nil | (apply FrSub.cons; exact rfl))), ?_⟩)
        all_goals ((try unfold deskH); rcases x with _ | ⟨g1, c1⟩ <;> rcases y with _ | ⟨g2, c2⟩ <;> simp only [flH, bkH, clH, clA, clC, List.cons_append, List.nil_append, List.append_nil])
        all_goals (repeat (first | exact HpSub.refl _ | (apply HpSub.consE; (repeat (first | exact P0 | apply P1 | apply PA)); exact rfl) | exact HpSub.nil))
      rintro ⟨bd, x0, y0⟩ ⟨hx0, hy0⟩
      simp only at hx0 hy0 ⊢
      repeat' (first | ((with_reducible apply oq_id); first | ((with_reducible apply oq_gtrT); exact rfl; exact rfl; omega) | (apply oq_fn; exact rfl; try first | exact trivial | (and_intros <;> omega)) | ((with_reducible apply oq_build); (iterate 3 exact rfl))) | ((with_reducible apply tl_id); first | (with_reducible apply tl_nil) | ((with_reducible apply u_q); (iterate 4 exact rfl)) | ((with_reducible apply u_s0); exact rfl; exact rfl)) | ((with_reducible apply os_storeAgg); (iterate 5 exact rfl)) | ((with_reducible apply rd_id); first | (apply Rd.own; (repeat (first | exact P0 | apply P1 | apply PA)); exact rfl; done)) | ((with_reducible apply t_id); first | (with_reducible apply t_seq) | (apply t_region; kernel_rfl) | ((with_reducible apply t_condT); exact rfl) | ((with_reducible apply t_condF); exact rfl) | (with_reducible apply t_ret) | (with_reducible apply t_skip)) | with_reducible apply q_thenN | with_reducible apply q_thenR | exact P0 | exact Rdn.zero | apply Rdn.succ | ((with_reducible apply Norm.nil); exact rfl) | ((with_reducible apply Norm.cons); exact rfl) | (with_reducible apply end_ret) | exact rvs_nil | (with_reducible apply rvs_cons) | ((with_reducible apply rv_tmp); exact rfl) | ((with_reducible apply rv_cellAgg); exact rfl; exact rfl) | exact Nat.le_of_ble_eq_true rfl)
      all_goals exact ⟨_, ⟨none, none, (fun _ => rfl), (fun _ => rfl), rfl, rfl⟩, HpSub.nil⟩
end Go.Proofs.Ytmlmgipngbndgaa
namespace Go.Proofs.Ytmlmgipngbndgaa
open Go.RowKit
theorem HpSub.skipApp {G R X : Hp} (h : HpSub R X) : HpSub (G ++ R) X := by
  induction G with
  | nil => exact h
  | cons x G ih => exact HpSub.skipX ih
theorem HpSub.appC {A H G : Hp} (h : HpSub H G) : HpSub (A ++ H) (A ++ G) := by
  induction A with
  | nil => exact h
  | cons x A ih => obtain ⟨b, C, g⟩ := x; exact HpSub.cons P0 ih
section
variable {c : Cx} {F : Fr} {H : Hp} {d : Option Tmp} {ty t : TypeId} {pos : String} {af : Array Edge} {g : Option (Nat × Bool)} {x y : Operand} {a0 a1 : Bool} {s0 s1 : Nat} {z0 z1 : List Value} {k1 : TyK}
theorem oq_sliceHG {e len cap h : Nat} {L : Option Addr} (hn : L = none → len = 0 ∧ cap = 0) (ht : tyAt c.tys t = some ⟨a0, s0, z0, .slice e⟩) (he : tyAt c.tys e = some ⟨a1, s1, z1, k1⟩)
    (hx : ev F x = some (.slice L len cap)) (hy : ev F y = some (.int .i64 (h : Nat))) (h1 : h ≤ cap) :
    OQ c ⟨d, .slice t x none (some y) none, ty, pos, af, g⟩ F H (.slice L h cap) := .of fun D a w ha _ => by
  have hk := (c.ty ht).kind w
  have hs := (c.ty he).size w
  simp only [execOp, Option.map, ha.ev hx, ha.ev hy]
  rcases L with _ | ⟨b, o, q⟩
  · obtain ⟨rfl, rfl⟩ := hn rfl
    obtain rfl : h = 0 := by omega
    simp [Instr.sliceAt, Instr.slice, Instr.sliceBounds, Instr.sliceBound, asIntOf, Sem.run_bind, hk, hs, Result.andThen, go_sem, add_eq]
  · by_cases h2 : cap = 0
    · subst h2
      simp [Instr.sliceAt, Instr.slice, Instr.sliceBounds, Instr.sliceBound, asIntOf, Sem.run_bind, hk, hs, h1, Result.andThen, go_sem, add_eq]
    · simp [Instr.sliceAt, Instr.slice, Instr.sliceBounds, Instr.sliceBound, asIntOf, Sem.run_bind, hk, hs, h1, h2, Result.andThen, go_sem, add_eq]
end
end Go.Proofs.Ytmlmgipngbndgaa
namespace Go.Proofs.Ytmlmgipngbndgaa
open Go.RowKit
attribute [local irreducible] OQ OS OX Rd T TL GX GL AL AI RV wpG SAny Calls
/-- A copy of a roster that is not nil. -/
def OwnS (C : List Value) (n : Nat) (v : Value) (H : Hp) : Prop := ∃ g c, v = .slice (some ⟨g, 0, none⟩) n c ∧ H = [(g, C, some (101, 3, c))]
theorem cloneO (b o : Nat) (q : _) (n c : Nat) (l : List Sh) (w : World) (hr : RdS w 3 (some ⟨b, o, q⟩) n (l.map shCells)) (hn : n ≤ 1000000) : Calls Try.prog 89 #[.slice (some ⟨b, o, q⟩) n c] w fun e w' => ∃ v H', e = .returned v ∧ OwnS (shB l) n v H' ∧ Has w ⟨[], []⟩ H' w' := by
  refine enterF (c := cx w 8) Try.func89 rfl rfl rfl rfl ?_
  repeat' (first | ((with_reducible apply oq_id); first | ((with_reducible apply oq_eqNil); (iterate 3 exact rfl)) | (apply oq_fn; exact rfl; try first | exact trivial | (and_intros <;> omega))) | ((with_reducible apply tl_id); first | (with_reducible apply tl_nil) | ((with_reducible apply u_s); (iterate 3 exact rfl); (with_reducible apply os_appendRows (hk := app_ok75) (rows := l.map shCells) (hr := fun D w1 hw1 => hr.ext hw1.ext.ext)); exact rfl; exact rfl; exact P0; exact sh_len l; exact rfl; exact sh_one l; exact Nat.le_refl _; omega; omega; intro b cap'; simp only [Nat.zero_add, List.nil_append]) | ((with_reducible apply u_q); (iterate 4 exact rfl)) | ((with_reducible apply u_s); (iterate 3 exact rfl))) | ((with_reducible apply os_x); exact rfl) | ((with_reducible apply ox_buildSlice); (iterate 4 exact rfl)) | ((with_reducible apply t_id); first | (with_reducible apply t_seq) | (apply t_region; kernel_rfl) | ((with_reducible apply t_condF); exact rfl) | (with_reducible apply t_ret) | (with_reducible apply t_skip)) | with_reducible apply q_thenN | ((with_reducible apply Norm.nil); exact rfl) | (with_reducible apply end_ret) | exact rvs_nil | (with_reducible apply rvs_cons) | ((with_reducible apply rv_tmp); exact rfl) | exact (rfl : (_ : Bool) = true) | (intro _; with_reducible apply tl_id))
  exact ⟨_, ⟨b, cap', rfl, rfl⟩, HpSub.refl _⟩
theorem cloneN (w : World) : Calls Try.prog 89 #[.slice none 0 0] w fun e w' => e = .returned (.slice none 0 0) ∧ Ext w w' := by
  refine enterQ (c := cx w 8) Try.func89 rfl rfl rfl rfl ?_
  repeat' (first | ((with_reducible apply oq_id); first | ((with_reducible apply oq_eqNilT); (iterate 3 exact rfl)) | (apply oq_fn; exact rfl; try first | exact trivial | (and_intros <;> omega))) | ((with_reducible apply tl_id); first | (with_reducible apply tl_nil) | ((with_reducible apply u_q); (iterate 4 exact rfl))) | ((with_reducible apply t_id); first | (with_reducible apply t_seq) | (apply t_region; kernel_rfl) | ((with_reducible apply t_condT); exact rfl) | (with_reducible apply t_ret)) | with_reducible apply q_thenN | with_reducible apply q_thenR | (with_reducible apply end_ret) | exact rvs_nil | (with_reducible apply rvs_cons) | ((with_reducible apply rv_tmp); exact rfl))
  all_goals rfl
theorem hp_skA {G R X : Hp} (h : HpSub R X) : HpSub (G ++ R) X := by
  induction G with
  | nil => exact h
  | cons x G ih => exact HpSub.skipX ih
theorem rowV_mk (xs : List Int) (o : Option (Nat × Nat)) : rwV (xs, o) = .slice (clA o) xs.length (clC o) := rfl
theorem hp_left1 {x : Nat × List Value × Tg} {G : Hp} : HpSub (x :: G) G := HpSub.skipX (HpSub.refl _)
theorem hp_last2 {G : Hp} {a z : Nat × List Value × Tg} : HpSub (G ++ [a, z]) (z :: G) := by
  obtain ⟨b, C, g⟩ := z; exact HpSub.cons (PA (Pick.tail (Pick.head _ _ _ _))) hp_left
theorem hp_last3 {G : Hp} {a a' z : Nat × List Value × Tg} : HpSub (G ++ [a, a', z]) (z :: G) := by
  obtain ⟨b, C, g⟩ := z; exact HpSub.cons (PA (Pick.tail (Pick.tail (Pick.head _ _ _ _)))) hp_left
theorem hp_last4 {G : Hp} {a a' a2 z : Nat × List Value × Tg} : HpSub (G ++ [a, a', a2, z]) (z :: G) := by
  obtain ⟨b, C, g⟩ := z; exact HpSub.cons (PA (Pick.tail (Pick.tail (Pick.tail (Pick.head _ _ _ _))))) hp_left
theorem hp_kA {A H G : Hp} (h : HpSub H G) : HpSub (A ++ H) (A ++ G) := by
  induction A with
  | nil => exact h
  | cons x A ih => obtain ⟨b, C, g⟩ := x; exact HpSub.cons P0 ih
/-- What try answers. -/
def TryP (g m : Nat) (cs : List (List Int)) (trip : Nat) (res : Option (List (List Int))) (v : Value) (H : Hp) : Prop :=
  ∃ R, (∀ r ∈ R, LrOk r) ∧ v = .bool res.isSome ∧ R.map Prod.fst = (match res with | some rs => cs.take trip ++ rs | none => cs) ∧ H = outH g m R
theorem tr_read {w : World} {A : Option Addr} {n : Nat} {l : List Tr} (h : RdS w 3 A n (l.map trCells)) {i : Nat} (hi : i < n) :
    ∃ b o x, A = some ⟨b, o, none⟩ ∧ b < w.heap.size ∧ l[i]? = some x ∧ w.cell? ⟨b, o + i * 3, none⟩ = some (.int .i64 x.fr) ∧ w.cell? ⟨b, o + i * 3 + 1, none⟩ = some (.int .i64 x.to) ∧ w.cell? ⟨b, o + i * 3 + 2, none⟩ = some (.int .i64 x.crew) := by
  obtain ⟨b, o, cs, hA, hb, hx, _, hc⟩ := h.row hi
  simp only [List.getElem?_map, Option.map_eq_some_iff] at hx
  obtain ⟨x, hx, rfl⟩ := hx
  exact ⟨b, o, x, hA, hb, hx, hc 0 _ rfl, hc 1 _ rfl, hc 2 _ rfl⟩
theorem row_split {R : List Row} {i : Nat} {r : Row} (h : R[i]? = some r) : ∃ R1 R2, R = R1 ++ r :: R2 ∧ R1.length = i := by
  obtain ⟨hi, rfl⟩ := List.getElem?_eq_some_iff.1 h
  refine ⟨R.take i, R.drop (i + 1), ?_, by simp; omega⟩
  rw [← List.drop_eq_getElem_cons hi, List.take_append_drop]
theorem dep_drop {ts : List Tr} {i : Nat} {x : Tr} (h : ts[i]? = some x) : dep (ts.drop i) = x.crew.toNat + 1 + dep (ts.drop (i + 1)) := by
  obtain ⟨hi, rfl⟩ := List.getElem?_eq_some_iff.1 h
  rw [List.drop_eq_getElem_cons hi]; rfl
theorem dep_pos (ts : List Tr) : 1 ≤ dep ts := by cases ts with
  | nil => exact Nat.le_refl _
  | cons x ts => show 1 ≤ x.crew.toNat + 1 + dep ts; omega
theorem try_T (d : Du) (hd : duB d) (mem m : Nat) (hmem : mem ≤ 1000) (hm : m ≤ 1000) (ts0 : List Tr) (hts : ts0.length = m) (hto : ∀ x ∈ ts0, trOk x) (bD bT bO bF bM g : Nat) (AT : Option Addr) (cT : Nat) :
    ∀ (f trip who : Nat) (l : List Sh) (R : List Row) (cur : List Int) (A : Option Addr) (n c : Nat) (w : World), R.length = m → (∀ r ∈ R, LrOk r) → trip ≤ m → (∀ j r, trip < j → R[j]? = some r → r.1 = []) → (∀ r, R[trip]? = some r → r.1 = cur) → (trip = m → cur = []) →
      (∀ x, ts0[trip]? = some x → (cur.length : Int) ≤ x.crew) → dep (ts0.drop trip) ≤ f + cur.length → n + f ≤ 900 → who ≤ 1000 → RdS w 3 A n (l.map shCells) → (A = none → n = 0 ∧ c = 0) → (0 < n → ∀ b o, A = some ⟨b, o, none⟩ → b ∉ (outH g m R).map Prod.fst) →
      TryW d mem m ts0 bD bT bO bF bM g AT cT w ((outH g m R).map Prod.fst) → Has w ⟨(outH g m R).map Prod.fst, []⟩ (outH g m R) w →
      Calls Try.prog 88 #[.int .i64 (trip : Nat), .int .i64 (who : Nat), .slice A n c, .pointer (some ⟨bD, 0, none⟩), .pointer (some ⟨bT, 0, none⟩), .pointer (some ⟨bO, 0, none⟩), .pointer (some ⟨bF, 0, none⟩), .pointer (some ⟨bM, 0, none⟩)] w fun e w' => ∃ v H1, e = .returned v ∧ TryP g m (R.map Prod.fst) trip (tryF d mem f (ts0.drop trip) cur who l) v H1 ∧ Has w ⟨(outH g m R).map Prod.fst, []⟩ H1 w' := by
  intro f
  induction f with
  | zero =>
    intro trip who l R cur A n c w hR hok htr hrest hcur hc0 hcl hdep
    exfalso
    by_cases h : trip < m
    · obtain ⟨x, hx⟩ : ∃ x, ts0[trip]? = some x := ⟨_, List.getElem?_eq_getElem (by omega)⟩
      have h1 := dep_drop hx
      have h2 := hcl x hx
      have h3 := dep_pos (ts0.drop (trip + 1))
      omega
    · have h1 := hc0 (by omega)
      subst h1
      have h3 := dep_pos (ts0.drop trip)
      simp at hdep
      omega
  | succ f ih =>
  intro trip who l R cur A n c w hR hok htr hrest hcur hc0 hcl hdep hnf hwho hr hA hAm hW hw
  have hl := hr.len
  simp only [List.length_map] at hl
  refine (enter (c := cxM ((outH g m R).map Prod.fst) w 88) (H := outH g m R) (F := frOf 0 _) (PV := fun v H => ∃ H1, TryP g m (R.map Prod.fst) trip (tryF d mem (f + 1) (ts0.drop trip) cur who l) v H1 ∧ HpW H H1) Try.func88 rfl rfl rfl (fun d v hv => (look_frOf _ 0 d v hv).2) hw ?_).mono fun e w' ⟨v, H', h1, ⟨H1, h2, h3⟩, h4⟩ => ⟨v, H1, h1, h2, h3 _ _ _ h4⟩
  have HF := fun w1 h => fitsR_calls A n c l w1 h hA (by omega)
  have hsame : ∀ (H : Hp), tryF d mem (f + 1) (ts0.drop trip) cur who l = none → HpSub H (outH g m R) → ∃ H1, TryP g m (R.map Prod.fst) trip (tryF d mem (f + 1) (ts0.drop trip) cur who l) (.bool false) H1 ∧ HpW H H1 := fun H h1 h2 => ⟨_, ⟨R, hok, by rw [h1]; rfl, by rw [h1], rfl⟩, h2.w⟩
  refine t_cut (ι := Unit) (fun _ => [(0, .int .i64 (trip : Nat)), (1, .int .i64 (who : Nat)), (2, .slice A n c), (3, .pointer (some ⟨bD, 0, none⟩)), (4, .pointer (some ⟨bT, 0, none⟩)), (5, .pointer (some ⟨bO, 0, none⟩)), (6, .pointer (some ⟨bF, 0, none⟩)), (7, .pointer (some ⟨bM, 0, none⟩))]) (fun _ => outH g m R) (fun _ => True) ?_ ?_
  · repeat' (first | ((with_reducible apply oq_id); first | (apply oq_fn; exact rfl; try first | exact trivial | (and_intros <;> omega))) | ((with_reducible apply tl_id); first | (with_reducible apply tl_nil) | ((with_reducible apply u_q); (iterate 4 exact rfl))) | ((with_reducible apply t_id); first | (apply t_region; kernel_rfl)))
    all_goals exact ⟨rfl, (), trivial, by (repeat (first | exact FrSub.nil | (apply FrSub.cons; exact rfl))), by (repeat (first | exact HpSub.refl _ | (apply HpSub.consE; (repeat (first | exact P0 | apply P1 | apply PA)); exact rfl) | apply hp_kA | apply HpSub.skipX | apply hp_skA | exact HpSub.nil))⟩
  rintro ⟨⟩ -
  by_cases hRos : Ros l
  rotate_left
  · have hno : tryF d mem (f + 1) (ts0.drop trip) cur who l = none := tryF_bad (by unfold okB; rw [decide_eq_false hRos]; rfl)
    rw [decide_eq_false hRos] at HF
    repeat' (first | ((with_reducible apply oq_id); first | (apply oq_fn; exact rfl; try first | exact trivial | (and_intros <;> omega)) | ((with_reducible apply oq_call (k := 84) (hc := Try.call84)); exact rfl; exact rfl; exact fun D w1 hw1 => HF w1 (hr.extM hw1.ext hAm))) | ((with_reducible apply tl_id); first | (with_reducible apply tl_nil) | ((with_reducible apply u_q); (iterate 4 exact rfl)) | ((with_reducible apply u_skip); (iterate 3 exact rfl))) | ((with_reducible apply t_id); first | (with_reducible apply t_seq) | (apply t_region; kernel_rfl) | ((with_reducible apply t_condT); exact rfl) | (with_reducible apply t_ret)) | with_reducible apply q_thenN | with_reducible apply q_thenR | (with_reducible apply end_ret) | exact rvs_nil | (with_reducible apply rvs_cons) | ((with_reducible apply rv_tmp); exact rfl))
    all_goals exact hsame _ hno (by (repeat (first | exact HpSub.refl _ | (apply HpSub.consE; (repeat (first | exact P0 | apply P1 | apply PA)); exact rfl) | apply hp_kA | apply HpSub.skipX | apply hp_skA | exact HpSub.nil)))
  rw [decide_eq_true hRos] at HF
  obtain ⟨T, hT⟩ : ∃ T, tiV d l = T := ⟨_, rfl⟩
  by_cases hTl : 0 < T.length
  · have hno : tryF d mem (f + 1) (ts0.drop trip) cur who l = none := tryF_bad (by
      unfold okB
      rw [hT, decide_eq_true hRos]
      cases T with
      | nil => simp at hTl
      | cons _ _ => rfl)
    repeat' (first | ((with_reducible apply oq_id); first | ((with_reducible apply oq_gtrT); exact rfl; exact rfl; omega) | (apply oq_fn; exact rfl; try first | exact trivial | (and_intros <;> omega)) | ((with_reducible apply oq_loadAgg); exact rfl; exact rfl) | ((with_reducible apply oq_call (k := 84) (hc := Try.call84)); exact rfl; exact rfl; exact fun D w1 hw1 => HF w1 (hr.extM hw1.ext hAm))) | ((with_reducible apply tl_id); first | (with_reducible apply tl_nil) | ((with_reducible apply u_s); (iterate 3 exact rfl); (with_reducible apply os_callF (PV := TiO T) (k := 82) (hc := Try.call82)); exact rfl; exact rfl; exact fun D w1 hw1 => (by rw [← hT]; exact tiredR_T d hd A n c l w1 (hr.extM hw1.ext hAm) hA (by omega) hRos); rintro v H' ⟨x0, hx0, rfl, rfl⟩) | ((with_reducible apply u_q); (iterate 4 exact rfl))) | ((with_reducible apply rd_id); first | (apply Rd.old; (first | exact hW.d0 | exact hW.d1 | exact hW.d2 | exact hW.d3 | exact hW.t0 | exact hW.o0 | exact hW.f0 | exact hW.m0 | exact e0 | exact e1 | exact e2); first | exact hW.nD | exact hW.nT | exact hW.nO | exact hW.nF | exact hW.nM | exact hnx)) | ((with_reducible apply t_id); first | (with_reducible apply t_seq) | (apply t_region; kernel_rfl) | ((with_reducible apply t_condT); exact rfl) | (with_reducible apply t_ret)) | with_reducible apply q_thenN | with_reducible apply q_thenR | exact Rdn.zero | apply Rdn.succ | (with_reducible apply end_ret) | exact rvs_nil | (with_reducible apply rvs_cons) | ((with_reducible apply rv_tmp); exact rfl))
    all_goals exact hsame _ hno (by (repeat (first | exact HpSub.refl _ | (apply HpSub.consE; (repeat (first | exact P0 | apply P1 | apply PA)); exact rfl) | apply hp_kA | apply HpSub.skipX | apply hp_skA | exact HpSub.nil)))
  have hyes : okB d l = true := by
    unfold okB
    rw [hT, decide_eq_true hRos, List.length_eq_zero_iff.1 (show T.length = 0 by omega)]; rfl
  refine t_cut (ι := Unit) (fun _ => [(0, .int .i64 (trip : Nat)), (1, .int .i64 (who : Nat)), (2, .slice A n c), (3, .pointer (some ⟨bD, 0, none⟩)), (4, .pointer (some ⟨bT, 0, none⟩)), (5, .pointer (some ⟨bO, 0, none⟩)), (6, .pointer (some ⟨bF, 0, none⟩)), (7, .pointer (some ⟨bM, 0, none⟩))]) (fun _ => outH g m R) (fun _ => True) ?_ ?_
  · repeat' (first | ((with_reducible apply oq_id); first | ((with_reducible apply oq_gtrF); exact rfl; exact rfl; omega) | (apply oq_fn; exact rfl; try first | exact trivial | (and_intros <;> omega)) | ((with_reducible apply oq_loadAgg); exact rfl; exact rfl) | ((with_reducible apply oq_call (k := 84) (hc := Try.call84)); exact rfl; exact rfl; exact fun D w1 hw1 => HF w1 (hr.extM hw1.ext hAm))) | ((with_reducible apply tl_id); first | (with_reducible apply tl_nil) | ((with_reducible apply u_s); (iterate 3 exact rfl); (with_reducible apply os_callF (PV := TiO T) (k := 82) (hc := Try.call82)); exact rfl; exact rfl; exact fun D w1 hw1 => (by rw [← hT]; exact tiredR_T d hd A n c l w1 (hr.extM hw1.ext hAm) hA (by omega) hRos); rintro v H' ⟨x0, hx0, rfl, rfl⟩) | ((with_reducible apply u_q); (iterate 4 exact rfl))) | ((with_reducible apply rd_id); first | (apply Rd.old; (first | exact hW.d0 | exact hW.d1 | exact hW.d2 | exact hW.d3 | exact hW.t0 | exact hW.o0 | exact hW.f0 | exact hW.m0 | exact e0 | exact e1 | exact e2); first | exact hW.nD | exact hW.nT | exact hW.nO | exact hW.nF | exact hW.nM | exact hnx)) | ((with_reducible apply t_id); first | (with_reducible apply t_seq) | (apply t_region; kernel_rfl) | ((with_reducible apply t_condF); exact rfl) | (with_reducible apply t_skip)) | with_reducible apply q_thenN | exact Rdn.zero | apply Rdn.succ)
    all_goals exact ⟨rfl, (), trivial, by (repeat (first | exact FrSub.nil | (apply FrSub.cons; exact rfl))), by (repeat (first | exact HpSub.refl _ | (apply HpSub.consE; (repeat (first | exact P0 | apply P1 | apply PA)); exact rfl) | apply hp_kA | apply HpSub.skipX | apply hp_skA | exact HpSub.nil))⟩
  rintro ⟨⟩ -
  by_cases htm : trip = m
  · have hdr : ts0.drop trip = [] := List.drop_of_length_le (by omega)
    rw [hdr, tryF_end hyes]
    repeat' (first | ((with_reducible apply oq_id); first | ((with_reducible apply oq_eqlT); exact rfl; exact rfl; omega) | (apply oq_fn; exact rfl; try first | exact trivial | (and_intros <;> omega)) | ((with_reducible apply oq_load); exact rfl; exact rfl)) | ((with_reducible apply tl_id); first | (with_reducible apply tl_nil) | ((with_reducible apply u_q); (iterate 4 exact rfl))) | ((with_reducible apply rd_id); first | (apply Rd.old; (first | exact hW.d0 | exact hW.d1 | exact hW.d2 | exact hW.d3 | exact hW.t0 | exact hW.o0 | exact hW.f0 | exact hW.m0 | exact e0 | exact e1 | exact e2); first | exact hW.nD | exact hW.nT | exact hW.nO | exact hW.nF | exact hW.nM | exact hnx)) | ((with_reducible apply t_id); first | (with_reducible apply t_seq) | (apply t_region; kernel_rfl) | ((with_reducible apply t_condT); exact rfl) | (with_reducible apply t_ret)) | with_reducible apply q_thenN | with_reducible apply q_thenR | (with_reducible apply end_ret) | exact rvs_nil | (with_reducible apply rvs_cons) | ((with_reducible apply rv_tmp); exact rfl))
    all_goals exact ⟨_, ⟨R, hok, rfl, by simp only [List.append_nil]; rw [List.take_of_length_le (by simp; omega)], rfl⟩, HpW.refl _⟩
  refine t_cut (ι := Unit) (fun _ => [(0, .int .i64 (trip : Nat)), (1, .int .i64 (who : Nat)), (2, .slice A n c), (3, .pointer (some ⟨bD, 0, none⟩)), (4, .pointer (some ⟨bT, 0, none⟩)), (5, .pointer (some ⟨bO, 0, none⟩)), (6, .pointer (some ⟨bF, 0, none⟩)), (7, .pointer (some ⟨bM, 0, none⟩))]) (fun _ => outH g m R) (fun _ => True) ?_ ?_
  · repeat' (first | ((with_reducible apply oq_id); first | ((with_reducible apply oq_eqlF); exact rfl; exact rfl; omega) | (apply oq_fn; exact rfl; try first | exact trivial | (and_intros <;> omega)) | ((with_reducible apply oq_load); exact rfl; exact rfl)) | ((with_reducible apply tl_id); first | (with_reducible apply tl_nil) | ((with_reducible apply u_q); (iterate 4 exact rfl))) | ((with_reducible apply rd_id); first | (apply Rd.old; (first | exact hW.d0 | exact hW.d1 | exact hW.d2 | exact hW.d3 | exact hW.t0 | exact hW.o0 | exact hW.f0 | exact hW.m0 | exact e0 | exact e1 | exact e2); first | exact hW.nD | exact hW.nT | exact hW.nO | exact hW.nF | exact hW.nM | exact hnx)) | ((with_reducible apply t_id); first | (with_reducible apply t_seq) | (apply t_region; kernel_rfl) | ((with_reducible apply t_condF); exact rfl) | (with_reducible apply t_skip)) | with_reducible apply q_thenN)
    all_goals exact ⟨rfl, (), trivial, by (repeat (first | exact FrSub.nil | (apply FrSub.cons; exact rfl))), by (repeat (first | exact HpSub.refl _ | (apply HpSub.consE; (repeat (first | exact P0 | apply P1 | apply PA)); exact rfl) | apply hp_kA | apply HpSub.skipX | apply hp_skA | exact HpSub.nil))⟩
  rintro ⟨⟩ -
  have htl : trip < m := by omega
  obtain ⟨bx, ox, x, hATe, hbx, hx, e0, e1, e2⟩ := tr_read hW.ts_ htl
  have hnx := hW.nA (by omega) _ _ hATe
  subst hATe
  have hxo := hto x (List.mem_of_getElem? hx)
  unfold trOk at hxo
  have hcx := hcl x hx
  have hdx := dep_drop hx
  have hdrop : ts0.drop trip = x :: ts0.drop (trip + 1) := by
    obtain ⟨h1, h2⟩ := List.getElem?_eq_some_iff.1 hx
    rw [List.drop_eq_getElem_cons h1, h2]
  obtain ⟨⟨cur', o⟩, hrow⟩ : ∃ r, R[trip]? = some r := ⟨_, List.getElem?_eq_getElem (by omega)⟩
  obtain rfl : cur' = cur := hcur _ hrow
  have hcs : (R.map Prod.fst).take (trip + 1) = (R.map Prod.fst).take trip ++ [cur'] := by
    rw [List.take_add_one, List.getElem?_map, hrow]; rfl
  obtain ⟨cs, hcse⟩ : ∃ cs, R.map Prod.fst = cs := ⟨_, rfl⟩
  have hcsl : cs.length = m := by rw [← hcse, List.length_map, hR]
  have hct : cs[trip]? = some cur' := by rw [← hcse, List.getElem?_map, hrow]; rfl
  have hcr : ∀ j r, trip < j → cs[j]? = some r → r = [] := fun j r hj hr => by
    rw [← hcse, List.getElem?_map] at hr
    obtain ⟨r', h1, rfl⟩ := Option.map_eq_some_iff.1 hr
    exact hrest j r' hj h1
  rw [hcse] at hcs ⊢
  have hlen : ∀ R' : List Row, R'.map Prod.fst = cs → R'.length = m := fun R' h => by rw [← hcsl, ← h, List.length_map]
  have hsp : ∀ R' : List Row, R'.map Prod.fst = cs → ∃ R1 o R2, R' = R1 ++ (cur', o) :: R2 ∧ R1.length = trip := fun R' h => by
    have h1 := hct
    rw [← h, List.getElem?_map] at h1
    obtain ⟨⟨c', o'⟩, h2, h3⟩ := Option.map_eq_some_iff.1 h1
    simp only at h3
    subst h3
    obtain ⟨R1, R2, h4, h5⟩ := row_split h2
    exact ⟨R1, o', R2, h4, h5⟩
  refine t_cut (ι := Nat) (fun b12 => [(0, .int .i64 (trip : Nat)), (1, .int .i64 (who : Nat)), (2, .slice A n c), (3, .pointer (some ⟨bD, 0, none⟩)), (4, .pointer (some ⟨bT, 0, none⟩)), (5, .pointer (some ⟨bO, 0, none⟩)), (6, .pointer (some ⟨bF, 0, none⟩)), (7, .pointer (some ⟨bM, 0, none⟩)), (12, .pointer (some ⟨b12, 0, none⟩))]) (fun b12 => (b12, [.int .i64 x.fr, .int .i64 x.to, .int .i64 x.crew], some (114, 3, 1)) :: outH g m R) (fun _ => True) ?_ ?_
  · repeat' (first | ((with_reducible apply oq_id); first | (focus ((with_reducible apply oq_indexAddrN); (iterate 4 exact rfl); omega)) | (apply oq_fn; exact rfl; try first | exact trivial | (and_intros <;> omega)) | ((with_reducible apply oq_load); exact rfl; exact rfl) | ((with_reducible apply oq_loadAgg); exact rfl; exact rfl)) | ((with_reducible apply tl_id); first | (with_reducible apply tl_nil) | ((with_reducible apply u_q); (iterate 4 exact rfl)) | ((with_reducible apply u_s0); exact rfl; exact rfl) | ((with_reducible apply u_s); (iterate 3 exact rfl))) | ((with_reducible apply os_id); first | ((with_reducible apply os_x); exact rfl) | ((with_reducible apply os_storeAgg); (iterate 5 exact rfl))) | ((with_reducible apply ox_alloc); exact rfl; intro _) | ((with_reducible apply rd_id); first | (apply Rd.old; (first | exact hW.d0 | exact hW.d1 | exact hW.d2 | exact hW.d3 | exact hW.t0 | exact hW.o0 | exact hW.f0 | exact hW.m0 | exact e0 | exact e1 | exact e2); first | exact hW.nD | exact hW.nT | exact hW.nO | exact hW.nF | exact hW.nM | exact hnx)) | ((with_reducible apply t_id); first | (apply t_region; kernel_rfl)) | exact P0 | exact Rdn.zero | apply Rdn.succ | ((with_reducible apply Norm.nil); exact rfl) | ((with_reducible apply Norm.cons); exact rfl) | exact Nat.le_of_ble_eq_true rfl)
    all_goals exact ⟨rfl, _, trivial, by (repeat (first | exact FrSub.nil | (apply FrSub.cons; exact rfl))), by (repeat (first | exact HpSub.refl _ | (apply HpSub.consE; (repeat (first | exact P0 | apply P1 | apply PA)); exact rfl) | apply hp_kA | apply HpSub.skipX | apply hp_skA | exact HpSub.nil))⟩
  rintro b12 -
  try dsimp only
  obtain ⟨R1, o, R2, hRe, hR1⟩ := hsp R hcse
  have hA1 : (R1.map rwV).length = trip := by rw [List.length_map, hR1]
  by_cases hc : (cur'.length : Int) = x.crew
  · rw [hdrop, tryF_full hyes hc]
    refine t_seq ?_
    refine t_cut (ι := Unit) (fun _ => [(0, .int .i64 (trip : Nat)), (1, .int .i64 (who : Nat)), (2, .slice A n c), (3, .pointer (some ⟨bD, 0, none⟩)), (4, .pointer (some ⟨bT, 0, none⟩)), (5, .pointer (some ⟨bO, 0, none⟩)), (6, .pointer (some ⟨bF, 0, none⟩)), (7, .pointer (some ⟨bM, 0, none⟩)), (12, .pointer (some ⟨b12, 0, none⟩)), (38, .bool true)]) (fun _ => (b12, [.int .i64 x.fr, .int .i64 x.to, .int .i64 x.crew], some (114, 3, 1)) :: outH g m R) (fun _ => True) ?_ ?_
    · refine t_subW (HpSub.front (by rw [hRe]; exact out_to0 g m R1 (cur', o) R2)).w ?_
      unfold outR
      repeat' (first | ((with_reducible apply oq_id); first | (focus ((with_reducible apply oq_indexAddrN); (iterate 4 exact rfl); omega)) | ((with_reducible apply oq_eqlT); exact rfl; exact rfl; omega) | (apply oq_fn; exact rfl; try first | exact trivial | (and_intros <;> omega)) | ((with_reducible apply oq_load); exact rfl; exact rfl)) | ((with_reducible apply gx_id); first | (with_reducible apply v_nil) | ((with_reducible apply v_q); (iterate 3 exact rfl))) | ((with_reducible apply rd_id); first | (apply Rd.old; (first | exact hW.d0 | exact hW.d1 | exact hW.d2 | exact hW.d3 | exact hW.t0 | exact hW.o0 | exact hW.f0 | exact hW.m0 | exact e0 | exact e1 | exact e2); first | exact hW.nD | exact hW.nT | exact hW.nO | exact hW.nF | exact hW.nM | exact hnx) | (apply Rd.own; (repeat (first | exact P0 | apply P1 | apply PA)); exact rwV_at hA1; done) | (apply Rd.own; (repeat (first | exact P0 | apply P1 | apply PA)); exact rfl; done)) | ((with_reducible apply t_id); first | (apply t_mix (id := 6) [0, 1, 2, 3, 4, 5, 6, 7] 0 #[false, false, false, false, false, false, false, false]; kernel_rfl; kernel_rfl; exact rfl)) | ((with_reducible apply al_id); first | (apply al_done; decide +kernel)))
      all_goals exact ⟨rfl, (), trivial, by (repeat (first | exact FrSub.nil | (apply FrSub.cons; exact rfl))), by (rw [hRe]; exact HpSub.front (out_of0 g m R1 (cur', o) R2))⟩
    rintro ⟨⟩ -
    obtain ⟨res, hres⟩ : ∃ r, tryF d mem f (ts0.drop (trip + 1)) [] 0 l = r := ⟨_, rfl⟩
    rw [hres]
    repeat' (first | ((with_reducible apply oq_id); first | ((with_reducible apply oq_addE (k := ((trip + 1 : Nat) : Int))); exact rfl; exact rfl; omega) | (apply oq_fn; exact rfl; try first | exact trivial | (and_intros <;> omega)) | ((with_reducible apply oq_load); exact rfl; exact rfl)) | ((with_reducible apply tl_id); first | (with_reducible apply tl_nil) | ((with_reducible apply u_s); (iterate 3 exact rfl); (with_reducible apply os_callM (G := outH g m R) (R := [(b12, [.int .i64 x.fr, .int .i64 x.to, .int .i64 x.crew], some (114, 3, 1))]) (PV := TryP g m cs (trip + 1) res) (k := 88) (hc := Try.call88)); exact rfl; exact rfl; exact hp_comm [_] _; exact fun D w1 hw1 hw2 => (by have h := ih (trip + 1) 0 l R [] A n c w1 hR hok (by omega) (fun j r hj => hrest j r (by omega)) (fun r hr' => hrest (trip + 1) r (by omega) hr') (fun _ => rfl) (fun y hy => by have := hto y (List.mem_of_getElem? hy); unfold trOk at this; simp only [List.length_nil]; omega) (by simp only [List.length_nil]; omega) (by omega) (by omega) (hr.extM hw1.ext hAm) hA hAm (hW.next (by omega) hw1 fun b hb => mem_fst (X := [_]) hb) hw2; rw [hres, hcse] at h; exact h); rintro v H1 ⟨R', hok', rfl, hcs', rfl⟩) | ((with_reducible apply u_q); (iterate 4 exact rfl))) | ((with_reducible apply rd_id); first | (apply Rd.old; (first | exact hW.d0 | exact hW.d1 | exact hW.d2 | exact hW.d3 | exact hW.t0 | exact hW.o0 | exact hW.f0 | exact hW.m0 | exact e0 | exact e1 | exact e2); first | exact hW.nD | exact hW.nT | exact hW.nO | exact hW.nF | exact hW.nM | exact hnx)) | ((with_reducible apply t_id); first | (with_reducible apply t_seq) | (apply t_region; kernel_rfl) | ((with_reducible apply t_condT); exact rfl) | (with_reducible apply t_ret)) | with_reducible apply q_thenN | with_reducible apply q_thenR | (with_reducible apply end_ret) | exact rvs_nil | (with_reducible apply rvs_cons) | ((with_reducible apply rv_tmp); exact rfl))
    all_goals (refine ⟨_, ⟨R', hok', ?_, ?_, rfl⟩, (HpSub.w hp_left)⟩)
    · cases res <;> rfl
    · rw [hcs']
      cases res with
      | none => rfl
      | some rs => simp only [Option.map_some, hcs, List.append_assoc, List.cons_append, List.nil_append]
  rw [hdrop, tryF_loop hyes hc]
  obtain ⟨Fk, hFk⟩ : ∃ F : Nat → Option (List (List Int)), (fun k : Nat => tryF d mem f (x :: ts0.drop (trip + 1)) (cur' ++ [(k : Int)]) (k + 1) (l ++ [⟨(k : Int), x.fr, x.to⟩])) = F := ⟨_, rfl⟩
  rw [hFk]
  have hFe : ∀ k : Nat, tryF d mem f (x :: ts0.drop (trip + 1)) (cur' ++ [(k : Int)]) (k + 1) (l ++ [⟨(k : Int), x.fr, x.to⟩]) = Fk k := fun k => congrFun hFk k
  refine t_cut (ι := Unit) (fun _ => [(0, .int .i64 (trip : Nat)), (1, .int .i64 (who : Nat)), (2, .slice A n c), (3, .pointer (some ⟨bD, 0, none⟩)), (4, .pointer (some ⟨bT, 0, none⟩)), (5, .pointer (some ⟨bO, 0, none⟩)), (6, .pointer (some ⟨bF, 0, none⟩)), (7, .pointer (some ⟨bM, 0, none⟩)), (12, .pointer (some ⟨b12, 0, none⟩))]) (fun _ => (b12, [.int .i64 x.fr, .int .i64 x.to, .int .i64 x.crew], some (114, 3, 1)) :: outH g m R) (fun _ => True) ?_ ?_
  · refine t_subW (HpSub.front (by rw [hRe]; exact out_to0 g m R1 (cur', o) R2)).w ?_
    unfold outR
    repeat' (first | ((with_reducible apply oq_id); first | (focus ((with_reducible apply oq_indexAddrN); (iterate 4 exact rfl); omega)) | ((with_reducible apply oq_eqlF); exact rfl; exact rfl; omega) | (apply oq_fn; exact rfl; try first | exact trivial | (and_intros <;> omega)) | ((with_reducible apply oq_load); exact rfl; exact rfl)) | ((with_reducible apply gx_id); first | (with_reducible apply v_nil) | ((with_reducible apply v_q); (iterate 3 exact rfl))) | ((with_reducible apply rd_id); first | (apply Rd.old; (first | exact hW.d0 | exact hW.d1 | exact hW.d2 | exact hW.d3 | exact hW.t0 | exact hW.o0 | exact hW.f0 | exact hW.m0 | exact e0 | exact e1 | exact e2); first | exact hW.nD | exact hW.nT | exact hW.nO | exact hW.nF | exact hW.nM | exact hnx) | (apply Rd.own; (repeat (first | exact P0 | apply P1 | apply PA)); exact rwV_at hA1; done) | (apply Rd.own; (repeat (first | exact P0 | apply P1 | apply PA)); exact rfl; done)) | ((with_reducible apply t_id); first | (apply t_mix (id := 6) [0, 1, 2, 3, 4, 5, 6, 7] 0 #[false, false, false, false, false, false, false, false]; kernel_rfl; kernel_rfl; exact rfl) | (with_reducible apply t_seq) | ((with_reducible apply t_condF); exact rfl) | (with_reducible apply t_skip)) | with_reducible apply q_thenN | ((with_reducible apply al_id); first | (apply al_done; decide +kernel)))
    all_goals exact ⟨rfl, (), trivial, by (repeat (first | exact FrSub.nil | (apply FrSub.cons; exact rfl))), by (rw [hRe]; exact HpSub.front (out_of0 g m R1 (cur', o) R2))⟩
  rintro ⟨⟩ -
  repeat' (first | ((with_reducible apply t_id); first | (with_reducible apply t_seq) | (with_reducible apply t_block)))
  apply t_loopK (GH := []) (ι := Nat × List Row) [0, 2, 3, 4, 5, 6, 7, 12] (fun z => [(1, .int .i64 (z.1 : Nat))]) (fun z => (b12, [.int .i64 x.fr, .int .i64 x.to, .int .i64 x.crew], some (114, 3, 1)) :: outH g m z.2) (fun z => who ≤ z.1 ∧ (z.1 ≤ mem ∨ z.1 = who) ∧ z.2.map Prod.fst = cs ∧ (∀ r ∈ z.2, LrOk r) ∧ (List.range' who (mem - who)).findSome? Fk = (List.range' z.1 (mem - z.1)).findSome? Fk) (fun z => mem - z.1) ((who, R))
  (repeat (first | exact KeepF.nil | (apply KeepF.cons; exact rfl) | apply KeepF.skip))
  (repeat (first | exact FrSub.nil | (apply FrSub.cons; exact rfl)))
  ((try simp only [List.append_nil]); (repeat (first | exact HpSub.refl _ | (apply HpSub.consE; (repeat (first | exact P0 | apply P1 | apply PA)); exact rfl) | apply hp_kA | apply HpSub.skipX | apply hp_skA | exact HpSub.nil)))
  · exact ⟨Nat.le_refl _, .inr rfl, hcse, hok, rfl⟩
  clear hRe hR1 hA1 R1 R2 o
  rintro ⟨k, R3⟩ ⟨p1, p2, p3, p4, p5⟩
  simp only at p1 p2 p3 p4 p5
  try dsimp only
  try simp only [List.append_nil]
  by_cases hk : k < mem
  rotate_left
  · rw [p5, some_end (by omega)]
    repeat' (first | ((with_reducible apply oq_id); first | ((with_reducible apply oq_lssF); exact rfl; exact rfl; omega) | (apply oq_fn; exact rfl; try first | exact trivial | (and_intros <;> omega)) | ((with_reducible apply oq_load); exact rfl; exact rfl)) | ((with_reducible apply tl_id); first | (with_reducible apply tl_nil) | ((with_reducible apply u_q); (iterate 4 exact rfl))) | ((with_reducible apply rd_id); first | (apply Rd.old; (first | exact hW.d0 | exact hW.d1 | exact hW.d2 | exact hW.d3 | exact hW.t0 | exact hW.o0 | exact hW.f0 | exact hW.m0 | exact e0 | exact e1 | exact e2); first | exact hW.nD | exact hW.nT | exact hW.nO | exact hW.nF | exact hW.nM | exact hnx)) | ((with_reducible apply t_id); first | (with_reducible apply t_seq) | (apply t_region; kernel_rfl) | ((with_reducible apply t_condF); exact rfl) | (with_reducible apply t_ret) | (with_reducible apply t_exit)) | with_reducible apply q_thenN | with_reducible apply q_thenE | ((with_reducible apply q_blockE); exact rfl) | (with_reducible apply end_ret) | exact rvs_nil | (with_reducible apply rvs_cons) | ((with_reducible apply rv_tmp); exact rfl))
    all_goals exact ⟨_, ⟨R3, p4, rfl, p3, rfl⟩, HpSub.w hp_left1⟩
  obtain ⟨R1, o, R2, hRe, hR1⟩ := hsp R3 p3
  have hA1 : (R1.map rwV).length = trip := by rw [List.length_map, hR1]
  have hro := p4 (cur', o) (by rw [hRe]; simp)
  unfold LrOk at hro
  simp only at hro
  refine t_cut (ι := Unit) (fun _ => [(0, .int .i64 (trip : Nat)), (1, .int .i64 (k : Nat)), (2, .slice A n c), (3, .pointer (some ⟨bD, 0, none⟩)), (4, .pointer (some ⟨bT, 0, none⟩)), (5, .pointer (some ⟨bO, 0, none⟩)), (6, .pointer (some ⟨bF, 0, none⟩)), (7, .pointer (some ⟨bM, 0, none⟩)), (12, .pointer (some ⟨b12, 0, none⟩))]) (fun _ => (b12, [.int .i64 x.fr, .int .i64 x.to, .int .i64 x.crew], some (114, 3, 1)) :: outH g m R3) (fun _ => True) ?_ ?_
  · repeat' (first | ((with_reducible apply oq_id); first | ((with_reducible apply oq_lssT); exact rfl; exact rfl; omega) | (apply oq_fn; exact rfl; try first | exact trivial | (and_intros <;> omega)) | ((with_reducible apply oq_load); exact rfl; exact rfl)) | ((with_reducible apply tl_id); first | (with_reducible apply tl_nil) | ((with_reducible apply u_q); (iterate 4 exact rfl))) | ((with_reducible apply rd_id); first | (apply Rd.old; (first | exact hW.d0 | exact hW.d1 | exact hW.d2 | exact hW.d3 | exact hW.t0 | exact hW.o0 | exact hW.f0 | exact hW.m0 | exact e0 | exact e1 | exact e2); first | exact hW.nD | exact hW.nT | exact hW.nO | exact hW.nF | exact hW.nM | exact hnx)) | ((with_reducible apply t_id); first | (with_reducible apply t_seq) | (apply t_region; kernel_rfl) | ((with_reducible apply t_condT); exact rfl) | (with_reducible apply t_skip)) | with_reducible apply q_thenN)
    all_goals exact ⟨rfl, (), trivial, by (repeat (first | exact FrSub.nil | (apply FrSub.cons; exact rfl))), by (repeat (first | exact HpSub.refl _ | (apply HpSub.consE; (repeat (first | exact P0 | apply P1 | apply PA)); exact rfl) | apply hp_kA | apply HpSub.skipX | apply hp_skA | exact HpSub.nil))⟩
  rintro ⟨⟩ -
  refine t_seq ?_
  refine t_block ?_
  refine t_cut (ι := Nat × Nat) (fun _ => [(0, .int .i64 (trip : Nat)), (1, .int .i64 (k : Nat)), (2, .slice A n c), (3, .pointer (some ⟨bD, 0, none⟩)), (4, .pointer (some ⟨bT, 0, none⟩)), (5, .pointer (some ⟨bO, 0, none⟩)), (6, .pointer (some ⟨bF, 0, none⟩)), (7, .pointer (some ⟨bM, 0, none⟩)), (12, .pointer (some ⟨b12, 0, none⟩))]) (fun z => (b12, [.int .i64 x.fr, .int .i64 x.to, .int .i64 x.crew], some (114, 3, 1)) :: outR g m R1 (cur' ++ [(k : Int)], some z) R2) (fun _ => True) ?_ ?_
  · refine t_subW (HpSub.front (by rw [hRe]; exact out_to0 g m R1 (cur', o) R2)).w ?_
    unfold outR rowH
    rw [rowV_mk]
    have hpc := hro.2
    rcases o with _ | ⟨go, co⟩
    · obtain rfl := List.length_eq_zero_iff.1 (hro.1 rfl)
      simp only [clA, clC, clH, List.nil_append, List.length_nil]
      repeat' (first | ((with_reducible apply oq_id); first | (focus ((with_reducible apply oq_indexAddrN); (iterate 4 exact rfl); omega)) | (apply oq_fn; exact rfl; try first | exact trivial | (and_intros <;> omega)) | ((with_reducible apply oq_load); exact rfl; exact rfl)) | ((with_reducible apply gx_id); first | (with_reducible apply v_nil) | ((with_reducible apply v_q); (iterate 3 exact rfl))) | ((with_reducible apply os_id); first | ((with_reducible apply (os_storeV hA1)); (iterate 4 exact rfl); (repeat (first | exact P0 | apply P1 | apply PA))) | ((with_reducible apply os_appendNil (hk := app_ok41)); exact rfl; exact rfl)) | ((with_reducible apply ox_buildSlice1); (iterate 6 exact rfl); intro _) | ((with_reducible apply ai_id); first | ((with_reducible apply ai_q); (iterate 5 exact rfl)) | ((with_reducible apply ai_x); (iterate 5 exact rfl)) | ((with_reducible apply ai_n0); (iterate 3 exact rfl)) | ((with_reducible apply ai_n); (iterate 4 exact rfl))) | ((with_reducible apply al_keep); focus (repeat (first | exact HpSub.refl _ | (apply HpSub.cons; (repeat (first | exact P0 | apply P1 | apply PA))) | apply HpSub.skipX | exact HpSub.nil))) | ((with_reducible apply rd_id); first | (apply Rd.old; (first | exact hW.d0 | exact hW.d1 | exact hW.d2 | exact hW.d3 | exact hW.t0 | exact hW.o0 | exact hW.f0 | exact hW.m0 | exact e0 | exact e1 | exact e2); first | exact hW.nD | exact hW.nT | exact hW.nO | exact hW.nF | exact hW.nM | exact hnx) | (apply Rd.own; (repeat (first | exact P0 | apply P1 | apply PA)); exact rwV_at hA1; done) | (apply Rd.own; (repeat (first | exact P0 | apply P1 | apply PA)); exact rfl; done)) | ((with_reducible apply t_id); first | (apply t_mixZ (id := 10) [0, 1, 2, 3, 4, 6] 5; kernel_rfl; kernel_rfl; exact rfl)) | exact Rdn.zero | apply Rdn.succ | ((with_reducible apply al_id); first | (apply al_done; decide +kernel) | (apply al_one 5; decide +kernel) | (apply al_one 7; decide +kernel) | (apply al_one 8; decide +kernel) | (apply al_one 9; decide +kernel) | (apply al_one 10; decide +kernel) | (apply al_two 5 7; decide +kernel)) | (intro gN cN; refine al_keep ?_ ?_; focus exact HpSub.nil) | exact Nat.le_of_ble_eq_true rfl | exact (rfl : (_ : Bool) = true))
      all_goals exact ⟨rfl, (gN, cN), trivial, by (repeat (first | exact FrSub.nil | (apply FrSub.cons; exact rfl))), by (show HpSub _ ((b12, [.int .i64 x.fr, .int .i64 x.to, .int .i64 x.crew], some (114, 3, 1)) :: outR g m R1 (([] : List Int) ++ [(k : Int)], some (gN, cN)) R2); unfold outR rowH; simp only [clH, List.cons_append, List.nil_append]; (repeat (first | exact HpSub.refl _ | (apply HpSub.consE; (repeat (first | exact P0 | apply P1 | apply PA)); first | exact rfl | (focus (simp [iv]; done)) | (focus (rw [rowV_mk]; simp [clA, clC]; done))) | apply hp_kA | apply HpSub.skipX | apply hp_skA | exact HpSub.nil)))⟩
    · simp only [clA, clC, clH, List.cons_append, List.nil_append]
      repeat' (first | ((with_reducible apply oq_id); first | (focus ((with_reducible apply oq_indexAddrN); (iterate 4 exact rfl); omega)) | (apply oq_fn; exact rfl; try first | exact trivial | (and_intros <;> omega)) | ((with_reducible apply oq_load); exact rfl; exact rfl)) | ((with_reducible apply gx_id); first | (with_reducible apply v_nil) | ((with_reducible apply v_q); (iterate 3 exact rfl))) | ((with_reducible apply os_id); first | ((with_reducible apply (os_storeV hA1)); (iterate 4 exact rfl); (repeat (first | exact P0 | apply P1 | apply PA))) | ((with_reducible apply os_append (hk := app_ok41)); exact rfl; exact rfl; (repeat (first | exact P0 | apply P1 | apply PA)))) | ((with_reducible apply ox_buildSlice1); (iterate 6 exact rfl); intro _) | ((with_reducible apply ai_id); first | ((with_reducible apply ai_q); (iterate 5 exact rfl)) | ((with_reducible apply ai_x); (iterate 5 exact rfl)) | ((with_reducible apply ai_n0); (iterate 3 exact rfl)) | ((with_reducible apply ai_n); (iterate 4 exact rfl))) | ((with_reducible apply al_keep); focus (repeat (first | exact HpSub.refl _ | (apply HpSub.cons; (repeat (first | exact P0 | apply P1 | apply PA))) | apply HpSub.skipX | exact HpSub.nil))) | ((with_reducible apply rd_id); first | (apply Rd.old; (first | exact hW.d0 | exact hW.d1 | exact hW.d2 | exact hW.d3 | exact hW.t0 | exact hW.o0 | exact hW.f0 | exact hW.m0 | exact e0 | exact e1 | exact e2); first | exact hW.nD | exact hW.nT | exact hW.nO | exact hW.nF | exact hW.nM | exact hnx) | (apply Rd.own; (repeat (first | exact P0 | apply P1 | apply PA)); exact rwV_at hA1; done) | (apply Rd.own; (repeat (first | exact P0 | apply P1 | apply PA)); exact rfl; done)) | ((with_reducible apply t_id); first | (apply t_mixZ (id := 10) [0, 1, 2, 3, 4, 6] 5; kernel_rfl; kernel_rfl; exact rfl)) | exact Rdn.zero | apply Rdn.succ | ((with_reducible apply al_id); first | (apply al_done; decide +kernel) | (apply al_one 5; decide +kernel) | (apply al_one 7; decide +kernel) | (apply al_one 8; decide +kernel) | (apply al_one 9; decide +kernel) | (apply al_one 10; decide +kernel) | (apply al_two 5 7; decide +kernel)) | (simp only [List.length_map, Nat.mul_one]; done) | (intro gN cN; refine al_keep ?_ ?_; focus exact HpSub.nil) | exact Nat.le_of_ble_eq_true rfl | exact (rfl : (_ : Bool) = true) | omega)
      all_goals exact ⟨rfl, (gN, cN), trivial, by (repeat (first | exact FrSub.nil | (apply FrSub.cons; exact rfl))), by (show HpSub _ ((b12, [.int .i64 x.fr, .int .i64 x.to, .int .i64 x.crew], some (114, 3, 1)) :: outR g m R1 (cur' ++ [(k : Int)], some (gN, cN)) R2); unfold outR rowH; simp only [clH, List.cons_append, List.nil_append]; (repeat (first | exact HpSub.refl _ | (apply HpSub.consE; (repeat (first | exact P0 | apply P1 | apply PA)); first | exact rfl | (focus (simp [iv]; done)) | (focus (rw [rowV_mk]; simp [clA, clC]; done))) | apply hp_kA | apply HpSub.skipX | apply hp_skA | exact HpSub.nil)))⟩
  rintro ⟨gN, cN⟩ -
  try dsimp only
  refine t_fact (P := cur'.length + 1 ≤ cN) (fun M w h => by
    have := h.capge (show Pick _ gN ((cur' ++ [(k : Int)]).map iv) (some (3, 1, cN)) _ from Pick.tail (Pick.head _ _ _ _))
    simp only [List.length_map, List.length_append, List.length_cons, List.length_nil] at this
    omega) fun hcN => ?_
  refine t_subW (HpSub.front (out_of0 g m R1 (cur' ++ [(k : Int)], some (gN, cN)) R2)).w ?_
  obtain ⟨R4, hR4⟩ : ∃ R, R1 ++ (cur' ++ [(k : Int)], some (gN, cN)) :: R2 = R := ⟨_, rfl⟩
  rw [hR4]
  have hll : (cur' ++ [(k : Int)]).length = cur'.length + 1 := by simp
  have hcs4 : R4.map Prod.fst = cs.set trip (cur' ++ [(k : Int)]) := by
    rw [← hR4, ← p3, hRe, ← hR1]
    simp
  have hR4l : R4.length = m := by have := congrArg List.length hcs4; simp at this; omega
  have hok4 : ∀ r ∈ R4, LrOk r := fun r hr => by
    rw [← hR4] at hr
    rcases List.mem_append.1 hr with hr | hr
    · exact p4 r (by rw [hRe]; exact List.mem_append_left _ hr)
    · rcases List.mem_cons.1 hr with rfl | hr
      · exact ⟨(fun h => by cases h), by simp only [hll, clC]; exact hcN⟩
      · exact p4 r (by rw [hRe]; exact List.mem_append_right _ (List.mem_cons_of_mem _ hr))
  have hg4 : ∀ (j : Nat) r, R4[j]? = some r → (cs.set trip (cur' ++ [(k : Int)]))[j]? = some r.1 := fun j r hr => by
    rw [← hcs4, List.getElem?_map, hr]; rfl
  have hrest4 : ∀ (j : Nat) r, trip < j → R4[j]? = some r → r.1 = [] := fun j r hj hr => by
    have h1 := hg4 j r hr
    rw [List.getElem?_set_ne (by omega)] at h1
    exact hcr j _ hj h1
  have hcur4 : ∀ r, R4[trip]? = some r → r.1 = cur' ++ [(k : Int)] := fun r hr => by
    have h1 := hg4 trip r hr
    rw [List.getElem?_set, if_pos rfl, if_pos (by omega)] at h1
    exact (Option.some.inj h1).symm
  have e2 : ((l ++ [(⟨(k : Int), x.fr, x.to⟩ : Sh)]).map shCells).flatten = shB l ++ [.int .i64 (k : Int), .int .i64 x.fr, .int .i64 x.to] := by simp [shB, shCells]
  have hfl : (shB l).length = n * 3 := by rw [sh_flat_len, hl]
  have hih := fun A' c' w1 h1 h2 h3 h4 h5 => ih trip (k + 1) (l ++ [(⟨(k : Int), x.fr, x.to⟩ : Sh)]) R4 (cur' ++ [(k : Int)]) A' (n + 1) c' w1 hR4l hok4 htr hrest4 hcur4 (fun h => by omega) (fun y hy => by rw [hx] at hy; cases hy; omega) (by omega) (by omega) (by omega) h1 h2 h3 h4 h5
  rw [hdrop, hFe k, hcs4] at hih
  have hgo : (List.range' who (mem - who)).findSome? Fk = (match Fk k with | some rs => some rs | none => (List.range' (k + 1) (mem - (k + 1))).findSome? Fk) := by
    rw [p5]
    cases hres : Fk k with
    | none => exact some_go hk hres
    | some rs => exact some_hit hk hres
  have hset : ∀ rs : List (List Int), (cs.set trip (cur' ++ [(k : Int)])).take trip ++ rs = cs.take trip ++ rs := fun rs => by
    rw [List.take_set, List.set_eq_of_length_le (by simp; omega)]
  obtain ⟨res, hres⟩ : ∃ r, Fk k = r := ⟨_, rfl⟩
  rw [hres] at hgo hih
  cases res with
  | some rs =>
    rw [hgo]
    rcases A with _ | ⟨bA, oA, qA⟩
    · obtain ⟨rfl, rfl⟩ := hA rfl
      have hl0 : l = [] := List.length_eq_zero_iff.1 hl
      subst hl0
      repeat' (first | ((with_reducible apply oq_id); first | ((with_reducible apply oq_addE (k := ((k + 1 : Nat) : Int))); exact rfl; exact rfl; omega) | (apply oq_fn; exact rfl; try first | exact trivial | (and_intros <;> omega)) | ((with_reducible apply oq_load); exact rfl; exact rfl) | ((with_reducible apply oq_call (k := 89) (hc := Try.call89)); exact rfl; exact rfl; exact fun D w1 hw1 => cloneN w1) | ((with_reducible apply oq_build); (iterate 3 exact rfl))) | ((with_reducible apply tl_id); first | (with_reducible apply tl_nil) | ((with_reducible apply u_q); (iterate 4 exact rfl))) | ((with_reducible apply gx_id); first | (with_reducible apply v_nil) | ((with_reducible apply v_q); (iterate 3 exact rfl))) | ((with_reducible apply os_appendNil (hk := app_ok75)); exact rfl; exact rfl) | ((with_reducible apply ox_buildSlice); (iterate 4 exact rfl)) | ((with_reducible apply ai_id); first | ((with_reducible apply ai_s); (iterate 5 exact rfl); (with_reducible apply os_callM (G := outH g m R4) (PV := TryP g m (cs.set trip (cur' ++ [(k : Int)])) trip (some rs)) (k := 88) (hc := Try.call88)); exact rfl; exact rfl; (first | exact hp_comm [_, _] _ | exact hp_comm [_, _, _] _ | exact hp_comm [_, _, _, _] _); exact fun D w1 hw1 hw2 => hih (some ⟨gL, 0, none⟩) cL w1 (Blk.rows (rows := ([] ++ [(⟨(k : Int), x.fr, x.to⟩ : Sh)]).map shCells) (by rw [e2]; exact (hw1.blk _ (Pick.mem (by (repeat (first | exact P0 | apply P1 | apply PA))))).2) (by simp <;> omega) (sh_len _)) (fun h => by cases h) (fun _ b o hb => by cases hb; first | exact Has.off2 (X := [_, _]) hw1 (by simp) | exact Has.off2 (X := [_, _, _]) hw1 (by simp) | exact Has.off2 (X := [_, _, _, _]) hw1 (by simp)) (hW.next (by omega) hw1 (fun b hb => by first | exact mem_fst (X := [_, _]) hb | exact mem_fst (X := [_, _, _]) hb | exact mem_fst (X := [_, _, _, _]) hb)) hw2; rintro v H1 ⟨R5, hok5, rfl, hcs5, rfl⟩; (simp only [Option.isSome_some, Option.isSome_none])) | ((with_reducible apply ai_q); (iterate 5 exact rfl)) | ((with_reducible apply ai_x); (iterate 5 exact rfl)) | ((with_reducible apply ai_n); (iterate 4 exact rfl))) | ((with_reducible apply rd_id); first | (apply Rd.old; (first | exact hW.d0 | exact hW.d1 | exact hW.d2 | exact hW.d3 | exact hW.t0 | exact hW.o0 | exact hW.f0 | exact hW.m0 | exact e0 | exact e1 | exact e2); first | exact hW.nD | exact hW.nT | exact hW.nO | exact hW.nF | exact hW.nM | exact hnx) | (apply Rd.own; (repeat (first | exact P0 | apply P1 | apply PA)); exact rfl; done)) | ((with_reducible apply t_id); first | (apply t_mix (id := 11) [0, 1, 2, 3, 4, 6, 7, 8, 9, 10, 11] 4 #[false, false, false, false, false, false, false, false, false, false, false, false, false, false, true]; kernel_rfl; kernel_rfl; exact rfl) | (with_reducible apply t_seq) | (apply t_region; kernel_rfl) | ((with_reducible apply t_condT); exact rfl) | (with_reducible apply t_ret)) | with_reducible apply q_thenN | with_reducible apply q_thenR | with_reducible apply q_blockR | exact Rdn.zero | apply Rdn.succ | ((with_reducible apply Norm.nil); exact rfl) | ((with_reducible apply Norm.cons); exact rfl) | (with_reducible apply end_ret) | exact rvs_nil | (with_reducible apply rvs_cons) | ((with_reducible apply rv_tmp); exact rfl) | ((with_reducible apply al_id); first | (apply al_done; decide +kernel) | (apply al_one 5; decide +kernel) | (apply al_one 12; decide +kernel) | (apply al_one 13; decide +kernel) | (apply al_one 14; decide +kernel) | (apply al_two 5 12; decide +kernel)) | (intro gL cL; refine al_keep ?_ ?_; focus (repeat (first | exact HpSub.refl _ | apply HpSub.skipX))) | exact Nat.le_of_ble_eq_true rfl | exact (rfl : (_ : Bool) = true) | (intro _; with_reducible apply al_id))
      all_goals exact ⟨_, ⟨R5, hok5, rfl, (by rw [hcs5]; exact hset rs), rfl⟩, HpSub.w hp_left⟩
    · repeat' (first | ((with_reducible apply oq_id); first | ((with_reducible apply oq_addE (k := ((k + 1 : Nat) : Int))); exact rfl; exact rfl; omega) | (apply oq_fn; exact rfl; try first | exact trivial | (and_intros <;> omega)) | ((with_reducible apply oq_load); exact rfl; exact rfl) | ((with_reducible apply oq_build); (iterate 3 exact rfl))) | ((with_reducible apply tl_id); first | (with_reducible apply tl_nil) | ((with_reducible apply u_q); (iterate 4 exact rfl))) | ((with_reducible apply gx_id); first | (with_reducible apply v_nil) | ((with_reducible apply v_q); (iterate 3 exact rfl))) | ((with_reducible apply os_append (hk := app_ok75)); exact rfl; exact rfl; (repeat (first | exact P0 | apply P1 | apply PA))) | ((with_reducible apply ox_buildSlice); (iterate 4 exact rfl)) | ((with_reducible apply ai_id); first | ((with_reducible apply ai_s); (iterate 5 exact rfl); (with_reducible apply os_callM (G := outH g m R4) (PV := TryP g m (cs.set trip (cur' ++ [(k : Int)])) trip (some rs)) (k := 88) (hc := Try.call88)); exact rfl; exact rfl; (first | exact hp_comm [_, _] _ | exact hp_comm [_, _, _] _ | exact hp_comm [_, _, _, _] _); exact fun D w1 hw1 hw2 => hih (some ⟨gL, 0, none⟩) cL w1 (Blk.rows (rows := (l ++ [(⟨(k : Int), x.fr, x.to⟩ : Sh)]).map shCells) (by rw [e2]; exact (hw1.blk _ (Pick.mem (by (repeat (first | exact P0 | apply P1 | apply PA))))).2) (by simp <;> omega) (sh_len _)) (fun h => by cases h) (fun _ b o hb => by cases hb; first | exact Has.off2 (X := [_, _]) hw1 (by simp) | exact Has.off2 (X := [_, _, _]) hw1 (by simp) | exact Has.off2 (X := [_, _, _, _]) hw1 (by simp)) (hW.next (by omega) hw1 (fun b hb => by first | exact mem_fst (X := [_, _]) hb | exact mem_fst (X := [_, _, _]) hb | exact mem_fst (X := [_, _, _, _]) hb)) hw2; rintro v H1 ⟨R5, hok5, rfl, hcs5, rfl⟩; (simp only [Option.isSome_some, Option.isSome_none])) | ((with_reducible apply ai_n); (iterate 4 exact rfl); (with_reducible apply os_callF (PV := OwnS (shB l) n) (k := 89) (hc := Try.call89)); exact rfl; exact rfl; exact fun D w1 hw1 => cloneO bA oA qA n c l w1 (hr.extM hw1.ext hAm) (by omega); rintro v H' ⟨gC, cC, rfl, rfl⟩; (try simp only [List.cons_append, List.nil_append])) | ((with_reducible apply ai_x); (iterate 5 exact rfl)) | ((with_reducible apply ai_n); (iterate 4 exact rfl))) | ((with_reducible apply al_keep); focus (repeat (first | exact HpSub.refl _ | (apply HpSub.cons; (repeat (first | exact P0 | apply P1 | apply PA))) | apply HpSub.skipX | exact HpSub.nil))) | ((with_reducible apply rd_id); first | (apply Rd.old; (first | exact hW.d0 | exact hW.d1 | exact hW.d2 | exact hW.d3 | exact hW.t0 | exact hW.o0 | exact hW.f0 | exact hW.m0 | exact e0 | exact e1 | exact e2); first | exact hW.nD | exact hW.nT | exact hW.nO | exact hW.nF | exact hW.nM | exact hnx) | (apply Rd.own; (repeat (first | exact P0 | apply P1 | apply PA)); exact rfl; done)) | ((with_reducible apply t_id); first | (apply t_mix (id := 11) [0, 1, 2, 3, 4, 6, 7, 8, 9, 10, 11] 4 #[false, false, false, false, false, false, false, false, false, false, false, false, false, false, true]; kernel_rfl; kernel_rfl; exact rfl) | (with_reducible apply t_seq) | (apply t_region; kernel_rfl) | ((with_reducible apply t_condT); exact rfl) | (with_reducible apply t_ret)) | with_reducible apply q_thenN | with_reducible apply q_thenR | with_reducible apply q_blockR | exact Rdn.zero | apply Rdn.succ | ((with_reducible apply Norm.nil); exact rfl) | ((with_reducible apply Norm.cons); exact rfl) | (with_reducible apply end_ret) | exact rvs_nil | (with_reducible apply rvs_cons) | ((with_reducible apply rv_tmp); exact rfl) | ((with_reducible apply al_id); first | (apply al_done; decide +kernel) | (apply al_one 5; decide +kernel) | (apply al_one 12; decide +kernel) | (apply al_one 13; decide +kernel) | (apply al_one 14; decide +kernel) | (apply al_two 5 12; decide +kernel)) | exact hfl | (intro gL cL; refine al_keep ?_ ?_; focus (repeat (first | exact HpSub.refl _ | apply HpSub.skipX))) | exact Nat.le_of_ble_eq_true rfl | exact (rfl : (_ : Bool) = true) | omega | (intro _; with_reducible apply al_id))
      all_goals exact ⟨_, ⟨R5, hok5, rfl, (by rw [hcs5]; exact hset rs), rfl⟩, HpSub.w hp_left⟩
  | none =>
    simp only at hgo
    refine t_cut (ι := List Row) (fun _ => [(0, .int .i64 (trip : Nat)), (1, .int .i64 (k : Nat)), (2, .slice A n c), (3, .pointer (some ⟨bD, 0, none⟩)), (4, .pointer (some ⟨bT, 0, none⟩)), (5, .pointer (some ⟨bO, 0, none⟩)), (6, .pointer (some ⟨bF, 0, none⟩)), (7, .pointer (some ⟨bM, 0, none⟩)), (12, .pointer (some ⟨b12, 0, none⟩))]) (fun R5 => (b12, [.int .i64 x.fr, .int .i64 x.to, .int .i64 x.crew], some (114, 3, 1)) :: outH g m R5) (fun R5 => R5.map Prod.fst = cs.set trip (cur' ++ [(k : Int)]) ∧ ∀ r ∈ R5, LrOk r) ?_ ?_
    · rcases A with _ | ⟨bA, oA, qA⟩
      · obtain ⟨rfl, rfl⟩ := hA rfl
        have hl0 : l = [] := List.length_eq_zero_iff.1 hl
        subst hl0
        repeat' (first | ((with_reducible apply oq_id); first | ((with_reducible apply oq_addE (k := ((k + 1 : Nat) : Int))); exact rfl; exact rfl; omega) | (apply oq_fn; exact rfl; try first | exact trivial | (and_intros <;> omega)) | ((with_reducible apply oq_load); exact rfl; exact rfl) | ((with_reducible apply oq_call (k := 89) (hc := Try.call89)); exact rfl; exact rfl; exact fun D w1 hw1 => cloneN w1) | ((with_reducible apply oq_build); (iterate 3 exact rfl))) | ((with_reducible apply gx_id); first | (with_reducible apply v_nil) | ((with_reducible apply v_q); (iterate 3 exact rfl))) | ((with_reducible apply os_appendNil (hk := app_ok75)); exact rfl; exact rfl) | ((with_reducible apply ox_buildSlice); (iterate 4 exact rfl)) | ((with_reducible apply ai_id); first | ((with_reducible apply ai_s); (iterate 5 exact rfl); (with_reducible apply os_callM (G := outH g m R4) (PV := TryP g m (cs.set trip (cur' ++ [(k : Int)])) trip none) (k := 88) (hc := Try.call88)); exact rfl; exact rfl; (first | exact hp_comm [_, _] _ | exact hp_comm [_, _, _] _ | exact hp_comm [_, _, _, _] _); exact fun D w1 hw1 hw2 => hih (some ⟨gL, 0, none⟩) cL w1 (Blk.rows (rows := ([] ++ [(⟨(k : Int), x.fr, x.to⟩ : Sh)]).map shCells) (by rw [e2]; exact (hw1.blk _ (Pick.mem (by (repeat (first | exact P0 | apply P1 | apply PA))))).2) (by simp <;> omega) (sh_len _)) (fun h => by cases h) (fun _ b o hb => by cases hb; first | exact Has.off2 (X := [_, _]) hw1 (by simp) | exact Has.off2 (X := [_, _, _]) hw1 (by simp) | exact Has.off2 (X := [_, _, _, _]) hw1 (by simp)) (hW.next (by omega) hw1 (fun b hb => by first | exact mem_fst (X := [_, _]) hb | exact mem_fst (X := [_, _, _]) hb | exact mem_fst (X := [_, _, _, _]) hb)) hw2; rintro v H1 ⟨R5, hok5, rfl, hcs5, rfl⟩; (simp only [Option.isSome_some, Option.isSome_none])) | ((with_reducible apply ai_q); (iterate 5 exact rfl)) | ((with_reducible apply ai_x); (iterate 5 exact rfl)) | ((with_reducible apply ai_n); (iterate 4 exact rfl))) | ((with_reducible apply rd_id); first | (apply Rd.old; (first | exact hW.d0 | exact hW.d1 | exact hW.d2 | exact hW.d3 | exact hW.t0 | exact hW.o0 | exact hW.f0 | exact hW.m0 | exact e0 | exact e1 | exact e2); first | exact hW.nD | exact hW.nT | exact hW.nO | exact hW.nF | exact hW.nM | exact hnx) | (apply Rd.own; (repeat (first | exact P0 | apply P1 | apply PA)); exact rfl; done)) | ((with_reducible apply t_id); first | (apply t_mix (id := 11) [0, 1, 2, 3, 4, 6, 7, 8, 9, 10, 11] 4 #[false, false, false, false, false, false, false, false, false, false, false, false, false, false, true]; kernel_rfl; kernel_rfl; exact rfl) | (with_reducible apply t_seq) | ((with_reducible apply t_condF); exact rfl) | (with_reducible apply t_skip)) | with_reducible apply q_thenN | exact Rdn.zero | apply Rdn.succ | ((with_reducible apply Norm.nil); exact rfl) | ((with_reducible apply Norm.cons); exact rfl) | ((with_reducible apply al_id); first | (apply al_done; decide +kernel) | (apply al_one 5; decide +kernel) | (apply al_one 12; decide +kernel) | (apply al_one 13; decide +kernel) | (apply al_one 14; decide +kernel) | (apply al_two 5 12; decide +kernel)) | (intro gL cL; refine al_keep ?_ ?_; focus (repeat (first | exact HpSub.refl _ | apply HpSub.skipX))) | exact Nat.le_of_ble_eq_true rfl | exact (rfl : (_ : Bool) = true) | (intro _; with_reducible apply al_id))
        all_goals exact ⟨rfl, R5, ⟨hcs5, hok5⟩, by (repeat (first | exact FrSub.nil | (apply FrSub.cons; exact rfl))), by first | exact hp_last2 | exact hp_last3 | exact hp_last4⟩
      · repeat' (first | ((with_reducible apply oq_id); first | ((with_reducible apply oq_addE (k := ((k + 1 : Nat) : Int))); exact rfl; exact rfl; omega) | (apply oq_fn; exact rfl; try first | exact trivial | (and_intros <;> omega)) | ((with_reducible apply oq_load); exact rfl; exact rfl) | ((with_reducible apply oq_build); (iterate 3 exact rfl))) | ((with_reducible apply gx_id); first | (with_reducible apply v_nil) | ((with_reducible apply v_q); (iterate 3 exact rfl))) | ((with_reducible apply os_append (hk := app_ok75)); exact rfl; exact rfl; (repeat (first | exact P0 | apply P1 | apply PA))) | ((with_reducible apply ox_buildSlice); (iterate 4 exact rfl)) | ((with_reducible apply ai_id); first | ((with_reducible apply ai_s); (iterate 5 exact rfl); (with_reducible apply os_callM (G := outH g m R4) (PV := TryP g m (cs.set trip (cur' ++ [(k : Int)])) trip none) (k := 88) (hc := Try.call88)); exact rfl; exact rfl; (first | exact hp_comm [_, _] _ | exact hp_comm [_, _, _] _ | exact hp_comm [_, _, _, _] _); exact fun D w1 hw1 hw2 => hih (some ⟨gL, 0, none⟩) cL w1 (Blk.rows (rows := (l ++ [(⟨(k : Int), x.fr, x.to⟩ : Sh)]).map shCells) (by rw [e2]; exact (hw1.blk _ (Pick.mem (by (repeat (first | exact P0 | apply P1 | apply PA))))).2) (by simp <;> omega) (sh_len _)) (fun h => by cases h) (fun _ b o hb => by cases hb; first | exact Has.off2 (X := [_, _]) hw1 (by simp) | exact Has.off2 (X := [_, _, _]) hw1 (by simp) | exact Has.off2 (X := [_, _, _, _]) hw1 (by simp)) (hW.next (by omega) hw1 (fun b hb => by first | exact mem_fst (X := [_, _]) hb | exact mem_fst (X := [_, _, _]) hb | exact mem_fst (X := [_, _, _, _]) hb)) hw2; rintro v H1 ⟨R5, hok5, rfl, hcs5, rfl⟩; (simp only [Option.isSome_some, Option.isSome_none])) | ((with_reducible apply ai_n); (iterate 4 exact rfl); (with_reducible apply os_callF (PV := OwnS (shB l) n) (k := 89) (hc := Try.call89)); exact rfl; exact rfl; exact fun D w1 hw1 => cloneO bA oA qA n c l w1 (hr.extM hw1.ext hAm) (by omega); rintro v H' ⟨gC, cC, rfl, rfl⟩; (try simp only [List.cons_append, List.nil_append])) | ((with_reducible apply ai_x); (iterate 5 exact rfl)) | ((with_reducible apply ai_n); (iterate 4 exact rfl))) | ((with_reducible apply al_keep); focus (repeat (first | exact HpSub.refl _ | (apply HpSub.cons; (repeat (first | exact P0 | apply P1 | apply PA))) | apply HpSub.skipX | exact HpSub.nil))) | ((with_reducible apply rd_id); first | (apply Rd.old; (first | exact hW.d0 | exact hW.d1 | exact hW.d2 | exact hW.d3 | exact hW.t0 | exact hW.o0 | exact hW.f0 | exact hW.m0 | exact e0 | exact e1 | exact e2); first | exact hW.nD | exact hW.nT | exact hW.nO | exact hW.nF | exact hW.nM | exact hnx) | (apply Rd.own; (repeat (first | exact P0 | apply P1 | apply PA)); exact rfl; done)) | ((with_reducible apply t_id); first | (apply t_mix (id := 11) [0, 1, 2, 3, 4, 6, 7, 8, 9, 10, 11] 4 #[false, false, false, false, false, false, false, false, false, false, false, false, false, false, true]; kernel_rfl; kernel_rfl; exact rfl) | (with_reducible apply t_seq) | ((with_reducible apply t_condF); exact rfl) | (with_reducible apply t_skip)) | with_reducible apply q_thenN | exact Rdn.zero | apply Rdn.succ | ((with_reducible apply Norm.nil); exact rfl) | ((with_reducible apply Norm.cons); exact rfl) | ((with_reducible apply al_id); first | (apply al_done; decide +kernel) | (apply al_one 5; decide +kernel) | (apply al_one 12; decide +kernel) | (apply al_one 13; decide +kernel) | (apply al_one 14; decide +kernel) | (apply al_two 5 12; decide +kernel)) | exact hfl | (intro gL cL; refine al_keep ?_ ?_; focus (repeat (first | exact HpSub.refl _ | apply HpSub.skipX))) | exact Nat.le_of_ble_eq_true rfl | exact (rfl : (_ : Bool) = true) | omega | (intro _; with_reducible apply al_id))
        all_goals exact ⟨rfl, R5, ⟨hcs5, hok5⟩, by (repeat (first | exact FrSub.nil | (apply FrSub.cons; exact rfl))), by first | exact hp_last2 | exact hp_last3 | exact hp_last4⟩
    rintro R5 ⟨hcs5, hok5⟩
    try dsimp only
    clear hrow hcur4 hrest4 hg4 hok4 hcs4 hR4l hih hR4 R4 hRe hR1 hA1 hro R1 R2 o hcN
    obtain ⟨o5, R51, R52, hRe5, hR15⟩ : ∃ o R1 R2, R5 = R1 ++ (cur' ++ [(k : Int)], o) :: R2 ∧ R1.length = trip := by
      have h1 : (R5.map Prod.fst)[trip]? = some (cur' ++ [(k : Int)]) := by rw [hcs5, List.getElem?_set, if_pos rfl, if_pos (by omega)]
      rw [List.getElem?_map] at h1
      obtain ⟨⟨c', o'⟩, h2, h3⟩ := Option.map_eq_some_iff.1 h1
      simp only at h3
      subst h3
      obtain ⟨R1, R2, h4, h5⟩ := row_split h2
      exact ⟨o', R1, R2, h4, h5⟩
    have hro5 := hok5 (cur' ++ [(k : Int)], o5) (by rw [hRe5]; simp)
    unfold LrOk at hro5
    simp only [hll] at hro5
    rcases o5 with _ | ⟨g5, c5⟩
    · have := hro5.1 rfl
      omega
    have hA1 : (R51.map rwV).length = trip := by rw [List.length_map, hR15]
    have hcap : cur'.length ≤ c5 := by have := hro5.2; simp only [clC] at this; omega
    have hnn : (some ⟨g5, 0, none⟩ : Option Addr) = none → (cur' ++ [(k : Int)]).length = 0 ∧ c5 = 0 := fun h => by cases h
    obtain ⟨R6, hR6⟩ : ∃ R, R51 ++ (cur', some (g5, c5)) :: R52 = R := ⟨_, rfl⟩
    have hcs6 : R6.map Prod.fst = cs := by
      have h1 : (R51.map Prod.fst ++ (cur' ++ [(k : Int)]) :: R52.map Prod.fst) = cs.set trip (cur' ++ [(k : Int)]) := by rw [← hcs5, hRe5]; simp
      have h2 := congrArg (fun z => z.set trip cur') h1
      simp only [List.set_set] at h2
      rw [← hR6, List.map_append, List.map_cons]
      have hl1 : (R51.map Prod.fst).length = trip := by rw [List.length_map, hR15]
      rw [List.set_append_right _ _ (by omega), hl1, Nat.sub_self, List.set_cons_zero] at h2
      rw [h2]
      exact List.ext_getElem? fun j => by
        by_cases hj : trip = j
        · subst hj; rw [List.getElem?_set, if_pos rfl, if_pos (by omega), hct]
        · rw [List.getElem?_set_ne hj]
    have hok6 : ∀ r ∈ R6, LrOk r := fun r hr => by
      rw [← hR6] at hr
      rcases List.mem_append.1 hr with hr | hr
      · exact hok5 r (by rw [hRe5]; exact List.mem_append_left _ hr)
      · rcases List.mem_cons.1 hr with rfl | hr
        · exact ⟨(fun h => by cases h), hcap⟩
        · exact hok5 r (by rw [hRe5]; exact List.mem_append_right _ (List.mem_cons_of_mem _ hr))
    refine t_subW (HpSub.front (by rw [hRe5]; exact out_to0 g m R51 (cur' ++ [(k : Int)], some (g5, c5)) R52)).w ?_
    unfold outR rowH
    rw [rowV_mk]
    simp only [clA, clC, clH, List.cons_append, List.nil_append]
    refine t_endW ?_
    repeat' (first | ((with_reducible apply oq_id); first | (focus ((with_reducible apply oq_indexAddrN); (iterate 4 exact rfl); omega)) | ((with_reducible apply oq_subE (k := ((cur'.length : Nat) : Int))); exact rfl; exact rfl; omega) | (focus ((with_reducible apply (oq_sliceHG (h := cur'.length) hnn)); (iterate 4 exact rfl); exact hcap)) | (apply oq_fn; exact rfl; try first | exact trivial | (and_intros <;> omega)) | ((with_reducible apply oq_load); exact rfl; exact rfl)) | ((with_reducible apply gx_id); first | (with_reducible apply v_nil) | ((with_reducible apply v_q); (iterate 3 exact rfl))) | ((with_reducible apply (os_storeV hA1)); (iterate 4 exact rfl); (repeat (first | exact P0 | apply P1 | apply PA))) | ((with_reducible apply ai_s0); (iterate 4 exact rfl)) | ((with_reducible apply rd_id); first | (apply Rd.old; (first | exact hW.d0 | exact hW.d1 | exact hW.d2 | exact hW.d3 | exact hW.t0 | exact hW.o0 | exact hW.f0 | exact hW.m0 | exact e0 | exact e1 | exact e2); first | exact hW.nD | exact hW.nT | exact hW.nO | exact hW.nF | exact hW.nM | exact hnx) | (apply Rd.own; (repeat (first | exact P0 | apply P1 | apply PA)); exact rwV_at hA1; done)) | ((with_reducible apply t_id); first | (apply t_mix (id := 13) [0, 1, 2, 3, 4, 5, 6, 7, 8, 9, 10, 11, 12, 13] 1 #[false, false, false, false, false, false, false, false, false, false, false, false, false, false, true]; kernel_rfl; kernel_rfl; exact rfl)) | ((with_reducible apply al_id); first | (apply al_done; decide +kernel) | (apply al_one 14; decide +kernel)))
    all_goals (refine ⟨rfl, [(0, .int .i64 (trip : Nat)), (1, .int .i64 (k : Nat)), (2, .slice A n c), (3, .pointer (some ⟨bD, 0, none⟩)), (4, .pointer (some ⟨bT, 0, none⟩)), (5, .pointer (some ⟨bO, 0, none⟩)), (6, .pointer (some ⟨bF, 0, none⟩)), (7, .pointer (some ⟨bM, 0, none⟩)), (12, .pointer (some ⟨b12, 0, none⟩))], (b12, [.int .i64 x.fr, .int .i64 x.to, .int .i64 x.crew], some (114, 3, 1)) :: outH g m R6, by (repeat (first | exact FrSub.nil | (apply FrSub.cons; exact rfl))), ?_, ?_⟩)
    · refine HpW.trans (HpSub.w (show HpSub _ ((g5, cur'.map iv ++ [iv (k : Int)], some (3, 1, c5)) :: (b12, [.int .i64 x.fr, .int .i64 x.to, .int .i64 x.crew], some (114, 3, 1)) :: (g, R51.map rwV ++ rwV (cur', some (g5, c5)) :: R52.map rwV, some (41, 1, m)) :: (rwsH R51 ++ rwsH R52)) from ?_)) (HpW.trans HpW.pre (HpSub.w ?_))
      · (repeat (first | exact HpSub.refl _ | (apply HpSub.consE; (repeat (first | exact P0 | apply P1 | apply PA)); first | exact rfl | (focus (simp [iv]; done)) | (focus (rw [rowV_mk]; simp [clA, clC]; done))) | apply hp_kA | apply HpSub.skipX | apply hp_skA | exact HpSub.nil))
      · rw [← hR6]
        exact HpSub.cons (Pick.tail (Pick.head _ _ _ _)) (out_of0 g m R51 (cur', some (g5, c5)) R52)
    · repeat' (first | ((with_reducible apply oq_id); first | ((with_reducible apply oq_addE (k := ((k + 1 : Nat) : Int))); exact rfl; exact rfl; omega) | (apply oq_fn; exact rfl; try first | exact trivial | (and_intros <;> omega))) | ((with_reducible apply tl_id); first | (with_reducible apply tl_nil) | ((with_reducible apply u_q); (iterate 4 exact rfl))) | ((with_reducible apply t_id); first | (apply t_region; kernel_rfl)) | with_reducible apply q_thenN | with_reducible apply q_blockN)
      all_goals (refine ⟨(k + 1, R6), ⟨(by simp only; omega), .inl (by simp only; omega), hcs6, hok6, hgo⟩, (by simp only; omega), ?_, ?_⟩)
      all_goals first
        | ((try simp only [List.cons_append, List.nil_append]); (repeat (first | exact FrSub.nil | (apply FrSub.cons; exact rfl))); done)
        | ((try simp only [List.cons_append, List.nil_append]); (try simp only [List.append_nil]); (repeat (first | exact HpSub.refl _ | (apply HpSub.consE; (repeat (first | exact P0 | apply P1 | apply PA)); exact rfl) | apply hp_kA | apply HpSub.skipX | apply hp_skA | exact HpSub.nil)); done)
theorem info41L : (Try.prog.info? 41).map (fun i => i.zero) = some (some (.slice none 0 0)) := by kernel_rfl
theorem os_makeL {w : World} {N n : Nat} {F : Fr} {H : Hp} {M : List Nat} {K : Value → Hp → Prop} {d : Option Tmp} {ty : TypeId} {pos : String} {af : Array Edge} {gd : Option (Nat × Bool)} {x y : Operand}
    (hx : ev F x = some (.int .i64 (n : Nat))) (hy : ev F y = some (.int .i64 (n : Nat))) (hn : n ≤ 1000) (k : ∀ b, K (.slice (some ⟨b, 0, none⟩) n n) ((b, List.replicate n (Value.slice none 0 0), some (41, 1, n)) :: H)) : OS (cxM M w N) ⟨d, .makeSlice 90 x y, ty, pos, af, gd⟩ F H K := by
  refine .ofX (ox_make (zs := [.slice none 0 0]) app_ok90 info41L rfl rfl hx hy (by omega) (by unfold maxLen; omega) fun b => ?_)
  have e : (List.replicate n [Value.slice none 0 0]).flatten = List.replicate n (Value.slice none 0 0) := by simp
  rw [e]
  exact k b
theorem odd_calls (x : Tr) (w : World) : Calls Try.prog 86 #[.agg #[.int .i64 x.fr, .int .i64 x.to, .int .i64 x.crew]] w fun e w' => e = .returned (.bool (!decide (trOk x))) ∧ Ext w w' := by
  obtain ⟨q, hq⟩ : ∃ q, allFrom 0 2 [x.crew] = q := ⟨_, rfl⟩
  have hqe : q = true ↔ 0 ≤ x.crew ∧ x.crew ≤ 2 := by rw [← hq]; exact allFrom_one
  by_cases h1 : x.fr < 0
  · rw [decide_eq_false (fun h => by unfold trOk at h; omega)]
    refine enterQ (c := cx w 25) Try.func86 rfl rfl rfl rfl ?_
    repeat' (first | ((with_reducible apply oq_id); first | ((with_reducible apply oq_lssT); exact rfl; exact rfl; omega) | (apply oq_fn; exact rfl; try first | exact trivial | (and_intros <;> omega)) | ((with_reducible apply oq_load); exact rfl; exact rfl)) | ((with_reducible apply tl_id); first | (with_reducible apply tl_nil) | ((with_reducible apply u_q); (iterate 4 exact rfl)) | ((with_reducible apply u_s); (iterate 3 exact rfl)) | ((with_reducible apply u_skip); (iterate 3 exact rfl))) | ((with_reducible apply os_x); exact rfl) | ((with_reducible apply ox_boxAgg); exact rfl; intro _) | ((with_reducible apply rd_id); first | (apply Rd.own; (repeat (first | exact P0 | apply P1)); exact rfl; done)) | ((with_reducible apply t_id); first | (with_reducible apply t_seq) | (apply t_region; kernel_rfl) | (with_reducible apply t_ret)) | with_reducible apply q_thenN | (with_reducible apply end_ret) | exact rvs_nil | (with_reducible apply rvs_cons) | ((with_reducible apply rv_tmp); exact rfl))
    all_goals rfl
  by_cases h2 : x.to ≤ x.fr
  · rw [decide_eq_false (fun h => by unfold trOk at h; omega)]
    refine enterQ (c := cx w 25) Try.func86 rfl rfl rfl rfl ?_
    repeat' (first | ((with_reducible apply oq_id); first | ((with_reducible apply oq_lssF); exact rfl; exact rfl; omega) | ((with_reducible apply oq_geqT); exact rfl; exact rfl; omega) | (apply oq_fn; exact rfl; try first | exact trivial | (and_intros <;> omega)) | ((with_reducible apply oq_load); exact rfl; exact rfl)) | ((with_reducible apply tl_id); first | (with_reducible apply tl_nil) | ((with_reducible apply u_q); (iterate 4 exact rfl)) | ((with_reducible apply u_s); (iterate 3 exact rfl)) | ((with_reducible apply u_skip); (iterate 3 exact rfl))) | ((with_reducible apply os_x); exact rfl) | ((with_reducible apply ox_boxAgg); exact rfl; intro _) | ((with_reducible apply rd_id); first | (apply Rd.own; (repeat (first | exact P0 | apply P1)); exact rfl; done)) | ((with_reducible apply t_id); first | (with_reducible apply t_seq) | (apply t_region; kernel_rfl) | (with_reducible apply t_ret)) | with_reducible apply q_thenN | (with_reducible apply end_ret) | exact rvs_nil | (with_reducible apply rvs_cons) | ((with_reducible apply rv_tmp); exact rfl))
    all_goals rfl
  by_cases h3 : 1000000 < x.to
  · rw [decide_eq_false (fun h => by unfold trOk at h; omega)]
    refine enterQ (c := cx w 25) Try.func86 rfl rfl rfl rfl ?_
    repeat' (first | ((with_reducible apply oq_id); first | ((with_reducible apply oq_lssF); exact rfl; exact rfl; omega) | ((with_reducible apply oq_geqF); exact rfl; exact rfl; omega) | ((with_reducible apply oq_gtrT); exact rfl; exact rfl; omega) | (apply oq_fn; exact rfl; try first | exact trivial | (and_intros <;> omega)) | ((with_reducible apply oq_load); exact rfl; exact rfl)) | ((with_reducible apply tl_id); first | (with_reducible apply tl_nil) | ((with_reducible apply u_q); (iterate 4 exact rfl)) | ((with_reducible apply u_s); (iterate 3 exact rfl)) | ((with_reducible apply u_skip); (iterate 3 exact rfl))) | ((with_reducible apply os_x); exact rfl) | ((with_reducible apply ox_boxAgg); exact rfl; intro _) | ((with_reducible apply rd_id); first | (apply Rd.own; (repeat (first | exact P0 | apply P1)); exact rfl; done)) | ((with_reducible apply t_id); first | (with_reducible apply t_seq) | (apply t_region; kernel_rfl) | (with_reducible apply t_ret)) | with_reducible apply q_thenN | (with_reducible apply end_ret) | exact rvs_nil | (with_reducible apply rvs_cons) | ((with_reducible apply rv_tmp); exact rfl))
    all_goals rfl
  cases q with
  | false =>
    rw [decide_eq_false (fun h => by unfold trOk at h; have := hqe.2 ⟨h.2.2.2.1, h.2.2.2.2⟩; cases this)]
    refine enterQ (c := cx w 25) Try.func86 rfl rfl rfl rfl ?_
    repeat' (first | ((with_reducible apply oq_id); first | ((with_reducible apply oq_lssF); exact rfl; exact rfl; omega) | ((with_reducible apply oq_geqF); exact rfl; exact rfl; omega) | ((with_reducible apply oq_gtrF); exact rfl; exact rfl; omega) | (apply oq_fn; exact rfl; try first | exact trivial | (and_intros <;> omega)) | ((with_reducible apply oq_load); exact rfl; exact rfl) | ((with_reducible apply oq_call (k := 63) (hc := Try.call63)); exact rfl; exact rfl; exact fun D w1 hw1 => fromOne hq hw1 (by (repeat (first | exact P0 | apply P1))))) | ((with_reducible apply tl_id); first | (with_reducible apply tl_nil) | ((with_reducible apply u_q); (iterate 4 exact rfl)) | ((with_reducible apply u_s); (iterate 3 exact rfl))) | ((with_reducible apply os_x); exact rfl) | ((with_reducible apply ox_id); first | ((with_reducible apply ox_boxAgg); exact rfl; intro _) | ((with_reducible apply ox_buildSlice1); (iterate 6 exact rfl); intro _)) | ((with_reducible apply rd_id); first | (apply Rd.own; (repeat (first | exact P0 | apply P1)); exact rfl; done)) | ((with_reducible apply t_id); first | (with_reducible apply t_seq) | (apply t_region; kernel_rfl) | (with_reducible apply t_ret)) | with_reducible apply q_thenN | (with_reducible apply end_ret) | exact rvs_nil | (with_reducible apply rvs_cons) | ((with_reducible apply rv_tmp); exact rfl))
    all_goals rfl
  | true =>
    rw [decide_eq_true (by have := hqe.1 rfl; unfold trOk; omega)]
    refine enterQ (c := cx w 25) Try.func86 rfl rfl rfl rfl ?_
    repeat' (first | ((with_reducible apply oq_id); first | ((with_reducible apply oq_lssF); exact rfl; exact rfl; omega) | ((with_reducible apply oq_geqF); exact rfl; exact rfl; omega) | ((with_reducible apply oq_gtrF); exact rfl; exact rfl; omega) | (apply oq_fn; exact rfl; try first | exact trivial | (and_intros <;> omega)) | ((with_reducible apply oq_load); exact rfl; exact rfl) | ((with_reducible apply oq_call (k := 63) (hc := Try.call63)); exact rfl; exact rfl; exact fun D w1 hw1 => fromOne hq hw1 (by (repeat (first | exact P0 | apply P1))))) | ((with_reducible apply tl_id); first | (with_reducible apply tl_nil) | ((with_reducible apply u_q); (iterate 4 exact rfl)) | ((with_reducible apply u_s); (iterate 3 exact rfl))) | ((with_reducible apply os_x); exact rfl) | ((with_reducible apply ox_id); first | ((with_reducible apply ox_boxAgg); exact rfl; intro _) | ((with_reducible apply ox_buildSlice1); (iterate 6 exact rfl); intro _)) | ((with_reducible apply rd_id); first | (apply Rd.own; (repeat (first | exact P0 | apply P1)); exact rfl; done)) | ((with_reducible apply t_id); first | (with_reducible apply t_seq) | (apply t_region; kernel_rfl) | (with_reducible apply t_ret)) | with_reducible apply q_thenN | (with_reducible apply end_ret) | exact rvs_nil | (with_reducible apply rvs_cons) | ((with_reducible apply rv_tmp); exact rfl))
    all_goals rfl
/-- Where the first odd trip is. -/
def oddI (l : List Tr) : Int := match l.findIdx? (fun x => !decide (trOk x)) with | some i => (i : Int) | none => -1
theorem oddI_at {l : List Tr} {i : Nat} {x : Tr} (hx : l[i]? = some x) (h : ¬ trOk x) (hb : ∀ j y, j < i → l[j]? = some y → trOk y) : oddI l = (i : Int) := by
  have : l.findIdx? (fun x => !decide (trOk x)) = some i := by
    rw [List.findIdx?_eq_some_iff_getElem]
    obtain ⟨h1, rfl⟩ := List.getElem?_eq_some_iff.1 hx
    exact ⟨h1, by simpa using h, fun j hj => by have := hb j _ hj (List.getElem?_eq_getElem (by omega)); simpa using this⟩
  unfold oddI; rw [this]
theorem oddI_no {l : List Tr} (h : ∀ x ∈ l, trOk x) : oddI l = -1 := by
  have : l.findIdx? (fun x => !decide (trOk x)) = none := by
    rw [List.findIdx?_eq_none_iff]
    intro x hx
    have := h x hx
    simpa using this
  unfold oddI; rw [this]
theorem oddI_neg {l : List Tr} : oddI l < 0 ↔ ∀ x ∈ l, trOk x := by
  constructor
  · intro h x hx
    unfold oddI at h
    cases hq : l.findIdx? (fun x => !decide (trOk x)) with
    | none =>
      have := List.findIdx?_eq_none_iff.1 hq x hx
      simpa using this
    | some i => rw [hq] at h; simp only at h; omega
  · intro h; rw [oddI_no h]; decide
theorem idxTr_calls (A : Option Addr) (n c : Nat) (l : List Tr) (w : World) (hr : RdS w 3 A n (l.map trCells)) (hn : n ≤ 1000000) : Calls Try.prog 114 #[.slice A n c, .func (.func 86) #[] #[]] w fun e w' => e = .returned (.int .i64 (oddI l)) ∧ Ext w w' := by
  have hl := hr.len
  simp only [List.length_map] at hl
  refine enterQ (c := cx w 19) Try.func114 rfl rfl rfl rfl ?_
  repeat' (first | ((with_reducible apply oq_id); first | (apply oq_fn; exact rfl; try first | exact trivial | (and_intros <;> omega))) | ((with_reducible apply tl_id); first | (with_reducible apply tl_nil) | ((with_reducible apply u_q); (iterate 4 exact rfl))) | ((with_reducible apply t_id); first | (with_reducible apply t_seq) | (apply t_region; kernel_rfl) | (with_reducible apply t_block)) | with_reducible apply q_thenN)
  apply t_loopK (ι := Nat) [0, 1, 6, 7] (fun i => [(8, .int .i64 (i : Nat))]) (fun _ => []) (fun i => i ≤ n ∧ ∀ j y, j < i → l[j]? = some y → trOk y) (fun i => n - i) (0)
  (repeat (first | exact KeepF.nil | (apply KeepF.cons; exact rfl) | apply KeepF.skip))
  (repeat (first | exact FrSub.nil | (apply FrSub.cons; exact rfl)))
  (repeat (first | exact HpSub.refl _ | (apply HpSub.consE; (repeat (first | exact P0 | apply P1)); exact rfl) | exact HpSub.nil))
  · exact ⟨Nat.zero_le _, fun j y hj => by omega⟩
  rintro i ⟨hi, hok⟩
  try simp only [List.cons_append, List.nil_append]
  by_cases hlt : i < n
  · obtain ⟨b, o, x, rfl, _, hx, c0, c1, c2⟩ := tr_read hr hlt
    have HO := fun w1 => odd_calls x w1
    by_cases ho : trOk x
    · rw [decide_eq_true ho] at HO
      repeat' (first | ((with_reducible apply oq_id); first | (focus ((with_reducible apply oq_indexAddrN); (iterate 4 exact rfl); omega)) | ((with_reducible apply oq_lssT); exact rfl; exact rfl; omega) | (apply oq_fn; exact rfl; try first | exact trivial | (and_intros <;> omega)) | ((with_reducible apply oq_loadAgg); exact rfl; exact rfl) | ((with_reducible apply oq_call (k := 86) (hc := Try.call86)); exact rfl; exact rfl; exact fun D w1 hw1 => HO w1)) | ((with_reducible apply tl_id); first | (with_reducible apply tl_nil) | ((with_reducible apply u_q); (iterate 4 exact rfl))) | ((with_reducible apply rd_id); first | (apply Rd.old; (first | exact c0 | exact c1 | exact c2); exact List.not_mem_nil)) | ((with_reducible apply t_id); first | (with_reducible apply t_seq) | (apply t_region; kernel_rfl) | ((with_reducible apply t_condT); exact rfl) | ((with_reducible apply t_condF); exact rfl) | (with_reducible apply t_skip) | (with_reducible apply t_block)) | with_reducible apply q_thenN | with_reducible apply q_blockN | exact Rdn.zero | apply Rdn.succ)
      all_goals (refine ⟨(i + 1), ⟨by omega, fun j y hj hy => by by_cases hji : j = i; (subst hji; rw [hx] at hy; cases hy; exact ho); exact hok j y (by omega) hy⟩, (by omega), ?_, ?_⟩ <;> (try simp only [List.cons_append, List.nil_append]) <;> (repeat' (first | exact FrSub.nil | (apply FrSub.cons; exact rfl) | exact HpSub.refl _)))
    · rw [decide_eq_false ho] at HO
      rw [oddI_at hx ho hok]
      repeat' (first | ((with_reducible apply oq_id); first | (focus ((with_reducible apply oq_indexAddrN); (iterate 4 exact rfl); omega)) | ((with_reducible apply oq_lssT); exact rfl; exact rfl; omega) | (apply oq_fn; exact rfl; try first | exact trivial | (and_intros <;> omega)) | ((with_reducible apply oq_loadAgg); exact rfl; exact rfl) | ((with_reducible apply oq_call (k := 86) (hc := Try.call86)); exact rfl; exact rfl; exact fun D w1 hw1 => HO w1)) | ((with_reducible apply tl_id); first | (with_reducible apply tl_nil) | ((with_reducible apply u_q); (iterate 4 exact rfl))) | ((with_reducible apply rd_id); first | (apply Rd.old; (first | exact c0 | exact c1 | exact c2); exact List.not_mem_nil)) | ((with_reducible apply t_id); first | (with_reducible apply t_seq) | (apply t_region; kernel_rfl) | ((with_reducible apply t_condT); exact rfl) | (with_reducible apply t_ret) | (with_reducible apply t_skip) | (with_reducible apply t_block)) | with_reducible apply q_thenN | with_reducible apply q_thenR | with_reducible apply q_blockR | exact Rdn.zero | apply Rdn.succ | (with_reducible apply end_ret) | exact rvs_nil | (with_reducible apply rvs_cons) | ((with_reducible apply rv_tmp); exact rfl))
      all_goals rfl
  · rw [oddI_no fun x hx => by
      obtain ⟨j, hj, rfl⟩ := List.getElem_of_mem hx
      exact hok j _ (by omega) (List.getElem?_eq_getElem hj)]
    repeat' (first | ((with_reducible apply oq_id); first | ((with_reducible apply oq_lssF); exact rfl; exact rfl; omega) | (apply oq_fn; exact rfl; try first | exact trivial | (and_intros <;> omega))) | ((with_reducible apply tl_id); first | (with_reducible apply tl_nil) | ((with_reducible apply u_q); (iterate 4 exact rfl))) | ((with_reducible apply t_id); first | (with_reducible apply t_seq) | (apply t_region; kernel_rfl) | ((with_reducible apply t_condF); exact rfl) | (with_reducible apply t_ret) | (with_reducible apply t_exit)) | with_reducible apply q_thenN | with_reducible apply q_thenE | ((with_reducible apply q_blockE); exact rfl) | (with_reducible apply end_ret) | exact rvs_nil | (with_reducible apply rvs_cons) | ((with_reducible apply rv_tmp); exact rfl))
    all_goals rfl
theorem contTr_calls (A : Option Addr) (n c : Nat) (l : List Tr) (w : World) (hr : RdS w 3 A n (l.map trCells)) (hn : n ≤ 1000000) : Calls Try.prog 87 #[.slice A n c, .func (.func 86) #[] #[]] w fun e w' => e = .returned (.bool (decide (0 ≤ oddI l))) ∧ Ext w w' := by
  by_cases h : 0 ≤ oddI l
  · rw [decide_eq_true h]
    refine enterQ (c := cx w 9) Try.func87 rfl rfl rfl rfl ?_
    repeat' (first | ((with_reducible apply oq_id); first | ((with_reducible apply oq_geqT); exact rfl; exact rfl; omega) | (apply oq_fn; exact rfl; try first | exact trivial | (and_intros <;> omega)) | ((with_reducible apply oq_call (k := 114) (hc := Try.call114)); exact rfl; exact rfl; exact fun D w1 hw1 => idxTr_calls A n c l w1 (hr.ext hw1.ext.ext) hn)) | ((with_reducible apply tl_id); first | (with_reducible apply tl_nil) | ((with_reducible apply u_q); (iterate 4 exact rfl))) | ((with_reducible apply t_id); first | (with_reducible apply t_seq) | (apply t_region; kernel_rfl) | (with_reducible apply t_ret)) | with_reducible apply q_thenN | (with_reducible apply end_ret) | exact rvs_nil | (with_reducible apply rvs_cons) | ((with_reducible apply rv_tmp); exact rfl))
    all_goals rfl
  · rw [decide_eq_false h]
    refine enterQ (c := cx w 9) Try.func87 rfl rfl rfl rfl ?_
    repeat' (first | ((with_reducible apply oq_id); first | ((with_reducible apply oq_geqF); exact rfl; exact rfl; omega) | (apply oq_fn; exact rfl; try first | exact trivial | (and_intros <;> omega)) | ((with_reducible apply oq_call (k := 114) (hc := Try.call114)); exact rfl; exact rfl; exact fun D w1 hw1 => idxTr_calls A n c l w1 (hr.ext hw1.ext.ext) hn)) | ((with_reducible apply tl_id); first | (with_reducible apply tl_nil) | ((with_reducible apply u_q); (iterate 4 exact rfl))) | ((with_reducible apply t_id); first | (with_reducible apply t_seq) | (apply t_region; kernel_rfl) | (with_reducible apply t_ret)) | with_reducible apply q_thenN | (with_reducible apply end_ret) | exact rvs_nil | (with_reducible apply rvs_cons) | ((with_reducible apply rv_tmp); exact rfl))
    all_goals rfl
/-- What Assign answers: the error. -/
def asgN (d : Du) (l : List Sh) (mem : Int) (ts : List Tr) : Option (List (List Int)) := tryF d mem.toNat 20 ts [] 0 l
def asgE (d : Du) (l : List Sh) (mem : Int) (ts : List Tr) : Int :=
  if tiE d l = 0 then (if 0 ≤ mem ∧ mem ≤ 6 then (if 4 < ts.length then 4 else if 0 ≤ oddI ts then 2 else if (asgN d l mem ts).isSome then 0 else 6) else 2) else tiE d l
def asgL (d : Du) (l : List Sh) (mem : Int) (ts : List Tr) : List (List Int) := if asgE d l mem ts = 0 then (asgN d l mem ts).getD [] else []
/-- What Assign hands out. -/
def AsgV (E : Int) (L : List (List Int)) (v : Value) (H : Hp) : Prop :=
  (E ≠ 0 ∧ v = .tuple #[.slice none 0 0, .int .i64 E] ∧ H = []) ∨ (E = 0 ∧ ∃ g R, (∀ r ∈ R, LrOk r) ∧ R.map Prod.fst = L ∧ v = .tuple #[.slice (some ⟨g, 0, none⟩) L.length L.length, .int .i64 0] ∧ H = outH g L.length R)
theorem out_none (g m : Nat) : outH g m (List.replicate m ([], none)) = [(g, List.replicate m (.slice none 0 0), some (41, 1, m))] := by
  unfold outH
  have h1 : ∀ k, rwsH (List.replicate k (([], none) : Row)) = [] := fun k => by
    induction k with
    | zero => rfl
    | succ k ih => rw [List.replicate_succ]; show rowH ([], none) ++ _ = []; rw [ih]; rfl
  rw [h1, List.map_replicate]
  rfl
theorem dep_le : ∀ {ts : List Tr}, (∀ x ∈ ts, trOk x) → dep ts ≤ 3 * ts.length + 1
  | [], _ => Nat.le_refl _
  | x :: ts, h => by
    have h1 := h x List.mem_cons_self
    unfold trOk at h1
    have := dep_le fun y hy => h y (List.mem_cons_of_mem _ hy)
    show x.crew.toNat + 1 + dep ts ≤ _
    simp only [List.length_cons]
    omega
theorem assign_T (d : Du) (A : Option Addr) (n c : Nat) (l : List Sh) (mem : Int) (AT : Option Addr) (m cT : Nat) (ts : List Tr) (w : World) (hr : RdS w 3 A n (l.map shCells)) (hA : A = none → n = 0 ∧ c = 0) (hrT : RdS w 3 AT m (ts.map trCells)) (hn : n ≤ 1000000) (hm : m ≤ 1000000) :
    Calls Try.prog 50 #[.agg #[.int .i64 d.most, .int .i64 d.rest, .int .i64 d.win, .int .i64 d.sum], .slice A n c, .int .i64 mem, .slice AT m cT] w fun e w' => ∃ v H', e = .returned v ∧ AsgV (asgE d l mem ts) (asgL d l mem ts) v H' ∧ Has w ⟨[], []⟩ H' w' := by
  have hl := hr.len
  simp only [List.length_map] at hl
  have hlT := hrT.len
  simp only [List.length_map] at hlT
  have HDu := fun w1 => dutyR_calls d w1
  have HRo := fun w1 h => rosR_calls A n c l w1 h hA hn
  obtain ⟨E0, hE0⟩ : ∃ E, tiE d l = E := ⟨_, rfl⟩
  have hEq := tiE_eq (d := d) (l := l)
  rw [hE0] at hEq
  obtain ⟨p, hp⟩ : ∃ p, duE d = p := ⟨_, rfl⟩
  obtain ⟨q', hq'⟩ : ∃ q, rosE l = q := ⟨_, rfl⟩
  rw [hp, hq'] at hEq
  rw [hp] at HDu
  rw [hq'] at HRo
  have HOr := fun A cp w c0 c1 => orE_calls p q' A cp w c0 c1
  rw [hEq] at HOr
  obtain ⟨q, hq⟩ : ∃ q, allFrom 0 6 [mem] = q := ⟨_, rfl⟩
  have hqe : q = true ↔ 0 ≤ mem ∧ mem ≤ 6 := by rw [← hq]; exact allFrom_one
  obtain ⟨E, hE⟩ : ∃ E, asgE d l mem ts = E := ⟨_, rfl⟩
  have hEd := hE
  unfold asgE at hEd
  rw [hE0] at hEd
  have hbad : E ≠ 0 → ∀ (H : Hp), ∃ H1, (AsgV (asgE d l mem ts) (asgL d l mem ts) (.tuple #[.slice none 0 0, .int .i64 E]) H1) ∧ HpSub H H1 := fun h H => ⟨[], .inl ⟨by rw [hE]; exact h, by rw [hE], rfl⟩, HpSub.nil⟩
  refine enterF (c := cx w 45) Try.func50 rfl rfl rfl rfl ?_
  refine t_cut (ι := Nat × Nat × Nat) (fun z => [(1, .slice A n c), (4, .pointer (some ⟨z.1, 0, none⟩)), (6, .pointer (some ⟨z.2.1, 0, none⟩)), (7, .pointer (some ⟨z.2.2, 0, none⟩))]) (fun z => [(z.2.2, [.slice AT m cT], some (89, 1, 1)), (z.2.1, [.int .i64 mem], some (3, 1, 1)), (z.1, [.int .i64 d.most, .int .i64 d.rest, .int .i64 d.win, .int .i64 d.sum], some (74, 4, 1))]) (fun _ => True) ?_ ?_
  · repeat' (first | ((with_reducible apply oq_id); first | (apply oq_fn; exact rfl; try first | exact trivial | (and_intros <;> omega))) | ((with_reducible apply tl_id); first | (with_reducible apply tl_nil) | ((with_reducible apply u_q); (iterate 4 exact rfl)) | ((with_reducible apply u_s); (iterate 3 exact rfl))) | ((with_reducible apply os_x); exact rfl) | ((with_reducible apply ox_id); first | ((with_reducible apply ox_box); exact rfl; exact rfl; intro _) | ((with_reducible apply ox_boxAgg); exact rfl; intro _)) | ((with_reducible apply t_id); first | (apply t_region; kernel_rfl)))
    all_goals exact ⟨rfl, (_, _, _), trivial, by (repeat (first | exact FrSub.nil | (apply FrSub.cons; exact rfl))), by (repeat (first | exact HpSub.refl _ | (apply HpSub.consE; (repeat (first | exact P0 | apply P1 | apply PA)); exact rfl) | apply hp_kA | apply HpSub.skipX | apply hp_skA | exact HpSub.nil))⟩
  rintro ⟨bD, bM, bT⟩ -
  try dsimp only
  by_cases h0 : E0 = 0
  rotate_left
  · rw [if_neg h0] at hEd
    subst hEd
    repeat' (first | ((with_reducible apply oq_id); first | ((with_reducible apply oq_neqT); exact rfl; exact rfl; omega) | (apply oq_fn; exact rfl; try first | exact trivial | (and_intros <;> omega)) | ((with_reducible apply oq_loadAgg); exact rfl; exact rfl) | ((with_reducible apply oq_call (k := 44) (hc := Try.call44)); exact rfl; exact rfl; exact fun D w1 hw1 => HDu w1) | ((with_reducible apply oq_call (k := 46) (hc := Try.call46)); exact rfl; exact rfl; exact fun D w1 hw1 => HRo w1 (hr.ext hw1.ext.ext)) | ((with_reducible apply oq_call (k := 81) (hc := Try.call81)); exact rfl; exact rfl; exact fun D w1 hw1 => HOr _ _ w1 (hw1.cellAt (by (repeat (first | exact P0 | apply P1 | apply PA))) rfl) (hw1.cellAt (by (repeat (first | exact P0 | apply P1 | apply PA))) rfl))) | ((with_reducible apply tl_id); first | (with_reducible apply tl_nil) | ((with_reducible apply u_q); (iterate 4 exact rfl)) | ((with_reducible apply u_s); (iterate 3 exact rfl))) | ((with_reducible apply os_x); exact rfl) | ((with_reducible apply ox_buildSlice1); (iterate 6 exact rfl); intro _) | ((with_reducible apply rd_id); first | (apply Rd.own; (repeat (first | exact P0 | apply P1 | apply PA)); exact rfl; done)) | ((with_reducible apply t_id); first | (with_reducible apply t_seq) | (apply t_region; kernel_rfl) | ((with_reducible apply t_condT); exact rfl) | (with_reducible apply t_ret)) | with_reducible apply q_thenN | with_reducible apply q_thenR | exact Rdn.zero | apply Rdn.succ | (with_reducible apply end_ret) | exact rvs_nil | (with_reducible apply rvs_cons) | ((with_reducible apply rv_tmp); exact rfl))
    all_goals exact hbad h0 _
  rw [if_pos h0] at hEd
  refine t_cut (ι := Unit) (fun _ => [(1, .slice A n c), (4, .pointer (some ⟨bD, 0, none⟩)), (6, .pointer (some ⟨bM, 0, none⟩)), (7, .pointer (some ⟨bT, 0, none⟩))]) (fun _ => [(bT, [.slice AT m cT], some (89, 1, 1)), (bM, [.int .i64 mem], some (3, 1, 1)), (bD, [.int .i64 d.most, .int .i64 d.rest, .int .i64 d.win, .int .i64 d.sum], some (74, 4, 1))]) (fun _ => True) ?_ ?_
  · repeat' (first | ((with_reducible apply oq_id); first | ((with_reducible apply oq_neqF); exact rfl; exact rfl; omega) | (apply oq_fn; exact rfl; try first | exact trivial | (and_intros <;> omega)) | ((with_reducible apply oq_loadAgg); exact rfl; exact rfl) | ((with_reducible apply oq_call (k := 44) (hc := Try.call44)); exact rfl; exact rfl; exact fun D w1 hw1 => HDu w1) | ((with_reducible apply oq_call (k := 46) (hc := Try.call46)); exact rfl; exact rfl; exact fun D w1 hw1 => HRo w1 (hr.ext hw1.ext.ext)) | ((with_reducible apply oq_call (k := 81) (hc := Try.call81)); exact rfl; exact rfl; exact fun D w1 hw1 => HOr _ _ w1 (hw1.cellAt (by (repeat (first | exact P0 | apply P1 | apply PA))) rfl) (hw1.cellAt (by (repeat (first | exact P0 | apply P1 | apply PA))) rfl))) | ((with_reducible apply tl_id); first | (with_reducible apply tl_nil) | ((with_reducible apply u_q); (iterate 4 exact rfl)) | ((with_reducible apply u_s); (iterate 3 exact rfl))) | ((with_reducible apply os_x); exact rfl) | ((with_reducible apply ox_buildSlice1); (iterate 6 exact rfl); intro _) | ((with_reducible apply rd_id); first | (apply Rd.own; (repeat (first | exact P0 | apply P1 | apply PA)); exact rfl; done)) | ((with_reducible apply t_id); first | (with_reducible apply t_seq) | (apply t_region; kernel_rfl) | ((with_reducible apply t_condF); exact rfl) | (with_reducible apply t_skip)) | with_reducible apply q_thenN | exact Rdn.zero | apply Rdn.succ)
    all_goals exact ⟨rfl, (), trivial, by (repeat (first | exact FrSub.nil | (apply FrSub.cons; exact rfl))), by (repeat (first | exact HpSub.refl _ | (apply HpSub.consE; (repeat (first | exact P0 | apply P1 | apply PA)); exact rfl) | apply hp_kA | apply HpSub.skipX | apply hp_skA | exact HpSub.nil))⟩
  rintro ⟨⟩ -
  refine t_cut (ι := Unit) (fun _ => [(1, .slice A n c), (4, .pointer (some ⟨bD, 0, none⟩)), (6, .pointer (some ⟨bM, 0, none⟩)), (7, .pointer (some ⟨bT, 0, none⟩)), (11, .func (.func 86) #[] #[])]) (fun _ => [(bT, [.slice AT m cT], some (89, 1, 1)), (bM, [.int .i64 mem], some (3, 1, 1)), (bD, [.int .i64 d.most, .int .i64 d.rest, .int .i64 d.win, .int .i64 d.sum], some (74, 4, 1))]) (fun _ => True) ?_ ?_
  · repeat' (first | ((with_reducible apply oq_id); first | (apply oq_fn; exact rfl; try first | exact trivial | (and_intros <;> omega))) | ((with_reducible apply tl_id); first | (with_reducible apply tl_nil) | ((with_reducible apply u_q); (iterate 4 exact rfl))) | ((with_reducible apply t_id); first | (apply t_region; kernel_rfl)))
    all_goals exact ⟨rfl, (), trivial, by (repeat (first | exact FrSub.nil | (apply FrSub.cons; exact rfl))), by (repeat (first | exact HpSub.refl _ | (apply HpSub.consE; (repeat (first | exact P0 | apply P1 | apply PA)); exact rfl) | apply hp_kA | apply HpSub.skipX | apply hp_skA | exact HpSub.nil))⟩
  rintro ⟨⟩ -
  by_cases h1 : q = true
  rotate_left
  · obtain rfl : q = false := by cases q; rfl; exact absurd rfl h1
    rw [if_neg (fun h => h1 (hqe.2 h))] at hEd
    subst hEd
    repeat' (first | ((with_reducible apply oq_id); first | (apply oq_fn; exact rfl; try first | exact trivial | (and_intros <;> omega)) | ((with_reducible apply oq_load); exact rfl; exact rfl) | ((with_reducible apply oq_call (k := 63) (hc := Try.call63)); exact rfl; exact rfl; exact fun D w1 hw1 => fromOne hq hw1 (by (repeat (first | exact P0 | apply P1 | apply PA))))) | ((with_reducible apply tl_id); first | (with_reducible apply tl_nil) | ((with_reducible apply u_q); (iterate 4 exact rfl)) | ((with_reducible apply u_s); (iterate 3 exact rfl))) | ((with_reducible apply os_x); exact rfl) | ((with_reducible apply ox_buildSlice1); (iterate 6 exact rfl); intro _) | ((with_reducible apply rd_id); first | (apply Rd.own; (repeat (first | exact P0 | apply P1 | apply PA)); exact rfl; done)) | ((with_reducible apply t_id); first | (with_reducible apply t_seq) | (apply t_region; kernel_rfl) | ((with_reducible apply t_condT); exact rfl) | (with_reducible apply t_ret) | (with_reducible apply t_block)) | with_reducible apply q_thenN | with_reducible apply q_thenR | with_reducible apply q_blockR | (with_reducible apply end_ret) | exact rvs_nil | (with_reducible apply rvs_cons) | ((with_reducible apply rv_tmp); exact rfl))
    all_goals exact hbad (by decide) _
  subst h1
  have hmem := hqe.1 rfl
  rw [if_pos hmem] at hEd
  by_cases h2 : 4 < ts.length
  · rw [if_pos h2] at hEd
    subst hEd
    repeat' (first | ((with_reducible apply oq_id); first | ((with_reducible apply oq_gtrT); exact rfl; exact rfl; omega) | (apply oq_fn; exact rfl; try first | exact trivial | (and_intros <;> omega)) | ((with_reducible apply oq_load); exact rfl; exact rfl) | ((with_reducible apply oq_call (k := 63) (hc := Try.call63)); exact rfl; exact rfl; exact fun D w1 hw1 => fromOne hq hw1 (by (repeat (first | exact P0 | apply P1 | apply PA))))) | ((with_reducible apply tl_id); first | (with_reducible apply tl_nil) | ((with_reducible apply u_q); (iterate 4 exact rfl)) | ((with_reducible apply u_s); (iterate 3 exact rfl))) | ((with_reducible apply os_x); exact rfl) | ((with_reducible apply ox_buildSlice1); (iterate 6 exact rfl); intro _) | ((with_reducible apply rd_id); first | (apply Rd.own; (repeat (first | exact P0 | apply P1 | apply PA)); exact rfl; done)) | ((with_reducible apply t_id); first | (with_reducible apply t_seq) | (apply t_region; kernel_rfl) | ((with_reducible apply t_condT); exact rfl) | ((with_reducible apply t_condF); exact rfl) | (with_reducible apply t_ret) | (with_reducible apply t_block)) | with_reducible apply q_thenN | with_reducible apply q_thenR | with_reducible apply q_blockR | (with_reducible apply end_ret) | exact rvs_nil | (with_reducible apply rvs_cons) | ((with_reducible apply rv_tmp); exact rfl))
    all_goals exact hbad (by decide) _
  rw [if_neg h2] at hEd
  have HCt := fun w1 h => contTr_calls AT m cT ts w1 h hm
  by_cases h3 : 0 ≤ oddI ts
  · rw [if_pos h3] at hEd
    subst hEd
    rw [decide_eq_true h3] at HCt
    repeat' (first | ((with_reducible apply oq_id); first | ((with_reducible apply oq_gtrF); exact rfl; exact rfl; omega) | (apply oq_fn; exact rfl; try first | exact trivial | (and_intros <;> omega)) | ((with_reducible apply oq_load); exact rfl; exact rfl) | ((with_reducible apply oq_call (k := 87) (hc := Try.call87)); exact rfl; exact rfl; exact fun D w1 hw1 => HCt w1 (hrT.ext hw1.ext.ext)) | ((with_reducible apply oq_call (k := 63) (hc := Try.call63)); exact rfl; exact rfl; exact fun D w1 hw1 => fromOne hq hw1 (by (repeat (first | exact P0 | apply P1 | apply PA))))) | ((with_reducible apply tl_id); first | (with_reducible apply tl_nil) | ((with_reducible apply u_q); (iterate 4 exact rfl)) | ((with_reducible apply u_s); (iterate 3 exact rfl))) | ((with_reducible apply os_x); exact rfl) | ((with_reducible apply ox_buildSlice1); (iterate 6 exact rfl); intro _) | ((with_reducible apply rd_id); first | (apply Rd.own; (repeat (first | exact P0 | apply P1 | apply PA)); exact rfl; done)) | ((with_reducible apply t_id); first | (with_reducible apply t_seq) | (apply t_region; kernel_rfl) | ((with_reducible apply t_condT); exact rfl) | ((with_reducible apply t_condF); exact rfl) | (with_reducible apply t_ret) | (with_reducible apply t_block)) | with_reducible apply q_thenN | with_reducible apply q_thenR | with_reducible apply q_blockR | (with_reducible apply end_ret) | exact rvs_nil | (with_reducible apply rvs_cons) | ((with_reducible apply rv_tmp); exact rfl))
    all_goals exact hbad (by decide) _
  rw [if_neg h3] at hEd
  rw [decide_eq_false h3] at HCt
  have hto := oddI_neg.1 (show oddI ts < 0 by omega)
  obtain ⟨hd, hl40, hRos⟩ := tiE_ok (hE0.trans h0)
  refine t_cut (ι := Unit) (fun _ => [(1, .slice A n c), (4, .pointer (some ⟨bD, 0, none⟩)), (6, .pointer (some ⟨bM, 0, none⟩)), (7, .pointer (some ⟨bT, 0, none⟩))]) (fun _ => [(bT, [.slice AT m cT], some (89, 1, 1)), (bM, [.int .i64 mem], some (3, 1, 1)), (bD, [.int .i64 d.most, .int .i64 d.rest, .int .i64 d.win, .int .i64 d.sum], some (74, 4, 1))]) (fun _ => True) ?_ ?_
  · repeat' (first | ((with_reducible apply oq_id); first | ((with_reducible apply oq_gtrF); exact rfl; exact rfl; omega) | (apply oq_fn; exact rfl; try first | exact trivial | (and_intros <;> omega)) | ((with_reducible apply oq_load); exact rfl; exact rfl) | ((with_reducible apply oq_call (k := 87) (hc := Try.call87)); exact rfl; exact rfl; exact fun D w1 hw1 => HCt w1 (hrT.ext hw1.ext.ext)) | ((with_reducible apply oq_call (k := 63) (hc := Try.call63)); exact rfl; exact rfl; exact fun D w1 hw1 => fromOne hq hw1 (by (repeat (first | exact P0 | apply P1 | apply PA))))) | ((with_reducible apply tl_id); first | (with_reducible apply tl_nil) | ((with_reducible apply u_q); (iterate 4 exact rfl)) | ((with_reducible apply u_s); (iterate 3 exact rfl))) | ((with_reducible apply os_x); exact rfl) | ((with_reducible apply ox_buildSlice1); (iterate 6 exact rfl); intro _) | ((with_reducible apply rd_id); first | (apply Rd.own; (repeat (first | exact P0 | apply P1 | apply PA)); exact rfl; done)) | ((with_reducible apply t_id); first | (with_reducible apply t_seq) | (apply t_region; kernel_rfl) | ((with_reducible apply t_condF); exact rfl) | (with_reducible apply t_skip) | (with_reducible apply t_block)) | with_reducible apply q_thenN | with_reducible apply q_blockN)
    all_goals exact ⟨rfl, (), trivial, by (repeat (first | exact FrSub.nil | (apply FrSub.cons; exact rfl))), by (repeat (first | exact HpSub.refl _ | (apply HpSub.consE; (repeat (first | exact P0 | apply P1 | apply PA)); exact rfl) | apply hp_kA | apply HpSub.skipX | apply hp_skA | exact HpSub.nil))⟩
  rintro ⟨⟩ -
  refine t_cut (ι := Nat × Nat) (fun z => [(1, .slice A n c), (4, .pointer (some ⟨bD, 0, none⟩)), (6, .pointer (some ⟨bM, 0, none⟩)), (7, .pointer (some ⟨bT, 0, none⟩)), (12, .pointer (some ⟨z.2, 0, none⟩))]) (fun z => (z.2, [.slice (some ⟨z.1, 0, none⟩) m m], some (90, 1, 1)) :: (z.1, List.replicate m (.slice none 0 0), some (41, 1, m)) :: [(bT, [.slice AT m cT], some (89, 1, 1)), (bM, [.int .i64 mem], some (3, 1, 1)), (bD, [.int .i64 d.most, .int .i64 d.rest, .int .i64 d.win, .int .i64 d.sum], some (74, 4, 1))]) (fun _ => True) ?_ ?_
  · repeat' (first | ((with_reducible apply oq_id); first | (apply oq_fn; exact rfl; try first | exact trivial | (and_intros <;> omega)) | ((with_reducible apply oq_load); exact rfl; exact rfl)) | ((with_reducible apply tl_id); first | (with_reducible apply tl_nil) | ((with_reducible apply u_s); (iterate 3 exact rfl); (with_reducible apply os_makeL); exact rfl; exact rfl; omega; intro gg) | ((with_reducible apply u_q); (iterate 4 exact rfl)) | ((with_reducible apply u_s0); exact rfl; exact rfl) | ((with_reducible apply u_s); (iterate 3 exact rfl))) | ((with_reducible apply os_id); first | ((with_reducible apply os_x); exact rfl) | ((with_reducible apply os_store); (iterate 4 exact rfl))) | ((with_reducible apply ox_alloc); exact rfl; intro _) | ((with_reducible apply rd_id); first | (apply Rd.own; (repeat (first | exact P0 | apply P1 | apply PA)); exact rfl; done)) | ((with_reducible apply t_id); first | (apply t_region; kernel_rfl)) | exact P0 | ((with_reducible apply Norm.nil); exact rfl) | ((with_reducible apply Norm.cons); exact rfl) | exact Nat.le_of_ble_eq_true rfl)
    all_goals exact ⟨by trivial, (_, _), trivial, by (repeat (first | exact FrSub.nil | (apply FrSub.cons; exact rfl))), by (repeat (first | exact HpSub.refl _ | (apply HpSub.consE; (repeat (first | exact P0 | apply P1 | apply PA)); exact rfl) | apply hp_kA | apply HpSub.skipX | apply hp_skA | exact HpSub.nil))⟩
  rintro ⟨g, bO⟩ -
  try dsimp only
  refine t_cut (ι := Nat) (fun bF => [(1, .slice A n c), (4, .pointer (some ⟨bD, 0, none⟩)), (6, .pointer (some ⟨bM, 0, none⟩)), (7, .pointer (some ⟨bT, 0, none⟩)), (12, .pointer (some ⟨bO, 0, none⟩)), (13, .pointer (some ⟨bF, 0, none⟩))]) (fun bF => (bF, [.nilFunc], some (152, 1, 1)) :: (bO, [.slice (some ⟨g, 0, none⟩) m m], some (90, 1, 1)) :: (g, List.replicate m (.slice none 0 0), some (41, 1, m)) :: [(bT, [.slice AT m cT], some (89, 1, 1)), (bM, [.int .i64 mem], some (3, 1, 1)), (bD, [.int .i64 d.most, .int .i64 d.rest, .int .i64 d.win, .int .i64 d.sum], some (74, 4, 1))]) (fun _ => True) ?_ ?_
  · repeat' (first | ((with_reducible apply tl_id); first | (with_reducible apply tl_nil) | ((with_reducible apply u_s); (iterate 3 exact rfl))) | ((with_reducible apply os_x); exact rfl) | ((with_reducible apply ox_alloc); exact rfl; intro _) | ((with_reducible apply t_id); first | (apply t_region; kernel_rfl)))
    all_goals exact ⟨by trivial, _, trivial, by (repeat (first | exact FrSub.nil | (apply FrSub.cons; exact rfl))), by (repeat (first | exact HpSub.refl _ | (apply HpSub.consE; (repeat (first | exact P0 | apply P1 | apply PA)); exact rfl) | apply hp_kA | apply HpSub.skipX | apply hp_skA | exact HpSub.nil))⟩
  rintro bF -
  try dsimp only
  refine t_cut (ι := Unit) (fun _ => [(1, .slice A n c), (4, .pointer (some ⟨bD, 0, none⟩)), (6, .pointer (some ⟨bM, 0, none⟩)), (7, .pointer (some ⟨bT, 0, none⟩)), (12, .pointer (some ⟨bO, 0, none⟩)), (13, .pointer (some ⟨bF, 0, none⟩))]) (fun _ => [(bF, [.func (.func 88) #[] #[.pointer (some ⟨bD, 0, none⟩), .pointer (some ⟨bT, 0, none⟩), .pointer (some ⟨bO, 0, none⟩), .pointer (some ⟨bF, 0, none⟩), .pointer (some ⟨bM, 0, none⟩)]], some (152, 1, 1)), (bO, [.slice (some ⟨g, 0, none⟩) m m], some (90, 1, 1)), (bT, [.slice AT m cT], some (89, 1, 1)), (bM, [.int .i64 mem], some (3, 1, 1)), (bD, [.int .i64 d.most, .int .i64 d.rest, .int .i64 d.win, .int .i64 d.sum], some (74, 4, 1))] ++ outH g m (List.replicate m ([], none))) (fun _ => True) ?_ ?_
  · repeat' (first | ((with_reducible apply oq_id); first | (apply oq_fn; exact rfl; try first | exact trivial | (and_intros <;> omega))) | ((with_reducible apply tl_id); first | (with_reducible apply tl_nil) | ((with_reducible apply u_q); (iterate 4 exact rfl)) | ((with_reducible apply u_s0); exact rfl; exact rfl)) | ((with_reducible apply os_store); (iterate 4 exact rfl)) | ((with_reducible apply t_id); first | (apply t_region; kernel_rfl)) | exact P0 | ((with_reducible apply Norm.nil); exact rfl) | ((with_reducible apply Norm.cons); exact rfl) | exact Nat.le_of_ble_eq_true rfl)
    all_goals exact ⟨by trivial, (), trivial, by (repeat (first | exact FrSub.nil | (apply FrSub.cons; exact rfl))), by (rw [out_none]; simp only [List.cons_append, List.nil_append]; (repeat (first | exact HpSub.refl _ | (apply HpSub.consE; (repeat (first | exact P0 | apply P1 | apply PA)); exact rfl) | apply hp_kA | apply HpSub.skipX | apply hp_skA | exact HpSub.nil)))⟩
  rintro ⟨⟩ -
  obtain ⟨R0, hR0⟩ : ∃ R : List Row, List.replicate m ([], none) = R := ⟨_, rfl⟩
  have hR0l : R0.length = m := by rw [← hR0]; simp
  have hR0e : ∀ (j : Nat) r, R0[j]? = some r → r = ([], none) := fun j r h => by
    rw [← hR0, List.getElem?_replicate] at h
    split at h
    · exact (Option.some.inj h).symm
    · cases h
  have hR0k : ∀ r ∈ R0, LrOk r := fun r h => by
    obtain ⟨j, hj, rfl⟩ := List.getElem_of_mem h
    rw [hR0e j _ (List.getElem?_eq_getElem hj)]
    exact ⟨fun _ => rfl, Nat.le_refl _⟩
  have hR0c : R0.map Prod.fst = List.replicate m [] := by rw [← hR0]; simp
  rw [hR0]
  obtain ⟨mm, hmm⟩ : ∃ k : Nat, mem = (k : Int) := ⟨mem.toNat, by omega⟩
  have hdep := dep_le hto
  obtain ⟨N, hN⟩ : ∃ N, asgN d l mem ts = N := ⟨_, rfl⟩
  have hNe := hN
  unfold asgN at hNe
  have htry := fun w1 h1 h2 h3 h4 => try_T d hd mm m (by omega) (by omega) ts hlT hto bD bT bO bF bM g AT cT 20 0 0 l R0 [] A n c w1 hR0l hR0k (Nat.zero_le _) (fun j r _ h => by rw [hR0e j r h]) (fun r h => by rw [hR0e 0 r h]) (fun _ => rfl) (fun x hx => by have := hto x (List.mem_of_getElem? hx); unfold trOk at this; simp only [List.length_nil]; omega) (by rw [List.drop_zero]; simp only [List.length_nil]; omega) (by omega) (by omega) h1 hA h2 h3 h4
  rw [List.drop_zero, show tryF d mm 20 ts [] 0 l = N by rw [← hNe, hmm]; rfl, hR0c] at htry
  subst hmm
  cases N with
  | none =>
    rw [hN] at hEd
    simp only [Option.isSome_none, Bool.false_eq_true, if_false] at hEd
    subst hEd
    repeat' (first | ((with_reducible apply oq_id); first | (apply oq_fn; exact rfl; try first | exact trivial | (and_intros <;> omega)) | ((with_reducible apply oq_load); exact rfl; exact rfl)) | ((with_reducible apply tl_id); first | (with_reducible apply tl_nil) | ((with_reducible apply u_s); (iterate 3 exact rfl); (with_reducible apply os_callM (G := outH g m R0) (R := [(bF, [.func (.func 88) #[] #[.pointer (some ⟨bD, 0, none⟩), .pointer (some ⟨bT, 0, none⟩), .pointer (some ⟨bO, 0, none⟩), .pointer (some ⟨bF, 0, none⟩), .pointer (some ⟨bM, 0, none⟩)]], some (152, 1, 1)), (bO, [.slice (some ⟨g, 0, none⟩) m m], some (90, 1, 1)), (bT, [.slice AT m cT], some (89, 1, 1)), (bM, [.int .i64 (mm : Nat)], some (3, 1, 1)), (bD, [.int .i64 d.most, .int .i64 d.rest, .int .i64 d.win, .int .i64 d.sum], some (74, 4, 1))]) (PV := TryP g m (List.replicate m []) 0 none) (k := 88) (hc := Try.call88)); exact rfl; exact rfl; exact hp_comm [(bF, [.func (.func 88) #[] #[.pointer (some ⟨bD, 0, none⟩), .pointer (some ⟨bT, 0, none⟩), .pointer (some ⟨bO, 0, none⟩), .pointer (some ⟨bF, 0, none⟩), .pointer (some ⟨bM, 0, none⟩)]], some (152, 1, 1)), (bO, [.slice (some ⟨g, 0, none⟩) m m], some (90, 1, 1)), (bT, [.slice AT m cT], some (89, 1, 1)), (bM, [.int .i64 (mm : Nat)], some (3, 1, 1)), (bD, [.int .i64 d.most, .int .i64 d.rest, .int .i64 d.win, .int .i64 d.sum], some (74, 4, 1))] _; exact fun D w1 hw1 hw2 => htry w1 (hr.ext hw1.ext.ext) (old_off (X := [(bF, [.func (.func 88) #[] #[.pointer (some ⟨bD, 0, none⟩), .pointer (some ⟨bT, 0, none⟩), .pointer (some ⟨bO, 0, none⟩), .pointer (some ⟨bF, 0, none⟩), .pointer (some ⟨bM, 0, none⟩)]], some (152, 1, 1)), (bO, [.slice (some ⟨g, 0, none⟩) m m], some (90, 1, 1)), (bT, [.slice AT m cT], some (89, 1, 1)), (bM, [.int .i64 (mm : Nat)], some (3, 1, 1)), (bD, [.int .i64 d.most, .int .i64 d.rest, .int .i64 d.win, .int .i64 d.sum], some (74, 4, 1))]) hw1 hr) ⟨hw1.cellAt (by (repeat (first | exact P0 | apply P1 | apply PA))) rfl, hw1.cellAt (by (repeat (first | exact P0 | apply P1 | apply PA))) rfl, hw1.cellAt (by (repeat (first | exact P0 | apply P1 | apply PA))) rfl, hw1.cellAt (by (repeat (first | exact P0 | apply P1 | apply PA))) rfl, hw1.cellAt (by (repeat (first | exact P0 | apply P1 | apply PA))) rfl, hw1.cellAt (by (repeat (first | exact P0 | apply P1 | apply PA))) rfl, hw1.cellAt (by (repeat (first | exact P0 | apply P1 | apply PA))) rfl, hw1.cellAt (by (repeat (first | exact P0 | apply P1 | apply PA))) rfl, hrT.ext hw1.ext.ext, Has.off2 (X := [(bF, [.func (.func 88) #[] #[.pointer (some ⟨bD, 0, none⟩), .pointer (some ⟨bT, 0, none⟩), .pointer (some ⟨bO, 0, none⟩), .pointer (some ⟨bF, 0, none⟩), .pointer (some ⟨bM, 0, none⟩)]], some (152, 1, 1)), (bO, [.slice (some ⟨g, 0, none⟩) m m], some (90, 1, 1)), (bT, [.slice AT m cT], some (89, 1, 1)), (bM, [.int .i64 (mm : Nat)], some (3, 1, 1)), (bD, [.int .i64 d.most, .int .i64 d.rest, .int .i64 d.win, .int .i64 d.sum], some (74, 4, 1))]) hw1 (by simp), Has.off2 (X := [(bF, [.func (.func 88) #[] #[.pointer (some ⟨bD, 0, none⟩), .pointer (some ⟨bT, 0, none⟩), .pointer (some ⟨bO, 0, none⟩), .pointer (some ⟨bF, 0, none⟩), .pointer (some ⟨bM, 0, none⟩)]], some (152, 1, 1)), (bO, [.slice (some ⟨g, 0, none⟩) m m], some (90, 1, 1)), (bT, [.slice AT m cT], some (89, 1, 1)), (bM, [.int .i64 (mm : Nat)], some (3, 1, 1)), (bD, [.int .i64 d.most, .int .i64 d.rest, .int .i64 d.win, .int .i64 d.sum], some (74, 4, 1))]) hw1 (by simp), Has.off2 (X := [(bF, [.func (.func 88) #[] #[.pointer (some ⟨bD, 0, none⟩), .pointer (some ⟨bT, 0, none⟩), .pointer (some ⟨bO, 0, none⟩), .pointer (some ⟨bF, 0, none⟩), .pointer (some ⟨bM, 0, none⟩)]], some (152, 1, 1)), (bO, [.slice (some ⟨g, 0, none⟩) m m], some (90, 1, 1)), (bT, [.slice AT m cT], some (89, 1, 1)), (bM, [.int .i64 (mm : Nat)], some (3, 1, 1)), (bD, [.int .i64 d.most, .int .i64 d.rest, .int .i64 d.win, .int .i64 d.sum], some (74, 4, 1))]) hw1 (by simp), Has.off2 (X := [(bF, [.func (.func 88) #[] #[.pointer (some ⟨bD, 0, none⟩), .pointer (some ⟨bT, 0, none⟩), .pointer (some ⟨bO, 0, none⟩), .pointer (some ⟨bF, 0, none⟩), .pointer (some ⟨bM, 0, none⟩)]], some (152, 1, 1)), (bO, [.slice (some ⟨g, 0, none⟩) m m], some (90, 1, 1)), (bT, [.slice AT m cT], some (89, 1, 1)), (bM, [.int .i64 (mm : Nat)], some (3, 1, 1)), (bD, [.int .i64 d.most, .int .i64 d.rest, .int .i64 d.win, .int .i64 d.sum], some (74, 4, 1))]) hw1 (by simp), Has.off2 (X := [(bF, [.func (.func 88) #[] #[.pointer (some ⟨bD, 0, none⟩), .pointer (some ⟨bT, 0, none⟩), .pointer (some ⟨bO, 0, none⟩), .pointer (some ⟨bF, 0, none⟩), .pointer (some ⟨bM, 0, none⟩)]], some (152, 1, 1)), (bO, [.slice (some ⟨g, 0, none⟩) m m], some (90, 1, 1)), (bT, [.slice AT m cT], some (89, 1, 1)), (bM, [.int .i64 (mm : Nat)], some (3, 1, 1)), (bD, [.int .i64 d.most, .int .i64 d.rest, .int .i64 d.win, .int .i64 d.sum], some (74, 4, 1))]) hw1 (by simp), old_off (X := [(bF, [.func (.func 88) #[] #[.pointer (some ⟨bD, 0, none⟩), .pointer (some ⟨bT, 0, none⟩), .pointer (some ⟨bO, 0, none⟩), .pointer (some ⟨bF, 0, none⟩), .pointer (some ⟨bM, 0, none⟩)]], some (152, 1, 1)), (bO, [.slice (some ⟨g, 0, none⟩) m m], some (90, 1, 1)), (bT, [.slice AT m cT], some (89, 1, 1)), (bM, [.int .i64 (mm : Nat)], some (3, 1, 1)), (bD, [.int .i64 d.most, .int .i64 d.rest, .int .i64 d.win, .int .i64 d.sum], some (74, 4, 1))]) hw1 hrT⟩ hw2; rintro v H1 ⟨R5, hok5, rfl, hcs5, rfl⟩; (simp only [Option.isSome_some, Option.isSome_none])) | ((with_reducible apply u_q); (iterate 4 exact rfl))) | ((with_reducible apply rd_id); first | (apply Rd.own; (repeat (first | exact P0 | apply P1 | apply PA)); exact rfl; done)) | ((with_reducible apply t_id); first | (with_reducible apply t_seq) | (apply t_region; kernel_rfl) | ((with_reducible apply t_condT); exact rfl) | (with_reducible apply t_ret)) | with_reducible apply q_thenN | with_reducible apply q_thenR | (with_reducible apply end_ret) | exact rvs_nil | (with_reducible apply rvs_cons) | ((with_reducible apply rv_tmp); exact rfl))
    all_goals exact hbad (by decide) _
  | some rs =>
    rw [hN] at hEd
    simp only [Option.isSome_some, if_true] at hEd
    subst hEd
    have hrl : rs.length = m := by rw [← hlT]; exact tryF_len hNe
    have hL : asgL d l (mm : Nat) ts = rs := by unfold asgL; rw [if_pos hE, hN]; rfl
    repeat' (first | ((with_reducible apply oq_id); first | (apply oq_fn; exact rfl; try first | exact trivial | (and_intros <;> omega)) | ((with_reducible apply oq_load); exact rfl; exact rfl)) | ((with_reducible apply tl_id); first | (with_reducible apply tl_nil) | ((with_reducible apply u_s); (iterate 3 exact rfl); (with_reducible apply os_callM (G := outH g m R0) (R := [(bF, [.func (.func 88) #[] #[.pointer (some ⟨bD, 0, none⟩), .pointer (some ⟨bT, 0, none⟩), .pointer (some ⟨bO, 0, none⟩), .pointer (some ⟨bF, 0, none⟩), .pointer (some ⟨bM, 0, none⟩)]], some (152, 1, 1)), (bO, [.slice (some ⟨g, 0, none⟩) m m], some (90, 1, 1)), (bT, [.slice AT m cT], some (89, 1, 1)), (bM, [.int .i64 (mm : Nat)], some (3, 1, 1)), (bD, [.int .i64 d.most, .int .i64 d.rest, .int .i64 d.win, .int .i64 d.sum], some (74, 4, 1))]) (PV := TryP g m (List.replicate m []) 0 (some rs)) (k := 88) (hc := Try.call88)); exact rfl; exact rfl; exact hp_comm [(bF, [.func (.func 88) #[] #[.pointer (some ⟨bD, 0, none⟩), .pointer (some ⟨bT, 0, none⟩), .pointer (some ⟨bO, 0, none⟩), .pointer (some ⟨bF, 0, none⟩), .pointer (some ⟨bM, 0, none⟩)]], some (152, 1, 1)), (bO, [.slice (some ⟨g, 0, none⟩) m m], some (90, 1, 1)), (bT, [.slice AT m cT], some (89, 1, 1)), (bM, [.int .i64 (mm : Nat)], some (3, 1, 1)), (bD, [.int .i64 d.most, .int .i64 d.rest, .int .i64 d.win, .int .i64 d.sum], some (74, 4, 1))] _; exact fun D w1 hw1 hw2 => htry w1 (hr.ext hw1.ext.ext) (old_off (X := [(bF, [.func (.func 88) #[] #[.pointer (some ⟨bD, 0, none⟩), .pointer (some ⟨bT, 0, none⟩), .pointer (some ⟨bO, 0, none⟩), .pointer (some ⟨bF, 0, none⟩), .pointer (some ⟨bM, 0, none⟩)]], some (152, 1, 1)), (bO, [.slice (some ⟨g, 0, none⟩) m m], some (90, 1, 1)), (bT, [.slice AT m cT], some (89, 1, 1)), (bM, [.int .i64 (mm : Nat)], some (3, 1, 1)), (bD, [.int .i64 d.most, .int .i64 d.rest, .int .i64 d.win, .int .i64 d.sum], some (74, 4, 1))]) hw1 hr) ⟨hw1.cellAt (by (repeat (first | exact P0 | apply P1 | apply PA))) rfl, hw1.cellAt (by (repeat (first | exact P0 | apply P1 | apply PA))) rfl, hw1.cellAt (by (repeat (first | exact P0 | apply P1 | apply PA))) rfl, hw1.cellAt (by (repeat (first | exact P0 | apply P1 | apply PA))) rfl, hw1.cellAt (by (repeat (first | exact P0 | apply P1 | apply PA))) rfl, hw1.cellAt (by (repeat (first | exact P0 | apply P1 | apply PA))) rfl, hw1.cellAt (by (repeat (first | exact P0 | apply P1 | apply PA))) rfl, hw1.cellAt (by (repeat (first | exact P0 | apply P1 | apply PA))) rfl, hrT.ext hw1.ext.ext, Has.off2 (X := [(bF, [.func (.func 88) #[] #[.pointer (some ⟨bD, 0, none⟩), .pointer (some ⟨bT, 0, none⟩), .pointer (some ⟨bO, 0, none⟩), .pointer (some ⟨bF, 0, none⟩), .pointer (some ⟨bM, 0, none⟩)]], some (152, 1, 1)), (bO, [.slice (some ⟨g, 0, none⟩) m m], some (90, 1, 1)), (bT, [.slice AT m cT], some (89, 1, 1)), (bM, [.int .i64 (mm : Nat)], some (3, 1, 1)), (bD, [.int .i64 d.most, .int .i64 d.rest, .int .i64 d.win, .int .i64 d.sum], some (74, 4, 1))]) hw1 (by simp), Has.off2 (X := [(bF, [.func (.func 88) #[] #[.pointer (some ⟨bD, 0, none⟩), .pointer (some ⟨bT, 0, none⟩), .pointer (some ⟨bO, 0, none⟩), .pointer (some ⟨bF, 0, none⟩), .pointer (some ⟨bM, 0, none⟩)]], some (152, 1, 1)), (bO, [.slice (some ⟨g, 0, none⟩) m m], some (90, 1, 1)), (bT, [.slice AT m cT], some (89, 1, 1)), (bM, [.int .i64 (mm : Nat)], some (3, 1, 1)), (bD, [.int .i64 d.most, .int .i64 d.rest, .int .i64 d.win, .int .i64 d.sum], some (74, 4, 1))]) hw1 (by simp), Has.off2 (X := [(bF, [.func (.func 88) #[] #[.pointer (some ⟨bD, 0, none⟩), .pointer (some ⟨bT, 0, none⟩), .pointer (some ⟨bO, 0, none⟩), .pointer (some ⟨bF, 0, none⟩), .pointer (some ⟨bM, 0, none⟩)]], some (152, 1, 1)), (bO, [.slice (some ⟨g, 0, none⟩) m m], some (90, 1, 1)), (bT, [.slice AT m cT], some (89, 1, 1)), (bM, [.int .i64 (mm : Nat)], some (3, 1, 1)), (bD, [.int .i64 d.most, .int .i64 d.rest, .int .i64 d.win, .int .i64 d.sum], some (74, 4, 1))]) hw1 (by simp), Has.off2 (X := [(bF, [.func (.func 88) #[] #[.pointer (some ⟨bD, 0, none⟩), .pointer (some ⟨bT, 0, none⟩), .pointer (some ⟨bO, 0, none⟩), .pointer (some ⟨bF, 0, none⟩), .pointer (some ⟨bM, 0, none⟩)]], some (152, 1, 1)), (bO, [.slice (some ⟨g, 0, none⟩) m m], some (90, 1, 1)), (bT, [.slice AT m cT], some (89, 1, 1)), (bM, [.int .i64 (mm : Nat)], some (3, 1, 1)), (bD, [.int .i64 d.most, .int .i64 d.rest, .int .i64 d.win, .int .i64 d.sum], some (74, 4, 1))]) hw1 (by simp), Has.off2 (X := [(bF, [.func (.func 88) #[] #[.pointer (some ⟨bD, 0, none⟩), .pointer (some ⟨bT, 0, none⟩), .pointer (some ⟨bO, 0, none⟩), .pointer (some ⟨bF, 0, none⟩), .pointer (some ⟨bM, 0, none⟩)]], some (152, 1, 1)), (bO, [.slice (some ⟨g, 0, none⟩) m m], some (90, 1, 1)), (bT, [.slice AT m cT], some (89, 1, 1)), (bM, [.int .i64 (mm : Nat)], some (3, 1, 1)), (bD, [.int .i64 d.most, .int .i64 d.rest, .int .i64 d.win, .int .i64 d.sum], some (74, 4, 1))]) hw1 (by simp), old_off (X := [(bF, [.func (.func 88) #[] #[.pointer (some ⟨bD, 0, none⟩), .pointer (some ⟨bT, 0, none⟩), .pointer (some ⟨bO, 0, none⟩), .pointer (some ⟨bF, 0, none⟩), .pointer (some ⟨bM, 0, none⟩)]], some (152, 1, 1)), (bO, [.slice (some ⟨g, 0, none⟩) m m], some (90, 1, 1)), (bT, [.slice AT m cT], some (89, 1, 1)), (bM, [.int .i64 (mm : Nat)], some (3, 1, 1)), (bD, [.int .i64 d.most, .int .i64 d.rest, .int .i64 d.win, .int .i64 d.sum], some (74, 4, 1))]) hw1 hrT⟩ hw2; rintro v H1 ⟨R5, hok5, rfl, hcs5, rfl⟩; (simp only [Option.isSome_some, Option.isSome_none])) | ((with_reducible apply u_q); (iterate 4 exact rfl))) | ((with_reducible apply rd_id); first | (apply Rd.own; (repeat (first | exact P0 | apply P1 | apply PA)); exact rfl; done)) | ((with_reducible apply t_id); first | (with_reducible apply t_seq) | (apply t_region; kernel_rfl) | ((with_reducible apply t_condF); exact rfl) | (with_reducible apply t_ret) | (with_reducible apply t_skip)) | with_reducible apply q_thenN | (with_reducible apply end_ret) | exact rvs_nil | (with_reducible apply rvs_cons) | ((with_reducible apply rv_tmp); exact rfl))
    all_goals (refine ⟨outH g m R5, .inr ⟨hE, g, R5, hok5, ?_, ?_, ?_⟩, hp_left⟩)
    · rw [hL, hcs5]; rfl
    · rw [hL, hrl]; rfl
    · rw [hL, hrl]
end Go.Proofs.Ytmlmgipngbndgaa
