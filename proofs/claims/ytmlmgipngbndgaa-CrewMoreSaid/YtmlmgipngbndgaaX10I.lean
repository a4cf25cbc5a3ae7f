/- A part of the proof: rules for walks, and contracts of functions (9). -/
import Derived.Test.YtmlmgipngbndgaaX10H
import Derived.Test.YtmlmgipngbndgaaX10C
import Derived.Test.YtmlmgipngbndgaaX10G
import Derived.Test.YtmlmgipngbndgaaX10E
import Derived.Test.YtmlmgipngbndgaaX10A
import Derived.Test.YtmlmgipngbndgaaChecked
import Derived.Test.YtmlmgipngbndgaaRows
import Derived.ProofKit
import Derived.Lib.SmallJoins
import Derived.Carry
namespace Go.Proofs.Ytmlmgipngbndgaa
open Go.RowKit
attribute [local irreducible] DT DE TE AE OP OQ OS OX Rd T TL GX GL AL AI RV wpG SAny Calls
set_option maxRecDepth 100000
set_option maxHeartbeats 2000000
set_option linter.unusedVariables false
set_option linter.unusedSimpArgs false
/-- An office at work, somewhere. -/
def AtW (bd : Nat) (o : Off) (H : Hp) : Prop := ∃ x y, (x = none → o.fl.length = 0) ∧ (y = none → o.bk.length = 0) ∧ H = deskH bd o x y
theorem do_gen (bd : Nat) (o : Off) (x y : Option (Nat × Nat)) (w : World) (hw : Has w ⟨(deskH bd o x y).map Prod.fst, []⟩ (deskH bd o x y) w) (k dki : Nat) (dk dn ds dp dl : Int) (hdk : dk = (dki : Int)) (h1 : 1 ≤ dki) (h7 : dki ≤ 7) (hk : ([.nilFunc, .func (.func 123) #[] #[], .func (.func 124) #[] #[], .func (.func 125) #[] #[], .func (.func 126) #[] #[], .func (.func 127) #[] #[], .func (.func 128) #[] #[], .func (.func 129) #[] #[]] : List Value)[0 + dk.toNat * 1]? = some (.func (.func k) #[] #[])) (hcf : ∀ (a : Array Value) (w : World), (callFunc k a).run Try.prog w = .ok (.enter k a) w) (o' : Off)
    (HC : ∀ w1, Has w1 ⟨(deskH bd o x y).map Prod.fst, []⟩ (deskH bd o x y) w1 → Calls Try.prog k #[.pointer (some ⟨bd, 0, none⟩), .agg ⟨[.int .u8 dk, .int .i64 dn, .int .i64 ds, .int .i64 dp, .int .i64 dl]⟩] w1 fun e w' => ∃ v H', e = .returned v ∧ DV bd o' v H' ∧ Has w1 ⟨(deskH bd o x y).map Prod.fst, []⟩ H' w') :
    Calls Try.prog 79 #[.pointer (some ⟨bd, 0, none⟩), .agg ⟨[.int .u8 dk, .int .i64 dn, .int .i64 ds, .int .i64 dp, .int .i64 dl]⟩] w fun e w' => ∃ v H', e = .returned v ∧ (v = .int .i64 0 ∧ AtW bd o' H') ∧ Has w ⟨(deskH bd o x y).map Prod.fst, []⟩ H' w' := by
  have hq := allFrom_t (lo := 1) (hi := 7) (z := dk) ⟨by omega, by omega⟩
  have hIn : InR dk := inr_mk (by omega) (by omega)
  refine (do_of rfl _ (deskH bd o x y) w hw bd [.int .u8 dk, .int .i64 dn, .int .i64 ds, .int .i64 dp, .int .i64 dl] rfl (AtW bd o') (fun _ _ => False) fun b3 be => ?_).mono ?_
  · unfold doQ
    repeat' (first | ((with_reducible apply oq_id); first | (focus ((with_reducible apply oq_indexAddrAU); exact rfl; exact rfl; exact rfl; exact rfl; omega; omega)) | ((with_reducible apply oq_conv64); exact rfl; exact rfl; exact rfl; exact hIn) | (apply oq_fn; exact rfl; first | exact trivial | (refine ⟨?_, ?_⟩ <;> omega) | (refine ⟨?_, ?_, ?_⟩ <;> omega) | omega | skip) | ((with_reducible apply oq_load); exact rfl; exact rfl) | ((with_reducible apply oq_loadAgg); exact rfl; exact rfl) | ((with_reducible apply oq_call (k := 105) (hc := Try.call105)); exact rfl; exact rfl; exact fun D w1 hw1 => doers_T w1) | ((with_reducible apply oq_call (k := 63) (hc := Try.call63)); exact rfl; exact rfl; exact fun D w1 hw1 => fromOne hq hw1 (by (repeat (first | exact P0 | apply P1 | apply PA)))) | ((with_reducible apply oq_call (k := 106) (hc := Try.call106)); exact rfl; exact rfl; exact fun D w1 hw1 => must_ok _ w1)) | ((with_reducible apply gx_id); first | ((with_reducible apply v_nil)) | ((with_reducible apply v_q); exact rfl; exact rfl; exact rfl)) | ((with_reducible apply os_id); first | ((with_reducible apply os_x); exact rfl) | ((with_reducible apply os_store); exact rfl; exact rfl; exact rfl; exact rfl) | ((with_reducible apply os_storeAgg); exact rfl; exact rfl; exact rfl; exact rfl; exact rfl)) | ((with_reducible apply ox_id); first | ((with_reducible apply ox_alloc); exact rfl; intro _) | ((with_reducible apply ox_buildSlice1); exact rfl; exact rfl; exact rfl; exact rfl; exact rfl; exact rfl; intro _)) | ((with_reducible apply rd_id); first | (apply Rd.own; (repeat (first | exact P0 | apply P1 | apply PA)); exact hk; done) | (apply Rd.own; (repeat (first | exact P0 | apply P1 | apply PA)); exact rfl; done)) | with_reducible apply q_thenN | exact P0 | (first | (with_reducible apply P1) | (with_reducible apply PA)) | exact Rdn.zero | apply Rdn.succ | ((with_reducible apply Norm.nil); exact rfl) | ((with_reducible apply Norm.cons); exact rfl) | ((with_reducible apply de_id); first | ((with_reducible apply d_q); exact rfl; exact rfl; exact rfl; exact rfl) | ((with_reducible apply d_s0); exact rfl; exact rfl) | ((with_reducible apply d_s); exact rfl; exact rfl; exact rfl) | ((with_reducible apply d_nil))) | ((with_reducible apply dt_id); first | (apply dt_mix1 (id := 4) (i := 6) [0, 1, 2, 3, 4, 5] #[false, false, false, false, false, false, true]; kernel_rfl; kernel_rfl; exact rfl; decide +kernel; exact rfl; exact rfl; decide +kernel; exact rfl; exact rfl) | ((with_reducible apply dt_seq)) | (apply dt_region) | ((with_reducible apply dt_ret))) | (refine ⟨rfl, .inl ?_⟩; (with_reducible apply os_callM (PV := DV bd o') (G := deskH bd o x y) (R := [(be, [.int .i64 0], some (27, 1, 1))]) (k := k) (hc := hcf)); exact rfl; exact rfl; (focus (unfold deskH flH bkH; rcases x with _ | ⟨gF, cF⟩ <;> rcases y with _ | ⟨gB, cB⟩ <;> simp only [clH, clA, clC, List.nil_append, List.cons_append, List.append_nil] <;> ((repeat (first | exact HpSub.refl _ | (apply HpSub.consE; (repeat (first | exact P0 | apply P1 | apply PA)); exact rfl) | apply HpSub.skipX | exact HpSub.nil))))); exact (fun D w1 hw1 hwG => HC w1 hwG); rintro v H1 ⟨rfl, x', y', hx', hy', rfl⟩) | exact Nat.le_of_ble_eq_true rfl)
    all_goals (refine ⟨⟨rfl, trivial⟩, _, ?_, .inl ⟨rfl, x', y', hx', hy', rfl⟩⟩)
    all_goals (first | exact HpSub.refl _ | (rw [List.append_nil]; exact HpSub.refl _))
  · rintro e w' (⟨H', h2, h3, h4⟩ | ⟨z, H', _, h3, _⟩)
    · exact ⟨_, H', h2, ⟨rfl, h3⟩, h4⟩
    · exact h3.elim
theorem do_pan (bd : Nat) (w : World) (k dki : Nat) (dk dn ds dp dl z : Int) (hdk : dk = (dki : Int)) (h1 : 1 ≤ dki) (h7 : dki ≤ 7) (hk : ([.nilFunc, .func (.func 123) #[] #[], .func (.func 124) #[] #[], .func (.func 125) #[] #[], .func (.func 126) #[] #[], .func (.func 127) #[] #[], .func (.func 128) #[] #[], .func (.func 129) #[] #[]] : List Value)[0 + dk.toNat * 1]? = some (.func (.func k) #[] #[])) (hcf : ∀ (a : Array Value) (w : World), (callFunc k a).run Try.prog w = .ok (.enter k a) w)
    (HC : ∀ w1, Ext w w1 → Calls Try.prog k #[.pointer (some ⟨bd, 0, none⟩), .agg ⟨[.int .u8 dk, .int .i64 dn, .int .i64 ds, .int .i64 dp, .int .i64 dl]⟩] w1 fun e w' => e = .panicked (refu z) ∧ Ext w1 w') :
    Calls Try.prog 79 #[.pointer (some ⟨bd, 0, none⟩), .agg ⟨[.int .u8 dk, .int .i64 dn, .int .i64 ds, .int .i64 dp, .int .i64 dl]⟩] w fun e w' => e = .returned (.int .i64 z) ∧ Ext w w' := by
  have hq := allFrom_t (lo := 1) (hi := 7) (z := dk) ⟨by omega, by omega⟩
  have hIn : InR dk := inr_mk (by omega) (by omega)
  refine (do_of rfl [] [] w (Has.start w) bd [.int .u8 dk, .int .i64 dn, .int .i64 ds, .int .i64 dp, .int .i64 dl] rfl (fun _ => False) (fun z' _ => z' = z) fun b3 be => ?_).mono ?_
  · unfold doQ
    repeat' (first | ((with_reducible apply oq_id); first | (focus ((with_reducible apply oq_indexAddrAU); exact rfl; exact rfl; exact rfl; exact rfl; omega; omega)) | ((with_reducible apply oq_conv64); exact rfl; exact rfl; exact rfl; exact hIn) | (apply oq_fn; exact rfl; first | exact trivial | (refine ⟨?_, ?_⟩ <;> omega) | (refine ⟨?_, ?_, ?_⟩ <;> omega) | omega | skip) | ((with_reducible apply oq_load); exact rfl; exact rfl) | ((with_reducible apply oq_loadAgg); exact rfl; exact rfl) | ((with_reducible apply oq_call (k := 105) (hc := Try.call105)); exact rfl; exact rfl; exact fun D w1 hw1 => doers_T w1) | ((with_reducible apply oq_call (k := 63) (hc := Try.call63)); exact rfl; exact rfl; exact fun D w1 hw1 => fromOne hq hw1 (by (repeat (first | exact P0 | apply P1)))) | ((with_reducible apply oq_call (k := 106) (hc := Try.call106)); exact rfl; exact rfl; exact fun D w1 hw1 => must_ok _ w1)) | ((with_reducible apply gx_id); first | ((with_reducible apply v_nil)) | ((with_reducible apply v_q); exact rfl; exact rfl; exact rfl)) | ((with_reducible apply os_id); first | ((with_reducible apply os_x); exact rfl) | ((with_reducible apply os_storeAgg); exact rfl; exact rfl; exact rfl; exact rfl; exact rfl)) | ((with_reducible apply ox_id); first | ((with_reducible apply ox_alloc); exact rfl; intro _) | ((with_reducible apply ox_buildSlice1); exact rfl; exact rfl; exact rfl; exact rfl; exact rfl; exact rfl; intro _)) | ((with_reducible apply rd_id); first | (apply Rd.own; (repeat (first | exact P0 | apply P1)); exact hk; done) | (apply Rd.own; (repeat (first | exact P0 | apply P1)); exact rfl; done)) | with_reducible apply q_thenN | exact P0 | exact Rdn.zero | apply Rdn.succ | ((with_reducible apply Norm.nil); exact rfl) | ((with_reducible apply Norm.cons); exact rfl) | ((with_reducible apply de_id); first | ((with_reducible apply d_q); exact rfl; exact rfl; exact rfl; exact rfl) | ((with_reducible apply d_s0); exact rfl; exact rfl) | ((with_reducible apply d_s); exact rfl; exact rfl; exact rfl) | ((with_reducible apply d_nil))) | ((with_reducible apply dt_id); first | (apply dt_mix1 (id := 4) (i := 6) [0, 1, 2, 3, 4, 5] #[false, false, false, false, false, false, true]; kernel_rfl; kernel_rfl; exact rfl; decide +kernel; exact rfl; exact rfl; decide +kernel; exact rfl; exact rfl) | ((with_reducible apply dt_seq)) | (apply dt_region)) | (refine ⟨rfl, .inr ?_⟩; (with_reducible apply op_call (k := k) (hc := hcf)); exact rfl; exact rfl; exact fun D w1 hw1 => HC w1 hw1.ext.ext) | exact Nat.le_of_ble_eq_true rfl)
    all_goals (refine ⟨⟨rfl, trivial⟩, [], ?_, .inr ⟨z, rfl, rfl⟩⟩)
    all_goals (repeat (first | exact HpSub.refl _ | (apply HpSub.consE; (repeat (first | exact P0 | apply P1)); exact rfl) | apply HpSub.skipX | exact HpSub.nil))
  · rintro e w' (⟨H', h2, h3, h4⟩ | ⟨z', H', h2, rfl, h4⟩)
    · exact h3.elim
    · exact ⟨h2, h4.ext.ext⟩
theorem do_kind (bd : Nat) (w : World) (dk dn ds dp dl : Int) (h : ¬ (1 ≤ dk ∧ dk ≤ 7)) (h0 : 0 ≤ dk ∧ dk ≤ 255) :
    Calls Try.prog 79 #[.pointer (some ⟨bd, 0, none⟩), .agg ⟨[.int .u8 dk, .int .i64 dn, .int .i64 ds, .int .i64 dp, .int .i64 dl]⟩] w fun e w' => e = .returned (.int .i64 2) ∧ Ext w w' := by
  have hq := allFrom_f (lo := 1) (hi := 7) (z := dk) h
  have hIn : InR dk := inr_mk (by omega) (by omega)
  refine (do_of rfl [] [] w (Has.start w) bd [.int .u8 dk, .int .i64 dn, .int .i64 ds, .int .i64 dp, .int .i64 dl] rfl (fun _ => False) (fun z' _ => z' = 2) fun b3 be => ?_).mono ?_
  · unfold doQ
    repeat' (first | ((with_reducible apply oq_id); first | ((with_reducible apply oq_conv64); exact rfl; exact rfl; exact rfl; exact hIn) | (apply oq_fn; exact rfl; first | exact trivial | (refine ⟨?_, ?_⟩ <;> omega) | (refine ⟨?_, ?_, ?_⟩ <;> omega) | omega | skip) | ((with_reducible apply oq_load); exact rfl; exact rfl) | ((with_reducible apply oq_call (k := 105) (hc := Try.call105)); exact rfl; exact rfl; exact fun D w1 hw1 => doers_T w1) | ((with_reducible apply oq_call (k := 63) (hc := Try.call63)); exact rfl; exact rfl; exact fun D w1 hw1 => fromOne hq hw1 (by (repeat (first | exact P0 | apply P1))))) | ((with_reducible apply os_id); first | ((with_reducible apply os_x); exact rfl) | ((with_reducible apply os_storeAgg); exact rfl; exact rfl; exact rfl; exact rfl; exact rfl)) | ((with_reducible apply ox_id); first | ((with_reducible apply ox_alloc); exact rfl; intro _) | ((with_reducible apply ox_buildSlice1); exact rfl; exact rfl; exact rfl; exact rfl; exact rfl; exact rfl; intro _)) | ((with_reducible apply rd_id); first | (apply Rd.own; (repeat (first | exact P0 | apply P1)); exact rfl; done)) | with_reducible apply q_thenN | exact P0 | ((with_reducible apply Norm.nil); exact rfl) | ((with_reducible apply Norm.cons); exact rfl) | ((with_reducible apply de_id); first | ((with_reducible apply d_p); exact rfl; ((with_reducible apply op_call (k := 106) (hc := Try.call106)); exact rfl; exact rfl; exact fun D w1 hw1 => must_no _ w1)) | ((with_reducible apply d_q); exact rfl; exact rfl; exact rfl; exact rfl) | ((with_reducible apply d_s0); exact rfl; exact rfl) | ((with_reducible apply d_s); exact rfl; exact rfl; exact rfl) | ((with_reducible apply d_nil))) | ((with_reducible apply dt_id); first | ((with_reducible apply dt_seq)) | (apply dt_region)) | exact Nat.le_of_ble_eq_true rfl)
    all_goals (refine ⟨⟨rfl, trivial⟩, [], ?_, .inr ⟨2, rfl, rfl⟩⟩)
    all_goals (repeat (first | exact HpSub.refl _ | (apply HpSub.consE; (repeat (first | exact P0 | apply P1)); exact rfl) | apply HpSub.skipX | exact HpSub.nil))
  · rintro e w' (⟨H', h2, h3, h4⟩ | ⟨z', H', h2, rfl, h4⟩)
    · exact h3.elim
    · exact ⟨h2, h4.ext.ext⟩
end Go.Proofs.Ytmlmgipngbndgaa
namespace Go.Proofs.Ytmlmgipngbndgaa
open Go.RowKit
attribute [local irreducible] OQ OS OX Rd T TL GX GL AL AI RV wpG SAny Calls
set_option maxRecDepth 100000
set_option maxHeartbeats 2000000
set_option linter.unusedVariables false
set_option linter.unusedSimpArgs false
theorem do_ok (bd : Nat) (o : Off) (x y : Option (Nat × Nat)) (hxn : x = none → o.fl.length = 0) (hyn : y = none → o.bk.length = 0) (hv : OkO o) (w : World) (hw : Has w ⟨(deskH bd o x y).map Prod.fst, []⟩ (deskH bd o x y) w) (d : Deal) (hE : doneE o d = 0) :
    Calls Try.prog 79 #[.pointer (some ⟨bd, 0, none⟩), .agg ⟨dealCells d⟩] w fun e w' => ∃ v H', e = .returned v ∧ (v = .int .i64 0 ∧ AtW bd (doneO o d) H') ∧ Has w ⟨(deskH bd o x y).map Prod.fst, []⟩ H' w' := by
  obtain ⟨dk, dn, ds, dp, dl⟩ := d
  unfold dealCells
  unfold doneE at hE
  unfold doneO
  simp only at hE ⊢
  by_cases k1 : dk = 1
  · subst k1
    rw [if_pos rfl] at hE ⊢
    by_cases c1 : depOk ⟨ds, dp, dl, 0⟩ = true ∧ o.now ≤ dl
    · rw [if_pos c1] at hE
      by_cases c2 : o.fl.length < 10
      · exact do_gen bd o x y w hw 123 1 _ _ _ _ _ rfl (by omega) (by omega) rfl Try.call123 _ fun w1 hw1 => add_T bd o x y hxn hyn hv w1 hw1 1 dn ds dp dl c1 c2
      · rw [if_neg c2] at hE; exact absurd hE (by decide)
    · rw [if_neg c1] at hE; exact absurd hE (by decide)
  rw [if_neg k1] at hE ⊢
  by_cases k2 : dk = 2
  · subst k2
    rw [if_pos rfl] at hE ⊢
    by_cases c1 : openE o dn = 0
    · rw [if_pos c1] at hE
      by_cases c2 : o.bk.length < 120
      · exact do_gen bd o x y w hw 124 2 _ _ _ _ _ rfl (by omega) (by omega) rfl Try.call124 _ fun w1 hw1 => sell_T bd o x y hxn hyn hv w1 hw1 2 dn ds dp dl c1 c2
      · rw [if_neg c2] at hE; exact absurd hE (by decide)
    · rw [if_neg c1] at hE; exact absurd hE c1
  rw [if_neg k2] at hE ⊢
  by_cases k3 : dk = 3
  · subst k3
    rw [if_pos rfl] at hE ⊢
    by_cases c1 : 0 ≤ dn ∧ dn < (o.bk.length : Int)
    · rw [if_pos c1] at hE
      by_cases c2 : (bkAt o dn).state = 1 ∨ (bkAt o dn).state = 2
      · exact do_gen bd o x y w hw 125 3 _ _ _ _ _ rfl (by omega) (by omega) rfl Try.call125 _ fun w1 hw1 => cancel_T bd o x y hxn hyn hv w1 hw1 3 dn ds dp dl c1 c2
      · rw [if_neg c2] at hE; exact absurd hE (by decide)
    · rw [if_neg c1] at hE; exact absurd hE (by decide)
  rw [if_neg k3] at hE ⊢
  by_cases k4 : dk = 4
  · subst k4
    rw [if_pos rfl] at hE ⊢
    by_cases c1 : openE o dn = 0
    · rw [if_pos c1] at hE
      by_cases c2 : (depAt o dn).leaves ≤ o.now
      · exact do_gen bd o x y w hw 126 4 _ _ _ _ _ rfl (by omega) (by omega) rfl Try.call126 _ fun w1 hw1 => leave_T bd o x y hxn hyn hv w1 hw1 4 dn ds dp dl c1 c2
      · rw [if_neg c2] at hE; exact absurd hE (by decide)
    · rw [if_neg c1] at hE; exact absurd hE c1
  rw [if_neg k4] at hE ⊢
  by_cases k5 : dk = 5
  · subst k5
    rw [if_pos rfl] at hE ⊢
    exact do_gen bd o x y w hw 127 5 _ _ _ _ _ rfl (by omega) (by omega) rfl Try.call127 _ fun w1 hw1 => off_T bd o x y hxn hyn hv w1 hw1 5 dn ds dp dl hE
  rw [if_neg k5] at hE ⊢
  by_cases k6 : dk = 6
  · subst k6
    rw [if_pos rfl] at hE ⊢
    by_cases c1 : 1 ≤ dn ∧ dn ≤ 1000000 ∧ o.now + dn ≤ 1000000
    · exact do_gen bd o x y w hw 128 6 _ _ _ _ _ rfl (by omega) (by omega) rfl Try.call128 _ fun w1 hw1 => tick_T bd o x y hxn hyn hv w1 hw1 6 dn ds dp dl c1
    · rw [if_neg c1] at hE; exact absurd hE (by decide)
  rw [if_neg k6] at hE ⊢
  by_cases k7 : dk = 7
  · subst k7
    rw [if_pos rfl] at hE
    by_cases c1 : openE o dn = 0
    · rw [if_pos c1] at hE
      by_cases c2 : 0 ≤ ds ∧ ds ≤ 50
      · rw [if_pos c2] at hE
        by_cases c3 : manyV o.bk dn 1 ≤ ds
        · exact do_gen bd o x y w hw 129 7 _ _ _ _ _ rfl (by omega) (by omega) rfl Try.call129 _ fun w1 hw1 => seats_T bd o x y hxn hyn hv w1 hw1 7 dn ds dp dl c1 c2 c3
        · rw [if_neg c3] at hE; exact absurd hE (by decide)
      · rw [if_neg c2] at hE; exact absurd hE (by decide)
    · rw [if_neg c1] at hE; exact absurd hE c1
  rw [if_neg k7] at hE
  exact absurd hE (by decide)
theorem do_no (bd : Nat) (o : Off) (A : Option Addr) (cf : Nat) (B : Option Addr) (cb : Nat) (w : World) (hD : Desk w bd o A cf B cb) (hv : OkO o) (d : Deal) (hk : 0 ≤ d.kind ∧ d.kind ≤ 255) (hE : ¬ doneE o d = 0) :
    Calls Try.prog 79 #[.pointer (some ⟨bd, 0, none⟩), .agg ⟨dealCells d⟩] w fun e w' => e = .returned (.int .i64 (doneE o d)) ∧ Ext w w' := by
  obtain ⟨dk, dn, ds, dp, dl⟩ := d
  have hnf := hv.nf
  have hnb := hv.nb
  have hn : o.fl.length ≤ 1000000 := by omega
  have hn2 : o.bk.length ≤ 1000000 := by omega
  have hnow := hv.now
  unfold dealCells
  unfold doneE at hE ⊢
  simp only at hE hk ⊢
  by_cases k1 : dk = 1
  · subst k1
    rw [if_pos rfl] at hE ⊢
    by_cases c1 : depOk ⟨ds, dp, dl, 0⟩ = true ∧ o.now ≤ dl
    · rw [if_pos c1] at hE ⊢
      by_cases c2 : o.fl.length < 10
      · rw [if_pos c2] at hE; exact absurd rfl hE
      · rw [if_neg c2]
        exact do_pan bd w 123 1 _ _ _ _ _ _ rfl (by omega) (by omega) rfl Try.call123 fun w1 he => add_full bd o A cf B cb w1 (hD.ext he) hn hn2 hnow 1 dn ds dp dl c1 c2
    · rw [if_neg c1]
      exact do_pan bd w 123 1 _ _ _ _ _ _ rfl (by omega) (by omega) rfl Try.call123 fun w1 he => add_arg bd o A cf B cb w1 (hD.ext he) hn hn2 hnow 1 dn ds dp dl c1
  rw [if_neg k1] at hE ⊢
  by_cases k2 : dk = 2
  · subst k2
    rw [if_pos rfl] at hE ⊢
    by_cases c1 : openE o dn = 0
    · rw [if_pos c1] at hE ⊢
      by_cases c2 : o.bk.length < 120
      · rw [if_pos c2] at hE; exact absurd rfl hE
      · rw [if_neg c2]
        exact do_pan bd w 124 2 _ _ _ _ _ _ rfl (by omega) (by omega) rfl Try.call124 fun w1 he => sell_full bd o A cf B cb w1 (hD.ext he) hn hn2 hnow 2 dn ds dp dl c1 c2
    · rw [if_neg c1]
      exact do_pan bd w 124 2 _ _ _ _ _ _ rfl (by omega) (by omega) rfl Try.call124 fun w1 he => sell_open bd o A cf B cb w1 (hD.ext he) hn hn2 hnow 2 dn ds dp dl c1
  rw [if_neg k2] at hE ⊢
  by_cases k3 : dk = 3
  · subst k3
    rw [if_pos rfl] at hE ⊢
    by_cases c1 : 0 ≤ dn ∧ dn < (o.bk.length : Int)
    · rw [if_pos c1] at hE ⊢
      by_cases c2 : (bkAt o dn).state = 1 ∨ (bkAt o dn).state = 2
      · rw [if_pos c2] at hE; exact absurd rfl hE
      · rw [if_neg c2]
        exact do_pan bd w 125 3 _ _ _ _ _ _ rfl (by omega) (by omega) rfl Try.call125 fun w1 he => cancel_gone bd o A cf B cb w1 (hD.ext he) hn hn2 hnow 3 dn ds dp dl c1 c2
    · rw [if_neg c1]
      exact do_pan bd w 125 3 _ _ _ _ _ _ rfl (by omega) (by omega) rfl Try.call125 fun w1 he => cancel_arg bd o A cf B cb w1 (hD.ext he) hn hn2 hnow 3 dn ds dp dl c1
  rw [if_neg k3] at hE ⊢
  by_cases k4 : dk = 4
  · subst k4
    rw [if_pos rfl] at hE ⊢
    by_cases c1 : openE o dn = 0
    · rw [if_pos c1] at hE ⊢
      by_cases c2 : (depAt o dn).leaves ≤ o.now
      · rw [if_pos c2] at hE; exact absurd rfl hE
      · rw [if_neg c2]
        exact do_pan bd w 126 4 _ _ _ _ _ _ rfl (by omega) (by omega) rfl Try.call126 fun w1 he => leave_early bd o A cf B cb w1 (hD.ext he) hn hn2 hnow 4 dn ds dp dl c1 c2
    · rw [if_neg c1]
      exact do_pan bd w 126 4 _ _ _ _ _ _ rfl (by omega) (by omega) rfl Try.call126 fun w1 he => leave_open bd o A cf B cb w1 (hD.ext he) hn hn2 hnow 4 dn ds dp dl c1
  rw [if_neg k4] at hE ⊢
  by_cases k5 : dk = 5
  · subst k5
    rw [if_pos rfl] at hE ⊢
    exact do_pan bd w 127 5 _ _ _ _ _ _ rfl (by omega) (by omega) rfl Try.call127 fun w1 he => off_open bd o A cf B cb w1 (hD.ext he) hn hn2 hnow 5 dn ds dp dl hE
  rw [if_neg k5] at hE ⊢
  by_cases k6 : dk = 6
  · subst k6
    rw [if_pos rfl] at hE ⊢
    by_cases c1 : 1 ≤ dn ∧ dn ≤ 1000000 ∧ o.now + dn ≤ 1000000
    · rw [if_pos c1] at hE; exact absurd rfl hE
    · rw [if_neg c1]
      exact do_pan bd w 128 6 _ _ _ _ _ _ rfl (by omega) (by omega) rfl Try.call128 fun w1 he => tick_no bd o A cf B cb w1 (hD.ext he) hn hn2 hnow 6 dn ds dp dl c1
  rw [if_neg k6] at hE ⊢
  by_cases k7 : dk = 7
  · subst k7
    rw [if_pos rfl] at hE ⊢
    by_cases c1 : openE o dn = 0
    · rw [if_pos c1] at hE ⊢
      by_cases c2 : 0 ≤ ds ∧ ds ≤ 50
      · rw [if_pos c2] at hE ⊢
        by_cases c3 : manyV o.bk dn 1 ≤ ds
        · rw [if_pos c3] at hE; exact absurd rfl hE
        · rw [if_neg c3]
          exact do_pan bd w 129 7 _ _ _ _ _ _ rfl (by omega) (by omega) rfl Try.call129 fun w1 he => seats_full bd o A cf B cb w1 (hD.ext he) hn hn2 hnow 7 dn ds dp dl c1 c2 c3
      · rw [if_neg c2]
        exact do_pan bd w 129 7 _ _ _ _ _ _ rfl (by omega) (by omega) rfl Try.call129 fun w1 he => seats_arg bd o A cf B cb w1 (hD.ext he) hn hn2 hnow 7 dn ds dp dl c1 c2
    · rw [if_neg c1]
      exact do_pan bd w 129 7 _ _ _ _ _ _ rfl (by omega) (by omega) rfl Try.call129 fun w1 he => seats_open bd o A cf B cb w1 (hD.ext he) hn hn2 hnow 7 dn ds dp dl c1
  rw [if_neg k7]
  exact do_kind bd w dk dn ds dp dl (by omega) hk
end Go.Proofs.Ytmlmgipngbndgaa
namespace Go.Proofs.Ytmlmgipngbndgaa
open Go.RowKit
attribute [local irreducible] OQ OS OX Rd T TL GX GL AL AI RV wpG SAny Calls
set_option maxRecDepth 100000
set_option maxHeartbeats 2000000
set_option linter.unusedVariables false
set_option linter.unusedSimpArgs false
def OpenN (v : Value) (H : Hp) : Prop := ∃ p, v = .tuple #[.pointer p, .bool false] ∧ H = []
def OpenY (o : Off) (v : Value) (H : Hp) : Prop := ∃ bd x y, (x = none → o.fl.length = 0) ∧ (y = none → o.bk.length = 0) ∧ v = .tuple #[.pointer (some ⟨bd, 0, none⟩), .bool true] ∧ H = deskH bd o x y
theorem openN_T (o : Off) (A : Option Addr) (cf : Nat) (B : Option Addr) (cb : Nat) (w : World) (hA : RdS w 4 A o.fl.length (o.fl.map depCells)) (hB : RdS w 3 B o.bk.length (o.bk.map bkCells)) (hnA : A = none → o.fl.length = 0 ∧ cf = 0) (hnB : B = none → o.bk.length = 0 ∧ cb = 0) (hu : ∀ d ∈ o.fl, 0 ≤ d.state) (hn : o.fl.length ≤ 1000000) (hn2 : o.bk.length ≤ 1000000) (h : officeB o = false) : Calls Try.prog 62 #[.agg ⟨offCells o A cf B cb⟩] w fun e w' => ∃ v H', e = .returned v ∧ OpenN v H' ∧ Has w ⟨[], []⟩ H' w' :=
  (open_T o A cf B cb w hA hB hnA hnB hu hn hn2).mono fun e w' ⟨v, H', h1, h2, h3⟩ => ⟨v, H', h1, (by
    rcases h2 with ⟨_, p, hv, hH⟩ | ⟨h4, _⟩
    · exact ⟨p, hv, hH⟩
    · rw [h] at h4; cases h4), h3⟩
theorem openY_T (o : Off) (A : Option Addr) (cf : Nat) (B : Option Addr) (cb : Nat) (w : World) (hA : RdS w 4 A o.fl.length (o.fl.map depCells)) (hB : RdS w 3 B o.bk.length (o.bk.map bkCells)) (hnA : A = none → o.fl.length = 0 ∧ cf = 0) (hnB : B = none → o.bk.length = 0 ∧ cb = 0) (hu : ∀ d ∈ o.fl, 0 ≤ d.state) (hn : o.fl.length ≤ 1000000) (hn2 : o.bk.length ≤ 1000000) (h : officeB o = true) : Calls Try.prog 62 #[.agg ⟨offCells o A cf B cb⟩] w fun e w' => ∃ v H', e = .returned v ∧ OpenY o v H' ∧ Has w ⟨[], []⟩ H' w' :=
  (open_T o A cf B cb w hA hB hnA hnB hu hn hn2).mono fun e w' ⟨v, H', h1, h2, h3⟩ => ⟨v, H', h1, (by
    rcases h2 with ⟨h4, _⟩ | ⟨_, h4⟩
    · rw [h] at h4; cases h4
    · exact h4), h3⟩
theorem opurse_T (o : Off) (A : Option Addr) (cf : Nat) (B : Option Addr) (cb : Nat) (w : World) (hA : RdS w 4 A o.fl.length (o.fl.map depCells)) (hB : RdS w 3 B o.bk.length (o.bk.map bkCells)) (hnA : A = none → o.fl.length = 0 ∧ cf = 0) (hnB : B = none → o.bk.length = 0 ∧ cb = 0) (hu : ∀ d ∈ o.fl, 0 ≤ d.state) (hn : o.fl.length ≤ 1000000) (hn2 : o.bk.length ≤ 1000000) : Calls Try.prog 22 #[.agg ⟨offCells o A cf B cb⟩] w fun e w' => e = .returned (.tuple #[.int .i64 (purseS o).1, .int .i64 (purseS o).2.1, .int .i64 (purseS o).2.2.1, .int .i64 (purseS o).2.2.2.1, .int .i64 (purseS o).2.2.2.2]) ∧ Ext w w' := by
  unfold purseS
  cases hv : officeB o with
  | false =>
    simp only [Bool.false_eq_true, if_false]
    refine enterQ (c := cx w 27) Try.func22 rfl rfl rfl rfl ?_
    repeat' (first | ((with_reducible apply oq_id); first | (apply oq_fn; exact rfl; first | exact trivial | (refine ⟨?_, ?_⟩ <;> omega) | (refine ⟨?_, ?_, ?_⟩ <;> omega) | omega | skip) | ((with_reducible apply oq_loadAgg); exact rfl; exact rfl)) | ((with_reducible apply tl_id); first | ((with_reducible apply tl_nil)) | ((with_reducible apply u_s); exact rfl; exact rfl; exact rfl; (with_reducible apply os_callF (PV := OpenN) (k := 62) (hc := Try.call62)); exact rfl; exact rfl; exact fun D w1 hw1 => openN_T o A cf B cb w1 (hA.ext hw1.ext.ext) (hB.ext hw1.ext.ext) hnA hnB hu hn hn2 hv; rintro v H' ⟨p, rfl, rfl⟩; (try simp only [List.cons_append, List.nil_append])) | ((with_reducible apply u_q); exact rfl; exact rfl; exact rfl; exact rfl) | ((with_reducible apply u_s); exact rfl; exact rfl; exact rfl)) | ((with_reducible apply os_id); first | ((with_reducible apply os_x); exact rfl)) | ((with_reducible apply ox_id); first | ((with_reducible apply ox_boxAgg); exact rfl; intro _)) | ((with_reducible apply rd_id); first | (apply Rd.own; (repeat (first | exact P0 | apply P1 | apply PA)); exact rfl; done)) | ((with_reducible apply t_id); first | ((with_reducible apply t_seq)) | (apply t_region; kernel_rfl) | ((with_reducible apply t_condT); exact rfl) | ((with_reducible apply t_ret))) | with_reducible apply q_thenN | with_reducible apply q_thenR | exact Rdn.zero | apply Rdn.succ | ((with_reducible apply end_ret)) | exact rvs_nil | ((with_reducible apply rvs_cons)) | ((with_reducible apply rv_tmp); exact rfl))
    all_goals rfl
  | true =>
    simp only [if_true]
    obtain ⟨h1, hd, hb, hba, _⟩ := officeB_in hu hv
    have hi := headB_in h1
    have hb2 := fun x hxm => booked_st hd (List.all_eq_true.1 hba x hxm)
    refine enterQ (c := cx w 27) Try.func22 rfl rfl rfl rfl ?_
    refine t_cut (ι := Nat) (fun b => [(1, .pointer (some ⟨b, 0, none⟩))]) (fun b => [(b, offCells o A cf B cb, some (25, 7, 1))]) (fun _ => True) ?_ ?_
    · repeat' (first | ((with_reducible apply oq_id); first | (apply oq_fn; exact rfl; first | exact trivial | (refine ⟨?_, ?_⟩ <;> omega) | (refine ⟨?_, ?_, ?_⟩ <;> omega) | omega | skip)) | ((with_reducible apply tl_id); first | ((with_reducible apply tl_nil)) | ((with_reducible apply u_q); exact rfl; exact rfl; exact rfl; exact rfl) | ((with_reducible apply u_s); exact rfl; exact rfl; exact rfl)) | ((with_reducible apply os_id); first | ((with_reducible apply os_x); exact rfl)) | ((with_reducible apply ox_id); first | ((with_reducible apply ox_boxAgg); exact rfl; intro _)) | ((with_reducible apply t_id); first | (apply t_region; kernel_rfl)))
      all_goals exact ⟨rfl, _, trivial, by (repeat (first | exact FrSub.nil | (apply FrSub.cons; exact rfl))), by (repeat (first | exact HpSub.refl _ | (apply HpSub.consE; (repeat (first | exact P0 | apply P1 | apply PA)); exact rfl) | exact HpSub.nil))⟩
    rintro bo -
    refine t_cut (ι := Nat × Option (Nat × Nat) × Option (Nat × Nat)) (fun z => [(1, .pointer (some ⟨bo, 0, none⟩)), (7, .pointer (some ⟨z.1, 0, none⟩)), (8, .bool true)]) (fun z => (z.1, offCells o (clA z.2.1) (clC z.2.1) (clA z.2.2) (clC z.2.2), some (135, 7, 1)) :: (bo, offCells o A cf B cb, some (25, 7, 1)) :: (flH o z.2.1 ++ bkH o z.2.2)) (fun z => (z.2.1 = none → o.fl.length = 0) ∧ (z.2.2 = none → o.bk.length = 0)) ?_ ?_
    · repeat' (first | ((with_reducible apply oq_id); first | (apply oq_fn; exact rfl; first | exact trivial | (refine ⟨?_, ?_⟩ <;> omega) | (refine ⟨?_, ?_, ?_⟩ <;> omega) | omega | skip) | ((with_reducible apply oq_loadAgg); exact rfl; exact rfl)) | ((with_reducible apply tl_id); first | ((with_reducible apply tl_nil)) | ((with_reducible apply u_s); exact rfl; exact rfl; exact rfl; (with_reducible apply os_callF (PV := OpenY o) (k := 62) (hc := Try.call62)); exact rfl; exact rfl; exact fun D w1 hw1 => openY_T o A cf B cb w1 (hA.ext hw1.ext.ext) (hB.ext hw1.ext.ext) hnA hnB hu hn hn2 hv; rintro v H' ⟨bd, x, y, hxn, hyn, rfl, rfl⟩; (try simp only [deskH, List.cons_append, List.nil_append, List.append_assoc])) | ((with_reducible apply u_q); exact rfl; exact rfl; exact rfl; exact rfl)) | ((with_reducible apply rd_id); first | (apply Rd.own; (repeat (first | exact P0 | apply P1 | apply PA)); exact rfl; done)) | ((with_reducible apply t_id); first | (apply t_region; kernel_rfl)) | exact Rdn.zero | apply Rdn.succ)
      all_goals (refine ⟨by trivial, (bd, x, y), ⟨hxn, hyn⟩, by (repeat (first | exact FrSub.nil | (apply FrSub.cons; exact rfl))), ?_⟩)
      all_goals (rcases x with _ | ⟨g1, c1⟩ <;> rcases y with _ | ⟨g2, c2⟩ <;> simp only [flH, bkH, clH, clA, clC, List.cons_append, List.nil_append, List.append_nil])
      all_goals (repeat (first | exact HpSub.refl _ | (apply HpSub.consE; (repeat (first | exact P0 | apply P1 | apply PA)); exact rfl) | exact HpSub.nil))
    rintro ⟨bd, x, y⟩ ⟨hxn, hyn⟩
    simp only at hxn hyn ⊢
    have HS := fun w1 hD1 => purse_calls bd o (clA x) (clC x) (clA y) (clC y) w1 hD1 hd hb hb2 (by omega)
    repeat' (first | ((with_reducible apply oq_id); first | (apply oq_fn; exact rfl; first | exact trivial | (refine ⟨?_, ?_⟩ <;> omega) | (refine ⟨?_, ?_, ?_⟩ <;> omega) | omega | skip) | ((with_reducible apply oq_load); exact rfl; exact rfl) | ((with_reducible apply oq_call (k := 68) (hc := Try.call68)); exact rfl; exact rfl; exact fun D w1 hw1 => HS w1 (desk_of hw1 (by (repeat (first | exact HpSub.refl _ | (apply HpSub.consE; (repeat (first | exact P0 | apply P1 | apply PA)); exact rfl) | apply HpSub.skipX | apply HpSub.skipX | exact HpSub.nil))) hxn hyn))) | ((with_reducible apply tl_id); first | ((with_reducible apply tl_nil)) | ((with_reducible apply u_q); exact rfl; exact rfl; exact rfl; exact rfl) | ((with_reducible apply u_s0); exact rfl; exact rfl) | ((with_reducible apply u_s); exact rfl; exact rfl; exact rfl)) | ((with_reducible apply gx_id); first | ((with_reducible apply v_nil)) | ((with_reducible apply v_q); exact rfl; exact rfl; exact rfl)) | ((with_reducible apply os_id); first | ((with_reducible apply os_x); exact rfl) | ((with_reducible apply os_storeAgg); exact rfl; exact rfl; exact rfl; exact rfl; exact rfl)) | ((with_reducible apply ox_id); first | ((with_reducible apply ox_alloc); exact rfl; intro _)) | ((with_reducible apply rd_id); first | (apply Rd.own; (repeat (first | exact P0 | apply P1 | apply PA)); exact rfl; done)) | ((with_reducible apply t_id); first | ((with_reducible apply t_seq)) | (apply t_region; kernel_rfl) | (apply t_drawn; kernel_rfl; decide +kernel; try simp only [List.append_eq, List.cons_append, List.nil_append]) | ((with_reducible apply t_condF); exact rfl) | ((with_reducible apply t_ret)) | ((with_reducible apply t_skip))) | with_reducible apply q_thenN | exact P0 | ((with_reducible apply Norm.nil); exact rfl) | ((with_reducible apply Norm.cons); exact rfl) | ((with_reducible apply end_ret)) | exact rvs_nil | ((with_reducible apply rvs_cons)) | ((with_reducible apply rv_tmp); exact rfl) | exact Nat.le_of_ble_eq_true rfl)
    all_goals rfl
end Go.Proofs.Ytmlmgipngbndgaa
namespace Go.Proofs.Ytmlmgipngbndgaa
open Go.RowKit
attribute [local irreducible] OQ OS OX Rd T TL GX GL AL AI RV wpG SAny Calls
set_option maxRecDepth 100000
set_option maxHeartbeats 2000000
set_option linter.unusedVariables false
set_option linter.unusedSimpArgs false
def zeroO : Off := ⟨0, 0, 0, 0, 0, [], []⟩
end Go.Proofs.Ytmlmgipngbndgaa
namespace Go.Proofs.Ytmlmgipngbndgaa
set_option linter.unusedVariables false
set_option linter.unusedSimpArgs false
/-- The office after the first k deals. -/
def stV (o : Off) (l : List Deal) (k : Nat) : Off := (l.take k).foldl doneO o
/-- The first k deals are done. -/
def okTo (o : Off) (l : List Deal) (k : Nat) : Prop := ∀ j d, j < k → l[j]? = some d → doneE (stV o l j) d = 0
theorem stV_succ {o : Off} {l : List Deal} {k : Nat} {d : Deal} (h : l[k]? = some d) : stV o l (k + 1) = doneO (stV o l k) d := by
  unfold stV
  rw [List.take_add_one, h, List.foldl_append]
  rfl
theorem okTo_zero (o : Off) (l : List Deal) : okTo o l 0 := fun j d h => by omega
theorem okTo_succ {o : Off} {l : List Deal} {k : Nat} {d : Deal} (h : okTo o l k) (hd : l[k]? = some d) (hE : doneE (stV o l k) d = 0) : okTo o l (k + 1) := fun j e hj he => by
  by_cases hjk : j = k
  · subst hjk
    obtain rfl : d = e := by rw [hd] at he; exact Option.some.inj he
    exact hE
  · exact h j e (by omega) he
theorem stV_ok {o : Off} (hv : OkO o) {l : List Deal} : ∀ {k : Nat}, k ≤ l.length → okTo o l k → OkO (stV o l k)
  | 0, _, _ => hv
  | k + 1, hk, h => by
    obtain ⟨d, hd⟩ : ∃ d, l[k]? = some d := ⟨_, List.getElem?_eq_getElem (by omega)⟩
    rw [stV_succ hd]
    exact done_okO (stV_ok hv (by omega) fun j e hj he => h j e (by omega) he) d (h k d (by omega) hd)
/-- What Play answers for a valid office. -/
def runV (o : Off) : List Deal → Off × Int × Int
  | [] => (o, 0, 0)
  | d :: l => if doneE o d = 0 then (if (runV (doneO o d) l).2.2 = 0 then runV (doneO o d) l else (zeroO, (runV (doneO o d) l).2.1 + 1, (runV (doneO o d) l).2.2)) else (zeroO, 0, doneE o d)
theorem run_all {o : Off} : ∀ {l : List Deal}, okTo o l l.length → runV o l = (stV o l l.length, 0, 0)
  | [], _ => rfl
  | d :: l, h => by
    have h0 : doneE o d = 0 := h 0 d (by simp) rfl
    have ih := run_all (o := doneO o d) (l := l) fun j e hj he => h (j + 1) e (by simpa using hj) he
    unfold runV
    rw [if_pos h0, ih]
    rfl
theorem run_bad : ∀ {l : List Deal} {o : Off} {k : Nat} {d : Deal}, okTo o l k → l[k]? = some d → ¬ doneE (stV o l k) d = 0 → runV o l = (zeroO, (k : Int), doneE (stV o l k) d)
  | [], o, k, d, _, hd, _ => by simp at hd
  | a :: l, o, 0, d, h, hd, hE => by
    obtain rfl : a = d := by simpa using hd
    unfold runV
    rw [if_neg (show ¬ doneE o a = 0 from hE)]
    rfl
  | a :: l, o, k + 1, d, h, hd, hE => by
    have h0 : doneE o a = 0 := h 0 a (by omega) rfl
    have ih := run_bad (l := l) (o := doneO o a) (k := k) (d := d) (fun j e hj he => h (j + 1) e (by omega) he) (by simpa using hd) hE
    unfold runV
    have hE' : ¬ doneE (stV (doneO o a) l k) d = 0 := hE
    rw [if_pos h0, ih]
    simp only [hE', if_false]
    rfl
def playV (o : Off) (l : List Deal) : Off × Int × Int := if officeB o = true then (if l.length ≤ 200 then runV o l else (zeroO, 0, 4)) else (zeroO, 0, 84)
def AnyP (r : Off × Int × Int) (v : Value) (H : Hp) : Prop := ∃ x y, (x = none → r.1.fl.length = 0) ∧ (y = none → r.1.bk.length = 0) ∧ v = .tuple #[.agg ⟨offCells r.1 (clA x) (clC x) (clA y) (clC y)⟩, .int .i64 r.2.1, .int .i64 r.2.2] ∧ H = flH r.1 x ++ bkH r.1 y
theorem deal_read {w : World} {A : Option Addr} {n : Nat} {l : List Deal} (h : RdS w 5 A n (l.map dealCells)) {i : Nat} (hi : i < n) :
    ∃ b o x, A = some ⟨b, o, none⟩ ∧ b < w.heap.size ∧ l[i]? = some x ∧ w.cell? ⟨b, o + i * 5, none⟩ = some (.int .u8 x.kind) ∧ w.cell? ⟨b, o + i * 5 + 1, none⟩ = some (.int .i64 x.n) ∧ w.cell? ⟨b, o + i * 5 + 2, none⟩ = some (.int .i64 x.seats) ∧ w.cell? ⟨b, o + i * 5 + 3, none⟩ = some (.int .i64 x.price) ∧ w.cell? ⟨b, o + i * 5 + 4, none⟩ = some (.int .i64 x.leaves) := by
  obtain ⟨b, o, cs, hA, hb, hx, _, hc⟩ := h.row hi
  simp only [List.getElem?_map, Option.map_eq_some_iff] at hx
  obtain ⟨x, hx, rfl⟩ := hx
  exact ⟨b, o, x, hA, hb, hx, hc 0 _ rfl, hc 1 _ rfl, hc 2 _ rfl, hc 3 _ rfl, hc 4 _ rfl⟩
end Go.Proofs.Ytmlmgipngbndgaa
namespace Go.Proofs.Ytmlmgipngbndgaa
open Go.RowKit
attribute [local irreducible] OQ OS OX Rd T TL GX GL AL AI RV wpG SAny Calls
set_option maxRecDepth 100000
set_option maxHeartbeats 2000000
set_option linter.unusedVariables false
set_option linter.unusedSimpArgs false
theorem play_T (o : Off) (A : Option Addr) (cf : Nat) (B : Option Addr) (cb : Nat) (w : World) (hA : RdS w 4 A o.fl.length (o.fl.map depCells)) (hB : RdS w 3 B o.bk.length (o.bk.map bkCells)) (hnA : A = none → o.fl.length = 0 ∧ cf = 0) (hnB : B = none → o.bk.length = 0 ∧ cb = 0) (hu : ∀ d ∈ o.fl, 0 ≤ d.state) (hn : o.fl.length ≤ 1000000) (hn2 : o.bk.length ≤ 1000000) (l : List Deal) (L : Option Addr) (nl cl : Nat) (hL : RdS w 5 L nl (l.map dealCells)) (hln : nl ≤ 1000000) (hlk : ∀ d ∈ l, 0 ≤ d.kind ∧ d.kind ≤ 255) : Calls Try.prog 34 #[.agg ⟨offCells o A cf B cb⟩, .slice L nl cl] w fun e w' => ∃ v H', e = .returned v ∧ AnyP (playV o l) v H' ∧ Has w ⟨[], []⟩ H' w' := by
  have hll := hL.len
  simp only [List.length_map] at hll
  unfold playV
  cases hv : officeB o with
  | false =>
    simp only [Bool.false_eq_true, if_false]
    refine enterF (c := cx w 44) Try.func34 rfl rfl rfl rfl ?_
    repeat' (first | ((with_reducible apply oq_id); first | (apply oq_fn; exact rfl; first | exact trivial | (refine ⟨?_, ?_⟩ <;> omega) | (refine ⟨?_, ?_, ?_⟩ <;> omega) | omega | skip) | ((with_reducible apply oq_loadAgg); exact rfl; exact rfl) | ((with_reducible apply oq_build); exact rfl; exact rfl; exact rfl)) | ((with_reducible apply tl_id); first | ((with_reducible apply tl_nil)) | ((with_reducible apply u_s); exact rfl; exact rfl; exact rfl; (with_reducible apply os_callF (PV := OpenN) (k := 62) (hc := Try.call62)); exact rfl; exact rfl; exact fun D w1 hw1 => openN_T o A cf B cb w1 (hA.ext hw1.ext.ext) (hB.ext hw1.ext.ext) hnA hnB hu hn hn2 hv; rintro v H' ⟨p, rfl, rfl⟩; (try simp only [List.cons_append, List.nil_append])) | ((with_reducible apply u_q); exact rfl; exact rfl; exact rfl; exact rfl) | ((with_reducible apply u_s0); exact rfl; exact rfl) | ((with_reducible apply u_s); exact rfl; exact rfl; exact rfl)) | ((with_reducible apply os_id); first | ((with_reducible apply os_x); exact rfl) | ((with_reducible apply os_storeAgg); exact rfl; exact rfl; exact rfl; exact rfl; exact rfl)) | ((with_reducible apply ox_id); first | ((with_reducible apply ox_alloc); exact rfl; intro _) | ((with_reducible apply ox_boxAgg); exact rfl; intro _)) | ((with_reducible apply rd_id); first | (apply Rd.own; (repeat (first | exact P0 | apply P1 | apply PA)); exact rfl; done)) | ((with_reducible apply t_id); first | ((with_reducible apply t_seq)) | (apply t_region; kernel_rfl) | ((with_reducible apply t_condT); exact rfl) | ((with_reducible apply t_ret))) | with_reducible apply q_thenN | with_reducible apply q_thenR | exact P0 | exact Rdn.zero | apply Rdn.succ | ((with_reducible apply Norm.nil); exact rfl) | ((with_reducible apply Norm.cons); exact rfl) | ((with_reducible apply end_ret)) | exact rvs_nil | ((with_reducible apply rvs_cons)) | ((with_reducible apply rv_tmp); exact rfl) | ((with_reducible apply rv_cellAgg); exact rfl; exact rfl) | exact Nat.le_of_ble_eq_true rfl)
    all_goals exact ⟨_, ⟨none, none, (fun _ => rfl), (fun _ => rfl), rfl, rfl⟩, HpSub.nil⟩
  | true =>
    have hO0 := okO hu hv
    simp only [if_true]
    by_cases h200 : l.length ≤ 200
    · rw [if_pos h200]
      refine enterF (c := cx w 44) Try.func34 rfl rfl rfl rfl ?_
      refine t_cut (ι := Nat × Nat) (fun z => [(1, .slice L nl cl), (2, .pointer (some ⟨z.1, 0, none⟩)), (4, .pointer (some ⟨z.2, 0, none⟩))]) (fun z => (z.2, [.int .i64 0, .int .i64 0, .int .i64 0, .slice none 0 0, .slice none 0 0, .int .i64 0, .int .i64 0], some (25, 7, 1)) :: (z.1, offCells o A cf B cb, some (25, 7, 1)) :: []) (fun _ => True) ?_ ?_
      · repeat' (first | ((with_reducible apply oq_id); first | (apply oq_fn; exact rfl; first | exact trivial | (refine ⟨?_, ?_⟩ <;> omega) | (refine ⟨?_, ?_, ?_⟩ <;> omega) | omega | skip)) | ((with_reducible apply tl_id); first | ((with_reducible apply tl_nil)) | ((with_reducible apply u_q); exact rfl; exact rfl; exact rfl; exact rfl) | ((with_reducible apply u_s); exact rfl; exact rfl; exact rfl)) | ((with_reducible apply os_id); first | ((with_reducible apply os_x); exact rfl)) | ((with_reducible apply ox_id); first | ((with_reducible apply ox_alloc); exact rfl; intro _) | ((with_reducible apply ox_boxAgg); exact rfl; intro _)) | ((with_reducible apply t_id); first | (apply t_region; kernel_rfl)))
        all_goals exact ⟨rfl, (_, _), trivial, by (repeat (first | exact FrSub.nil | (apply FrSub.cons; exact rfl))), by (repeat (first | exact HpSub.refl _ | (apply HpSub.consE; (repeat (first | exact P0 | apply P1 | apply PA)); exact rfl) | exact HpSub.nil))⟩
      rintro ⟨b2, b4⟩ -
      refine t_cut (ι := Nat × Option (Nat × Nat) × Option (Nat × Nat)) (fun z => [(1, .slice L nl cl), (4, .pointer (some ⟨b4, 0, none⟩)), (7, .pointer (some ⟨z.1, 0, none⟩)), (8, .bool true)]) (fun z => (b4, [.int .i64 0, .int .i64 0, .int .i64 0, .slice none 0 0, .slice none 0 0, .int .i64 0, .int .i64 0], some (25, 7, 1)) :: deskH z.1 o z.2.1 z.2.2) (fun z => (z.2.1 = none → o.fl.length = 0) ∧ (z.2.2 = none → o.bk.length = 0)) ?_ ?_
      · repeat' (first | ((with_reducible apply oq_id); first | (apply oq_fn; exact rfl; first | exact trivial | (refine ⟨?_, ?_⟩ <;> omega) | (refine ⟨?_, ?_, ?_⟩ <;> omega) | omega | skip) | ((with_reducible apply oq_loadAgg); exact rfl; exact rfl)) | ((with_reducible apply tl_id); first | ((with_reducible apply tl_nil)) | ((with_reducible apply u_s); exact rfl; exact rfl; exact rfl; (with_reducible apply os_callF (PV := OpenY o) (k := 62) (hc := Try.call62)); exact rfl; exact rfl; exact fun D w1 hw1 => openY_T o A cf B cb w1 (hA.ext hw1.ext.ext) (hB.ext hw1.ext.ext) hnA hnB hu hn hn2 hv; rintro v H' ⟨bd, x, y, hxn, hyn, rfl, rfl⟩; (try simp only [deskH, List.cons_append, List.nil_append, List.append_assoc])) | ((with_reducible apply u_q); exact rfl; exact rfl; exact rfl; exact rfl)) | ((with_reducible apply rd_id); first | (apply Rd.own; (repeat (first | exact P0 | apply P1 | apply PA)); exact rfl; done)) | ((with_reducible apply t_id); first | (apply t_region; kernel_rfl)) | exact Rdn.zero | apply Rdn.succ)
        all_goals (refine ⟨by trivial, (bd, x, y), ⟨hxn, hyn⟩, by (repeat (first | exact FrSub.nil | (apply FrSub.cons; exact rfl))), ?_⟩)
        all_goals ((try unfold deskH); rcases x with _ | ⟨g1, c1⟩ <;> rcases y with _ | ⟨g2, c2⟩ <;> simp only [flH, bkH, clH, clA, clC, List.cons_append, List.nil_append, List.append_nil])
        all_goals (repeat (first | exact HpSub.refl _ | (apply HpSub.consE; (repeat (first | exact P0 | apply P1 | apply PA)); exact rfl) | exact HpSub.nil))
      rintro ⟨bd, x0, y0⟩ ⟨hx0, hy0⟩
      simp only at hx0 hy0 ⊢
      repeat' (first | ((with_reducible apply oq_id); first | ((with_reducible apply oq_gtrF); exact rfl; exact rfl; omega) | (apply oq_fn; exact rfl; first | exact trivial | (refine ⟨?_, ?_⟩ <;> omega) | (refine ⟨?_, ?_, ?_⟩ <;> omega) | omega | skip)) | ((with_reducible apply tl_id); first | ((with_reducible apply tl_nil)) | ((with_reducible apply u_q); exact rfl; exact rfl; exact rfl; exact rfl)) | ((with_reducible apply t_id); first | ((with_reducible apply t_seq)) | (apply t_region; kernel_rfl) | ((with_reducible apply t_condF); exact rfl) | ((with_reducible apply t_skip)) | ((with_reducible apply t_block))) | with_reducible apply q_thenN)
      apply t_loopK (GH := []) (ι := Nat × Option (Nat × Nat) × Option (Nat × Nat)) [4, 7, 24, 25, 40, 41, 42, 43] (fun z => [(26, .int .i64 (z.1 : Nat))]) (fun z => (b4, [.int .i64 0, .int .i64 0, .int .i64 0, .slice none 0 0, .slice none 0 0, .int .i64 0, .int .i64 0], some (25, 7, 1)) :: deskH bd (stV o l z.1) z.2.1 z.2.2) (fun z => z.1 ≤ nl ∧ okTo o l z.1 ∧ (z.2.1 = none → (stV o l z.1).fl.length = 0) ∧ (z.2.2 = none → (stV o l z.1).bk.length = 0)) (fun z => nl - z.1) ((0, x0, y0))
      (repeat (first | exact KeepF.nil | (apply KeepF.cons; exact rfl) | apply KeepF.skip))
      (repeat (first | exact FrSub.nil | (apply FrSub.cons; exact rfl)))
      (rw [List.append_nil]; exact HpSub.refl _)
      · exact ⟨Nat.zero_le _, okTo_zero _ _, hx0, hy0⟩
      rintro ⟨k, x, y⟩ ⟨hkl, hok, hx, hy⟩
      simp only at hkl hok hx hy
      try simp only [List.cons_append, List.nil_append]
      rw [List.append_nil]
      have hO := stV_ok hO0 (by omega) hok
      by_cases hlt : k < nl
      · obtain ⟨b1, o1, d, rfl, _, hd, c0, c1, c2, c3, c4⟩ := deal_read hL hlt
        have hdk := hlk d (List.mem_of_getElem? hd)
        by_cases hE : doneE (stV o l k) d = 0
        · repeat' (first | ((with_reducible apply oq_id); first | (focus ((with_reducible apply oq_indexAddrN); exact rfl; exact rfl; exact rfl; exact rfl; omega)) | ((with_reducible apply oq_lssT); exact rfl; exact rfl; omega) | ((with_reducible apply oq_neqF); exact rfl; exact rfl; omega) | (apply oq_fn; exact rfl; first | exact trivial | (refine ⟨?_, ?_⟩ <;> omega) | (refine ⟨?_, ?_, ?_⟩ <;> omega) | omega | skip) | ((with_reducible apply oq_loadAgg); exact rfl; exact rfl)) | ((with_reducible apply tl_id); first | ((with_reducible apply tl_nil)) | ((with_reducible apply u_s); exact rfl; exact rfl; exact rfl; (with_reducible apply os_callM (PV := fun v H => v = .int .i64 0 ∧ AtW bd (doneO (stV o l k) d) H) (G := deskH bd (stV o l k) x y) (R := [(b4, [.int .i64 0, .int .i64 0, .int .i64 0, .slice none 0 0, .slice none 0 0, .int .i64 0, .int .i64 0], some (25, 7, 1))]) (k := 79) (hc := Try.call79)); exact rfl; exact rfl; (focus ((try unfold deskH); (try unfold flH bkH); rcases x with _ | ⟨gF, cF⟩ <;> rcases y with _ | ⟨gB, cB⟩ <;> simp only [clH, clA, clC, List.nil_append, List.cons_append, List.append_nil] <;> ((repeat (first | exact HpSub.refl _ | (apply HpSub.consE; (repeat (first | exact P0 | apply P1 | apply PA)); exact rfl) | apply HpSub.skipX | apply HpSub.skipX | exact HpSub.nil))))); exact (fun D w1 hw1 hwG => do_ok bd (stV o l k) x y hx hy hO w1 hwG d hE); rintro v H1 ⟨rfl, x', y', hx', hy', rfl⟩) | ((with_reducible apply u_q); exact rfl; exact rfl; exact rfl; exact rfl) | ((with_reducible apply u_s0); exact rfl; exact rfl) | ((with_reducible apply u_s); exact rfl; exact rfl; exact rfl)) | ((with_reducible apply os_id); first | ((with_reducible apply os_x); exact rfl) | ((with_reducible apply os_storeAgg); exact rfl; exact rfl; exact rfl; exact rfl; exact rfl)) | ((with_reducible apply ox_id); first | ((with_reducible apply ox_alloc); exact rfl; intro _)) | ((with_reducible apply rd_id); first | (apply Rd.own; (repeat (first | exact P0 | apply P1 | apply PA)); exact rfl; done) | (apply Rd.old; (first | (with_reducible assumption) | exact c0 | exact c1 | exact c2 | exact c3 | exact c4 | exact c5 | exact c6 | exact c7 | exact c8 | exact d0 | exact d1 | exact d2 | exact d3 | exact d4 | exact d5); first | exact List.not_mem_nil | exact m0 | exact m1 | exact m2 | exact m3 | exact m4 | exact m5 | exact m6 | exact m7 | exact m8 | exact m9)) | ((with_reducible apply t_id); first | ((with_reducible apply t_seq)) | (apply t_region; kernel_rfl) | ((with_reducible apply t_condT); exact rfl) | ((with_reducible apply t_condF); exact rfl) | ((with_reducible apply t_skip)) | ((with_reducible apply t_block))) | with_reducible apply q_thenN | with_reducible apply q_blockN | exact P0 | exact Rdn.zero | apply Rdn.succ | ((with_reducible apply Norm.nil); exact rfl) | ((with_reducible apply Norm.cons); exact rfl) | exact Nat.le_of_ble_eq_true rfl)
          refine ⟨(k + 1, x', y'), ⟨(by simp only; omega), okTo_succ hok hd hE, (by simp only; rw [stV_succ hd]; exact hx'), (by simp only; rw [stV_succ hd]; exact hy')⟩, (by simp only; omega), ?_, ?_⟩
          · try simp only [List.cons_append, List.nil_append]
            (repeat (first | exact FrSub.nil | (apply FrSub.cons; exact rfl)))
          · simp only [stV_succ hd]
            (try unfold deskH); (try unfold flH bkH); rcases x' with _ | ⟨gF, cF⟩ <;> rcases y' with _ | ⟨gB, cB⟩ <;> simp only [clH, clA, clC, List.nil_append, List.cons_append, List.append_nil] <;> ((repeat (first | exact HpSub.refl _ | (apply HpSub.consE; (repeat (first | exact P0 | apply P1 | apply PA)); exact rfl) | apply HpSub.skipX | exact HpSub.nil)))
        · have HD := fun A' cf' B' cb' w1 hD => do_no bd (stV o l k) A' cf' B' cb' w1 hD hO d hdk hE
          obtain ⟨z, hz⟩ : ∃ z, doneE (stV o l k) d = z := ⟨_, rfl⟩
          have hrun := run_bad hok hd hE
          rw [hz] at HD hE hrun
          rw [hrun]
          repeat' (first | ((with_reducible apply oq_id); first | (focus ((with_reducible apply oq_indexAddrN); exact rfl; exact rfl; exact rfl; exact rfl; omega)) | ((with_reducible apply oq_lssT); exact rfl; exact rfl; omega) | ((with_reducible apply oq_neqT); exact rfl; exact rfl; omega) | (apply oq_fn; exact rfl; first | exact trivial | (refine ⟨?_, ?_⟩ <;> omega) | (refine ⟨?_, ?_, ?_⟩ <;> omega) | omega | skip) | ((with_reducible apply oq_loadAgg); exact rfl; exact rfl) | ((with_reducible apply oq_call (k := 79) (hc := Try.call79)); exact rfl; exact rfl; exact fun D w1 hw1 => HD _ _ _ _ w1 (desk_of (o := stV o l k) (x := x) (y := y) hw1 (by (try unfold deskH); (try unfold flH bkH); rcases x with _ | ⟨gF, cF⟩ <;> rcases y with _ | ⟨gB, cB⟩ <;> simp only [clH, clA, clC, List.nil_append, List.cons_append, List.append_nil] <;> ((repeat (first | exact HpSub.refl _ | (apply HpSub.consE; (repeat (first | exact P0 | apply P1 | apply PA)); exact rfl) | apply HpSub.skipX | apply HpSub.skipX | exact HpSub.nil)))) hx hy)) | ((with_reducible apply oq_build); exact rfl; exact rfl; exact rfl)) | ((with_reducible apply tl_id); first | ((with_reducible apply tl_nil)) | ((with_reducible apply u_q); exact rfl; exact rfl; exact rfl; exact rfl) | ((with_reducible apply u_s0); exact rfl; exact rfl) | ((with_reducible apply u_s); exact rfl; exact rfl; exact rfl)) | ((with_reducible apply os_id); first | ((with_reducible apply os_x); exact rfl) | ((with_reducible apply os_storeAgg); exact rfl; exact rfl; exact rfl; exact rfl; exact rfl)) | ((with_reducible apply ox_id); first | ((with_reducible apply ox_alloc); exact rfl; intro _)) | ((with_reducible apply rd_id); first | (apply Rd.own; (repeat (first | exact P0 | apply P1 | apply PA)); exact rfl; done) | (apply Rd.old; (first | (with_reducible assumption) | exact c0 | exact c1 | exact c2 | exact c3 | exact c4 | exact c5 | exact c6 | exact c7 | exact c8 | exact d0 | exact d1 | exact d2 | exact d3 | exact d4 | exact d5); first | exact List.not_mem_nil | exact m0 | exact m1 | exact m2 | exact m3 | exact m4 | exact m5 | exact m6 | exact m7 | exact m8 | exact m9)) | ((with_reducible apply t_id); first | ((with_reducible apply t_seq)) | (apply t_region; kernel_rfl) | ((with_reducible apply t_condT); exact rfl) | ((with_reducible apply t_ret)) | ((with_reducible apply t_skip)) | ((with_reducible apply t_block))) | with_reducible apply q_thenN | with_reducible apply q_thenR | with_reducible apply q_blockR | exact P0 | (first | (with_reducible apply P1) | (with_reducible apply PA)) | exact Rdn.zero | apply Rdn.succ | ((with_reducible apply Norm.nil); exact rfl) | ((with_reducible apply Norm.cons); exact rfl) | ((with_reducible apply end_ret)) | exact rvs_nil | ((with_reducible apply rvs_cons)) | ((with_reducible apply rv_tmp); exact rfl) | ((with_reducible apply rv_cellAgg); exact rfl; exact rfl) | exact Nat.le_of_ble_eq_true rfl)
          all_goals exact ⟨_, ⟨none, none, (fun _ => rfl), (fun _ => rfl), rfl, rfl⟩, HpSub.nil⟩
      · have hkn : k = l.length := by omega
        subst hkn
        rw [run_all hok]
        unfold deskH; simp only [List.cons_append, List.append_nil]
        repeat' (first | ((with_reducible apply oq_id); first | ((with_reducible apply oq_lssF); exact rfl; exact rfl; omega) | (apply oq_fn; exact rfl; first | exact trivial | (refine ⟨?_, ?_⟩ <;> omega) | (refine ⟨?_, ?_, ?_⟩ <;> omega) | omega | skip) | ((with_reducible apply oq_loadAgg); exact rfl; exact rfl)) | ((with_reducible apply tl_id); first | ((with_reducible apply tl_nil)) | ((with_reducible apply u_q); exact rfl; exact rfl; exact rfl; exact rfl) | ((with_reducible apply u_s0); exact rfl; exact rfl)) | ((with_reducible apply os_id); first | ((with_reducible apply os_storeAgg); exact rfl; exact rfl; exact rfl; exact rfl; exact rfl)) | ((with_reducible apply rd_id); first | (apply Rd.own; (repeat (first | exact P0 | apply P1 | apply PA)); exact rfl; done)) | ((with_reducible apply t_id); first | ((with_reducible apply t_seq)) | (apply t_region; kernel_rfl) | ((with_reducible apply t_condF); exact rfl) | ((with_reducible apply t_ret)) | ((with_reducible apply t_exit))) | with_reducible apply q_thenN | with_reducible apply q_thenE | ((with_reducible apply q_blockE); exact rfl) | exact P0 | exact Rdn.zero | apply Rdn.succ | ((with_reducible apply Norm.nil); exact rfl) | ((with_reducible apply Norm.cons); exact rfl) | ((with_reducible apply end_ret)) | exact rvs_nil | ((with_reducible apply rvs_cons)) | ((with_reducible apply rv_tmp); exact rfl) | ((with_reducible apply rv_cellAgg); exact rfl; exact rfl) | exact Nat.le_of_ble_eq_true rfl)
        all_goals (refine ⟨_, ⟨x, y, hx, hy, rfl, rfl⟩, ?_⟩)
        all_goals ((try unfold deskH); (try unfold flH bkH); rcases x with _ | ⟨gF, cF⟩ <;> rcases y with _ | ⟨gB, cB⟩ <;> simp only [clH, clA, clC, List.nil_append, List.cons_append, List.append_nil] <;> ((repeat (first | exact HpSub.refl _ | (apply HpSub.consE; (repeat (first | exact P0 | apply P1 | apply PA)); exact rfl) | apply HpSub.skipX | exact HpSub.nil))))
    · rw [if_neg h200]
      refine enterF (c := cx w 44) Try.func34 rfl rfl rfl rfl ?_
      refine t_cut (ι := Nat × Nat) (fun z => [(1, .slice L nl cl), (2, .pointer (some ⟨z.1, 0, none⟩)), (4, .pointer (some ⟨z.2, 0, none⟩))]) (fun z => (z.2, [.int .i64 0, .int .i64 0, .int .i64 0, .slice none 0 0, .slice none 0 0, .int .i64 0, .int .i64 0], some (25, 7, 1)) :: (z.1, offCells o A cf B cb, some (25, 7, 1)) :: []) (fun _ => True) ?_ ?_
      · repeat' (first | ((with_reducible apply oq_id); first | (apply oq_fn; exact rfl; first | exact trivial | (refine ⟨?_, ?_⟩ <;> omega) | (refine ⟨?_, ?_, ?_⟩ <;> omega) | omega | skip)) | ((with_reducible apply tl_id); first | ((with_reducible apply tl_nil)) | ((with_reducible apply u_q); exact rfl; exact rfl; exact rfl; exact rfl) | ((with_reducible apply u_s); exact rfl; exact rfl; exact rfl)) | ((with_reducible apply os_id); first | ((with_reducible apply os_x); exact rfl)) | ((with_reducible apply ox_id); first | ((with_reducible apply ox_alloc); exact rfl; intro _) | ((with_reducible apply ox_boxAgg); exact rfl; intro _)) | ((with_reducible apply t_id); first | (apply t_region; kernel_rfl)))
        all_goals exact ⟨rfl, (_, _), trivial, by (repeat (first | exact FrSub.nil | (apply FrSub.cons; exact rfl))), by (repeat (first | exact HpSub.refl _ | (apply HpSub.consE; (repeat (first | exact P0 | apply P1 | apply PA)); exact rfl) | exact HpSub.nil))⟩
      rintro ⟨b2, b4⟩ -
      refine t_cut (ι := Nat × Option (Nat × Nat) × Option (Nat × Nat)) (fun z => [(1, .slice L nl cl), (4, .pointer (some ⟨b4, 0, none⟩)), (7, .pointer (some ⟨z.1, 0, none⟩)), (8, .bool true)]) (fun z => (b4, [.int .i64 0, .int .i64 0, .int .i64 0, .slice none 0 0, .slice none 0 0, .int .i64 0, .int .i64 0], some (25, 7, 1)) :: deskH z.1 o z.2.1 z.2.2) (fun z => (z.2.1 = none → o.fl.length = 0) ∧ (z.2.2 = none → o.bk.length = 0)) ?_ ?_
      · repeat' (first | ((with_reducible apply oq_id); first | (apply oq_fn; exact rfl; first | exact trivial | (refine ⟨?_, ?_⟩ <;> omega) | (refine ⟨?_, ?_, ?_⟩ <;> omega) | omega | skip) | ((with_reducible apply oq_loadAgg); exact rfl; exact rfl)) | ((with_reducible apply tl_id); first | ((with_reducible apply tl_nil)) | ((with_reducible apply u_s); exact rfl; exact rfl; exact rfl; (with_reducible apply os_callF (PV := OpenY o) (k := 62) (hc := Try.call62)); exact rfl; exact rfl; exact fun D w1 hw1 => openY_T o A cf B cb w1 (hA.ext hw1.ext.ext) (hB.ext hw1.ext.ext) hnA hnB hu hn hn2 hv; rintro v H' ⟨bd, x, y, hxn, hyn, rfl, rfl⟩; (try simp only [deskH, List.cons_append, List.nil_append, List.append_assoc])) | ((with_reducible apply u_q); exact rfl; exact rfl; exact rfl; exact rfl)) | ((with_reducible apply rd_id); first | (apply Rd.own; (repeat (first | exact P0 | apply P1 | apply PA)); exact rfl; done)) | ((with_reducible apply t_id); first | (apply t_region; kernel_rfl)) | exact Rdn.zero | apply Rdn.succ)
        all_goals (refine ⟨by trivial, (bd, x, y), ⟨hxn, hyn⟩, by (repeat (first | exact FrSub.nil | (apply FrSub.cons; exact rfl))), ?_⟩)
        all_goals ((try unfold deskH); rcases x with _ | ⟨g1, c1⟩ <;> rcases y with _ | ⟨g2, c2⟩ <;> simp only [flH, bkH, clH, clA, clC, List.cons_append, List.nil_append, List.append_nil])
        all_goals (repeat (first | exact HpSub.refl _ | (apply HpSub.consE; (repeat (first | exact P0 | apply P1 | apply PA)); exact rfl) | exact HpSub.nil))
      rintro ⟨bd, x0, y0⟩ ⟨hx0, hy0⟩
      simp only at hx0 hy0 ⊢
      repeat' (first | ((with_reducible apply oq_id); first | ((with_reducible apply oq_gtrT); exact rfl; exact rfl; omega) | (apply oq_fn; exact rfl; first | exact trivial | (refine ⟨?_, ?_⟩ <;> omega) | (refine ⟨?_, ?_, ?_⟩ <;> omega) | omega | skip) | ((with_reducible apply oq_build); exact rfl; exact rfl; exact rfl)) | ((with_reducible apply tl_id); first | ((with_reducible apply tl_nil)) | ((with_reducible apply u_q); exact rfl; exact rfl; exact rfl; exact rfl) | ((with_reducible apply u_s0); exact rfl; exact rfl)) | ((with_reducible apply os_id); first | ((with_reducible apply os_storeAgg); exact rfl; exact rfl; exact rfl; exact rfl; exact rfl)) | ((with_reducible apply rd_id); first | (apply Rd.own; (repeat (first | exact P0 | apply P1 | apply PA)); exact rfl; done)) | ((with_reducible apply t_id); first | ((with_reducible apply t_seq)) | (apply t_region; kernel_rfl) | ((with_reducible apply t_condT); exact rfl) | ((with_reducible apply t_condF); exact rfl) | ((with_reducible apply t_ret)) | ((with_reducible apply t_skip))) | with_reducible apply q_thenN | with_reducible apply q_thenR | exact P0 | exact Rdn.zero | apply Rdn.succ | ((with_reducible apply Norm.nil); exact rfl) | ((with_reducible apply Norm.cons); exact rfl) | ((with_reducible apply end_ret)) | exact rvs_nil | ((with_reducible apply rvs_cons)) | ((with_reducible apply rv_tmp); exact rfl) | ((with_reducible apply rv_cellAgg); exact rfl; exact rfl) | exact Nat.le_of_ble_eq_true rfl)
      all_goals exact ⟨_, ⟨none, none, (fun _ => rfl), (fun _ => rfl), rfl, rfl⟩, HpSub.nil⟩
end Go.Proofs.Ytmlmgipngbndgaa
namespace Go.Proofs.Ytmlmgipngbndgaa
open Go.RowKit
attribute [local irreducible] TR OQ OS OX Rd T TL GX GL AL AI RV wpG SAny Calls
set_option maxRecDepth 100000
set_option maxHeartbeats 2000000
set_option linter.unusedVariables false
set_option linter.unusedSimpArgs false
def off0 : Off := ⟨0, 60, 25, 0, 0, [], []⟩
def dl9 : List Deal := [⟨1, 0, 2, 400, 100⟩, ⟨2, 0, 0, 0, 0⟩, ⟨2, 0, 0, 0, 0⟩, ⟨2, 0, 0, 0, 0⟩, ⟨3, 0, 0, 0, 0⟩, ⟨6, 50, 0, 0, 0⟩, ⟨3, 1, 0, 0, 0⟩, ⟨6, 50, 0, 0, 0⟩, ⟨4, 0, 0, 0, 0⟩]
def off9 : Off := ⟨100, 60, 25, 1200, 700, [⟨2, 400, 100, 1⟩], [⟨0, 4, 0⟩, ⟨0, 4, 100⟩, ⟨0, 3, 0⟩]⟩
theorem play9 : playV off0 dl9 = (off9, 0, 0) := by kernel_rfl
theorem purse9 : purseS off9 = (0, 400, 100, 700, 0) := by kernel_rfl
theorem insE5 : insE 100 10 30 [20, 15, 60, 45, 30] = 0 := by kernel_rfl
theorem insV5 : insV 100 10 30 [20, 15, 60, 45, 30] = [2, 4] := by kernel_rfl
theorem duty0 (w : World) : Calls Try.prog 56 #[] w fun e w' => e = .returned (.agg #[.int .i64 600, .int .i64 500, .int .i64 2000, .int .i64 1000]) ∧ Ext w w' := by
  refine enterQ (c := cx w 2) Try.func56 rfl rfl rfl rfl ?_
  repeat' (first | ((with_reducible apply oq_id); first | ((with_reducible apply oq_build); exact rfl; exact rfl; exact rfl)) | ((with_reducible apply tl_id); first | ((with_reducible apply tl_nil)) | ((with_reducible apply u_q); exact rfl; exact rfl; exact rfl; exact rfl) | ((with_reducible apply u_s0); exact rfl; exact rfl) | ((with_reducible apply u_s); exact rfl; exact rfl; exact rfl)) | ((with_reducible apply os_id); first | ((with_reducible apply os_x); exact rfl) | ((with_reducible apply os_storeAgg); exact rfl; exact rfl; exact rfl; exact rfl; exact rfl)) | ((with_reducible apply ox_id); first | ((with_reducible apply ox_alloc); exact rfl; intro _)) | ((with_reducible apply rd_id); first | (apply Rd.own; (repeat (first | exact P0 | apply P1)); exact rfl; done)) | ((with_reducible apply t_id); first | ((with_reducible apply t_seq)) | (apply t_region; kernel_rfl) | ((with_reducible apply t_ret))) | with_reducible apply q_thenN | exact P0 | exact Rdn.zero | apply Rdn.succ | ((with_reducible apply Norm.nil); exact rfl) | ((with_reducible apply Norm.cons); exact rfl) | ((with_reducible apply end_ret)) | exact rvs_nil | ((with_reducible apply rvs_cons)) | ((with_reducible apply rv_cellAgg); exact rfl; exact rfl) | exact Nat.le_of_ble_eq_true rfl)
  all_goals rfl
theorem care0 (w : World) : Calls Try.prog 58 #[] w fun e w' => e = .returned (.agg #[.int .i64 100, .int .i64 10, .int .i64 30]) ∧ Ext w w' := by
  refine enterQ (c := cx w 2) Try.func58 rfl rfl rfl rfl ?_
  repeat' (first | ((with_reducible apply oq_id); first | ((with_reducible apply oq_build); exact rfl; exact rfl; exact rfl)) | ((with_reducible apply tl_id); first | ((with_reducible apply tl_nil)) | ((with_reducible apply u_q); exact rfl; exact rfl; exact rfl; exact rfl) | ((with_reducible apply u_s0); exact rfl; exact rfl) | ((with_reducible apply u_s); exact rfl; exact rfl; exact rfl)) | ((with_reducible apply os_id); first | ((with_reducible apply os_x); exact rfl) | ((with_reducible apply os_storeAgg); exact rfl; exact rfl; exact rfl; exact rfl; exact rfl)) | ((with_reducible apply ox_id); first | ((with_reducible apply ox_alloc); exact rfl; intro _)) | ((with_reducible apply rd_id); first | (apply Rd.own; (repeat (first | exact P0 | apply P1)); exact rfl; done)) | ((with_reducible apply t_id); first | ((with_reducible apply t_seq)) | (apply t_region; kernel_rfl) | ((with_reducible apply t_ret))) | with_reducible apply q_thenN | exact P0 | exact Rdn.zero | apply Rdn.succ | ((with_reducible apply Norm.nil); exact rfl) | ((with_reducible apply Norm.cons); exact rfl) | ((with_reducible apply end_ret)) | exact rvs_nil | ((with_reducible apply rvs_cons)) | ((with_reducible apply rv_cellAgg); exact rfl; exact rfl) | exact Nat.le_of_ble_eq_true rfl)
  all_goals rfl
theorem office0 (w : World) : Calls Try.prog 60 #[] w fun e w' => e = .returned (.agg ⟨offCells off0 none 0 none 0⟩) ∧ Ext w w' := by
  refine enterQ (c := cx w 2) Try.func60 rfl rfl rfl rfl ?_
  repeat' (first | ((with_reducible apply oq_id); first | ((with_reducible apply oq_build); exact rfl; exact rfl; exact rfl)) | ((with_reducible apply tl_id); first | ((with_reducible apply tl_nil)) | ((with_reducible apply u_q); exact rfl; exact rfl; exact rfl; exact rfl) | ((with_reducible apply u_s0); exact rfl; exact rfl) | ((with_reducible apply u_s); exact rfl; exact rfl; exact rfl)) | ((with_reducible apply os_id); first | ((with_reducible apply os_x); exact rfl) | ((with_reducible apply os_storeAgg); exact rfl; exact rfl; exact rfl; exact rfl; exact rfl)) | ((with_reducible apply ox_id); first | ((with_reducible apply ox_alloc); exact rfl; intro _)) | ((with_reducible apply rd_id); first | (apply Rd.own; (repeat (first | exact P0 | apply P1)); exact rfl; done)) | ((with_reducible apply t_id); first | ((with_reducible apply t_seq)) | (apply t_region; kernel_rfl) | ((with_reducible apply t_ret))) | with_reducible apply q_thenN | exact P0 | exact Rdn.zero | apply Rdn.succ | ((with_reducible apply Norm.nil); exact rfl) | ((with_reducible apply Norm.cons); exact rfl) | ((with_reducible apply end_ret)) | exact rvs_nil | ((with_reducible apply rvs_cons)) | ((with_reducible apply rv_cellAgg); exact rfl; exact rfl) | exact Nat.le_of_ble_eq_true rfl)
  all_goals rfl
def ros0V (v : Value) (H : Hp) : Prop := ∃ b, v = .slice (some ⟨b, 0, none⟩) 3 3 ∧ H = [(b, roC, some (101, 3, 3))]
theorem ros0_T (w : World) : Calls Try.prog 57 #[] w fun e w' => ∃ v H', e = .returned v ∧ ros0V v H' ∧ Has w ⟨[], []⟩ H' w' := by
  refine enterF (c := cx w 5) Try.func57 rfl rfl rfl rfl ?_
  repeat' (first | ((with_reducible apply oq_id); first | (apply oq_fn; exact rfl; first | exact trivial | (refine ⟨?_, ?_⟩ <;> omega) | (refine ⟨?_, ?_, ?_⟩ <;> omega) | omega | skip) | ((with_reducible apply oq_build); exact rfl; exact rfl; exact rfl)) | ((with_reducible apply tl_id); first | ((with_reducible apply tl_nil)) | ((with_reducible apply u_q); exact rfl; exact rfl; exact rfl; exact rfl) | ((with_reducible apply u_s); exact rfl; exact rfl; exact rfl)) | ((with_reducible apply os_id); first | ((with_reducible apply os_x); exact rfl)) | ((with_reducible apply ox_id); first | ((with_reducible apply ox_buildSlice); exact rfl; exact rfl; exact rfl; exact rfl)) | ((with_reducible apply t_id); first | ((with_reducible apply t_seq)) | (apply t_region; kernel_rfl) | ((with_reducible apply t_ret))) | with_reducible apply q_thenN | ((with_reducible apply Norm.nil); exact rfl) | ((with_reducible apply Norm.cons); exact rfl) | ((with_reducible apply end_ret)) | exact rvs_nil | ((with_reducible apply rvs_cons)) | ((with_reducible apply rv_tmp); exact rfl) | exact (rfl : (_ : Bool) = true) | (intro _; with_reducible apply tl_id))
  all_goals exact ⟨_, ⟨_, rfl, rfl⟩, HpSub.refl _⟩
def fli0V (v : Value) (H : Hp) : Prop := ∃ b, v = .slice (some ⟨b, 0, none⟩) 5 5 ∧ H = [(b, [.int .i64 20, .int .i64 15, .int .i64 60, .int .i64 45, .int .i64 30], some (3, 1, 5))]
theorem fli0_T (w : World) : Calls Try.prog 59 #[] w fun e w' => ∃ v H', e = .returned v ∧ fli0V v H' ∧ Has w ⟨[], []⟩ H' w' := by
  refine enterF (c := cx w 2) Try.func59 rfl rfl rfl rfl ?_
  repeat' (first | ((with_reducible apply oq_id); first | (apply oq_fn; exact rfl; first | exact trivial | (refine ⟨?_, ?_⟩ <;> omega) | (refine ⟨?_, ?_, ?_⟩ <;> omega) | omega | skip)) | ((with_reducible apply tl_id); first | ((with_reducible apply tl_nil)) | ((with_reducible apply u_q); exact rfl; exact rfl; exact rfl; exact rfl) | ((with_reducible apply u_s); exact rfl; exact rfl; exact rfl)) | ((with_reducible apply os_id); first | ((with_reducible apply os_x); exact rfl)) | ((with_reducible apply ox_id); first | ((with_reducible apply ox_buildSlice1); exact rfl; exact rfl; exact rfl; exact rfl; exact rfl; exact rfl; intro _)) | ((with_reducible apply t_id); first | ((with_reducible apply t_seq)) | (apply t_region; kernel_rfl) | ((with_reducible apply t_ret))) | with_reducible apply q_thenN | ((with_reducible apply end_ret)) | exact rvs_nil | ((with_reducible apply rvs_cons)) | ((with_reducible apply rv_tmp); exact rfl))
  all_goals exact ⟨_, ⟨_, rfl, rfl⟩, HpSub.refl _⟩
def dealC : List Value := [.int .u8 1, .int .i64 0, .int .i64 2, .int .i64 400, .int .i64 100, .int .u8 2, .int .i64 0, .int .i64 0, .int .i64 0, .int .i64 0, .int .u8 2, .int .i64 0, .int .i64 0, .int .i64 0, .int .i64 0, .int .u8 2, .int .i64 0, .int .i64 0, .int .i64 0, .int .i64 0, .int .u8 3, .int .i64 0, .int .i64 0, .int .i64 0, .int .i64 0, .int .u8 6, .int .i64 50, .int .i64 0, .int .i64 0, .int .i64 0, .int .u8 3, .int .i64 1, .int .i64 0, .int .i64 0, .int .i64 0, .int .u8 6, .int .i64 50, .int .i64 0, .int .i64 0, .int .i64 0, .int .u8 4, .int .i64 0, .int .i64 0, .int .i64 0, .int .i64 0]
def dea0V (v : Value) (H : Hp) : Prop := ∃ b, v = .slice (some ⟨b, 0, none⟩) 9 9 ∧ H = [(b, dealC, some (63, 5, 9))]
theorem dea0_T (w : World) : Calls Try.prog 61 #[] w fun e w' => ∃ v H', e = .returned v ∧ dea0V v H' ∧ Has w ⟨[], []⟩ H' w' := by
  refine enterF (c := cx w 11) Try.func61 rfl rfl rfl rfl ?_
  repeat' (first | ((with_reducible apply oq_id); first | (apply oq_fn; exact rfl; first | exact trivial | (refine ⟨?_, ?_⟩ <;> omega) | (refine ⟨?_, ?_, ?_⟩ <;> omega) | omega | skip) | ((with_reducible apply oq_build); exact rfl; exact rfl; exact rfl)) | ((with_reducible apply tl_id); first | ((with_reducible apply tl_nil)) | ((with_reducible apply u_q); exact rfl; exact rfl; exact rfl; exact rfl) | ((with_reducible apply u_s); exact rfl; exact rfl; exact rfl)) | ((with_reducible apply os_id); first | ((with_reducible apply os_x); exact rfl)) | ((with_reducible apply ox_id); first | ((with_reducible apply ox_buildSlice); exact rfl; exact rfl; exact rfl; exact rfl)) | ((with_reducible apply t_id); first | ((with_reducible apply t_seq)) | (apply t_region; kernel_rfl) | ((with_reducible apply t_ret))) | with_reducible apply q_thenN | ((with_reducible apply Norm.nil); exact rfl) | ((with_reducible apply Norm.cons); exact rfl) | ((with_reducible apply end_ret)) | exact rvs_nil | ((with_reducible apply rvs_cons)) | ((with_reducible apply rv_tmp); exact rfl) | exact (rfl : (_ : Bool) = true) | (intro _; with_reducible apply tl_id))
  all_goals exact ⟨_, ⟨_, rfl, rfl⟩, HpSub.refl _⟩
section
variable {w : World} {N : Nat} {F : Fr} {H : Hp} {M : List Nat} {d : Option Tmp} {ty t' : TypeId} {pos : String} {af : Array Edge} {g : Option (Nat × Bool)} {x y : Operand} {a b e a' b' e' : Int}
theorem eq_ti {d : Nat} : (Op.equalIn (d + 2) 99 (.agg ⟨[.int .i64 a, .int .i64 b, .int .i64 e]⟩) (.agg ⟨[.int .i64 a', .int .i64 b', .int .i64 e']⟩)).run Try.prog w = .ok (decide (a = a') && (decide (b = b') && (decide (e = e') && true))) w := by
  rw [run_equalIn_struct w (d + 1) 99 _ _ (by kernel_rfl) (by kernel_rfl)]
  simp only [Program.fieldsOf, Try.underlying99]
  exact eqF_int rfl rfl rfl rfl rfl (eqF_int rfl rfl rfl rfl rfl (eqF_int rfl rfl rfl rfl rfl eqF_nil))
theorem oq_ne99F (hx : ev F x = some (.agg ⟨[.int .i64 a, .int .i64 b, .int .i64 e]⟩)) (hy : ev F y = some (.agg ⟨[.int .i64 a, .int .i64 b, .int .i64 e]⟩)) : OQ (cxM M w N) ⟨d, .binOp .neq 99 x y t', ty, pos, af, g⟩ F H (.bool false) :=
  (oq_neS (q := true) (by kernel_rfl) (fun w => by rw [eq_ti (d := 9998)]; simp) hx hy).as (by simp)
end
theorem sameTi (g cp b cp2 : Nat) (w : World) (c0 : w.cell? ⟨g, 0, none⟩ = some (.int .i64 3)) (c1 : w.cell? ⟨g, 1, none⟩ = some (.int .i64 0)) (c2 : w.cell? ⟨g, 2, none⟩ = some (.int .i64 0)) (c3 : w.cell? ⟨g, 3, none⟩ = some (.int .i64 2)) (c4 : w.cell? ⟨g, 4, none⟩ = some (.int .i64 0)) (c5 : w.cell? ⟨g, 5, none⟩ = some (.int .i64 1000)) (d0 : w.cell? ⟨b, 0, none⟩ = some (.int .i64 3)) (d1 : w.cell? ⟨b, 1, none⟩ = some (.int .i64 0)) (d2 : w.cell? ⟨b, 2, none⟩ = some (.int .i64 0)) (d3 : w.cell? ⟨b, 3, none⟩ = some (.int .i64 2)) (d4 : w.cell? ⟨b, 4, none⟩ = some (.int .i64 0)) (d5 : w.cell? ⟨b, 5, none⟩ = some (.int .i64 1000)) : Calls Try.prog 48 #[.slice (some ⟨g, 0, none⟩) 2 cp, .slice (some ⟨b, 0, none⟩) 2 cp2] w fun e w' => e = .returned (.bool true) ∧ Ext w w' := by
  refine enterQ (c := cx w 26) Try.func48 rfl rfl rfl rfl ?_
  repeat' (first | ((with_reducible apply oq_id); first | ((with_reducible apply oq_lssT); exact rfl; exact rfl; omega) | ((with_reducible apply oq_lssF); exact rfl; exact rfl; omega) | ((with_reducible apply oq_neqF); exact rfl; exact rfl; omega) | ((with_reducible apply oq_ne99F); exact rfl; exact rfl) | (apply oq_fn; exact rfl; first | exact trivial | (refine ⟨?_, ?_⟩ <;> omega) | (refine ⟨?_, ?_, ?_⟩ <;> omega) | omega | skip) | ((with_reducible apply oq_loadAgg); exact rfl; exact rfl)) | ((with_reducible apply tl_id); first | ((with_reducible apply tl_nil)) | ((with_reducible apply u_q); exact rfl; exact rfl; exact rfl; exact rfl)) | ((with_reducible apply gx_id); first | ((with_reducible apply v_nil)) | ((with_reducible apply v_q); exact rfl; exact rfl; exact rfl)) | ((with_reducible apply rd_id); first | (apply Rd.old; (first | (with_reducible assumption) | exact c0 | exact c1 | exact c2 | exact c3 | exact c4 | exact c5 | exact c6 | exact c7 | exact c8 | exact d0 | exact d1 | exact d2 | exact d3 | exact d4 | exact d5); first | exact List.not_mem_nil | exact m0 | exact m1 | exact m2 | exact m3 | exact m4 | exact m5 | exact m6 | exact m7 | exact m8 | exact m9)) | ((with_reducible apply t_id); first | ((with_reducible apply t_seq)) | (apply t_region; kernel_rfl) | (apply t_drawn; kernel_rfl; decide +kernel; try simp only [List.append_eq, List.cons_append, List.nil_append]) | ((with_reducible apply t_condT); exact rfl) | ((with_reducible apply t_condF); exact rfl) | ((with_reducible apply t_ret)) | ((with_reducible apply t_skip)) | ((with_reducible apply t_exit)) | ((with_reducible apply t_block)) | (apply t_rounds 8)) | with_reducible apply q_thenN | with_reducible apply q_blockN | with_reducible apply q_thenE | ((with_reducible apply q_blockE); exact rfl) | exact Rdn.zero | apply Rdn.succ | ((with_reducible apply end_ret)) | exact rvs_nil | ((with_reducible apply rvs_cons)) | ((with_reducible apply rv_tmp); exact rfl) | ((with_reducible apply tr_id); apply tr_succ))
  all_goals rfl
theorem nilF (w : World) : RdS w 4 none off0.fl.length (off0.fl.map depCells) := ⟨rfl, fun h => absurd h (by decide)⟩
theorem nilB (w : World) : RdS w 3 none off0.bk.length (off0.bk.map bkCells) := ⟨rfl, fun h => absurd h (by decide)⟩
theorem ins5_T (A : Option Addr) (c : Nat) (w : World) (hr : RdS w 1 A 5 (([20, 15, 60, 45, 30] : List Int).map inCells)) : Calls Try.prog 28 #[.agg #[.int .i64 100, .int .i64 10, .int .i64 30], .slice A 5 c] w fun e w' => ∃ v H', e = .returned v ∧ InsY [2, 4] v H' ∧ Has w ⟨[], []⟩ H' w' :=
  (inspect_T 100 10 30 A 5 c [20, 15, 60, 45, 30] w hr (by decide)).mono fun e w' ⟨v, H', h1, h2, h3⟩ => ⟨v, H', h1, by rw [insV5] at h2; exact insY insE5 h2, h3⟩
theorem play9_T (L : Option Addr) (cl : Nat) (w : World) (hL : RdS w 5 L 9 (dl9.map dealCells)) : Calls Try.prog 34 #[.agg ⟨offCells off0 none 0 none 0⟩, .slice L 9 cl] w fun e w' => ∃ v H', e = .returned v ∧ AnyP (off9, 0, 0) v H' ∧ Has w ⟨[], []⟩ H' w' := by
  rw [← play9]
  exact play_T off0 none 0 none 0 w (nilF w) (nilB w) (fun _ => ⟨rfl, rfl⟩) (fun _ => ⟨rfl, rfl⟩) (fun d hd => by cases hd) (by decide) (by decide) dl9 L 9 cl hL (by decide) (by decide)
theorem alive_calls (w : World) : Calls Try.prog 53 #[] w fun e w' => e = .returned (.bool true) ∧ Ext w w' := by
  refine enterQ (c := cx w 82) Try.func53 rfl rfl rfl rfl ?_
  refine t_cut (ι := Unit) (fun _ => []) (fun _ => []) (fun _ => True) ?_ ?_
  · repeat' (first | ((with_reducible apply oq_id); first | (apply oq_fn; exact rfl; first | exact trivial | (refine ⟨?_, ?_⟩ <;> omega) | (refine ⟨?_, ?_, ?_⟩ <;> omega) | omega | skip)) | ((with_reducible apply tl_id); first | ((with_reducible apply tl_nil)) | ((with_reducible apply u_q); exact rfl; exact rfl; exact rfl; exact rfl)) | ((with_reducible apply t_id); first | (apply t_region; kernel_rfl)))
    all_goals exact ⟨rfl, (), trivial, by (repeat (first | exact FrSub.nil | (apply FrSub.cons; exact rfl))), by (repeat (first | exact HpSub.refl _ | (apply HpSub.consE; (repeat (first | exact P0 | apply P1)); exact rfl) | exact HpSub.nil))⟩
  rintro ⟨⟩ -
  refine t_cut (ι := Nat × Nat) (fun z => [(1, .slice (some ⟨z.1, 0, none⟩) 2 z.2), (2, .int .i64 0)]) (fun z => (z.1, tiC 2, some (99, 3, z.2)) :: []) (fun _ => True) ?_ ?_
  · repeat' (first | ((with_reducible apply oq_id); first | (apply oq_fn; exact rfl; first | exact trivial | (refine ⟨?_, ?_⟩ <;> omega) | (refine ⟨?_, ?_, ?_⟩ <;> omega) | omega | skip) | ((with_reducible apply oq_call (k := 56) (hc := Try.call56)); exact rfl; exact rfl; exact fun D w1 hw1 => duty0 w1)) | ((with_reducible apply tl_id); first | ((with_reducible apply tl_nil)) | ((with_reducible apply u_s); exact rfl; exact rfl; exact rfl; (with_reducible apply os_callF (PV := ros0V) (k := 57) (hc := Try.call57)); exact rfl; exact rfl; exact fun D w1 hw1 => ros0_T w1; rintro v H' ⟨br, rfl, rfl⟩; (simp only [List.cons_append, List.nil_append])) | ((with_reducible apply u_s); exact rfl; exact rfl; exact rfl; (with_reducible apply os_callF (PV := fun v H => ∃ u, TiV u H ∧ v = .tuple #[u, .int .i64 0]) (k := 42) (hc := Try.call42)); exact rfl; exact rfl; exact fun D w1 hw1 => tiredT_T _ _ w1 (clH_rows (l := roV) (f := shCells) (x := some (br, 3)) (hw1.sub (show HpSub _ (clH 101 3 (roV.map shCells).flatten (some (br, 3))) from (by simp only [clH_some]; exact HpSub.cons P0 HpSub.nil))) (fun _ => rfl) rfl (fun h => by cases h)) (fun h => by cases h); rintro v H' ⟨u, ⟨g, cp, rfl, rfl⟩, rfl⟩; (simp only [List.cons_append, List.nil_append])) | ((with_reducible apply u_q); exact rfl; exact rfl; exact rfl; exact rfl)) | ((with_reducible apply t_id); first | (apply t_region; kernel_rfl)))
    all_goals exact ⟨by trivial, (g, cp), trivial, by (repeat (first | exact FrSub.nil | (apply FrSub.cons; exact rfl))), by (repeat (first | exact HpSub.refl _ | (apply HpSub.consE; (repeat (first | exact P0 | apply P1)); exact rfl) | exact HpSub.nil))⟩
  rintro ⟨g, cp⟩ -
  simp only
  refine t_cut (ι := Nat × Nat) (fun z => [(1, .slice (some ⟨g, 0, none⟩) 2 cp), (2, .int .i64 0), (3, .slice (some ⟨z.1, 0, none⟩) 2 z.2), (4, .int .i64 0)]) (fun z => (z.1, [.int .i64 2, .int .i64 4], some (3, 1, z.2)) :: (g, tiC 2, some (99, 3, cp)) :: []) (fun _ => True) ?_ ?_
  · repeat' (first | ((with_reducible apply oq_id); first | (apply oq_fn; exact rfl; first | exact trivial | (refine ⟨?_, ?_⟩ <;> omega) | (refine ⟨?_, ?_, ?_⟩ <;> omega) | omega | skip) | ((with_reducible apply oq_call (k := 58) (hc := Try.call58)); exact rfl; exact rfl; exact fun D w1 hw1 => care0 w1)) | ((with_reducible apply tl_id); first | ((with_reducible apply tl_nil)) | ((with_reducible apply u_s); exact rfl; exact rfl; exact rfl; (with_reducible apply os_callF (PV := fli0V) (k := 59) (hc := Try.call59)); exact rfl; exact rfl; exact fun D w1 hw1 => fli0_T w1; rintro v H' ⟨bf, rfl, rfl⟩; (simp only [List.cons_append, List.nil_append])) | ((with_reducible apply u_s); exact rfl; exact rfl; exact rfl; (with_reducible apply os_callF (PV := InsY [2, 4]) (k := 28) (hc := Try.call28)); exact rfl; exact rfl; exact fun D w1 hw1 => ins5_T _ _ w1 (in_own (l := [20, 15, 60, 45, 30]) rfl hw1 P0); rintro v H' ⟨o, ho, rfl, rfl⟩; (rcases o with _ | ⟨gi, ci⟩); (exact absurd (ho rfl) (by decide)); (simp only [planS_some, planH_some, List.cons_append, List.nil_append])) | ((with_reducible apply u_q); exact rfl; exact rfl; exact rfl; exact rfl)) | ((with_reducible apply t_id); first | (apply t_region; kernel_rfl)))
    all_goals exact ⟨by trivial, (gi, ci), trivial, by (repeat (first | exact FrSub.nil | (apply FrSub.cons; exact rfl))), by (repeat (first | exact HpSub.refl _ | (apply HpSub.consE; (repeat (first | exact P0 | apply P1)); exact rfl) | exact HpSub.nil))⟩
  rintro ⟨gi, ci⟩ -
  simp only
  refine t_cut (ι := Nat × Nat × Nat × Nat × Nat) (fun z => [(1, .slice (some ⟨g, 0, none⟩) 2 cp), (2, .int .i64 0), (3, .slice (some ⟨gi, 0, none⟩) 2 ci), (4, .int .i64 0), (5, .pointer (some ⟨z.1, 0, none⟩)), (7, .int .i64 0)]) (fun z => (z.1, offCells off9 (some ⟨z.2.1, 0, none⟩) z.2.2.1 (some ⟨z.2.2.2.1, 0, none⟩) z.2.2.2.2, some (25, 7, 1)) :: (z.2.1, (off9.fl.map depCells).flatten, some (106, 4, z.2.2.1)) :: (z.2.2.2.1, (off9.bk.map bkCells).flatten, some (71, 3, z.2.2.2.2)) :: (gi, [.int .i64 2, .int .i64 4], some (3, 1, ci)) :: (g, tiC 2, some (99, 3, cp)) :: []) (fun _ => True) ?_ ?_
  · repeat' (first | ((with_reducible apply oq_id); first | (apply oq_fn; exact rfl; first | exact trivial | (refine ⟨?_, ?_⟩ <;> omega) | (refine ⟨?_, ?_, ?_⟩ <;> omega) | omega | skip) | ((with_reducible apply oq_call (k := 60) (hc := Try.call60)); exact rfl; exact rfl; exact fun D w1 hw1 => office0 w1)) | ((with_reducible apply tl_id); first | ((with_reducible apply tl_nil)) | ((with_reducible apply u_s); exact rfl; exact rfl; exact rfl; (with_reducible apply os_callF (PV := dea0V) (k := 61) (hc := Try.call61)); exact rfl; exact rfl; exact fun D w1 hw1 => dea0_T w1; rintro v H' ⟨bd, rfl, rfl⟩; (simp only [List.cons_append, List.nil_append])) | ((with_reducible apply u_s); exact rfl; exact rfl; exact rfl; (with_reducible apply os_callF (PV := AnyP (off9, 0, 0)) (k := 34) (hc := Try.call34)); exact rfl; exact rfl; exact fun D w1 hw1 => play9_T _ _ w1 (clH_rows (l := dl9) (f := dealCells) (x := some (bd, 9)) (hw1.sub (show HpSub _ (clH 63 5 (dl9.map dealCells).flatten (some (bd, 9))) from (by simp only [clH_some]; exact HpSub.consE P0 (by rfl) HpSub.nil))) (fun _ => rfl) rfl (fun h => by cases h)); rintro v H' ⟨x, y, hx, hy, rfl, rfl⟩; (rcases x with _ | ⟨gF, cF⟩); (exact absurd (hx rfl) (by decide)); (rcases y with _ | ⟨gB, cB⟩); (exact absurd (hy rfl) (by decide)); (simp only [flH, bkH, clH_some, clA_some, clC_some, List.cons_append, List.nil_append])) | ((with_reducible apply u_q); exact rfl; exact rfl; exact rfl; exact rfl) | ((with_reducible apply u_s0); exact rfl; exact rfl) | ((with_reducible apply u_s); exact rfl; exact rfl; exact rfl)) | ((with_reducible apply os_id); first | ((with_reducible apply os_x); exact rfl) | ((with_reducible apply os_storeAgg); exact rfl; exact rfl; exact rfl; exact rfl; exact rfl)) | ((with_reducible apply ox_id); first | ((with_reducible apply ox_alloc); exact rfl; intro _)) | ((with_reducible apply t_id); first | (apply t_region; kernel_rfl)) | exact P0 | ((with_reducible apply Norm.nil); exact rfl) | ((with_reducible apply Norm.cons); exact rfl) | exact Nat.le_of_ble_eq_true rfl)
    all_goals exact ⟨by trivial, (_, gF, cF, gB, cB), trivial, by (repeat (first | exact FrSub.nil | (apply FrSub.cons; exact rfl))), by (repeat (first | exact HpSub.refl _ | (apply HpSub.consE; (repeat (first | exact P0 | apply P1)); exact rfl) | exact HpSub.nil))⟩
  rintro ⟨b5, gF, cF, gB, cB⟩ -
  simp only
  repeat' (first | ((with_reducible apply oq_id); first | ((with_reducible apply oq_eqlT); exact rfl; exact rfl; exact rfl) | (apply oq_fn; exact rfl; first | exact trivial | (refine ⟨?_, ?_⟩ <;> omega) | (refine ⟨?_, ?_, ?_⟩ <;> omega) | omega | skip) | ((with_reducible apply oq_loadAgg); exact rfl; exact rfl) | ((with_reducible apply oq_call (k := 22) (hc := Try.call22)); exact rfl; exact rfl; exact fun D w1 hw1 => (purse9 ▸ opurse_T off9 (some ⟨gF, 0, none⟩) cF (some ⟨gB, 0, none⟩) cB w1 (clH_rows (l := off9.fl) (f := depCells) (x := some (gF, cF)) (hw1.sub (show HpSub _ (clH 106 4 (off9.fl.map depCells).flatten (some (gF, cF))) from (by simp only [clH_some]; (repeat (first | exact HpSub.refl _ | (apply HpSub.consE; (repeat (first | exact P0 | apply P1)); exact rfl) | apply HpSub.skipX | apply HpSub.skipX | exact HpSub.nil))))) (fun _ => rfl) rfl (fun h => by cases h)) (clH_rows (l := off9.bk) (f := bkCells) (x := some (gB, cB)) (hw1.sub (show HpSub _ (clH 71 3 (off9.bk.map bkCells).flatten (some (gB, cB))) from (by simp only [clH_some]; (repeat (first | exact HpSub.refl _ | (apply HpSub.consE; (repeat (first | exact P0 | apply P1)); exact rfl) | apply HpSub.skipX | apply HpSub.skipX | exact HpSub.nil))))) (fun _ => rfl) rfl (fun h => by cases h)) (fun h => by cases h) (fun h => by cases h) (by decide) (by decide) (by decide))) | ((with_reducible apply oq_call (k := 48) (hc := Try.call48)); exact rfl; exact rfl; exact fun D w1 hw1 => sameTi _ _ _ _ w1 (hw1.cellAt (by (repeat (first | exact P0 | apply P1))) rfl) (hw1.cellAt (by (repeat (first | exact P0 | apply P1))) rfl) (hw1.cellAt (by (repeat (first | exact P0 | apply P1))) rfl) (hw1.cellAt (by (repeat (first | exact P0 | apply P1))) rfl) (hw1.cellAt (by (repeat (first | exact P0 | apply P1))) rfl) (hw1.cellAt (by (repeat (first | exact P0 | apply P1))) rfl) (hw1.cellAt (by (repeat (first | exact P0 | apply P1))) rfl) (hw1.cellAt (by (repeat (first | exact P0 | apply P1))) rfl) (hw1.cellAt (by (repeat (first | exact P0 | apply P1))) rfl) (hw1.cellAt (by (repeat (first | exact P0 | apply P1))) rfl) (hw1.cellAt (by (repeat (first | exact P0 | apply P1))) rfl) (hw1.cellAt (by (repeat (first | exact P0 | apply P1))) rfl)) | ((with_reducible apply oq_call (k := 32) (hc := Try.call32)); exact rfl; exact rfl; exact fun D w1 hw1 => sameInts_calls _ _ 2 _ 2 _ [2, 4] [2, 4] true (by decide) w1 (in_own (l := [2, 4]) rfl hw1 (by (repeat (first | exact P0 | apply P1)))) (in_own (l := [2, 4]) rfl hw1 (by (repeat (first | exact P0 | apply P1)))) (by decide) (by decide)) | ((with_reducible apply oq_build); exact rfl; exact rfl; exact rfl)) | ((with_reducible apply tl_id); first | ((with_reducible apply tl_nil)) | ((with_reducible apply u_q); exact rfl; exact rfl; exact rfl; exact rfl) | ((with_reducible apply u_s); exact rfl; exact rfl; exact rfl)) | ((with_reducible apply os_id); first | ((with_reducible apply os_x); exact rfl)) | ((with_reducible apply ox_id); first | ((with_reducible apply ox_buildSlice1); exact rfl; exact rfl; exact rfl; exact rfl; exact rfl; exact rfl; intro _) | ((with_reducible apply ox_buildSlice); exact rfl; exact rfl; exact rfl; exact rfl)) | ((with_reducible apply rd_id); first | (apply Rd.own; (repeat (first | exact P0 | apply P1)); exact rfl; done)) | ((with_reducible apply t_id); first | ((with_reducible apply t_seq)) | (apply t_region; kernel_rfl) | ((with_reducible apply t_ret))) | with_reducible apply q_thenN | exact Rdn.zero | apply Rdn.succ | ((with_reducible apply Norm.nil); exact rfl) | ((with_reducible apply Norm.cons); exact rfl) | ((with_reducible apply end_ret)) | exact rvs_nil | ((with_reducible apply rvs_cons)) | ((with_reducible apply rv_tmp); exact rfl) | exact (rfl : (_ : Bool) = true) | (intro _; with_reducible apply tl_id))
  all_goals rfl
end Go.Proofs.Ytmlmgipngbndgaa
namespace Go.Proofs.Ytmlmgipngbndgaa
open Go.RowKit
attribute [local irreducible] OQ OS OX Rd T TL GX GL AL AI RV wpG SAny Calls
set_option maxRecDepth 100000
set_option maxHeartbeats 2000000
set_option linter.unusedVariables false
set_option linter.unusedSimpArgs false
theorem nilS {n : Nat} {x : Option (Nat × Nat)} (hx : x = none → n = 0) : clA x = none → n = 0 ∧ clC x = 0 := by
  rcases x with _ | ⟨g, c⟩
  · intro _; exact ⟨hx rfl, rfl⟩
  · intro h; cases h
theorem more_err {d : Du} {l : List Sh} {x : Sh} (h : ¬ (tiE d l = 0 ∧ tiE d (l ++ [x]) = 0)) : tiE d l = 0 ∨ tiE d (l ++ [x]) = tiE d l ∨ tiE d (l ++ [x]) = 4 := by
  unfold tiE rosE at *
  simp only [List.length_append, List.length_cons, List.length_nil] at *
  by_cases h1 : duE d = 0
  · rw [if_pos h1, if_pos h1] at *
    by_cases h2 : 40 < l.length
    · rw [if_pos h2, if_pos (show 40 < l.length + (0 + 1) by omega)]; omega
    · rw [if_neg h2]
      by_cases h3 : Ros l
      · left; rw [if_pos h3]
      · rw [if_neg h3]
        by_cases h4 : 40 < l.length + (0 + 1)
        · rw [if_pos h4]; omega
        · rw [if_neg h4, if_neg fun h => h3 h.sub]; omega
  · rw [if_neg h1, if_neg h1]; omega
theorem more_in {d : Du} {l : List Sh} {x : Sh} (h1 : tiE d l = 0) (h2 : tiE d (l ++ [x]) = 0) {y : Ti} (hy : y ∈ tiL d l) : y ∈ tiL d (l ++ [x]) := by
  have r1 := (tiE_ok h1).2.2
  have r2 := (tiE_ok h2).2.2
  unfold tiL at *
  rw [if_pos h1] at hy
  rw [if_pos h2]
  exact (mem_tiV r2).2 (((mem_tiV r1).1 hy).more [x])
theorem tiL_perm {d : Du} {l m : List Sh} (h : l.Perm m) : tiL d l = tiL d m := by
  have e := tiE_perm (d := d) h
  unfold tiL
  rw [e]
  by_cases h0 : tiE d m = 0
  · rw [if_pos h0, if_pos h0]
    rw [← e] at h0
    exact tiV_perm h (tiE_ok h0).2.2
  · rw [if_neg h0, if_neg h0]
theorem tiL_len (d : Du) (l : List Sh) : (tiL d l).length ≤ 3 * l.length := by
  unfold tiL
  split
  · exact tiTo_len d (srtS l) l.length
  · exact Nat.zero_le _
theorem ti_at {l : List Ti} {i : Nat} {x : Ti} (h : l[i]? = some x) : (tiB l)[0 + i * 3]? = some (.int .i64 x.kind) ∧ (tiB l)[0 + i * 3 + 1]? = some (.int .i64 x.who) ∧ (tiB l)[0 + i * 3 + 1 + 1]? = some (.int .i64 x.at_) := by
  rw [Nat.zero_add]
  exact ⟨flat_at (f := tiCells) (s := 3) (fun _ => rfl) h (j := 0) rfl, flat_at (f := tiCells) (s := 3) (fun _ => rfl) h (j := 1) rfl, flat_at (f := tiCells) (s := 3) (fun _ => rfl) h (j := 2) rfl⟩
section
variable {w : World} {N : Nat} {F : Fr} {H : Hp} {M : List Nat} {d : Option Tmp} {ty t' : TypeId} {pos : String} {af : Array Edge} {g : Option (Nat × Bool)} {x y : Operand} {a b e a' b' e' : Int}
theorem oq_eq99T (hx : ev F x = some (.agg ⟨[.int .i64 a, .int .i64 b, .int .i64 e]⟩)) (hy : ev F y = some (.agg ⟨[.int .i64 a, .int .i64 b, .int .i64 e]⟩)) : OQ (cxM M w N) ⟨d, .binOp .eql 99 x y t', ty, pos, af, g⟩ F H (.bool true) := (oq_eq99 hx hy).as (by simp)
theorem oq_eq99F (hx : ev F x = some (.agg ⟨[.int .i64 a, .int .i64 b, .int .i64 e]⟩)) (hy : ev F y = some (.agg ⟨[.int .i64 a', .int .i64 b', .int .i64 e']⟩)) (h : ¬ (a = a' ∧ b = b' ∧ e = e')) : OQ (cxM M w N) ⟨d, .binOp .eql 99 x y t', ty, pos, af, g⟩ F H (.bool false) := (oq_eq99 hx hy).as (by simp only [h, decide_false])
end
theorem crewMore_T (d : Du) (A : Option Addr) (n c : Nat) (l : List Sh) (x : Sh) (w : World) (hr : RdS w 3 A n (l.map shCells)) (hA : A = none → n = 0 ∧ c = 0) : Calls Try.prog 10 #[.agg #[.int .i64 d.most, .int .i64 d.rest, .int .i64 d.win, .int .i64 d.sum], .slice A n c, .agg #[.int .i64 x.who, .int .i64 x.fr, .int .i64 x.to]] w fun e w' => e = .returned (.bool true) ∧ Ext w w' := by
  have hl := hr.len
  simp only [List.length_map] at hl
  refine enterQ (c := cx w 148) Try.func10 rfl rfl rfl rfl ?_
  refine t_cut (ι := Nat × Nat) (fun z => [(1, .slice A n c), (3, .pointer (some ⟨z.1, 0, none⟩)), (5, .pointer (some ⟨z.2, 0, none⟩))]) (fun z => [(z.2, [.int .i64 x.who, .int .i64 x.fr, .int .i64 x.to], some (101, 3, 1)), (z.1, [.int .i64 d.most, .int .i64 d.rest, .int .i64 d.win, .int .i64 d.sum], some (74, 4, 1))]) (fun _ => True) ?_ ?_
  · repeat' (first | ((with_reducible apply oq_id); first | (apply oq_fn; exact rfl; first | exact trivial | (refine ⟨?_, ?_⟩ <;> omega) | (refine ⟨?_, ?_, ?_⟩ <;> omega) | omega | skip)) | ((with_reducible apply tl_id); first | ((with_reducible apply tl_nil)) | ((with_reducible apply u_q); exact rfl; exact rfl; exact rfl; exact rfl) | ((with_reducible apply u_s); exact rfl; exact rfl; exact rfl)) | ((with_reducible apply os_id); first | ((with_reducible apply os_x); exact rfl)) | ((with_reducible apply ox_id); first | ((with_reducible apply ox_boxAgg); exact rfl; intro _)) | ((with_reducible apply t_id); first | (apply t_region; kernel_rfl)))
    all_goals exact ⟨rfl, (_, _), trivial, by (repeat (first | exact FrSub.nil | (apply FrSub.cons; exact rfl))), by (repeat (first | exact HpSub.refl _ | (apply HpSub.consE; (repeat (first | exact P0 | apply P1 | apply PA)); exact rfl) | apply hp_appC | apply HpSub.skipX | exact hp_left | apply hp_skipApp | exact HpSub.nil))⟩
  rintro ⟨b3, b5⟩ -
  try dsimp only
  refine t_cut (ι := Unit) (fun _ => [(1, .slice A n c), (3, .pointer (some ⟨b3, 0, none⟩)), (5, .pointer (some ⟨b5, 0, none⟩)), (7, .bool true)]) (fun _ => [(b5, [.int .i64 x.who, .int .i64 x.fr, .int .i64 x.to], some (101, 3, 1)), (b3, [.int .i64 d.most, .int .i64 d.rest, .int .i64 d.win, .int .i64 d.sum], some (74, 4, 1))]) (fun _ => True) ?_ ?_
  · repeat' (first | ((with_reducible apply oq_id); first | (apply oq_fn; exact rfl; first | exact trivial | (refine ⟨?_, ?_⟩ <;> omega) | (refine ⟨?_, ?_, ?_⟩ <;> omega) | omega | skip) | ((with_reducible apply oq_call (k := 53) (hc := Try.call53)); exact rfl; exact rfl; exact fun D w1 hw1 => alive_calls w1)) | ((with_reducible apply tl_id); first | ((with_reducible apply tl_nil)) | ((with_reducible apply u_q); exact rfl; exact rfl; exact rfl; exact rfl)) | ((with_reducible apply t_id); first | (apply t_region; kernel_rfl)))
    all_goals exact ⟨rfl, (), trivial, by (repeat (first | exact FrSub.nil | (apply FrSub.cons; exact rfl))), by (repeat (first | exact HpSub.refl _ | (apply HpSub.consE; (repeat (first | exact P0 | apply P1 | apply PA)); exact rfl) | apply hp_appC | apply HpSub.skipX | exact hp_left | apply hp_skipApp | exact HpSub.nil))⟩
  rintro ⟨⟩ -
  by_cases hg : 49 < n
  · repeat' (first | ((with_reducible apply oq_id); first | ((with_reducible apply oq_gtrT); exact rfl; exact rfl; omega) | (apply oq_fn; exact rfl; first | exact trivial | (refine ⟨?_, ?_⟩ <;> omega) | (refine ⟨?_, ?_, ?_⟩ <;> omega) | omega | skip)) | ((with_reducible apply tl_id); first | ((with_reducible apply tl_nil)) | ((with_reducible apply u_q); exact rfl; exact rfl; exact rfl; exact rfl) | ((with_reducible apply u_skip); exact rfl; exact rfl; exact rfl)) | ((with_reducible apply t_id); first | ((with_reducible apply t_seq)) | (apply t_region; kernel_rfl) | ((with_reducible apply t_condT); exact rfl) | ((with_reducible apply t_ret))) | with_reducible apply q_thenN | with_reducible apply q_thenR | ((with_reducible apply end_ret)) | exact rvs_nil | ((with_reducible apply rvs_cons)) | ((with_reducible apply rv_tmp); exact rfl))
    all_goals rfl
  refine t_cut (ι := Unit) (fun _ => [(1, .slice A n c), (3, .pointer (some ⟨b3, 0, none⟩)), (5, .pointer (some ⟨b5, 0, none⟩)), (7, .bool true)]) (fun _ => [(b5, [.int .i64 x.who, .int .i64 x.fr, .int .i64 x.to], some (101, 3, 1)), (b3, [.int .i64 d.most, .int .i64 d.rest, .int .i64 d.win, .int .i64 d.sum], some (74, 4, 1))]) (fun _ => True) ?_ ?_
  · repeat' (first | ((with_reducible apply oq_id); first | ((with_reducible apply oq_gtrF); exact rfl; exact rfl; omega) | (apply oq_fn; exact rfl; first | exact trivial | (refine ⟨?_, ?_⟩ <;> omega) | (refine ⟨?_, ?_, ?_⟩ <;> omega) | omega | skip)) | ((with_reducible apply tl_id); first | ((with_reducible apply tl_nil)) | ((with_reducible apply u_q); exact rfl; exact rfl; exact rfl; exact rfl)) | ((with_reducible apply t_id); first | ((with_reducible apply t_seq)) | (apply t_region; kernel_rfl) | ((with_reducible apply t_condF); exact rfl) | ((with_reducible apply t_skip))) | with_reducible apply q_thenN)
    all_goals exact ⟨rfl, (), trivial, by (repeat (first | exact FrSub.nil | (apply FrSub.cons; exact rfl))), by (repeat (first | exact HpSub.refl _ | (apply HpSub.consE; (repeat (first | exact P0 | apply P1 | apply PA)); exact rfl) | apply hp_appC | apply HpSub.skipX | exact hp_left | apply hp_skipApp | exact HpSub.nil))⟩
  rintro ⟨⟩ -
  obtain ⟨E, hE⟩ : ∃ E, tiE d l = E := ⟨_, rfl⟩
  obtain ⟨T, hT⟩ : ∃ T, tiL d l = T := ⟨_, rfl⟩
  have hEr : tiE d l.reverse = E := by rw [tiE_perm (List.reverse_perm l), hE]
  have hTr : tiL d l.reverse = T := by rw [tiL_perm (List.reverse_perm l), hT]
  obtain ⟨E3, hE3⟩ : ∃ E, tiE d (l ++ [x]) = E := ⟨_, rfl⟩
  obtain ⟨T3, hT3⟩ : ∃ T, tiL d (l ++ [x]) = T := ⟨_, rfl⟩
  have hTl : T.length ≤ 3 * n := by rw [← hT, ← hl]; exact tiL_len d l
  have hT3l : T3.length ≤ 3 * (n + 1) := by
    rw [← hT3]
    have := tiL_len d (l ++ [x])
    simp only [List.length_append, List.length_cons, List.length_nil] at this
    omega
  refine t_cut (ι := Option (Nat × Nat)) (fun x1 => [(1, .slice A n c), (3, .pointer (some ⟨b3, 0, none⟩)), (5, .pointer (some ⟨b5, 0, none⟩)), (7, .bool true), (8, .slice (clA x1) T.length (clC x1)), (9, .int .i64 E)]) (fun x1 => clH 99 3 (tiB T) x1 ++ [(b5, [.int .i64 x.who, .int .i64 x.fr, .int .i64 x.to], some (101, 3, 1)), (b3, [.int .i64 d.most, .int .i64 d.rest, .int .i64 d.win, .int .i64 d.sum], some (74, 4, 1))]) (fun x1 => x1 = none → T.length = 0) ?_ ?_
  · repeat' (first | ((with_reducible apply oq_id); first | (apply oq_fn; exact rfl; first | exact trivial | (refine ⟨?_, ?_⟩ <;> omega) | (refine ⟨?_, ?_, ?_⟩ <;> omega) | omega | skip) | ((with_reducible apply oq_loadAgg); exact rfl; exact rfl)) | ((with_reducible apply tl_id); first | ((with_reducible apply tl_nil)) | ((with_reducible apply u_s); exact rfl; exact rfl; exact rfl; (with_reducible apply os_callF (PV := TiE E T) (k := 42) (hc := Try.call42)); exact rfl; exact rfl; exact fun D w1 hw1 => (by rw [← hE, ← hT]; exact tiredE_T d A n c l w1 (hr.ext hw1.ext.ext) hA (by omega)); rintro v H' ⟨x0, hx0, rfl, rfl⟩; (try simp only [List.append_nil])) | ((with_reducible apply u_q); exact rfl; exact rfl; exact rfl; exact rfl)) | ((with_reducible apply rd_id); first | (apply Rd.own; (repeat (first | exact P0 | apply P1 | apply PA)); exact rfl; done)) | ((with_reducible apply t_id); first | (apply t_region; kernel_rfl)) | exact Rdn.zero | apply Rdn.succ)
    all_goals exact ⟨by trivial, x0, hx0, by (repeat (first | exact FrSub.nil | (apply FrSub.cons; exact rfl))), by (repeat (first | exact HpSub.refl _ | (apply HpSub.consE; (repeat (first | exact P0 | apply P1 | apply PA)); exact rfl) | apply hp_appC | apply HpSub.skipX | exact hp_left | apply hp_skipApp | exact HpSub.nil))⟩
  rintro x1 hx1
  refine t_cut (ι := Unit) (fun _ => [(1, .slice A n c), (3, .pointer (some ⟨b3, 0, none⟩)), (5, .pointer (some ⟨b5, 0, none⟩)), (7, .bool true), (8, .slice (clA x1) T.length (clC x1)), (9, .int .i64 E), (10, .slice none 0 0)]) (fun _ => clH 99 3 (tiB T) x1 ++ [(b5, [.int .i64 x.who, .int .i64 x.fr, .int .i64 x.to], some (101, 3, 1)), (b3, [.int .i64 d.most, .int .i64 d.rest, .int .i64 d.win, .int .i64 d.sum], some (74, 4, 1))]) (fun _ => True) ?_ ?_
  · repeat' (first | ((with_reducible apply oq_id); first | (apply oq_fn; exact rfl; first | exact trivial | (refine ⟨?_, ?_⟩ <;> omega) | (refine ⟨?_, ?_, ?_⟩ <;> omega) | omega | skip)) | ((with_reducible apply tl_id); first | ((with_reducible apply tl_nil)) | ((with_reducible apply u_q); exact rfl; exact rfl; exact rfl; exact rfl)) | ((with_reducible apply t_id); first | (apply t_region; kernel_rfl)))
    all_goals exact ⟨rfl, (), trivial, by (repeat (first | exact FrSub.nil | (apply FrSub.cons; exact rfl))), by (repeat (first | exact HpSub.refl _ | (apply HpSub.consE; (repeat (first | exact P0 | apply P1 | apply PA)); exact rfl) | apply hp_appC | apply HpSub.skipX | exact hp_left | apply hp_skipApp | exact HpSub.nil))⟩
  rintro ⟨⟩ -
  refine t_cut (ι := Option (Nat × Nat)) (fun o => [(1, .slice A n c), (3, .pointer (some ⟨b3, 0, none⟩)), (5, .pointer (some ⟨b5, 0, none⟩)), (7, .bool true), (8, .slice (clA x1) T.length (clC x1)), (9, .int .i64 E), (10, .slice (clA o) n (clC o))]) (fun o => clH 101 3 (shB l.reverse) o ++ (clH 99 3 (tiB T) x1 ++ [(b5, [.int .i64 x.who, .int .i64 x.fr, .int .i64 x.to], some (101, 3, 1)), (b3, [.int .i64 d.most, .int .i64 d.rest, .int .i64 d.win, .int .i64 d.sum], some (74, 4, 1))])) (fun o => o = none → n = 0) ?_ ?_
  · repeat' (first | ((with_reducible apply oq_id); first | (apply oq_fn; exact rfl; first | exact trivial | (refine ⟨?_, ?_⟩ <;> omega) | (refine ⟨?_, ?_, ?_⟩ <;> omega) | omega | skip)) | ((with_reducible apply tl_id); first | ((with_reducible apply tl_nil)) | ((with_reducible apply u_q); exact rfl; exact rfl; exact rfl; exact rfl)) | ((with_reducible apply t_id); first | ((with_reducible apply t_seq)) | (apply t_region; kernel_rfl) | ((with_reducible apply t_block))) | with_reducible apply q_thenN)
    apply t_loopK (GH := []) (ι := Nat × Option (Nat × Nat)) [1, 3, 5, 7, 8, 9, 37] (fun z => [(38, .int .i64 (z.1 : Nat)), (10, .slice (clA z.2) z.1 (clC z.2))]) (fun z => clH 101 3 (shB (l.reverse.take z.1)) z.2 ++ (clH 99 3 (tiB T) x1 ++ [(b5, [.int .i64 x.who, .int .i64 x.fr, .int .i64 x.to], some (101, 3, 1)), (b3, [.int .i64 d.most, .int .i64 d.rest, .int .i64 d.win, .int .i64 d.sum], some (74, 4, 1))])) (fun z => z.1 ≤ n ∧ (z.2 = none → z.1 = 0)) (fun z => n - z.1) ((0, none))
    (repeat (first | exact KeepF.nil | (apply KeepF.cons; exact rfl) | apply KeepF.skip))
    (repeat (first | exact FrSub.nil | (apply FrSub.cons; exact rfl)))
    ((try simp only [List.append_nil]); (repeat (first | exact HpSub.refl _ | (apply HpSub.consE; (repeat (first | exact P0 | apply P1 | apply PA)); exact rfl) | apply hp_appC | apply HpSub.skipX | exact hp_left | apply hp_skipApp | exact HpSub.nil)))
    · exact ⟨Nat.zero_le _, fun _ => rfl⟩
    rintro ⟨i, o⟩ ⟨hi, ho⟩
    simp only at hi ho
    simp only [List.append_nil]
    by_cases hlt : i < n
    · obtain ⟨b, o', y, hAe, _, hy, c0, c1, c2⟩ := sh_read hr (show n - 1 - i < n by omega)
      subst hAe
      have hrt : l.reverse.take (i + 1) = l.reverse.take i ++ [y] := by
        rw [List.take_add_one, List.getElem?_reverse (by omega), show l.length - 1 - i = n - 1 - i by omega, hy]; rfl
      have hrl : (l.reverse.take i).length = i := by simp; omega
      obtain ⟨R, hR⟩ : ∃ R, l.reverse.take i = R := ⟨_, rfl⟩
      rw [hR] at hrt hrl ⊢
      have hfl : (shB R).length = i * 3 := by rw [sh_flat_len, hrl]
      rcases o with _ | ⟨go, co⟩
      · obtain rfl := ho rfl
        obtain rfl := List.length_eq_zero_iff.1 hrl
        simp only [clA, clC, clH, List.nil_append]
        repeat' (first | ((with_reducible apply oq_id); first | ((with_reducible apply oq_subE (k := ((n - 1 - 0 : Nat) : Int))); exact rfl; exact rfl; omega) | (focus ((with_reducible apply oq_indexAddrN); exact rfl; exact rfl; exact rfl; exact rfl; omega)) | ((with_reducible apply oq_lssT); exact rfl; exact rfl; omega) | (apply oq_fn; exact rfl; first | exact trivial | (refine ⟨?_, ?_⟩ <;> omega) | (refine ⟨?_, ?_, ?_⟩ <;> omega) | omega | skip) | ((with_reducible apply oq_loadAgg); exact rfl; exact rfl)) | ((with_reducible apply tl_id); first | ((with_reducible apply tl_nil)) | ((with_reducible apply u_q); exact rfl; exact rfl; exact rfl; exact rfl) | ((with_reducible apply u_s); exact rfl; exact rfl; exact rfl)) | ((with_reducible apply os_id); first | ((with_reducible apply os_x); exact rfl) | ((with_reducible apply os_appendNil (hk := app_ok75)); exact rfl; exact rfl)) | ((with_reducible apply ox_id); first | ((with_reducible apply ox_buildSlice); exact rfl; exact rfl; exact rfl; exact rfl)) | ((with_reducible apply rd_id); first | (apply Rd.old; (first | exact c0 | exact c1 | exact c2); exact List.not_mem_nil) | (apply Rd.own; (repeat (first | exact P0 | apply P1 | apply PA)); exact rfl; done)) | ((with_reducible apply t_id); first | ((with_reducible apply t_seq)) | (apply t_region; kernel_rfl) | ((with_reducible apply t_condT); exact rfl) | ((with_reducible apply t_skip)) | ((with_reducible apply t_block))) | with_reducible apply q_thenN | with_reducible apply q_blockN | exact Rdn.zero | apply Rdn.succ | ((with_reducible apply Norm.nil); exact rfl) | ((with_reducible apply Norm.cons); exact rfl) | (intro gN cN; with_reducible apply tl_id) | exact Nat.le_of_ble_eq_true rfl | exact (rfl : (_ : Bool) = true) | (intro _; with_reducible apply tl_id))
        all_goals (refine ⟨(1, some (gN, cN)), ⟨(by simp only; omega), fun h => by cases h⟩, (by simp only; omega), ?_, ?_⟩)
        all_goals (simp only [hrt])
        all_goals first
          | ((try simp only [List.cons_append, List.nil_append]); (repeat (first | exact FrSub.nil | (apply FrSub.cons; exact rfl) | (apply FrSub.consE; exact rfl; (focus (simp; done))))); done)
          | ((try simp only [List.cons_append, List.nil_append]); (repeat (first | exact HpSub.refl _ | (apply HpSub.consE; (repeat (first | exact P0 | apply P1 | apply PA)); first | exact rfl | (focus (simp [shB, shCells]; done))) | apply hp_appC | apply HpSub.skipX | exact hp_left | apply hp_skipApp | exact HpSub.nil)); done)
      · simp only [clA, clC, clH, List.cons_append, List.nil_append]
        repeat' (first | ((with_reducible apply oq_id); first | ((with_reducible apply oq_subE (k := ((n - 1 - i : Nat) : Int))); exact rfl; exact rfl; omega) | ((with_reducible apply oq_subE (k := ((n - 1 : Nat) : Int))); exact rfl; exact rfl; omega) | (focus ((with_reducible apply oq_indexAddrN); exact rfl; exact rfl; exact rfl; exact rfl; omega)) | ((with_reducible apply oq_lssT); exact rfl; exact rfl; omega) | (apply oq_fn; exact rfl; first | exact trivial | (refine ⟨?_, ?_⟩ <;> omega) | (refine ⟨?_, ?_, ?_⟩ <;> omega) | omega | skip) | ((with_reducible apply oq_loadAgg); exact rfl; exact rfl)) | ((with_reducible apply tl_id); first | ((with_reducible apply tl_nil)) | ((with_reducible apply u_q); exact rfl; exact rfl; exact rfl; exact rfl) | ((with_reducible apply u_s); exact rfl; exact rfl; exact rfl)) | ((with_reducible apply os_id); first | ((with_reducible apply os_x); exact rfl) | ((with_reducible apply os_append (hk := app_ok75)); exact rfl; exact rfl; (repeat (first | exact P0 | apply P1 | apply PA)))) | ((with_reducible apply ox_id); first | ((with_reducible apply ox_buildSlice); exact rfl; exact rfl; exact rfl; exact rfl)) | ((with_reducible apply rd_id); first | (apply Rd.old; (first | exact c0 | exact c1 | exact c2); exact List.not_mem_nil) | (apply Rd.own; (repeat (first | exact P0 | apply P1 | apply PA)); exact rfl; done)) | ((with_reducible apply t_id); first | ((with_reducible apply t_seq)) | (apply t_region; kernel_rfl) | ((with_reducible apply t_condT); exact rfl) | ((with_reducible apply t_skip)) | ((with_reducible apply t_block))) | with_reducible apply q_thenN | with_reducible apply q_blockN | exact Rdn.zero | apply Rdn.succ | ((with_reducible apply Norm.nil); exact rfl) | ((with_reducible apply Norm.cons); exact rfl) | exact hfl | (intro gN cN; with_reducible apply tl_id) | exact Nat.le_of_ble_eq_true rfl | exact (rfl : (_ : Bool) = true) | omega | (intro _; with_reducible apply tl_id))
        all_goals (refine ⟨(i + 1, some (gN, cN)), ⟨(by simp only; omega), fun h => by cases h⟩, (by simp only; omega), ?_, ?_⟩)
        all_goals (simp only [hrt])
        all_goals first
          | ((try simp only [List.cons_append, List.nil_append]); (repeat (first | exact FrSub.nil | (apply FrSub.cons; exact rfl) | (apply FrSub.consE; exact rfl; (focus (simp; done))))); done)
          | ((try simp only [List.cons_append, List.nil_append]); (repeat (first | exact HpSub.refl _ | (apply HpSub.consE; (repeat (first | exact P0 | apply P1 | apply PA)); first | exact rfl | (focus (simp [shB, shCells]; done))) | apply hp_appC | apply HpSub.skipX | exact hp_left | apply hp_skipApp | exact HpSub.nil)); done)
    · obtain rfl : i = n := by omega
      rw [List.take_of_length_le (by simp; omega)]
      repeat' (first | ((with_reducible apply oq_id); first | ((with_reducible apply oq_lssF); exact rfl; exact rfl; omega)) | ((with_reducible apply tl_id); first | ((with_reducible apply tl_nil)) | ((with_reducible apply u_q); exact rfl; exact rfl; exact rfl; exact rfl)) | ((with_reducible apply t_id); first | ((with_reducible apply t_seq)) | (apply t_region; kernel_rfl) | ((with_reducible apply t_condF); exact rfl) | ((with_reducible apply t_exit))) | with_reducible apply q_thenN | with_reducible apply q_thenE | ((with_reducible apply q_blockE); exact rfl))
      all_goals exact ⟨rfl, o, ho, by (repeat (first | exact FrSub.nil | (apply FrSub.cons; exact rfl))), by (repeat (first | exact HpSub.refl _ | (apply HpSub.consE; (repeat (first | exact P0 | apply P1 | apply PA)); exact rfl) | apply hp_appC | apply HpSub.skipX | exact hp_left | apply hp_skipApp | exact HpSub.nil))⟩
  rintro o ho
  try dsimp only
  refine t_cut (ι := Option (Nat × Nat)) (fun x2 => [(1, .slice A n c), (3, .pointer (some ⟨b3, 0, none⟩)), (5, .pointer (some ⟨b5, 0, none⟩)), (7, .bool true), (8, .slice (clA x1) T.length (clC x1)), (9, .int .i64 E), (12, .slice (clA x2) T.length (clC x2)), (13, .int .i64 E)]) (fun x2 => clH 99 3 (tiB T) x2 ++ (clH 99 3 (tiB T) x1 ++ [(b5, [.int .i64 x.who, .int .i64 x.fr, .int .i64 x.to], some (101, 3, 1)), (b3, [.int .i64 d.most, .int .i64 d.rest, .int .i64 d.win, .int .i64 d.sum], some (74, 4, 1))])) (fun x2 => x2 = none → T.length = 0) ?_ ?_
  · repeat' (first | ((with_reducible apply oq_id); first | (apply oq_fn; exact rfl; first | exact trivial | (refine ⟨?_, ?_⟩ <;> omega) | (refine ⟨?_, ?_, ?_⟩ <;> omega) | omega | skip) | ((with_reducible apply oq_loadAgg); exact rfl; exact rfl)) | ((with_reducible apply tl_id); first | ((with_reducible apply tl_nil)) | ((with_reducible apply u_s); exact rfl; exact rfl; exact rfl; (with_reducible apply os_callF (PV := TiE E T) (k := 42) (hc := Try.call42)); exact rfl; exact rfl; exact fun D w1 hw1 => (by rw [← hEr, ← hTr]; exact tiredE_T d (clA o) n (clC o) l.reverse w1 (clH_rows (x := o) (hw1.sub (show HpSub _ (clH 101 3 (l.reverse.map shCells).flatten o) from (by (repeat (first | exact HpSub.refl _ | exact hp_left | (apply HpSub.skipX) | apply hp_skipApp))))) (fun _ => rfl) (by rw [List.length_reverse]; exact hl) ho) (nilS ho) (by omega)); rintro v H' ⟨x0, hx0, rfl, rfl⟩; (try simp only [List.append_nil])) | ((with_reducible apply u_q); exact rfl; exact rfl; exact rfl; exact rfl)) | ((with_reducible apply rd_id); first | (apply Rd.own; (repeat (first | exact P0 | apply P1 | apply PA)); exact rfl; done)) | ((with_reducible apply t_id); first | (apply t_region; kernel_rfl)) | exact Rdn.zero | apply Rdn.succ)
    all_goals exact ⟨by trivial, x0, hx0, by (repeat (first | exact FrSub.nil | (apply FrSub.cons; exact rfl))), by (repeat (first | exact HpSub.refl _ | (apply HpSub.consE; (repeat (first | exact P0 | apply P1 | apply PA)); exact rfl) | apply hp_appC | apply HpSub.skipX | exact hp_left | apply hp_skipApp | exact HpSub.nil))⟩
  rintro x2 hx2
  try dsimp only
  refine t_cut (ι := Unit) (fun _ => [(1, .slice A n c), (3, .pointer (some ⟨b3, 0, none⟩)), (5, .pointer (some ⟨b5, 0, none⟩)), (7, .bool true), (8, .slice (clA x1) T.length (clC x1)), (9, .int .i64 E)]) (fun _ => clH 99 3 (tiB T) x1 ++ [(b5, [.int .i64 x.who, .int .i64 x.fr, .int .i64 x.to], some (101, 3, 1)), (b3, [.int .i64 d.most, .int .i64 d.rest, .int .i64 d.win, .int .i64 d.sum], some (74, 4, 1))]) (fun _ => True) ?_ ?_
  · repeat' (first | ((with_reducible apply oq_id); first | ((with_reducible apply oq_neqF); exact rfl; exact rfl; omega) | (apply oq_fn; exact rfl; first | exact trivial | (refine ⟨?_, ?_⟩ <;> omega) | (refine ⟨?_, ?_, ?_⟩ <;> omega) | omega | skip) | ((with_reducible apply oq_call (k := 48) (hc := Try.call48)); exact rfl; exact rfl; exact fun D w1 hw1 => sameTi_calls (clA x1) (clA x2) T.length (clC x1) (clC x2) T w1 (ti_rows (hw1.sub (show HpSub _ (clH 99 3 (tiB T) x1) from (by (repeat (first | exact HpSub.refl _ | exact hp_left | (apply HpSub.skipX) | apply hp_skipApp))))) hx1) (ti_rows (hw1.sub (show HpSub _ (clH 99 3 (tiB T) x2) from (by (repeat (first | exact HpSub.refl _ | exact hp_left | (apply HpSub.skipX) | apply hp_skipApp))))) hx2) (by omega))) | ((with_reducible apply tl_id); first | ((with_reducible apply tl_nil)) | ((with_reducible apply u_q); exact rfl; exact rfl; exact rfl; exact rfl)) | ((with_reducible apply t_id); first | ((with_reducible apply t_seq)) | (apply t_region; kernel_rfl) | ((with_reducible apply t_condF); exact rfl) | ((with_reducible apply t_skip))) | with_reducible apply q_thenN)
    all_goals exact ⟨rfl, (), trivial, by (repeat (first | exact FrSub.nil | (apply FrSub.cons; exact rfl))), by (repeat (first | exact HpSub.refl _ | (apply HpSub.consE; (repeat (first | exact P0 | apply P1 | apply PA)); exact rfl) | apply hp_appC | apply HpSub.skipX | exact hp_left | apply hp_skipApp | exact HpSub.nil))⟩
  rintro ⟨⟩ -
  have e2 : ((l ++ [x]).map shCells).flatten = shB l ++ [.int .i64 x.who, .int .i64 x.fr, .int .i64 x.to] := by simp [shB, shCells]
  have hfl : (shB l).length = n * 3 := by rw [sh_flat_len, hl]
  refine t_cut (ι := Option (Nat × Nat)) (fun x3 => [(7, .bool true), (8, .slice (clA x1) T.length (clC x1)), (9, .int .i64 E), (14, .slice (clA x3) T3.length (clC x3)), (15, .int .i64 E3)]) (fun x3 => clH 99 3 (tiB T3) x3 ++ clH 99 3 (tiB T) x1) (fun x3 => x3 = none → T3.length = 0) ?_ ?_
  · repeat' (first | ((with_reducible apply oq_id); first | (apply oq_fn; exact rfl; first | exact trivial | (refine ⟨?_, ?_⟩ <;> omega) | (refine ⟨?_, ?_, ?_⟩ <;> omega) | omega | skip) | ((with_reducible apply oq_loadAgg); exact rfl; exact rfl)) | ((with_reducible apply gx_id); first | ((with_reducible apply v_nil)) | ((with_reducible apply v_q); exact rfl; exact rfl; exact rfl)) | ((with_reducible apply os_id); first | ((with_reducible apply os_append (hk := app_ok75)); exact rfl; exact rfl; (repeat (first | exact P0 | apply P1 | apply PA)))) | ((with_reducible apply ox_id); first | ((with_reducible apply ox_buildSlice); exact rfl; exact rfl; exact rfl; exact rfl)) | ((with_reducible apply ai_id); first | ((with_reducible apply ai_n); exact rfl; exact rfl; exact rfl; exact rfl; (with_reducible apply os_appendRows (hk := app_ok75) (rows := l.map shCells) (hr := fun D w1 hw1 => hr.ext hw1.ext.ext)); exact rfl; exact rfl; (repeat (first | exact P0 | apply P1 | apply PA)); exact sh_len l; exact rfl; exact sh_one l; exact Nat.le_refl _; omega; omega; intro gN cN; (simp only [Nat.zero_add, List.nil_append])) | ((with_reducible apply ai_n); exact rfl; exact rfl; exact rfl; exact rfl; (with_reducible apply os_callF (PV := TiE E3 T3) (k := 42) (hc := Try.call42)); exact rfl; exact rfl; exact fun D w1 hw1 => (by rw [← hE3, ← hT3]; exact tiredE_T d _ (n + 1) _ (l ++ [x]) w1 (Blk.rows (rows := (l ++ [x]).map shCells) (by rw [e2]; exact (hw1.blk _ (Pick.mem (by (repeat (first | exact P0 | apply P1 | apply PA))))).2) (by simp; exact hl) (sh_len _)) (fun h => by cases h) (by omega)); rintro v H' ⟨x0, hx0, rfl, rfl⟩; (try simp only [List.append_nil])) | ((with_reducible apply ai_q); exact rfl; exact rfl; exact rfl; exact rfl; exact rfl) | ((with_reducible apply ai_x); exact rfl; exact rfl; exact rfl; exact rfl; exact rfl) | ((with_reducible apply ai_n); exact rfl; exact rfl; exact rfl; exact rfl)) | ((with_reducible apply al_keep); focus (repeat (first | exact HpSub.refl _ | (apply HpSub.cons; (repeat (first | exact P0 | apply P1 | apply PA))) | apply HpSub.skipX | apply hp_skipApp | exact HpSub.nil))) | ((with_reducible apply rd_id); first | (apply Rd.own; (repeat (first | exact P0 | apply P1 | apply PA)); exact rfl; done)) | ((with_reducible apply t_id); first | (apply t_mix (id := 14) [0, 2, 4] 10 #[false, false, false, false, false, false, false, false, false, false, false, false, false]; kernel_rfl; kernel_rfl; exact rfl)) | exact Rdn.zero | apply Rdn.succ | ((with_reducible apply Norm.nil); exact rfl) | ((with_reducible apply Norm.cons); exact rfl) | ((with_reducible apply al_id); first | (apply al_done; decide +kernel) | (apply al_one 1; decide +kernel) | (apply al_one 3; decide +kernel) | (apply al_one 5; decide +kernel) | (apply al_one 6; decide +kernel) | (apply al_one 7; decide +kernel) | (apply al_one 8; decide +kernel) | (apply al_one 9; decide +kernel) | (apply al_one 10; decide +kernel) | (apply al_one 11; decide +kernel) | (apply al_one 12; decide +kernel) | (apply al_two 1 5; decide +kernel) | (apply al_two 3 5; decide +kernel) | (apply al_two 9 10; decide +kernel) | (apply al_two 10 11; decide +kernel)) | exact hfl | (intro gN cN; refine al_keep ?_ ?_; focus (repeat (first | exact HpSub.refl _ | apply HpSub.skipX))) | exact Nat.le_of_ble_eq_true rfl | exact (rfl : (_ : Bool) = true) | omega | (intro _; with_reducible apply al_id))
    all_goals exact ⟨by trivial, x0, hx0, by (repeat (first | exact FrSub.nil | (apply FrSub.cons; exact rfl))), by (repeat (first | exact HpSub.refl _ | (apply HpSub.consE; (repeat (first | exact P0 | apply P1 | apply PA)); exact rfl) | apply hp_appC | apply HpSub.skipX | exact hp_left | apply hp_skipApp | exact HpSub.nil))⟩
  rintro x3 hx3
  try dsimp only
  by_cases h00 : E = 0 ∧ E3 = 0
  rotate_left
  · have hme := more_err (d := d) (l := l) (x := x) (by rw [hE, hE3]; exact h00)
    rw [hE, hE3] at hme
    by_cases e0 : E = 0
    · repeat' (first | ((with_reducible apply oq_id); first | ((with_reducible apply oq_neqT); exact rfl; exact rfl; omega) | ((with_reducible apply oq_neqF); exact rfl; exact rfl; omega) | ((with_reducible apply oq_eqlT); exact rfl; exact rfl; omega) | (apply oq_fn; exact rfl; first | exact trivial | (refine ⟨?_, ?_⟩ <;> omega) | (refine ⟨?_, ?_, ?_⟩ <;> omega) | omega | skip)) | ((with_reducible apply tl_id); first | ((with_reducible apply tl_nil)) | ((with_reducible apply u_q); exact rfl; exact rfl; exact rfl; exact rfl) | ((with_reducible apply u_skip); exact rfl; exact rfl; exact rfl)) | ((with_reducible apply t_id); first | ((with_reducible apply t_seq)) | (apply t_region; kernel_rfl) | ((with_reducible apply t_condT); exact rfl) | ((with_reducible apply t_ret))) | with_reducible apply q_thenN | with_reducible apply q_thenR | ((with_reducible apply end_ret)) | exact rvs_nil | ((with_reducible apply rvs_cons)) | ((with_reducible apply rv_tmp); exact rfl))
      all_goals rfl
    · by_cases e1 : E3 = E
      · repeat' (first | ((with_reducible apply oq_id); first | ((with_reducible apply oq_neqT); exact rfl; exact rfl; omega) | ((with_reducible apply oq_eqlT); exact rfl; exact rfl; omega) | ((with_reducible apply oq_eqlF); exact rfl; exact rfl; omega) | (apply oq_fn; exact rfl; first | exact trivial | (refine ⟨?_, ?_⟩ <;> omega) | (refine ⟨?_, ?_, ?_⟩ <;> omega) | omega | skip)) | ((with_reducible apply tl_id); first | ((with_reducible apply tl_nil)) | ((with_reducible apply u_q); exact rfl; exact rfl; exact rfl; exact rfl) | ((with_reducible apply u_skip); exact rfl; exact rfl; exact rfl)) | ((with_reducible apply t_id); first | ((with_reducible apply t_seq)) | (apply t_region; kernel_rfl) | ((with_reducible apply t_condT); exact rfl) | ((with_reducible apply t_ret))) | with_reducible apply q_thenN | with_reducible apply q_thenR | ((with_reducible apply end_ret)) | exact rvs_nil | ((with_reducible apply rvs_cons)) | ((with_reducible apply rv_tmp); exact rfl))
        all_goals rfl
      · repeat' (first | ((with_reducible apply oq_id); first | ((with_reducible apply oq_neqT); exact rfl; exact rfl; omega) | ((with_reducible apply oq_eqlT); exact rfl; exact rfl; omega) | ((with_reducible apply oq_eqlF); exact rfl; exact rfl; omega) | (apply oq_fn; exact rfl; first | exact trivial | (refine ⟨?_, ?_⟩ <;> omega) | (refine ⟨?_, ?_, ?_⟩ <;> omega) | omega | skip)) | ((with_reducible apply tl_id); first | ((with_reducible apply tl_nil)) | ((with_reducible apply u_q); exact rfl; exact rfl; exact rfl; exact rfl) | ((with_reducible apply u_skip); exact rfl; exact rfl; exact rfl)) | ((with_reducible apply t_id); first | ((with_reducible apply t_seq)) | (apply t_region; kernel_rfl) | ((with_reducible apply t_condT); exact rfl) | ((with_reducible apply t_ret))) | with_reducible apply q_thenN | with_reducible apply q_thenR | ((with_reducible apply end_ret)) | exact rvs_nil | ((with_reducible apply rvs_cons)) | ((with_reducible apply rv_tmp); exact rfl))
        all_goals rfl
  obtain ⟨hE0, hE30⟩ := h00
  have hin : ∀ y ∈ T, y ∈ T3 := fun y hy => by
    rw [← hT] at hy
    rw [← hT3]
    exact more_in (by rw [hE]; exact hE0) (by rw [hE3]; exact hE30) hy
  refine t_cut (ι := Unit) (fun _ => [(7, .bool true), (8, .slice (clA x1) T.length (clC x1)), (14, .slice (clA x3) T3.length (clC x3))]) (fun _ => clH 99 3 (tiB T3) x3 ++ clH 99 3 (tiB T) x1) (fun _ => True) ?_ ?_
  · repeat' (first | ((with_reducible apply oq_id); first | ((with_reducible apply oq_neqF); exact rfl; exact rfl; omega) | (apply oq_fn; exact rfl; first | exact trivial | (refine ⟨?_, ?_⟩ <;> omega) | (refine ⟨?_, ?_, ?_⟩ <;> omega) | omega | skip)) | ((with_reducible apply tl_id); first | ((with_reducible apply tl_nil)) | ((with_reducible apply u_q); exact rfl; exact rfl; exact rfl; exact rfl)) | ((with_reducible apply t_id); first | ((with_reducible apply t_seq)) | (apply t_region; kernel_rfl) | ((with_reducible apply t_condF); exact rfl) | ((with_reducible apply t_skip))) | with_reducible apply q_thenN)
    all_goals exact ⟨rfl, (), trivial, by (repeat (first | exact FrSub.nil | (apply FrSub.cons; exact rfl))), by (repeat (first | exact HpSub.refl _ | (apply HpSub.consE; (repeat (first | exact P0 | apply P1 | apply PA)); exact rfl) | apply hp_appC | apply HpSub.skipX | exact hp_left | apply hp_skipApp | exact HpSub.nil))⟩
  rintro ⟨⟩ -
  repeat' (first | ((with_reducible apply oq_id); first | (apply oq_fn; exact rfl; first | exact trivial | (refine ⟨?_, ?_⟩ <;> omega) | (refine ⟨?_, ?_, ?_⟩ <;> omega) | omega | skip)) | ((with_reducible apply tl_id); first | ((with_reducible apply tl_nil)) | ((with_reducible apply u_q); exact rfl; exact rfl; exact rfl; exact rfl)) | ((with_reducible apply t_id); first | ((with_reducible apply t_seq)) | (apply t_region; kernel_rfl) | ((with_reducible apply t_block))) | with_reducible apply q_thenN)
  apply t_loopK (GH := []) (ι := Nat) [7, 14, 99, 100] (fun i => [(101, .int .i64 (i : Nat))]) (fun _ => clH 99 3 (tiB T3) x3 ++ clH 99 3 (tiB T) x1) (fun i => i ≤ T.length) (fun i => T.length - i) (0)
  (repeat (first | exact KeepF.nil | (apply KeepF.cons; exact rfl) | apply KeepF.skip))
  (repeat (first | exact FrSub.nil | (apply FrSub.cons; exact rfl)))
  ((try simp only [List.append_nil]); (repeat (first | exact HpSub.refl _ | (apply HpSub.consE; (repeat (first | exact P0 | apply P1 | apply PA)); exact rfl) | apply hp_appC | apply HpSub.skipX | exact hp_left | apply hp_skipApp | exact HpSub.nil)))
  · exact Nat.zero_le _
  rintro i hi
  try simp only [List.cons_append, List.nil_append]
  simp only [List.append_nil]
  by_cases hlt : i < T.length
  · obtain ⟨y, hy⟩ : ∃ y, T[i]? = some y := ⟨_, List.getElem?_eq_getElem hlt⟩
    have hy3 := hin y (List.mem_of_getElem? hy)
    rcases x1 with _ | ⟨g1, c1⟩
    · have := hx1 rfl
      omega
    rcases x3 with _ | ⟨g3, c3⟩
    · have := hx3 rfl
      rw [List.length_eq_zero_iff.1 this] at hy3
      cases hy3
    simp only [clA, clC, clH, List.cons_append, List.nil_append]
    obtain ⟨q0, q1, q2⟩ := ti_at hy
    repeat' (first | ((with_reducible apply oq_id); first | (focus ((with_reducible apply oq_indexAddrN); exact rfl; exact rfl; exact rfl; exact rfl; omega)) | ((with_reducible apply oq_lssT); exact rfl; exact rfl; omega) | (apply oq_fn; exact rfl; first | exact trivial | (refine ⟨?_, ?_⟩ <;> omega) | (refine ⟨?_, ?_, ?_⟩ <;> omega) | omega | skip) | ((with_reducible apply oq_loadAgg); exact rfl; exact rfl)) | ((with_reducible apply tl_id); first | ((with_reducible apply tl_nil)) | ((with_reducible apply u_q); exact rfl; exact rfl; exact rfl; exact rfl) | ((with_reducible apply u_s0); exact rfl; exact rfl) | ((with_reducible apply u_s); exact rfl; exact rfl; exact rfl)) | ((with_reducible apply os_id); first | ((with_reducible apply os_x); exact rfl) | ((with_reducible apply os_storeAgg); exact rfl; exact rfl; exact rfl; exact rfl; exact rfl)) | ((with_reducible apply ox_id); first | ((with_reducible apply ox_alloc); exact rfl; intro _)) | ((with_reducible apply rd_id); first | (apply Rd.own; (repeat (first | exact P0 | apply P1 | apply PA)); first | exact q0 | exact q1 | exact q2 | exact r0 | exact r1 | exact r2; done)) | ((with_reducible apply t_id); first | ((with_reducible apply t_seq)) | (apply t_region; kernel_rfl) | ((with_reducible apply t_condT); exact rfl) | ((with_reducible apply t_skip)) | ((with_reducible apply t_block))) | with_reducible apply q_thenN | exact P0 | exact Rdn.zero | apply Rdn.succ | ((with_reducible apply Norm.nil); exact rfl) | ((with_reducible apply Norm.cons); exact rfl) | exact Nat.le_of_ble_eq_true rfl)
    rename_i b17
    apply t_loopK (GH := []) (ι := Nat × Bool) [7, 14, 17, 99, 100, 101, 105, 106] (fun z => [(107, .int .i64 (z.1 : Nat)), (18, .bool z.2)]) (fun _ => (b17, [.int .i64 y.kind, .int .i64 y.who, .int .i64 y.at_], some (99, 3, 1)) :: (g3, tiB T3, some (99, 3, c3)) :: (g1, tiB T, some (99, 3, c1)) :: []) (fun z => z.1 ≤ T3.length ∧ ∀ k, k < z.1 → T3[k]? = some y → z.2 = true) (fun z => T3.length - z.1) ((0, false))
    (repeat (first | exact KeepF.nil | (apply KeepF.cons; exact rfl) | apply KeepF.skip))
    (repeat (first | exact FrSub.nil | (apply FrSub.cons; exact rfl)))
    ((try simp only [List.append_nil]); (repeat (first | exact HpSub.refl _ | (apply HpSub.consE; (repeat (first | exact P0 | apply P1 | apply PA)); exact rfl) | apply hp_appC | apply HpSub.skipX | exact hp_left | apply hp_skipApp | exact HpSub.nil)))
    · exact ⟨Nat.zero_le _, fun k hk => by omega⟩
    rintro ⟨j, f⟩ ⟨hj, hf⟩
    simp only at hj hf
    try simp only [List.cons_append, List.nil_append]
    try simp only [List.append_nil]
    by_cases hjl : j < T3.length
    · obtain ⟨z, hz⟩ : ∃ z, T3[j]? = some z := ⟨_, List.getElem?_eq_getElem hjl⟩
      obtain ⟨r0, r1, r2⟩ := ti_at hz
      have hst : ∀ f' : Bool, (f = true → f' = true) → (z = y → f' = true) → ∀ k, k < j + 1 → T3[k]? = some y → f' = true := fun f' h1 h2 k hk hk2 => by
        by_cases hkj : k = j
        · subst hkj; rw [hz] at hk2; exact h2 (Option.some.inj hk2)
        · exact h1 (hf k (by omega) hk2)
      cases f with
      | true =>
        repeat' (first | ((with_reducible apply oq_id); first | (focus ((with_reducible apply oq_indexAddrN); exact rfl; exact rfl; exact rfl; exact rfl; omega)) | ((with_reducible apply oq_lssT); exact rfl; exact rfl; omega) | (apply oq_fn; exact rfl; first | exact trivial | (refine ⟨?_, ?_⟩ <;> omega) | (refine ⟨?_, ?_, ?_⟩ <;> omega) | omega | skip) | ((with_reducible apply oq_loadAgg); exact rfl; exact rfl)) | ((with_reducible apply tl_id); first | ((with_reducible apply tl_nil)) | ((with_reducible apply u_q); exact rfl; exact rfl; exact rfl; exact rfl) | ((with_reducible apply u_s0); exact rfl; exact rfl) | ((with_reducible apply u_s); exact rfl; exact rfl; exact rfl) | ((with_reducible apply u_skip); exact rfl; exact rfl; exact rfl)) | ((with_reducible apply os_id); first | ((with_reducible apply os_x); exact rfl) | ((with_reducible apply os_storeAgg); exact rfl; exact rfl; exact rfl; exact rfl; exact rfl)) | ((with_reducible apply ox_id); first | ((with_reducible apply ox_alloc); exact rfl; intro _)) | ((with_reducible apply rd_id); first | (apply Rd.own; (repeat (first | exact P0 | apply P1 | apply PA)); first | exact q0 | exact q1 | exact q2 | exact r0 | exact r1 | exact r2; done)) | ((with_reducible apply t_id); first | ((with_reducible apply t_seq)) | (apply t_region; kernel_rfl) | ((with_reducible apply t_condT); exact rfl) | ((with_reducible apply t_skip)) | ((with_reducible apply t_block))) | with_reducible apply q_thenN | with_reducible apply q_blockN | exact P0 | exact Rdn.zero | apply Rdn.succ | ((with_reducible apply Norm.nil); exact rfl) | ((with_reducible apply Norm.cons); exact rfl) | exact Nat.le_of_ble_eq_true rfl)
        all_goals (refine ⟨(j + 1, true), ⟨(by simp only; omega), hst true (fun _ => rfl) (fun _ => rfl)⟩, (by simp only; omega), ?_, ?_⟩ <;> ((try simp only [List.cons_append, List.nil_append]) <;> first | ((repeat (first | exact FrSub.nil | (apply FrSub.cons; exact rfl))); done) | ((repeat (first | exact HpSub.refl _ | (apply HpSub.consE; (repeat (first | exact P0 | apply P1 | apply PA)); exact rfl) | apply hp_appC | apply HpSub.skipX | exact hp_left | apply hp_skipApp | exact HpSub.nil)); done)))
      | false =>
        by_cases hzy : z.kind = y.kind ∧ z.who = y.who ∧ z.at_ = y.at_
        · obtain rfl : z = y := by cases z; cases y; simp only at hzy; obtain ⟨rfl, rfl, rfl⟩ := hzy; rfl
          repeat' (first | ((with_reducible apply oq_id); first | (focus ((with_reducible apply oq_indexAddrN); exact rfl; exact rfl; exact rfl; exact rfl; omega)) | ((with_reducible apply oq_eq99T); exact rfl; exact rfl) | ((with_reducible apply oq_lssT); exact rfl; exact rfl; omega) | (apply oq_fn; exact rfl; first | exact trivial | (refine ⟨?_, ?_⟩ <;> omega) | (refine ⟨?_, ?_, ?_⟩ <;> omega) | omega | skip) | ((with_reducible apply oq_loadAgg); exact rfl; exact rfl)) | ((with_reducible apply tl_id); first | ((with_reducible apply tl_nil)) | ((with_reducible apply u_q); exact rfl; exact rfl; exact rfl; exact rfl) | ((with_reducible apply u_s0); exact rfl; exact rfl) | ((with_reducible apply u_s); exact rfl; exact rfl; exact rfl) | ((with_reducible apply u_skip); exact rfl; exact rfl; exact rfl)) | ((with_reducible apply os_id); first | ((with_reducible apply os_x); exact rfl) | ((with_reducible apply os_storeAgg); exact rfl; exact rfl; exact rfl; exact rfl; exact rfl)) | ((with_reducible apply ox_id); first | ((with_reducible apply ox_alloc); exact rfl; intro _)) | ((with_reducible apply rd_id); first | (apply Rd.own; (repeat (first | exact P0 | apply P1 | apply PA)); first | exact q0 | exact q1 | exact q2 | exact r0 | exact r1 | exact r2; done) | (apply Rd.own; (repeat (first | exact P0 | apply P1 | apply PA)); exact rfl; done)) | ((with_reducible apply t_id); first | ((with_reducible apply t_seq)) | (apply t_region; kernel_rfl) | ((with_reducible apply t_condT); exact rfl) | ((with_reducible apply t_skip)) | ((with_reducible apply t_block))) | with_reducible apply q_thenN | with_reducible apply q_blockN | exact P0 | exact Rdn.zero | apply Rdn.succ | ((with_reducible apply Norm.nil); exact rfl) | ((with_reducible apply Norm.cons); exact rfl) | exact Nat.le_of_ble_eq_true rfl)
          all_goals (refine ⟨(j + 1, true), ⟨(by simp only; omega), hst true (fun _ => rfl) (fun _ => rfl)⟩, (by simp only; omega), ?_, ?_⟩ <;> ((try simp only [List.cons_append, List.nil_append]) <;> first | ((repeat (first | exact FrSub.nil | (apply FrSub.cons; exact rfl))); done) | ((repeat (first | exact HpSub.refl _ | (apply HpSub.consE; (repeat (first | exact P0 | apply P1 | apply PA)); exact rfl) | apply hp_appC | apply HpSub.skipX | exact hp_left | apply hp_skipApp | exact HpSub.nil)); done)))
        · have hne : z ≠ y := fun h => hzy (by rw [h]; exact ⟨rfl, rfl, rfl⟩)
          by_cases k1 : y.kind = 2
          · by_cases k2 : z.kind = y.kind
            · by_cases k3 : z.who = y.who
              · by_cases k4 : z.at_ ≤ y.at_
                · repeat' (first | ((with_reducible apply oq_id); first | (focus ((with_reducible apply oq_indexAddrN); exact rfl; exact rfl; exact rfl; exact rfl; omega)) | ((with_reducible apply oq_eq99F); exact rfl; exact rfl; exact hzy) | ((with_reducible apply oq_lssT); exact rfl; exact rfl; omega) | ((with_reducible apply oq_eqlT); exact rfl; exact rfl; omega) | ((with_reducible apply oq_leqT); exact rfl; exact rfl; omega) | (apply oq_fn; exact rfl; first | exact trivial | (refine ⟨?_, ?_⟩ <;> omega) | (refine ⟨?_, ?_, ?_⟩ <;> omega) | omega | skip) | ((with_reducible apply oq_load); exact rfl; exact rfl) | ((with_reducible apply oq_loadAgg); exact rfl; exact rfl)) | ((with_reducible apply tl_id); first | ((with_reducible apply tl_nil)) | ((with_reducible apply u_q); exact rfl; exact rfl; exact rfl; exact rfl) | ((with_reducible apply u_s0); exact rfl; exact rfl) | ((with_reducible apply u_s); exact rfl; exact rfl; exact rfl)) | ((with_reducible apply os_id); first | ((with_reducible apply os_x); exact rfl) | ((with_reducible apply os_storeAgg); exact rfl; exact rfl; exact rfl; exact rfl; exact rfl)) | ((with_reducible apply ox_id); first | ((with_reducible apply ox_alloc); exact rfl; intro _)) | ((with_reducible apply rd_id); first | (apply Rd.own; (repeat (first | exact P0 | apply P1 | apply PA)); first | exact q0 | exact q1 | exact q2 | exact r0 | exact r1 | exact r2; done) | (apply Rd.own; (repeat (first | exact P0 | apply P1 | apply PA)); exact rfl; done)) | ((with_reducible apply t_id); first | ((with_reducible apply t_seq)) | (apply t_region; kernel_rfl) | ((with_reducible apply t_condT); exact rfl) | ((with_reducible apply t_skip)) | ((with_reducible apply t_block))) | with_reducible apply q_thenN | with_reducible apply q_blockN | exact P0 | exact Rdn.zero | apply Rdn.succ | ((with_reducible apply Norm.nil); exact rfl) | ((with_reducible apply Norm.cons); exact rfl) | exact Nat.le_of_ble_eq_true rfl)
                  all_goals (refine ⟨(j + 1, true), ⟨(by simp only; omega), hst true (fun _ => rfl) (fun _ => rfl)⟩, (by simp only; omega), ?_, ?_⟩ <;> ((try simp only [List.cons_append, List.nil_append]) <;> first | ((repeat (first | exact FrSub.nil | (apply FrSub.cons; exact rfl))); done) | ((repeat (first | exact HpSub.refl _ | (apply HpSub.consE; (repeat (first | exact P0 | apply P1 | apply PA)); exact rfl) | apply hp_appC | apply HpSub.skipX | exact hp_left | apply hp_skipApp | exact HpSub.nil)); done)))
                · repeat' (first | ((with_reducible apply oq_id); first | (focus ((with_reducible apply oq_indexAddrN); exact rfl; exact rfl; exact rfl; exact rfl; omega)) | ((with_reducible apply oq_eq99F); exact rfl; exact rfl; exact hzy) | ((with_reducible apply oq_lssT); exact rfl; exact rfl; omega) | ((with_reducible apply oq_eqlT); exact rfl; exact rfl; omega) | ((with_reducible apply oq_leqF); exact rfl; exact rfl; omega) | (apply oq_fn; exact rfl; first | exact trivial | (refine ⟨?_, ?_⟩ <;> omega) | (refine ⟨?_, ?_, ?_⟩ <;> omega) | omega | skip) | ((with_reducible apply oq_load); exact rfl; exact rfl) | ((with_reducible apply oq_loadAgg); exact rfl; exact rfl)) | ((with_reducible apply tl_id); first | ((with_reducible apply tl_nil)) | ((with_reducible apply u_q); exact rfl; exact rfl; exact rfl; exact rfl) | ((with_reducible apply u_s0); exact rfl; exact rfl) | ((with_reducible apply u_s); exact rfl; exact rfl; exact rfl)) | ((with_reducible apply os_id); first | ((with_reducible apply os_x); exact rfl) | ((with_reducible apply os_storeAgg); exact rfl; exact rfl; exact rfl; exact rfl; exact rfl)) | ((with_reducible apply ox_id); first | ((with_reducible apply ox_alloc); exact rfl; intro _)) | ((with_reducible apply rd_id); first | (apply Rd.own; (repeat (first | exact P0 | apply P1 | apply PA)); first | exact q0 | exact q1 | exact q2 | exact r0 | exact r1 | exact r2; done) | (apply Rd.own; (repeat (first | exact P0 | apply P1 | apply PA)); exact rfl; done)) | ((with_reducible apply t_id); first | ((with_reducible apply t_seq)) | (apply t_region; kernel_rfl) | ((with_reducible apply t_condT); exact rfl) | ((with_reducible apply t_skip)) | ((with_reducible apply t_block))) | with_reducible apply q_thenN | with_reducible apply q_blockN | exact P0 | exact Rdn.zero | apply Rdn.succ | ((with_reducible apply Norm.nil); exact rfl) | ((with_reducible apply Norm.cons); exact rfl) | exact Nat.le_of_ble_eq_true rfl)
                  all_goals (refine ⟨(j + 1, false), ⟨(by simp only; omega), hst false (fun h => h) (fun h => absurd h hne)⟩, (by simp only; omega), ?_, ?_⟩ <;> ((try simp only [List.cons_append, List.nil_append]) <;> first | ((repeat (first | exact FrSub.nil | (apply FrSub.cons; exact rfl))); done) | ((repeat (first | exact HpSub.refl _ | (apply HpSub.consE; (repeat (first | exact P0 | apply P1 | apply PA)); exact rfl) | apply hp_appC | apply HpSub.skipX | exact hp_left | apply hp_skipApp | exact HpSub.nil)); done)))
              · repeat' (first | ((with_reducible apply oq_id); first | (focus ((with_reducible apply oq_indexAddrN); exact rfl; exact rfl; exact rfl; exact rfl; omega)) | ((with_reducible apply oq_eq99F); exact rfl; exact rfl; exact hzy) | ((with_reducible apply oq_lssT); exact rfl; exact rfl; omega) | ((with_reducible apply oq_eqlT); exact rfl; exact rfl; omega) | ((with_reducible apply oq_eqlF); exact rfl; exact rfl; omega) | (apply oq_fn; exact rfl; first | exact trivial | (refine ⟨?_, ?_⟩ <;> omega) | (refine ⟨?_, ?_, ?_⟩ <;> omega) | omega | skip) | ((with_reducible apply oq_load); exact rfl; exact rfl) | ((with_reducible apply oq_loadAgg); exact rfl; exact rfl)) | ((with_reducible apply tl_id); first | ((with_reducible apply tl_nil)) | ((with_reducible apply u_q); exact rfl; exact rfl; exact rfl; exact rfl) | ((with_reducible apply u_s0); exact rfl; exact rfl) | ((with_reducible apply u_s); exact rfl; exact rfl; exact rfl) | ((with_reducible apply u_skip); exact rfl; exact rfl; exact rfl)) | ((with_reducible apply os_id); first | ((with_reducible apply os_x); exact rfl) | ((with_reducible apply os_storeAgg); exact rfl; exact rfl; exact rfl; exact rfl; exact rfl)) | ((with_reducible apply ox_id); first | ((with_reducible apply ox_alloc); exact rfl; intro _)) | ((with_reducible apply rd_id); first | (apply Rd.own; (repeat (first | exact P0 | apply P1 | apply PA)); first | exact q0 | exact q1 | exact q2 | exact r0 | exact r1 | exact r2; done) | (apply Rd.own; (repeat (first | exact P0 | apply P1 | apply PA)); exact rfl; done)) | ((with_reducible apply t_id); first | ((with_reducible apply t_seq)) | (apply t_region; kernel_rfl) | ((with_reducible apply t_condT); exact rfl) | ((with_reducible apply t_skip)) | ((with_reducible apply t_block))) | with_reducible apply q_thenN | with_reducible apply q_blockN | exact P0 | exact Rdn.zero | apply Rdn.succ | ((with_reducible apply Norm.nil); exact rfl) | ((with_reducible apply Norm.cons); exact rfl) | exact Nat.le_of_ble_eq_true rfl)
                all_goals (refine ⟨(j + 1, false), ⟨(by simp only; omega), hst false (fun h => h) (fun h => absurd h hne)⟩, (by simp only; omega), ?_, ?_⟩ <;> ((try simp only [List.cons_append, List.nil_append]) <;> first | ((repeat (first | exact FrSub.nil | (apply FrSub.cons; exact rfl))); done) | ((repeat (first | exact HpSub.refl _ | (apply HpSub.consE; (repeat (first | exact P0 | apply P1 | apply PA)); exact rfl) | apply hp_appC | apply HpSub.skipX | exact hp_left | apply hp_skipApp | exact HpSub.nil)); done)))
            · repeat' (first | ((with_reducible apply oq_id); first | (focus ((with_reducible apply oq_indexAddrN); exact rfl; exact rfl; exact rfl; exact rfl; omega)) | ((with_reducible apply oq_eq99F); exact rfl; exact rfl; exact hzy) | ((with_reducible apply oq_lssT); exact rfl; exact rfl; omega) | ((with_reducible apply oq_eqlT); exact rfl; exact rfl; omega) | ((with_reducible apply oq_eqlF); exact rfl; exact rfl; omega) | (apply oq_fn; exact rfl; first | exact trivial | (refine ⟨?_, ?_⟩ <;> omega) | (refine ⟨?_, ?_, ?_⟩ <;> omega) | omega | skip) | ((with_reducible apply oq_load); exact rfl; exact rfl) | ((with_reducible apply oq_loadAgg); exact rfl; exact rfl)) | ((with_reducible apply tl_id); first | ((with_reducible apply tl_nil)) | ((with_reducible apply u_q); exact rfl; exact rfl; exact rfl; exact rfl) | ((with_reducible apply u_s0); exact rfl; exact rfl) | ((with_reducible apply u_s); exact rfl; exact rfl; exact rfl) | ((with_reducible apply u_skip); exact rfl; exact rfl; exact rfl)) | ((with_reducible apply os_id); first | ((with_reducible apply os_x); exact rfl) | ((with_reducible apply os_storeAgg); exact rfl; exact rfl; exact rfl; exact rfl; exact rfl)) | ((with_reducible apply ox_id); first | ((with_reducible apply ox_alloc); exact rfl; intro _)) | ((with_reducible apply rd_id); first | (apply Rd.own; (repeat (first | exact P0 | apply P1 | apply PA)); first | exact q0 | exact q1 | exact q2 | exact r0 | exact r1 | exact r2; done) | (apply Rd.own; (repeat (first | exact P0 | apply P1 | apply PA)); exact rfl; done)) | ((with_reducible apply t_id); first | ((with_reducible apply t_seq)) | (apply t_region; kernel_rfl) | ((with_reducible apply t_condT); exact rfl) | ((with_reducible apply t_skip)) | ((with_reducible apply t_block))) | with_reducible apply q_thenN | with_reducible apply q_blockN | exact P0 | exact Rdn.zero | apply Rdn.succ | ((with_reducible apply Norm.nil); exact rfl) | ((with_reducible apply Norm.cons); exact rfl) | exact Nat.le_of_ble_eq_true rfl)
              all_goals (refine ⟨(j + 1, false), ⟨(by simp only; omega), hst false (fun h => h) (fun h => absurd h hne)⟩, (by simp only; omega), ?_, ?_⟩ <;> ((try simp only [List.cons_append, List.nil_append]) <;> first | ((repeat (first | exact FrSub.nil | (apply FrSub.cons; exact rfl))); done) | ((repeat (first | exact HpSub.refl _ | (apply HpSub.consE; (repeat (first | exact P0 | apply P1 | apply PA)); exact rfl) | apply hp_appC | apply HpSub.skipX | exact hp_left | apply hp_skipApp | exact HpSub.nil)); done)))
          · repeat' (first | ((with_reducible apply oq_id); first | (focus ((with_reducible apply oq_indexAddrN); exact rfl; exact rfl; exact rfl; exact rfl; omega)) | ((with_reducible apply oq_eq99F); exact rfl; exact rfl; exact hzy) | ((with_reducible apply oq_lssT); exact rfl; exact rfl; omega) | ((with_reducible apply oq_eqlF); exact rfl; exact rfl; omega) | (apply oq_fn; exact rfl; first | exact trivial | (refine ⟨?_, ?_⟩ <;> omega) | (refine ⟨?_, ?_, ?_⟩ <;> omega) | omega | skip) | ((with_reducible apply oq_load); exact rfl; exact rfl) | ((with_reducible apply oq_loadAgg); exact rfl; exact rfl)) | ((with_reducible apply tl_id); first | ((with_reducible apply tl_nil)) | ((with_reducible apply u_q); exact rfl; exact rfl; exact rfl; exact rfl) | ((with_reducible apply u_s0); exact rfl; exact rfl) | ((with_reducible apply u_s); exact rfl; exact rfl; exact rfl) | ((with_reducible apply u_skip); exact rfl; exact rfl; exact rfl)) | ((with_reducible apply os_id); first | ((with_reducible apply os_x); exact rfl) | ((with_reducible apply os_storeAgg); exact rfl; exact rfl; exact rfl; exact rfl; exact rfl)) | ((with_reducible apply ox_id); first | ((with_reducible apply ox_alloc); exact rfl; intro _)) | ((with_reducible apply rd_id); first | (apply Rd.own; (repeat (first | exact P0 | apply P1 | apply PA)); first | exact q0 | exact q1 | exact q2 | exact r0 | exact r1 | exact r2; done) | (apply Rd.own; (repeat (first | exact P0 | apply P1 | apply PA)); exact rfl; done)) | ((with_reducible apply t_id); first | ((with_reducible apply t_seq)) | (apply t_region; kernel_rfl) | ((with_reducible apply t_condT); exact rfl) | ((with_reducible apply t_skip)) | ((with_reducible apply t_block))) | with_reducible apply q_thenN | with_reducible apply q_blockN | exact P0 | exact Rdn.zero | apply Rdn.succ | ((with_reducible apply Norm.nil); exact rfl) | ((with_reducible apply Norm.cons); exact rfl) | exact Nat.le_of_ble_eq_true rfl)
            all_goals (refine ⟨(j + 1, false), ⟨(by simp only; omega), hst false (fun h => h) (fun h => absurd h hne)⟩, (by simp only; omega), ?_, ?_⟩ <;> ((try simp only [List.cons_append, List.nil_append]) <;> first | ((repeat (first | exact FrSub.nil | (apply FrSub.cons; exact rfl))); done) | ((repeat (first | exact HpSub.refl _ | (apply HpSub.consE; (repeat (first | exact P0 | apply P1 | apply PA)); exact rfl) | apply hp_appC | apply HpSub.skipX | exact hp_left | apply hp_skipApp | exact HpSub.nil)); done)))
    · obtain rfl : f = true := by
        obtain ⟨k, hk, hke⟩ := List.getElem_of_mem hy3
        exact hf k (by omega) (by rw [List.getElem?_eq_getElem hk, hke])
      repeat' (first | ((with_reducible apply oq_id); first | ((with_reducible apply oq_lssF); exact rfl; exact rfl; omega) | (apply oq_fn; exact rfl; first | exact trivial | (refine ⟨?_, ?_⟩ <;> omega) | (refine ⟨?_, ?_, ?_⟩ <;> omega) | omega | skip)) | ((with_reducible apply tl_id); first | ((with_reducible apply tl_nil)) | ((with_reducible apply u_q); exact rfl; exact rfl; exact rfl; exact rfl)) | ((with_reducible apply t_id); first | ((with_reducible apply t_seq)) | (apply t_region; kernel_rfl) | ((with_reducible apply t_condF); exact rfl) | ((with_reducible apply t_skip)) | ((with_reducible apply t_exit))) | with_reducible apply q_thenN | with_reducible apply q_blockN | with_reducible apply q_thenE | ((with_reducible apply q_blockE); exact rfl))
      all_goals (refine ⟨i + 1, (by omega), (by omega), ?_, ?_⟩)
      all_goals first
        | ((try simp only [List.cons_append, List.nil_append]); (repeat (first | exact FrSub.nil | (apply FrSub.cons; exact rfl))); done)
        | ((try simp only [List.cons_append, List.nil_append]); (repeat (first | exact HpSub.refl _ | (apply HpSub.consE; (repeat (first | exact P0 | apply P1 | apply PA)); exact rfl) | apply hp_appC | apply HpSub.skipX | exact hp_left | apply hp_skipApp | exact HpSub.nil)); done)
  · repeat' (first | ((with_reducible apply oq_id); first | ((with_reducible apply oq_lssF); exact rfl; exact rfl; omega) | (apply oq_fn; exact rfl; first | exact trivial | (refine ⟨?_, ?_⟩ <;> omega) | (refine ⟨?_, ?_, ?_⟩ <;> omega) | omega | skip)) | ((with_reducible apply tl_id); first | ((with_reducible apply tl_nil)) | ((with_reducible apply u_q); exact rfl; exact rfl; exact rfl; exact rfl)) | ((with_reducible apply t_id); first | ((with_reducible apply t_seq)) | (apply t_region; kernel_rfl) | ((with_reducible apply t_condF); exact rfl) | ((with_reducible apply t_ret)) | ((with_reducible apply t_exit))) | with_reducible apply q_thenN | with_reducible apply q_thenE | ((with_reducible apply q_blockE); exact rfl) | ((with_reducible apply end_ret)) | exact rvs_nil | ((with_reducible apply rvs_cons)) | ((with_reducible apply rv_tmp); exact rfl))
    all_goals rfl
end Go.Proofs.Ytmlmgipngbndgaa
namespace Go.Proofs.Ytmlmgipngbndgaa
open Go.ChangeShapes Go.WideShapes Go.ChangeAt Go.RowKit
set_option maxRecDepth 100000
theorem Try.own : ownKnob Try.prog.godebug = none := by kernel_rfl
theorem Try.laidOut : laidOutB Try.prog = true := by kernel_rfl
section
variable {H : Type} {enc : TypeId × Value → H} {P : Program}
theorem trodAll_ext (hl : laidOutB P = true) {W W' : World} (hb : Ext W W') : ∀ {ts : List TypeId} {vs : List Value} {ds : List (DataW H)} {p : List MemPlace}, (ts.all fun t => P.readableRec t && decide (t < P.types.size)) = true →
    DataW.TrodAll enc P W 0 (fun _ => true) true ts vs ds p → (∀ x ∈ p, x.block < W.heap.size) → DataW.TrodAll enc P W' 0 (fun b => decide (b < W.heap.size)) true ts vs ds p
  | [], vs, ds, p, _, h, _ => by
    obtain ⟨rfl, rfl, rfl⟩ := trodAll_nil h
    exact trodAll_mk0
  | t :: ts, vs, ds, p, ht, h, hlt => by
    obtain ⟨v, vs', d, ds', p0, q0, rfl, rfl, rfl, h1, h2⟩ := trodAll_cons h
    simp only [List.all_cons, Bool.and_eq_true, decide_eq_true_eq] at ht
    exact ⟨p0, q0, Below.trod hl ht.1.1 ht.1.2 h1 hb (fun x hx => hlt x (List.mem_append_left _ hx)), trodAll_ext hl hb ht.2 h2 (fun x hx => hlt x (List.mem_append_right _ hx)), rfl⟩
end
end Go.Proofs.Ytmlmgipngbndgaa
