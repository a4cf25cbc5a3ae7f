/- The reference's deals that are done. -/
import Derived.Test.YtmlmgipngbndgaaPkG
import Derived.Test.YtmlmgipngbndgaaPkF
import Derived.Test.YtmlmgipngbndgaaPkE
/- The reference's deals that are done. -/
namespace Go.Proofs.Ytmlmgipngbndgaa
open Go.RowKit
attribute [local irreducible] OQ OS OX Rd T TL GX GL AL AI RV wpG SAny Calls
set_option maxRecDepth 100000
set_option maxHeartbeats 2000000
set_option linter.unusedVariables false
set_option linter.unusedSimpArgs false

theorem dn_tick_ok (o : Off) (hv : OkO o) (A : Option Addr) (cf : Nat) (B : Option Addr) (cb : Nat) (w : World) (hA : RdS w 4 A o.fl.length (o.fl.map depCells)) (hB : RdS w 3 B o.bk.length (o.bk.map bkCells)) (dn ds dp dl : Int) (h : 1 ≤ dn ∧ dn ≤ 1000000 ∧ o.now + dn ≤ 1000000) : Calls Try.prog 80 #[.agg ⟨offCells o A cf B cb⟩, .agg ⟨[.int .u8 6, .int .i64 dn, .int .i64 ds, .int .i64 dp, .int .i64 dl]⟩] w fun e w' => ∃ v H', e = .returned v ∧ OkV ({ o with now := o.now + dn }) v H' ∧ Has w ⟨[], []⟩ H' w' := by
  have hnb := hv.nb
  have hnf := hv.nf
  have hnow := hv.now
  have hinn := hv.inn
  have HW := fun w1 => within_calls (dn) 1 1000000 w1
  rw [decide_eq_true (show 1 ≤ dn by omega), decide_eq_true (show dn ≤ 1000000 by omega)] at HW
  simp only [Bool.and_self] at HW
  refine done_entry rfl o A cf B cb w hA hB (by omega) (by omega) [.int .u8 6, .int .i64 dn, .int .i64 ds, .int .i64 dp, .int .i64 dl] rfl fun b2 b3 b4 gF cF gB cB => ?_
  have hO := desk_now o (some ⟨gF, 0, none⟩) cF (some ⟨gB, 0, none⟩) cB (o.now + dn)
  repeat' (first | ((with_reducible apply oq_id); first | ((with_reducible apply oq_eqlT); exact rfl; exact rfl; omega) | ((with_reducible apply oq_eqlF); exact rfl; exact rfl; omega) | ((with_reducible apply oq_gtrF); exact rfl; exact rfl; omega) | (apply oq_fn; exact rfl; first | exact trivial | (refine ⟨?_, ?_⟩ <;> omega) | (refine ⟨?_, ?_, ?_⟩ <;> omega) | omega | skip) | ((with_reducible apply oq_load); exact rfl; exact rfl) | ((with_reducible apply oq_loadAgg); exact rfl; exact rfl) | ((with_reducible apply oq_call (k := 66) (hc := Try.call66)); exact rfl; exact rfl; exact fun D w1 hw1 => HW w1)) | ((with_reducible apply tl_id); first | ((with_reducible apply tl_nil)) | ((with_reducible apply u_q); exact rfl; exact rfl; exact rfl; exact rfl) | ((with_reducible apply u_s0); exact rfl; exact rfl)) | ((with_reducible apply os_id); first | ((with_reducible apply os_storeB (hC := hO)); exact rfl; exact rfl; exact rfl; exact rfl; (repeat (first | exact P0 | apply P1)); exact Nat.le_of_ble_eq_true rfl) | ((with_reducible apply os_storeAgg); exact rfl; exact rfl; exact rfl; exact rfl; exact rfl)) | ((with_reducible apply rd_id); first | (apply Rd.own; (repeat (first | exact P0 | apply P1)); exact rfl; done)) | ((with_reducible apply t_id); first | ((with_reducible apply t_seq)) | (apply t_region; kernel_rfl) | ((with_reducible apply t_condT); exact rfl) | ((with_reducible apply t_condF); exact rfl) | ((with_reducible apply t_ret)) | ((with_reducible apply t_skip)) | ((with_reducible apply t_block))) | with_reducible apply q_thenN | with_reducible apply q_thenR | with_reducible apply q_blockR | exact P0 | ((with_reducible apply P1)) | exact Rdn.zero | apply Rdn.succ | ((with_reducible apply Norm.nil); exact rfl) | ((with_reducible apply Norm.cons); exact rfl) | ((with_reducible apply end_ret)) | exact rvs_nil | ((with_reducible apply rvs_cons)) | ((with_reducible apply rv_tmp); exact rfl) | ((with_reducible apply rv_cellAgg); exact rfl; exact rfl) | exact Nat.le_of_ble_eq_true rfl)
  all_goals exact ⟨_, ⟨gF, cF, gB, cB, rfl, rfl⟩, by (unfold RH; (repeat (first | exact HpSub.refl _ | (apply HpSub.consE; (repeat (first | exact P0 | apply P1)); exact rfl) | exact HpSub.nil)))⟩

theorem dn_add_ok (o : Off) (hv : OkO o) (A : Option Addr) (cf : Nat) (B : Option Addr) (cb : Nat) (w : World) (hA : RdS w 4 A o.fl.length (o.fl.map depCells)) (hB : RdS w 3 B o.bk.length (o.bk.map bkCells)) (dn ds dp dl : Int) (h : depOk ⟨ds, dp, dl, 0⟩ = true) (h2 : o.now ≤ dl) (h3 : o.fl.length < 10) : Calls Try.prog 80 #[.agg ⟨offCells o A cf B cb⟩, .agg ⟨[.int .u8 1, .int .i64 dn, .int .i64 ds, .int .i64 dp, .int .i64 dl]⟩] w fun e w' => ∃ v H', e = .returned v ∧ OkV ({ o with fl := o.fl ++ [⟨ds, dp, dl, 0⟩] }) v H' ∧ Has w ⟨[], []⟩ H' w' := by
  have hnb := hv.nb
  have hnf := hv.nf
  have hnow := hv.now
  have hinn := hv.inn
  have hfine := h
  have hFL := flat_len (f := depCells) (s := 4) (fun _ => rfl) o.fl
  have hF := flat_add depCells o.fl ⟨ds, dp, dl, 0⟩
  refine done_entry rfl o A cf B cb w hA hB (by omega) (by omega) [.int .u8 1, .int .i64 dn, .int .i64 ds, .int .i64 dp, .int .i64 dl] rfl fun b2 b3 b4 gF cF gB cB => ?_
  have hO : ∀ A' cf', (offCells o (some ⟨gF, 0, none⟩) cF (some ⟨gB, 0, none⟩) cB).set 3 (.slice A' (o.fl.length + 1) cf') = offCells { o with fl := o.fl ++ [⟨ds, dp, dl, 0⟩] } A' cf' (some ⟨gB, 0, none⟩) cB := fun A' cf' => offCells_add o _ _ _ _ _ _ _
  repeat' (first | ((with_reducible apply oq_id); first | ((with_reducible apply oq_eqlT); exact rfl; exact rfl; omega) | ((with_reducible apply oq_eqlF); exact rfl; exact rfl; omega) | ((with_reducible apply oq_lssF); exact rfl; exact rfl; omega) | (apply oq_fn; exact rfl; first | exact trivial | (refine ⟨?_, ?_⟩ <;> omega) | (refine ⟨?_, ?_, ?_⟩ <;> omega) | omega | skip) | ((with_reducible apply oq_load); exact rfl; exact rfl) | ((with_reducible apply oq_loadAgg); exact rfl; exact rfl) | ((with_reducible apply oq_call (k := 98) (hc := Try.call98)); exact rfl; exact rfl; exact fun D w1 hw1 => (hfine ▸ departure_calls _ _ _ _ w1)) | ((with_reducible apply oq_build); exact rfl; exact rfl; exact rfl)) | ((with_reducible apply tl_id); first | ((with_reducible apply tl_nil)) | ((with_reducible apply u_q); exact rfl; exact rfl; exact rfl; exact rfl) | ((with_reducible apply u_s0); exact rfl; exact rfl) | ((with_reducible apply u_s); exact rfl; exact rfl; exact rfl)) | ((with_reducible apply os_id); first | ((with_reducible apply os_storeB (hC := (hO _ _))); exact rfl; exact rfl; exact rfl; exact rfl; (repeat (first | exact P0 | apply P1)); exact Nat.le_of_ble_eq_true rfl) | ((with_reducible apply os_x); exact rfl) | ((with_reducible apply os_storeAgg); exact rfl; exact rfl; exact rfl; exact rfl; exact rfl) | ((with_reducible apply os_append (hk := app_ok22)); exact rfl; exact rfl; (repeat (first | exact P0 | apply P1)))) | ((with_reducible apply ox_id); first | ((with_reducible apply ox_alloc); exact rfl; intro _) | ((with_reducible apply ox_buildSlice); exact rfl; exact rfl; exact rfl; exact rfl)) | ((with_reducible apply rd_id); first | (apply Rd.own; (repeat (first | exact P0 | apply P1)); exact rfl; done)) | ((with_reducible apply t_id); first | ((with_reducible apply t_seq)) | (apply t_region; kernel_rfl) | ((with_reducible apply t_condT); exact rfl) | ((with_reducible apply t_condF); exact rfl) | ((with_reducible apply t_ret)) | ((with_reducible apply t_skip)) | ((with_reducible apply t_block))) | with_reducible apply q_thenN | with_reducible apply q_thenR | with_reducible apply q_blockR | exact P0 | ((with_reducible apply P1)) | exact Rdn.zero | apply Rdn.succ | ((with_reducible apply Norm.nil); exact rfl) | ((with_reducible apply Norm.cons); exact rfl) | ((with_reducible apply end_ret)) | exact rvs_nil | ((with_reducible apply rvs_cons)) | ((with_reducible apply rv_tmp); exact rfl) | ((with_reducible apply rv_cellAgg); exact rfl; exact rfl) | (intro gN cN; with_reducible apply tl_id) | exact hFL | exact Nat.le_of_ble_eq_true rfl | exact (rfl : (_ : Bool) = true) | omega | (intro _; with_reducible apply tl_id))
  all_goals exact ⟨_, ⟨gN, cN, gB, cB, rfl, rfl⟩, by (unfold RH; simp only [← hF]; (repeat (first | exact HpSub.refl _ | (apply HpSub.consE; (repeat (first | exact P0 | apply P1)); exact rfl) | exact HpSub.nil)))⟩

theorem dn_sell_ok1 (o : Off) (hv : OkO o) (A : Option Addr) (cf : Nat) (B : Option Addr) (cb : Nat) (w : World) (hA : RdS w 4 A o.fl.length (o.fl.map depCells)) (hB : RdS w 3 B o.bk.length (o.bk.map bkCells)) (dn ds dp dl : Int) (hO1 : openE o dn = 0) (h2 : o.bk.length < 120) (h3 : manyV o.bk dn 1 < (depAt o dn).seats) : Calls Try.prog 80 #[.agg ⟨offCells o A cf B cb⟩, .agg ⟨[.int .u8 2, .int .i64 dn, .int .i64 ds, .int .i64 dp, .int .i64 dl]⟩] w fun e w' => ∃ v H', e = .returned v ∧ OkV ({ o with bk := o.bk ++ [⟨dn, 1, 0⟩], inn := o.inn + (depAt o dn).price }) v H' ∧ Has w ⟨[], []⟩ H' w' := by
  have hnb := hv.nb
  have hnf := hv.nf
  have hnow := hv.now
  have hinn := hv.inn
  obtain ⟨i, d, rfl, hi, h0⟩ := openE_ok hO1
  have hil := (List.getElem?_eq_some_iff.1 hi).1
  have hdd := hv.dep hi
  have hdep : depAt o (i : Int) = d := by unfold depAt; rw [Int.toNat_natCast, hi]
  obtain ⟨r0, r1, r2, r3⟩ := dep_at hi
  have HW := fun w1 => within_calls ((i : Int)) 0 ((o.fl.length : Int) - 1) w1
  rw [decide_eq_true (show 0 ≤ (i : Int) by omega), decide_eq_true (show (i : Int) ≤ ((o.fl.length : Int) - 1) by omega)] at HW
  simp only [Bool.and_self] at HW
  have hFL := flat_len (f := bkCells) (s := 3) (fun _ => rfl) o.bk
  obtain ⟨mv, hmv⟩ : ∃ mv, manyV o.bk (i : Int) 1 = mv := ⟨_, rfl⟩
  rw [hmv, hdep] at h3
  rw [hdep]
  obtain ⟨oc, hoc⟩ : ∃ oc : Off, { o with bk := o.bk ++ [⟨(i : Int), 1, 0⟩] } = oc := ⟨_, rfl⟩
  obtain ⟨o2, ho2⟩ : ∃ o2 : Off, { o with bk := o.bk ++ [⟨(i : Int), 1, 0⟩], inn := o.inn + d.price } = o2 := ⟨_, rfl⟩
  rw [ho2]
  have hoi : oc.inn = o.inn := by rw [← hoc]
  have hof : oc.fl.length = o.fl.length := by rw [← hoc]
  have hfl2 : o2.fl = o.fl := by rw [← ho2]
  have hF : (o.bk.map bkCells).flatten ++ [.int .i64 (i : Int), .int .u8 1, .int .i64 0] = (o2.bk.map bkCells).flatten := by rw [← ho2]; exact flat_add bkCells o.bk ⟨(i : Int), 1, 0⟩
  refine done_entry rfl o A cf B cb w hA hB (by omega) (by omega) [.int .u8 2, .int .i64 (i : Int), .int .i64 ds, .int .i64 dp, .int .i64 dl] rfl fun b2 b3 b4 gF cF gB cB => ?_
  have HM := fun w1 hA1 hB1 => many_calls o (some ⟨gF, 0, none⟩) cF (some ⟨gB, 0, none⟩) cB w1 hA1 hB1 (by omega) (i : Int) 1
  rw [hmv] at HM
  have hO : ∀ B' cb', (offCells o (some ⟨gF, 0, none⟩) cF (some ⟨gB, 0, none⟩) cB).set 4 (.slice B' (o.bk.length + 1) cb') = offCells oc (some ⟨gF, 0, none⟩) cF B' cb' := fun B' cb' => by rw [← hoc]; exact offCells_sell o _ _ _ _ _ _ _
  have hO2 : ∀ B' cb', (offCells oc (some ⟨gF, 0, none⟩) cF B' cb').set 5 (.int .i64 (oc.inn + d.price)) = offCells o2 (some ⟨gF, 0, none⟩) cF B' cb' := fun B' cb' => by rw [← ho2, ← hoc]; rfl
  repeat' (first | ((with_reducible apply oq_id); first | (focus ((with_reducible apply oq_indexAddrN); exact rfl; exact rfl; exact rfl; exact rfl; omega)) | ((with_reducible apply oq_eqlT); exact rfl; exact rfl; omega) | ((with_reducible apply oq_eqlF); exact rfl; exact rfl; omega) | ((with_reducible apply oq_neqF); exact rfl; exact rfl; omega) | ((with_reducible apply oq_lssT); exact rfl; exact rfl; omega) | (apply oq_fn; exact rfl; first | exact trivial | (refine ⟨?_, ?_⟩ <;> omega) | (refine ⟨?_, ?_, ?_⟩ <;> omega) | omega | skip) | ((with_reducible apply oq_load); exact rfl; exact rfl) | ((with_reducible apply oq_loadAgg); exact rfl; exact rfl) | ((with_reducible apply oq_call (k := 66) (hc := Try.call66)); exact rfl; exact rfl; exact fun D w1 hw1 => HW w1) | ((with_reducible apply oq_call (k := 67) (hc := Try.call67)); exact rfl; exact rfl; exact fun D w1 hw1 => HM w1 (clH_rows (x := some (gF, cF)) (hw1.sub (show HpSub _ (clH 106 4 (o.fl.map depCells).flatten (some (gF, cF))) from (by simp only [clH_some]; (repeat (first | exact HpSub.refl _ | (apply HpSub.consE; (repeat (first | exact P0 | apply P1)); exact rfl) | apply HpSub.skipX | apply HpSub.skipX | exact HpSub.nil))))) (fun _ => rfl) rfl (fun h => by cases h)) (clH_rows (x := some (gB, cB)) (hw1.sub (show HpSub _ (clH 71 3 (o.bk.map bkCells).flatten (some (gB, cB))) from (by simp only [clH_some]; (repeat (first | exact HpSub.refl _ | (apply HpSub.consE; (repeat (first | exact P0 | apply P1)); exact rfl) | apply HpSub.skipX | apply HpSub.skipX | exact HpSub.nil))))) (fun _ => rfl) rfl (fun h => by cases h))) | ((with_reducible apply oq_build); exact rfl; exact rfl; exact rfl)) | ((with_reducible apply tl_id); first | ((with_reducible apply tl_nil)) | ((with_reducible apply u_q); exact rfl; exact rfl; exact rfl; exact rfl) | ((with_reducible apply u_s0); exact rfl; exact rfl) | ((with_reducible apply u_s); exact rfl; exact rfl; exact rfl) | ((with_reducible apply u_skip); exact rfl; exact rfl; exact rfl)) | ((with_reducible apply gx_id); first | ((with_reducible apply v_nil)) | ((with_reducible apply v_q); exact rfl; exact rfl; exact rfl)) | ((with_reducible apply os_id); first | ((with_reducible apply os_storeB (hC := (hO _ _))); exact rfl; exact rfl; exact rfl; exact rfl; (repeat (first | exact P0 | apply P1)); exact Nat.le_of_ble_eq_true rfl) | ((with_reducible apply os_storeB (hC := (hO2 _ _))); exact rfl; exact rfl; exact rfl; exact rfl; (repeat (first | exact P0 | apply P1)); exact Nat.le_of_ble_eq_true rfl) | ((with_reducible apply os_x); exact rfl) | ((with_reducible apply os_store); exact rfl; exact rfl; exact rfl; exact rfl) | ((with_reducible apply os_storeAgg); exact rfl; exact rfl; exact rfl; exact rfl; exact rfl) | ((with_reducible apply os_append (hk := app_ok23)); exact rfl; exact rfl; (repeat (first | exact P0 | apply P1)))) | ((with_reducible apply ox_id); first | ((with_reducible apply ox_alloc); exact rfl; intro _) | ((with_reducible apply ox_buildSlice); exact rfl; exact rfl; exact rfl; exact rfl)) | ((with_reducible apply ai_id); first | ((with_reducible apply ai_s0); exact rfl; exact rfl; exact rfl; exact rfl)) | ((with_reducible apply rd_id); first | (apply Rd.own; (repeat (first | exact P0 | apply P1)); first | exact r0 | exact r1 | exact r2 | exact r3 | exact q0 | exact q1 | exact q2; done) | (apply Rd.own; (repeat (first | exact P0 | apply P1)); exact rfl; done)) | ((with_reducible apply t_id); first | (apply t_mix (id := 20) [0, 1, 2, 3, 4, 5, 6, 7, 8, 9, 10, 11] 0 #[false, false, false, false, false, false, false, false, false, false, false, false]; kernel_rfl; kernel_rfl; exact rfl) | (apply t_mix (id := 23) [0, 1, 2, 3, 4, 5, 6, 7, 8, 9, 10] 1 #[false, false, false, false, false, false, false, false, false, false, false, true]; kernel_rfl; kernel_rfl; exact rfl) | ((with_reducible apply t_seq)) | (apply t_region; kernel_rfl) | ((with_reducible apply t_condT); exact rfl) | ((with_reducible apply t_condF); exact rfl) | ((with_reducible apply t_ret)) | ((with_reducible apply t_skip)) | ((with_reducible apply t_block))) | with_reducible apply q_thenN | with_reducible apply q_thenR | with_reducible apply q_blockR | exact P0 | ((with_reducible apply P1)) | exact Rdn.zero | apply Rdn.succ | ((with_reducible apply Norm.nil); exact rfl) | ((with_reducible apply Norm.cons); exact rfl) | ((with_reducible apply end_ret)) | exact rvs_nil | ((with_reducible apply rvs_cons)) | ((with_reducible apply rv_tmp); exact rfl) | ((with_reducible apply rv_cellAgg); exact rfl; exact rfl) | ((with_reducible apply al_id); first | (apply al_done; decide +kernel)) | ((with_reducible apply al_id); first | (apply al_one 11; decide +kernel)) | (intro gN cN; with_reducible apply tl_id) | exact hFL | exact Nat.le_of_ble_eq_true rfl | exact (rfl : (_ : Bool) = true) | omega | (intro _; with_reducible apply tl_id))
  all_goals exact ⟨_, ⟨gF, cF, gN, cN, rfl, rfl⟩, by (unfold RH; simp only [← hF, hfl2]; (repeat (first | exact HpSub.refl _ | (apply HpSub.consE; (repeat (first | exact P0 | apply P1)); exact rfl) | exact HpSub.nil)))⟩

theorem dn_sell_ok2 (o : Off) (hv : OkO o) (A : Option Addr) (cf : Nat) (B : Option Addr) (cb : Nat) (w : World) (hA : RdS w 4 A o.fl.length (o.fl.map depCells)) (hB : RdS w 3 B o.bk.length (o.bk.map bkCells)) (dn ds dp dl : Int) (hO1 : openE o dn = 0) (h2 : o.bk.length < 120) (h3 : ¬ manyV o.bk dn 1 < (depAt o dn).seats) : Calls Try.prog 80 #[.agg ⟨offCells o A cf B cb⟩, .agg ⟨[.int .u8 2, .int .i64 dn, .int .i64 ds, .int .i64 dp, .int .i64 dl]⟩] w fun e w' => ∃ v H', e = .returned v ∧ OkV ({ o with bk := o.bk ++ [⟨dn, 2, 0⟩], inn := o.inn + (depAt o dn).price }) v H' ∧ Has w ⟨[], []⟩ H' w' := by
  have hnb := hv.nb
  have hnf := hv.nf
  have hnow := hv.now
  have hinn := hv.inn
  obtain ⟨i, d, rfl, hi, h0⟩ := openE_ok hO1
  have hil := (List.getElem?_eq_some_iff.1 hi).1
  have hdd := hv.dep hi
  have hdep : depAt o (i : Int) = d := by unfold depAt; rw [Int.toNat_natCast, hi]
  obtain ⟨r0, r1, r2, r3⟩ := dep_at hi
  have HW := fun w1 => within_calls ((i : Int)) 0 ((o.fl.length : Int) - 1) w1
  rw [decide_eq_true (show 0 ≤ (i : Int) by omega), decide_eq_true (show (i : Int) ≤ ((o.fl.length : Int) - 1) by omega)] at HW
  simp only [Bool.and_self] at HW
  have hFL := flat_len (f := bkCells) (s := 3) (fun _ => rfl) o.bk
  obtain ⟨mv, hmv⟩ : ∃ mv, manyV o.bk (i : Int) 1 = mv := ⟨_, rfl⟩
  rw [hmv, hdep] at h3
  rw [hdep]
  obtain ⟨oc, hoc⟩ : ∃ oc : Off, { o with bk := o.bk ++ [⟨(i : Int), 2, 0⟩] } = oc := ⟨_, rfl⟩
  obtain ⟨o2, ho2⟩ : ∃ o2 : Off, { o with bk := o.bk ++ [⟨(i : Int), 2, 0⟩], inn := o.inn + d.price } = o2 := ⟨_, rfl⟩
  rw [ho2]
  have hoi : oc.inn = o.inn := by rw [← hoc]
  have hof : oc.fl.length = o.fl.length := by rw [← hoc]
  have hfl2 : o2.fl = o.fl := by rw [← ho2]
  have hF : (o.bk.map bkCells).flatten ++ [.int .i64 (i : Int), .int .u8 2, .int .i64 0] = (o2.bk.map bkCells).flatten := by rw [← ho2]; exact flat_add bkCells o.bk ⟨(i : Int), 2, 0⟩
  refine done_entry rfl o A cf B cb w hA hB (by omega) (by omega) [.int .u8 2, .int .i64 (i : Int), .int .i64 ds, .int .i64 dp, .int .i64 dl] rfl fun b2 b3 b4 gF cF gB cB => ?_
  have HM := fun w1 hA1 hB1 => many_calls o (some ⟨gF, 0, none⟩) cF (some ⟨gB, 0, none⟩) cB w1 hA1 hB1 (by omega) (i : Int) 1
  rw [hmv] at HM
  have hO : ∀ B' cb', (offCells o (some ⟨gF, 0, none⟩) cF (some ⟨gB, 0, none⟩) cB).set 4 (.slice B' (o.bk.length + 1) cb') = offCells oc (some ⟨gF, 0, none⟩) cF B' cb' := fun B' cb' => by rw [← hoc]; exact offCells_sell o _ _ _ _ _ _ _
  have hO2 : ∀ B' cb', (offCells oc (some ⟨gF, 0, none⟩) cF B' cb').set 5 (.int .i64 (oc.inn + d.price)) = offCells o2 (some ⟨gF, 0, none⟩) cF B' cb' := fun B' cb' => by rw [← ho2, ← hoc]; rfl
  repeat' (first | ((with_reducible apply oq_id); first | (focus ((with_reducible apply oq_indexAddrN); exact rfl; exact rfl; exact rfl; exact rfl; omega)) | ((with_reducible apply oq_eqlT); exact rfl; exact rfl; omega) | ((with_reducible apply oq_eqlF); exact rfl; exact rfl; omega) | ((with_reducible apply oq_neqF); exact rfl; exact rfl; omega) | ((with_reducible apply oq_lssF); exact rfl; exact rfl; omega) | (apply oq_fn; exact rfl; first | exact trivial | (refine ⟨?_, ?_⟩ <;> omega) | (refine ⟨?_, ?_, ?_⟩ <;> omega) | omega | skip) | ((with_reducible apply oq_load); exact rfl; exact rfl) | ((with_reducible apply oq_loadAgg); exact rfl; exact rfl) | ((with_reducible apply oq_call (k := 66) (hc := Try.call66)); exact rfl; exact rfl; exact fun D w1 hw1 => HW w1) | ((with_reducible apply oq_call (k := 67) (hc := Try.call67)); exact rfl; exact rfl; exact fun D w1 hw1 => HM w1 (clH_rows (x := some (gF, cF)) (hw1.sub (show HpSub _ (clH 106 4 (o.fl.map depCells).flatten (some (gF, cF))) from (by simp only [clH_some]; (repeat (first | exact HpSub.refl _ | (apply HpSub.consE; (repeat (first | exact P0 | apply P1)); exact rfl) | apply HpSub.skipX | apply HpSub.skipX | exact HpSub.nil))))) (fun _ => rfl) rfl (fun h => by cases h)) (clH_rows (x := some (gB, cB)) (hw1.sub (show HpSub _ (clH 71 3 (o.bk.map bkCells).flatten (some (gB, cB))) from (by simp only [clH_some]; (repeat (first | exact HpSub.refl _ | (apply HpSub.consE; (repeat (first | exact P0 | apply P1)); exact rfl) | apply HpSub.skipX | apply HpSub.skipX | exact HpSub.nil))))) (fun _ => rfl) rfl (fun h => by cases h))) | ((with_reducible apply oq_build); exact rfl; exact rfl; exact rfl)) | ((with_reducible apply tl_id); first | ((with_reducible apply tl_nil)) | ((with_reducible apply u_q); exact rfl; exact rfl; exact rfl; exact rfl) | ((with_reducible apply u_s0); exact rfl; exact rfl) | ((with_reducible apply u_s); exact rfl; exact rfl; exact rfl) | ((with_reducible apply u_skip); exact rfl; exact rfl; exact rfl)) | ((with_reducible apply gx_id); first | ((with_reducible apply v_nil)) | ((with_reducible apply v_q); exact rfl; exact rfl; exact rfl)) | ((with_reducible apply os_id); first | ((with_reducible apply os_storeB (hC := (hO _ _))); exact rfl; exact rfl; exact rfl; exact rfl; (repeat (first | exact P0 | apply P1)); exact Nat.le_of_ble_eq_true rfl) | ((with_reducible apply os_storeB (hC := (hO2 _ _))); exact rfl; exact rfl; exact rfl; exact rfl; (repeat (first | exact P0 | apply P1)); exact Nat.le_of_ble_eq_true rfl) | ((with_reducible apply os_x); exact rfl) | ((with_reducible apply os_storeAgg); exact rfl; exact rfl; exact rfl; exact rfl; exact rfl) | ((with_reducible apply os_append (hk := app_ok23)); exact rfl; exact rfl; (repeat (first | exact P0 | apply P1)))) | ((with_reducible apply ox_id); first | ((with_reducible apply ox_alloc); exact rfl; intro _) | ((with_reducible apply ox_buildSlice); exact rfl; exact rfl; exact rfl; exact rfl)) | ((with_reducible apply ai_id); first | ((with_reducible apply ai_s0); exact rfl; exact rfl; exact rfl; exact rfl)) | ((with_reducible apply rd_id); first | (apply Rd.own; (repeat (first | exact P0 | apply P1)); first | exact r0 | exact r1 | exact r2 | exact r3 | exact q0 | exact q1 | exact q2; done) | (apply Rd.own; (repeat (first | exact P0 | apply P1)); exact rfl; done)) | ((with_reducible apply t_id); first | (apply t_mix (id := 20) [0, 1, 2, 3, 4, 5, 6, 7, 8, 9, 10, 11] 0 #[false, false, false, false, false, false, false, false, false, false, false, false]; kernel_rfl; kernel_rfl; exact rfl) | (apply t_mix (id := 23) [0, 1, 2, 3, 4, 5, 6, 7, 8, 9, 10] 1 #[false, false, false, false, false, false, false, false, false, false, false, true]; kernel_rfl; kernel_rfl; exact rfl) | ((with_reducible apply t_seq)) | (apply t_region; kernel_rfl) | ((with_reducible apply t_condT); exact rfl) | ((with_reducible apply t_condF); exact rfl) | ((with_reducible apply t_ret)) | ((with_reducible apply t_skip)) | ((with_reducible apply t_block))) | with_reducible apply q_thenN | with_reducible apply q_thenR | with_reducible apply q_blockR | exact P0 | ((with_reducible apply P1)) | exact Rdn.zero | apply Rdn.succ | ((with_reducible apply Norm.nil); exact rfl) | ((with_reducible apply Norm.cons); exact rfl) | ((with_reducible apply end_ret)) | exact rvs_nil | ((with_reducible apply rvs_cons)) | ((with_reducible apply rv_tmp); exact rfl) | ((with_reducible apply rv_cellAgg); exact rfl; exact rfl) | ((with_reducible apply al_id); first | (apply al_done; decide +kernel)) | ((with_reducible apply al_id); first | (apply al_one 11; decide +kernel)) | (intro gN cN; with_reducible apply tl_id) | exact hFL | exact Nat.le_of_ble_eq_true rfl | exact (rfl : (_ : Bool) = true) | omega | (intro _; with_reducible apply tl_id))
  all_goals exact ⟨_, ⟨gF, cF, gN, cN, rfl, rfl⟩, by (unfold RH; simp only [← hF, hfl2]; (repeat (first | exact HpSub.refl _ | (apply HpSub.consE; (repeat (first | exact P0 | apply P1)); exact rfl) | exact HpSub.nil)))⟩

theorem dn_seats_ok (o : Off) (hv : OkO o) (A : Option Addr) (cf : Nat) (B : Option Addr) (cb : Nat) (w : World) (hA : RdS w 4 A o.fl.length (o.fl.map depCells)) (hB : RdS w 3 B o.bk.length (o.bk.map bkCells)) (dn ds dp dl : Int) (hO1 : openE o dn = 0) (h : 0 ≤ ds ∧ ds ≤ 50) (h2 : manyV o.bk dn 1 ≤ ds) : Calls Try.prog 80 #[.agg ⟨offCells o A cf B cb⟩, .agg ⟨[.int .u8 7, .int .i64 dn, .int .i64 ds, .int .i64 dp, .int .i64 dl]⟩] w fun e w' => ∃ v H', e = .returned v ∧ OkV (seatsV o ⟨7, dn, ds, dp, dl⟩) v H' ∧ Has w ⟨[], []⟩ H' w' := by
  have hnb := hv.nb
  have hnf := hv.nf
  have hnow := hv.now
  have hinn := hv.inn
  obtain ⟨i, d, rfl, hi, h0⟩ := openE_ok hO1
  have hil := (List.getElem?_eq_some_iff.1 hi).1
  have hdd := hv.dep hi
  have hdep : depAt o (i : Int) = d := by unfold depAt; rw [Int.toNat_natCast, hi]
  obtain ⟨r0, r1, r2, r3⟩ := dep_at hi
  have HW1 := fun w1 => within_calls ((i : Int)) 0 ((o.fl.length : Int) - 1) w1
  rw [decide_eq_true (show 0 ≤ (i : Int) by omega), decide_eq_true (show (i : Int) ≤ ((o.fl.length : Int) - 1) by omega)] at HW1
  simp only [Bool.and_self] at HW1
  have HW := fun w1 => within_calls (ds) 0 50 w1
  rw [decide_eq_true (show 0 ≤ ds by omega), decide_eq_true (show ds ≤ 50 by omega)] at HW
  simp only [Bool.and_self] at HW
  obtain ⟨o2, ho2⟩ : ∃ o2 : Off, { o with fl := o.fl.set i ⟨ds, d.price, d.leaves, d.state⟩ } = o2 := ⟨_, rfl⟩
  have hsv : seatsV o ⟨7, (i : Int), ds, dp, dl⟩ = givenV o2 i := by unfold seatsV; simp only [hdep, Int.toNat_natCast, ho2]
  rw [hsv]
  have hi2 : o2.fl[i]? = some ⟨ds, d.price, d.leaves, d.state⟩ := by rw [← ho2]; simp [hil]
  have hbk2 : o2.bk = o.bk := by rw [← ho2]
  have hb2 : o2.bk.length ≤ 1000 := by rw [hbk2]; omega
  have hf2 : o2.fl.length ≤ 1000 := by rw [← ho2]; simp only [List.length_set]; omega
  have hs2 : 0 ≤ (⟨ds, d.price, d.leaves, d.state⟩ : Dep).seats ∧ (⟨ds, d.price, d.leaves, d.state⟩ : Dep).seats ≤ 100000 := ⟨h.1, Int.le_trans h.2 (by decide)⟩
  have hoc : ∀ A cf B cb, offCells o A cf B cb = offCells o2 A cf B cb := fun A cf B cb => by rw [← ho2]; exact (offCells_len (o := o) (o' := { o with fl := o.fl.set i ⟨ds, d.price, d.leaves, d.state⟩ }) rfl rfl rfl rfl rfl (List.length_set ..) rfl A cf B cb).symm
  have hS1 : ((o.fl.map depCells).flatten).set (0 + i * 4) (.int .i64 ds) = (o2.fl.map depCells).flatten := by rw [← ho2]; exact dep_set0 hi ds
  have room1 : 0 + i * 4 + 1 ≤ ((o.fl.map depCells).flatten).length := by have := dep_room hi; omega
  obtain ⟨mv, hmv⟩ : ∃ mv, manyV o.bk (i : Int) 1 = mv := ⟨_, rfl⟩
  rw [hmv] at h2
  refine done_entry rfl o A cf B cb w hA hB (by omega) (by omega) [.int .u8 7, .int .i64 (i : Int), .int .i64 ds, .int .i64 dp, .int .i64 dl] rfl fun b2 b3 b4 gF cF gB cB => ?_
  have HM := fun w1 hA1 hB1 => many_calls o (some ⟨gF, 0, none⟩) cF (some ⟨gB, 0, none⟩) cB w1 hA1 hB1 (by omega) (i : Int) 1
  rw [hmv] at HM
  have HG := fun w1 hwG => given_T o2 gF cF gB cB w1 hwG hf2 hb2 i _ hi2 hs2
  unfold RV' at HG
  simp only [← hoc] at HG
  repeat' (first | ((with_reducible apply oq_id); first | (focus ((with_reducible apply oq_indexAddrN); exact rfl; exact rfl; exact rfl; exact rfl; omega)) | ((with_reducible apply oq_eqlT); exact rfl; exact rfl; omega) | ((with_reducible apply oq_eqlF); exact rfl; exact rfl; omega) | ((with_reducible apply oq_neqF); exact rfl; exact rfl; omega) | ((with_reducible apply oq_gtrF); exact rfl; exact rfl; omega) | (apply oq_fn; exact rfl; first | exact trivial | (refine ⟨?_, ?_⟩ <;> omega) | (refine ⟨?_, ?_, ?_⟩ <;> omega) | omega | skip) | ((with_reducible apply oq_load); exact rfl; exact rfl) | ((with_reducible apply oq_loadAgg); exact rfl; exact rfl) | ((with_reducible apply oq_call (k := 66) (hc := Try.call66)); exact rfl; exact rfl; exact fun D w1 hw1 => HW w1) | ((with_reducible apply oq_call (k := 67) (hc := Try.call67)); exact rfl; exact rfl; exact fun D w1 hw1 => HM w1 (clH_rows (x := some (gF, cF)) (hw1.sub (show HpSub _ (clH 106 4 (o.fl.map depCells).flatten (some (gF, cF))) from (by simp only [clH_some]; (repeat (first | exact HpSub.refl _ | (apply HpSub.consE; (repeat (first | exact P0 | apply P1)); exact rfl) | apply HpSub.skipX | apply HpSub.skipX | exact HpSub.nil))))) (fun _ => rfl) rfl (fun h => by cases h)) (clH_rows (x := some (gB, cB)) (hw1.sub (show HpSub _ (clH 71 3 (o.bk.map bkCells).flatten (some (gB, cB))) from (by simp only [clH_some]; (repeat (first | exact HpSub.refl _ | (apply HpSub.consE; (repeat (first | exact P0 | apply P1)); exact rfl) | apply HpSub.skipX | apply HpSub.skipX | exact HpSub.nil))))) (fun _ => rfl) rfl (fun h => by cases h))) | ((with_reducible apply oq_call (k := 66) (hc := Try.call66)); exact rfl; exact rfl; exact fun D w1 hw1 => HW1 w1)) | ((with_reducible apply tl_id); first | ((with_reducible apply tl_nil)) | ((with_reducible apply u_s); exact rfl; exact rfl; exact rfl; (with_reducible apply os_callM (PV := fun v H => v = .agg ⟨offCells (givenV o2 i) (some ⟨gF, 0, none⟩) cF (some ⟨gB, 0, none⟩) cB⟩ ∧ H = RH (givenV o2 i) gF cF gB cB) (G := RH o2 gF cF gB cB) (R := [(b4, [.int .i64 0, .int .i64 0, .int .i64 0, .slice none 0 0, .slice none 0 0, .int .i64 0, .int .i64 0], some (25, 7, 1))]) (k := 109) (hc := Try.call109)); exact rfl; exact rfl; (focus (unfold RH; simp only [hbk2, List.nil_append, List.cons_append]; (repeat (first | exact HpSub.refl _ | (apply HpSub.consE; (repeat (first | exact P0 | apply P1)); exact rfl) | apply HpSub.skipX | apply HpSub.skipX | exact HpSub.nil)))); exact (fun D w1 hw1 hwG => HG w1 hwG); rintro v H1 ⟨rfl, rfl⟩; (unfold RH; simp only [List.nil_append, List.cons_append])) | ((with_reducible apply u_q); exact rfl; exact rfl; exact rfl; exact rfl) | ((with_reducible apply u_s0); exact rfl; exact rfl)) | ((with_reducible apply gx_id); first | ((with_reducible apply v_nil)) | ((with_reducible apply v_q); exact rfl; exact rfl; exact rfl)) | ((with_reducible apply os_id); first | ((with_reducible apply os_storeB (hC := hS1)); exact rfl; exact rfl; exact rfl; exact rfl; (repeat (first | exact P0 | apply P1)); exact room1) | ((with_reducible apply os_storeAgg); exact rfl; exact rfl; exact rfl; exact rfl; exact rfl)) | ((with_reducible apply rd_id); first | (apply Rd.own; (repeat (first | exact P0 | apply P1)); first | exact r0 | exact r1 | exact r2 | exact r3 | exact q0 | exact q1 | exact q2; done) | (apply Rd.own; (repeat (first | exact P0 | apply P1)); exact rfl; done)) | ((with_reducible apply t_id); first | (apply t_mix (id := 41) [0, 1, 2, 3, 4, 5, 6] 0 #[false, false, false, false, false, false, false]; kernel_rfl; kernel_rfl; exact rfl) | ((with_reducible apply t_seq)) | (apply t_region; kernel_rfl) | ((with_reducible apply t_condT); exact rfl) | ((with_reducible apply t_condF); exact rfl) | ((with_reducible apply t_ret)) | ((with_reducible apply t_skip)) | ((with_reducible apply t_block))) | with_reducible apply q_thenN | with_reducible apply q_thenR | with_reducible apply q_blockR | exact P0 | ((with_reducible apply P1)) | exact Rdn.zero | apply Rdn.succ | ((with_reducible apply Norm.nil); exact rfl) | ((with_reducible apply Norm.cons); exact rfl) | ((with_reducible apply end_ret)) | exact rvs_nil | ((with_reducible apply rvs_cons)) | ((with_reducible apply rv_tmp); exact rfl) | ((with_reducible apply rv_cellAgg); exact rfl; exact rfl) | ((with_reducible apply al_id); first | (apply al_done; decide +kernel)) | exact Nat.le_of_ble_eq_true rfl)
  all_goals exact ⟨_, ⟨gF, cF, gB, cB, rfl, rfl⟩, by (unfold RH; (repeat (first | exact HpSub.refl _ | (apply HpSub.consE; (repeat (first | exact P0 | apply P1)); exact rfl) | exact HpSub.nil)))⟩

theorem dn_leave_ok (o : Off) (hv : OkO o) (A : Option Addr) (cf : Nat) (B : Option Addr) (cb : Nat) (w : World) (hA : RdS w 4 A o.fl.length (o.fl.map depCells)) (hB : RdS w 3 B o.bk.length (o.bk.map bkCells)) (dn ds dp dl : Int) (hO1 : openE o dn = 0) (h2 : (depAt o dn).leaves ≤ o.now) : Calls Try.prog 80 #[.agg ⟨offCells o A cf B cb⟩, .agg ⟨[.int .u8 4, .int .i64 dn, .int .i64 ds, .int .i64 dp, .int .i64 dl]⟩] w fun e w' => ∃ v H', e = .returned v ∧ OkV (closedV o dn.toNat (depAt o dn) 1 3) v H' ∧ Has w ⟨[], []⟩ H' w' := by
  have hnb := hv.nb
  have hnf := hv.nf
  have hnow := hv.now
  have hinn := hv.inn
  obtain ⟨i, d, rfl, hi, h0⟩ := openE_ok hO1
  have hil := (List.getElem?_eq_some_iff.1 hi).1
  have hdd := hv.dep hi
  have hdep : depAt o (i : Int) = d := by unfold depAt; rw [Int.toNat_natCast, hi]
  obtain ⟨r0, r1, r2, r3⟩ := dep_at hi
  have HW := fun w1 => within_calls ((i : Int)) 0 ((o.fl.length : Int) - 1) w1
  rw [decide_eq_true (show 0 ≤ (i : Int) by omega), decide_eq_true (show (i : Int) ≤ ((o.fl.length : Int) - 1) by omega)] at HW
  simp only [Bool.and_self] at HW
  rw [hdep] at h2
  rw [hdep, Int.toNat_natCast]
  refine done_entry rfl o A cf B cb w hA hB (by omega) (by omega) [.int .u8 4, .int .i64 (i : Int), .int .i64 ds, .int .i64 dp, .int .i64 dl] rfl fun b2 b3 b4 gF cF gB cB => ?_
  repeat' (first | ((with_reducible apply oq_id); first | (focus ((with_reducible apply oq_indexAddrN); exact rfl; exact rfl; exact rfl; exact rfl; omega)) | ((with_reducible apply oq_eqlT); exact rfl; exact rfl; omega) | ((with_reducible apply oq_eqlF); exact rfl; exact rfl; omega) | ((with_reducible apply oq_neqF); exact rfl; exact rfl; omega) | ((with_reducible apply oq_lssF); exact rfl; exact rfl; omega) | (apply oq_fn; exact rfl; first | exact trivial | (refine ⟨?_, ?_⟩ <;> omega) | (refine ⟨?_, ?_, ?_⟩ <;> omega) | omega | skip) | ((with_reducible apply oq_load); exact rfl; exact rfl) | ((with_reducible apply oq_loadAgg); exact rfl; exact rfl) | ((with_reducible apply oq_call (k := 66) (hc := Try.call66)); exact rfl; exact rfl; exact fun D w1 hw1 => HW w1)) | ((with_reducible apply tl_id); first | ((with_reducible apply tl_nil)) | ((with_reducible apply u_s); exact rfl; exact rfl; exact rfl; (with_reducible apply os_callM (PV := fun v H => v = RV' (closedV o i d 1 3) gF cF gB cB ∧ H = RH (closedV o i d 1 3) gF cF gB cB) (G := RH o gF cF gB cB) (R := [(b4, [.int .i64 0, .int .i64 0, .int .i64 0, .slice none 0 0, .slice none 0 0, .int .i64 0, .int .i64 0], some (25, 7, 1))]) (k := 108) (hc := Try.call108)); exact rfl; exact rfl; (focus (unfold RH; simp only [List.nil_append, List.cons_append]; (repeat (first | exact HpSub.refl _ | (apply HpSub.consE; (repeat (first | exact P0 | apply P1)); exact rfl) | apply HpSub.skipX | apply HpSub.skipX | exact HpSub.nil)))); exact (fun D w1 hw1 hwG => closed_T o hv gF cF gB cB w1 hwG i d hi 1 3 (by decide)); rintro v H1 ⟨rfl, rfl⟩; (unfold RH RV'; simp only [List.nil_append, List.cons_append])) | ((with_reducible apply u_q); exact rfl; exact rfl; exact rfl; exact rfl) | ((with_reducible apply u_s0); exact rfl; exact rfl) | ((with_reducible apply u_skip); exact rfl; exact rfl; exact rfl)) | ((with_reducible apply gx_id); first | ((with_reducible apply v_nil)) | ((with_reducible apply v_q); exact rfl; exact rfl; exact rfl)) | ((with_reducible apply os_id); first | ((with_reducible apply os_storeAgg); exact rfl; exact rfl; exact rfl; exact rfl; exact rfl)) | ((with_reducible apply rd_id); first | (apply Rd.own; (repeat (first | exact P0 | apply P1)); first | exact r0 | exact r1 | exact r2 | exact r3 | exact q0 | exact q1 | exact q2; done) | (apply Rd.own; (repeat (first | exact P0 | apply P1)); exact rfl; done)) | ((with_reducible apply t_id); first | (apply t_mix (id := 28) [0, 1, 2, 3, 4, 5, 6, 7, 8, 9] 0 #[false, false, false, false, false, false, false, false, false, false]; kernel_rfl; kernel_rfl; exact rfl) | ((with_reducible apply t_seq)) | (apply t_region; kernel_rfl) | ((with_reducible apply t_condT); exact rfl) | ((with_reducible apply t_condF); exact rfl) | ((with_reducible apply t_ret)) | ((with_reducible apply t_skip)) | ((with_reducible apply t_block))) | with_reducible apply q_thenN | with_reducible apply q_thenR | with_reducible apply q_blockR | exact P0 | ((with_reducible apply P1)) | exact Rdn.zero | apply Rdn.succ | ((with_reducible apply Norm.nil); exact rfl) | ((with_reducible apply Norm.cons); exact rfl) | ((with_reducible apply end_ret)) | exact rvs_nil | ((with_reducible apply rvs_cons)) | ((with_reducible apply rv_tmp); exact rfl) | ((with_reducible apply rv_cellAgg); exact rfl; exact rfl) | ((with_reducible apply al_id); first | (apply al_done; decide +kernel)) | exact Nat.le_of_ble_eq_true rfl)
  all_goals exact ⟨_, ⟨gF, cF, gB, cB, rfl, rfl⟩, by (unfold RH; (repeat (first | exact HpSub.refl _ | (apply HpSub.consE; (repeat (first | exact P0 | apply P1)); exact rfl) | exact HpSub.nil)))⟩

theorem dn_off_ok (o : Off) (hv : OkO o) (A : Option Addr) (cf : Nat) (B : Option Addr) (cb : Nat) (w : World) (hA : RdS w 4 A o.fl.length (o.fl.map depCells)) (hB : RdS w 3 B o.bk.length (o.bk.map bkCells)) (dn ds dp dl : Int) (hO1 : openE o dn = 0) : Calls Try.prog 80 #[.agg ⟨offCells o A cf B cb⟩, .agg ⟨[.int .u8 5, .int .i64 dn, .int .i64 ds, .int .i64 dp, .int .i64 dl]⟩] w fun e w' => ∃ v H', e = .returned v ∧ OkV (closedV o dn.toNat (depAt o dn) 2 4) v H' ∧ Has w ⟨[], []⟩ H' w' := by
  have hnb := hv.nb
  have hnf := hv.nf
  have hnow := hv.now
  have hinn := hv.inn
  obtain ⟨i, d, rfl, hi, h0⟩ := openE_ok hO1
  have hil := (List.getElem?_eq_some_iff.1 hi).1
  have hdd := hv.dep hi
  have hdep : depAt o (i : Int) = d := by unfold depAt; rw [Int.toNat_natCast, hi]
  obtain ⟨r0, r1, r2, r3⟩ := dep_at hi
  have HW := fun w1 => within_calls ((i : Int)) 0 ((o.fl.length : Int) - 1) w1
  rw [decide_eq_true (show 0 ≤ (i : Int) by omega), decide_eq_true (show (i : Int) ≤ ((o.fl.length : Int) - 1) by omega)] at HW
  simp only [Bool.and_self] at HW
  rw [hdep, Int.toNat_natCast]
  refine done_entry rfl o A cf B cb w hA hB (by omega) (by omega) [.int .u8 5, .int .i64 (i : Int), .int .i64 ds, .int .i64 dp, .int .i64 dl] rfl fun b2 b3 b4 gF cF gB cB => ?_
  repeat' (first | ((with_reducible apply oq_id); first | (focus ((with_reducible apply oq_indexAddrN); exact rfl; exact rfl; exact rfl; exact rfl; omega)) | ((with_reducible apply oq_eqlT); exact rfl; exact rfl; omega) | ((with_reducible apply oq_eqlF); exact rfl; exact rfl; omega) | ((with_reducible apply oq_neqF); exact rfl; exact rfl; omega) | (apply oq_fn; exact rfl; first | exact trivial | (refine ⟨?_, ?_⟩ <;> omega) | (refine ⟨?_, ?_, ?_⟩ <;> omega) | omega | skip) | ((with_reducible apply oq_load); exact rfl; exact rfl) | ((with_reducible apply oq_loadAgg); exact rfl; exact rfl) | ((with_reducible apply oq_call (k := 66) (hc := Try.call66)); exact rfl; exact rfl; exact fun D w1 hw1 => HW w1)) | ((with_reducible apply tl_id); first | ((with_reducible apply tl_nil)) | ((with_reducible apply u_s); exact rfl; exact rfl; exact rfl; (with_reducible apply os_callM (PV := fun v H => v = RV' (closedV o i d 2 4) gF cF gB cB ∧ H = RH (closedV o i d 2 4) gF cF gB cB) (G := RH o gF cF gB cB) (R := [(b4, [.int .i64 0, .int .i64 0, .int .i64 0, .slice none 0 0, .slice none 0 0, .int .i64 0, .int .i64 0], some (25, 7, 1))]) (k := 108) (hc := Try.call108)); exact rfl; exact rfl; (focus (unfold RH; simp only [List.nil_append, List.cons_append]; (repeat (first | exact HpSub.refl _ | (apply HpSub.consE; (repeat (first | exact P0 | apply P1)); exact rfl) | apply HpSub.skipX | apply HpSub.skipX | exact HpSub.nil)))); exact (fun D w1 hw1 hwG => closed_T o hv gF cF gB cB w1 hwG i d hi 2 4 (by decide)); rintro v H1 ⟨rfl, rfl⟩; (unfold RH RV'; simp only [List.nil_append, List.cons_append])) | ((with_reducible apply u_q); exact rfl; exact rfl; exact rfl; exact rfl) | ((with_reducible apply u_s0); exact rfl; exact rfl) | ((with_reducible apply u_skip); exact rfl; exact rfl; exact rfl)) | ((with_reducible apply os_id); first | ((with_reducible apply os_storeAgg); exact rfl; exact rfl; exact rfl; exact rfl; exact rfl)) | ((with_reducible apply rd_id); first | (apply Rd.own; (repeat (first | exact P0 | apply P1)); first | exact r0 | exact r1 | exact r2 | exact r3 | exact q0 | exact q1 | exact q2; done) | (apply Rd.own; (repeat (first | exact P0 | apply P1)); exact rfl; done)) | ((with_reducible apply t_id); first | ((with_reducible apply t_seq)) | (apply t_region; kernel_rfl) | ((with_reducible apply t_condT); exact rfl) | ((with_reducible apply t_condF); exact rfl) | ((with_reducible apply t_ret)) | ((with_reducible apply t_skip)) | ((with_reducible apply t_block))) | with_reducible apply q_thenN | with_reducible apply q_thenR | with_reducible apply q_blockR | exact P0 | ((with_reducible apply P1)) | exact Rdn.zero | apply Rdn.succ | ((with_reducible apply Norm.nil); exact rfl) | ((with_reducible apply Norm.cons); exact rfl) | ((with_reducible apply end_ret)) | exact rvs_nil | ((with_reducible apply rvs_cons)) | ((with_reducible apply rv_tmp); exact rfl) | ((with_reducible apply rv_cellAgg); exact rfl; exact rfl) | exact Nat.le_of_ble_eq_true rfl)
  all_goals exact ⟨_, ⟨gF, cF, gB, cB, rfl, rfl⟩, by (unfold RH; (repeat (first | exact HpSub.refl _ | (apply HpSub.consE; (repeat (first | exact P0 | apply P1)); exact rfl) | exact HpSub.nil)))⟩

theorem dn_cancel_ok (o : Off) (hv : OkO o) (A : Option Addr) (cf : Nat) (B : Option Addr) (cb : Nat) (w : World) (hA : RdS w 4 A o.fl.length (o.fl.map depCells)) (hB : RdS w 3 B o.bk.length (o.bk.map bkCells)) (dn ds dp dl : Int) (hin : 0 ≤ dn ∧ dn < (o.bk.length : Int)) (hst : (bkAt o dn).state = 1 ∨ (bkAt o dn).state = 2) : Calls Try.prog 80 #[.agg ⟨offCells o A cf B cb⟩, .agg ⟨[.int .u8 3, .int .i64 dn, .int .i64 ds, .int .i64 dp, .int .i64 dl]⟩] w fun e w' => ∃ v H', e = .returned v ∧ OkV (cancelV o dn) v H' ∧ Has w ⟨[], []⟩ H' w' := by
  have hnb := hv.nb
  have hnf := hv.nf
  have hnow := hv.now
  have hinn := hv.inn
  refine done_entry rfl o A cf B cb w hA hB (by omega) (by omega) [.int .u8 3, .int .i64 dn, .int .i64 ds, .int .i64 dp, .int .i64 dl] rfl fun b2 b3 b4 gF cF gB cB => ?_
  repeat' (first | ((with_reducible apply oq_id); first | ((with_reducible apply oq_eqlT); exact rfl; exact rfl; omega) | ((with_reducible apply oq_eqlF); exact rfl; exact rfl; omega) | (apply oq_fn; exact rfl; first | exact trivial | (refine ⟨?_, ?_⟩ <;> omega) | (refine ⟨?_, ?_, ?_⟩ <;> omega) | omega | skip) | ((with_reducible apply oq_load); exact rfl; exact rfl) | ((with_reducible apply oq_loadAgg); exact rfl; exact rfl)) | ((with_reducible apply tl_id); first | ((with_reducible apply tl_nil)) | ((with_reducible apply u_s); exact rfl; exact rfl; exact rfl; (with_reducible apply os_callM (PV := fun v H => v = .tuple #[RV' (cancelV o dn) gF cF gB cB, .int .i64 0] ∧ H = RH (cancelV o dn) gF cF gB cB) (G := RH o gF cF gB cB) (R := [(b4, [.int .i64 0, .int .i64 0, .int .i64 0, .slice none 0 0, .slice none 0 0, .int .i64 0, .int .i64 0], some (25, 7, 1))]) (k := 107) (hc := Try.call107)); exact rfl; exact rfl; (focus (unfold RH; simp only [List.nil_append, List.cons_append]; (repeat (first | exact HpSub.refl _ | (apply HpSub.consE; (repeat (first | exact P0 | apply P1)); exact rfl) | apply HpSub.skipX | apply HpSub.skipX | exact HpSub.nil)))); exact (fun D w1 hw1 hwG => cancelled_ok o hv gF cF gB cB w1 hwG dn hin hst); rintro v H1 ⟨rfl, rfl⟩; (unfold RH RV'; simp only [List.nil_append, List.cons_append])) | ((with_reducible apply u_q); exact rfl; exact rfl; exact rfl; exact rfl) | ((with_reducible apply u_s0); exact rfl; exact rfl)) | ((with_reducible apply os_id); first | ((with_reducible apply os_storeAgg); exact rfl; exact rfl; exact rfl; exact rfl; exact rfl)) | ((with_reducible apply rd_id); first | (apply Rd.own; (repeat (first | exact P0 | apply P1)); exact rfl; done)) | ((with_reducible apply t_id); first | ((with_reducible apply t_seq)) | (apply t_region; kernel_rfl) | ((with_reducible apply t_condT); exact rfl) | ((with_reducible apply t_condF); exact rfl) | ((with_reducible apply t_ret)) | ((with_reducible apply t_skip)) | ((with_reducible apply t_block))) | with_reducible apply q_thenN | with_reducible apply q_thenR | with_reducible apply q_blockR | exact P0 | ((with_reducible apply P1)) | exact Rdn.zero | apply Rdn.succ | ((with_reducible apply Norm.nil); exact rfl) | ((with_reducible apply Norm.cons); exact rfl) | ((with_reducible apply end_ret)) | exact rvs_nil | ((with_reducible apply rvs_cons)) | ((with_reducible apply rv_tmp); exact rfl) | ((with_reducible apply rv_cellAgg); exact rfl; exact rfl) | exact Nat.le_of_ble_eq_true rfl)
  all_goals exact ⟨_, ⟨gF, cF, gB, cB, rfl, rfl⟩, by (unfold RH; (repeat (first | exact HpSub.refl _ | (apply HpSub.consE; (repeat (first | exact P0 | apply P1)); exact rfl) | exact HpSub.nil)))⟩

end Go.Proofs.Ytmlmgipngbndgaa
/- The reference's deals. -/
namespace Go.Proofs.Ytmlmgipngbndgaa
open Go.RowKit
attribute [local irreducible] OQ OS OX Rd T TL GX GL AL AI RV wpG SAny Calls
set_option maxRecDepth 100000
set_option maxHeartbeats 2000000
set_option linter.unusedVariables false
set_option linter.unusedSimpArgs false

theorem refDone_ok (o : Off) (hv : OkO o) (A : Option Addr) (cf : Nat) (B : Option Addr) (cb : Nat) (w : World) (hA : RdS w 4 A o.fl.length (o.fl.map depCells)) (hB : RdS w 3 B o.bk.length (o.bk.map bkCells)) (d : Deal) (hE : doneE o d = 0) : Calls Try.prog 80 #[.agg ⟨offCells o A cf B cb⟩, .agg ⟨dealCells d⟩] w fun e w' => ∃ v H', e = .returned v ∧ OkV (doneO o d) v H' ∧ Has w ⟨[], []⟩ H' w' := by
  obtain ⟨dk, dn, ds, dp, dl⟩ := d
  unfold dealCells
  unfold doneE at hE
  unfold doneO
  simp only at hE ⊢
  by_cases k1 : dk = 1
  · subst k1
    rw [if_pos rfl] at hE ⊢
    by_cases c1 : depOk ⟨ds, dp, dl, 0⟩ = true ∧ o.now ≤ dl
    · rw [if_pos c1] at hE
      by_cases c2 : o.fl.length < 10
      · exact dn_add_ok o hv A cf B cb w hA hB dn ds dp dl c1.1 c1.2 c2
      · rw [if_neg c2] at hE; exact absurd hE (by decide)
    · rw [if_neg c1] at hE; exact absurd hE (by decide)
  rw [if_neg k1] at hE ⊢
  by_cases k2 : dk = 2
  · subst k2
    rw [if_pos rfl] at hE ⊢
    by_cases c1 : openE o dn = 0
    · rw [if_pos c1] at hE
      by_cases c2 : o.bk.length < 120
      · obtain ⟨i, e, rfl, hi, h0⟩ := openE_ok c1
        have hdep : depAt o (i : Int) = e := by unfold depAt; rw [Int.toNat_natCast, hi]
        rw [sell_eq hv hi h0]
        by_cases c3 : manyV o.bk (i : Int) 1 < e.seats
        · rw [if_pos c3]
          have := dn_sell_ok1 o hv A cf B cb w hA hB (i : Int) ds dp dl c1 c2 (by rw [hdep]; exact c3)
          rw [hdep] at this
          exact this
        · rw [if_neg c3]
          have := dn_sell_ok2 o hv A cf B cb w hA hB (i : Int) ds dp dl c1 c2 (by rw [hdep]; exact c3)
          rw [hdep] at this
          exact this
      · rw [if_neg c2] at hE; exact absurd hE (by decide)
    · rw [if_neg c1] at hE; exact absurd hE c1
  rw [if_neg k2] at hE ⊢
  by_cases k3 : dk = 3
  · subst k3
    rw [if_pos rfl] at hE ⊢
    by_cases c1 : 0 ≤ dn ∧ dn < (o.bk.length : Int)
    · rw [if_pos c1] at hE
      by_cases c2 : (bkAt o dn).state = 1 ∨ (bkAt o dn).state = 2
      · exact dn_cancel_ok o hv A cf B cb w hA hB dn ds dp dl c1 c2
      · rw [if_neg c2] at hE; exact absurd hE (by decide)
    · rw [if_neg c1] at hE; exact absurd hE (by decide)
  rw [if_neg k3] at hE ⊢
  by_cases k4 : dk = 4
  · subst k4
    rw [if_pos rfl] at hE ⊢
    by_cases c1 : openE o dn = 0
    · rw [if_pos c1] at hE
      by_cases c2 : (depAt o dn).leaves ≤ o.now
      · exact dn_leave_ok o hv A cf B cb w hA hB dn ds dp dl c1 c2
      · rw [if_neg c2] at hE; exact absurd hE (by decide)
    · rw [if_neg c1] at hE; exact absurd hE c1
  rw [if_neg k4] at hE ⊢
  by_cases k5 : dk = 5
  · subst k5
    rw [if_pos rfl] at hE ⊢
    exact dn_off_ok o hv A cf B cb w hA hB dn ds dp dl hE
  rw [if_neg k5] at hE ⊢
  by_cases k6 : dk = 6
  · subst k6
    rw [if_pos rfl] at hE ⊢
    by_cases c1 : 1 ≤ dn ∧ dn ≤ 1000000 ∧ o.now + dn ≤ 1000000
    · exact dn_tick_ok o hv A cf B cb w hA hB dn ds dp dl c1
    · rw [if_neg c1] at hE; exact absurd hE (by decide)
  rw [if_neg k6] at hE ⊢
  by_cases k7 : dk = 7
  · subst k7
    rw [if_pos rfl] at hE
    by_cases c1 : openE o dn = 0
    · rw [if_pos c1] at hE
      by_cases c2 : 0 ≤ ds ∧ ds ≤ 50
      · rw [if_pos c2] at hE
        by_cases c3 : manyV o.bk dn 1 ≤ ds
        · exact dn_seats_ok o hv A cf B cb w hA hB dn ds dp dl c1 c2 c3
        · rw [if_neg c3] at hE; exact absurd hE (by decide)
      · rw [if_neg c2] at hE; exact absurd hE (by decide)
    · rw [if_neg c1] at hE; exact absurd hE c1
  rw [if_neg k7] at hE
  exact absurd hE (by decide)
theorem openE_cases (o : Off) (n : Int) (h : ¬ openE o n = 0) : (openE o n = 2 ∧ ¬ (0 ≤ n ∧ n < (o.fl.length : Int))) ∨ (openE o n = 85 ∧ ¬ openE o n = 2) := by
  by_cases hin : 0 ≤ n ∧ n < (o.fl.length : Int)
  · obtain ⟨d, hd⟩ : ∃ d, o.fl[n.toNat]? = some d := ⟨_, List.getElem?_eq_getElem (by omega)⟩
    have e : openE o n = if d.state = 0 then 0 else 85 := by unfold openE; rw [if_pos hin, hd]
    by_cases hs : d.state = 0
    · rw [e, if_pos hs] at h; exact absurd rfl h
    · rw [e, if_neg hs]; exact .inr ⟨rfl, by decide⟩
  · exact .inl ⟨by unfold openE; rw [if_neg hin], hin⟩
theorem refDone_no (o : Off) (hv : OkO o) (A : Option Addr) (cf : Nat) (B : Option Addr) (cb : Nat) (w : World) (hA : RdS w 4 A o.fl.length (o.fl.map depCells)) (hB : RdS w 3 B o.bk.length (o.bk.map bkCells)) (d : Deal) (hE : ¬ doneE o d = 0) : Calls Try.prog 80 #[.agg ⟨offCells o A cf B cb⟩, .agg ⟨dealCells d⟩] w fun e w' => ∃ v H', e = .returned v ∧ NoV (doneE o d) v H' ∧ Has w ⟨[], []⟩ H' w' := by
  obtain ⟨dk, dn, ds, dp, dl⟩ := d
  unfold dealCells
  unfold doneE at hE ⊢
  simp only at hE ⊢
  by_cases k1 : dk = 1
  · subst k1
    rw [if_pos rfl] at hE ⊢
    by_cases c1 : depOk ⟨ds, dp, dl, 0⟩ = true ∧ o.now ≤ dl
    · rw [if_pos c1] at hE ⊢
      by_cases c2 : o.fl.length < 10
      · rw [if_pos c2] at hE; exact absurd rfl hE
      · rw [if_neg c2]; exact dn_add_full o hv A cf B cb w hA hB dn ds dp dl c1.1 c1.2 c2
    · rw [if_neg c1]
      cases hf : depOk ⟨ds, dp, dl, 0⟩ with
      | false => exact dn_add_arg1 o hv A cf B cb w hA hB dn ds dp dl hf
      | true => exact dn_add_arg2 o hv A cf B cb w hA hB dn ds dp dl hf (fun hh => c1 ⟨hf, hh⟩)
  rw [if_neg k1] at hE ⊢
  by_cases k2 : dk = 2
  · subst k2
    rw [if_pos rfl] at hE ⊢
    by_cases c1 : openE o dn = 0
    · rw [if_pos c1] at hE ⊢
      by_cases c2 : o.bk.length < 120
      · rw [if_pos c2] at hE; exact absurd rfl hE
      · rw [if_neg c2]; exact dn_sell_full o hv A cf B cb w hA hB dn ds dp dl c1 c2
    · rw [if_neg c1]
      rcases openE_cases o dn c1 with ⟨e, h⟩ | ⟨e, h⟩
      · rw [e]; exact dn_sell_arg o hv A cf B cb w hA hB dn ds dp dl h
      · rw [e]; exact dn_sell_gone o hv A cf B cb w hA hB dn ds dp dl c1 h
  rw [if_neg k2] at hE ⊢
  by_cases k3 : dk = 3
  · subst k3
    rw [if_pos rfl] at hE ⊢
    by_cases c1 : 0 ≤ dn ∧ dn < (o.bk.length : Int)
    · rw [if_pos c1] at hE ⊢
      by_cases c2 : (bkAt o dn).state = 1 ∨ (bkAt o dn).state = 2
      · rw [if_pos c2] at hE; exact absurd rfl hE
      · rw [if_neg c2]; exact dn_cancel_gone o hv A cf B cb w hA hB dn ds dp dl c1 c2
    · rw [if_neg c1]; exact dn_cancel_arg o hv A cf B cb w hA hB dn ds dp dl c1
  rw [if_neg k3] at hE ⊢
  by_cases k4 : dk = 4
  · subst k4
    rw [if_pos rfl] at hE ⊢
    by_cases c1 : openE o dn = 0
    · rw [if_pos c1] at hE ⊢
      by_cases c2 : (depAt o dn).leaves ≤ o.now
      · rw [if_pos c2] at hE; exact absurd rfl hE
      · rw [if_neg c2]; exact dn_leave_early o hv A cf B cb w hA hB dn ds dp dl c1 c2
    · rw [if_neg c1]
      rcases openE_cases o dn c1 with ⟨e, h⟩ | ⟨e, h⟩
      · rw [e]; exact dn_leave_arg o hv A cf B cb w hA hB dn ds dp dl h
      · rw [e]; exact dn_leave_gone o hv A cf B cb w hA hB dn ds dp dl c1 h
  rw [if_neg k4] at hE ⊢
  by_cases k5 : dk = 5
  · subst k5
    rw [if_pos rfl] at hE ⊢
    rcases openE_cases o dn hE with ⟨e, h⟩ | ⟨e, h⟩
    · rw [e]; exact dn_off_arg o hv A cf B cb w hA hB dn ds dp dl h
    · rw [e]; exact dn_off_gone o hv A cf B cb w hA hB dn ds dp dl hE h
  rw [if_neg k5] at hE ⊢
  by_cases k6 : dk = 6
  · subst k6
    rw [if_pos rfl] at hE ⊢
    by_cases c1 : 1 ≤ dn ∧ dn ≤ 1000000 ∧ o.now + dn ≤ 1000000
    · rw [if_pos c1] at hE; exact absurd rfl hE
    · rw [if_neg c1]
      by_cases c2 : 1 ≤ dn ∧ dn ≤ 1000000
      · exact dn_tick2 o hv A cf B cb w hA hB dn ds dp dl c2 (fun hh => c1 ⟨c2.1, c2.2, hh⟩)
      · exact dn_tick1 o hv A cf B cb w hA hB dn ds dp dl c2
  rw [if_neg k6] at hE ⊢
  by_cases k7 : dk = 7
  · subst k7
    rw [if_pos rfl] at hE ⊢
    by_cases c1 : openE o dn = 0
    · rw [if_pos c1] at hE ⊢
      by_cases c2 : 0 ≤ ds ∧ ds ≤ 50
      · rw [if_pos c2] at hE ⊢
        by_cases c3 : manyV o.bk dn 1 ≤ ds
        · rw [if_pos c3] at hE; exact absurd rfl hE
        · rw [if_neg c3]; exact dn_seats_full o hv A cf B cb w hA hB dn ds dp dl c1 c2 c3
      · rw [if_neg c2]; exact dn_seats_rng o hv A cf B cb w hA hB dn ds dp dl c1 c2
    · rw [if_neg c1]
      rcases openE_cases o dn c1 with ⟨e, h⟩ | ⟨e, h⟩
      · rw [e]; exact dn_seats_arg o hv A cf B cb w hA hB dn ds dp dl h
      · rw [e]; exact dn_seats_gone o hv A cf B cb w hA hB dn ds dp dl c1 h
  rw [if_neg k7]
  exact dn_kind o hv A cf B cb w hA hB dk dn ds dp dl (by omega)

end Go.Proofs.Ytmlmgipngbndgaa
