/- A part of the proof: rules for walks, and contracts of functions (11). -/
import Derived.Test.YtcjkndjjbjoehaaX4H
import Derived.Test.YtcjkndjjbjoehaaX4J
import Derived.Test.YtcjkndjjbjoehaaX4D
set_option linter.unusedVariables false
set_option linter.unusedSimpArgs false
set_option maxRecDepth 100000
set_option maxHeartbeats 2000000
namespace Go.Proofs.Ytcjkndjjbjoehaa
theorem goK0 {G A1 A2 A3 A4 A5 A6 A7 A8 A9 A10 A11 A12 A13 A14 A15 A16 : Prop} (p : Ps A1 A2 A3 A4 A5 A6 A7 A8 A9 A10 A11 A12 A13 A14 A15 A16) (h : Lf A1 → Lf A2 → Lf A3 → Lf A4 → Lf A5 → Lf A6 → Lf A7 → Lf A8 → Lf A9 → Lf A10 → Lf A11 → Lf A12 → Lf A13 → Lf A14 → Lf A15 → Lf A16 → Mk0 → G := by intro m1 m2 m3 m4 m5 m6 m7 m8 m9 m10 m11 m12 m13 m14 m15 m16 _; (repeat' (first | ((with_reducible apply oq_id); first | ((with_reducible apply oc_id); first | ((with_reducible apply oq_call (k := 45) (hc := Try.call45)); exact rfl; exact rfl; (intro D w1 hw1; refine rfrom1_t ?_ hw1 (by (repeat (first | exact P0 | apply P1))); omega)) | ((with_reducible apply oq_call (k := 45) (hc := Try.call45)); exact rfl; exact rfl; (intro D w1 hw1; refine rfrom1_f ?_ hw1 (by (repeat (first | exact P0 | apply P1))); omega)) | ((with_reducible apply oq_call (k := 45) (hc := Try.call45)); exact rfl; exact rfl; (intro D w1 hw1; refine rfrom2_t ?_ hw1 (by (repeat (first | exact P0 | apply P1))); omega)) | ((with_reducible apply oq_call (k := 45) (hc := Try.call45)); exact rfl; exact rfl; (intro D w1 hw1; refine rfrom2_f ?_ hw1 (by (repeat (first | exact P0 | apply P1))); omega)) | ((with_reducible apply oq_call (k := 18) (hc := Try.call18)); exact rfl; exact rfl; exact fun D w1 hw1 => HC w1 hw1.ext.ext) | ((with_reducible apply oq_call (k := 55) (hc := Try.call55)); exact rfl; exact rfl; exact fun D w1 hw1 => HL w1) | ((with_reducible apply oq_call (k := 51) (hc := Try.call51)); exact rfl; exact rfl; (intro D w1 hw1; refine within6_t _ _ _ ?_ w1; omega)) | ((with_reducible apply oq_call (k := 51) (hc := Try.call51)); exact rfl; exact rfl; (intro D w1 hw1; refine within6_f _ _ _ ?_ w1; omega)) | ((with_reducible apply oq_call (k := 56) (hc := Try.call56)); exact rfl; exact rfl; exact fun D w1 hw1 => HC w1 hw1.ext.ext) | ((with_reducible apply oq_call (k := 21) (hc := Try.call21)); exact rfl; exact rfl; exact fun D w1 hw1 => HP w1) | ((with_reducible apply oq_call (k := 23) (hc := Try.call23)); exact rfl; exact rfl; exact fun D w1 hw1 => HK w1 hw1.ext.ext) | ((with_reducible apply oq_call (k := 60) (hc := Try.call60)); exact rfl; exact rfl; exact fun D w1 hw1 => HA w1 hw1.ext.ext) | ((with_reducible apply oq_call (k := 61) (hc := Try.call61)); exact rfl; exact rfl; exact fun D w1 hw1 => HQ w1 hw1.ext.ext) | ((with_reducible apply oq_call (k := 57) (hc := Try.call57)); exact rfl; exact rfl; exact fun D w1 hw1 => HL w1)) | ((with_reducible apply ob_id); first | (focus ((with_reducible apply (oq_subE (k := (n : Int) - 1))); exact rfl; exact rfl; omega)) | ((with_reducible apply oq_neqT); exact rfl; exact rfl; omega) | ((with_reducible apply oq_neqF); exact rfl; exact rfl; omega) | ((with_reducible apply oq_lssT); exact rfl; exact rfl; omega) | ((with_reducible apply oq_lssF); exact rfl; exact rfl; omega)) | (focus ((with_reducible apply oq_indexAddrN (i := j)); exact rfl; exact rfl; exact rfl; exact rfl; omega)) | (apply oq_fn; exact rfl; first | exact trivial | (refine ⟨?_, ?_⟩ <;> omega) | (refine ⟨?_, ?_, ?_⟩ <;> omega) | omega | skip) | ((with_reducible apply oq_load); exact rfl; exact rfl) | ((with_reducible apply oq_loadAgg); exact rfl; exact rfl) | ((with_reducible apply oq_build); exact rfl; exact rfl; exact rfl) | ((with_reducible apply oq_buildA); exact rfl; exact rfl; exact rfl; exact rfl) | ((with_reducible apply oq_fieldAgg); exact rfl; exact rfl; exact rfl) | ((with_reducible apply oq_indexAgg); exact rfl; exact rfl; exact rfl; exact rfl)) | ((with_reducible apply tl_id); first | ((with_reducible apply tl_nil)) | ((with_reducible apply u_q); exact rfl; exact rfl; exact rfl; exact rfl) | ((with_reducible apply u_s0); exact rfl; exact rfl) | ((with_reducible apply u_s); exact rfl; exact rfl; exact rfl) | ((with_reducible apply u_skip); exact rfl; exact rfl; exact rfl) | ((with_reducible apply u_splitD); exact rfl; exact rfl; all_goals first | (intro _; try (exfalso; omega)) | skip) | ((with_reducible apply u_splitN); exact rfl; exact rfl; all_goals first | (intro _; try (exfalso; omega)) | skip) | ((with_reducible apply u_split); exact rfl; exact rfl; all_goals first | intro _ | skip)) | ((with_reducible apply gx_id); first | ((with_reducible apply v_nil)) | ((with_reducible apply v_q); exact rfl; exact rfl; exact rfl) | ((with_reducible apply v_skip); exact rfl; exact rfl; exact rfl) | ((with_reducible apply v_splitD); exact rfl; exact rfl; all_goals first | (intro _; try (exfalso; omega)) | skip) | ((with_reducible apply v_splitN); exact rfl; exact rfl; all_goals first | (intro _; try (exfalso; omega)) | skip) | ((with_reducible apply v_split); exact rfl; exact rfl; all_goals first | intro _ | skip)) | ((with_reducible apply os_id); first | ((with_reducible apply os_x); exact rfl) | ((with_reducible apply os_store); exact rfl; exact rfl; exact rfl; exact rfl) | ((with_reducible apply os_storeAgg); exact rfl; exact rfl; exact rfl; exact rfl; exact rfl)) | ((with_reducible apply ox_id); first | ((with_reducible apply ox_alloc); exact rfl; intro _) | ((with_reducible apply ox_box); exact rfl; exact rfl; intro _) | ((with_reducible apply ox_boxAgg); exact rfl; intro _) | ((with_reducible apply ox_buildSlice1); exact rfl; exact rfl; exact rfl; exact rfl; exact rfl; exact rfl; intro _) | ((with_reducible apply ox_buildSlice2); exact rfl; exact rfl; exact rfl; exact rfl; exact rfl; exact rfl; intro _) | ((with_reducible apply ox_buildSlice); exact rfl; exact rfl; exact rfl; exact rfl)) | ((with_reducible apply ai_id); first | ((with_reducible apply ai_q); exact rfl; exact rfl; exact rfl; exact rfl; exact rfl) | ((with_reducible apply ai_x); exact rfl; exact rfl; exact rfl; exact rfl; exact rfl) | ((with_reducible apply ai_s0); exact rfl; exact rfl; exact rfl; exact rfl) | ((with_reducible apply ai_n0); exact rfl; exact rfl; exact rfl) | ((with_reducible apply ai_s); exact rfl; exact rfl; exact rfl; exact rfl; exact rfl) | ((with_reducible apply ai_n); exact rfl; exact rfl; exact rfl; exact rfl) | ((with_reducible apply ai_skip); exact rfl; exact rfl; exact rfl; exact rfl) | ((with_reducible apply ai_splitD); exact rfl; exact rfl; exact rfl; all_goals first | (intro _; try (exfalso; omega)) | skip) | ((with_reducible apply ai_splitN); exact rfl; exact rfl; exact rfl; all_goals first | (intro _; try (exfalso; omega)) | skip) | ((with_reducible apply ai_split); exact rfl; exact rfl; exact rfl; all_goals first | intro _ | skip)) | ((with_reducible apply al_keep); focus (repeat (first | exact HpSub.refl _ | (apply HpSub.cons; (repeat (first | exact P0 | apply P1))) | apply HpSub.skipX | exact HpSub.nil))) | ((with_reducible apply rd_id); first | (apply Rd.own; (repeat (first | exact P0 | apply P1)); exact rfl; done) | (apply Rd.old; (first | (with_reducible assumption) | exact c0 | exact c1 | exact c2 | exact c3 | exact c4 | exact c5 | exact c6 | exact c7 | exact c8 | exact d0 | exact d1 | exact d2 | exact d3 | exact d4 | exact d5); first | exact List.not_mem_nil | exact m0 | exact m1 | exact m2 | exact m3 | exact m4 | exact m5 | exact m6 | exact m7 | exact m8 | exact m9)) | ((with_reducible apply t_id); first | (apply t_mix (id := 6) [0, 1, 2, 3, 4, 5, 6, 7, 8, 9, 10, 11, 12, 13] 5 #[false, false, false, false, false, false, false, false, false, false, false, false, false, false, false, false, false, false, false]; kernel_rfl; kernel_rfl; exact rfl) | (apply t_mix (id := 9) [0] 4 #[false, false, true, true, false]; kernel_rfl; kernel_rfl; exact rfl) | ((with_reducible apply t_seq)) | (apply t_region; kernel_rfl) | (apply t_drawn; kernel_rfl; decide +kernel; try simp only [List.append_eq, List.cons_append, List.nil_append]) | ((with_reducible apply t_condT); exact rfl) | ((with_reducible apply t_condF); exact rfl) | ((with_reducible apply t_condD); exact rfl; all_goals first | (intro _; try (exfalso; omega)) | skip) | ((with_reducible apply t_condN); exact rfl; all_goals first | (intro _; try (exfalso; omega)) | skip) | ((with_reducible apply t_cond); exact rfl; all_goals first | intro _ | skip) | ((with_reducible apply t_ret)) | ((with_reducible apply t_skip)) | ((with_reducible apply t_exit)) | ((with_reducible apply t_block))) | with_reducible apply q_thenN | with_reducible apply q_thenR | with_reducible apply q_blockR | with_reducible apply q_blockN | with_reducible apply q_thenE | ((with_reducible apply q_blockE); exact rfl) | ((with_reducible apply q_blockO); exact rfl) | exact P0 | ((with_reducible apply P1)) | exact Rdn.zero | apply Rdn.succ | ((with_reducible apply Norm.nil); exact rfl) | ((with_reducible apply Norm.cons); exact rfl) | ((with_reducible apply end_ret)) | ((with_reducible apply end_normal)) | exact rvs_nil | ((with_reducible apply rvs_cons)) | ((with_reducible apply rv_tmp); exact rfl) | ((with_reducible apply rv_cell); exact rfl; exact rfl) | ((with_reducible apply rv_cellAgg); exact rfl; exact rfl) | ((with_reducible apply cut_in0) <;> (repeat' (first | exact FrSub.nil | (apply FrSub.cons; exact rfl) | exact HpSub.refl _ | (apply HpSub.consE; (repeat (first | exact P0 | apply P1)); exact rfl) | apply HpSub.skipX | exact HpSub.nil))) | ((with_reducible apply cut_in1) <;> (repeat' (first | exact FrSub.nil | (apply FrSub.cons; exact rfl) | exact HpSub.refl _ | (apply HpSub.consE; (repeat (first | exact P0 | apply P1)); exact rfl) | apply HpSub.skipX | exact HpSub.nil))) | ((with_reducible apply cut_in2) <;> (repeat' (first | exact FrSub.nil | (apply FrSub.cons; exact rfl) | exact HpSub.refl _ | (apply HpSub.consE; (repeat (first | exact P0 | apply P1)); exact rfl) | apply HpSub.skipX | exact HpSub.nil))) | ((with_reducible apply cut_in3) <;> (repeat' (first | exact FrSub.nil | (apply FrSub.cons; exact rfl) | exact HpSub.refl _ | (apply HpSub.consE; (repeat (first | exact P0 | apply P1)); exact rfl) | apply HpSub.skipX | exact HpSub.nil))) | (apply t_mix (id := 6) [0, 1, 2, 3, 4, 5, 6, 7, 8, 9, 10, 11, 12, 13] 5 #[false, false, false, false, false, false, false, false, false, false, false, false, false, false, false, false, false, false, false]; kernel_rfl; kernel_rfl; exact rfl) | exact Nat.le_of_ble_eq_true rfl | exact (rfl : (_ : Bool) = true) | omega | (intro _ _; with_reducible apply tl_id) | (intro _; with_reducible apply tl_id) | (intro _ _; with_reducible apply al_id) | (intro _; with_reducible apply al_id) | ((with_reducible apply al_id); first | (apply al_done; decide +kernel) | (apply al_one 14; decide +kernel) | (apply al_one 15; decide +kernel) | (apply al_one 16; decide +kernel) | (apply al_one 17; decide +kernel) | (apply al_one 18; decide +kernel) | (apply al_two 14 15; decide +kernel) | (apply al_one 1; decide +kernel) | (apply al_one 2; decide +kernel) | (apply al_one 3; decide +kernel) | (apply al_one 4; decide +kernel) | (apply al_two 1 2; decide +kernel)) | (apply t_mix (id := 9) [0] 4 #[false, false, true, true, false]; kernel_rfl; kernel_rfl; exact rfl))); (try focus (repeat (rename_i x; first | exact dn x m1.p | revert x))); (try focus (repeat (rename_i x; first | exact dn x m2.p | revert x))); (try focus (repeat (rename_i x; first | exact dn x m3.p | revert x))); (try focus (repeat (rename_i x; first | exact dn x m4.p | revert x))); (try focus (repeat (rename_i x; first | exact dn x m5.p | revert x))); (try focus (repeat (rename_i x; first | exact dn x m6.p | revert x))); (try focus (repeat (rename_i x; first | exact dn x m7.p | revert x))); (try focus (repeat (rename_i x; first | exact dn x m8.p | revert x))); (try focus (repeat (rename_i x; first | exact dn x m9.p | revert x))); (try focus (repeat (rename_i x; first | exact dn x m10.p | revert x))); (try focus (repeat (rename_i x; first | exact dn x m11.p | revert x))); (try focus (repeat (rename_i x; first | exact dn x m12.p | revert x))); (try focus (repeat (rename_i x; first | exact dn x m13.p | revert x))); (try focus (repeat (rename_i x; first | exact dn x m14.p | revert x))); (try focus (repeat (rename_i x; first | exact dn x m15.p | revert x))); (try focus (repeat (rename_i x; first | exact dn x m16.p | revert x)))) (e : Trs A1 A2 A3 A4 A5 A6 A7 A8 A9 A10 A11 A12 A13 A14 A15 A16 := by constructor <;> first | (with_reducible exact Tr.t) | exact Tr.u) : G := p.run h
open Go.RowKit
attribute [local irreducible] OQ OS OX Rd T TL GX GL AL AI RV wpG SAny Calls
/-- The length of a leg of a chart, and the error. -/
noncomputable def lengthR (m : Nat) (L : List Lg) (i : Int) : Int × Int :=
  if chartB m L then (if 0 ≤ i ∧ i ≤ (L.length : Int) - 1 then (match L[i.toNat]? with | some z => (lenV z.x z.y, 0) | none => (0, 2)) else (0, 2)) else (0, 61)
theorem lengthR_in {m : Nat} {L : List Lg} {j : Nat} {z : Lg} (h : chartB m L = true) (hz : L[j]? = some z) : lengthR m L (j : Int) = (lenV z.x z.y, 0) := by
  have := (List.getElem?_eq_some_iff.1 hz).1
  unfold lengthR
  rw [if_pos h, if_pos (by omega), Int.toNat_natCast, hz]
theorem lengthR_out {m : Nat} {L : List Lg} {i : Int} (h : chartB m L = true) (hi : ¬ (0 ≤ i ∧ i ≤ (L.length : Int) - 1)) : lengthR m L i = (0, 2) := by
  unfold lengthR
  rw [if_pos h, if_neg hi]
theorem lengthR_bad {m : Nat} {L : List Lg} {i : Int} (h : chartB m L = false) : lengthR m L i = (0, 61) := by
  unfold lengthR
  rw [h]; rfl
theorem routeLength_calls (AM A : Option Addr) (m cM n cp : Nat) (L : List Lg) (w : World) (hr : RdS w 5 A n (L.map lgCells)) (hn : n ≤ 1000000) (hm : m ≤ 1000000) (i : Int) : Calls Try.prog 14 #[.agg #[.slice AM m cM, .slice A n cp], .int .i64 i] w fun e w' => e = .returned (.tuple #[.int .i64 (lengthR m L i).1, .int .i64 (lengthR m L i).2]) ∧ Ext w w' := by
  have hl : L.length = n := by simpa using hr.len
  have HC := fun w1 (hx : Ext w w1) => checkChart_calls AM A m cM n cp L w1 (hr.ext hx) hn hm
  cases hb : chartB m L with
  | false =>
    rw [hb] at HC
    rw [lengthR_bad hb]
    refine enterQ (c := cx w 26) Try.func14 rfl rfl rfl rfl ?_
    ((all_goals refine goK0 ?_); (all_goals constructor); (any_goals exact trivial); all_goals intros)
    all_goals rfl
  | true =>
  rw [hb] at HC
  by_cases hi : 0 ≤ i ∧ i ≤ (n : Int) - 1
  · obtain ⟨j, rfl⟩ := Int.eq_ofNat_of_zero_le hi.1
    obtain ⟨b, o, z, rfl, _, hz, c0, c1, c2, c3, c4⟩ := lg_read hr (show j < n by omega)
    have hk := (chartB_iff.1 hb).2.2 z (List.mem_of_getElem? hz)
    obtain ⟨_, _, _, kx, ky, _, _⟩ := hk
    have HL := fun w1 => length_calls z.a z.b z.x z.y z.h kx ky w1
    rw [lengthR_in hb hz]
    refine enterQ (c := cx w 26) Try.func14 rfl rfl rfl rfl ?_
    ((all_goals refine goK0 ?_); (all_goals constructor); (any_goals exact trivial); all_goals intros)
    all_goals rfl
  · rw [lengthR_out hb (by omega)]
    refine enterQ (c := cx w 26) Try.func14 rfl rfl rfl rfl ?_
    ((all_goals refine goK0 ?_); (all_goals constructor); (any_goals exact trivial); all_goals intros)
    all_goals rfl
theorem refLength_calls (AM A : Option Addr) (m cM n cp : Nat) (L : List Lg) (w : World) (hr : RdS w 5 A n (L.map lgCells)) (hn : n ≤ 1000000) (hm : m ≤ 1000000) (i : Int) : Calls Try.prog 15 #[.agg #[.slice AM m cM, .slice A n cp], .int .i64 i] w fun e w' => e = .returned (.tuple #[.int .i64 (lengthR m L i).1, .int .i64 (lengthR m L i).2]) ∧ Ext w w' := by
  have hl : L.length = n := by simpa using hr.len
  have HC := fun w1 (hx : Ext w w1) => chart_calls AM A m cM n cp L w1 (hr.ext hx) hn hm
  cases hb : chartB m L with
  | false =>
    rw [hb] at HC
    rw [lengthR_bad hb]
    refine enterQ (c := cx w 22) Try.func15 rfl rfl rfl rfl ?_
    ((all_goals refine goK0 ?_); (all_goals constructor); (any_goals exact trivial); all_goals intros)
    all_goals rfl
  | true =>
  rw [hb] at HC
  by_cases hi : 0 ≤ i ∧ i ≤ (n : Int) - 1
  · obtain ⟨j, rfl⟩ := Int.eq_ofNat_of_zero_le hi.1
    obtain ⟨b, o, z, rfl, _, hz, c0, c1, c2, c3, c4⟩ := lg_read hr (show j < n by omega)
    have hk := (chartB_iff.1 hb).2.2 z (List.mem_of_getElem? hz)
    obtain ⟨_, _, _, kx, ky, _, _⟩ := hk
    have HL := fun w1 => long_calls z.a z.b z.x z.y z.h kx ky w1
    rw [lengthR_in hb hz]
    refine enterQ (c := cx w 22) Try.func15 rfl rfl rfl rfl ?_
    ((all_goals refine goK0 ?_); (all_goals constructor); (any_goals exact trivial); all_goals intros)
    all_goals rfl
  · rw [lengthR_out hb (by omega)]
    refine enterQ (c := cx w 22) Try.func15 rfl rfl rfl rfl ?_
    ((all_goals refine goK0 ?_); (all_goals constructor); (any_goals exact trivial); all_goals intros)
    all_goals rfl
theorem lenV_bound {x y : Int} (hx : -7000 ≤ x ∧ x ≤ 7000) (hy : -7000 ≤ y ∧ y ≤ 7000) : 0 ≤ lenV x y ∧ lenV x y ≤ 1000000 := by
  have b1 := mul_abs (x := x) (y := x) (a := 7000) (b := 7000) (by omega) (by omega)
  have b2 := mul_abs (x := y) (y := y) (a := 7000) (b := 7000) (by omega) (by omega)
  have c1 := sq_nn x
  have c2 := sq_nn y
  unfold lenV rootV
  obtain ⟨N, hN⟩ : ∃ N, 10000 * (x * x + y * y) = N := ⟨_, rfl⟩
  rw [hN]
  have hN0 : 0 ≤ N ∧ N ≤ 980000000000 := by omega
  have f1 : fineS (N, N) = true := (fineS_iff _).2 ⟨Int.le_refl _, by show _ ≤ N; omega, by show N ≤ _; omega⟩
  rw [if_pos f1, if_neg (by omega)]
  obtain ⟨r1, r2, r3⟩ := rt_spec N hN0.1
  have r4 : rt N ≤ 999998 := sq_bound r1 (by omega) (by omega)
  simp only
  split <;> omega
/-- What is wrong with what is asked. -/
def askE (m : Nat) (L : List Lg) (v q1 q2 q3 q4 g0 g1 : Int) (C : List Wn) : Int := if chartB m L then (if paceB v q1 q2 q3 q4 g0 g1 then castE C else 62) else 61
noncomputable def legRz (v q1 q2 q3 : Int) (z : Lg) (bk : Bool) (C : List Wn) : List (Int × Int) := legR v q1 q2 q3 z.h z.x z.y bk C
def no3 (e : Int) : Value := .tuple #[.agg #[.int .i64 0, .int .i64 0], .agg #[.int .i64 0, .int .i64 0], .int .i64 e]
/-- The answer, if she asks for m metres of a leg. -/
def fullV (R : List (Int × Int)) (m g0 g1 : Nat) : Value :=
  if R = [] then no3 63 else .tuple #[.agg #[.int .i64 ((hullT m R).1 : Nat), .int .i64 ((hullT m R).2 : Nat)], .agg #[.int .i64 (aL (hullT m R).1 (hullT m R).2 g0 g1 8 : Nat), .int .i64 (aH (hullT m R).1 (hullT m R).2 g0 g1 8 : Nat)], .int .i64 0]
noncomputable def partR (m : Nat) (L : List Lg) (v q1 q2 q3 q4 g0 g1 : Int) (C : List Wn) (i : Int) (bk : Bool) (me : Int) : Value :=
  if askE m L v q1 q2 q3 q4 g0 g1 C = 0 then (if 0 ≤ i ∧ i ≤ (L.length : Int) - 1 then (match L[i.toNat]? with
    | some z => if 0 ≤ me ∧ me ≤ lenV z.x z.y then fullV (legRz v q1 q2 q3 z bk C) me.toNat g0.toNat g1.toNat else no3 2
    | none => no3 2) else no3 2) else no3 (askE m L v q1 q2 q3 q4 g0 g1 C)
theorem asked_calls (AM A : Option Addr) (m cM n cp : Nat) (L : List Lg) (w : World) (hr : RdS w 5 A n (L.map lgCells)) (hn : n ≤ 1000000) (hm : m ≤ 1000000) (v q1 q2 q3 q4 g0 g1 : Int) (AC : Option Addr) (nC cC : Nat) (C : List Wn) (hrc : CastR w AC nC C) (hs : ∀ z ∈ C, z.n ≤ 1000000) : Calls Try.prog 60 #[.agg #[.slice AM m cM, .slice A n cp], .agg #[.int .i64 v, .int .i64 q1, .int .i64 q2, .int .i64 q3, .int .i64 q4, .int .i64 g0, .int .i64 g1], .slice AC nC cC] w fun e w' => e = .returned (.int .i64 (askE m L v q1 q2 q3 q4 g0 g1 C)) ∧ Ext w w' := by
  have HC := fun w1 (hx : Ext w w1) => chart_calls AM A m cM n cp L w1 (hr.ext hx) hn hm
  have HP := fun w1 => refCheckPace_calls v q1 q2 q3 q4 g0 g1 w1
  have HK := fun w1 (hx : Ext w w1) => refCheckCast_calls AC nC cC C w1 (hrc.ext hx) hs
  unfold askE
  cases hb : chartB m L with
  | false =>
    rw [hb] at HC
    refine enterQ (c := cx w 18) Try.func60 rfl rfl rfl rfl ?_
    ((all_goals refine goK0 ?_); (all_goals constructor); (any_goals exact trivial); all_goals intros)
    all_goals rfl
  | true =>
  rw [hb] at HC
  cases hp : paceB v q1 q2 q3 q4 g0 g1 with
  | false =>
    rw [hp] at HP
    refine enterQ (c := cx w 18) Try.func60 rfl rfl rfl rfl ?_
    ((all_goals refine goK0 ?_); (all_goals constructor); (any_goals exact trivial); all_goals intros)
    all_goals rfl
  | true =>
  rw [hp] at HP
  refine enterQ (c := cx w 18) Try.func60 rfl rfl rfl rfl ?_
  ((all_goals refine goK0 ?_); (all_goals constructor); (any_goals exact trivial); all_goals intros)
  all_goals rfl
theorem refPart17_calls (AM A : Option Addr) (m cM n cp : Nat) (L : List Lg) (w : World) (hr : RdS w 5 A n (L.map lgCells)) (hn : n ≤ 1000000) (hm : m ≤ 1000000) (v q1 q2 q3 q4 g0 g1 : Int) (AC : Option Addr) (nC cC : Nat) (C : List Wn) (hrc : CastR w AC nC C) (hs : ∀ z ∈ C, z.n ≤ 1000000) (i : Int) (bk : Bool) (me : Int) : Calls Try.prog 17 #[.agg #[.slice AM m cM, .slice A n cp], .agg #[.int .i64 v, .int .i64 q1, .int .i64 q2, .int .i64 q3, .int .i64 q4, .int .i64 g0, .int .i64 g1], .slice AC nC cC, .int .i64 i, .bool bk, .int .i64 me] w fun e w' => e = .returned (partR m L v q1 q2 q3 q4 g0 g1 C i bk me) ∧ Ext w w' := by
  have hl : L.length = n := by simpa using hr.len
  have HA := fun w1 (hx : Ext w w1) => asked_calls AM A m cM n cp L w1 (hr.ext hx) hn hm v q1 q2 q3 q4 g0 g1 AC nC cC C (hrc.ext hx) hs
  unfold partR
  by_cases hE : askE m L v q1 q2 q3 q4 g0 g1 C = 0
  rotate_left
  · rw [if_neg hE]
    generalize askE m L v q1 q2 q3 q4 g0 g1 C = e at *
    refine enterQ (c := cx w 68) Try.func17 rfl rfl rfl rfl ?_
    ((all_goals refine goK0 ?_); (all_goals constructor); (any_goals exact trivial); all_goals intros)
    all_goals rfl
  rw [if_pos hE]
  rw [hE] at HA
  unfold askE at hE
  split at hE
  rotate_left
  · cases hE
  rename_i hch
  split at hE
  rotate_left
  · cases hE
  rename_i hpc
  have hpk : PaceOk v q1 q2 q3 q4 g0 g1 := of_decide_eq_true hpc
  obtain ⟨hcl, hcw⟩ := castE_zero.1 hE
  have hlc := hrc.len
  clear hE
  by_cases hi : 0 ≤ i ∧ i ≤ (L.length : Int) - 1
  rotate_left
  · rw [if_neg hi]
    refine enterQ (c := cx w 68) Try.func17 rfl rfl rfl rfl ?_
    ((all_goals refine goK0 ?_); (all_goals constructor); (any_goals exact trivial); all_goals intros)
    all_goals rfl
  rw [if_pos hi]
  obtain ⟨j, rfl⟩ := Int.eq_ofNat_of_zero_le hi.1
  obtain ⟨bA, oA, z, rfl, _, hz, c0, c1, c2, c3, c4⟩ := lg_read hr (show j < n by omega)
  have hk := (chartB_iff.1 hch).2.2 z (List.mem_of_getElem? hz)
  obtain ⟨_, _, _, kx, ky, kz, kh⟩ := hk
  have HL := fun w1 => long_calls z.a z.b z.x z.y z.h kx ky w1
  have lb := lenV_bound kx ky
  rw [Int.toNat_natCast, hz]
  simp only
  by_cases hme : 0 ≤ me ∧ me ≤ lenV z.x z.y
  rotate_left
  · rw [if_neg hme]
    refine enterQ (c := cx w 68) Try.func17 rfl rfl rfl rfl ?_
    ((all_goals refine goK0 ?_); (all_goals constructor); (any_goals exact trivial); all_goals intros)
    all_goals rfl
  rw [if_pos hme]
  obtain ⟨me, rfl⟩ := Int.eq_ofNat_of_zero_le hme.1
  obtain ⟨_, _, _, _, _, kg⟩ := id hpk
  obtain ⟨g0, rfl⟩ := Int.eq_ofNat_of_zero_le kg.1
  obtain ⟨g1, rfl⟩ := Int.eq_ofNat_of_zero_le (show 0 ≤ g1 by omega)
  simp only [Int.toNat_natCast]
  have HQ := fun w1 (hx : Ext w w1) => refPart_calls z.a z.b z.x z.y z.h v q1 q2 q3 q4 g0 g1 me bk AC nC cC C w1 (hrc.ext hx) hs hcw (by omega) hpk kh ⟨kx, ky, kz⟩ (by omega)
  unfold fullV
  unfold partV at HQ
  change ∀ w1, Ext w w1 → Calls _ _ _ _ _ at HQ
  unfold legRz
  generalize legR v q1 q2 q3 z.h z.x z.y bk C = R at *
  by_cases hR : R = []
  · rw [if_pos hR]
    simp only [if_pos hR] at HQ
    refine enterQ (c := cx w 68) Try.func17 rfl rfl rfl rfl ?_
    ((all_goals refine goK0 ?_); (all_goals constructor); (any_goals exact trivial); all_goals intros)
    all_goals rfl
  · rw [if_neg hR]
    simp only [if_neg hR] at HQ
    refine enterQ (c := cx w 68) Try.func17 rfl rfl rfl rfl ?_
    ((all_goals refine goK0 ?_); (all_goals constructor); (any_goals exact trivial); all_goals intros)
    all_goals rfl
end Go.Proofs.Ytcjkndjjbjoehaa
namespace Go.Proofs.Ytcjkndjjbjoehaa
open Go.RowKit
attribute [local irreducible] OQ OS OX Rd T TL GX GL AL AI RV wpG SAny Calls mapTg
theorem HpSub.per {H G : Hp} (h : HpSub H G) : ∃ K, H.Perm (G ++ K) := by
  induction h with
  | nil => exact ⟨_, List.Perm.refl _⟩
  | cons p _ ih =>
    obtain ⟨K, hK⟩ := ih
    exact ⟨K, p.perm.trans (List.Perm.cons _ hK)⟩
theorem hp_of_per : ∀ {G H K : Hp}, H.Perm (G ++ K) → HpSub H G
  | [], H, K, _ => HpSub.nil
  | (b, C, g) :: G, H, K, h => by
    have hm : (b, C, g) ∈ H := h.mem_iff.2 (List.mem_cons_self ..)
    obtain ⟨H', hp⟩ : ∃ H', Pick H b C g H' := by
      clear h
      induction H with
      | nil => cases hm
      | cons x H ih =>
        rcases List.mem_cons.1 hm with rfl | hm
        · exact ⟨H, Pick.head _ _ _ _⟩
        · obtain ⟨H', hp⟩ := ih hm
          exact ⟨x :: H', hp.tail⟩
    exact HpSub.cons hp (hp_of_per ((hp.perm.symm.trans h).cons_inv))
theorem HpSub.tr {H G K : Hp} (h : HpSub H G) (k : HpSub G K) : HpSub H K := by
  obtain ⟨A, hA⟩ := h.per
  obtain ⟨B, hB⟩ := k.per
  refine hp_of_per (K := B ++ A) (hA.trans ?_)
  rw [← List.append_assoc]
  exact List.Perm.append_right _ hB
theorem HpSub.app {A B a b : Hp} (h : HpSub A a) (k : HpSub B b) : HpSub (A ++ B) (a ++ b) := by
  obtain ⟨X, hX⟩ := h.per
  obtain ⟨Y, hY⟩ := k.per
  refine hp_of_per (K := X ++ Y) ((hX.append hY).trans ?_)
  rw [List.append_assoc, List.append_assoc]
  refine List.Perm.append_left _ ?_
  rw [← List.append_assoc, ← List.append_assoc]
  exact List.Perm.append_right _ List.perm_append_comm
theorem HpSub.swap {A B a b : Hp} (h : HpSub A a) (k : HpSub B b) : HpSub (A ++ B) (b ++ a) := (hp_comm A B).tr (k.app h)
/-- An entry of the desk's map: the leg, is it flown back, the rates, and where they lie. -/
structure En where
  i : Nat
  bk : Bool
  l : List (Int × Int)
  o : Option (Nat × Nat)
def En.kc (e : En) : List Nat := [2, e.i, if e.bk then 1 else 0]
def slC (l : List (Int × Int)) : Option (Nat × Nat) → List Nat
  | none => []
  | some (b, cap) => [3, b, 0, l.length, cap]
theorem dec_key (i : Nat) (bk : Bool) : decV [2, i, if bk then 1 else 0] = fk i bk := by cases bk <;> rfl
theorem dec_kc (e : En) : decV e.kc = fk e.i e.bk := dec_key _ _
theorem dec_slC (l : List (Int × Int)) (o : Option (Nat × Nat)) : decV (slC l o) = sR l o := by
  rcases o with _ | ⟨b, cap⟩ <;> rfl
def enM (E : List En) : Mc := E.map fun e => (e.kc, slC e.l e.o)
def enS (a : Hp) (e : En) : Hp := hR e.l e.o ++ a
def enH (E : List En) : Hp := E.foldl enS []
theorem enH_acc : ∀ (E : List En) (a : Hp), HpSub (E.foldl enS a) a
  | [], a => HpSub.refl _
  | x :: E, a => (enH_acc E (enS a x)).tr (HpSub.skipApp (HpSub.refl _))
theorem enH_at' : ∀ {E : List En} {e : En} (a : Hp), e ∈ E → HpSub (E.foldl enS a) (hR e.l e.o)
  | x :: E, e, a, h => by
    rcases List.mem_cons.1 h with rfl | h
    · exact (enH_acc E (enS a e)).tr HpSub.appLeft
    · exact enH_at' (enS a x) h
theorem enH_at {E : List En} {e : En} (h : e ∈ E) : HpSub (enH E) (hR e.l e.o) := enH_at' [] h
theorem dec_s (b n cap : Nat) : decV [3, b, 0, n, cap] = .slice (some ⟨b, 0, none⟩) n cap := rfl
theorem dec_n : decV [] = .slice none 0 0 := rfl
theorem dec_k0 (i : Nat) : decV [2, i, 0] = fk i false := rfl
theorem dec_k1 (i : Nat) : decV [2, i, 1] = fk i true := rfl
theorem enM_two (E : List En) (k : Nat) (l1 l2 : List (Int × Int)) (o1 o2 : Option (Nat × Nat)) : enM (E ++ [⟨k, false, l1, o1⟩, ⟨k, true, l2, o2⟩]) = enM E ++ [([2, k, 0], slC l1 o1)] ++ [([2, k, 1], slC l2 o2)] := by simp [enM, En.kc]
theorem enH_two (E : List En) (k : Nat) (l1 l2 : List (Int × Int)) (o1 o2 : Option (Nat × Nat)) : enH (E ++ [⟨k, false, l1, o1⟩, ⟨k, true, l2, o2⟩]) = hR l2 o2 ++ (hR l1 o1 ++ enH E) := by simp [enH, enS, List.foldl_append]
def keyOf (e : En) : Nat × Bool × List (Int × Int) := (e.i, e.bk, e.l)
noncomputable def legsE (v q1 q2 q3 : Int) (C : List Wn) (z : Lg) (i : Nat) : List (Nat × Bool × List (Int × Int)) :=
  if q3 < upV q1 q2 z.h then [] else [(i, false, ratesV v (upV q1 q2 z.h) z.x z.y C), (i, true, ratesV v (upV q1 q2 z.h) (-z.x) (-z.y) C)]
/-- What the desk's map holds for the first legs. -/
noncomputable def deskE (v q1 q2 q3 : Int) (C : List Wn) (L : List Lg) : Nat → List (Nat × Bool × List (Int × Int))
  | 0 => []
  | k + 1 => deskE v q1 q2 q3 C L k ++ (match L[k]? with | some z => legsE v q1 q2 q3 C z k | none => [])
theorem deskE_mem {v q1 q2 q3 : Int} {C : List Wn} {L : List Lg} {i : Nat} {bk : Bool} {l : List (Int × Int)} : ∀ {k : Nat}, (i, bk, l) ∈ deskE v q1 q2 q3 C L k → i < k ∧ ∃ z, L[i]? = some z ∧ ¬ q3 < upV q1 q2 z.h ∧ l = legRz v q1 q2 q3 z bk C
  | 0, h => by cases h
  | k + 1, h => by
    unfold deskE at h
    rcases List.mem_append.1 h with h | h
    · obtain ⟨h1, h2⟩ := deskE_mem h
      exact ⟨by omega, h2⟩
    · split at h
      · rename_i z hz
        unfold legsE at h
        split at h
        · cases h
        · rename_i hq
          simp only [List.mem_cons, List.not_mem_nil, or_false, Prod.mk.injEq] at h
          rcases h with ⟨rfl, rfl, rfl⟩ | ⟨rfl, rfl, rfl⟩
          · exact ⟨by omega, z, hz, hq, by unfold legRz legR; rw [if_neg hq]; rfl⟩
          · exact ⟨by omega, z, hz, hq, by unfold legRz legR; rw [if_neg hq]; rfl⟩
      · cases h
theorem deskE_has {v q1 q2 q3 : Int} {C : List Wn} {L : List Lg} {i : Nat} {bk : Bool} {z : Lg} (hz : L[i]? = some z) (hq : ¬ q3 < upV q1 q2 z.h) : ∀ {k : Nat}, i < k → (i, bk, legRz v q1 q2 q3 z bk C) ∈ deskE v q1 q2 q3 C L k
  | 0, h => by omega
  | k + 1, h => by
    unfold deskE
    rcases Nat.lt_or_eq_of_le (Nat.le_of_lt_succ h) with h1 | rfl
    · exact List.mem_append_left _ (deskE_has hz hq h1)
    · refine List.mem_append_right _ ?_
      rw [hz]
      simp only
      unfold legsE legRz legR
      rw [if_neg hq, if_neg hq]
      cases bk
      · exact List.mem_cons_self ..
      · exact List.mem_cons_of_mem _ (List.mem_cons_self ..)
theorem deskE_succ {v q1 q2 q3 : Int} {C : List Wn} {L : List Lg} {k : Nat} {z : Lg} (hz : L[k]? = some z) : deskE v q1 q2 q3 C L (k + 1) = deskE v q1 q2 q3 C L k ++ legsE v q1 q2 q3 C z k := by
  show deskE v q1 q2 q3 C L k ++ _ = _
  rw [hz]
theorem desk_no {v q1 q2 q3 : Int} {C : List Wn} {L : List Lg} {k : Nat} {z : Lg} {E : List En} (hE : E.map keyOf = deskE v q1 q2 q3 C L k) (hz : L[k]? = some z) (hq : q3 < upV q1 q2 z.h) : E.map keyOf = deskE v q1 q2 q3 C L (k + 1) := by
  rw [deskE_succ hz, hE]
  unfold legsE
  rw [if_pos hq, List.append_nil]
theorem desk_two {v q1 q2 q3 : Int} {C : List Wn} {L : List Lg} {k : Nat} {z : Lg} {E : List En} (o1 o2 : Option (Nat × Nat)) (hE : E.map keyOf = deskE v q1 q2 q3 C L k) (hz : L[k]? = some z) (hq : ¬ q3 < upV q1 q2 z.h) : List.map keyOf (E ++ [⟨k, false, ratesV v (upV q1 q2 z.h) z.x z.y C, o1⟩, ⟨k, true, ratesV v (upV q1 q2 z.h) (-z.x) (-z.y) C, o2⟩]) = deskE v q1 q2 q3 C L (k + 1) := by
  rw [deskE_succ hz, List.map_append, hE]
  unfold legsE
  rw [if_neg hq]
  rfl
theorem nl_two {E : List En} {k : Nat} {l1 l2 : List (Int × Int)} {o1 o2 : Option (Nat × Nat)} (h : ∀ e ∈ E, e.o = none → e.l = []) (h1 : o1 = none → l1 = []) (h2 : o2 = none → l2 = []) : ∀ e ∈ E ++ [⟨k, false, l1, o1⟩, ⟨k, true, l2, o2⟩], e.o = none → e.l = [] := fun e he => by
  rcases List.mem_append.1 he with he | he
  · exact h e he
  · simp only [List.mem_cons, List.not_mem_nil, or_false] at he
    rcases he with rfl | rfl
    · exact h1
    · exact h2
theorem desk_lt {v q1 q2 q3 : Int} {C : List Wn} {L : List Lg} {k : Nat} {E : List En} (hE : E.map keyOf = deskE v q1 q2 q3 C L k) : ∀ e ∈ E, e.i < k := fun e he => by
  have hm : keyOf e ∈ E.map keyOf := List.mem_map.2 ⟨e, he, rfl⟩
  rw [hE] at hm
  exact (deskE_mem hm).1
theorem new_one {v q1 q2 q3 : Int} {C : List Wn} {L : List Lg} {k : Nat} {E : List En} (hE : E.map keyOf = deskE v q1 q2 q3 C L k) : ∀ c ∈ enM E, ∃ j q, decV c.1 = fk j q ∧ ¬ ((k : Int) = j ∧ false = q) := fun c hc => by
  obtain ⟨e, he, rfl⟩ := List.mem_map.1 hc
  have := desk_lt hE e he
  exact ⟨_, _, dec_kc e, fun hh => by omega⟩
theorem new_two {v q1 q2 q3 : Int} {C : List Wn} {L : List Lg} {k : Nat} {E : List En} (hE : E.map keyOf = deskE v q1 q2 q3 C L k) (vc : List Nat) : ∀ c ∈ enM E ++ [([2, k, 0], vc)], ∃ j q, decV c.1 = fk j q ∧ ¬ ((k : Int) = j ∧ true = q) := fun c hc => by
  rcases List.mem_append.1 hc with hc | hc
  · obtain ⟨e, he, rfl⟩ := List.mem_map.1 hc
    have := desk_lt hE e he
    exact ⟨_, _, dec_kc e, fun hh => by omega⟩
  · simp only [List.mem_cons, List.not_mem_nil, or_false] at hc
    subst hc
    exact ⟨_, _, dec_k0 k, fun hh => by cases hh.2⟩
theorem first_of {α : Type} (p : α → Bool) : ∀ (E : List α), (∀ e ∈ E, p e = false) ∨ ∃ (j : Nat) (e : α), E[j]? = some e ∧ p e = true ∧ ∀ e' ∈ E.take j, p e' = false
  | [] => .inl fun _ h => by cases h
  | x :: E => by
    cases hx : p x with
    | true => exact .inr ⟨0, x, rfl, hx, fun _ h => by simp at h⟩
    | false =>
      rcases first_of p E with h | ⟨j, e, h1, h2, h3⟩
      · exact .inl fun e he => by
          rcases List.mem_cons.1 he with rfl | he
          · exact hx
          · exact h e he
      · exact .inr ⟨j + 1, e, h1, h2, fun e' he => by
          rw [List.take_succ_cons] at he
          rcases List.mem_cons.1 he with rfl | he
          · exact hx
          · exact h3 e' he⟩
def isKey (i : Nat) (bk : Bool) (e : En) : Bool := decide (i = e.i ∧ bk = e.bk)
/-- A desk in the block b, its map in the block bM. -/
structure DskR (w : World) (b bM : Nat) (AP AT : Option Addr) (m cM n cp : Nat) (v q1 q2 q3 q4 g0 g1 : Int) (E : List En) : Prop where
  c0 : w.cell? ⟨b, 0, none⟩ = some (.slice AP m cM)
  c1 : w.cell? ⟨b, 0 + 1, none⟩ = some (.slice AT n cp)
  c2 : w.cell? ⟨b, 0 + 2, none⟩ = some (.int .i64 v)
  c3 : w.cell? ⟨b, 0 + 3, none⟩ = some (.int .i64 q1)
  c4 : w.cell? ⟨b, 0 + 4, none⟩ = some (.int .i64 q2)
  c5 : w.cell? ⟨b, 0 + 5, none⟩ = some (.int .i64 q3)
  c6 : w.cell? ⟨b, 0 + 6, none⟩ = some (.int .i64 q4)
  c7 : w.cell? ⟨b, 0 + 7, none⟩ = some (.int .i64 g0)
  c8 : w.cell? ⟨b, 0 + 8, none⟩ = some (.int .i64 g1)
  c9 : w.cell? ⟨b, 0 + 9, none⟩ = some (.map (some bM))
  mp : IsMap w bM (enM E)
  rd : ∀ e ∈ E, ∀ g cap, e.o = some (g, cap) → RdS w 2 (some ⟨g, 0, none⟩) e.l.length (e.l.map rtCells)
  nl : ∀ e ∈ E, e.o = none → e.l = []
  lt : b < w.heap.size
theorem cell_ext {w w' : World} {b o : Nat} {v : Value} (h : w.cell? ⟨b, o, none⟩ = some v) (e : Ext w w') (hb : b < w.heap.size) : w'.cell? ⟨b, o, none⟩ = some v := by
  rw [← h]
  simp only [World.cell?]
  rw [e.block b hb]
theorem DskR.ext {w w' : World} {b bM : Nat} {AP AT : Option Addr} {m cM n cp : Nat} {v q1 q2 q3 q4 g0 g1 : Int} {E : List En} (h : DskR w b bM AP AT m cM n cp v q1 q2 q3 q4 g0 g1 E) (e : Ext w w') : DskR w' b bM AP AT m cM n cp v q1 q2 q3 q4 g0 g1 E :=
  ⟨cell_ext h.c0 e h.lt, cell_ext h.c1 e h.lt, cell_ext h.c2 e h.lt, cell_ext h.c3 e h.lt, cell_ext h.c4 e h.lt, cell_ext h.c5 e h.lt, cell_ext h.c6 e h.lt, cell_ext h.c7 e h.lt, cell_ext h.c8 e h.lt, cell_ext h.c9 e h.lt, h.mp.ext e, fun x hx g cap ho => (h.rd x hx g cap ho).ext e, h.nl, Nat.lt_of_lt_of_le h.lt e.size⟩
def dkC (AP AT : Option Addr) (m cM n cp : Nat) (v q1 q2 q3 q4 g0 g1 : Int) (bM : Nat) : List Value := [.slice AP m cM, .slice AT n cp, .int .i64 v, .int .i64 q1, .int .i64 q2, .int .i64 q3, .int .i64 q4, .int .i64 g0, .int .i64 g1, .map (some bM)]
def dkH (b bM : Nat) (AP AT : Option Addr) (m cM n cp : Nat) (v q1 q2 q3 q4 g0 g1 : Int) (E : List En) : Hp := (b, dkC AP AT m cM n cp v q1 q2 q3 q4 g0 g1 bM, some (198, 10, 1)) :: (bM, [], mapTg 196 (enM E)) :: enH E
theorem rt_rows {w0 : World} {M : Ms} {H H' : Hp} {w : World} {g n : Nat} {l : List (Int × Int)} {tg : Tg} (hl : l.length = n) (h : Has w0 M H w) (q : Pick H g (l.map rtCells).flatten tg H') : RdS w 2 (some ⟨g, 0, none⟩) n (l.map rtCells) :=
  Blk.rows (h.blk _ q.mem).2 (by simpa using hl) (by simp only [List.mem_map]; rintro r ⟨x, _, rfl⟩; rfl)
theorem DskR.of_has {w0 w : World} {M : Ms} {b bM : Nat} {AP AT : Option Addr} {m cM n cp : Nat} {v q1 q2 q3 q4 g0 g1 : Int} {E : List En} (h : Has w0 M (dkH b bM AP AT m cM n cp v q1 q2 q3 q4 g0 g1 E) w) (hn : ∀ e ∈ E, e.o = none → e.l = []) : DskR w b bM AP AT m cM n cp v q1 q2 q3 q4 g0 g1 E := by
  have hb := (h.blk _ (List.mem_cons_self ..)).2
  refine ⟨hb.cell rfl, hb.cell rfl, hb.cell rfl, hb.cell rfl, hb.cell rfl, hb.cell rfl, hb.cell rfl, hb.cell rfl, hb.cell rfl, hb.cell rfl, (h.blk _ (List.mem_cons_of_mem _ (List.mem_cons_self ..))).2.map, fun e he g cap ho => ?_, hn, hb.lt⟩
  have hs := h.sub (HpSub.skipX (HpSub.skipX (enH_at he)))
  rw [ho] at hs
  exact rt_rows rfl hs P0
theorem desk_find {v q1 q2 q3 : Int} {C : List Wn} {L : List Lg} {E : List En} {n j : Nat} {z : Lg} (hE : E.map keyOf = deskE v q1 q2 q3 C L n) (hn : j < n) (hz : L[j]? = some z) (bk : Bool) :
    (∃ p e, E[p]? = some e ∧ e.i = j ∧ e.bk = bk ∧ e.l = legRz v q1 q2 q3 z bk C ∧ ∀ e' ∈ E.take p, ¬ (j = e'.i ∧ bk = e'.bk)) ∨ ((∀ e ∈ E, ¬ (j = e.i ∧ bk = e.bk)) ∧ legRz v q1 q2 q3 z bk C = []) := by
  rcases first_of (isKey j bk) E with h | ⟨p, e, h1, h2, h3⟩
  · refine .inr ⟨fun e he => of_decide_eq_false (h e he), ?_⟩
    unfold legRz legR
    by_cases hq : q3 < upV q1 q2 z.h
    · rw [if_pos hq]
    · exfalso
      have hm := deskE_has (v := v) (C := C) (bk := bk) hz hq hn
      rw [← hE] at hm
      obtain ⟨e, he, hk⟩ := List.mem_map.1 hm
      simp only [keyOf, Prod.mk.injEq] at hk
      exact of_decide_eq_false (h e he) ⟨hk.1.symm, hk.2.1.symm⟩
  · obtain ⟨h4, h5⟩ := of_decide_eq_true h2
    refine .inl ⟨p, e, h1, h4.symm, h5.symm, ?_, fun e' he => of_decide_eq_false (h3 e' he)⟩
    have hm : keyOf e ∈ E.map keyOf := List.mem_map.2 ⟨e, List.mem_of_getElem? h1, rfl⟩
    rw [hE] at hm
    obtain ⟨_, z', hz', _, hl⟩ := deskE_mem hm
    rw [← h4, hz] at hz'
    obtain rfl := Option.some.inj hz'
    rw [hl, h5]
/-- What open hands out. -/
def DskV (AP AT : Option Addr) (m cM n cp : Nat) (v q1 q2 q3 q4 g0 g1 : Int) (C : List Wn) (L : List Lg) (u : Value) (H : Hp) : Prop :=
  ∃ bD bM E, u = .tuple #[.pointer (some ⟨bD, 0, none⟩), .int .i64 0] ∧ H = dkH bD bM AP AT m cM n cp v q1 q2 q3 q4 g0 g1 E ∧ E.map keyOf = deskE v q1 q2 q3 C L n ∧ ∀ e ∈ E, e.o = none → e.l = []
section
variable {F : Fr} {H H' : Hp} {d : Option Tmp} {ty : TypeId} {pos : String} {af : Array Edge} {g : Option (Nat × Bool)} {x y : Operand} {w : World} {N : Nat}
theorem oq_lookupNoW {L : Mc} {b : Nat} {i : Int} {p : Bool} (hx : ev F x = some (.map (some b))) (hy : ev F y = some (fk i p)) (hb : ∀ D w1, Has (cx w N).w0 ⟨(cx w N).M, D⟩ H w1 → IsMap w1 b L) (hnew : ∀ e ∈ L, ∃ j q, decV e.1 = fk j q ∧ ¬ (i = j ∧ p = q)) :
    OQ (cx w N) ⟨d, .lookup 196 x y false, ty, pos, af, g⟩ F H (.slice none 0 0) := .of fun D a w ha hw => by
  obtain ⟨es, ck, h1, h2⟩ := hb _ _ hw
  have hk : ∀ e ∈ es.toList, ∃ j q, e.key = fk j q ∧ ¬ (i = j ∧ p = q) := fun e he => by
    have h3 : (e.key, e.val) ∈ es.toList.map (fun e => (e.key, e.val)) := List.mem_map.2 ⟨e, he, rfl⟩
    rw [h2] at h3
    obtain ⟨c, hc1, hc2⟩ := List.mem_map.1 h3
    obtain ⟨j, q, h4, h5⟩ := hnew c hc1
    simp only [Prod.mk.injEq] at hc2
    exact ⟨j, q, by rw [← hc2.1, h4], h5⟩
  have r := lookup_none h1 hk
  simp only [execOp, ha.ev hx, ha.ev hy, Sem.run_bind, r, Result.andThen, Sem.run_pure]
theorem enM_fk (E : List En) : FkL (enM E) := fun c hc => by
  obtain ⟨e, _, rfl⟩ := List.mem_map.1 hc
  exact ⟨_, _, dec_kc e⟩
theorem enM_new {E : List En} {j : Nat} {bk : Bool} (h : ∀ e ∈ E, ¬ (j = e.i ∧ bk = e.bk)) : ∀ c ∈ enM E, ∃ i q, decV c.1 = fk i q ∧ ¬ ((j : Int) = i ∧ bk = q) := fun c hc => by
  obtain ⟨e, he, rfl⟩ := List.mem_map.1 hc
  exact ⟨_, _, dec_kc e, fun hh => h e he ⟨by omega, hh.2⟩⟩
end
/-- What the desk's map has for a leg. -/
theorem DskR.find {w : World} {b bM : Nat} {AP AT : Option Addr} {m cM n cp : Nat} {v q1 q2 q3 q4 g0 g1 : Int} {E : List En} {C : List Wn} {L : List Lg} {j nn : Nat} {z : Lg} (h : DskR w b bM AP AT m cM n cp v q1 q2 q3 q4 g0 g1 E) (hE : E.map keyOf = deskE v q1 q2 q3 C L nn) (hn : j < nn) (hz : L[j]? = some z) (bk : Bool) :
    ∃ o, (o = none → legRz v q1 q2 q3 z bk C = []) ∧ (∀ g cap, o = some (g, cap) → RdS w 2 (some ⟨g, 0, none⟩) (legRz v q1 q2 q3 z bk C).length ((legRz v q1 q2 q3 z bk C).map rtCells)) ∧
      ∀ (F : Fr) (H : Hp) (d : Option Tmp) (ty : TypeId) (pos : String) (af : Array Edge) (g : Option (Nat × Bool)) (x y : Operand) (w1 : World) (N : Nat), Ext w w1 → ev F x = some (.map (some bM)) → ev F y = some (fk j bk) → OQ (cx w1 N) ⟨d, .lookup 196 x y false, ty, pos, af, g⟩ F H (sR (legRz v q1 q2 q3 z bk C) o) := by
  rcases desk_find hE hn hz bk with ⟨p, e, h1, h2, h3, h4, h5⟩ | ⟨h1, h2⟩
  · have hm := List.mem_of_getElem? h1
    refine ⟨e.o, fun ho => by rw [← h4]; exact h.nl e hm ho, fun g cap ho => by rw [← h4]; exact h.rd e hm g cap ho, ?_⟩
    intro F H d ty pos af g x y w1 N hw hx hy
    rw [← h4, ← dec_slC]
    refine oq_lookupW (M := []) (L := enM E) (j := p) (e := (e.kc, slC e.l e.o)) hx hy (fun D w2 hw2 => (h.mp.ext hw).ext hw2.ext.ext) (enM_fk E) ?_ ?_ (by show decV e.kc = _; rw [dec_kc, h2, h3])
    · unfold enM; rw [← List.map_take]; exact enM_new h5
    · unfold enM; rw [List.getElem?_map, h1]; rfl
  · refine ⟨none, fun _ => h2, fun g cap ho => (by cases ho), ?_⟩
    intro F H d ty pos af g x y w1 N hw hx hy
    exact oq_lookupNoW hx hy (fun D w2 hw2 => (h.mp.ext hw).ext hw2.ext.ext) (enM_new h1)
end Go.Proofs.Ytcjkndjjbjoehaa
