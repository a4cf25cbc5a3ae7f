/- A part of the proof: rules for walks, and contracts of functions (20). -/
import Derived.Test.YtcjkndjjbjoehaaGreatX4S
import Derived.Test.YtcjkndjjbjoehaaGreatX4D
import Derived.Test.YtcjkndjjbjoehaaGreatX4N
import Derived.Test.YtcjkndjjbjoehaaGreatX4E
import Derived.Test.YtcjkndjjbjoehaaGreatX4B
import Derived.Test.YtcjkndjjbjoehaaGreatX4C
import Derived.Test.YtcjkndjjbjoehaaGreatX4A
import Derived.Test.YtcjkndjjbjoehaaGreatChecked
import Derived.Test.YtcjkndjjbjoehaaGreatRows
import Derived.ProofKit
import Derived.Lib.SmallJoins
import Derived.Carry
set_option linter.unusedVariables false
set_option linter.unusedSimpArgs false
set_option maxRecDepth 100000
set_option maxHeartbeats 2000000
namespace Go.Proofs.YtcjkndjjbjoehaaGreat
theorem goT0 {G A1 A2 A3 A4 A5 A6 A7 A8 A9 A10 A11 A12 A13 A14 A15 A16 : Prop} (p : GoP A1 A2 A3 A4 A5 A6 A7 A8 A9 A10 A11 A12 A13 A14 A15 A16) (h : GoL A1 → GoL A2 → GoL A3 → GoL A4 → GoL A5 → GoL A6 → GoL A7 → GoL A8 → GoL A9 → GoL A10 → GoL A11 → GoL A12 → GoL A13 → GoL A14 → GoL A15 → GoL A16 → GoM → G := by intro m1 m2 m3 m4 m5 m6 m7 m8 m9 m10 m11 m12 m13 m14 m15 m16 _; (repeat' (first | ((with_reducible apply oq_id); first | ((with_reducible apply oc_id); first | ((with_reducible apply oq_call (k := 66) (hc := Tryz.call66)); exact rfl; exact rfl; exact fun D w1 hw1 => HN w1 hw1.ext.ext) | ((with_reducible apply oq_call (k := 70) (hc := Tryz.call70)); exact rfl; exact rfl; exact fun D w1 hw1 => HN w1 hw1.ext.ext) | ((with_reducible apply oq_call (k := 67) (hc := Tryz.call67)); exact rfl; exact rfl; (intro D w1 hw1; refine rfrom1_t ?_ hw1 (by (repeat (first | exact P0 | apply P1))); omega)) | ((with_reducible apply oq_call (k := 67) (hc := Tryz.call67)); exact rfl; exact rfl; (intro D w1 hw1; refine rfrom1_f ?_ hw1 (by (repeat (first | exact P0 | apply P1))); omega)) | ((with_reducible apply oq_call (k := 67) (hc := Tryz.call67)); exact rfl; exact rfl; (intro D w1 hw1; refine rfrom2_t ?_ hw1 (by (repeat (first | exact P0 | apply P1))); omega)) | ((with_reducible apply oq_call (k := 67) (hc := Tryz.call67)); exact rfl; exact rfl; (intro D w1 hw1; refine rfrom2_f ?_ hw1 (by (repeat (first | exact P0 | apply P1))); omega)) | ((with_reducible apply oq_call (k := 15) (hc := Tryz.call15)); exact rfl; exact rfl; exact fun D w1 hw1 => HG w1 hw1.ext.ext) | ((with_reducible apply oq_call (k := 23) (hc := Tryz.call23)); exact rfl; exact rfl; exact fun D w1 hw1 => (hNd _ _ _ _ w1 (by first | exact hT.ext hw1.ext.ext | exact bl_rows hlT hw1 (by (repeat (first | exact P0 | apply P1)))) (by first | exact hr.ext hw1.ext.ext | exact lg_rows hl hw1 (by (repeat (first | exact P0 | apply P1)))) hw1.ext.ext).1) | ((with_reducible apply oq_call (k := 24) (hc := Tryz.call24)); exact rfl; exact rfl; exact fun D w1 hw1 => (hNd _ _ _ _ w1 (by first | exact hT.ext hw1.ext.ext | exact bl_rows hlT hw1 (by (repeat (first | exact P0 | apply P1)))) (by first | exact hr.ext hw1.ext.ext | exact lg_rows hl hw1 (by (repeat (first | exact P0 | apply P1)))) hw1.ext.ext).2) | ((with_reducible apply oq_call (k := 25) (hc := Tryz.call25)); exact rfl; exact rfl; exact fun D w1 hw1 => same25_calls _ _ _ _ _ _ (cI rl) w1 (by first | exact in_rows1 (by simp [cI]) hw1 (by (repeat (first | exact P0 | apply P1))) | (have h : rl = [] := ho1 rfl; rw [h]; exact RdS.nil _ _ _)) (by first | exact in_rows1 (by simp [cI]) hw1 (by (repeat (first | exact P0 | apply P1))) | (have h : rl = [] := ho2 rfl; rw [h]; exact RdS.nil _ _ _)) (by omega) (by omega)) | ((with_reducible apply oq_call (k := 26) (hc := Tryz.call26)); exact rfl; exact rfl; exact fun D w1 hw1 => alike_calls _ _ _ _ m _ _ n _ _ T L w1 (bl_rows hlT hw1 (by (repeat (first | exact P0 | apply P1)))) (hT.ext hw1.ext.ext) (lg_rows hl hw1 (by (repeat (first | exact P0 | apply P1)))) (hr.ext hw1.ext.ext) (by omega) (by omega))) | ((with_reducible apply ob_id); first | (focus ((with_reducible apply (oq_subE (k := (m : Int) - 1))); exact rfl; exact rfl; omega)) | (focus ((with_reducible apply (oq_addE (m := a.1) (n := q4) (k := a.1 + q4))); exact rfl; exact rfl; omega)) | ((with_reducible apply oq_neqB); exact rfl; exact rfl) | ((with_reducible apply (oq_neLg z)); exact rfl; exact rfl) | ((with_reducible apply oq_neqT); exact rfl; exact rfl; omega) | ((with_reducible apply oq_neqF); exact rfl; exact rfl; omega) | ((with_reducible apply oq_lssT); exact rfl; exact rfl; omega) | ((with_reducible apply oq_lssF); exact rfl; exact rfl; omega) | ((with_reducible apply oq_eqlT); exact rfl; exact rfl; omega) | ((with_reducible apply oq_eqlF); exact rfl; exact rfl; omega)) | (focus ((with_reducible apply oq_indexAddrN (i := i)); exact rfl; exact rfl; exact rfl; exact rfl; omega)) | (focus ((with_reducible apply oq_indexAddrN); exact rfl; exact rfl; exact rfl; exact rfl; omega)) | (apply oq_fn; exact rfl; first | exact trivial | (refine ⟨?_, ?_⟩ <;> omega) | (refine ⟨?_, ?_, ?_⟩ <;> omega) | omega | skip) | ((with_reducible apply oq_load); exact rfl; exact rfl) | ((with_reducible apply oq_loadAgg); exact rfl; exact rfl)) | ((with_reducible apply tl_id); first | ((with_reducible apply tl_nil)) | ((with_reducible apply u_s); exact rfl; exact rfl; exact rfl; (with_reducible apply os_callS (PV := DskV AM _ m cM n cp v q1 q2 q3 q4 g0 g1 C L) (k := 66) (hc := Tryz.call66)); exact rfl; exact rfl; exact fun D w1 hw1 => HO w1 hw1.ext.ext; rintro _ _ ⟨bD, bM, E, rfl, rfl, hE2, hnl⟩; simp only [dkH, List.cons_append, List.nil_append]) | ((with_reducible apply u_s); exact rfl; exact rfl; exact rfl; (with_reducible apply os_callF (PV := PlansV _ m) (k := 74) (hc := Tryz.call74)); exact rfl; exact rfl; exact fun D w1 hw1 => HP bD bM E w1 hw1.ext.ext (DskR.of_has (hw1.sub (by unfold dkH dkC; (repeat' (first | exact FrSub.nil | (apply FrSub.cons; exact rfl) | exact HpSub.refl _ | (apply HpSub.consE; (repeat (first | exact P0 | apply P1)); exact rfl) | apply HpSub.skipX | apply HpSub.skipX | exact HpSub.nil)))) hnl) hE2; rintro _ _ ⟨l, P, g, c, hlp, hlP, rfl, rfl⟩; simp only [List.cons_append, List.nil_append]; obtain ⟨⟨xp, xA, xn, xc⟩, hx⟩ : ∃ x, l[i]? = some x := ⟨_, List.getElem?_eq_getElem (by have := congrArg List.length hlp; simp only [List.length_map, plansF_len] at this; omega)⟩; obtain rfl := (getD_map hlp hx).symm.trans HB; have hin := hlP _ (List.mem_of_getElem? hx)) | ((with_reducible apply u_s); exact rfl; exact rfl; exact rfl; (with_reducible apply os_callF (PV := TwinV T L m n) (k := 20) (hc := Tryz.call20)); exact rfl; exact rfl; exact fun D w1 hw1 => twin_calls AM A m cM n cp T L w1 (hT.ext hw1.ext.ext) (hr.ext hw1.ext.ext) (by omega) (by omega); rintro _ _ ⟨b1, k1, b2, k2, rfl, rfl⟩; simp only [List.cons_append, List.nil_append]) | ((with_reducible apply u_s); exact rfl; exact rfl; exact rfl; (with_reducible apply os_callF (PV := BestV (rl, rk, re)) (k := 21) (hc := Tryz.call21)); exact rfl; exact rfl; exact fun D w1 hw1 => (hB _ _ _ _ w1 (by first | exact hr.ext hw1.ext.ext | exact lg_rows hl hw1 (by (repeat (first | exact P0 | apply P1)))) hw1.ext.ext).1; rintro _ _ ⟨_ | ⟨bX, cX⟩, ho1, rfl, rfl⟩ <;> simp only [sN, hN, List.cons_append, List.nil_append]) | ((with_reducible apply u_s); exact rfl; exact rfl; exact rfl; (with_reducible apply os_callF (PV := BestV (rl, rk, re)) (k := 22) (hc := Tryz.call22)); exact rfl; exact rfl; exact fun D w1 hw1 => (hB _ _ _ _ w1 (by first | exact hr.ext hw1.ext.ext | exact lg_rows hl hw1 (by (repeat (first | exact P0 | apply P1)))) hw1.ext.ext).2; rintro _ _ ⟨_ | ⟨bY, cY⟩, ho2, rfl, rfl⟩ <;> simp only [sN, hN, List.cons_append, List.nil_append]) | ((with_reducible apply u_q); exact rfl; exact rfl; exact rfl; exact rfl) | ((with_reducible apply u_s0); exact rfl; exact rfl) | ((with_reducible apply u_s); exact rfl; exact rfl; exact rfl)) | ((with_reducible apply gx_id); first | ((with_reducible apply v_nil)) | ((with_reducible apply v_q); exact rfl; exact rfl; exact rfl)) | ((with_reducible apply os_id); first | ((with_reducible apply os_x); exact rfl) | ((with_reducible apply os_storeAgg); exact rfl; exact rfl; exact rfl; exact rfl; exact rfl)) | ((with_reducible apply ox_id); first | ((with_reducible apply ox_alloc); exact rfl; intro _) | ((with_reducible apply ox_box); exact rfl; exact rfl; intro _) | ((with_reducible apply ox_boxAgg); exact rfl; intro _) | ((with_reducible apply ox_buildSlice1); exact rfl; exact rfl; exact rfl; exact rfl; exact rfl; exact rfl; intro _)) | ((with_reducible apply rd_id); first | (apply rd_pn0 hx; (repeat (first | exact P0 | apply P1)); done) | (apply rd_pn1 hx; (repeat (first | exact P0 | apply P1)); done) | (apply rd_pn2 hx; (repeat (first | exact P0 | apply P1)); done) | (apply Rd.own; (focus (repeat (first | exact P0 | (with_reducible apply pick_app) | (with_reducible apply P1)))); exact rfl) | (apply Rd.old; (first | (with_reducible assumption) | exact c0 | exact c1 | exact c2 | exact c3 | exact c4 | exact c5 | exact c6 | exact c7 | exact c8 | exact d0 | exact d1 | exact d2 | exact d3 | exact d4 | exact d5); first | exact List.not_mem_nil | exact m0 | exact m1 | exact m2 | exact m3 | exact m4 | exact m5 | exact m6 | exact m7 | exact m8 | exact m9)) | ((with_reducible apply t_id); first | ((with_reducible apply t_seq)) | (apply t_region; kernel_rfl) | (apply t_drawn; kernel_rfl; decide +kernel; try simp only [List.append_eq, List.cons_append, List.nil_append]) | ((with_reducible apply t_condT); exact rfl) | ((with_reducible apply t_condF); exact rfl) | ((with_reducible apply t_ret)) | ((with_reducible apply t_skip)) | ((with_reducible apply t_exit)) | ((with_reducible apply t_block))) | with_reducible apply q_thenN | with_reducible apply q_thenR | with_reducible apply q_blockN | with_reducible apply q_thenE | ((with_reducible apply q_blockE); exact rfl) | exact P0 | exact Rdn.zero | apply Rdn.succ | ((with_reducible apply Norm.nil); exact rfl) | ((with_reducible apply Norm.cons); exact rfl) | ((with_reducible apply end_ret)) | exact rvs_nil | ((with_reducible apply rvs_cons)) | ((with_reducible apply rv_tmp); exact rfl) | exact Nat.le_of_ble_eq_true rfl)); (try focus (repeat (rename_i x; first | exact goD x m1.p | revert x))); (try focus (repeat (rename_i x; first | exact goD x m2.p | revert x))); (try focus (repeat (rename_i x; first | exact goD x m3.p | revert x))); (try focus (repeat (rename_i x; first | exact goD x m4.p | revert x))); (try focus (repeat (rename_i x; first | exact goD x m5.p | revert x))); (try focus (repeat (rename_i x; first | exact goD x m6.p | revert x))); (try focus (repeat (rename_i x; first | exact goD x m7.p | revert x))); (try focus (repeat (rename_i x; first | exact goD x m8.p | revert x))); (try focus (repeat (rename_i x; first | exact goD x m9.p | revert x))); (try focus (repeat (rename_i x; first | exact goD x m10.p | revert x))); (try focus (repeat (rename_i x; first | exact goD x m11.p | revert x))); (try focus (repeat (rename_i x; first | exact goD x m12.p | revert x))); (try focus (repeat (rename_i x; first | exact goD x m13.p | revert x))); (try focus (repeat (rename_i x; first | exact goD x m14.p | revert x))); (try focus (repeat (rename_i x; first | exact goD x m15.p | revert x))); (try focus (repeat (rename_i x; first | exact goD x m16.p | revert x)))) (e : GoTs A1 A2 A3 A4 A5 A6 A7 A8 A9 A10 A11 A12 A13 A14 A15 A16 := by constructor <;> first | (with_reducible exact GoT.t) | exact GoT.u) : G := p.run h
theorem goT1 {G A1 A2 A3 A4 A5 A6 A7 A8 A9 A10 A11 A12 A13 A14 A15 A16 : Prop} (p : GoP A1 A2 A3 A4 A5 A6 A7 A8 A9 A10 A11 A12 A13 A14 A15 A16) (h : GoL A1 → GoL A2 → GoL A3 → GoL A4 → GoL A5 → GoL A6 → GoL A7 → GoL A8 → GoL A9 → GoL A10 → GoL A11 → GoL A12 → GoL A13 → GoL A14 → GoL A15 → GoL A16 → GoM → G := by intro m1 m2 m3 m4 m5 m6 m7 m8 m9 m10 m11 m12 m13 m14 m15 m16 _; (repeat' (first | ((with_reducible apply oq_id); first | ((with_reducible apply oq_call (k := 75) (hc := Tryz.call75)); exact rfl; exact rfl; exact fun D w1 hw1 => sameInts_calls A A' n c n' c' l l true (by simp) w1 (hr.ext hw1.ext.ext) (hr'.ext hw1.ext.ext) hn hn') | ((with_reducible apply oq_call (k := 15) (hc := Tryz.call15)); exact rfl; exact rfl; exact fun D w1 hw1 => HG w1 hw1.ext.ext) | (focus ((with_reducible apply oq_indexAddrN); exact rfl; exact rfl; exact rfl; exact rfl; omega)) | (apply oq_fn; exact rfl; first | exact trivial | (refine ⟨?_, ?_⟩ <;> omega) | (refine ⟨?_, ?_, ?_⟩ <;> omega) | omega | skip) | ((with_reducible apply oq_load); exact rfl; exact rfl) | ((with_reducible apply oq_loadAgg); exact rfl; exact rfl)) | ((with_reducible apply tl_id); first | ((with_reducible apply tl_nil)) | ((with_reducible apply u_q); exact rfl; exact rfl; exact rfl; exact rfl) | ((with_reducible apply u_s); exact rfl; exact rfl; exact rfl)) | ((with_reducible apply gx_id); first | ((with_reducible apply v_nil)) | ((with_reducible apply v_q); exact rfl; exact rfl; exact rfl)) | ((with_reducible apply os_id); first | ((with_reducible apply os_x); exact rfl)) | ((with_reducible apply ox_id); first | ((with_reducible apply ox_boxAgg); exact rfl; intro _)) | ((with_reducible apply rd_id); first | (apply Rd.own; (repeat (first | exact P0 | apply P1)); exact rfl; done) | (apply Rd.old; (first | (with_reducible assumption) | exact c0 | exact c1 | exact c2 | exact c3 | exact c4 | exact c5 | exact c6 | exact c7 | exact c8 | exact d0 | exact d1 | exact d2 | exact d3 | exact d4 | exact d5); first | exact List.not_mem_nil | exact m0 | exact m1 | exact m2 | exact m3 | exact m4 | exact m5 | exact m6 | exact m7 | exact m8 | exact m9)) | ((with_reducible apply t_id); first | ((with_reducible apply t_seq)) | (apply t_region; kernel_rfl) | (apply t_drawn; kernel_rfl; decide +kernel; try simp only [List.append_eq, List.cons_append, List.nil_append]) | ((with_reducible apply t_condT); exact rfl) | ((with_reducible apply t_condD); exact rfl; all_goals first | (intro _; try (exfalso; omega)) | skip) | ((with_reducible apply t_condN); exact rfl; all_goals first | (intro _; try (exfalso; omega)) | skip) | ((with_reducible apply t_ret)) | ((with_reducible apply t_skip)) | ((with_reducible apply t_exit)) | ((with_reducible apply t_block))) | with_reducible apply q_thenN | with_reducible apply q_thenR | with_reducible apply q_blockR | with_reducible apply q_blockN | with_reducible apply q_thenE | ((with_reducible apply q_blockE); exact rfl) | exact Rdn.zero | apply Rdn.succ | ((with_reducible apply end_ret)) | exact rvs_nil | ((with_reducible apply rvs_cons)) | ((with_reducible apply rv_tmp); exact rfl))); (try focus (repeat (rename_i x; first | exact goD x m1.p | revert x))); (try focus (repeat (rename_i x; first | exact goD x m2.p | revert x))); (try focus (repeat (rename_i x; first | exact goD x m3.p | revert x))); (try focus (repeat (rename_i x; first | exact goD x m4.p | revert x))); (try focus (repeat (rename_i x; first | exact goD x m5.p | revert x))); (try focus (repeat (rename_i x; first | exact goD x m6.p | revert x))); (try focus (repeat (rename_i x; first | exact goD x m7.p | revert x))); (try focus (repeat (rename_i x; first | exact goD x m8.p | revert x))); (try focus (repeat (rename_i x; first | exact goD x m9.p | revert x))); (try focus (repeat (rename_i x; first | exact goD x m10.p | revert x))); (try focus (repeat (rename_i x; first | exact goD x m11.p | revert x))); (try focus (repeat (rename_i x; first | exact goD x m12.p | revert x))); (try focus (repeat (rename_i x; first | exact goD x m13.p | revert x))); (try focus (repeat (rename_i x; first | exact goD x m14.p | revert x))); (try focus (repeat (rename_i x; first | exact goD x m15.p | revert x))); (try focus (repeat (rename_i x; first | exact goD x m16.p | revert x)))) (e : GoTs A1 A2 A3 A4 A5 A6 A7 A8 A9 A10 A11 A12 A13 A14 A15 A16 := by constructor <;> first | (with_reducible exact GoT.t) | exact GoT.u) : G := p.run h
open Go.RowKit
attribute [local irreducible] OQ OS OX Rd T TL GX GL AL AI RV wpG SAny Calls
theorem pick_app {A H H' : Hp} {b : Nat} {C : List Value} {g : Tg} (p : Pick H b C g H') : Pick (A ++ H) b C g (A ++ H') := by
  induction A with
  | nil => exact p
  | cons x A ih => exact ih.tail
theorem pool_one {P : List Rb} {r : Rb} {X : Hp} (h : r ∈ P) : HpSub (poolH P ++ X) [(r.1, (cI r.2.1).map iv, some (3, 1, r.2.2))] := by
  obtain ⟨H', hp⟩ := pick_of (List.mem_append_left X (List.mem_map.2 ⟨r, h, rfl⟩) : rbH r ∈ poolH P ++ X)
  exact .cons hp .nil
theorem InP.ans {P : List Rb} {p : Pl} {A : Option Addr} {k c : Nat} (h : InP P ⟨p, A, k, c⟩) : ∃ o, (o = none → plL p = []) ∧ Value.slice A k c = sN (plL p) o ∧ ∀ X : Hp, HpSub (poolH P ++ X) (hN (plL p) o) := by
  rcases h with ⟨h1, h2, h3, h4⟩ | ⟨r, hr, h1, h2, h3, h4⟩
  · simp only at h1 h2 h3 h4
    subst h2 h3 h4
    exact ⟨none, fun _ => h1, rfl, fun X => .nil⟩
  · simp only at h1 h2 h3 h4
    subst h2 h3 h4
    rw [← h1]
    exact ⟨some (r.1, r.2.2), fun h => (by cases h), rfl, fun X => pool_one hr⟩
theorem best21_no (AM A : Option Addr) (m cM n cp : Nat) (L : List Lg) (w : World) (hr : RdS w 5 A n (L.map lgCells)) (hn : n ≤ 1000000) (hm : m ≤ 1000000) (v q1 q2 q3 q4 g0 g1 : Int) (AC : Option Addr) (nC cC : Nat) (C : List Wn) (hrc : CastR w AC nC C) (hs : ∀ z ∈ C, z.n ≤ 1000000) (hE : askE m L v q1 q2 q3 q4 g0 g1 C ≠ 0) (i j : Int) : Calls Tryz.prog 21 #[.agg #[.slice AM m cM, .slice A n cp], .agg #[.int .i64 v, .int .i64 q1, .int .i64 q2, .int .i64 q3, .int .i64 q4, .int .i64 g0, .int .i64 g1], .slice AC nC cC, .int .i64 i, .int .i64 j] w fun e w' => ∃ u H', e = .returned u ∧ BestV ([], 0, askE m L v q1 q2 q3 q4 g0 g1 C) u H' ∧ Has w ⟨[], []⟩ H' w' := by
  have HN := fun w1 (hx : Ext w w1) => open_no AM A m cM n cp L w1 (hr.ext hx) hn hm v q1 q2 q3 q4 g0 g1 AC nC cC C (hrc.ext hx) hs hE
  generalize askE m L v q1 q2 q3 q4 g0 g1 C = e at *
  refine enterF (c := cx w 46) Tryz.func21 rfl rfl rfl rfl ?_
  ((all_goals refine goT0 ?_); (all_goals constructor); (any_goals exact trivial); all_goals intros)
  all_goals exact ⟨_, ⟨none, fun _ => rfl, rfl, rfl⟩, HpSub.nil⟩
theorem refBest_no (AM A : Option Addr) (m cM n cp : Nat) (L : List Lg) (w : World) (hr : RdS w 5 A n (L.map lgCells)) (hn : n ≤ 1000000) (hm : m ≤ 1000000) (v q1 q2 q3 q4 g0 g1 : Int) (AC : Option Addr) (nC cC : Nat) (C : List Wn) (hrc : CastR w AC nC C) (hs : ∀ z ∈ C, z.n ≤ 1000000) (hE : askE m L v q1 q2 q3 q4 g0 g1 C ≠ 0) (i j : Int) : Calls Tryz.prog 22 #[.agg #[.slice AM m cM, .slice A n cp], .agg #[.int .i64 v, .int .i64 q1, .int .i64 q2, .int .i64 q3, .int .i64 q4, .int .i64 g0, .int .i64 g1], .slice AC nC cC, .int .i64 i, .int .i64 j] w fun e w' => ∃ u H', e = .returned u ∧ BestV ([], 0, askE m L v q1 q2 q3 q4 g0 g1 C) u H' ∧ Has w ⟨[], []⟩ H' w' := by
  have HN := fun w1 (hx : Ext w w1) => asked_calls AM A m cM n cp L w1 (hr.ext hx) hn hm v q1 q2 q3 q4 g0 g1 AC nC cC C (hrc.ext hx) hs
  generalize askE m L v q1 q2 q3 q4 g0 g1 C = e at *
  refine enterF (c := cx w 62) Tryz.func22 rfl rfl rfl rfl ?_
  ((all_goals refine goT0 ?_); (all_goals constructor); (any_goals exact trivial); all_goals intros)
  all_goals exact ⟨_, ⟨none, fun _ => rfl, rfl, rfl⟩, HpSub.nil⟩
theorem need23_no (AM A : Option Addr) (m cM n cp : Nat) (L : List Lg) (w : World) (hr : RdS w 5 A n (L.map lgCells)) (hn : n ≤ 1000000) (hm : m ≤ 1000000) (v q1 q2 q3 q4 g0 g1 : Int) (AC : Option Addr) (nC cC : Nat) (C : List Wn) (hrc : CastR w AC nC C) (hs : ∀ z ∈ C, z.n ≤ 1000000) (hE : askE m L v q1 q2 q3 q4 g0 g1 C ≠ 0) (i : Int) : Calls Tryz.prog 23 #[.agg #[.slice AM m cM, .slice A n cp], .agg #[.int .i64 v, .int .i64 q1, .int .i64 q2, .int .i64 q3, .int .i64 q4, .int .i64 g0, .int .i64 g1], .slice AC nC cC, .int .i64 i] w fun e w' => e = .returned (.tuple #[.int .i64 0, .int .i64 (askE m L v q1 q2 q3 q4 g0 g1 C)]) ∧ Ext w w' := by
  have HN := fun w1 (hx : Ext w w1) => open_no AM A m cM n cp L w1 (hr.ext hx) hn hm v q1 q2 q3 q4 g0 g1 AC nC cC C (hrc.ext hx) hs hE
  generalize askE m L v q1 q2 q3 q4 g0 g1 C = e at *
  refine enterQ (c := cx w 43) Tryz.func23 rfl rfl rfl rfl ?_
  ((all_goals refine goT0 ?_); (all_goals constructor); (any_goals exact trivial); all_goals intros)
  all_goals rfl
theorem refNeed_no (AM A : Option Addr) (m cM n cp : Nat) (L : List Lg) (w : World) (hr : RdS w 5 A n (L.map lgCells)) (hn : n ≤ 1000000) (hm : m ≤ 1000000) (v q1 q2 q3 q4 g0 g1 : Int) (AC : Option Addr) (nC cC : Nat) (C : List Wn) (hrc : CastR w AC nC C) (hs : ∀ z ∈ C, z.n ≤ 1000000) (hE : askE m L v q1 q2 q3 q4 g0 g1 C ≠ 0) (i : Int) : Calls Tryz.prog 24 #[.agg #[.slice AM m cM, .slice A n cp], .agg #[.int .i64 v, .int .i64 q1, .int .i64 q2, .int .i64 q3, .int .i64 q4, .int .i64 g0, .int .i64 g1], .slice AC nC cC, .int .i64 i] w fun e w' => e = .returned (.tuple #[.int .i64 0, .int .i64 (askE m L v q1 q2 q3 q4 g0 g1 C)]) ∧ Ext w w' := by
  have HN := fun w1 (hx : Ext w w1) => asked_calls AM A m cM n cp L w1 (hr.ext hx) hn hm v q1 q2 q3 q4 g0 g1 AC nC cC C (hrc.ext hx) hs
  generalize askE m L v q1 q2 q3 q4 g0 g1 C = e at *
  refine enterQ (c := cx w 45) Tryz.func24 rfl rfl rfl rfl ?_
  ((all_goals refine goT0 ?_); (all_goals constructor); (any_goals exact trivial); all_goals intros)
  all_goals rfl
theorem goalL_at {m j s : Nat} (hj : j < m) : (goalL m j).getD s false = decide (((s : Nat) : Int) = ((j : Nat) : Int)) := by
  unfold goalL
  rw [List.getD_eq_getElem?_getD, List.getElem?_set]
  by_cases h : j = s
  · subst h
    simp [hj]
  · rw [if_neg h, decide_eq_false (by omega), List.getElem?_replicate]
    split <;> rfl
theorem best21_calls (AM A : Option Addr) (m cM n cp : Nat) (L : List Lg) (w : World) (hr : RdS w 5 A n (L.map lgCells)) (hn : n ≤ 1000000) (hm : m ≤ 1000000) (v q1 q2 q3 q4 : Int) (g0 g1 : Nat) (AC : Option Addr) (nC cC : Nat) (C : List Wn) (hrc : CastR w AC nC C) (hs : ∀ z ∈ C, z.n ≤ 1000000) (i j : Int) : Calls Tryz.prog 21 #[.agg #[.slice AM m cM, .slice A n cp], .agg #[.int .i64 v, .int .i64 q1, .int .i64 q2, .int .i64 q3, .int .i64 q4, .int .i64 (g0 : Nat), .int .i64 (g1 : Nat)], .slice AC nC cC, .int .i64 i, .int .i64 j] w fun e w' => ∃ u H', e = .returned u ∧ BestV (bestR m L v q1 q2 q3 q4 g0 g1 C i j) u H' ∧ Has w ⟨[], []⟩ H' w' := by
  have hl : L.length = n := by simpa using hr.len
  unfold bestR
  by_cases hE : askE m L v q1 q2 q3 q4 g0 g1 C = 0
  rotate_left
  · rw [if_neg hE]
    exact best21_no AM A m cM n cp L w hr hn hm v q1 q2 q3 q4 g0 g1 AC nC cC C hrc hs hE i j
  rw [if_pos hE]
  have HO := fun w1 (hx : Ext w w1) => open_ok AM A m cM n cp L w1 (hr.ext hx) hn hm v q1 q2 q3 q4 g0 g1 AC nC cC C (hrc.ext hx) hs hE
  obtain ⟨hch, hpk, hk0⟩ := askE_ok hE
  obtain ⟨hcl, hcw⟩ := castE_zero.1 hk0
  have hlc := hrc.len
  clear hE
  obtain ⟨hm1, hL40, hLk⟩ := chartB_iff.1 hch
  by_cases hij : (0 ≤ i ∧ i ≤ (m : Int) - 1) ∧ 0 ≤ j ∧ j ≤ (m : Int) - 1
  rotate_left
  · rw [if_neg hij]
    refine enterF (c := cx w 46) Tryz.func21 rfl rfl rfl rfl ?_
    repeat' (first | ((with_reducible apply oq_id); first | (focus ((with_reducible apply (oq_subE (k := (m : Int) - 1))); exact rfl; exact rfl; omega)) | ((with_reducible apply oq_neqF); exact rfl; exact rfl; omega) | (apply oq_fn; exact rfl; first | exact trivial | (refine ⟨?_, ?_⟩ <;> omega) | (refine ⟨?_, ?_, ?_⟩ <;> omega) | omega | skip) | ((with_reducible apply oq_load); exact rfl; exact rfl) | ((with_reducible apply oq_loadAgg); exact rfl; exact rfl) | ((with_reducible apply oq_call (k := 67) (hc := Tryz.call67)); exact rfl; exact rfl; (intro D w1 hw1; refine rfrom2_f ?_ hw1 (by (repeat (first | exact P0 | apply P1))); omega))) | ((with_reducible apply tl_id); first | ((with_reducible apply tl_nil)) | ((with_reducible apply u_s); exact rfl; exact rfl; exact rfl; (with_reducible apply os_callS (PV := DskV AM _ m cM n cp v q1 q2 q3 q4 g0 g1 C L) (k := 66) (hc := Tryz.call66)); exact rfl; exact rfl; exact fun D w1 hw1 => HO w1 hw1.ext.ext; rintro _ _ ⟨bD, bM, E, rfl, rfl, hE2, hnl⟩; simp only [dkH, List.cons_append, List.nil_append]) | ((with_reducible apply u_q); exact rfl; exact rfl; exact rfl; exact rfl) | ((with_reducible apply u_s); exact rfl; exact rfl; exact rfl)) | ((with_reducible apply os_id); first | ((with_reducible apply os_x); exact rfl)) | ((with_reducible apply ox_id); first | ((with_reducible apply ox_box); exact rfl; exact rfl; intro _) | ((with_reducible apply ox_boxAgg); exact rfl; intro _) | ((with_reducible apply ox_buildSlice1); exact rfl; exact rfl; exact rfl; exact rfl; exact rfl; exact rfl; intro _)) | ((with_reducible apply rd_id); first | (apply Rd.own; (repeat (first | exact P0 | apply P1)); exact rfl; done)) | ((with_reducible apply t_id); first | ((with_reducible apply t_seq)) | (apply t_region; kernel_rfl) | ((with_reducible apply t_condT); exact rfl) | ((with_reducible apply t_condF); exact rfl) | ((with_reducible apply t_ret)) | ((with_reducible apply t_skip))) | with_reducible apply q_thenN | with_reducible apply q_thenR | exact Rdn.zero | apply Rdn.succ | ((with_reducible apply end_ret)) | exact rvs_nil | ((with_reducible apply rvs_cons)) | ((with_reducible apply rv_tmp); exact rfl))
    all_goals exact ⟨_, ⟨none, fun _ => rfl, rfl, rfl⟩, HpSub.nil⟩
  rw [if_pos hij]
  obtain ⟨hi, hj⟩ := hij
  obtain ⟨i, rfl⟩ := Int.eq_ofNat_of_zero_le hi.1
  obtain ⟨j, rfl⟩ := Int.eq_ofNat_of_zero_le hj.1
  rw [Int.toNat_natCast, Int.toNat_natCast]
  have HB : (plansF (arcs (legC v q1 q2 q3 g0 g1 C) L) m (fun s => (goalL m j).getD s false) m).getD i none = routedF (arcs (legC v q1 q2 q3 g0 g1 C) L) (lfG (legC v q1 q2 q3 g0 g1 C) L m (goalL m j)) m i := best_same (arcs_net hLk) (arcs_sorted _ _) (by omega)
  have HP := fun bd bM E (b : Nat) w1 (hx : Ext w w1) hd hE2 (hc : w1.cell? ⟨b, 0, none⟩ = some (.int .i64 ((j : Nat) : Int))) => plansD_calls bd bM AM A m cM n cp L v q1 q2 q3 q4 g0 g1 E C w1 hd hE2 (hr.ext hx) (by omega) (by omega) hLk hpk hcw (by omega) (fun s => (goalL m j).getD s false) 69 [.pointer (some ⟨b, 0, none⟩)] Tryz.call69 (fun s w2 hs h2 => by
    have h := best1_calls ((s : Nat) : Int) ((j : Nat) : Int) b w2 (h2.cell hc)
    rw [← goalL_at (show j < m by omega)] at h
    exact h)
  obtain ⟨rp, hrp⟩ : ∃ p, routedF (arcs (legC v q1 q2 q3 g0 g1 C) L) (lfG (legC v q1 q2 q3 g0 g1 C) L m (goalL m j)) m i = p := ⟨_, rfl⟩
  rw [hrp] at HB ⊢
  clear hrp
  rcases rp with _ | a
  · simp only
    refine enterF (c := cx w 46) Tryz.func21 rfl rfl rfl rfl ?_
    repeat' (first | ((with_reducible apply oq_id); first | (focus ((with_reducible apply (oq_subE (k := (m : Int) - 1))); exact rfl; exact rfl; omega)) | (focus ((with_reducible apply oq_indexAddrN (i := i)); exact rfl; exact rfl; exact rfl; exact rfl; omega)) | ((with_reducible apply oq_neqF); exact rfl; exact rfl; omega) | (apply oq_fn; exact rfl; first | exact trivial | (refine ⟨?_, ?_⟩ <;> omega) | (refine ⟨?_, ?_, ?_⟩ <;> omega) | omega | skip) | ((with_reducible apply oq_load); exact rfl; exact rfl) | ((with_reducible apply oq_loadAgg); exact rfl; exact rfl) | ((with_reducible apply oq_call (k := 67) (hc := Tryz.call67)); exact rfl; exact rfl; (intro D w1 hw1; refine rfrom2_t ?_ hw1 (by (repeat (first | exact P0 | apply P1))); omega))) | ((with_reducible apply tl_id); first | ((with_reducible apply tl_nil)) | ((with_reducible apply u_s); exact rfl; exact rfl; exact rfl; (with_reducible apply os_callS (PV := DskV AM _ m cM n cp v q1 q2 q3 q4 g0 g1 C L) (k := 66) (hc := Tryz.call66)); exact rfl; exact rfl; exact fun D w1 hw1 => HO w1 hw1.ext.ext; rintro _ _ ⟨bD, bM, E, rfl, rfl, hE2, hnl⟩; simp only [dkH, List.cons_append, List.nil_append]) | ((with_reducible apply u_s); exact rfl; exact rfl; exact rfl; (with_reducible apply os_callF (PV := PlansV _ m) (k := 68) (hc := Tryz.call68)); exact rfl; exact rfl; exact fun D w1 hw1 => HP bD bM E _ w1 hw1.ext.ext (DskR.of_has (hw1.sub (by unfold dkH dkC; (repeat' (first | exact FrSub.nil | (apply FrSub.cons; exact rfl) | exact HpSub.refl _ | (apply HpSub.consE; (repeat (first | exact P0 | apply P1)); exact rfl) | apply HpSub.skipX | apply HpSub.skipX | exact HpSub.nil)))) hnl) hE2 (hw1.cellAt (by (repeat (first | exact P0 | apply P1))) rfl); rintro _ _ ⟨l, P, g, c, hlp, hlP, rfl, rfl⟩; simp only [List.cons_append, List.nil_append]; obtain ⟨⟨xp, xA, xn, xc⟩, hx⟩ : ∃ x, l[i]? = some x := ⟨_, List.getElem?_eq_getElem (by have := congrArg List.length hlp; simp only [List.length_map, plansF_len] at this; omega)⟩; obtain rfl := (getD_map hlp hx).symm.trans HB; have hin := hlP _ (List.mem_of_getElem? hx)) | ((with_reducible apply u_q); exact rfl; exact rfl; exact rfl; exact rfl) | ((with_reducible apply u_s0); exact rfl; exact rfl) | ((with_reducible apply u_s); exact rfl; exact rfl; exact rfl)) | ((with_reducible apply os_id); first | ((with_reducible apply os_x); exact rfl) | ((with_reducible apply os_storeAgg); exact rfl; exact rfl; exact rfl; exact rfl; exact rfl)) | ((with_reducible apply ox_id); first | ((with_reducible apply ox_alloc); exact rfl; intro _) | ((with_reducible apply ox_box); exact rfl; exact rfl; intro _) | ((with_reducible apply ox_boxAgg); exact rfl; intro _) | ((with_reducible apply ox_buildSlice1); exact rfl; exact rfl; exact rfl; exact rfl; exact rfl; exact rfl; intro _)) | ((with_reducible apply rd_id); first | (apply rd_pn0 hx; (repeat (first | exact P0 | apply P1)); done) | (apply rd_pn1 hx; (repeat (first | exact P0 | apply P1)); done) | (apply rd_pn2 hx; (repeat (first | exact P0 | apply P1)); done) | (apply Rd.own; (repeat (first | exact P0 | apply P1)); exact rfl; done)) | ((with_reducible apply t_id); first | ((with_reducible apply t_seq)) | (apply t_region; kernel_rfl) | ((with_reducible apply t_condT); exact rfl) | ((with_reducible apply t_condF); exact rfl) | ((with_reducible apply t_ret)) | ((with_reducible apply t_skip))) | with_reducible apply q_thenN | with_reducible apply q_thenR | exact P0 | exact Rdn.zero | apply Rdn.succ | ((with_reducible apply Norm.nil); exact rfl) | ((with_reducible apply Norm.cons); exact rfl) | ((with_reducible apply end_ret)) | exact rvs_nil | ((with_reducible apply rvs_cons)) | ((with_reducible apply rv_tmp); exact rfl) | exact Nat.le_of_ble_eq_true rfl)
    all_goals exact ⟨_, ⟨none, fun _ => rfl, rfl, rfl⟩, HpSub.nil⟩
  · simp only
    refine enterF (c := cx w 46) Tryz.func21 rfl rfl rfl rfl ?_
    repeat' (first | ((with_reducible apply oq_id); first | (focus ((with_reducible apply (oq_subE (k := (m : Int) - 1))); exact rfl; exact rfl; omega)) | (focus ((with_reducible apply oq_indexAddrN (i := i)); exact rfl; exact rfl; exact rfl; exact rfl; omega)) | ((with_reducible apply oq_neqF); exact rfl; exact rfl; omega) | (apply oq_fn; exact rfl; first | exact trivial | (refine ⟨?_, ?_⟩ <;> omega) | (refine ⟨?_, ?_, ?_⟩ <;> omega) | omega | skip) | ((with_reducible apply oq_load); exact rfl; exact rfl) | ((with_reducible apply oq_loadAgg); exact rfl; exact rfl) | ((with_reducible apply oq_call (k := 67) (hc := Tryz.call67)); exact rfl; exact rfl; (intro D w1 hw1; refine rfrom2_t ?_ hw1 (by (repeat (first | exact P0 | apply P1))); omega))) | ((with_reducible apply tl_id); first | ((with_reducible apply tl_nil)) | ((with_reducible apply u_s); exact rfl; exact rfl; exact rfl; (with_reducible apply os_callS (PV := DskV AM _ m cM n cp v q1 q2 q3 q4 g0 g1 C L) (k := 66) (hc := Tryz.call66)); exact rfl; exact rfl; exact fun D w1 hw1 => HO w1 hw1.ext.ext; rintro _ _ ⟨bD, bM, E, rfl, rfl, hE2, hnl⟩; simp only [dkH, List.cons_append, List.nil_append]) | ((with_reducible apply u_s); exact rfl; exact rfl; exact rfl; (with_reducible apply os_callF (PV := PlansV _ m) (k := 68) (hc := Tryz.call68)); exact rfl; exact rfl; exact fun D w1 hw1 => HP bD bM E _ w1 hw1.ext.ext (DskR.of_has (hw1.sub (by unfold dkH dkC; (repeat' (first | exact FrSub.nil | (apply FrSub.cons; exact rfl) | exact HpSub.refl _ | (apply HpSub.consE; (repeat (first | exact P0 | apply P1)); exact rfl) | apply HpSub.skipX | apply HpSub.skipX | exact HpSub.nil)))) hnl) hE2 (hw1.cellAt (by (repeat (first | exact P0 | apply P1))) rfl); rintro _ _ ⟨l, P, g, c, hlp, hlP, rfl, rfl⟩; simp only [List.cons_append, List.nil_append]; obtain ⟨⟨xp, xA, xn, xc⟩, hx⟩ : ∃ x, l[i]? = some x := ⟨_, List.getElem?_eq_getElem (by have := congrArg List.length hlp; simp only [List.length_map, plansF_len] at this; omega)⟩; obtain rfl := (getD_map hlp hx).symm.trans HB; have hin := hlP _ (List.mem_of_getElem? hx)) | ((with_reducible apply u_q); exact rfl; exact rfl; exact rfl; exact rfl) | ((with_reducible apply u_s0); exact rfl; exact rfl) | ((with_reducible apply u_s); exact rfl; exact rfl; exact rfl)) | ((with_reducible apply gx_id); first | ((with_reducible apply v_nil)) | ((with_reducible apply v_q); exact rfl; exact rfl; exact rfl)) | ((with_reducible apply os_id); first | ((with_reducible apply os_x); exact rfl) | ((with_reducible apply os_storeAgg); exact rfl; exact rfl; exact rfl; exact rfl; exact rfl)) | ((with_reducible apply ox_id); first | ((with_reducible apply ox_alloc); exact rfl; intro _) | ((with_reducible apply ox_box); exact rfl; exact rfl; intro _) | ((with_reducible apply ox_boxAgg); exact rfl; intro _) | ((with_reducible apply ox_buildSlice1); exact rfl; exact rfl; exact rfl; exact rfl; exact rfl; exact rfl; intro _)) | ((with_reducible apply rd_id); first | (apply rd_pn0 hx; (repeat (first | exact P0 | apply P1)); done) | (apply rd_pn1 hx; (repeat (first | exact P0 | apply P1)); done) | (apply rd_pn2 hx; (repeat (first | exact P0 | apply P1)); done) | (apply Rd.own; (repeat (first | exact P0 | apply P1)); exact rfl; done)) | ((with_reducible apply t_id); first | ((with_reducible apply t_seq)) | (apply t_region; kernel_rfl) | (apply t_drawn; kernel_rfl; decide +kernel; try simp only [List.append_eq, List.cons_append, List.nil_append]) | ((with_reducible apply t_condF); exact rfl) | ((with_reducible apply t_ret)) | ((with_reducible apply t_skip))) | with_reducible apply q_thenN | exact P0 | exact Rdn.zero | apply Rdn.succ | ((with_reducible apply Norm.nil); exact rfl) | ((with_reducible apply Norm.cons); exact rfl) | ((with_reducible apply end_ret)) | exact rvs_nil | ((with_reducible apply rvs_cons)) | ((with_reducible apply rv_tmp); exact rfl) | exact Nat.le_of_ble_eq_true rfl)
    all_goals (obtain ⟨o, ho, hu, hX⟩ := hin.ans; refine ⟨_, ⟨o, ho, by rw [show Value.slice xA xn xc = sN a.2 o from hu]; rfl, rfl⟩, ?_⟩; exact HpSub.skipX (HpSub.skipX (hX _)))
theorem need_bound {v q1 q2 q3 q4 : Int} {g0 g1 : Nat} {C : List Wn} {L : List Lg} {m : Nat} {to : Nat → Bool} {i : Nat} {a : Int × List Nat} (hp : PaceOk v q1 q2 q3 q4 g0 g1) (hcw : ∀ x ∈ C, windB x.l = true) (hL : ∀ z ∈ L, LegOk m z) (hm : m ≤ 12) (h : (plansF (arcs (legC v q1 q2 q3 g0 g1 C) L) m to m).getD i none = some a) : 0 ≤ a.1 ∧ a.1 ≤ 3000000000000 ∧ a.2.length ≤ 12 := by
  have hi : some a ∈ plansF (arcs (legC v q1 q2 q3 g0 g1 C) L) m to m := by
    rw [List.getD_eq_getElem?_getD] at h
    cases hx : (plansF (arcs (legC v q1 q2 q3 g0 g1 C) L) m to m)[i]? with
    | none => rw [hx] at h; cases h
    | some x =>
      rw [hx] at h
      obtain rfl : x = some a := h
      exact List.mem_of_getElem? hx
  have := plans_bd (A := (arcs (legC v q1 q2 q3 g0 g1 C) L)) (n := m) (to := to) (by
    intro i x hx
    obtain ⟨_, z, hz, h0, h⟩ := arcT_some (arcs_mem hx)
    refine ⟨h0, ?_⟩
    have hm := List.mem_of_getElem? hz
    rcases h with ⟨_, e⟩ | ⟨_, e⟩ <;> rw [e] <;> exact (legC_le hcw hp (hL z hm) _).1) m a hi
  have h2 : (m : Int) * 166666666667 ≤ 12 * 166666666667 := Int.mul_le_mul_of_nonneg_right (by omega) (by omega)
  omega
theorem need23_calls (AM A : Option Addr) (m cM n cp : Nat) (L : List Lg) (T : List Bool) (w : World) (hT : RdS w 1 AM m (T.map blCells)) (hr : RdS w 5 A n (L.map lgCells)) (hn : n ≤ 1000000) (hm : m ≤ 1000000) (v q1 q2 q3 q4 : Int) (g0 g1 : Nat) (AC : Option Addr) (nC cC : Nat) (C : List Wn) (hrc : CastR w AC nC C) (hs : ∀ z ∈ C, z.n ≤ 1000000) (i : Int) : Calls Tryz.prog 23 #[.agg #[.slice AM m cM, .slice A n cp], .agg #[.int .i64 v, .int .i64 q1, .int .i64 q2, .int .i64 q3, .int .i64 q4, .int .i64 (g0 : Nat), .int .i64 (g1 : Nat)], .slice AC nC cC, .int .i64 i] w fun e w' => e = .returned (.tuple #[.int .i64 (needR m L T v q1 q2 q3 q4 g0 g1 C i).1, .int .i64 (needR m L T v q1 q2 q3 q4 g0 g1 C i).2]) ∧ Ext w w' := by
  have hl : L.length = n := by simpa using hr.len
  unfold needR
  by_cases hE : askE m L v q1 q2 q3 q4 g0 g1 C = 0
  rotate_left
  · rw [if_neg hE]
    exact need23_no AM A m cM n cp L w hr hn hm v q1 q2 q3 q4 g0 g1 AC nC cC C hrc hs hE i
  rw [if_pos hE]
  have HO := fun w1 (hx : Ext w w1) => open_ok AM A m cM n cp L w1 (hr.ext hx) hn hm v q1 q2 q3 q4 g0 g1 AC nC cC C (hrc.ext hx) hs hE
  obtain ⟨hch, hpk, hk0⟩ := askE_ok hE
  obtain ⟨hcl, hcw⟩ := castE_zero.1 hk0
  have hlc := hrc.len
  clear hE
  obtain ⟨hm1, hL40, hLk⟩ := chartB_iff.1 hch
  by_cases hi : 0 ≤ i ∧ i ≤ (m : Int) - 1
  rotate_left
  · rw [if_neg hi]
    refine enterQ (c := cx w 43) Tryz.func23 rfl rfl rfl rfl ?_
    ((all_goals refine goT0 ?_); (all_goals constructor); (any_goals exact trivial); all_goals intros)
    all_goals rfl
  rw [if_pos hi]
  obtain ⟨i, rfl⟩ := Int.eq_ofNat_of_zero_le hi.1
  rw [Int.toNat_natCast]
  have HB : (plansF (arcs (legC v q1 q2 q3 g0 g1 C) L) m (fun s => T.getD s false) m).getD i none = routedF (arcs (legC v q1 q2 q3 g0 g1 C) L) (lfG (legC v q1 q2 q3 g0 g1 C) L m T) m i := best_same (arcs_net hLk) (arcs_sorted _ _) (by omega)
  have HP := fun bd bM E w1 (hx : Ext w w1) hd hE2 => alternates_calls bd bM AM A m cM n cp L v q1 q2 q3 q4 g0 g1 E C w1 hd hE2 (hr.ext hx) (by omega) (by omega) hLk hpk hcw (by omega) T (hT.ext hx)
  have hbd := fun a (h : (plansF (arcs (legC v q1 q2 q3 g0 g1 C) L) m (fun s => T.getD s false) m).getD i none = some a) => need_bound hpk hcw hLk (by omega) h
  obtain ⟨rp, hrp⟩ : ∃ p, routedF (arcs (legC v q1 q2 q3 g0 g1 C) L) (lfG (legC v q1 q2 q3 g0 g1 C) L m T) m i = p := ⟨_, rfl⟩
  rw [hrp] at HB ⊢
  rw [HB] at hbd
  clear hrp
  obtain ⟨_, _, _, _, p5, _⟩ := id hpk
  rcases rp with _ | a
  · simp only
    refine enterQ (c := cx w 43) Tryz.func23 rfl rfl rfl rfl ?_
    ((all_goals refine goT0 ?_); (all_goals constructor); (any_goals exact trivial); all_goals intros)
    all_goals rfl
  · obtain ⟨ha0, ha1, _⟩ := hbd a rfl
    simp only
    refine enterQ (c := cx w 43) Tryz.func23 rfl rfl rfl rfl ?_
    ((all_goals refine goT0 ?_); (all_goals constructor); (any_goals exact trivial); all_goals intros)
    all_goals rfl
theorem bl_len {l : List Bool} : ∀ r ∈ l.map blCells, r.length = 1 := by
  intro r hr
  obtain ⟨x, _, rfl⟩ := List.mem_map.1 hr
  rfl
theorem bl_one {l : List Bool} : ∀ r ∈ l.map blCells, ∀ u ∈ r, u.oneCell' = true := by
  intro r hr u hu
  obtain ⟨x, _, rfl⟩ := List.mem_map.1 hr
  simp only [blCells, List.mem_singleton] at hu
  subst hu; rfl
theorem lg_len {l : List Lg} : ∀ r ∈ l.map lgCells, r.length = 5 := by
  intro r hr
  obtain ⟨x, _, rfl⟩ := List.mem_map.1 hr
  rfl
theorem lg_one {l : List Lg} : ∀ r ∈ l.map lgCells, ∀ u ∈ r, u.oneCell' = true := by
  intro r hr u hu
  obtain ⟨x, _, rfl⟩ := List.mem_map.1 hr
  simp only [lgCells, List.mem_cons, List.not_mem_nil, or_false] at hu
  rcases hu with rfl | rfl | rfl | rfl | rfl <;> rfl
/-- A chart that is handed out. -/
def TwinV (T : List Bool) (L : List Lg) (m n : Nat) (u : Value) (H : Hp) : Prop := ∃ b1 k1 b2 k2, u = .agg #[.slice (some ⟨b1, 0, none⟩) m k1, .slice (some ⟨b2, 0, none⟩) n k2] ∧ H = [(b1, (T.map blCells).flatten, some (4, 1, k1)), (b2, (L.map lgCells).flatten, some (78, 5, k2))]
theorem twin_calls (AM A : Option Addr) (m cM n cp : Nat) (T : List Bool) (L : List Lg) (w : World) (hT : RdS w 1 AM m (T.map blCells)) (hr : RdS w 5 A n (L.map lgCells)) (hn : n ≤ 1000000) (hm : m ≤ 1000000) : Calls Tryz.prog 20 #[.agg #[.slice AM m cM, .slice A n cp]] w fun e w' => ∃ u H', e = .returned u ∧ TwinV T L m n u H' ∧ Has w ⟨[], []⟩ H' w' := by
  refine enterF (c := cx w 12) Tryz.func20 rfl rfl rfl rfl ?_
  repeat' (first | ((with_reducible apply oq_id); first | (apply oq_fn; exact rfl; first | exact trivial | (refine ⟨?_, ?_⟩ <;> omega) | (refine ⟨?_, ?_, ?_⟩ <;> omega) | omega | skip) | ((with_reducible apply oq_load); exact rfl; exact rfl) | ((with_reducible apply oq_build); exact rfl; exact rfl; exact rfl)) | ((with_reducible apply tl_id); first | ((with_reducible apply tl_nil)) | ((with_reducible apply u_s); exact rfl; exact rfl; exact rfl)) | ((with_reducible apply gx_id); first | ((with_reducible apply v_nil)) | ((with_reducible apply v_q); exact rfl; exact rfl; exact rfl)) | ((with_reducible apply os_id); first | ((with_reducible apply os_x); exact rfl) | ((with_reducible apply os_storeAgg); exact rfl; exact rfl; exact rfl; exact rfl; exact rfl)) | ((with_reducible apply ox_id); first | ((with_reducible apply ox_alloc); exact rfl; intro _) | ((with_reducible apply ox_boxAgg); exact rfl; intro _) | ((with_reducible apply ox_buildSlice1); exact rfl; exact rfl; exact rfl; exact rfl; exact rfl; exact rfl; intro _) | ((with_reducible apply ox_buildSlice); exact rfl; exact rfl; exact rfl; exact rfl)) | ((with_reducible apply ai_id); first | ((with_reducible apply ai_n); exact rfl; exact rfl; exact rfl; exact rfl; ((with_reducible apply (os_appendU (hk := app_ok22) (rows := T.map blCells))); exact rfl; exact rfl; (focus ((repeat (first | exact P0 | apply P1)); done)); exact fun D w1 hw1 => hT.ext hw1.ext.ext; exact bl_len; exact rfl; exact bl_one; omega; omega; intro b1 k1)) | ((with_reducible apply ai_n); exact rfl; exact rfl; exact rfl; exact rfl; ((with_reducible apply (os_appendU (hk := app_ok23) (rows := L.map lgCells))); exact rfl; exact rfl; (focus ((repeat (first | exact P0 | apply P1)); done)); exact fun D w1 hw1 => hr.ext hw1.ext.ext; exact lg_len; exact rfl; exact lg_one; omega; omega; intro b2 k2)) | ((with_reducible apply ai_q); exact rfl; exact rfl; exact rfl; exact rfl; exact rfl) | ((with_reducible apply ai_x); exact rfl; exact rfl; exact rfl; exact rfl; exact rfl) | ((with_reducible apply ai_s0); exact rfl; exact rfl; exact rfl; exact rfl)) | ((with_reducible apply al_keep); focus (repeat (first | exact HpSub.refl _ | (apply HpSub.cons; (repeat (first | exact P0 | apply P1))) | apply HpSub.skipX | exact HpSub.nil))) | ((with_reducible apply rd_id); first | (apply Rd.own; (repeat (first | exact P0 | apply P1)); exact rfl; done)) | ((with_reducible apply t_id); first | (apply t_mix (id := 1) [1, 2, 5, 6] 6 #[false, false, false, false, false, false, false, false, false, true]; kernel_rfl; kernel_rfl; exact rfl) | ((with_reducible apply t_seq)) | (apply t_region; kernel_rfl) | ((with_reducible apply t_ret))) | with_reducible apply q_thenN | exact P0 | ((with_reducible apply P1)) | exact Rdn.zero | apply Rdn.succ | ((with_reducible apply Norm.nil); exact rfl) | ((with_reducible apply Norm.cons); exact rfl) | ((with_reducible apply end_ret)) | exact rvs_nil | ((with_reducible apply rvs_cons)) | ((with_reducible apply rv_cellAgg); exact rfl; exact rfl) | ((with_reducible apply al_id); first | (apply al_done; decide +kernel) | (apply al_one 0; decide +kernel) | (apply al_one 3; decide +kernel) | (apply al_one 4; decide +kernel) | (apply al_one 7; decide +kernel) | (apply al_one 8; decide +kernel) | (apply al_one 9; decide +kernel) | (apply al_two 0 4; decide +kernel) | (apply al_two 3 4; decide +kernel)) | exact Nat.le_of_ble_eq_true rfl | exact (rfl : (_ : Bool) = true) | (intro _; with_reducible apply al_id))
  all_goals (refine ⟨_, ⟨b1, k1, b2, k2, (by first | rfl | (simp; rfl) | (simp [retOf]; done)), rfl⟩, ?_⟩; (try simp only [List.append_nil, List.nil_append]); (repeat' (first | exact HpSub.refl _ | (apply HpSub.consE; (repeat (first | exact P0 | apply P1)); first | exact rfl | (simp; done)) | apply HpSub.skipX)))
theorem eq_lg {w : World} {d : Nat} (z : Lg) : (Op.equalIn (d + 2) 78 (.agg ⟨[.int .i64 z.a, .int .i64 z.b, .int .i64 z.x, .int .i64 z.y, .int .i64 z.h]⟩) (.agg ⟨[.int .i64 z.a, .int .i64 z.b, .int .i64 z.x, .int .i64 z.y, .int .i64 z.h]⟩)).run Tryz.prog w = .ok true w := by
  rw [run_equalIn_struct w (d + 1) 78 _ _ (by kernel_rfl) (by kernel_rfl)]
  simp only [Program.fieldsOf, Tryz.underlying78]
  refine (eqF_int rfl rfl rfl rfl rfl (eqF_int rfl rfl rfl rfl rfl (eqF_int rfl rfl rfl rfl rfl (eqF_int rfl rfl rfl rfl rfl (eqF_int rfl rfl rfl rfl rfl eqF_nil))))).trans ?_
  simp
theorem oq_neLg {w : World} {N : Nat} {F : Fr} {H : Hp} {M : List Nat} {d : Option Tmp} {ty t' : TypeId} {pos : String} {af : Array Edge} {g : Option (Nat × Bool)} {x y : Operand} (z : Lg) (hx : ev F x = some (.agg ⟨[.int .i64 z.a, .int .i64 z.b, .int .i64 z.x, .int .i64 z.y, .int .i64 z.h]⟩)) (hy : ev F y = some (.agg ⟨[.int .i64 z.a, .int .i64 z.b, .int .i64 z.x, .int .i64 z.y, .int .i64 z.h]⟩)) : OQ (cxM M w N) ⟨d, .binOp .neq 78 x y t', ty, pos, af, g⟩ F H (.bool false) :=
  (oq_neS (by kernel_rfl) (fun w => eq_lg (d := 9998) z) hx hy).as rfl
theorem alike_calls (G1 G2 A1 A2 : Option Addr) (m u1 u2 n k1 k2 : Nat) (T : List Bool) (L : List Lg) (w : World) (hT1 : RdS w 1 G1 m (T.map blCells)) (hT2 : RdS w 1 G2 m (T.map blCells)) (hL1 : RdS w 5 A1 n (L.map lgCells)) (hL2 : RdS w 5 A2 n (L.map lgCells)) (hn : n ≤ 1000000) (hm : m ≤ 1000000) : Calls Tryz.prog 26 #[.agg #[.slice G1 m u1, .slice A1 n k1], .agg #[.slice G2 m u2, .slice A2 n k2]] w fun e w' => e = .returned (.bool true) ∧ Ext w w' := by
  refine enterQ (c := cx w 59) Tryz.func26 rfl rfl rfl rfl ?_
  ((all_goals refine goT0 ?_); (all_goals constructor); (any_goals exact trivial); all_goals intros)
  rename_i b2 b3
  apply t_loopK (ι := Nat) [2, 3, 25] (fun k => [(26, .int .i64 ((k : Nat) : Int))]) (fun _ => [(b2, [.slice G1 m u1, .slice A1 n k1], some (25, 2, 1)), (b3, [.slice G2 m u2, .slice A2 n k2], some (25, 2, 1))]) (fun k => k ≤ m) (fun k => m - k) (0)
  (repeat (first | exact KeepF.nil | (apply KeepF.cons; exact rfl) | apply KeepF.skip))
  (repeat (first | exact FrSub.nil | (apply FrSub.cons; exact rfl)))
  (repeat (first | exact HpSub.refl _ | (apply HpSub.consE; (repeat (first | exact P0 | apply P1)); exact rfl) | exact HpSub.nil))
  · exact Nat.zero_le _
  rintro k hk
  try simp only [List.cons_append, List.nil_append]
  by_cases hlt : k < m
  · obtain ⟨bA, oA, x, rfl, _, hx, c0⟩ := bl_read hT1 hlt
    obtain ⟨bB, oB, y, rfl, _, hy, d0⟩ := bl_read hT2 hlt
    rw [hx] at hy
    obtain rfl := Option.some.inj hy
    cases x
    · ((all_goals refine goT0 ?_); (all_goals constructor); (any_goals exact trivial); all_goals intros)
      all_goals (refine ⟨k + 1, by omega, by omega, ?_, ?_⟩ <;> (repeat' (first | exact FrSub.nil | (apply FrSub.cons; exact rfl) | exact HpSub.refl _)))
    · ((all_goals refine goT0 ?_); (all_goals constructor); (any_goals exact trivial); all_goals intros)
      all_goals (refine ⟨k + 1, by omega, by omega, ?_, ?_⟩ <;> (repeat' (first | exact FrSub.nil | (apply FrSub.cons; exact rfl) | exact HpSub.refl _)))
  ((all_goals refine goT0 ?_); (all_goals constructor); (any_goals exact trivial); all_goals intros)
  apply t_loopK (ι := Nat) [2, 3, 43] (fun k => [(44, .int .i64 ((k : Nat) : Int))]) (fun _ => [(b2, [.slice G1 m u1, .slice A1 n k1], some (25, 2, 1)), (b3, [.slice G2 m u2, .slice A2 n k2], some (25, 2, 1))]) (fun k => k ≤ n) (fun k => n - k) (0)
  (repeat (first | exact KeepF.nil | (apply KeepF.cons; exact rfl) | apply KeepF.skip))
  (repeat (first | exact FrSub.nil | (apply FrSub.cons; exact rfl)))
  (repeat (first | exact HpSub.refl _ | (apply HpSub.consE; (repeat (first | exact P0 | apply P1)); exact rfl) | exact HpSub.nil))
  · exact Nat.zero_le _
  rintro k hk
  try simp only [List.cons_append, List.nil_append]
  by_cases hlt : k < n
  · obtain ⟨bA, oA, z, rfl, _, hx, c0, c1', c2', c3', c4'⟩ := lg_read hL1 hlt
    obtain ⟨bB, oB, y, rfl, _, hy, d0, d1, d2, d3, d4⟩ := lg_read hL2 hlt
    rw [hx] at hy
    obtain rfl := Option.some.inj hy
    have c1 := c1'
    have c2 := c2'
    have c3 := c3'
    have c4 := c4'
    clear c1' c2' c3' c4'
    ((all_goals refine goT0 ?_); (all_goals constructor); (any_goals exact trivial); all_goals intros)
    all_goals (refine ⟨k + 1, by omega, by omega, ?_, ?_⟩ <;> (repeat' (first | exact FrSub.nil | (apply FrSub.cons; exact rfl) | exact HpSub.refl _)))
  · ((all_goals refine goT0 ?_); (all_goals constructor); (any_goals exact trivial); all_goals intros)
    all_goals rfl
theorem sameInts_calls (A A' : Option Addr) (n c n' c' : Nat) (l m : List Int) (q : Bool) (hq : q = true ↔ l = m) (w : World) (hr : RdS w 1 A n (l.map inCells)) (hr' : RdS w 1 A' n' (m.map inCells)) (hn : n ≤ 1000000) (hn' : n' ≤ 1000000) :
    Calls Tryz.prog 75 #[.slice A n c, .slice A' n' c'] w fun e w' => e = .returned (.bool q) ∧ Ext w w' := by
  have hl := hr.len
  have hl' := hr'.len
  simp only [List.length_map] at hl hl'
  by_cases hnn : n = n'
  · subst hnn
    refine enterQ (c := cx w 26) Tryz.func75 rfl rfl rfl rfl ?_
    ((all_goals refine goT1 ?_); (all_goals constructor); (any_goals exact trivial); all_goals intros)
    apply t_loopK (ι := Nat) [0, 1] (fun k => [(5, .int .i64 (k : Nat))]) (fun _ => []) (fun k => k ≤ n ∧ ∀ j, j < k → l[j]? = m[j]?) (fun k => n - k) (0)
    (repeat (first | exact KeepF.nil | (apply KeepF.cons; exact rfl) | apply KeepF.skip))
    (repeat (first | exact FrSub.nil | (apply FrSub.cons; exact rfl)))
    (repeat (first | exact HpSub.refl _ | (apply HpSub.consE; (repeat (first | exact P0 | apply P1)); exact rfl) | exact HpSub.nil))
    · exact ⟨by omega, fun j hj => by omega⟩
    rintro k ⟨hk, hkp⟩
    try simp only [List.cons_append, List.nil_append]
    by_cases hlt : k < n
    · obtain ⟨b, o, x, rfl, _, hx, c0⟩ := in_read hr hlt
      obtain ⟨b', o', y, rfl, _, hy, d0⟩ := in_read hr' hlt
      by_cases hxy : x = y
      · subst hxy
        ((all_goals refine goT1 ?_); (all_goals constructor); (any_goals exact trivial); all_goals intros)
        refine ⟨k + 1, ⟨by omega, fun j hj => ?_⟩, by omega, ?_, ?_⟩
        · rcases Nat.lt_or_ge j k with h | h
          · exact hkp j h
          · obtain rfl : j = k := by omega
            rw [hx, hy]
        · try simp only [List.cons_append, List.nil_append]
          (repeat' (first | exact FrSub.nil | (apply FrSub.cons; exact rfl)))
        · try simp only [List.cons_append, List.nil_append]
          (repeat' (first | exact HpSub.refl _))
      · ((all_goals refine goT1 ?_); (all_goals constructor); (any_goals exact trivial); all_goals intros)
        have hf : q = false := by
          cases q with
          | false => rfl
          | true =>
            have e := hq.1 rfl
            rw [e, hy] at hx
            exact absurd (Option.some.inj hx).symm hxy
        rw [hf]; rfl
    · ((all_goals refine goT1 ?_); (all_goals constructor); (any_goals exact trivial); all_goals intros)
      have : q = true := hq.2 (List.ext_getElem? fun j => by
        rcases Nat.lt_or_ge j n with h | h
        · exact hkp j (by omega)
        · rw [List.getElem?_eq_none (by omega), List.getElem?_eq_none (by omega)])
      rw [this]; rfl
  · have : q = false := by
      cases q with
      | false => rfl
      | true => exact absurd (by rw [← hl, ← hl', hq.1 rfl]) hnn
    refine enterQ (c := cx w 26) Tryz.func75 rfl rfl rfl rfl ?_
    ((all_goals refine goT1 ?_); (all_goals constructor); (any_goals exact trivial); all_goals intros)
    rw [this]
    all_goals rfl
theorem same25_calls (A A' : Option Addr) (n c n' c' : Nat) (l : List Int) (w : World) (hr : RdS w 1 A n (l.map inCells)) (hr' : RdS w 1 A' n' (l.map inCells)) (hn : n ≤ 1000000) (hn' : n' ≤ 1000000) : Calls Tryz.prog 25 #[.slice A n c, .slice A' n' c'] w fun e w' => e = .returned (.bool true) ∧ Ext w w' := by
  refine enterQ (c := cx w 8) Tryz.func25 rfl rfl rfl rfl ?_
  ((all_goals refine goT1 ?_); (all_goals constructor); (any_goals exact trivial); all_goals intros)
  all_goals rfl
theorem lg_rows {w0 : World} {M : Ms} {H H' : Hp} {w : World} {g n : Nat} {l : List Lg} {tg : Tg} (hl : l.length = n) (h : Has w0 M H w) (q : Pick H g ((l.map lgCells).flatten) tg H') : RdS w 5 (some ⟨g, 0, none⟩) n (l.map lgCells) :=
  Blk.rows (h.blk _ q.mem).2 (by simpa using hl) lg_len
theorem bl_rows {w0 : World} {M : Ms} {H H' : Hp} {w : World} {g n : Nat} {l : List Bool} {tg : Tg} (hl : l.length = n) (h : Has w0 M H w) (q : Pick H g ((l.map blCells).flatten) tg H') : RdS w 1 (some ⟨g, 0, none⟩) n (l.map blCells) :=
  Blk.rows (h.blk _ q.mem).2 (by simpa using hl) bl_len
theorem bestR_len {m : Nat} {L : List Lg} {v q1 q2 q3 q4 : Int} {g0 g1 : Nat} {C : List Wn} {i j : Int} : (bestR m L v q1 q2 q3 q4 g0 g1 C i j).1.length ≤ 1000000 := by
  unfold bestR
  split
  rotate_left
  · exact Nat.zero_le _
  rename_i hE
  obtain ⟨hch, hpk, hk0⟩ := askE_ok hE
  obtain ⟨hcl, hcw⟩ := castE_zero.1 hk0
  obtain ⟨hm1, hL40, hLk⟩ := chartB_iff.1 hch
  split
  rotate_left
  · exact Nat.zero_le _
  rename_i hij
  have HB : (plansF (arcs (legC v q1 q2 q3 g0 g1 C) L) m (fun s => (goalL m j.toNat).getD s false) m).getD i.toNat none = routedF (arcs (legC v q1 q2 q3 g0 g1 C) L) (lfG (legC v q1 q2 q3 g0 g1 C) L m (goalL m j.toNat)) m i.toNat := best_same (arcs_net hLk) (arcs_sorted _ _) (by omega)
  rw [← HB]
  split
  · exact Nat.zero_le _
  · rename_i a ha
    have := (need_bound hpk hcw hLk (by omega) ha).2.2
    simp only
    omega
theorem bests_both (AC : Option Addr) (m n nC cC : Nat) (L : List Lg) (w : World) (v q1 q2 q3 q4 g0 g1 : Int) (C : List Wn) (hrc : CastR w AC nC C) (hs : ∀ z ∈ C, z.n ≤ 1000000) (hm : m ≤ 1000000) (hn : n ≤ 1000000) (i j : Int) : ∃ r : List Nat × Int × Int, r.1.length ≤ 1000000 ∧ ∀ (G1 G2 : Option Addr) (u1 u2 : Nat) (w1 : World), RdS w1 5 G2 n (L.map lgCells) → Ext w w1 → (Calls Tryz.prog 21 #[.agg #[.slice G1 m u1, .slice G2 n u2], .agg #[.int .i64 v, .int .i64 q1, .int .i64 q2, .int .i64 q3, .int .i64 q4, .int .i64 g0, .int .i64 g1], .slice AC nC cC, .int .i64 i, .int .i64 j] w1 fun e w' => ∃ u H', e = .returned u ∧ BestV r u H' ∧ Has w1 ⟨[], []⟩ H' w') ∧ (Calls Tryz.prog 22 #[.agg #[.slice G1 m u1, .slice G2 n u2], .agg #[.int .i64 v, .int .i64 q1, .int .i64 q2, .int .i64 q3, .int .i64 q4, .int .i64 g0, .int .i64 g1], .slice AC nC cC, .int .i64 i, .int .i64 j] w1 fun e w' => ∃ u H', e = .returned u ∧ BestV r u H' ∧ Has w1 ⟨[], []⟩ H' w') := by
  by_cases hE : askE m L v q1 q2 q3 q4 g0 g1 C = 0
  · obtain ⟨_, hpk, _⟩ := askE_ok hE
    obtain ⟨_, _, _, _, _, kg⟩ := hpk
    obtain ⟨g0, rfl⟩ := Int.eq_ofNat_of_zero_le kg.1
    obtain ⟨g1, rfl⟩ := Int.eq_ofNat_of_zero_le (show 0 ≤ g1 by omega)
    exact ⟨bestR m L v q1 q2 q3 q4 g0 g1 C i j, bestR_len, fun G1 G2 u1 u2 w1 hr hx => ⟨best21_calls G1 G2 m u1 n u2 L w1 hr hn hm v q1 q2 q3 q4 g0 g1 AC nC cC C (hrc.ext hx) hs i j, refBest_calls G1 G2 m u1 n u2 L w1 hr hn hm v q1 q2 q3 q4 g0 g1 AC nC cC C (hrc.ext hx) hs i j⟩⟩
  · exact ⟨([], 0, askE m L v q1 q2 q3 q4 g0 g1 C), Nat.zero_le _, fun G1 G2 u1 u2 w1 hr hx => ⟨best21_no G1 G2 m u1 n u2 L w1 hr hn hm v q1 q2 q3 q4 g0 g1 AC nC cC C (hrc.ext hx) hs hE i j, refBest_no G1 G2 m u1 n u2 L w1 hr hn hm v q1 q2 q3 q4 g0 g1 AC nC cC C (hrc.ext hx) hs hE i j⟩⟩
theorem needs_both (AC : Option Addr) (m n nC cC : Nat) (T : List Bool) (L : List Lg) (w : World) (v q1 q2 q3 q4 g0 g1 : Int) (C : List Wn) (hrc : CastR w AC nC C) (hs : ∀ z ∈ C, z.n ≤ 1000000) (hm : m ≤ 1000000) (hn : n ≤ 1000000) (j : Int) : ∃ d : Int × Int, ∀ (G1 G2 : Option Addr) (u1 u2 : Nat) (w1 : World), RdS w1 1 G1 m (T.map blCells) → RdS w1 5 G2 n (L.map lgCells) → Ext w w1 → (Calls Tryz.prog 23 #[.agg #[.slice G1 m u1, .slice G2 n u2], .agg #[.int .i64 v, .int .i64 q1, .int .i64 q2, .int .i64 q3, .int .i64 q4, .int .i64 g0, .int .i64 g1], .slice AC nC cC, .int .i64 j] w1 fun e w' => e = .returned (.tuple #[.int .i64 d.1, .int .i64 d.2]) ∧ Ext w1 w') ∧ (Calls Tryz.prog 24 #[.agg #[.slice G1 m u1, .slice G2 n u2], .agg #[.int .i64 v, .int .i64 q1, .int .i64 q2, .int .i64 q3, .int .i64 q4, .int .i64 g0, .int .i64 g1], .slice AC nC cC, .int .i64 j] w1 fun e w' => e = .returned (.tuple #[.int .i64 d.1, .int .i64 d.2]) ∧ Ext w1 w') := by
  by_cases hE : askE m L v q1 q2 q3 q4 g0 g1 C = 0
  · obtain ⟨_, hpk, _⟩ := askE_ok hE
    obtain ⟨_, _, _, _, _, kg⟩ := hpk
    obtain ⟨g0, rfl⟩ := Int.eq_ofNat_of_zero_le kg.1
    obtain ⟨g1, rfl⟩ := Int.eq_ofNat_of_zero_le (show 0 ≤ g1 by omega)
    exact ⟨needR m L T v q1 q2 q3 q4 g0 g1 C j, fun G1 G2 u1 u2 w1 hT hr hx => ⟨need23_calls G1 G2 m u1 n u2 L T w1 hT hr hn hm v q1 q2 q3 q4 g0 g1 AC nC cC C (hrc.ext hx) hs j, refNeed_calls G1 G2 m u1 n u2 L T w1 hT hr hn hm v q1 q2 q3 q4 g0 g1 AC nC cC C (hrc.ext hx) hs j⟩⟩
  · exact ⟨(0, askE m L v q1 q2 q3 q4 g0 g1 C), fun G1 G2 u1 u2 w1 hT hr hx => ⟨need23_no G1 G2 m u1 n u2 L w1 hr hn hm v q1 q2 q3 q4 g0 g1 AC nC cC C (hrc.ext hx) hs hE j, refNeed_no G1 G2 m u1 n u2 L w1 hr hn hm v q1 q2 q3 q4 g0 g1 AC nC cC C (hrc.ext hx) hs hE j⟩⟩
theorem routeBests_T (AM A : Option Addr) (m cM n cp : Nat) (T : List Bool) (L : List Lg) (w : World) (hT : RdS w 1 AM m (T.map blCells)) (hr : RdS w 5 A n (L.map lgCells)) (v q1 q2 q3 q4 g0 g1 : Int) (AC : Option Addr) (nC cC : Nat) (C : List Wn) (hrc : CastR w AC nC C) (i j : Int) : Calls Tryz.prog 4 #[.agg #[.slice AM m cM, .slice A n cp], .agg #[.int .i64 v, .int .i64 q1, .int .i64 q2, .int .i64 q3, .int .i64 q4, .int .i64 g0, .int .i64 g1], .slice AC nC cC, .int .i64 i, .int .i64 j] w fun e w' => e = .returned (.bool true) ∧ Ext w w' := by
  have hl : L.length = n := by simpa using hr.len
  have hlT : T.length = m := by simpa using hT.len
  have HG := fun w1 (hx : Ext w w1) => great_calls AM A m cM n cp AC nC cC C w1 (hrc.ext hx)
  by_cases hS : Small m n C
  rotate_left
  · rw [decide_eq_false hS] at HG
    refine enterQ (c := cx w 91) Tryz.func4 rfl rfl rfl rfl ?_
    ((all_goals refine goT1 ?_); (all_goals constructor); (any_goals exact trivial); all_goals intros)
    all_goals rfl
  rw [decide_eq_true hS] at HG
  obtain ⟨hm, hn, hc8, hs24⟩ := hS
  have hs : ∀ z ∈ C, z.n ≤ 1000000 := fun z hz => by have := hs24 z hz; omega
  obtain ⟨⟨rl, rk, re⟩, hrl, hB⟩ := bests_both AC m n nC cC L w v q1 q2 q3 q4 g0 g1 C hrc hs (by omega) (by omega) i j
  obtain ⟨⟨d1, d2⟩, hNd⟩ := needs_both AC m n nC cC T L w v q1 q2 q3 q4 g0 g1 C hrc hs (by omega) (by omega) j
  simp only at hrl hNd
  refine enterQ (c := cx w 91) Tryz.func4 rfl rfl rfl rfl ?_
  ((all_goals refine goT0 ?_); (all_goals constructor); (any_goals exact trivial); all_goals intros)
  all_goals rfl
end Go.Proofs.YtcjkndjjbjoehaaGreat
namespace Go.Proofs.YtcjkndjjbjoehaaGreat
open Go.ChangeShapes Go.WideShapes Go.ChangeAt Go.RowKit
theorem Tryz.own : ownKnob Tryz.prog.godebug = none := by kernel_rfl
theorem Tryz.laidOut : laidOutB Tryz.prog = true := by kernel_rfl
section
variable {H : Type} {enc : TypeId × Value → H} {P : Program}
theorem trodAll_ext (hl : laidOutB P = true) {W W' : World} (hb : Ext W W') : ∀ {ts : List TypeId} {vs : List Value} {ds : List (DataW H)} {p : List MemPlace}, (ts.all fun t => P.readableRec t && decide (t < P.types.size)) = true →
    DataW.TrodAll enc P W 0 (fun _ => true) true ts vs ds p → (∀ x ∈ p, x.block < W.heap.size) → DataW.TrodAll enc P W' 0 (fun b => decide (b < W.heap.size)) true ts vs ds p
  | [], vs, ds, p, _, h, _ => by
    obtain ⟨rfl, rfl, rfl⟩ := trodAll_nil h
    exact trodAll_mk0
  | t :: ts, vs, ds, p, ht, h, hlt => by
    obtain ⟨v, vs', d, ds', p0, q0, rfl, rfl, rfl, h1, h2⟩ := trodAll_cons h
    simp only [List.all_cons, Bool.and_eq_true, decide_eq_true_eq] at ht
    exact ⟨p0, q0, Below.trod hl ht.1.1 ht.1.2 h1 hb (fun x hx => hlt x (List.mem_append_left _ hx)), trodAll_ext hl hb ht.2 h2 (fun x hx => hlt x (List.mem_append_right _ hx)), rfl⟩
end
end Go.Proofs.YtcjkndjjbjoehaaGreat
