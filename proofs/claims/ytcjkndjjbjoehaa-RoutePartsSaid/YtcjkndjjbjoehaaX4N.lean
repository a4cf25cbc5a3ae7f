/- A part of the proof: rules for walks, and contracts of functions (14). -/
import Derived.Test.YtcjkndjjbjoehaaX4M
import Derived.Test.YtcjkndjjbjoehaaX4C
import Derived.ProofKit
import Derived.Lib.SmallJoins
import Derived.Test.YtcjkndjjbjoehaaX4D
import Derived.Test.YtcjkndjjbjoehaaX4B
import Derived.Test.YtcjkndjjbjoehaaX4G
import Derived.Test.YtcjkndjjbjoehaaX4A
import Derived.Test.YtcjkndjjbjoehaaChecked
import Derived.Test.YtcjkndjjbjoehaaRows
import Derived.Carry
set_option linter.unusedVariables false
set_option linter.unusedSimpArgs false
set_option maxRecDepth 100000
set_option maxHeartbeats 2000000
namespace Go.Proofs.Ytcjkndjjbjoehaa
theorem goN0 {G A1 A2 A3 A4 A5 A6 A7 A8 A9 A10 A11 A12 A13 A14 A15 A16 : Prop} (p : Ps A1 A2 A3 A4 A5 A6 A7 A8 A9 A10 A11 A12 A13 A14 A15 A16) (h : Lf A1 → Lf A2 → Lf A3 → Lf A4 → Lf A5 → Lf A6 → Lf A7 → Lf A8 → Lf A9 → Lf A10 → Lf A11 → Lf A12 → Lf A13 → Lf A14 → Lf A15 → Lf A16 → Mk0 → G := by intro m1 m2 m3 m4 m5 m6 m7 m8 m9 m10 m11 m12 m13 m14 m15 m16 _; (repeat' (first | ((with_reducible apply oq_id); first | ((with_reducible apply oc_id); first | ((with_reducible apply oq_call (k := 58) (hc := Try.call58)); exact rfl; exact rfl; exact fun D w1 hw1 => HN w1 hw1.ext.ext) | ((with_reducible apply oq_call (k := 45) (hc := Try.call45)); exact rfl; exact rfl; (intro D w1 hw1; refine rfrom1_t ?_ hw1 (by (repeat (first | exact P0 | apply P1))); omega)) | ((with_reducible apply oq_call (k := 45) (hc := Try.call45)); exact rfl; exact rfl; (intro D w1 hw1; refine rfrom1_f ?_ hw1 (by (repeat (first | exact P0 | apply P1))); omega)) | ((with_reducible apply oq_call (k := 45) (hc := Try.call45)); exact rfl; exact rfl; (intro D w1 hw1; refine rfrom2_t ?_ hw1 (by (repeat (first | exact P0 | apply P1))); omega)) | ((with_reducible apply oq_call (k := 45) (hc := Try.call45)); exact rfl; exact rfl; (intro D w1 hw1; refine rfrom2_f ?_ hw1 (by (repeat (first | exact P0 | apply P1))); omega)) | ((with_reducible apply oq_call (k := 55) (hc := Try.call55)); exact rfl; exact rfl; exact fun D w1 hw1 => HL w1) | ((with_reducible apply oq_call (k := 59) (hc := Try.call59)); exact rfl; exact rfl; exact fun D w1 hw1 => hP59 bD bM E w1 (DskR.of_has (hw1.sub (by unfold dkH dkC; (repeat' (first | exact FrSub.nil | (apply FrSub.cons; exact rfl) | exact HpSub.refl _ | (apply HpSub.consE; (repeat (first | exact P0 | apply P1)); exact rfl) | apply HpSub.skipX | apply HpSub.skipX | exact HpSub.nil)))) hnl) hE2) | ((with_reducible apply oq_call (k := 13) (hc := Try.call13)); exact rfl; exact rfl; exact fun D w1 hw1 => HG w1 hw1.ext.ext) | ((with_reducible apply oq_call (k := 14) (hc := Try.call14)); exact rfl; exact rfl; exact fun D w1 hw1 => H14 w1 hw1.ext.ext) | ((with_reducible apply oq_call (k := 15) (hc := Try.call15)); exact rfl; exact rfl; exact fun D w1 hw1 => H15 w1 hw1.ext.ext) | ((with_reducible apply oq_call (k := 16) (hc := Try.call16)); exact rfl; exact rfl; exact fun D w1 hw1 => H16 w1 hw1.ext.ext) | ((with_reducible apply oq_call (k := 17) (hc := Try.call17)); exact rfl; exact rfl; exact fun D w1 hw1 => H17 w1 hw1.ext.ext) | ((with_reducible apply oq_call (k := 18) (hc := Try.call18)); exact rfl; exact rfl; exact fun D w1 hw1 => H18 w1 hw1.ext.ext) | ((with_reducible apply oq_call (k := 19) (hc := Try.call19)); exact rfl; exact rfl; exact fun D w1 hw1 => H19 w1 hw1.ext.ext) | ((with_reducible apply oq_call (k := 20) (hc := Try.call20)); exact rfl; exact rfl; exact fun D w1 hw1 => H20 w1) | ((with_reducible apply oq_call (k := 21) (hc := Try.call21)); exact rfl; exact rfl; exact fun D w1 hw1 => H21 w1) | ((with_reducible apply oq_call (k := 22) (hc := Try.call22)); exact rfl; exact rfl; exact fun D w1 hw1 => H22 w1 hw1.ext.ext) | ((with_reducible apply oq_call (k := 23) (hc := Try.call23)); exact rfl; exact rfl; exact fun D w1 hw1 => H23 w1 hw1.ext.ext)) | ((with_reducible apply ob_id); first | (focus ((with_reducible apply (oq_subE (k := (n : Int) - 1))); exact rfl; exact rfl; omega)) | ((with_reducible apply oq_neqT); exact rfl; exact rfl; omega) | ((with_reducible apply oq_neqF); exact rfl; exact rfl; omega) | ((with_reducible apply (oq_eq39 (q := true))); exact rfl; exact rfl; (focus (simp; done))) | ((with_reducible apply oq_eqlT); exact rfl; exact rfl; omega) | ((with_reducible apply oq_eqlF); exact rfl; exact rfl; omega)) | (focus ((with_reducible apply oq_indexAddrN (i := j)); exact rfl; exact rfl; exact rfl; exact rfl; omega)) | (apply oq_fn; exact rfl; first | exact trivial | (refine ⟨?_, ?_⟩ <;> omega) | (refine ⟨?_, ?_, ?_⟩ <;> omega) | omega | skip) | ((with_reducible apply oq_load); exact rfl; exact rfl) | ((with_reducible apply oq_loadAgg); exact rfl; exact rfl) | ((with_reducible apply oq_build); exact rfl; exact rfl; exact rfl) | ((with_reducible apply oq_buildA); exact rfl; exact rfl; exact rfl; exact rfl) | ((with_reducible apply oq_fieldAgg); exact rfl; exact rfl; exact rfl) | ((with_reducible apply oq_indexAgg); exact rfl; exact rfl; exact rfl; exact rfl)) | ((with_reducible apply tl_id); first | ((with_reducible apply tl_nil)) | ((with_reducible apply u_s); exact rfl; exact rfl; exact rfl; (with_reducible apply os_callS (PV := DskV AM _ m cM n cp v q1 q2 q3 q4 g0 g1 C L) (k := 58) (hc := Try.call58)); exact rfl; exact rfl; exact fun D w1 hw1 => HO w1 hw1.ext.ext; rintro _ _ ⟨bD, bM, E, rfl, rfl, hE2, hnl⟩; simp only [dkH, List.cons_append, List.nil_append]) | ((with_reducible apply u_q); exact rfl; exact rfl; exact rfl; exact rfl) | ((with_reducible apply u_s0); exact rfl; exact rfl) | ((with_reducible apply u_s); exact rfl; exact rfl; exact rfl) | ((with_reducible apply u_skip); exact rfl; exact rfl; exact rfl) | ((with_reducible apply u_splitD); exact rfl; exact rfl; all_goals first | (intro _; try (exfalso; omega)) | skip) | ((with_reducible apply u_splitN); exact rfl; exact rfl; all_goals first | (intro _; try (exfalso; omega)) | skip) | ((with_reducible apply u_split); exact rfl; exact rfl; all_goals first | intro _ | skip)) | ((with_reducible apply gx_id); first | ((with_reducible apply v_nil)) | ((with_reducible apply v_q); exact rfl; exact rfl; exact rfl) | ((with_reducible apply v_skip); exact rfl; exact rfl; exact rfl) | ((with_reducible apply v_splitD); exact rfl; exact rfl; all_goals first | (intro _; try (exfalso; omega)) | skip) | ((with_reducible apply v_splitN); exact rfl; exact rfl; all_goals first | (intro _; try (exfalso; omega)) | skip) | ((with_reducible apply v_split); exact rfl; exact rfl; all_goals first | intro _ | skip)) | ((with_reducible apply os_id); first | ((with_reducible apply os_x); exact rfl) | ((with_reducible apply os_store); exact rfl; exact rfl; exact rfl; exact rfl) | ((with_reducible apply os_storeAgg); exact rfl; exact rfl; exact rfl; exact rfl; exact rfl)) | ((with_reducible apply ox_id); first | ((with_reducible apply ox_alloc); exact rfl; intro _) | ((with_reducible apply ox_box); exact rfl; exact rfl; intro _) | ((with_reducible apply ox_boxAgg); exact rfl; intro _) | ((with_reducible apply ox_buildSlice1); exact rfl; exact rfl; exact rfl; exact rfl; exact rfl; exact rfl; intro _) | ((with_reducible apply ox_buildSlice2); exact rfl; exact rfl; exact rfl; exact rfl; exact rfl; exact rfl; intro _) | ((with_reducible apply ox_buildSlice); exact rfl; exact rfl; exact rfl; exact rfl)) | ((with_reducible apply ai_id); first | ((with_reducible apply ai_s); exact rfl; exact rfl; exact rfl; exact rfl; exact rfl; (with_reducible apply os_callS (PV := DskV AM _ m cM n cp v q1 q2 q3 q4 g0 g1 C L) (k := 58) (hc := Try.call58)); exact rfl; exact rfl; exact fun D w1 hw1 => HO w1 hw1.ext.ext; rintro _ _ ⟨bD, bM, E, rfl, rfl, hE2, hnl⟩; simp only [dkH, List.cons_append, List.nil_append]) | ((with_reducible apply ai_n); exact rfl; exact rfl; exact rfl; exact rfl; (with_reducible apply os_callS (PV := DskV AM _ m cM n cp v q1 q2 q3 q4 g0 g1 C L) (k := 58) (hc := Try.call58)); exact rfl; exact rfl; exact fun D w1 hw1 => HO w1 hw1.ext.ext; rintro _ _ ⟨bD, bM, E, rfl, rfl, hE2, hnl⟩; simp only [dkH, List.cons_append, List.nil_append]) | ((with_reducible apply ai_q); exact rfl; exact rfl; exact rfl; exact rfl; exact rfl) | ((with_reducible apply ai_x); exact rfl; exact rfl; exact rfl; exact rfl; exact rfl) | ((with_reducible apply ai_s0); exact rfl; exact rfl; exact rfl; exact rfl) | ((with_reducible apply ai_n0); exact rfl; exact rfl; exact rfl) | ((with_reducible apply ai_s); exact rfl; exact rfl; exact rfl; exact rfl; exact rfl) | ((with_reducible apply ai_n); exact rfl; exact rfl; exact rfl; exact rfl) | ((with_reducible apply ai_skip); exact rfl; exact rfl; exact rfl; exact rfl) | ((with_reducible apply ai_splitD); exact rfl; exact rfl; exact rfl; all_goals first | (intro _; try (exfalso; omega)) | skip) | ((with_reducible apply ai_splitN); exact rfl; exact rfl; exact rfl; all_goals first | (intro _; try (exfalso; omega)) | skip) | ((with_reducible apply ai_split); exact rfl; exact rfl; exact rfl; all_goals first | intro _ | skip)) | ((with_reducible apply al_keep); focus (repeat (first | exact HpSub.refl _ | (apply HpSub.cons; (repeat (first | exact P0 | apply P1))) | apply HpSub.skipX | exact HpSub.nil))) | ((with_reducible apply rd_id); first | (apply Rd.own; (repeat (first | exact P0 | apply P1)); exact rfl; done) | (apply Rd.old; (first | (with_reducible assumption) | exact c0 | exact c1 | exact c2 | exact c3 | exact c4 | exact c5 | exact c6 | exact c7 | exact c8 | exact d0 | exact d1 | exact d2 | exact d3 | exact d4 | exact d5); first | exact List.not_mem_nil | exact m0 | exact m1 | exact m2 | exact m3 | exact m4 | exact m5 | exact m6 | exact m7 | exact m8 | exact m9)) | ((with_reducible apply t_id); first | (apply t_mix (id := 9) [0, 1] 3 #[false, false, false, false, false]; kernel_rfl; kernel_rfl; exact rfl) | ((with_reducible apply t_seq)) | (apply t_region; kernel_rfl) | (apply t_drawn; kernel_rfl; decide +kernel; try simp only [List.append_eq, List.cons_append, List.nil_append]) | ((with_reducible apply t_condT); exact rfl) | ((with_reducible apply t_condF); exact rfl) | ((with_reducible apply t_condD); exact rfl; all_goals first | (intro _; try (exfalso; omega)) | skip) | ((with_reducible apply t_condN); exact rfl; all_goals first | (intro _; try (exfalso; omega)) | skip) | ((with_reducible apply t_cond); exact rfl; all_goals first | intro _ | skip) | ((with_reducible apply t_ret)) | ((with_reducible apply t_skip)) | ((with_reducible apply t_exit)) | ((with_reducible apply t_block))) | with_reducible apply q_thenN | with_reducible apply q_thenR | with_reducible apply q_blockR | with_reducible apply q_blockN | with_reducible apply q_thenE | ((with_reducible apply q_blockE); exact rfl) | ((with_reducible apply q_blockO); exact rfl) | exact P0 | ((with_reducible apply P1)) | exact Rdn.zero | apply Rdn.succ | ((with_reducible apply Norm.nil); exact rfl) | ((with_reducible apply Norm.cons); exact rfl) | ((with_reducible apply end_ret)) | ((with_reducible apply end_normal)) | exact rvs_nil | ((with_reducible apply rvs_cons)) | ((with_reducible apply rv_tmp); exact rfl) | ((with_reducible apply rv_cell); exact rfl; exact rfl) | ((with_reducible apply rv_cellAgg); exact rfl; exact rfl) | ((with_reducible apply cut_in0) <;> (repeat' (first | exact FrSub.nil | (apply FrSub.cons; exact rfl) | exact HpSub.refl _ | (apply HpSub.consE; (repeat (first | exact P0 | apply P1)); exact rfl) | apply HpSub.skipX | exact HpSub.nil))) | ((with_reducible apply cut_in1) <;> (repeat' (first | exact FrSub.nil | (apply FrSub.cons; exact rfl) | exact HpSub.refl _ | (apply HpSub.consE; (repeat (first | exact P0 | apply P1)); exact rfl) | apply HpSub.skipX | exact HpSub.nil))) | ((with_reducible apply cut_in2) <;> (repeat' (first | exact FrSub.nil | (apply FrSub.cons; exact rfl) | exact HpSub.refl _ | (apply HpSub.consE; (repeat (first | exact P0 | apply P1)); exact rfl) | apply HpSub.skipX | exact HpSub.nil))) | ((with_reducible apply cut_in3) <;> (repeat' (first | exact FrSub.nil | (apply FrSub.cons; exact rfl) | exact HpSub.refl _ | (apply HpSub.consE; (repeat (first | exact P0 | apply P1)); exact rfl) | apply HpSub.skipX | exact HpSub.nil))) | (apply t_mix (id := 9) [0, 1] 3 #[false, false, false, false, false]; kernel_rfl; kernel_rfl; exact rfl) | ((with_reducible apply al_id); first | (apply al_done; decide +kernel) | (apply al_one 2; decide +kernel) | (apply al_one 3; decide +kernel) | (apply al_one 4; decide +kernel)) | exact Nat.le_of_ble_eq_true rfl | exact (rfl : (_ : Bool) = true) | omega | (intro _ _; with_reducible apply tl_id) | (intro _; with_reducible apply tl_id) | (intro _ _; with_reducible apply al_id) | (intro _; with_reducible apply al_id))); (try focus (repeat (rename_i x; first | exact dn x m1.p | revert x))); (try focus (repeat (rename_i x; first | exact dn x m2.p | revert x))); (try focus (repeat (rename_i x; first | exact dn x m3.p | revert x))); (try focus (repeat (rename_i x; first | exact dn x m4.p | revert x))); (try focus (repeat (rename_i x; first | exact dn x m5.p | revert x))); (try focus (repeat (rename_i x; first | exact dn x m6.p | revert x))); (try focus (repeat (rename_i x; first | exact dn x m7.p | revert x))); (try focus (repeat (rename_i x; first | exact dn x m8.p | revert x))); (try focus (repeat (rename_i x; first | exact dn x m9.p | revert x))); (try focus (repeat (rename_i x; first | exact dn x m10.p | revert x))); (try focus (repeat (rename_i x; first | exact dn x m11.p | revert x))); (try focus (repeat (rename_i x; first | exact dn x m12.p | revert x))); (try focus (repeat (rename_i x; first | exact dn x m13.p | revert x))); (try focus (repeat (rename_i x; first | exact dn x m14.p | revert x))); (try focus (repeat (rename_i x; first | exact dn x m15.p | revert x))); (try focus (repeat (rename_i x; first | exact dn x m16.p | revert x)))) (e : Trs A1 A2 A3 A4 A5 A6 A7 A8 A9 A10 A11 A12 A13 A14 A15 A16 := by constructor <;> first | (with_reducible exact Tr.t) | exact Tr.u) : G := p.run h
open Go.RowKit
attribute [local irreducible] OQ OS OX Rd T TL GX GL AL AI RV wpG SAny Calls
theorem part16_calls (AM A : Option Addr) (m cM n cp : Nat) (L : List Lg) (w : World) (hr : RdS w 5 A n (L.map lgCells)) (hn : n ≤ 1000000) (hm : m ≤ 1000000) (v q1 q2 q3 q4 g0 g1 : Int) (AC : Option Addr) (nC cC : Nat) (C : List Wn) (hrc : CastR w AC nC C) (hs : ∀ z ∈ C, z.n ≤ 1000000) (i : Int) (bk : Bool) (me : Int) : Calls Try.prog 16 #[.agg #[.slice AM m cM, .slice A n cp], .agg #[.int .i64 v, .int .i64 q1, .int .i64 q2, .int .i64 q3, .int .i64 q4, .int .i64 g0, .int .i64 g1], .slice AC nC cC, .int .i64 i, .bool bk, .int .i64 me] w fun e w' => e = .returned (partR m L v q1 q2 q3 q4 g0 g1 C i bk me) ∧ Ext w w' := by
  have hl : L.length = n := by simpa using hr.len
  unfold partR
  by_cases hE : askE m L v q1 q2 q3 q4 g0 g1 C = 0
  rotate_left
  · rw [if_neg hE]
    have HN := fun w1 (hx : Ext w w1) => open_no AM A m cM n cp L w1 (hr.ext hx) hn hm v q1 q2 q3 q4 g0 g1 AC nC cC C (hrc.ext hx) hs hE
    generalize askE m L v q1 q2 q3 q4 g0 g1 C = e at *
    refine enterQ (c := cx w 67) Try.func16 rfl rfl rfl rfl ?_
    ((all_goals refine goN0 ?_); (all_goals constructor); (any_goals exact trivial); all_goals intros)
    all_goals rfl
  rw [if_pos hE]
  have HO := fun w1 (hx : Ext w w1) => open_ok AM A m cM n cp L w1 (hr.ext hx) hn hm v q1 q2 q3 q4 g0 g1 AC nC cC C (hrc.ext hx) hs hE
  obtain ⟨hch, hpk, hk0⟩ := askE_ok hE
  obtain ⟨hcl, hcw⟩ := castE_zero.1 hk0
  have hlc := hrc.len
  clear hE
  by_cases hi : 0 ≤ i ∧ i ≤ (L.length : Int) - 1
  rotate_left
  · rw [if_neg hi]
    refine enterQ (c := cx w 67) Try.func16 rfl rfl rfl rfl ?_
    ((all_goals refine goN0 ?_); (all_goals constructor); (any_goals exact trivial); all_goals intros)
    all_goals rfl
  rw [if_pos hi]
  obtain ⟨j, rfl⟩ := Int.eq_ofNat_of_zero_le hi.1
  obtain ⟨bA, oA, z, rfl, _, hz, c0, c1, c2, c3, c4⟩ := lg_read hr (show j < n by omega)
  obtain ⟨_, _, _, kx, ky, kz, kh⟩ := (chartB_iff.1 hch).2.2 z (List.mem_of_getElem? hz)
  have HL := fun w1 => length_calls z.a z.b z.x z.y z.h kx ky w1
  have lb := lenV_bound kx ky
  rw [Int.toNat_natCast, hz]
  simp only
  by_cases hme : 0 ≤ me ∧ me ≤ lenV z.x z.y
  rotate_left
  · rw [if_neg hme]
    refine enterQ (c := cx w 67) Try.func16 rfl rfl rfl rfl ?_
    ((all_goals refine goN0 ?_); (all_goals constructor); (any_goals exact trivial); all_goals intros)
    all_goals rfl
  rw [if_pos hme]
  obtain ⟨me, rfl⟩ := Int.eq_ofNat_of_zero_le hme.1
  obtain ⟨pv, _, _, _, _, kg⟩ := id hpk
  obtain ⟨g0, rfl⟩ := Int.eq_ofNat_of_zero_le kg.1
  obtain ⟨g1, rfl⟩ := Int.eq_ofNat_of_zero_le (show 0 ≤ g1 by omega)
  simp only [Int.toNat_natCast]
  obtain ⟨hR, hRl⟩ := legRz_ok (z := z) (bk := bk) hcw hpk kh ⟨kx, ky, kz⟩
  have hP59 := fun bD bM E w1 hd hE2 => part59_calls bD bM AM (some ⟨bA, oA, none⟩) m cM n cp v q1 q2 q3 q4 g0 g1 E C L j n z me bk w1 hd hE2 (by omega) hz hR (by omega) (by omega) (by omega)
  unfold fullV
  unfold partV fk at hP59
  generalize legRz v q1 q2 q3 z bk C = R at *
  by_cases hR : R = []
  · rw [if_pos hR]
    simp only [if_pos hR] at hP59
    refine enterQ (c := cx w 67) Try.func16 rfl rfl rfl rfl ?_
    ((all_goals refine goN0 ?_); (all_goals constructor); (any_goals exact trivial); all_goals intros)
    all_goals rfl
  · rw [if_neg hR]
    simp only [if_neg hR] at hP59
    refine enterQ (c := cx w 67) Try.func16 rfl rfl rfl rfl ?_
    ((all_goals refine goN0 ?_); (all_goals constructor); (any_goals exact trivial); all_goals intros)
    all_goals rfl
theorem partR_form (m : Nat) (L : List Lg) (v q1 q2 q3 q4 g0 g1 : Int) (C : List Wn) (i : Int) (bk : Bool) (me : Int) : ∃ a b c d e : Int, partR m L v q1 q2 q3 q4 g0 g1 C i bk me = .tuple #[.agg #[.int .i64 a, .int .i64 b], .agg #[.int .i64 c, .int .i64 d], .int .i64 e] := by
  have h3 : ∀ e : Int, ∃ a b c d e' : Int, no3 e = .tuple #[.agg #[.int .i64 a, .int .i64 b], .agg #[.int .i64 c, .int .i64 d], .int .i64 e'] := fun e => ⟨0, 0, 0, 0, e, rfl⟩
  unfold partR
  split
  · split
    · split
      · split
        · unfold fullV
          split
          · exact h3 _
          · exact ⟨_, _, _, _, _, rfl⟩
        · exact h3 _
      · exact h3 _
    · exact h3 _
  · exact h3 _
theorem routeParts_T (AM A : Option Addr) (m cM n cp : Nat) (L : List Lg) (w : World) (hr : RdS w 5 A n (L.map lgCells)) (v q1 q2 q3 q4 g0 g1 : Int) (AC : Option Addr) (nC cC : Nat) (C : List Wn) (hrc : CastR w AC nC C) (i : Int) (bk : Bool) (me : Int) : Calls Try.prog 4 #[.agg #[.slice AM m cM, .slice A n cp], .agg #[.int .i64 v, .int .i64 q1, .int .i64 q2, .int .i64 q3, .int .i64 q4, .int .i64 g0, .int .i64 g1], .slice AC nC cC, .int .i64 i, .bool bk, .int .i64 me] w fun e w' => e = .returned (.bool true) ∧ Ext w w' := by
  have HG := fun w1 (hx : Ext w w1) => great_calls AM A m cM n cp AC nC cC C w1 (hrc.ext hx)
  by_cases hS : Small m n C
  rotate_left
  · rw [decide_eq_false hS] at HG
    refine enterQ (c := cx w 104) Try.func4 rfl rfl rfl rfl ?_
    repeat' (first
      | ((with_reducible apply oq_id); first | (apply oq_fn; exact rfl; first | exact trivial | (refine ⟨?_, ?_⟩ <;> omega) | (refine ⟨?_, ?_, ?_⟩ <;> omega) | omega | skip) | ((with_reducible apply oq_load); exact rfl; exact rfl) | ((with_reducible apply oq_loadAgg); exact rfl; exact rfl) | ((with_reducible apply oq_call (k := 13) (hc := Try.call13)); exact rfl; exact rfl; exact fun D w1 hw1 => HG w1 hw1.ext.ext) | ((with_reducible apply oq_build); exact rfl; exact rfl; exact rfl) | ((with_reducible apply oq_buildA); exact rfl; exact rfl; exact rfl; exact rfl) | ((with_reducible apply oq_fieldAgg); exact rfl; exact rfl; exact rfl) | ((with_reducible apply oq_indexAgg); exact rfl; exact rfl; exact rfl; exact rfl))
      | ((with_reducible apply tl_id); first | ((with_reducible apply tl_nil)) | ((with_reducible apply u_q); exact rfl; exact rfl; exact rfl; exact rfl) | ((with_reducible apply u_s0); exact rfl; exact rfl) | ((with_reducible apply u_s); exact rfl; exact rfl; exact rfl) | ((with_reducible apply u_skip); exact rfl; exact rfl; exact rfl) | ((with_reducible apply u_splitD); exact rfl; exact rfl; all_goals first | (intro hp; try (exfalso; omega)) | skip) | ((with_reducible apply u_splitN); exact rfl; exact rfl; all_goals first | (intro hp; try (exfalso; omega)) | skip) | ((with_reducible apply u_split); exact rfl; exact rfl; all_goals first | intro hp | skip))
      | ((with_reducible apply gx_id); first | ((with_reducible apply v_nil)) | ((with_reducible apply v_q); exact rfl; exact rfl; exact rfl) | ((with_reducible apply v_skip); exact rfl; exact rfl; exact rfl) | ((with_reducible apply v_splitD); exact rfl; exact rfl; all_goals first | (intro hp; try (exfalso; omega)) | skip) | ((with_reducible apply v_splitN); exact rfl; exact rfl; all_goals first | (intro hp; try (exfalso; omega)) | skip) | ((with_reducible apply v_split); exact rfl; exact rfl; all_goals first | intro hp | skip))
      | ((with_reducible apply os_id); first | ((with_reducible apply os_x); exact rfl) | ((with_reducible apply os_store); exact rfl; exact rfl; exact rfl; exact rfl) | ((with_reducible apply os_storeAgg); exact rfl; exact rfl; exact rfl; exact rfl; exact rfl))
      | ((with_reducible apply ox_id); first | ((with_reducible apply ox_alloc); exact rfl; intro _) | ((with_reducible apply ox_box); exact rfl; exact rfl; intro _) | ((with_reducible apply ox_boxAgg); exact rfl; intro _) | ((with_reducible apply ox_buildSlice1); exact rfl; exact rfl; exact rfl; exact rfl; exact rfl; exact rfl; intro _) | ((with_reducible apply ox_buildSlice2); exact rfl; exact rfl; exact rfl; exact rfl; exact rfl; exact rfl; intro _) | ((with_reducible apply ox_buildSlice); exact rfl; exact rfl; exact rfl; exact rfl))
      | ((with_reducible apply rd_id); first | (apply Rd.own; (repeat (first | exact P0 | apply P1)); exact rfl; done) | (apply Rd.old; (first | (with_reducible assumption) | exact c0 | exact c1 | exact c2 | exact c3 | exact c4 | exact c5 | exact c6 | exact c7 | exact c8 | exact d0 | exact d1 | exact d2 | exact d3 | exact d4 | exact d5); first | exact List.not_mem_nil | exact m0 | exact m1 | exact m2 | exact m3 | exact m4 | exact m5 | exact m6 | exact m7 | exact m8 | exact m9))
      | ((with_reducible apply t_id); first | ((with_reducible apply t_seq)) | (apply t_region; kernel_rfl) | (apply t_drawn; kernel_rfl; decide +kernel; try simp only [List.append_eq, List.cons_append, List.nil_append]) | ((with_reducible apply t_condT); exact rfl) | ((with_reducible apply t_condF); exact rfl) | ((with_reducible apply t_condD); exact rfl; all_goals first | (intro hp; try (exfalso; omega)) | skip) | ((with_reducible apply t_condN); exact rfl; all_goals first | (intro hp; try (exfalso; omega)) | skip) | ((with_reducible apply t_cond); exact rfl; all_goals first | intro hp | skip) | ((with_reducible apply t_ret)) | ((with_reducible apply t_skip)) | ((with_reducible apply t_exit)) | ((with_reducible apply t_block)))
      | with_reducible apply q_thenN
      | with_reducible apply q_thenR
      | with_reducible apply q_blockR
      | with_reducible apply q_blockN
      | with_reducible apply q_thenE
      | ((with_reducible apply q_blockE); exact rfl)
      | ((with_reducible apply q_blockO); exact rfl)
      | exact P0
      | ((with_reducible apply P1))
      | exact Rdn.zero
      | apply Rdn.succ
      | ((with_reducible apply Norm.nil); exact rfl)
      | ((with_reducible apply Norm.cons); exact rfl)
      | ((with_reducible apply end_ret))
      | ((with_reducible apply end_normal))
      | exact rvs_nil
      | ((with_reducible apply rvs_cons))
      | ((with_reducible apply rv_tmp); exact rfl)
      | ((with_reducible apply rv_cell); exact rfl; exact rfl)
      | ((with_reducible apply rv_cellAgg); exact rfl; exact rfl)
      | exact Nat.le_of_ble_eq_true rfl
      | exact (rfl : (_ : Bool) = true)
      | omega
      | (intro _ _; with_reducible apply tl_id)
      | (intro _; with_reducible apply tl_id)
      | (intro _ _; with_reducible apply al_id)
      | (intro _; with_reducible apply al_id))
    all_goals rfl
  rw [decide_eq_true hS] at HG
  obtain ⟨hm, hn, hc8, hs24⟩ := hS
  have hs : ∀ z ∈ C, z.n ≤ 1000000 := fun z hz => by have := hs24 z hz; omega
  have H14 := fun w1 (hx : Ext w w1) => routeLength_calls AM A m cM n cp L w1 (hr.ext hx) (by omega) (by omega) i
  have H15 := fun w1 (hx : Ext w w1) => refLength_calls AM A m cM n cp L w1 (hr.ext hx) (by omega) (by omega) i
  have H16 := fun w1 (hx : Ext w w1) => part16_calls AM A m cM n cp L w1 (hr.ext hx) (by omega) (by omega) v q1 q2 q3 q4 g0 g1 AC nC cC C (hrc.ext hx) hs i bk me
  have H17 := fun w1 (hx : Ext w w1) => refPart17_calls AM A m cM n cp L w1 (hr.ext hx) (by omega) (by omega) v q1 q2 q3 q4 g0 g1 AC nC cC C (hrc.ext hx) hs i bk me
  have H18 := fun w1 (hx : Ext w w1) => checkChart_calls AM A m cM n cp L w1 (hr.ext hx) (by omega) (by omega)
  have H19 := fun w1 (hx : Ext w w1) => refCheckChart_calls AM A m cM n cp L w1 (hr.ext hx) (by omega) (by omega)
  have H20 := fun w1 => checkPace_calls v q1 q2 q3 q4 g0 g1 w1
  have H21 := fun w1 => refCheckPace_calls v q1 q2 q3 q4 g0 g1 w1
  have H22 := fun w1 (hx : Ext w w1) => checkCast_calls AC nC cC C w1 (hrc.ext hx) hs
  have H23 := fun w1 (hx : Ext w w1) => refCheckCast_calls AC nC cC C w1 (hrc.ext hx) hs
  obtain ⟨a, b, c, d, e, hP⟩ := partR_form m L v q1 q2 q3 q4 g0 g1 C i bk me
  rw [hP] at H16 H17
  generalize (lengthR m L i).1 = x1 at *
  generalize (lengthR m L i).2 = x2 at *
  generalize (if chartB m L = true then (0 : Int) else 61) = x3 at *
  generalize (if paceB v q1 q2 q3 q4 g0 g1 = true then (0 : Int) else 62) = x4 at *
  generalize castE C = x5 at *
  refine enterQ (c := cx w 104) Try.func4 rfl rfl rfl rfl ?_
  ((all_goals refine goN0 ?_); (all_goals constructor); (any_goals exact trivial); all_goals intros)
  all_goals rfl
end Go.Proofs.Ytcjkndjjbjoehaa
namespace Go.Proofs.Ytcjkndjjbjoehaa
open Go.ChangeShapes Go.WideShapes Go.ChangeAt Go.RowKit
inductive Lff where
  | int (k : IntKind)
  | bool
def LfOk : Lff → Value → Prop
  | .int k, v => ∃ z, v = .int k z ∧ (Lit.int k z).wf = true
  | .bool, v => ∃ b, v = .bool b
def LfsOk : List Lff → List Value → Prop
  | [], [] => True
  | k :: ks, v :: vs => LfOk k v ∧ LfsOk ks vs
  | _, _ => False
theorem LfsOk.len : ∀ {ks : List Lff} {vs : List Value}, LfsOk ks vs → vs.length = ks.length
  | [], [], _ => rfl
  | k :: ks, v :: vs, h => by simp [LfsOk.len h.2]
  | [], _ :: _, h => h.elim
  | _ :: _, [], h => h.elim
theorem LfsOk.nil {vs : List Value} (h : LfsOk [] vs) : vs = [] := by cases vs with | nil => rfl | cons _ _ => exact h.elim
theorem LfsOk.int {k : IntKind} {ks : List Lff} {vs : List Value} (h : LfsOk (.int k :: ks) vs) : ∃ z us, vs = .int k z :: us ∧ (Lit.int k z).wf = true ∧ LfsOk ks us := by
  cases vs with
  | nil => exact h.elim
  | cons v vs => obtain ⟨⟨z, rfl, hw⟩, h2⟩ := h; exact ⟨z, vs, rfl, hw, h2⟩
theorem LfsOk.bool {ks : List Lff} {vs : List Value} (h : LfsOk (.bool :: ks) vs) : ∃ b us, vs = .bool b :: us ∧ LfsOk ks us := by
  cases vs with
  | nil => exact h.elim
  | cons v vs => obtain ⟨⟨z, rfl⟩, h2⟩ := h; exact ⟨z, vs, rfl, h2⟩
theorem LfsOk.append : ∀ {ks ls : List Lff} {vs us : List Value}, LfsOk ks vs → LfsOk ls us → LfsOk (ks ++ ls) (vs ++ us)
  | [], _, [], _, _, h => h
  | _ :: _, _, _ :: _, _, h, k => ⟨h.1, LfsOk.append h.2 k⟩
  | [], _, _ :: _, _, h, _ => h.elim
  | _ :: _, _, [], _, h, _ => h.elim
def ksFs (P : Program) (rec_ : TypeId → Option (List Lff)) : List Field → Nat → Option (List Lff)
  | [], _ => some []
  | f :: fs, o => match Nat.beq f.offset o, rec_ f.type, ksFs P rec_ fs (o + P.cellsOf f.type) with
    | true, some ks, some ls => match Nat.beq (P.cellsOf f.type) ks.length with
      | true => some (ks ++ ls)
      | false => none
    | _, _, _ => none
def ksOf (P : Program) : Nat → TypeId → Option (List Lff)
  | 0, _ => none
  | n + 1, t => match P.underlying t with
    | some (.int k) => some [.int k]
    | some .bool => some [.bool]
    | some (.struct fs) => match ksFs P (ksOf P n) fs.toList 0 with
      | some ks => match Nat.beq (P.cellsOf t) ks.length with
        | true => some ks
        | false => none
      | none => none
    | _ => none
section
variable {H : Type} {enc : TypeId × Value → H} {P : Program} {W : World} {base : Nat} {spare : Nat → Bool} {held : Bool}
theorem ksFs_ok {rec_ : TypeId → Option (List Lff)} {m : Nat} (hr : ∀ {t : TypeId} {ks : List Lff} {cs : List Value} {x : DataW H × List MemPlace}, rec_ t = some ks → DataW.trod enc P W base spare held m t cs = some x → LfsOk ks cs) {cs : List Value} :
    ∀ {fs : List Field} {o : Nat} {ks : List Lff}, ksFs P rec_ fs o = some ks → (∀ f ∈ fs, ∃ y, DataW.trod enc P W base spare held m f.type ((cs.drop f.offset).take (P.cellsOf f.type)) = some y) → o + ks.length ≤ cs.length → LfsOk ks ((cs.drop o).take ks.length)
  | [], o, ks, h, _, _ => by
    obtain rfl := Option.some.inj h
    simp [LfsOk]
  | f :: fs, o, ks, h, hy, hl => by
    unfold ksFs at h
    split at h
    · rename_i k1 l1 h1 h2 h3
      split at h
      · rename_i h4
        obtain rfl := Option.some.inj h
        have ho := Nat.eq_of_beq_eq_true h1
        have hc := Nat.eq_of_beq_eq_true h4
        obtain ⟨y, hy0⟩ := hy f (List.mem_cons_self ..)
        rw [ho, hc] at hy0
        have a1 := hr h2 hy0
        rw [hc] at h3
        simp only [List.length_append] at hl
        have a2 := ksFs_ok hr h3 (fun g hg => hy g (List.mem_cons_of_mem _ hg)) (by omega)
        have e : (cs.drop o).take (k1 ++ l1).length = (cs.drop o).take k1.length ++ (cs.drop (o + k1.length)).take l1.length := by
          rw [List.length_append, List.take_add, List.drop_drop]
        rw [e]
        exact a1.append a2
      · cases h
    · cases h
theorem ksOf_ok : ∀ {n : Nat} {t : TypeId} {ks : List Lff} {m : Nat} {cs : List Value} {x : DataW H × List MemPlace}, ksOf P n t = some ks → DataW.trod enc P W base spare held m t cs = some x → LfsOk ks cs
  | 0, _, _, _, _, _, h, _ => by cases h
  | n + 1, t, ks, m, cs, x, h, hx => by
    unfold ksOf at h
    split at h
    · rename_i k hu
      obtain rfl := Option.some.inj h
      obtain ⟨z, rfl, _, hw⟩ := DataW.trod_int hu hx
      exact ⟨⟨z, rfl, hw⟩, trivial⟩
    · rename_i hu
      obtain rfl := Option.some.inj h
      obtain ⟨b, rfl, _⟩ := DataW.trod_bool hu hx
      exact ⟨⟨b, rfl⟩, trivial⟩
    · rename_i fs hu
      split at h
      · rename_i ks' hk
        split at h
        · rename_i hc
          obtain rfl := Option.some.inj h
          have hc := Nat.eq_of_beq_eq_true hc
          obtain ⟨xs, k, _, _, hl, hlen, hf⟩ := DataW.trod_struct hu hx
          have := ksFs_ok (m := k) (cs := cs) (fun h1 h2 => ksOf_ok h1 h2) hk (fun f hfm => by
            obtain ⟨i, hi, hif⟩ := List.getElem_of_mem hfm
            have hi' : i < fs.size := by simpa using hi
            have e := hf i f (by rw [Array.getElem?_eq_getElem hi']; simpa using hif)
            rw [List.getElem?_eq_getElem (by omega)] at e
            exact ⟨_, e⟩) (by omega)
          rw [List.drop_zero, List.take_of_length_le (by omega)] at this
          exact this
        · cases h
      · cases h
    · cases h
/-- A struct of numbers, by value. -/
theorem open_struct {r : Reach} {b0 : Nat} {t : TypeId} {fs : Array Field} {n : Nat} {ks : List Lff} {v : Value} {d : DataW H} {p : List MemPlace} (hs : P.underlying t = some (.struct fs)) (hk : ksOf P n t = some ks)
    (hv : Value.okWide P W r b0 t v) (h : DataW.Trod enc P W base spare held t v d p) : ∃ cs, v = .agg ⟨cs⟩ ∧ LfsOk ks cs := by
  obtain ⟨cs, rfl, _⟩ := okWide_struct hs hv
  obtain ⟨fuel, hf⟩ := h
  obtain ⟨cs⟩ := cs
  exact ⟨cs, rfl, ksOf_ok hk hf⟩
end
theorem rows_ofP {α : Type} {f : α → List Value} {p : α → Prop} : ∀ {rows : List (List Value)}, (∀ x ∈ rows, ∃ y, x = f y ∧ p y) → ∃ l : List α, rows = l.map f ∧ ∀ y ∈ l, p y
  | [], _ => ⟨[], rfl, fun y hy => (List.not_mem_nil hy).elim⟩
  | x :: rows, h => by
    obtain ⟨y, rfl, hy⟩ := h x (List.mem_cons_self ..)
    obtain ⟨l, rfl, hl⟩ := rows_ofP (fun z hz => h z (List.mem_cons_of_mem _ hz))
    exact ⟨y :: l, rfl, fun z hz => by rcases List.mem_cons.1 hz with rfl | hz; exact hy; exact hl z hz⟩
theorem gl_open {x : List Value} (h : LfsOk [.int .i64, .int .i64, .int .i64, .int .i64, .int .i64, .int .i64] x) : ∃ y : Gl, x = glCells y ∧ True := by
  obtain ⟨z0, u0, rfl, _, h⟩ := h.int
  obtain ⟨z1, u1, rfl, _, h⟩ := h.int
  obtain ⟨z2, u2, rfl, _, h⟩ := h.int
  obtain ⟨z3, u3, rfl, _, h⟩ := h.int
  obtain ⟨z4, u4, rfl, _, h⟩ := h.int
  obtain ⟨z5, u5, rfl, _, h⟩ := h.int
  obtain rfl := h.nil
  exact ⟨⟨z0, z1, z2, z3, z4, z5⟩, rfl, trivial⟩
section
variable {H : Type} {enc : TypeId × Value → H} {P : Program} {W : World} {held : Bool}
theorem open_rowsT {t e : TypeId} {n fuel : Nat} {ks : List Lff} {cs : List Value} {x : DataW H × List MemPlace} (hs : P.underlying t = some (.slice e)) (hk : ksOf P n e = some ks) (hc : P.cellsOf e = ks.length) (hpos : 0 < ks.length)
    (hf : DataW.trod enc P W 0 (fun _ => true) held fuel t cs = some x) :
    ∃ (A : Option Addr) (m c : Nat) (rows : List (List Value)), cs = [.slice A m c] ∧ RdS W ks.length A m rows ∧ (A = none → m = 0 ∧ c = 0) ∧ ∀ x ∈ rows, LfsOk ks x := by
  rcases Go.Deep.open_slice hs hf with ⟨h1, _⟩ | ⟨a, m, c, m', k, D, Pl, h1, _, hlc, _, hm, _, hi⟩
  · exact ⟨none, 0, 0, [], h1, RdS.nil _ _ _, fun _ => ⟨rfl, rfl⟩, fun x hx => (List.not_mem_nil hx).elim⟩
  · simp only [if_true] at hm
    subst hm
    rw [hc] at hi
    have key : ∀ i, i < m → ∃ y : List Value, LfsOk ks y ∧ ∀ j u, y[j]? = some u → W.cell? ((a.add (i * ks.length)).add j) = some u := fun i hin => by
      obtain ⟨cs, hc, ht⟩ := hi i (by omega)
      obtain ⟨_, hlc, hat⟩ := World.cells?_some hc
      exact ⟨cs, ksOf_ok hk ht, fun j u hu => by rw [hat j (by rw [← hlc]; exact (List.getElem?_eq_some_iff.1 hu).1)]; exact hu⟩
    let f : Nat → List Value := fun i => if h : i < m then Classical.choose (key i h) else []
    have hfk : ∀ i, i < m → LfsOk ks (f i) ∧ ∀ j u, (f i)[j]? = some u → W.cell? ((a.add (i * ks.length)).add j) = some u := fun i hin => by
      simp only [f, dif_pos hin]
      exact Classical.choose_spec (key i hin)
    have hmem : ∀ x ∈ (List.range m).map f, LfsOk ks x := fun x hx => by
      obtain ⟨i, hi, rfl⟩ := List.mem_map.1 hx
      exact (hfk i (List.mem_range.1 hi)).1
    refine ⟨some a, m, _, (List.range m).map f, h1, ⟨by simp, fun h0 => ?_⟩, fun h => (by cases h), hmem⟩
    have l0 := (hfk 0 h0).1.len
    have c0 := (hfk 0 h0).2 0 _ (List.getElem?_eq_getElem (by omega))
    obtain ⟨b, o, sp⟩ := a
    have hsp : sp = none := by simpa [Addr.add] using World.cell?_spot c0
    subst hsp
    refine ⟨b, o, rfl, by simpa [Addr.add] using cell_lt c0, fun i x hx => ⟨(hmem x (List.mem_of_getElem? hx)).len, fun j u hu => ?_⟩⟩
    rw [List.getElem?_map, Option.map_eq_some_iff] at hx
    obtain ⟨i', h2, rfl⟩ := hx
    obtain ⟨h3, h4⟩ := List.getElem?_eq_some_iff.1 h2
    simp only [List.getElem_range, List.length_range] at h3 h4
    subst h4
    have := (hfk i h3).2 j u hu
    rw [add_eq, add_eq] at this
    exact this
theorem sing {a b : Value} (h : [a] = [b]) : a = b := by simpa using h
end
def blCells (x : Bool) : List Value := [.bool x]
theorem list2 {l : List Value} (h : l.length = 2) : ∃ a b, l = [a, b] := by
  match l, h with
  | [a, b], _ => exact ⟨a, b, rfl⟩
theorem bl_openC {x : List Value} (h : LfsOk [.bool] x) : ∃ y : Bool, x = blCells y ∧ True := by
  obtain ⟨z0, u0, rfl, h2⟩ := h.bool
  obtain rfl := h2.nil
  exact ⟨z0, rfl, trivial⟩
theorem lg_openC {x : List Value} (h : LfsOk [.int .i64, .int .i64, .int .i64, .int .i64, .int .i64] x) : ∃ y : Lg, x = lgCells y ∧ True := by
  obtain ⟨z0, u0, rfl, _, h⟩ := h.int
  obtain ⟨z1, u1, rfl, _, h⟩ := h.int
  obtain ⟨z2, u2, rfl, _, h⟩ := h.int
  obtain ⟨z3, u3, rfl, _, h⟩ := h.int
  obtain ⟨z4, u4, rfl, _, h⟩ := h.int
  obtain rfl := h.nil
  exact ⟨⟨z0, z1, z2, z3, z4⟩, rfl, trivial⟩
section
variable {H : Type} {enc : TypeId × Value → H} {P : Program} {W : World} {held : Bool}
theorem open_chart {r : Reach} {b0 : Nat} {v : Value} {d : DataW H} {p : List MemPlace} (hv : Value.okWide Try.prog W r b0 37 v) (h : DataW.Trod enc Try.prog W 0 (fun _ => true) held 37 v d p) :
    ∃ (B : List Bool) (L : List Lg) (A1 : Option Addr) (n1 c1 : Nat) (A2 : Option Addr) (n2 c2 : Nat), v = .agg ⟨[.slice A1 n1 c1, .slice A2 n2 c2]⟩ ∧ RdS W 1 A1 n1 (B.map blCells) ∧ RdS W 5 A2 n2 (L.map lgCells) := by
  obtain ⟨cs, rfl, _⟩ := okWide_struct Try.underlying37 hv
  obtain ⟨fuel, hf⟩ := h
  obtain ⟨cs⟩ := cs
  have hf' : DataW.trod enc Try.prog W 0 (fun _ => true) held fuel 37 cs = some (d, p) := hf
  obtain ⟨xs, k, _, _, hl, hlen, hx⟩ := DataW.trod_struct Try.underlying37 hf'
  have c37 : Try.prog.cellsOf 37 = 2 := by kernel_rfl
  have c34 : Try.prog.cellsOf 34 = 1 := by kernel_rfl
  have c35 : Try.prog.cellsOf 35 = 1 := by kernel_rfl
  rw [c37] at hl
  obtain ⟨v0, v1, rfl⟩ := list2 hl
  have h3 : xs.length = 2 := hlen
  have g0 := hx 0 _ rfl
  have g1 := hx 1 _ rfl
  rw [List.getElem?_eq_getElem (by omega)] at g0 g1
  obtain ⟨A1, n1, cf1, rows1, e1, hr1, hn1, hm1⟩ := open_rowsT Try.underlying34 (show ksOf Try.prog 6 4 = some [.bool] by kernel_rfl) (by kernel_rfl) (by decide) g0
  obtain ⟨A2, n2, cf2, rows2, e2, hr2, hn2, hm2⟩ := open_rowsT Try.underlying35 (show ksOf Try.prog 6 126 = some [.int .i64, .int .i64, .int .i64, .int .i64, .int .i64] by kernel_rfl) (by kernel_rfl) (by decide) g1
  obtain ⟨l1, rfl, hp1⟩ := rows_ofP (f := blCells) (p := fun _ => True) (fun x hx => bl_openC (hm1 x hx))
  obtain ⟨l2, rfl, hp2⟩ := rows_ofP (f := lgCells) (p := fun _ => True) (fun x hx => lg_openC (hm2 x hx))
  have e1' : [v0] = [.slice A1 n1 cf1] := e1
  have e2' : [v1] = [.slice A2 n2 cf2] := e2
  clear e1 e2 g0 g1
  obtain rfl := sing e1'
  obtain rfl := sing e2'
  exact ⟨l1, l2, A1, n1, cf1, A2, n2, cf2, rfl, hr1, hr2⟩
theorem open_capT {t e : TypeId} {fuel : Nat} {A : Option Addr} {m c : Nat} {x : DataW H × List MemPlace} (hs : P.underlying t = some (.slice e))
    (hf : DataW.trod enc P W 0 (fun _ => true) held fuel t [.slice A m c] = some x) : m ≤ c := by
  rcases Go.Deep.open_slice hs hf with ⟨h1, _⟩ | ⟨a, len, cap, m', k, D, Pl, h1, _, hlc, _⟩
  · simp only [List.cons.injEq, Value.slice.injEq, and_true] at h1
    omega
  · simp only [List.cons.injEq, Value.slice.injEq, and_true] at h1
    omega
theorem open_cast {r : Reach} {b0 : Nat} {v : Value} {d : DataW H} {p : List MemPlace} (hv : Value.okWide Try.prog W r b0 42 v) (h : DataW.Trod enc Try.prog W 0 (fun _ => true) held 42 v d p) :
    ∃ (A : Option Addr) (m c : Nat) (L : List Wn), v = .slice A m c ∧ CastR W A m L := by
  obtain ⟨A, m, c, rfl⟩ := okWide_slice Try.underlying42 hv
  obtain ⟨fuel, hf⟩ := h
  refine ⟨A, m, c, ?_⟩
  rcases Go.Deep.open_slice Try.underlying42 hf with ⟨h1, _⟩ | ⟨a, len, cap, m', k, D, Pl, h1, _, hlc, _, hm, _, hi⟩
  · simp only [Value.cells, List.cons.injEq, Value.slice.injEq, and_true] at h1
    obtain ⟨rfl, rfl, rfl⟩ := h1
    exact ⟨[], rfl, ⟨RdS.nil _ _ _, fun x hx => (List.not_mem_nil hx).elim⟩⟩
  · simp only [Value.cells, List.cons.injEq, Value.slice.injEq, and_true] at h1
    obtain ⟨rfl, rfl, rfl⟩ := h1
    simp only [if_true] at hm
    subst hm
    have c59 : Try.prog.cellsOf 59 = 1 := by kernel_rfl
    rw [c59] at hi
    have key : ∀ i, i < m → ∃ y : Wn, (RdS W 6 y.A y.n (y.l.map glCells) ∧ y.n ≤ y.c) ∧ W.cell? (a.add (i * 1)) = some (.slice y.A y.n y.c) := fun i hin => by
      obtain ⟨cs, hc, ht⟩ := hi i (by omega)
      obtain ⟨_, hlc, hat⟩ := World.cells?_some hc
      obtain ⟨A1, n1, cf1, rows1, e1, hr1, hn1, hm1⟩ := open_rowsT Try.underlying59 (show ksOf Try.prog 6 142 = some [.int .i64, .int .i64, .int .i64, .int .i64, .int .i64, .int .i64] by kernel_rfl) (by kernel_rfl) (by decide) ht
      obtain ⟨l1, rfl, hp1⟩ := rows_ofP (f := glCells) (p := fun _ => True) (fun x hx => gl_open (hm1 x hx))
      subst e1
      have hcap := open_capT Try.underlying59 ht
      refine ⟨⟨A1, n1, cf1, l1⟩, ⟨hr1, hcap⟩, ?_⟩
      have := hat 0 (by omega)
      simpa [Addr.add] using this
    let f : Nat → Wn := fun i => if h : i < m then Classical.choose (key i h) else ⟨none, 0, 0, []⟩
    have hfk : ∀ i, i < m → (RdS W 6 (f i).A (f i).n ((f i).l.map glCells) ∧ (f i).n ≤ (f i).c) ∧ W.cell? (a.add (i * 1)) = some (.slice (f i).A (f i).n (f i).c) := fun i hin => by
      simp only [f, dif_pos hin]
      exact Classical.choose_spec (key i hin)
    refine ⟨(List.range m).map f, rfl, ⟨⟨by simp, fun h0 => ?_⟩, fun x hx => ?_⟩⟩
    · have c0 := (hfk 0 h0).2
      obtain ⟨b, o, sp⟩ := a
      have hsp : sp = none := by simpa [Addr.add] using World.cell?_spot c0
      subst hsp
      refine ⟨b, o, rfl, by simpa [Addr.add] using cell_lt c0, fun i x hx => ?_⟩
      rw [List.getElem?_map, List.getElem?_map] at hx
      by_cases him : i < m
      · have e1 : (List.range m)[i]? = some i := by rw [List.getElem?_eq_getElem (by simpa using him), List.getElem_range]
        rw [e1] at hx
        simp only [Option.map_some, Option.some.injEq] at hx
        subst hx
        refine ⟨rfl, fun j u hu => ?_⟩
        have hw := (hfk i him).2
        rw [add_eq] at hw
        cases j with
        | zero =>
          simp only [wnCells, List.getElem?_cons_zero, Option.some.injEq] at hu
          subst hu
          exact hw
        | succ j => simp [wnCells] at hu
      · have e1 : (List.range m)[i]? = none := by rw [List.getElem?_eq_none_iff]; simpa using him
        rw [e1] at hx
        cases hx
    · obtain ⟨i, hi2, rfl⟩ := List.mem_map.1 hx
      exact (hfk i (List.mem_range.1 hi2)).1
end
theorem Try.own : ownKnob Try.prog.godebug = none := by kernel_rfl
theorem Try.laidOut : laidOutB Try.prog = true := by kernel_rfl
section
variable {H : Type} {enc : TypeId × Value → H} {P : Program}
theorem trodAll_ext (hl : laidOutB P = true) {W W' : World} (hb : Ext W W') : ∀ {ts : List TypeId} {vs : List Value} {ds : List (DataW H)} {p : List MemPlace}, (ts.all fun t => P.readableRec t && decide (t < P.types.size)) = true →
    DataW.TrodAll enc P W 0 (fun _ => true) true ts vs ds p → (∀ x ∈ p, x.block < W.heap.size) → DataW.TrodAll enc P W' 0 (fun b => decide (b < W.heap.size)) true ts vs ds p
  | [], vs, ds, p, _, h, _ => by
    obtain ⟨rfl, rfl, rfl⟩ := trodAll_nil h
    exact trodAll_mk0
  | t :: ts, vs, ds, p, ht, h, hlt => by
    obtain ⟨v, vs', d, ds', p0, q0, rfl, rfl, rfl, h1, h2⟩ := trodAll_cons h
    simp only [List.all_cons, Bool.and_eq_true, decide_eq_true_eq] at ht
    exact ⟨p0, q0, Below.trod hl ht.1.1 ht.1.2 h1 hb (fun x hx => hlt x (List.mem_append_left _ hx)), trodAll_ext hl hb ht.2 h2 (fun x hx => hlt x (List.mem_append_right _ hx)), rfl⟩
end
end Go.Proofs.Ytcjkndjjbjoehaa
