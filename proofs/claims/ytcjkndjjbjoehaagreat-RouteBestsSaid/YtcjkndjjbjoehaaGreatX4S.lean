/- A part of the proof: rules for walks, and contracts of functions (19). -/
import Derived.Test.YtcjkndjjbjoehaaGreatX4M
import Derived.Test.YtcjkndjjbjoehaaGreatX4Q
import Derived.Test.YtcjkndjjbjoehaaGreatX4P
import Derived.Test.YtcjkndjjbjoehaaGreatX4R
set_option linter.unusedVariables false
set_option linter.unusedSimpArgs false
set_option maxRecDepth 100000
set_option maxHeartbeats 2000000
namespace Go.Proofs.YtcjkndjjbjoehaaGreat
theorem goS0 {G A1 A2 A3 A4 A5 A6 A7 A8 A9 A10 A11 A12 A13 A14 A15 A16 : Prop} (p : GoP A1 A2 A3 A4 A5 A6 A7 A8 A9 A10 A11 A12 A13 A14 A15 A16) (h : GoL A1 → GoL A2 → GoL A3 → GoL A4 → GoL A5 → GoL A6 → GoL A7 → GoL A8 → GoL A9 → GoL A10 → GoL A11 → GoL A12 → GoL A13 → GoL A14 → GoL A15 → GoL A16 → GoM → G := by intro m1 m2 m3 m4 m5 m6 m7 m8 m9 m10 m11 m12 m13 m14 m15 m16 _; (repeat' (first | ((with_reducible apply oq_id); first | ((with_reducible apply oq_call (k := 86) (hc := Tryz.call86)); exact rfl; exact rfl; exact fun D w1 hw1 => HL w1) | ((with_reducible apply oq_call (k := 87) (hc := Tryz.call87)); exact rfl; exact rfl; exact fun D w1 hw1 => HP w1 hw1.ext.ext) | (focus ((with_reducible apply oq_indexAddrN (i := j)); exact rfl; exact rfl; exact rfl; exact rfl; omega)) | (apply oq_fn; exact rfl; first | exact trivial | (refine ⟨?_, ?_⟩ <;> omega) | (refine ⟨?_, ?_, ?_⟩ <;> omega) | omega | skip) | ((with_reducible apply oq_load); exact rfl; exact rfl) | ((with_reducible apply oq_loadAgg); exact rfl; exact rfl)) | ((with_reducible apply tl_id); first | ((with_reducible apply tl_nil)) | ((with_reducible apply u_q); exact rfl; exact rfl; exact rfl; exact rfl) | ((with_reducible apply u_s); exact rfl; exact rfl; exact rfl)) | ((with_reducible apply gx_id); first | ((with_reducible apply v_nil)) | ((with_reducible apply v_q); exact rfl; exact rfl; exact rfl)) | ((with_reducible apply os_id); first | ((with_reducible apply os_x); exact rfl) | ((with_reducible apply os_storeAgg); exact rfl; exact rfl; exact rfl; exact rfl; exact rfl)) | ((with_reducible apply ox_id); first | ((with_reducible apply ox_alloc); exact rfl; intro _) | ((with_reducible apply ox_boxAgg); exact rfl; intro _)) | ((with_reducible apply ai_id); first | ((with_reducible apply ai_q); exact rfl; exact rfl; exact rfl; exact rfl; exact rfl) | ((with_reducible apply ai_x); exact rfl; exact rfl; exact rfl; exact rfl; exact rfl) | ((with_reducible apply ai_n0); exact rfl; exact rfl; exact rfl)) | ((with_reducible apply al_keep); focus (repeat (first | exact HpSub.refl _ | (apply HpSub.cons; (repeat (first | exact P0 | apply P1))) | apply HpSub.skipX | exact HpSub.nil))) | ((with_reducible apply rd_id); first | (apply Rd.own; (repeat (first | exact P0 | apply P1)); exact rfl; done) | (apply Rd.old; (first | (with_reducible assumption) | exact c0 | exact c1 | exact c2 | exact c3 | exact c4 | exact c5 | exact c6 | exact c7 | exact c8 | exact d0 | exact d1 | exact d2 | exact d3 | exact d4 | exact d5); first | exact List.not_mem_nil | exact m0 | exact m1 | exact m2 | exact m3 | exact m4 | exact m5 | exact m6 | exact m7 | exact m8 | exact m9)) | ((with_reducible apply t_id); first | (apply t_mix (id := 1) [0, 1, 2, 3, 4, 5, 6, 7, 8, 9, 10, 11, 12, 13, 14, 15, 16] 5 #[false, false, false, false, false, false, false, false, false, false, false, false, false, false, false, false, false, false, false, false, false, false]; kernel_rfl; kernel_rfl; exact rfl) | ((with_reducible apply t_seq)) | (apply t_region; kernel_rfl) | ((with_reducible apply t_ret)) | ((with_reducible apply t_block))) | with_reducible apply q_thenN | exact P0 | ((with_reducible apply P1)) | exact Rdn.zero | apply Rdn.succ | ((with_reducible apply Norm.nil); exact rfl) | ((with_reducible apply Norm.cons); exact rfl) | ((with_reducible apply end_ret)) | exact rvs_nil | ((with_reducible apply rvs_cons)) | ((with_reducible apply rv_tmp); exact rfl) | ((with_reducible apply al_id); first | (apply al_done; decide +kernel) | (apply al_one 17; decide +kernel) | (apply al_one 18; decide +kernel) | (apply al_one 19; decide +kernel) | (apply al_one 20; decide +kernel) | (apply al_one 21; decide +kernel) | (apply al_two 17 18; decide +kernel)) | exact Nat.le_of_ble_eq_true rfl)); (try focus (repeat (rename_i x; first | exact goD x m1.p | revert x))); (try focus (repeat (rename_i x; first | exact goD x m2.p | revert x))); (try focus (repeat (rename_i x; first | exact goD x m3.p | revert x))); (try focus (repeat (rename_i x; first | exact goD x m4.p | revert x))); (try focus (repeat (rename_i x; first | exact goD x m5.p | revert x))); (try focus (repeat (rename_i x; first | exact goD x m6.p | revert x))); (try focus (repeat (rename_i x; first | exact goD x m7.p | revert x))); (try focus (repeat (rename_i x; first | exact goD x m8.p | revert x))); (try focus (repeat (rename_i x; first | exact goD x m9.p | revert x))); (try focus (repeat (rename_i x; first | exact goD x m10.p | revert x))); (try focus (repeat (rename_i x; first | exact goD x m11.p | revert x))); (try focus (repeat (rename_i x; first | exact goD x m12.p | revert x))); (try focus (repeat (rename_i x; first | exact goD x m13.p | revert x))); (try focus (repeat (rename_i x; first | exact goD x m14.p | revert x))); (try focus (repeat (rename_i x; first | exact goD x m15.p | revert x))); (try focus (repeat (rename_i x; first | exact goD x m16.p | revert x)))) (e : GoTs A1 A2 A3 A4 A5 A6 A7 A8 A9 A10 A11 A12 A13 A14 A15 A16 := by constructor <;> first | (with_reducible exact GoT.t) | exact GoT.u) : G := p.run h
theorem goS1 {G A1 A2 A3 A4 A5 A6 A7 A8 A9 A10 A11 A12 A13 A14 A15 A16 : Prop} (p : GoP A1 A2 A3 A4 A5 A6 A7 A8 A9 A10 A11 A12 A13 A14 A15 A16) (h : GoL A1 → GoL A2 → GoL A3 → GoL A4 → GoL A5 → GoL A6 → GoL A7 → GoL A8 → GoL A9 → GoL A10 → GoL A11 → GoL A12 → GoL A13 → GoL A14 → GoL A15 → GoL A16 → GoM → G := by intro m1 m2 m3 m4 m5 m6 m7 m8 m9 m10 m11 m12 m13 m14 m15 m16 _; (repeat' (first | ((with_reducible apply oq_id); first | ((with_reducible apply oc_id); first | ((with_reducible apply oq_call (k := 99) (hc := Tryz.call99)); exact rfl; exact rfl; exact fun D w1 hw1 => HC false w1 hw1.ext.ext) | ((with_reducible apply oq_call (k := 99) (hc := Tryz.call99)); exact rfl; exact rfl; exact fun D w1 hw1 => HC true w1 hw1.ext.ext) | ((with_reducible apply oq_call (k := 70) (hc := Tryz.call70)); exact rfl; exact rfl; exact fun D w1 hw1 => HA w1 hw1.ext.ext) | ((with_reducible apply oq_call (k := 71) (hc := Tryz.call71)); exact rfl; exact rfl; (intro D w1 hw1; refine within6_t _ _ _ ?_ w1; omega)) | ((with_reducible apply oq_call (k := 71) (hc := Tryz.call71)); exact rfl; exact rfl; (intro D w1 hw1; refine within6_f _ _ _ ?_ w1; omega))) | ((with_reducible apply ob_id); first | (focus ((with_reducible apply (oq_addE (k := ((R.length + 1 : Nat) : Int)))); exact rfl; exact rfl; omega)) | (focus ((with_reducible apply (oq_subE (k := (m : Int) - 1))); exact rfl; exact rfl; omega)) | ((with_reducible apply oq_neqT); exact rfl; exact rfl; omega) | ((with_reducible apply oq_neqF); exact rfl; exact rfl; omega) | ((with_reducible apply oq_lssT); exact rfl; exact rfl; omega) | ((with_reducible apply oq_lssF); exact rfl; exact rfl; omega)) | (focus ((with_reducible apply oq_indexAddrN (i := R.length)); exact rfl; exact rfl; exact rfl; exact rfl; omega)) | (focus ((with_reducible apply oq_indexAddrN); exact rfl; exact rfl; exact rfl; exact rfl; omega)) | (apply oq_fn; exact rfl; first | exact trivial | (refine ⟨?_, ?_⟩ <;> omega) | (refine ⟨?_, ?_, ?_⟩ <;> omega) | omega | skip) | ((with_reducible apply oq_load); exact rfl; exact rfl) | ((with_reducible apply oq_loadAgg); exact rfl; exact rfl)) | ((with_reducible apply tl_id); first | ((with_reducible apply tl_nil)) | ((with_reducible apply u_q); exact rfl; exact rfl; exact rfl; exact rfl) | ((with_reducible apply u_s); exact rfl; exact rfl; exact rfl) | ((with_reducible apply u_skip); exact rfl; exact rfl; exact rfl)) | ((with_reducible apply gx_id); first | ((with_reducible apply v_nil)) | ((with_reducible apply v_q); exact rfl; exact rfl; exact rfl)) | ((with_reducible apply os_id); first | ((with_reducible apply os_x); exact rfl) | ((with_reducible apply os_append (hk := app_ok57)); exact rfl; exact rfl; (repeat (first | exact P0 | apply P1))) | ((with_reducible apply os_appendNil (hk := app_ok57)); exact rfl; exact rfl)) | ((with_reducible apply ox_id); first | ((with_reducible apply ox_boxAgg); exact rfl; intro _) | ((with_reducible apply ox_buildSlice1); exact rfl; exact rfl; exact rfl; exact rfl; exact rfl; exact rfl; intro _)) | ((with_reducible apply ai_id); first | ((with_reducible apply ai_n); exact rfl; exact rfl; exact rfl; exact rfl; (with_reducible apply os_callS (PV := CosV (L.map (fun z => (legC v q1 q2 q3 g0 g1 C z false, legC v q1 q2 q3 g0 g1 C z true)))) (k := 73) (hc := Tryz.call73)); exact rfl; exact rfl; exact fun D w1 hw1 => HK w1 hw1.ext.ext; rintro _ _ ⟨R, _ | ⟨bC, cC'⟩, hRk, hRo, rfl, rfl⟩ <;> simp only [coV, coH, List.cons_append, List.nil_append, List.append_nil]) | ((with_reducible apply ai_n); exact rfl; exact rfl; exact rfl; exact rfl; (with_reducible apply os_callF (PV := RouV _) (k := 72) (hc := Tryz.call72)); exact rfl; exact rfl; exact fun D w1 hw1 => HR (some ⟨bC, 0, none⟩) _ R.length (R.map coW) w1 hw1.ext.ext (cos_coR (hw1.sub (by (repeat (first | exact HpSub.refl _ | (apply HpSub.cons; (repeat (first | exact P0 | apply P1))) | apply HpSub.skipX | apply HpSub.skipX | exact HpSub.nil))))) (by have := congrArg List.length hRk; simp only [List.length_map] at this; omega) (by rw [List.map_map]; exact hRk); rintro _ _ ⟨_ | ⟨bN, cN⟩, hN0, rfl, rfl⟩ <;> simp only [sN, hN, List.cons_append, List.nil_append]) | ((with_reducible apply ai_n); exact rfl; exact rfl; exact rfl; exact rfl; (with_reducible apply os_callF (PV := RouV _) (k := 72) (hc := Tryz.call72)); exact rfl; exact rfl; exact fun D w1 hw1 => HR0 w1 hw1.ext.ext (hRo rfl); rintro _ _ ⟨_ | ⟨bN, cN⟩, hN0, rfl, rfl⟩ <;> simp only [sN, hN, List.cons_append, List.nil_append]) | ((with_reducible apply ai_q); exact rfl; exact rfl; exact rfl; exact rfl; exact rfl) | ((with_reducible apply ai_x); exact rfl; exact rfl; exact rfl; exact rfl; exact rfl) | ((with_reducible apply ai_s); exact rfl; exact rfl; exact rfl; exact rfl; exact rfl)) | ((with_reducible apply al_keep); focus (repeat (first | exact HpSub.refl _ | (apply HpSub.cons; (repeat (first | exact P0 | apply P1))) | apply HpSub.skipX | exact HpSub.nil))) | ((with_reducible apply rd_id); first | (apply Rd.own; (repeat (first | exact P0 | apply P1)); exact rfl; done) | (apply Rd.old; (first | (with_reducible assumption) | exact c0 | exact c1 | exact c2 | exact c3 | exact c4 | exact c5 | exact c6 | exact c7 | exact c8 | exact d0 | exact d1 | exact d2 | exact d3 | exact d4 | exact d5); first | exact List.not_mem_nil | exact m0 | exact m1 | exact m2 | exact m3 | exact m4 | exact m5 | exact m6 | exact m7 | exact m8 | exact m9)) | ((with_reducible apply t_id); first | (apply t_mix (id := 5) [0, 1, 2, 3, 4, 5, 6, 7, 8, 9, 10, 11, 12, 13, 14, 15, 16] 4 #[false, false, false, false, false, false, false, false, false, false, false, false, false, false, false, false, false, false, false, true, false]; kernel_rfl; kernel_rfl; exact rfl) | (apply t_mix (id := 6) [0, 1, 2, 3, 5, 6, 7] 7 #[false, false, false, false, false, false, false, false, false, false, false, false, false, false]; kernel_rfl; kernel_rfl; exact rfl) | ((with_reducible apply t_seq)) | (apply t_region; kernel_rfl) | ((with_reducible apply t_condT); exact rfl) | ((with_reducible apply t_condF); exact rfl) | ((with_reducible apply t_ret)) | ((with_reducible apply t_skip)) | ((with_reducible apply t_exit)) | ((with_reducible apply t_block))) | with_reducible apply q_thenN | with_reducible apply q_thenR | with_reducible apply q_blockN | with_reducible apply q_thenE | ((with_reducible apply q_blockE); exact rfl) | exact Rdn.zero | apply Rdn.succ | ((with_reducible apply end_ret)) | exact rvs_nil | ((with_reducible apply rvs_cons)) | ((with_reducible apply rv_tmp); exact rfl) | ((with_reducible apply al_id); first | (apply al_done; decide +kernel) | (apply al_one 17; decide +kernel) | (apply al_one 18; decide +kernel) | (apply al_one 19; decide +kernel) | (apply al_one 20; decide +kernel) | (apply al_one 4; decide +kernel) | (apply al_one 8; decide +kernel) | (apply al_one 9; decide +kernel) | (apply al_one 10; decide +kernel) | (apply al_one 11; decide +kernel) | (apply al_one 12; decide +kernel) | (apply al_one 13; decide +kernel) | (apply al_two 10 11; decide +kernel) | (apply al_two 11 12; decide +kernel)) | exact coM_len _ | exact Nat.le_of_ble_eq_true rfl | exact (rfl : (_ : Bool) = true) | omega | (intro _ _; with_reducible apply al_id))); (try focus (repeat (rename_i x; first | exact goD x m1.p | revert x))); (try focus (repeat (rename_i x; first | exact goD x m2.p | revert x))); (try focus (repeat (rename_i x; first | exact goD x m3.p | revert x))); (try focus (repeat (rename_i x; first | exact goD x m4.p | revert x))); (try focus (repeat (rename_i x; first | exact goD x m5.p | revert x))); (try focus (repeat (rename_i x; first | exact goD x m6.p | revert x))); (try focus (repeat (rename_i x; first | exact goD x m7.p | revert x))); (try focus (repeat (rename_i x; first | exact goD x m8.p | revert x))); (try focus (repeat (rename_i x; first | exact goD x m9.p | revert x))); (try focus (repeat (rename_i x; first | exact goD x m10.p | revert x))); (try focus (repeat (rename_i x; first | exact goD x m11.p | revert x))); (try focus (repeat (rename_i x; first | exact goD x m12.p | revert x))); (try focus (repeat (rename_i x; first | exact goD x m13.p | revert x))); (try focus (repeat (rename_i x; first | exact goD x m14.p | revert x))); (try focus (repeat (rename_i x; first | exact goD x m15.p | revert x))); (try focus (repeat (rename_i x; first | exact goD x m16.p | revert x)))) (e : GoTs A1 A2 A3 A4 A5 A6 A7 A8 A9 A10 A11 A12 A13 A14 A15 A16 := by constructor <;> first | (with_reducible exact GoT.t) | exact GoT.u) : G := p.run h
open Go.RowKit
attribute [local irreducible] OQ OS OX Rd T TL GX GL AL AI RV wpG SAny Calls
/-- A row of two numbers, and where it lies. -/
abbrev Co := Nat × Int × Int
def coS (r : Co) : Value := .slice (some ⟨r.1, 0, none⟩) 2 2
def coK (a : Hp) (r : Co) : Hp := (r.1, [.int .i64 r.2.1, .int .i64 r.2.2], some (3, 1, 2)) :: a
def coB (R : List Co) : Hp := R.foldl coK []
theorem coB_snoc (R : List Co) (r : Co) : coB (R ++ [r]) = (r.1, [.int .i64 r.2.1, .int .i64 r.2.2], some (3, 1, 2)) :: coB R := by simp [coB, coK, List.foldl_append]
def coV (R : List Co) : Option (Nat × Nat) → Value
  | none => .slice none 0 0
  | some (b, cap) => .slice (some ⟨b, 0, none⟩) R.length cap
def coH (R : List Co) : Option (Nat × Nat) → Hp
  | none => []
  | some (b, cap) => (b, R.map coS, some (31, 1, cap)) :: coB R
theorem coV_snoc (R : List Co) (r : Co) (b cap : Nat) : coV (R ++ [r]) (some (b, cap)) = .slice (some ⟨b, 0, none⟩) (R.length + 1) cap := by simp [coV]
theorem coH_snoc (R : List Co) (r : Co) (b cap : Nat) : coH (R ++ [r]) (some (b, cap)) = (b, R.map coS ++ [coS r], some (31, 1, cap)) :: (r.1, [.int .i64 r.2.1, .int .i64 r.2.2], some (3, 1, 2)) :: coB R := by simp [coH, coB_snoc]
theorem coM_len (R : List Co) : (R.map coS).length = R.length * 1 := by simp
/-- The fuels that are handed out. -/
def CosV (K : List (Int × Int)) (u : Value) (H : Hp) : Prop := ∃ R o, R.map Prod.snd = K ∧ (o = none → K = []) ∧ u = coV R o ∧ H = coH R o
theorem costs_calls (AM A : Option Addr) (m cM n cp : Nat) (L : List Lg) (w : World) (hr : RdS w 5 A n (L.map lgCells)) (hn : n ≤ 1000000) (v q1 q2 q3 q4 : Int) (g0 g1 : Nat) (AC : Option Addr) (nC cC : Nat) (C : List Wn) (hrc : CastR w AC nC C) (hs : ∀ z ∈ C, z.n ≤ 1000000) (hcw : ∀ z ∈ C, windB z.l = true) (hnC : 1 ≤ nC ∧ nC ≤ 4) (hp : PaceOk v q1 q2 q3 q4 g0 g1) (hL : ∀ z ∈ L, LegOk m z) : Calls Tryz.prog 73 #[.agg #[.slice AM m cM, .slice A n cp], .agg #[.int .i64 v, .int .i64 q1, .int .i64 q2, .int .i64 q3, .int .i64 q4, .int .i64 (g0 : Nat), .int .i64 (g1 : Nat)], .slice AC nC cC] w fun e w' => ∃ u H', e = .returned u ∧ CosV (L.map (fun z => (legC v q1 q2 q3 g0 g1 C z false, legC v q1 q2 q3 g0 g1 C z true))) u H' ∧ Has w ⟨[], []⟩ H' w' := by
  have hl : L.length = n := by simpa using hr.len
  refine enterF (c := cx w 37) Tryz.func73 rfl rfl rfl rfl ?_
  ((all_goals refine goS0 ?_); (all_goals constructor); (any_goals exact trivial); all_goals intros)
  rename_i b3 b4
  apply t_loopK (ι := List Co × Option (Nat × Nat)) [2, 3, 4, 6, 36] (fun z => [(8, .int .i64 ((z.1.length : Nat) : Int)), (7, coV z.1 z.2)]) (fun z => (b3, [.slice AM m cM, .slice A n cp], some (25, 2, 1)) :: (b4, [.int .i64 v, .int .i64 q1, .int .i64 q2, .int .i64 q3, .int .i64 q4, .int .i64 (g0 : Nat), .int .i64 (g1 : Nat)], some (29, 7, 1)) :: coH z.1 z.2) (fun z => z.1.length ≤ n ∧ z.1.map Prod.snd = (L.take z.1.length).map (fun z => (legC v q1 q2 q3 g0 g1 C z false, legC v q1 q2 q3 g0 g1 C z true)) ∧ (z.2 = none → z.1 = [])) (fun z => n - z.1.length) (([], none))
  (repeat (first | exact KeepF.nil | (apply KeepF.cons; exact rfl) | apply KeepF.skip))
  (repeat (first | exact FrSub.nil | (apply FrSub.cons; exact rfl)))
  (repeat (first | exact HpSub.refl _ | (apply HpSub.consE; (repeat (first | exact P0 | apply P1)); exact rfl) | exact HpSub.nil))
  · exact ⟨Nat.zero_le _, rfl, fun _ => rfl⟩
  rintro ⟨R, o⟩ ⟨hk, hK, ho⟩
  simp only at hk hK ho
  try simp only [List.cons_append, List.nil_append]
  by_cases hlt : R.length < n
  · obtain ⟨bA, oA, z, rfl, _, hz, c0, c1, c2, c3, c4⟩ := lg_read hr hlt
    have hzL := hL z (List.mem_of_getElem? hz)
    have HC := fun bk w1 (hx : Ext w w1) => cost_calls (m := m) z v q1 q2 q3 q4 g0 g1 bk AC nC cC C w1 (hrc.ext hx) hs hcw hnC hp hzL
    have hKs : ∀ b : Nat, (R ++ [(b, legC v q1 q2 q3 g0 g1 C z false, legC v q1 q2 q3 g0 g1 C z true)]).map Prod.snd = (L.take (R ++ [(b, legC v q1 q2 q3 g0 g1 C z false, legC v q1 q2 q3 g0 g1 C z true)]).length).map (fun z => (legC v q1 q2 q3 g0 g1 C z false, legC v q1 q2 q3 g0 g1 C z true)) := fun b => by
      rw [List.length_append, List.length_singleton, List.take_add_one, hz, List.map_append, List.map_append, hK]
      rfl
    rcases o with _ | ⟨bo, co⟩
    · obtain rfl := ho rfl
      ((all_goals refine goS1 ?_); (all_goals constructor); (any_goals exact trivial); all_goals intros)
      all_goals (rename_i bR bT bN cN; refine ⟨([(bR, legC v q1 q2 q3 g0 g1 C z false, legC v q1 q2 q3 g0 g1 C z true)], some (bN, cN)), ⟨by simp only [List.length_singleton]; omega, hKs bR, fun h => by cases h⟩, by simp only [List.length_singleton, List.length_nil]; omega, ?_, ?_⟩ <;> (repeat' (first | exact FrSub.nil | (apply FrSub.cons; exact rfl) | exact HpSub.refl _ | (apply HpSub.consE; (repeat (first | exact P0 | apply P1)); first | exact rfl | (simp [coS]; done)) | apply HpSub.skipX)))
    · ((all_goals refine goS1 ?_); (all_goals constructor); (any_goals exact trivial); all_goals intros)
      all_goals (rename_i bR bT bN cN; refine ⟨(R ++ [(bR, legC v q1 q2 q3 g0 g1 C z false, legC v q1 q2 q3 g0 g1 C z true)], some (bN, cN)), ⟨by simp only [List.length_append, List.length_singleton]; omega, hKs bR, fun h => by cases h⟩, by simp only [List.length_append, List.length_singleton]; omega, ?_, ?_⟩ <;> (try simp only [coV_snoc, coH_snoc, List.length_append, List.length_singleton]) <;> (repeat' (first | exact FrSub.nil | (apply FrSub.cons; exact rfl) | exact HpSub.refl _ | (apply HpSub.consE; (repeat (first | exact P0 | apply P1)); first | exact rfl | (simp [coS]; done)) | apply HpSub.skipX)))
  · have hRl : R.length = n := by omega
    rw [List.take_of_length_le (by omega)] at hK
    ((all_goals refine goS1 ?_); (all_goals constructor); (any_goals exact trivial); all_goals intros)
    all_goals (exact ⟨_, ⟨R, o, hK, fun h => (by rw [← hK, ho h]; rfl), rfl, rfl⟩, by (try simp only [List.append_nil]); (repeat' (first | exact HpSub.refl _ | apply HpSub.skipX))⟩)
theorem mem_coB : ∀ {R : List Co} (a : Hp) {x : Nat × List Value × Tg}, (x ∈ a ∨ ∃ r ∈ R, x = (r.1, [.int .i64 r.2.1, .int .i64 r.2.2], some (3, 1, 2))) → x ∈ R.foldl coK a
  | [], a, x, h => by
    rcases h with h | ⟨r, hr, _⟩
    · exact h
    · cases hr
  | q :: R, a, x, h => by
    refine mem_coB (coK a q) ?_
    rcases h with h | ⟨r, hr, e⟩
    · exact .inl (List.mem_cons_of_mem _ h)
    · rcases List.mem_cons.1 hr with rfl | hr
      · exact .inl (by rw [e]; exact List.mem_cons_self ..)
      · exact .inr ⟨r, hr, e⟩
def coW (r : Co) : Cw := ⟨some ⟨r.1, 0, none⟩, 2, r.2.1, r.2.2⟩
theorem co_flat (R : List Co) : (R.map fun r => [coS r]).flatten = R.map coS := by
  induction R with
  | nil => rfl
  | cons a R ih => simp only [List.map_cons, List.flatten_cons, ih]; rfl
theorem cos_coR {w0 w : World} {M : Ms} {R : List Co} {b cap : Nat} (h : Has w0 M ((b, R.map coS, some (31, 1, cap)) :: coB R) w) : CoR w (some ⟨b, 0, none⟩) R.length (R.map coW) := by
  refine ⟨?_, fun r hr => ?_⟩
  · have e : (R.map coW).map (fun r => [Value.slice r.A 2 r.c]) = R.map fun r => [coS r] := by rw [List.map_map]; rfl
    rw [e]
    refine Blk.rows (g := some (31, 1, cap)) ?_ (by simp) (by simp only [List.mem_map]; rintro r ⟨x, _, rfl⟩; rfl)
    rw [co_flat]
    exact (h.blk _ (List.mem_cons_self ..)).2
  · obtain ⟨q, hq, rfl⟩ := List.mem_map.1 hr
    have hb := (h.blk (q.1, [.int .i64 q.2.1, .int .i64 q.2.2], some (3, 1, 2)) (List.mem_cons_of_mem _ (mem_coB [] (.inr ⟨q, hq, rfl⟩)))).2
    exact Blk.rows (rows := [[.int .i64 q.2.1], [.int .i64 q.2.2]]) (g := some (3, 1, 2)) hb rfl (by intro r hr; simp only [List.mem_cons, List.not_mem_nil, or_false] at hr; rcases hr with rfl | rfl <;> rfl)
theorem legC_le {v q1 q2 q3 q4 : Int} {g0 g1 : Nat} {C : List Wn} {z : Lg} {m : Nat} (hcw : ∀ x ∈ C, windB x.l = true) (hp : PaceOk v q1 q2 q3 q4 g0 g1) (hL : LegOk m z) (bk : Bool) : legC v q1 q2 q3 g0 g1 C z bk ≤ 166666666667 ∧ -1 ≤ legC v q1 q2 q3 g0 g1 C z bk := by
  obtain ⟨_, _, _, kx, ky, kz, kh⟩ := hL
  obtain ⟨hR, hRl⟩ := legRz_ok (z := z) (bk := bk) hcw hp kh ⟨kx, ky, kz⟩
  have lb := lenV_bound kx ky
  obtain ⟨_, _, _, _, _, kg⟩ := id hp
  unfold legC
  split
  · omega
  · have hb := hullT_bound (m := (lenV z.x z.y).toNat) (by omega) _ hR
    have := a_bound (c := g0) (d := g1) hb.1 (by omega) (by omega) (by omega) 8
    omega
/-- The table of the least fuels. -/
def lfG (cst : Lg → Bool → Int) (L : List Lg) (m : Nat) (T : List Bool) : Nat → Nat → Int := fun k s => (leadF (arcs cst L) m (fun j => T.getD j false) k).getD s (-1)
noncomputable def needR (m : Nat) (L : List Lg) (T : List Bool) (v q1 q2 q3 q4 : Int) (g0 g1 : Nat) (C : List Wn) (i : Int) : Int × Int :=
  if askE m L v q1 q2 q3 q4 g0 g1 C = 0 then (if 0 ≤ i ∧ i ≤ (m : Int) - 1 then (match routedF (arcs (legC v q1 q2 q3 g0 g1 C) L) (lfG (legC v q1 q2 q3 g0 g1 C) L m T) m i.toNat with
    | none => (0, 6)
    | some a => (a.1 + q4, 0)) else (0, 2)) else (0, askE m L v q1 q2 q3 q4 g0 g1 C)
theorem refNeed_calls (AM A : Option Addr) (m cM n cp : Nat) (L : List Lg) (T : List Bool) (w : World) (hT : RdS w 1 AM m (T.map blCells)) (hr : RdS w 5 A n (L.map lgCells)) (hn : n ≤ 1000000) (hm : m ≤ 1000000) (v q1 q2 q3 q4 : Int) (g0 g1 : Nat) (AC : Option Addr) (nC cC : Nat) (C : List Wn) (hrc : CastR w AC nC C) (hs : ∀ z ∈ C, z.n ≤ 1000000) (i : Int) : Calls Tryz.prog 24 #[.agg #[.slice AM m cM, .slice A n cp], .agg #[.int .i64 v, .int .i64 q1, .int .i64 q2, .int .i64 q3, .int .i64 q4, .int .i64 (g0 : Nat), .int .i64 (g1 : Nat)], .slice AC nC cC, .int .i64 i] w fun e w' => e = .returned (.tuple #[.int .i64 (needR m L T v q1 q2 q3 q4 g0 g1 C i).1, .int .i64 (needR m L T v q1 q2 q3 q4 g0 g1 C i).2]) ∧ Ext w w' := by
  have hl : L.length = n := by simpa using hr.len
  have HA := fun w1 (hx : Ext w w1) => asked_calls AM A m cM n cp L w1 (hr.ext hx) hn hm v q1 q2 q3 q4 g0 g1 AC nC cC C (hrc.ext hx) hs
  unfold needR
  by_cases hE : askE m L v q1 q2 q3 q4 g0 g1 C = 0
  rotate_left
  · rw [if_neg hE]
    generalize askE m L v q1 q2 q3 q4 g0 g1 C = e at *
    refine enterQ (c := cx w 45) Tryz.func24 rfl rfl rfl rfl ?_
    ((all_goals refine goS1 ?_); (all_goals constructor); (any_goals exact trivial); all_goals intros)
    all_goals rfl
  rw [if_pos hE]
  rw [hE] at HA
  unfold askE at hE
  split at hE
  rotate_left
  · cases hE
  rename_i hch
  split at hE
  rotate_left
  · cases hE
  rename_i hpc
  have hpk : PaceOk v q1 q2 q3 q4 g0 g1 := of_decide_eq_true hpc
  obtain ⟨hcl, hcw⟩ := castE_zero.1 hE
  have hlc := hrc.len
  clear hE
  obtain ⟨hm1, hL40, hLk⟩ := chartB_iff.1 hch
  by_cases hi : 0 ≤ i ∧ i ≤ (m : Int) - 1
  rotate_left
  · rw [if_neg hi]
    refine enterQ (c := cx w 45) Tryz.func24 rfl rfl rfl rfl ?_
    ((all_goals refine goS1 ?_); (all_goals constructor); (any_goals exact trivial); all_goals intros)
    all_goals rfl
  rw [if_pos hi]
  obtain ⟨j, rfl⟩ := Int.eq_ofNat_of_zero_le hi.1
  rw [Int.toNat_natCast]
  have HK := fun w1 (hx : Ext w w1) => costs_calls AM A m cM n cp L w1 (hr.ext hx) hn v q1 q2 q3 q4 g0 g1 AC nC cC C (hrc.ext hx) hs hcw (by omega) hpk hLk
  obtain ⟨rp, hrp⟩ : ∃ p, routedF (arcs (legC v q1 q2 q3 g0 g1 C) L) (lfG (legC v q1 q2 q3 g0 g1 C) L m T) m j = p := ⟨_, rfl⟩
  have HR := fun (AK : Option Addr) (cK n' : Nat) (K : List Cw) w1 (hx : Ext w w1) (hk : CoR w1 AK n' K) (hK : n' = n) (hK2 : K.map (fun r => (r.x, r.y)) = L.map (fun z => (legC v q1 q2 q3 g0 g1 C z false, legC v q1 q2 q3 g0 g1 C z true))) => (by
    subst hK
    have h := routed_calls AM A m cM n' cp L w1 (hr.ext hx) hn (by omega) (by omega) AK cK K hk AM cM T (hT.ext hx) hLk (legC v q1 q2 q3 g0 g1 C) hK2 (fun z hz bk => (legC_le hcw hpk (hLk z hz) bk).1) (fun z hz bk => (legC_le hcw hpk (hLk z hz) bk).2) j (by omega)
    have e : routedF (arcs (legC v q1 q2 q3 g0 g1 C) L) (fun k s => (leadF (arcs (legC v q1 q2 q3 g0 g1 C) L) m (fun j => T.getD j false) k).getD s (-1)) m j = rp := hrp
    rw [e] at h
    exact h : Calls Tryz.prog 72 #[.agg #[.slice AM m cM, .slice A n cp], .slice AK n' cK, .int .i64 (j : Nat), .slice AM m cM] w1 fun e w' => ∃ u H', e = .returned u ∧ RouV rp u H' ∧ Has w1 ⟨[], []⟩ H' w')
  have HR0 := fun w1 (hx : Ext w w1) (h : L.map (fun z => (legC v q1 q2 q3 g0 g1 C z false, legC v q1 q2 q3 g0 g1 C z true)) = []) => HR none 0 0 [] w1 hx ⟨RdS.nil _ _ _, fun r hr => (by cases hr)⟩ (by have := congrArg List.length h; simp only [List.length_map, List.length_nil] at this; omega) h.symm
  have hrb : ∀ a, rp = some a → 0 ≤ a.1 ∧ a.1 ≤ 3000000000000 := fun a ha => by
    rw [← hrp] at ha
    unfold routedF at ha
    cases hb : bestF (fun k => lfG (legC v q1 q2 q3 g0 g1 C) L m T k j) m with
    | none => rw [hb] at ha; cases ha
    | some b =>
      rw [hb] at ha
      obtain rfl := Option.some.inj ha
      obtain ⟨h1, h2, _⟩ := (bestF_spec _ m).2 b hb
      refine ⟨h2, ?_⟩
      have hg := lead_get (cst := legC v q1 q2 q3 g0 g1 C) (L := L) (m := m) (to := fun j => T.getD j false) (k := b) (show j < m by omega)
      have := lead_le (to := fun j => T.getD j false) (m := m) (fun z hz bk => (legC_le hcw hpk (hLk z hz) bk).1) b _ (List.mem_of_getElem? hg)
      show (leadF (arcs (legC v q1 q2 q3 g0 g1 C) L) m (fun j => T.getD j false) b).getD j (-1) ≤ 3000000000000
      omega
  rw [hrp]
  clear hrp
  obtain ⟨_, _, _, _, p5, _⟩ := id hpk
  rcases rp with _ | a
  · simp only
    refine enterQ (c := cx w 45) Tryz.func24 rfl rfl rfl rfl ?_
    ((all_goals refine goS1 ?_); (all_goals constructor); (any_goals exact trivial); all_goals intros)
    all_goals rfl
  · obtain ⟨ha0, ha1⟩ := hrb a rfl
    simp only
    refine enterQ (c := cx w 45) Tryz.func24 rfl rfl rfl rfl ?_
    ((all_goals refine goS1 ?_); (all_goals constructor); (any_goals exact trivial); all_goals intros)
    all_goals rfl
def bvz (b : Bool) : Value := .bool b
section
variable {c : Cx} {F : Fr} {H H' : Hp} {K : Value → Hp → Prop} {d : Option Tmp} {ty : TypeId} {pos : String} {af : Array Edge} {gd : Option (Nat × Bool)} {t : TypeId} {x y : Operand} {a0 : Bool} {z0 : List Value} {k0 : TyK} {g k : Nat} {tg : Tg} {row : List Bool} {z u : Bool}
theorem ox_makeBz {n : Nat} {tt : TypeId} {bytes : Nat} (hk : AppOk c.P tt 4 1 bytes) (hz : (c.P.info? 4).map (fun i => i.zero) = some (some (.bool false)))
    (hx : ev F x = some (.int .i64 (n : Int))) (hy : ev F y = some (.int .i64 (n : Int))) (hb : bytes * n ≤ 281474976710656) (hn : n ≤ maxLen) (k : ∀ b, K (.slice (some ⟨b, 0, none⟩) n n) ((b, (List.replicate n false).map bvz, some (4, 1, n)) :: H)) : OX c ⟨d, .makeSlice tt x y, ty, pos, af, gd⟩ F H K := by
  refine ox_make (zs := [.bool false]) hk hz rfl rfl hx hy hb hn fun b => ?_
  have e : (List.replicate n [Value.bool false]).flatten = (List.replicate n false).map bvz := by simp [bvz]
  rw [e]
  exact k b
theorem os_makeBz {n : Nat} {tt : TypeId} {bytes : Nat} (hk : AppOk c.P tt 4 1 bytes) (hz : (c.P.info? 4).map (fun i => i.zero) = some (some (.bool false)))
    (hx : ev F x = some (.int .i64 (n : Int))) (hy : ev F y = some (.int .i64 (n : Int))) (hb : bytes * n ≤ 281474976710656) (hn : n ≤ maxLen) (k : ∀ b, K (.slice (some ⟨b, 0, none⟩) n n) ((b, (List.replicate n false).map bvz, some (4, 1, n)) :: H)) : OS c ⟨d, .makeSlice tt x y, ty, pos, af, gd⟩ F H K := .ofX (ox_makeBz hk hz hx hy hb hn k)
theorem os_storeB1z (h : k < row.length) (ht : tyAt c.tys t = some ⟨a0, 1, z0, k0⟩) (hx : ev F x = some (.pointer (some ⟨g, 0 + k * 1, none⟩))) (hy : ev F y = some (.bool u)) (hp : Pick H g (row.map bvz) tg H')
    (kk : K undef ((g, (row.set k u).map bvz, tg) :: H')) : OS c ⟨d, .store t x y, ty, pos, af, gd⟩ F H K :=
  store_gen (vs := [.bool u]) ht hx hy rfl rfl (by simp [Value.oneCell']) hp (by simp; omega) (by
    have e : setL (row.map bvz) (0 + k * 1) [Value.bool u] = (row.set k u).map bvz := by simp only [setL]; rw [Nat.zero_add, Nat.mul_one, List.map_set]; rfl
    rw [e]; exact kk)
end
theorem zero4z : (Tryz.prog.info? 4).map (fun i => i.zero) = some (some (.bool false)) := by kernel_rfl
/-- The sites that are asked for: one. -/
def goalL (m j : Nat) : List Bool := (List.replicate m false).set j true
theorem bvz_flat (l : List Bool) : (l.map blCells).flatten = l.map bvz := by
  induction l with
  | nil => rfl
  | cons a l ih => simp only [List.map_cons, List.flatten_cons, ih]; rfl
theorem bvz_rows {w0 : World} {M : Ms} {H H' : Hp} {w : World} {g n : Nat} {l : List Bool} {tg : Tg} (hl : l.length = n) (h : Has w0 M H w) (q : Pick H g (l.map bvz) tg H') : RdS w 1 (some ⟨g, 0, none⟩) n (l.map blCells) :=
  Blk.rows (by rw [bvz_flat]; exact (h.blk _ q.mem).2) (by simpa using hl) (by simp only [List.mem_map]; rintro r ⟨x, _, rfl⟩; rfl)
noncomputable def bestR (m : Nat) (L : List Lg) (v q1 q2 q3 q4 : Int) (g0 g1 : Nat) (C : List Wn) (i j : Int) : List Nat × Int × Int :=
  if askE m L v q1 q2 q3 q4 g0 g1 C = 0 then (if (0 ≤ i ∧ i ≤ (m : Int) - 1) ∧ 0 ≤ j ∧ j ≤ (m : Int) - 1 then (match routedF (arcs (legC v q1 q2 q3 g0 g1 C) L) (lfG (legC v q1 q2 q3 g0 g1 C) L m (goalL m j.toNat)) m i.toNat with
    | none => ([], 0, 6)
    | some a => (a.2, a.1, 0)) else ([], 0, 2)) else ([], 0, askE m L v q1 q2 q3 q4 g0 g1 C)
def BestV (r : List Nat × Int × Int) (u : Value) (H : Hp) : Prop := ∃ o, (o = none → r.1 = []) ∧ u = .tuple #[sN r.1 o, .int .i64 r.2.1, .int .i64 r.2.2] ∧ H = hN r.1 o
theorem refBest_calls (AM A : Option Addr) (m cM n cp : Nat) (L : List Lg) (w : World) (hr : RdS w 5 A n (L.map lgCells)) (hn : n ≤ 1000000) (hm : m ≤ 1000000) (v q1 q2 q3 q4 : Int) (g0 g1 : Nat) (AC : Option Addr) (nC cC : Nat) (C : List Wn) (hrc : CastR w AC nC C) (hs : ∀ z ∈ C, z.n ≤ 1000000) (i j : Int) : Calls Tryz.prog 22 #[.agg #[.slice AM m cM, .slice A n cp], .agg #[.int .i64 v, .int .i64 q1, .int .i64 q2, .int .i64 q3, .int .i64 q4, .int .i64 (g0 : Nat), .int .i64 (g1 : Nat)], .slice AC nC cC, .int .i64 i, .int .i64 j] w fun e w' => ∃ u H', e = .returned u ∧ BestV (bestR m L v q1 q2 q3 q4 g0 g1 C i j) u H' ∧ Has w ⟨[], []⟩ H' w' := by
  have hl : L.length = n := by simpa using hr.len
  have HA := fun w1 (hx : Ext w w1) => asked_calls AM A m cM n cp L w1 (hr.ext hx) hn hm v q1 q2 q3 q4 g0 g1 AC nC cC C (hrc.ext hx) hs
  unfold bestR
  by_cases hE : askE m L v q1 q2 q3 q4 g0 g1 C = 0
  rotate_left
  · rw [if_neg hE]
    generalize askE m L v q1 q2 q3 q4 g0 g1 C = e at *
    refine enterF (c := cx w 62) Tryz.func22 rfl rfl rfl rfl ?_
    ((all_goals refine goS1 ?_); (all_goals constructor); (any_goals exact trivial); all_goals intros)
    all_goals exact ⟨_, ⟨none, fun _ => rfl, rfl, rfl⟩, HpSub.nil⟩
  rw [if_pos hE]
  rw [hE] at HA
  unfold askE at hE
  split at hE
  rotate_left
  · cases hE
  rename_i hch
  split at hE
  rotate_left
  · cases hE
  rename_i hpc
  have hpk : PaceOk v q1 q2 q3 q4 g0 g1 := of_decide_eq_true hpc
  obtain ⟨hcl, hcw⟩ := castE_zero.1 hE
  have hlc := hrc.len
  clear hE
  obtain ⟨hm1, hL40, hLk⟩ := chartB_iff.1 hch
  by_cases hij : (0 ≤ i ∧ i ≤ (m : Int) - 1) ∧ 0 ≤ j ∧ j ≤ (m : Int) - 1
  rotate_left
  · rw [if_neg hij]
    by_cases hi : 0 ≤ i ∧ i ≤ (m : Int) - 1
    · have hj : ¬ (0 ≤ j ∧ j ≤ (m : Int) - 1) := fun h => hij ⟨hi, h⟩
      refine enterF (c := cx w 62) Tryz.func22 rfl rfl rfl rfl ?_
      ((all_goals refine goS1 ?_); (all_goals constructor); (any_goals exact trivial); all_goals intros)
      all_goals exact ⟨_, ⟨none, fun _ => rfl, rfl, rfl⟩, HpSub.nil⟩
    · refine enterF (c := cx w 62) Tryz.func22 rfl rfl rfl rfl ?_
      ((all_goals refine goS1 ?_); (all_goals constructor); (any_goals exact trivial); all_goals intros)
      all_goals exact ⟨_, ⟨none, fun _ => rfl, rfl, rfl⟩, HpSub.nil⟩
  rw [if_pos hij]
  obtain ⟨hi, hj⟩ := hij
  obtain ⟨i, rfl⟩ := Int.eq_ofNat_of_zero_le hi.1
  obtain ⟨j, rfl⟩ := Int.eq_ofNat_of_zero_le hj.1
  rw [Int.toNat_natCast, Int.toNat_natCast]
  have HK := fun w1 (hx : Ext w w1) => costs_calls AM A m cM n cp L w1 (hr.ext hx) hn v q1 q2 q3 q4 g0 g1 AC nC cC C (hrc.ext hx) hs hcw (by omega) hpk hLk
  obtain ⟨rp, hrp⟩ : ∃ p, routedF (arcs (legC v q1 q2 q3 g0 g1 C) L) (lfG (legC v q1 q2 q3 g0 g1 C) L m (goalL m j)) m i = p := ⟨_, rfl⟩
  have hgl : (goalL m j).length = m := by simp [goalL]
  have hln : j < (List.replicate m false).length := by rw [List.length_replicate]; omega
  have HR := fun (bG : Nat) (AK : Option Addr) (cK n' : Nat) (K : List Cw) w1 (hx : Ext w w1) (hk : CoR w1 AK n' K) (hK : n' = n) (hK2 : K.map (fun r => (r.x, r.y)) = L.map (fun z => (legC v q1 q2 q3 g0 g1 C z false, legC v q1 q2 q3 g0 g1 C z true))) (hT : RdS w1 1 (some ⟨bG, 0, none⟩) m ((goalL m j).map blCells)) => (by
    subst hK
    have h := routed_calls AM A m cM n' cp L w1 (hr.ext hx) hn (by omega) (by omega) AK cK K hk (some ⟨bG, 0, none⟩) m (goalL m j) hT hLk (legC v q1 q2 q3 g0 g1 C) hK2 (fun z hz bk => (legC_le hcw hpk (hLk z hz) bk).1) (fun z hz bk => (legC_le hcw hpk (hLk z hz) bk).2) i (by omega)
    have e : routedF (arcs (legC v q1 q2 q3 g0 g1 C) L) (fun k s => (leadF (arcs (legC v q1 q2 q3 g0 g1 C) L) m (fun k => (goalL m j).getD k false) k).getD s (-1)) m i = rp := hrp
    rw [e] at h
    exact h : Calls Tryz.prog 72 #[.agg #[.slice AM m cM, .slice A n cp], .slice AK n' cK, .int .i64 (i : Nat), .slice (some ⟨bG, 0, none⟩) m m] w1 fun e w' => ∃ u H', e = .returned u ∧ RouV rp u H' ∧ Has w1 ⟨[], []⟩ H' w')
  have HR0 := fun bG w1 (hx : Ext w w1) (h : L.map (fun z => (legC v q1 q2 q3 g0 g1 C z false, legC v q1 q2 q3 g0 g1 C z true)) = []) (hT : RdS w1 1 (some ⟨bG, 0, none⟩) m ((goalL m j).map blCells)) => HR bG none 0 0 [] w1 hx ⟨RdS.nil _ _ _, fun r hr => (by cases hr)⟩ (by have := congrArg List.length h; simp only [List.length_map, List.length_nil] at this; omega) h.symm hT
  have hrb : ∀ a, rp = some a → 0 ≤ a.1 := fun a ha => by
    rw [← hrp] at ha
    unfold routedF at ha
    cases hb : bestF (fun k => lfG (legC v q1 q2 q3 g0 g1 C) L m (goalL m j) k i) m with
    | none => rw [hb] at ha; cases ha
    | some b =>
      rw [hb] at ha
      obtain rfl := Option.some.inj ha
      exact ((bestF_spec _ m).2 b hb).2.1
  rw [hrp]
  clear hrp
  rcases rp with _ | a
  · simp only
    refine enterF (c := cx w 62) Tryz.func22 rfl rfl rfl rfl ?_
    repeat' (first | ((with_reducible apply oq_id); first | (focus ((with_reducible apply (oq_subE (k := (m : Int) - 1))); exact rfl; exact rfl; omega)) | (focus ((with_reducible apply oq_indexAddrN); exact rfl; exact rfl; exact rfl; exact rfl; omega)) | ((with_reducible apply oq_neqF); exact rfl; exact rfl; omega) | ((with_reducible apply oq_lssT); exact rfl; exact rfl; omega) | (apply oq_fn; exact rfl; first | exact trivial | (refine ⟨?_, ?_⟩ <;> omega) | (refine ⟨?_, ?_, ?_⟩ <;> omega) | omega | skip) | ((with_reducible apply oq_load); exact rfl; exact rfl) | ((with_reducible apply oq_loadAgg); exact rfl; exact rfl) | ((with_reducible apply oq_call (k := 70) (hc := Tryz.call70)); exact rfl; exact rfl; exact fun D w1 hw1 => HA w1 hw1.ext.ext) | ((with_reducible apply oq_call (k := 71) (hc := Tryz.call71)); exact rfl; exact rfl; (intro D w1 hw1; refine within6_t _ _ _ ?_ w1; omega))) | ((with_reducible apply tl_id); first | ((with_reducible apply tl_nil)) | ((with_reducible apply u_s); exact rfl; exact rfl; exact rfl; ((with_reducible apply (os_makeBz (n := m) (hk := app_ok22) (hz := zero4z))); exact rfl; exact rfl; omega; (unfold maxLen; omega); intro bG)) | ((with_reducible apply u_q); exact rfl; exact rfl; exact rfl; exact rfl) | ((with_reducible apply u_s0); exact rfl; exact rfl) | ((with_reducible apply u_s); exact rfl; exact rfl; exact rfl)) | ((with_reducible apply gx_id); first | ((with_reducible apply v_nil)) | ((with_reducible apply v_q); exact rfl; exact rfl; exact rfl)) | ((with_reducible apply os_id); first | ((with_reducible apply (os_storeB1z (k := j) hln)); exact rfl; exact rfl; exact rfl; (focus ((repeat (first | exact P0 | apply P1)); done))) | ((with_reducible apply os_x); exact rfl)) | ((with_reducible apply ox_id); first | ((with_reducible apply ox_boxAgg); exact rfl; intro _)) | ((with_reducible apply ai_id); first | ((with_reducible apply ai_n); exact rfl; exact rfl; exact rfl; exact rfl; (with_reducible apply os_callS (PV := CosV (L.map (fun z => (legC v q1 q2 q3 g0 g1 C z false, legC v q1 q2 q3 g0 g1 C z true)))) (k := 73) (hc := Tryz.call73)); exact rfl; exact rfl; exact fun D w1 hw1 => HK w1 hw1.ext.ext; rintro _ _ ⟨R, _ | ⟨bC, cC'⟩, hRk, hRo, rfl, rfl⟩ <;> simp only [coV, coH, List.cons_append, List.nil_append, List.append_nil]) | ((with_reducible apply ai_n); exact rfl; exact rfl; exact rfl; exact rfl; (with_reducible apply os_callF (PV := RouV _) (k := 72) (hc := Tryz.call72)); exact rfl; exact rfl; exact fun D w1 hw1 => HR bG (some ⟨bC, 0, none⟩) _ R.length (R.map coW) w1 hw1.ext.ext (cos_coR (hw1.sub (by (repeat (first | exact HpSub.refl _ | (apply HpSub.cons; (repeat (first | exact P0 | apply P1))) | apply HpSub.skipX | apply HpSub.skipX | exact HpSub.nil))))) (by have := congrArg List.length hRk; simp only [List.length_map] at this; omega) (by rw [List.map_map]; exact hRk) (bvz_rows (l := goalL m j) hgl hw1 (by (repeat (first | exact P0 | apply P1)))); rintro _ _ ⟨_ | ⟨bN, cN⟩, hN0, rfl, rfl⟩ <;> simp only [sN, hN, List.cons_append, List.nil_append]) | ((with_reducible apply ai_n); exact rfl; exact rfl; exact rfl; exact rfl; (with_reducible apply os_callF (PV := RouV _) (k := 72) (hc := Tryz.call72)); exact rfl; exact rfl; exact fun D w1 hw1 => HR0 bG w1 hw1.ext.ext (hRo rfl) (bvz_rows (l := goalL m j) hgl hw1 (by (repeat (first | exact P0 | apply P1)))); rintro _ _ ⟨_ | ⟨bN, cN⟩, hN0, rfl, rfl⟩ <;> simp only [sN, hN, List.cons_append, List.nil_append]) | ((with_reducible apply ai_q); exact rfl; exact rfl; exact rfl; exact rfl; exact rfl)) | ((with_reducible apply al_keep); focus (repeat (first | exact HpSub.refl _ | (apply HpSub.cons; (repeat (first | exact P0 | apply P1))) | apply HpSub.skipX | exact HpSub.nil))) | ((with_reducible apply rd_id); first | (apply Rd.own; (repeat (first | exact P0 | apply P1)); exact rfl; done)) | ((with_reducible apply t_id); first | (apply t_mix (id := 8) [0, 1, 2, 3, 5, 6] 7 #[false, false, false, false, false, false, false, false, false, false, false, false, false]; kernel_rfl; kernel_rfl; exact rfl) | ((with_reducible apply t_seq)) | (apply t_region; kernel_rfl) | ((with_reducible apply t_condT); exact rfl) | ((with_reducible apply t_condF); exact rfl) | ((with_reducible apply t_ret)) | ((with_reducible apply t_skip))) | with_reducible apply q_thenN | with_reducible apply q_thenR | exact Rdn.zero | apply Rdn.succ | ((with_reducible apply end_ret)) | exact rvs_nil | ((with_reducible apply rvs_cons)) | ((with_reducible apply rv_tmp); exact rfl) | ((with_reducible apply al_id); first | (apply al_done; decide +kernel) | (apply al_one 4; decide +kernel) | (apply al_one 7; decide +kernel) | (apply al_one 8; decide +kernel) | (apply al_one 9; decide +kernel) | (apply al_one 10; decide +kernel) | (apply al_one 11; decide +kernel) | (apply al_one 12; decide +kernel) | (apply al_two 9 10; decide +kernel) | (apply al_two 10 11; decide +kernel)))
    all_goals exact ⟨_, ⟨none, fun _ => rfl, rfl, rfl⟩, HpSub.nil⟩
  · have ha0 := hrb a rfl
    simp only
    refine enterF (c := cx w 62) Tryz.func22 rfl rfl rfl rfl ?_
    repeat' (first | ((with_reducible apply oq_id); first | (focus ((with_reducible apply (oq_subE (k := (m : Int) - 1))); exact rfl; exact rfl; omega)) | (focus ((with_reducible apply oq_indexAddrN); exact rfl; exact rfl; exact rfl; exact rfl; omega)) | ((with_reducible apply oq_neqF); exact rfl; exact rfl; omega) | ((with_reducible apply oq_lssF); exact rfl; exact rfl; omega) | (apply oq_fn; exact rfl; first | exact trivial | (refine ⟨?_, ?_⟩ <;> omega) | (refine ⟨?_, ?_, ?_⟩ <;> omega) | omega | skip) | ((with_reducible apply oq_load); exact rfl; exact rfl) | ((with_reducible apply oq_loadAgg); exact rfl; exact rfl) | ((with_reducible apply oq_call (k := 70) (hc := Tryz.call70)); exact rfl; exact rfl; exact fun D w1 hw1 => HA w1 hw1.ext.ext) | ((with_reducible apply oq_call (k := 71) (hc := Tryz.call71)); exact rfl; exact rfl; (intro D w1 hw1; refine within6_t _ _ _ ?_ w1; omega))) | ((with_reducible apply tl_id); first | ((with_reducible apply tl_nil)) | ((with_reducible apply u_s); exact rfl; exact rfl; exact rfl; ((with_reducible apply (os_makeBz (n := m) (hk := app_ok22) (hz := zero4z))); exact rfl; exact rfl; omega; (unfold maxLen; omega); intro bG)) | ((with_reducible apply u_q); exact rfl; exact rfl; exact rfl; exact rfl) | ((with_reducible apply u_s0); exact rfl; exact rfl) | ((with_reducible apply u_s); exact rfl; exact rfl; exact rfl)) | ((with_reducible apply gx_id); first | ((with_reducible apply v_nil)) | ((with_reducible apply v_q); exact rfl; exact rfl; exact rfl)) | ((with_reducible apply os_id); first | ((with_reducible apply (os_storeB1z (k := j) hln)); exact rfl; exact rfl; exact rfl; (focus ((repeat (first | exact P0 | apply P1)); done))) | ((with_reducible apply os_x); exact rfl)) | ((with_reducible apply ox_id); first | ((with_reducible apply ox_boxAgg); exact rfl; intro _)) | ((with_reducible apply ai_id); first | ((with_reducible apply ai_n); exact rfl; exact rfl; exact rfl; exact rfl; (with_reducible apply os_callS (PV := CosV (L.map (fun z => (legC v q1 q2 q3 g0 g1 C z false, legC v q1 q2 q3 g0 g1 C z true)))) (k := 73) (hc := Tryz.call73)); exact rfl; exact rfl; exact fun D w1 hw1 => HK w1 hw1.ext.ext; rintro _ _ ⟨R, _ | ⟨bC, cC'⟩, hRk, hRo, rfl, rfl⟩ <;> simp only [coV, coH, List.cons_append, List.nil_append, List.append_nil]) | ((with_reducible apply ai_n); exact rfl; exact rfl; exact rfl; exact rfl; (with_reducible apply os_callF (PV := RouV _) (k := 72) (hc := Tryz.call72)); exact rfl; exact rfl; exact fun D w1 hw1 => HR bG (some ⟨bC, 0, none⟩) _ R.length (R.map coW) w1 hw1.ext.ext (cos_coR (hw1.sub (by (repeat (first | exact HpSub.refl _ | (apply HpSub.cons; (repeat (first | exact P0 | apply P1))) | apply HpSub.skipX | apply HpSub.skipX | exact HpSub.nil))))) (by have := congrArg List.length hRk; simp only [List.length_map] at this; omega) (by rw [List.map_map]; exact hRk) (bvz_rows (l := goalL m j) hgl hw1 (by (repeat (first | exact P0 | apply P1)))); rintro _ _ ⟨_ | ⟨bN, cN⟩, hN0, rfl, rfl⟩ <;> simp only [sN, hN, List.cons_append, List.nil_append]) | ((with_reducible apply ai_n); exact rfl; exact rfl; exact rfl; exact rfl; (with_reducible apply os_callF (PV := RouV _) (k := 72) (hc := Tryz.call72)); exact rfl; exact rfl; exact fun D w1 hw1 => HR0 bG w1 hw1.ext.ext (hRo rfl) (bvz_rows (l := goalL m j) hgl hw1 (by (repeat (first | exact P0 | apply P1)))); rintro _ _ ⟨_ | ⟨bN, cN⟩, hN0, rfl, rfl⟩ <;> simp only [sN, hN, List.cons_append, List.nil_append]) | ((with_reducible apply ai_q); exact rfl; exact rfl; exact rfl; exact rfl; exact rfl)) | ((with_reducible apply al_keep); focus (repeat (first | exact HpSub.refl _ | (apply HpSub.cons; (repeat (first | exact P0 | apply P1))) | apply HpSub.skipX | exact HpSub.nil))) | ((with_reducible apply rd_id); first | (apply Rd.own; (repeat (first | exact P0 | apply P1)); exact rfl; done)) | ((with_reducible apply t_id); first | (apply t_mix (id := 8) [0, 1, 2, 3, 5, 6] 7 #[false, false, false, false, false, false, false, false, false, false, false, false, false]; kernel_rfl; kernel_rfl; exact rfl) | ((with_reducible apply t_seq)) | (apply t_region; kernel_rfl) | ((with_reducible apply t_condF); exact rfl) | ((with_reducible apply t_ret)) | ((with_reducible apply t_skip))) | with_reducible apply q_thenN | exact Rdn.zero | apply Rdn.succ | ((with_reducible apply end_ret)) | exact rvs_nil | ((with_reducible apply rvs_cons)) | ((with_reducible apply rv_tmp); exact rfl) | ((with_reducible apply al_id); first | (apply al_done; decide +kernel) | (apply al_one 4; decide +kernel) | (apply al_one 7; decide +kernel) | (apply al_one 8; decide +kernel) | (apply al_one 9; decide +kernel) | (apply al_one 10; decide +kernel) | (apply al_one 11; decide +kernel) | (apply al_one 12; decide +kernel) | (apply al_two 9 10; decide +kernel) | (apply al_two 10 11; decide +kernel)))
    all_goals first | exact ⟨_, ⟨none, hN0, rfl, rfl⟩, HpSub.nil⟩ | exact ⟨_, ⟨some (bN, cN), fun h => (by cases h), rfl, rfl⟩, by simp only [plL, hN, List.cons_append, List.nil_append]; (repeat' (first | exact HpSub.refl _ | (apply HpSub.consE; (repeat (first | exact P0 | apply P1)); first | exact rfl | exact cN_snoc _ _ | (simp; done)) | apply HpSub.skipX | exact HpSub.nil))⟩
/-- The fuel, and is it open? -/
noncomputable def fuelV (v q1 q2 q3 : Int) (g0 g1 : Nat) (C : List Wn) (z : Lg) (bk : Bool) : Value := .tuple #[.int .i64 (if 0 ≤ legC v q1 q2 q3 g0 g1 C z bk then legC v q1 q2 q3 g0 g1 C z bk else 0), .bool (decide (0 ≤ legC v q1 q2 q3 g0 g1 C z bk))]
theorem fuel_calls (b bM : Nat) (AP AT : Option Addr) (m cM n cp : Nat) (v q1 q2 q3 q4 : Int) (g0 g1 : Nat) (E : List En) (C : List Wn) (L : List Lg) (j : Nat) (z : Lg) (bk : Bool) (w : World) (hd : DskR w b bM AP AT m cM n cp v q1 q2 q3 q4 g0 g1 E) (hE : E.map keyOf = deskE v q1 q2 q3 C L n) (hr : RdS w 5 AT n (L.map lgCells)) (hn : n ≤ 1000000) (hj : j < n) (hz : L[j]? = some z) (hL : LegOk m z) (hp : PaceOk v q1 q2 q3 q4 g0 g1) (hcw : ∀ x ∈ C, windB x.l = true) (hC : C.length ≤ 4) : Calls Tryz.prog 81 #[.pointer (some ⟨b, 0, none⟩), fk j bk] w fun e w' => e = .returned (fuelV v q1 q2 q3 g0 g1 C z bk) ∧ Ext w w' := by
  obtain ⟨_, _, _, kx, ky, kz, kh⟩ := hL
  obtain ⟨hR, hRl⟩ := legRz_ok (z := z) (bk := bk) hcw hp kh ⟨kx, ky, kz⟩
  have lb := lenV_bound kx ky
  have HL := fun w1 => length_calls z.a z.b z.x z.y z.h kx ky w1
  obtain ⟨_, _, _, _, _, kg⟩ := id hp
  obtain ⟨me, hme⟩ := Int.eq_ofNat_of_zero_le lb.1
  have hP : ∀ w1, Ext w w1 → _ := fun w1 (hx : Ext w w1) => part59_calls b bM AP AT m cM n cp v q1 q2 q3 q4 g0 g1 E C L j n z me bk w1 (hd.ext hx) hE hj hz hR (by omega) (by omega) (by omega)
  have HP := hP
  clear hP
  obtain ⟨bA, oA, z', rfl, _, hz', c0, c1, c2, c3, c4⟩ := lg_read hr hj
  rw [hz] at hz'
  obtain rfl := Option.some.inj hz'
  obtain ⟨d0, d1, d2, d3, d4, d5, c6, c7, c8, _, _, _, _, _⟩ := hd
  rw [hme] at HL
  unfold fuelV legC
  unfold partV at HP
  rw [hme, Int.toNat_natCast]
  generalize legRz v q1 q2 q3 z bk C = R at *
  unfold fk at *
  by_cases hR0 : R = []
  · simp only [if_pos hR0] at HP ⊢
    simp only [show ¬ (0 : Int) ≤ -1 by omega, if_false, decide_false]
    refine enterQ (c := cx w 29) Tryz.func81 rfl rfl rfl rfl ?_
    ((all_goals refine goS0 ?_); (all_goals constructor); (any_goals exact trivial); all_goals intros)
    all_goals rfl
  · simp only [if_neg hR0] at HP ⊢
    generalize hh : (aH (hullT me R).1 (hullT me R).2 g0 g1 8 : Nat) = t at *
    simp only [show (0 : Int) ≤ (t : Int) by omega, if_true, decide_true]
    refine enterQ (c := cx w 29) Tryz.func81 rfl rfl rfl rfl ?_
    ((all_goals refine goS0 ?_); (all_goals constructor); (any_goals exact trivial); all_goals intros)
    all_goals rfl
theorem plansD_calls (bd bM : Nat) (AP AT : Option Addr) (m cM n cp : Nat) (L : List Lg) (v q1 q2 q3 q4 : Int) (g0 g1 : Nat) (E : List En) (C : List Wn) (w : World) (hd : DskR w bd bM AP AT m cM n cp v q1 q2 q3 q4 g0 g1 E) (hE : E.map keyOf = deskE v q1 q2 q3 C L n) (hr : RdS w 5 AT n (L.map lgCells)) (hn : n ≤ 40) (hm : m ≤ 12) (hL : ∀ z ∈ L, LegOk m z) (hp : PaceOk v q1 q2 q3 q4 g0 g1) (hcw : ∀ x ∈ C, windB x.l = true) (hC : C.length ≤ 4) (to : Nat → Bool) (kf : Nat) (caps : List Value) (hcf : ∀ (a : Array Value) (w : World), (callFunc kf a).run Tryz.prog w = .ok (.enter kf a) w) (HT : ∀ (i : Nat) (w1 : World), i < m → Ext w w1 → Calls Tryz.prog kf ⟨.int .i64 (i : Nat) :: caps⟩ w1 fun e w' => e = .returned (.bool (to i)) ∧ Ext w1 w') : Calls Tryz.prog 68 #[.pointer (some ⟨bd, 0, none⟩), .func (.func kf) #[] ⟨caps⟩] w fun e w' => ∃ u H', e = .returned u ∧ PlansV (plansF (arcs (legC v q1 q2 q3 g0 g1 C) L) m to m) m u H' ∧ Has w ⟨[], []⟩ H' w' := by
  have hl : L.length = n := by simpa using hr.len
  exact plans_calls bd AP AT m cM n cp L w hd.c0 hd.c1 hr hn hm hL (legC v q1 q2 q3 g0 g1 C) (fun z hz bk => (legC_le hcw hp (hL z hz) bk).1) (fun j z bk w1 hz hx => fuel_calls bd bM AP AT m cM n cp v q1 q2 q3 q4 g0 g1 E C L j z bk w1 (hd.ext hx) hE (hr.ext hx) (by omega) (by have := (List.getElem?_eq_some_iff.1 hz).1; omega) hz (hL z (List.mem_of_getElem? hz)) hp hcw hC) to kf caps hcf HT
theorem alternates_calls (bd bM : Nat) (AP AT : Option Addr) (m cM n cp : Nat) (L : List Lg) (v q1 q2 q3 q4 : Int) (g0 g1 : Nat) (E : List En) (C : List Wn) (w : World) (hd : DskR w bd bM AP AT m cM n cp v q1 q2 q3 q4 g0 g1 E) (hE : E.map keyOf = deskE v q1 q2 q3 C L n) (hr : RdS w 5 AT n (L.map lgCells)) (hn : n ≤ 40) (hm : m ≤ 12) (hL : ∀ z ∈ L, LegOk m z) (hp : PaceOk v q1 q2 q3 q4 g0 g1) (hcw : ∀ x ∈ C, windB x.l = true) (hC : C.length ≤ 4) (T : List Bool) (hT : RdS w 1 AP m (T.map blCells)) : Calls Tryz.prog 74 #[.pointer (some ⟨bd, 0, none⟩)] w fun e w' => ∃ u H', e = .returned u ∧ PlansV (plansF (arcs (legC v q1 q2 q3 g0 g1 C) L) m (fun s => T.getD s false) m) m u H' ∧ Has w ⟨[], []⟩ H' w' := by
  have HP := fun (b : Nat) w1 (hx : Ext w w1) (hc : w1.cell? ⟨b, 0, none⟩ = some (.pointer (some ⟨bd, 0, none⟩))) => plansD_calls bd bM AP AT m cM n cp L v q1 q2 q3 q4 g0 g1 E C w1 (hd.ext hx) hE (hr.ext hx) hn hm hL hp hcw hC (fun s => T.getD s false) 114 [.pointer (some ⟨b, 0, none⟩)] Tryz.call114 (fun i w2 hi h2 => alt1_calls i b bd AP m cM T w2 hi (by omega) (h2.cell hc) ((hd.ext hx).ext h2).c0 ((hT.ext hx).ext h2))
  refine enterF (c := cx w 6) Tryz.func74 rfl rfl rfl rfl ?_
  repeat' (first | ((with_reducible apply oq_id); first | (apply oq_fn; exact rfl; first | exact trivial | (refine ⟨?_, ?_⟩ <;> omega) | (refine ⟨?_, ?_, ?_⟩ <;> omega) | omega | skip) | ((with_reducible apply oq_load); exact rfl; exact rfl)) | ((with_reducible apply tl_id); first | ((with_reducible apply tl_nil)) | ((with_reducible apply u_s); exact rfl; exact rfl; exact rfl; (with_reducible apply os_callF (PV := PlansV _ m) (k := 68) (hc := Tryz.call68)); exact rfl; exact rfl; exact fun D w1 hw1 => HP _ w1 hw1.ext.ext (hw1.cellAt (by (repeat (first | exact P0 | apply P1))) rfl); rintro _ _ ⟨l, P, g, c, hlp, hlP, rfl, rfl⟩; simp only [List.cons_append, List.nil_append]) | ((with_reducible apply u_q); exact rfl; exact rfl; exact rfl; exact rfl) | ((with_reducible apply u_s); exact rfl; exact rfl; exact rfl)) | ((with_reducible apply os_id); first | ((with_reducible apply os_x); exact rfl)) | ((with_reducible apply ox_id); first | ((with_reducible apply ox_box); exact rfl; exact rfl; intro _)) | ((with_reducible apply rd_id); first | (apply Rd.own; (repeat (first | exact P0 | apply P1)); exact rfl; done)) | ((with_reducible apply t_id); first | ((with_reducible apply t_seq)) | (apply t_region; kernel_rfl) | ((with_reducible apply t_ret))) | with_reducible apply q_thenN | ((with_reducible apply end_ret)) | exact rvs_nil | ((with_reducible apply rvs_cons)) | ((with_reducible apply rv_tmp); exact rfl))
  all_goals (refine ⟨_, ⟨l, P, g, c, hlp, hlP, rfl, rfl⟩, ?_⟩; (try simp only [List.append_nil]); first | exact HpSub.refl _ | exact HpSub.consE .head rfl HpSub.appLeft | exact HpSub.front HpSub.appLeft | (repeat' (first | done)))
end Go.Proofs.YtcjkndjjbjoehaaGreat
