/- A part of the proof: rules for walks, and contracts of functions (21). -/
import Derived.Test.YtcjkndjjbjoehaaGreatX5A
import Derived.Test.YtcjkndjjbjoehaaGreatX5T
import Derived.Test.YtcjkndjjbjoehaaGreatX5R
set_option linter.unusedVariables false
set_option linter.unusedSimpArgs false
set_option maxRecDepth 100000
set_option maxHeartbeats 2000000
namespace Go.Proofs.YtcjkndjjbjoehaaGreat
theorem gqU0 {G A1 A2 A3 A4 A5 A6 A7 A8 A9 A10 A11 A12 A13 A14 A15 A16 : Prop} (p : GoP A1 A2 A3 A4 A5 A6 A7 A8 A9 A10 A11 A12 A13 A14 A15 A16) (h : GoL A1 → GoL A2 → GoL A3 → GoL A4 → GoL A5 → GoL A6 → GoL A7 → GoL A8 → GoL A9 → GoL A10 → GoL A11 → GoL A12 → GoL A13 → GoL A14 → GoL A15 → GoL A16 → GoM → G := by intro m1 m2 m3 m4 m5 m6 m7 m8 m9 m10 m11 m12 m13 m14 m15 m16 _; (repeat' (first | ((with_reducible apply oq_id); first | ((with_reducible apply oc_id); first | ((with_reducible apply oq_call (hc := Tryz.call60)); exact rfl; exact rfl; exact fun D w1 hw1 => HN w1 hw1.ext.ext) | ((with_reducible apply oq_call (hc := Tryz.call71)); exact rfl; exact rfl; (intro D w1 hw1; refine within6_f _ _ _ ?_ w1; omega)) | ((with_reducible apply oq_call (hc := Tryz.call77)); exact rfl; exact rfl; exact fun D w1 hw1 => HO7 w1 ((HCO D w1 _ hw1 (by simp only [coH,List.cons_append]; repeat (first | exact HpSub.refl _ | exact HpSub.appLeft | exact HpSub.front HpSub.appLeft | apply HpSub.skipX))).each _ hcm)) | ((with_reducible apply oq_call (hc := Tryz.call57)); exact rfl; exact rfl; exact fun D w1 hw1 => HN w1 hw1.ext.ext) | ((with_reducible apply oq_call (hc := Tryz.call78)); exact rfl; exact rfl; exact fun D w1 hw1 => clone78_nil w1) | ((with_reducible apply oq_call (hc := Tryz.call28)); exact rfl; exact rfl; exact fun D w1 hw1 => HN w1 hw1.ext.ext) | ((with_reducible apply oq_call (hc := Tryz.call28)); exact rfl; exact rfl; exact fun D w1 hw1 => HC w1 hw1.ext.ext)) | ((with_reducible apply ob_id); first | ((with_reducible apply oq_neqT); exact rfl; exact rfl; omega) | ((with_reducible apply oq_neqF); exact rfl; exact rfl; omega) | (focus ((with_reducible apply (oq_addE (m := a.1) (n := q4) (k := a.1 + q4))); exact rfl; exact rfl; omega)) | (focus ((with_reducible apply (oq_addE (m := so) (n := a.1) (k := so + a.1))); exact rfl; exact rfl; omega)) | (focus ((with_reducible apply (oq_addE (m := (so + a.1)) (n := q4) (k := (so + a.1) + q4))); exact rfl; exact rfl; omega)) | ((with_reducible apply oq_lssT); exact rfl; exact rfl; omega) | ((with_reducible apply oq_lssF); exact rfl; exact rfl; omega) | ((with_reducible apply oq_gtrT); exact rfl; exact rfl; omega) | ((with_reducible apply oq_gtrF); exact rfl; exact rfl; omega)) | (focus ((with_reducible apply (oq_max2E (m := lt) (n := so + a.1 + q4) (k := max lt (so + a.1 + q4)))); exact rfl; exact rfl; rfl)) | (focus ((with_reducible apply oq_indexAddrN (i := i)); (iterate 4 exact rfl); omega)) | (focus ((with_reducible apply oq_indexAddrN (i := t)); (iterate 4 exact rfl); omega)) | (apply oq_fn; exact rfl; first | exact trivial | (constructor <;> omega) | omega | skip) | ((with_reducible apply oq_load); exact rfl; exact rfl) | ((with_reducible apply oq_loadAgg); exact rfl; exact rfl)) | ((with_reducible apply tl_id); first | (with_reducible apply tl_nil) | ((with_reducible apply u_s); (iterate 3 exact rfl); (with_reducible apply os_callS (PV := LedV 0 p) (hc := Tryz.call60)); exact rfl; exact rfl; exact fun D w1 hw1 => HO w1 hw1.ext.ext; rintro _ _ ⟨bS,cS,rfl,rfl⟩; simp only [List.cons_append,List.nil_append]) | ((with_reducible apply u_q); (iterate 4 exact rfl)) | ((with_reducible apply u_skip); (iterate 3 exact rfl)) | ((with_reducible apply u_s0); exact rfl; exact rfl) | ((with_reducible apply u_s); (iterate 3 exact rfl))) | ((with_reducible apply os_id); first | ((with_reducible apply os_x); exact rfl) | ((with_reducible apply os_storeAgg); (iterate 5 exact rfl)) | ((with_reducible apply os_appendNil (hk := app_ok57)); exact rfl; exact rfl) | ((with_reducible apply os_append (hk := app_ok57)); exact rfl; exact rfl; (repeat first | exact P0 | apply P1)) | ((with_reducible apply os_store); (iterate 4 exact rfl))) | ((with_reducible apply ox_id); first | ((with_reducible apply ox_boxAgg); exact rfl; intro _) | ((with_reducible apply ox_alloc); exact rfl; intro _) | ((with_reducible apply ox_buildSlice1); (iterate 6 exact rfl); intro _)) | ((with_reducible apply gx_id); first | (with_reducible apply v_nil) | ((with_reducible apply v_q); (iterate 3 exact rfl))) | ((with_reducible apply ai_id); first | ((with_reducible apply ai_n); (iterate 4 exact rfl); (with_reducible apply os_callS (PV := RouV none) (hc := Tryz.call72)); exact rfl; exact rfl; exact fun D w1 hw1 => HR AK cK R w1 hw1.ext.ext (HCO D w1 _ hw1 (by repeat (first | exact HpSub.refl _ | exact HpSub.appLeft | apply HpSub.skipX))) hRk; rintro _ _ ⟨oN,hN0,rfl,rfl⟩; simp only [List.cons_append,List.nil_append]) | ((with_reducible apply ai_n); (iterate 4 exact rfl); (with_reducible apply os_callS (PV := RouV (some a)) (hc := Tryz.call72)); exact rfl; exact rfl; exact fun D w1 hw1 => HR AK cK R w1 hw1.ext.ext (HCO D w1 _ hw1 (by repeat (first | exact HpSub.refl _ | exact HpSub.appLeft | apply HpSub.skipX))) hRk; rintro _ _ ⟨oN,hN0,rfl,rfl⟩; simp only [List.cons_append,List.nil_append]) | ((with_reducible apply ai_n); (iterate 4 exact rfl); (with_reducible apply os_callS (PV := RouV (some a)) (hc := Tryz.call72)); exact rfl; exact rfl; exact fun D w1 hw1 => HR _ cK R w1 hw1.ext.ext (HCO D w1 _ hw1 (by repeat (first | exact HpSub.refl _ | exact HpSub.appLeft | apply HpSub.skipX))) hRk; rintro _ _ ⟨oN,hN0,rfl,rfl⟩; simp only [List.cons_append,List.nil_append]) | ((with_reducible apply ai_n); (iterate 4 exact rfl); (with_reducible apply os_callS (PV := RouV none) (hc := Tryz.call72)); exact rfl; exact rfl; exact fun D w1 hw1 => HR _ _ R w1 hw1.ext.ext (HCO D w1 _ hw1 (by repeat (first | exact HpSub.refl _ | exact HpSub.appLeft | apply HpSub.skipX))) hRk; rintro _ _ ⟨oN,hN0,rfl,rfl⟩; simp only [List.cons_append,List.nil_append]) | ((with_reducible apply ai_n); (iterate 4 exact rfl); (with_reducible apply os_callS (PV := RouV (some a)) (hc := Tryz.call72)); exact rfl; exact rfl; exact fun D w1 hw1 => HR _ _ R w1 hw1.ext.ext (HCO D w1 _ hw1 (by repeat (first | exact HpSub.refl _ | exact HpSub.appLeft | apply HpSub.skipX))) hRk; rintro _ _ ⟨oN,hN0,rfl,rfl⟩; simp only [List.cons_append,List.nil_append]) | ((with_reducible apply ai_q); (iterate 5 exact rfl))) | ((with_reducible apply al_keep); focus (repeat (first | exact HpSub.refl _ | (apply HpSub.cons; (repeat first | exact P0 | apply P1)) | apply HpSub.skipX | exact HpSub.nil))) | ((with_reducible apply rd_id); first | (apply rd_st hsi; (repeat first | exact P0 | apply P1); done) | (apply rd_co hct; (repeat first | exact P0 | apply P1); done) | (apply rd_pn0 hx; (repeat first | exact P0 | apply P1); done) | (apply rd_pn1 hx; (repeat first | exact P0 | apply P1); done) | (apply rd_pn2 hx; (repeat first | exact P0 | apply P1); done) | (apply Rd.own; (repeat first | exact P0 | apply P1); exact rfl; done) | (apply Rd.old; (first | (with_reducible assumption) | exact c0 | exact c1 | exact c2 | exact c3 | exact c4 | exact c5 | exact c6 | exact c7 | exact c8 | exact d0 | exact d1 | exact d2 | exact d3 | exact d4 | exact d5); first | exact List.not_mem_nil | exact m0 | exact m1 | exact m2 | exact m3 | exact m4 | exact m5 | exact m6 | exact m7 | exact m8 | exact m9)) | ((with_reducible apply t_id); first | (apply t_mix (id := 10) [0,1,2,3,4,5,6,7] 6 #[false,false,false,false,false,false,false,false,false,false,false,false,false,false]; kernel_rfl; kernel_rfl; exact rfl) | (apply t_mix (id := 9) [0,1,2,3,4,5,6,7] 6 #[false,false,false,false,false,false,false,false,false,false,false,false,false,false]; kernel_rfl; kernel_rfl; exact rfl) | (with_reducible apply t_seq) | (apply t_region; kernel_rfl) | (apply t_drawn; kernel_rfl; decide +kernel; try simp only [List.append_eq,List.cons_append,List.nil_append]) | ((with_reducible apply t_condT); exact rfl) | ((with_reducible apply t_condF); exact rfl) | (with_reducible apply t_ret) | (with_reducible apply t_skip) | (with_reducible apply t_exit) | (with_reducible apply t_block)) | with_reducible apply q_thenN | with_reducible apply q_thenR | with_reducible apply q_thenE | ((with_reducible apply q_blockE); exact rfl) | with_reducible apply q_blockR | with_reducible apply q_blockN | exact P0 | exact Rdn.zero | apply Rdn.succ | (with_reducible apply P1) | ((with_reducible apply Norm.nil); exact rfl) | ((with_reducible apply Norm.cons); exact rfl) | (with_reducible apply end_ret) | exact rvs_nil | (with_reducible apply rvs_cons) | ((with_reducible apply rv_tmp); exact rfl) | ((with_reducible apply al_id); first | (apply al_done; decide +kernel) | (apply al_one 8; decide +kernel) | (apply al_one 9; decide +kernel) | (apply al_one 10; decide +kernel) | (apply al_one 11; decide +kernel) | (apply al_one 12; decide +kernel) | (apply al_one 13; decide +kernel) | (apply al_two 10 11; decide +kernel) | (apply al_two 11 12; decide +kernel)) | exact HpSub.appLeft | exact lzM_len _ | ((with_reducible apply rv_cell); exact rfl; exact rfl) | exact Nat.le_of_ble_eq_true rfl | exact (rfl : (_ : Bool) = true) | omega | (intro _ _; with_reducible apply tl_id))); (try focus (repeat (rename_i x; first | exact goD x m1.p | revert x))); (try focus (repeat (rename_i x; first | exact goD x m2.p | revert x))); (try focus (repeat (rename_i x; first | exact goD x m3.p | revert x))); (try focus (repeat (rename_i x; first | exact goD x m4.p | revert x))); (try focus (repeat (rename_i x; first | exact goD x m5.p | revert x))); (try focus (repeat (rename_i x; first | exact goD x m6.p | revert x))); (try focus (repeat (rename_i x; first | exact goD x m7.p | revert x))); (try focus (repeat (rename_i x; first | exact goD x m8.p | revert x))); (try focus (repeat (rename_i x; first | exact goD x m9.p | revert x))); (try focus (repeat (rename_i x; first | exact goD x m10.p | revert x))); (try focus (repeat (rename_i x; first | exact goD x m11.p | revert x))); (try focus (repeat (rename_i x; first | exact goD x m12.p | revert x))); (try focus (repeat (rename_i x; first | exact goD x m13.p | revert x))); (try focus (repeat (rename_i x; first | exact goD x m14.p | revert x))); (try focus (repeat (rename_i x; first | exact goD x m15.p | revert x))); (try focus (repeat (rename_i x; first | exact goD x m16.p | revert x)))) (e : GoTs A1 A2 A3 A4 A5 A6 A7 A8 A9 A10 A11 A12 A13 A14 A15 A16 := by constructor <;> first | (with_reducible exact GoT.t) | exact GoT.u) : G := p.run h
open Go.RowKit
attribute [local irreducible] OQ OS OX Rd T TL GX GL AL AI RV wpG SAny Calls
theorem coV_form {R : List Co} {o : Option (Nat × Nat)} (h : o = none → R = []) : ∃ AK cK,coV R o = .slice AK R.length cK ∧ (∀ (w0 : World) (M : Ms) (w : World),Has w0 M (coH R o) w → CoR w AK R.length (R.map coW)) ∧ (0 < R.length → ∃ b,AK = some ⟨b,0,none⟩ ∧ o = some (b,cK)) := by
 rcases o with _ | ⟨b,c⟩
 · rw [h rfl]
   exact ⟨none,0,rfl,fun w0 M w _ => ⟨RdS.nil _ _ _,fun r hr => (by cases hr)⟩,fun h => absurd h (Nat.lt_irrefl _)⟩
 · exact ⟨some ⟨b,0,none⟩,c,rfl,fun w0 M w hw => cos_coR hw,fun _ => ⟨b,rfl,rfl⟩⟩
theorem rd_co {c : Cx} {H H' : Hp} {g k : Nat} {R : List Co} {x : Co} {tg : Tg} (h : R[k]? = some x) (p : Pick H g (R.map coS) tg H') : Rd c H ⟨g,0 + k * 1,none⟩ (coS x) :=
 Rd.own p (by rw [Nat.zero_add,Nat.mul_one,List.getElem?_map,h]; rfl)
theorem refCheck_err (AM A : Option Addr) (m cM n cp : Nat) (L : List Lg) (w : World) (hr : RdS w 5 A n (L.map lgCells)) (hn : n ≤ 1000000) (hm : m ≤ 1000000) (v q1 q2 q3 q4 g0 g1 : Int) (AC : Option Addr) (nC cC : Nat) (C : List Wn) (hrc : CastR w AC nC C) (hs : ∀ z ∈ C,z.n ≤ 1000000) (s : Int) (AR : Option Addr) (nR cR : Nat) (rs : List Int) (hR : RdS w 1 AR nR (rs.map inCells)) (hnR : nR ≤ 1000000) (he : ledE m L v q1 q2 q3 q4 g0 g1 C s rs ≠ 0) (fu : Int) : Calls Tryz.prog 28 #[.agg #[.slice AM m cM,.slice A n cp],.agg #[.int .i64 v,.int .i64 q1,.int .i64 q2,.int .i64 q3,.int .i64 q4,.int .i64 g0,.int .i64 g1],.slice AC nC cC,.int .i64 s,.slice AR nR cR,.int .i64 fu] w fun e w' => e = .returned (.tuple #[.int .i64 0,.int .i64 (ledE m L v q1 q2 q3 q4 g0 g1 C s rs)]) ∧ Ext w w' := by
 have HN := fun w1 (hx : Ext w w1) => led60_err AM A m cM n cp L w1 (hr.ext hx) hn hm v q1 q2 q3 q4 g0 g1 AC nC cC C (hrc.ext hx) hs s AR nR cR rs (hR.ext hx) hnR he
 generalize ledE m L v q1 q2 q3 q4 g0 g1 C s rs = e0 at *
 refine enterQ (c := cx w 105) Tryz.func28 rfl rfl rfl rfl ?_
 ((all_goals refine gqU0 ?_); (all_goals constructor); (any_goals exact trivial); all_goals intros)
 all_goals rfl
theorem refCheck_ok (AM A : Option Addr) (m cM n cp : Nat) (L : List Lg) (w : World) (hr : RdS w 5 A n (L.map lgCells)) (hn : n ≤ 1000000) (hm : m ≤ 1000000) (v q1 q2 q3 q4 : Int) (g0 g1 : Nat) (AC : Option Addr) (nC cC : Nat) (C : List Wn) (hrc : CastR w AC nC C) (hs : ∀ z ∈ C,z.n ≤ 1000000) (s : Int) (AR : Option Addr) (nR cR : Nat) (rs : List Int) (hR : RdS w 1 AR nR (rs.map inCells)) (hnR : nR ≤ 1000000) (hE : askE m L v q1 q2 q3 q4 (g0 : Nat) (g1 : Nat) C = 0) (h20 : rs.length ≤ 20) (p : Trp) (htr : tripI m L s rs = some p) (T : List Bool) (hT : RdS w 1 AM m (T.map blCells)) (fu : Int) : Calls Tryz.prog 28 #[.agg #[.slice AM m cM,.slice A n cp],.agg #[.int .i64 v,.int .i64 q1,.int .i64 q2,.int .i64 q3,.int .i64 q4,.int .i64 (g0 : Nat),.int .i64 (g1 : Nat)],.slice AC nC cC,.int .i64 s,.slice AR nR cR,.int .i64 fu] w fun e w' => e = .returned (.tuple #[.int .i64 (chkE m L T v q1 q2 q3 q4 g0 g1 C p fu).1,.int .i64 (chkE m L T v q1 q2 q3 q4 g0 g1 C p fu).2]) ∧ Ext w w' := by
 have HO := fun w1 (hx : Ext w w1) => led60_ok AM A m cM n cp L w1 (hr.ext hx) hn hm v q1 q2 q3 q4 g0 g1 AC nC cC C (hrc.ext hx) hs s AR nR cR rs (hR.ext hx) hnR hE h20 p htr
 obtain ⟨hch,hpk,hk0⟩ := askE_ok hE
 obtain ⟨hcl,hcw⟩ := castE_zero.1 hk0
 have hlc := hrc.len
 obtain ⟨hm1,hL40,hLk⟩ := chartB_iff.1 hch
 have hl : L.length = n := by simpa using hr.len
 have hlr : rs.length = nR := by simpa using hR.len
 obtain ⟨hg1,hg2,hg3,hg4⟩ := trip_in hLk htr
 obtain ⟨_,_,_,_,p5,_⟩ := id hpk
 have HK := fun w1 (hx : Ext w w1) => costs_calls AM A m cM n cp L w1 (hr.ext hx) (by omega) v q1 q2 q3 q4 g0 g1 AC nC cC C (hrc.ext hx) hs hcw (by omega) hpk hLk
 have hbd := fun s a (h : (plansF (arcs (legC v q1 q2 q3 g0 g1 C) L) m (fun s => T.getD s false) m).getD s none = some a) => need_bound hpk hcw hLk (by omega) h
 have HR := fun (s : Nat) (hsm : s < m) (AK : Option Addr) (cK : Nat) (R : List Co) w1 (hx : Ext w w1) (hk : CoR w1 AK R.length (R.map coW)) (hRk : R.map Prod.snd = L.map (fun z => (legC v q1 q2 q3 g0 g1 C z false,legC v q1 q2 q3 g0 g1 C z true))) => (by
   have hRn : R.length = n := by have := congrArg List.length hRk; simp only [List.length_map] at this; omega
   have hr' := hr.ext hx
   rw [hRn] at hk ⊢
   have h := routed_calls AM A m cM n cp L w1 hr' (by omega) (by omega) (by omega) AK cK (R.map coW) hk AM cM T (hT.ext hx) hLk (legC v q1 q2 q3 g0 g1 C) (by rw [List.map_map]; exact hRk) (fun z hz bk => (legC_le hcw hpk (hLk z hz) bk).1) (fun z hz bk => (legC_le hcw hpk (hLk z hz) bk).2) s (by omega)
   have e : (fun s => (plansF (arcs (legC v q1 q2 q3 g0 g1 C) L) m (fun s => T.getD s false) m).getD s none) s = routedF (arcs (legC v q1 q2 q3 g0 g1 C) L) (fun k s => (leadF (arcs (legC v q1 q2 q3 g0 g1 C) L) m (fun j => T.getD j false) k).getD s (-1)) m s := best_same (arcs_net hLk) (arcs_sorted _ _) hsm
   rw [← e] at h
   exact h : Calls Tryz.prog 72 #[.agg #[.slice AM m cM,.slice A n cp],.slice AK R.length cK,.int .i64 (s : Nat),.slice AM m cM] w1 fun e w' => ∃ u H',e = .returned u ∧ RouV ((fun s => (plansF (arcs (legC v q1 q2 q3 g0 g1 C) L) m (fun s => T.getD s false) m).getD s none) s) u H' ∧ Has w1 ⟨[],[]⟩ H' w')
 unfold chkE
 by_cases hfu : 0 ≤ fu ∧ fu ≤ 1099511627776
 rotate_left
 · simp only [if_neg hfu]
   refine enterQ (c := cx w 105) Tryz.func28 rfl rfl rfl rfl ?_
   ((all_goals refine gqU0 ?_); (all_goals constructor); (any_goals exact trivial); all_goals intros)
   all_goals rfl
 simp only [if_pos hfu]
 obtain ⟨ce,hce⟩ : ∃ ce,chkF (fun s => (plansF (arcs (legC v q1 q2 q3 g0 g1 C) L) m (fun s => T.getD s false) m).getD s none) (flC v q1 q2 q3 g0 g1 C L) q4 0 p.2 p.1 fu = ce := ⟨_,rfl⟩
 rw [hce]
 refine enterQ (c := cx w 105) Tryz.func28 rfl rfl rfl rfl ?_
 repeat' (first | ((with_reducible apply oq_id); first | ((with_reducible apply oq_neqF); exact rfl; exact rfl; omega) | (apply oq_fn; exact rfl; first | exact trivial | (constructor <;> omega) | omega | skip) | ((with_reducible apply oq_loadAgg); exact rfl; exact rfl) | ((with_reducible apply oq_call (hc := Tryz.call71)); exact rfl; exact rfl; (intro D w1 hw1; refine within6_t _ _ _ ?_ w1; omega))) | ((with_reducible apply tl_id); first | (with_reducible apply tl_nil) | ((with_reducible apply u_s); (iterate 3 exact rfl); (with_reducible apply os_callS (PV := LedV 0 p) (hc := Tryz.call60)); exact rfl; exact rfl; exact fun D w1 hw1 => HO w1 hw1.ext.ext; rintro _ _ ⟨bS,cS,rfl,rfl⟩; simp only [List.cons_append,List.nil_append]) | ((with_reducible apply u_s); (iterate 3 exact rfl); (with_reducible apply os_callS (PV := CosV (L.map (fun z => (legC v q1 q2 q3 g0 g1 C z false,legC v q1 q2 q3 g0 g1 C z true)))) (hc := Tryz.call73)); exact rfl; exact rfl; exact fun D w1 hw1 => HK w1 hw1.ext.ext; rintro _ _ ⟨R,o,hRk,hRo,rfl,rfl⟩; obtain ⟨AK,cK,hAK,hCo,hAK2⟩ := coV_form (R := R) (o := o) (fun h => List.map_eq_nil_iff.1 (hRk.trans (hRo h))); rw [hAK]; simp only [List.cons_append,List.nil_append]) | ((with_reducible apply u_q); (iterate 4 exact rfl)) | ((with_reducible apply u_s); (iterate 3 exact rfl))) | ((with_reducible apply os_id); first | ((with_reducible apply os_x); exact rfl)) | ((with_reducible apply ox_id); first | ((with_reducible apply ox_boxAgg); exact rfl; intro _)) | ((with_reducible apply rd_id); first | (apply Rd.own; (repeat first | exact P0 | apply P1); exact rfl; done)) | ((with_reducible apply t_id); first | (with_reducible apply t_seq) | (apply t_region; kernel_rfl) | ((with_reducible apply t_condF); exact rfl) | (with_reducible apply t_skip) | (with_reducible apply t_block)) | with_reducible apply q_thenN | exact Rdn.zero | apply Rdn.succ)
 rename_i b6 b7
 have hRn : R.length = n := by have := congrArg List.length hRk; simp only [List.length_map] at this; omega
 have HCO := fun D w1 H1 (h1 : Has w ⟨[],D⟩ H1 w1) (hs : HpSub H1 (coH R o)) => hCo _ _ w1 (h1.sub hs)
 apply t_loopP (ι := Nat × Int) [4,6,7,14,16] (fun z => [(17,.int .i64 ((z.1 : Nat) : Int)),(5,.int .i64 z.2)]) (fun _ => (b6,[.slice AM m cM,.slice A n cp],some (25,2,1)) :: (b7,[.int .i64 v,.int .i64 q1,.int .i64 q2,.int .i64 q3,.int .i64 q4,.int .i64 (g0 : Nat),.int .i64 (g1 : Nat)],some (29,7,1)) :: (bS,(cI p.2).map iv,some (3,1,cS)) :: coH R o) (fun z => z.1 ≤ p.2.length ∧ (z.1 < p.2.length → chkF (fun s => (plansF (arcs (legC v q1 q2 q3 g0 g1 C) L) m (fun s => T.getD s false) m).getD s none) (flC v q1 q2 q3 g0 g1 C L) q4 z.1 (p.2.drop z.1) (p.1.drop z.1) z.2 = ce) ∧ (z.1 = p.2.length → ce = ((rs.length : Int),0)) ∧ -166666666667 ≤ z.2 ∧ z.2 ≤ 1099511627776) (fun z => p.2.length - z.1) (0,fu)
 (repeat (first | exact KeepF.nil | (apply KeepF.cons; exact rfl) | apply KeepF.skip))
 (repeat (first | exact FrSub.nil | (apply FrSub.cons; exact rfl)))
 (try simp only [List.cons_append,List.nil_append])
 (repeat' (first | exact HpSub.refl _ | (apply HpSub.consE; (repeat first | exact P0 | apply P1); first | exact rfl | skip)))
 · exact ⟨Nat.zero_le _,fun _ => hce,fun h => (by simp only at h; omega),by simp only; omega,by simp only; omega⟩
 rintro ⟨i,fu⟩ ⟨hi,hck,hend,hf0,hf1⟩
 simp only at hi hck hend hf0 hf1
 try simp only [List.cons_append,List.nil_append]
 by_cases hlt : i < p.2.length
 rotate_left
 · rw [hend (by omega)]
   ((all_goals refine gqU0 ?_); (all_goals constructor); (any_goals exact trivial); all_goals intros)
   all_goals (first | rfl | (simp only [hlr]; rfl))
 have hck := hck hlt
 clear hend
 obtain ⟨s,hsi⟩ : ∃ s,p.2[i]? = some s := ⟨_,List.getElem?_eq_getElem hlt⟩
 have hsm := hg3 s (List.mem_of_getElem? hsi)
 rw [List.drop_eq_getElem_cons hlt,(List.getElem?_eq_some_iff.1 hsi).2] at hck
 simp only [chkF] at hck
 obtain ⟨rp,hrp⟩ : ∃ rp,(fun s => (plansF (arcs (legC v q1 q2 q3 g0 g1 C) L) m (fun s => T.getD s false) m).getD s none) s = rp := ⟨_,rfl⟩
 have hbd := fun a (h : rp = some a) => hbd s a (hrp.trans h)
 have HR := HR s hsm
 dsimp only at HR hrp
 rw [hrp] at hck HR
 rcases rp with _ | a
 · simp only at hck
   subst hck
   ((all_goals refine gqU0 ?_); (all_goals constructor); (any_goals exact trivial); all_goals intros)
   all_goals rfl
 obtain ⟨ha0,ha1,_⟩ := hbd a rfl
 simp only at hck
 by_cases hlow : fu < a.1 + q4
 · rw [if_pos hlow] at hck
   subst hck
   ((all_goals refine gqU0 ?_); (all_goals constructor); (any_goals exact trivial); all_goals intros)
   all_goals rfl
 rw [if_neg hlow] at hck
 by_cases hig : i = p.1.length
 · rw [List.drop_of_length_le (by omega)] at hck
   simp only at hck
   repeat' (first | ((with_reducible apply oq_id); first | (focus ((with_reducible apply (oq_addE (m := a.1) (n := q4) (k := a.1 + q4))); exact rfl; exact rfl; omega)) | (focus ((with_reducible apply oq_indexAddrN (i := i)); (iterate 4 exact rfl); omega)) | ((with_reducible apply oq_lssT); exact rfl; exact rfl; omega) | ((with_reducible apply oq_lssF); exact rfl; exact rfl; omega) | (apply oq_fn; exact rfl; first | exact trivial | (constructor <;> omega) | omega | skip) | ((with_reducible apply oq_load); exact rfl; exact rfl) | ((with_reducible apply oq_loadAgg); exact rfl; exact rfl)) | ((with_reducible apply tl_id); first | (with_reducible apply tl_nil) | ((with_reducible apply u_q); (iterate 4 exact rfl))) | ((with_reducible apply gx_id); first | (with_reducible apply v_nil) | ((with_reducible apply v_q); (iterate 3 exact rfl))) | ((with_reducible apply ai_id); first | ((with_reducible apply ai_n); (iterate 4 exact rfl); (with_reducible apply os_callS (PV := RouV (some a)) (hc := Tryz.call72)); exact rfl; exact rfl; exact fun D w1 hw1 => HR AK cK R w1 hw1.ext.ext (HCO D w1 _ hw1 (by repeat (first | exact HpSub.refl _ | exact HpSub.appLeft | apply HpSub.skipX))) hRk; rintro _ _ ⟨oN,hN0,rfl,rfl⟩; simp only [List.cons_append,List.nil_append]) | ((with_reducible apply ai_q); (iterate 5 exact rfl))) | ((with_reducible apply al_keep); focus (repeat (first | exact HpSub.refl _ | (apply HpSub.cons; (repeat first | exact P0 | apply P1)) | apply HpSub.skipX | exact HpSub.nil))) | ((with_reducible apply rd_id); first | (apply rd_st hsi; (repeat first | exact P0 | apply P1); done) | (apply Rd.own; (repeat first | exact P0 | apply P1); exact rfl; done)) | ((with_reducible apply t_id); first | (apply t_mix (id := 10) [0,1,2,3,4,5,6,7] 6 #[false,false,false,false,false,false,false,false,false,false,false,false,false,false]; kernel_rfl; kernel_rfl; exact rfl) | (with_reducible apply t_seq) | (apply t_region; kernel_rfl) | ((with_reducible apply t_condT); exact rfl) | ((with_reducible apply t_condF); exact rfl) | (with_reducible apply t_skip) | (with_reducible apply t_block)) | with_reducible apply q_thenN | with_reducible apply q_blockN | exact Rdn.zero | apply Rdn.succ | ((with_reducible apply al_id); first | (apply al_done; decide +kernel) | (apply al_one 8; decide +kernel) | (apply al_one 9; decide +kernel) | (apply al_one 10; decide +kernel) | (apply al_one 11; decide +kernel) | (apply al_one 12; decide +kernel) | (apply al_one 13; decide +kernel) | (apply al_two 10 11; decide +kernel) | (apply al_two 11 12; decide +kernel)) | exact HpSub.appLeft)
   all_goals (refine ⟨(i + 1,fu),⟨by simp only; omega,fun h => (by simp only at h; omega),fun _ => (by rw [← hck,hig,hg1]),by simp only; omega,by simp only; omega⟩,by simp only; omega,?_,?_⟩ <;> (repeat' (first | exact FrSub.nil | (apply FrSub.cons; exact rfl) | exact HpSub.appLeft | (apply HpSub.consE; (repeat first | exact P0 | apply P1); first | exact rfl | skip))))
 have hilt : i < p.1.length := by omega
 obtain ⟨bR,oR,r,rfl,_,hri,e0⟩ := in_read hR (show i < nR by omega)
 obtain ⟨z,t,bk,x',y',l1,rfl,hz,l4,_,lcase⟩ := hg4 i r hri
 rw [hsi] at l4
 obtain rfl := Option.some.inj l4
 have htn : t < n := by have := (List.getElem?_eq_some_iff.1 hz).1; omega
 obtain ⟨bA,oA,z',rfl,_,hz',c0,c1,c2,c3,c4⟩ := lg_read hr htn
 rw [hz] at hz'
 obtain rfl := Option.some.inj hz'
 obtain ⟨bC,rfl,rfl⟩ := hAK2 (by omega)
 obtain ⟨xc,hct⟩ : ∃ xc,R[t]? = some xc := ⟨_,List.getElem?_eq_getElem (by omega)⟩
 have hcm : coW xc ∈ R.map coW := List.mem_map.2 ⟨xc,List.mem_of_getElem? hct,rfl⟩
 have hcx : xc.2 = (legC v q1 q2 q3 g0 g1 C z false,legC v q1 q2 q3 g0 g1 C z true) := by
   have h := congrArg (fun l => l[t]?) hRk
   simp only [List.getElem?_map,hct,hz,Option.map_some,Option.some.injEq] at h
   exact h
 obtain ⟨st,hcost⟩ : ∃ st : Int,(if z.a = (s : Int) then z.b else if z.b = (s : Int) then z.a else 0) = st ∧ (if z.a = (s : Int) then xc.2.1 else if z.b = (s : Int) then xc.2.2 else -1) = (flC v q1 q2 q3 g0 g1 C L) (t,bk) := by
   refine ⟨_,rfl,?_⟩
   unfold flC
   rw [hz,hcx]
   rcases lcase with ⟨rfl,h1,h2⟩ | ⟨rfl,h1,h2,h3⟩
   · rw [if_pos h1]
   · rw [if_neg h1,if_pos h2]
 have HO7 := fun w1 h => other_calls z (coW xc).A (coW xc).c (coW xc).x (coW xc).y (s : Int) w1 h
 rw [show (coW xc).x = xc.2.1 from rfl,show (coW xc).y = xc.2.2 from rfl,hcost.1,hcost.2] at HO7
 rw [List.drop_eq_getElem_cons hilt,(List.getElem?_eq_some_iff.1 l1).2] at hck
 simp only at hck
 have hcb : (flC v q1 q2 q3 g0 g1 C L) (t,bk) ≤ 166666666667 := by unfold flC; rw [hz]; exact (legC_le hcw hpk (hLk z (List.mem_of_getElem? hz)) bk).1
 generalize (flC v q1 q2 q3 g0 g1 C L) (t,bk) = cc at *
 simp only [coH,List.cons_append]
 by_cases hop : cc < 0
 · rw [if_pos hop] at hck
   subst hck
   ((all_goals refine gqU0 ?_); (all_goals constructor); (any_goals exact trivial); all_goals intros)
   all_goals rfl
 rw [if_neg hop] at hck
 repeat' (first | ((with_reducible apply oq_id); first | (focus ((with_reducible apply (oq_addE (m := a.1) (n := q4) (k := a.1 + q4))); exact rfl; exact rfl; omega)) | (focus ((with_reducible apply oq_indexAddrN (i := i)); (iterate 4 exact rfl); omega)) | (focus ((with_reducible apply oq_indexAddrN (i := t)); (iterate 4 exact rfl); omega)) | ((with_reducible apply oq_lssT); exact rfl; exact rfl; omega) | ((with_reducible apply oq_lssF); exact rfl; exact rfl; omega) | (apply oq_fn; exact rfl; first | exact trivial | (constructor <;> omega) | omega | skip) | ((with_reducible apply oq_load); exact rfl; exact rfl) | ((with_reducible apply oq_loadAgg); exact rfl; exact rfl) | ((with_reducible apply oq_call (hc := Tryz.call77)); exact rfl; exact rfl; exact fun D w1 hw1 => HO7 w1 ((HCO D w1 _ hw1 (by simp only [coH,List.cons_append]; repeat (first | exact HpSub.refl _ | exact HpSub.appLeft | exact HpSub.front HpSub.appLeft | apply HpSub.skipX))).each _ hcm))) | ((with_reducible apply tl_id); first | (with_reducible apply tl_nil) | ((with_reducible apply u_q); (iterate 4 exact rfl))) | ((with_reducible apply gx_id); first | (with_reducible apply v_nil) | ((with_reducible apply v_q); (iterate 3 exact rfl))) | ((with_reducible apply ai_id); first | ((with_reducible apply ai_n); (iterate 4 exact rfl); (with_reducible apply os_callS (PV := RouV (some a)) (hc := Tryz.call72)); exact rfl; exact rfl; exact fun D w1 hw1 => HR _ cK R w1 hw1.ext.ext (HCO D w1 _ hw1 (by repeat (first | exact HpSub.refl _ | exact HpSub.appLeft | apply HpSub.skipX))) hRk; rintro _ _ ⟨oN,hN0,rfl,rfl⟩; simp only [List.cons_append,List.nil_append]) | ((with_reducible apply ai_q); (iterate 5 exact rfl))) | ((with_reducible apply al_keep); focus (repeat (first | exact HpSub.refl _ | (apply HpSub.cons; (repeat first | exact P0 | apply P1)) | apply HpSub.skipX | exact HpSub.nil))) | ((with_reducible apply rd_id); first | (apply rd_st hsi; (repeat first | exact P0 | apply P1); done) | (apply rd_co hct; (repeat first | exact P0 | apply P1); done) | (apply Rd.own; (repeat first | exact P0 | apply P1); exact rfl; done) | (apply Rd.old; (first | (with_reducible assumption) | exact c0 | exact c1 | exact c2 | exact c3 | exact c4 | exact c5 | exact c6 | exact c7 | exact c8 | exact d0 | exact d1 | exact d2 | exact d3 | exact d4 | exact d5); first | exact List.not_mem_nil | exact m0 | exact m1 | exact m2 | exact m3 | exact m4 | exact m5 | exact m6 | exact m7 | exact m8 | exact m9)) | ((with_reducible apply t_id); first | (apply t_mix (id := 10) [0,1,2,3,4,5,6,7] 6 #[false,false,false,false,false,false,false,false,false,false,false,false,false,false]; kernel_rfl; kernel_rfl; exact rfl) | (with_reducible apply t_seq) | (apply t_region; kernel_rfl) | (apply t_drawn; kernel_rfl; decide +kernel; try simp only [List.append_eq,List.cons_append,List.nil_append]) | ((with_reducible apply t_condT); exact rfl) | ((with_reducible apply t_condF); exact rfl) | (with_reducible apply t_skip) | (with_reducible apply t_block)) | with_reducible apply q_thenN | with_reducible apply q_blockN | exact Rdn.zero | apply Rdn.succ | ((with_reducible apply al_id); first | (apply al_done; decide +kernel) | (apply al_one 8; decide +kernel) | (apply al_one 9; decide +kernel) | (apply al_one 10; decide +kernel) | (apply al_one 11; decide +kernel) | (apply al_one 12; decide +kernel) | (apply al_one 13; decide +kernel) | (apply al_two 10 11; decide +kernel) | (apply al_two 11 12; decide +kernel)) | exact HpSub.appLeft)
 all_goals (refine ⟨(i + 1,fu - cc),⟨by simp only; omega,fun _ => hck,fun h => (by simp only at h; omega),by simp only; omega,by simp only; omega⟩,by simp only; omega,?_,?_⟩ <;> (try simp only [coH]) <;> (repeat' (first | exact FrSub.nil | (apply FrSub.cons; exact rfl) | exact HpSub.appLeft | (apply HpSub.consE; (repeat first | exact P0 | apply P1); first | exact rfl | skip))))
theorem pnS_form {l : List Pn} {o : Option (Nat × Nat)} (h : o = none → l = []) : ∃ A c,pnS l o = .slice A l.length c ∧ ∀ i,i < l.length → ∃ g,A = some ⟨g,0,none⟩ ∧ o = some (g,c) := by
 rcases o with _ | ⟨g,c⟩
 · rw [h rfl]
   exact ⟨none,0,rfl,fun i hi => absurd hi (Nat.not_lt_zero _)⟩
 · exact ⟨some ⟨g,0,none⟩,c,rfl,fun i _ => ⟨g,rfl,rfl⟩⟩
theorem alt29_err (AM A : Option Addr) (m cM n cp : Nat) (L : List Lg) (w : World) (hr : RdS w 5 A n (L.map lgCells)) (hn : n ≤ 1000000) (hm : m ≤ 1000000) (v q1 q2 q3 q4 g0 g1 : Int) (AC : Option Addr) (nC cC : Nat) (C : List Wn) (hrc : CastR w AC nC C) (hs : ∀ z ∈ C,z.n ≤ 1000000) (s : Int) (AR : Option Addr) (nR cR : Nat) (rs : List Int) (hR : RdS w 1 AR nR (rs.map inCells)) (hnR : nR ≤ 1000000) (he : ledE m L v q1 q2 q3 q4 g0 g1 C s rs ≠ 0) (fu : Int) : Calls Tryz.prog 29 #[.agg #[.slice AM m cM,.slice A n cp],.agg #[.int .i64 v,.int .i64 q1,.int .i64 q2,.int .i64 q3,.int .i64 q4,.int .i64 g0,.int .i64 g1],.slice AC nC cC,.int .i64 s,.slice AR nR cR,.int .i64 fu] w fun e w' => e = .returned (.tuple #[.slice none 0 0,.int .i64 (ledE m L v q1 q2 q3 q4 g0 g1 C s rs)]) ∧ Ext w w' := by
 have HN := fun w1 (hx : Ext w w1) => travel_err AM A m cM n cp L w1 (hr.ext hx) hn hm v q1 q2 q3 q4 g0 g1 AC nC cC C (hrc.ext hx) hs s AR nR cR rs (hR.ext hx) hnR he
 generalize ledE m L v q1 q2 q3 q4 g0 g1 C s rs = e0 at *
 refine enterQ (c := cx w 55) Tryz.func29 rfl rfl rfl rfl ?_
 ((all_goals refine gqU0 ?_); (all_goals constructor); (any_goals exact trivial); all_goals intros)
 all_goals rfl
theorem alt29_ok (AM A : Option Addr) (m cM n cp : Nat) (L : List Lg) (w : World) (hr : RdS w 5 A n (L.map lgCells)) (hn : n ≤ 1000000) (hm : m ≤ 1000000) (v q1 q2 q3 q4 : Int) (g0 g1 : Nat) (AC : Option Addr) (nC cC : Nat) (C : List Wn) (hrc : CastR w AC nC C) (hs : ∀ z ∈ C,z.n ≤ 1000000) (s : Int) (AR : Option Addr) (nR cR : Nat) (rs : List Int) (hR : RdS w 1 AR nR (rs.map inCells)) (hnR : nR ≤ 1000000) (hE : askE m L v q1 q2 q3 q4 (g0 : Nat) (g1 : Nat) C = 0) (h20 : rs.length ≤ 20) (p : Trp) (htr : tripI m L s rs = some p) (T : List Bool) (hT : RdS w 1 AM m (T.map blCells)) (fu : Int) : Calls Tryz.prog 29 #[.agg #[.slice AM m cM,.slice A n cp],.agg #[.int .i64 v,.int .i64 q1,.int .i64 q2,.int .i64 q3,.int .i64 q4,.int .i64 (g0 : Nat),.int .i64 (g1 : Nat)],.slice AC nC cC,.int .i64 s,.slice AR nR cR,.int .i64 fu] w fun e w' => ∃ u H',e = .returned u ∧ AltV (altE m L T v q1 q2 q3 q4 g0 g1 C p fu) u H' ∧ Has w ⟨[],[]⟩ H' w' := by
 have HO := fun w1 (hx : Ext w w1) => travel_ok AM A m cM n cp L w1 (hr.ext hx) hn hm v q1 q2 q3 q4 g0 g1 AC nC cC C (hrc.ext hx) hs s AR nR cR rs (hR.ext hx) hnR hE h20
 rw [htr] at HO
 obtain ⟨hch,hpk,hk0⟩ := askE_ok hE
 obtain ⟨hcl,hcw⟩ := castE_zero.1 hk0
 have hlc := hrc.len
 obtain ⟨hm1,hL40,hLk⟩ := chartB_iff.1 hch
 have hl : L.length = n := by simpa using hr.len
 have hTI := trip_in hLk htr
 have HK := fun bT bD bM bS cS E AG cG w1 (hx : Ext w w1) (ht : TrpR w1 bT bD bM (some ⟨bS,0,none⟩) cS AG cG AM A m cM n cp v q1 q2 q3 q4 g0 g1 E p) hE2 => (by
   unfold chkE
   split
   · rename_i hfu
     exact check76_calls bT bD bM (some ⟨bS,0,none⟩) cS AG cG AM A m cM n cp L v q1 q2 q3 q4 g0 g1 E C T p rs w1 ht hTI hE2 (hr.ext hx) (hT.ext hx) (by omega) (by omega) h20 hLk hpk hcw (by omega) fu hfu _ rfl
   · rename_i hfu
     exact check76_no bT bD bM (some ⟨bS,0,none⟩) cS AG cG AM A m cM n cp L v q1 q2 q3 q4 g0 g1 E C T p rs w1 ht hTI hE2 (hr.ext hx) (hT.ext hx) (by omega) (by omega) h20 hLk hpk hcw (by omega) fu hfu : Calls Tryz.prog 76 #[.pointer (some ⟨bT,0,none⟩),.int .i64 fu] w1 fun e w' => ∃ u H',e = .returned u ∧ ChkV (fun s => (plansF (arcs (legC v q1 q2 q3 g0 g1 C) L) m (fun s => T.getD s false) m).getD s none) p.2 (chkE m L T v q1 q2 q3 q4 g0 g1 C p fu) u H' ∧ Has w1 ⟨[],[]⟩ H' w')
 unfold altE
 obtain ⟨ce,hce⟩ : ∃ ce,chkE m L T v q1 q2 q3 q4 g0 g1 C p fu = ce := ⟨_,rfl⟩
 rw [hce] at HK ⊢
 refine enterF (c := cx w 55) Tryz.func29 rfl rfl rfl rfl ?_
 repeat' (first | ((with_reducible apply oq_id); first | ((with_reducible apply oq_neqF); exact rfl; exact rfl; omega) | (apply oq_fn; exact rfl; first | exact trivial | (constructor <;> omega) | omega | skip) | ((with_reducible apply oq_loadAgg); exact rfl; exact rfl)) | ((with_reducible apply tl_id); first | (with_reducible apply tl_nil) | ((with_reducible apply u_s); (iterate 3 exact rfl); (with_reducible apply os_callS (PV := TravV AM _ m cM n cp v q1 q2 q3 q4 g0 g1 C L (some p)) (hc := Tryz.call57)); exact rfl; exact rfl; exact fun D w1 hw1 => HO w1 hw1.ext.ext; rintro _ _ ⟨bT,bD,bM,bS,cS,E,o,rfl,ho,rfl,hE2,hnl⟩; simp only [List.cons_append,List.nil_append]) | ((with_reducible apply u_s); (iterate 3 exact rfl); (with_reducible apply os_callS (PV := ChkV _ p.2 ce) (hc := Tryz.call76)); exact rfl; exact rfl; exact fun D w1 hw1 => (by obtain ⟨AG,cG,ht⟩ := TrpR.of_has (hw1.sub (by repeat (first | exact HpSub.refl _ | apply HpSub.skipX))) ho hnl; exact HK bT bD bM bS cS E AG cG w1 hw1.ext.ext ht hE2); rintro _ _ ⟨l,P,o2,rfl,hl1,hl2,hlI,ho2,rfl⟩; obtain ⟨AL,cL,hAL,hAL2⟩ := pnS_form ho2; rw [hAL]; simp only [List.cons_append,List.nil_append]) | ((with_reducible apply u_q); (iterate 4 exact rfl)) | ((with_reducible apply u_s); (iterate 3 exact rfl))) | ((with_reducible apply os_id); first | ((with_reducible apply os_x); exact rfl)) | ((with_reducible apply ox_id); first | ((with_reducible apply ox_boxAgg); exact rfl; intro _)) | ((with_reducible apply rd_id); first | (apply Rd.own; (repeat first | exact P0 | apply P1); exact rfl; done)) | ((with_reducible apply t_id); first | (with_reducible apply t_seq) | (apply t_region; kernel_rfl) | ((with_reducible apply t_condF); exact rfl) | (with_reducible apply t_skip) | (with_reducible apply t_block)) | with_reducible apply q_thenN | exact Rdn.zero | apply Rdn.succ)
 have hl30 : l.length ≤ 30 := by
   by_cases h : ce.2 = 0
   · have h1 := congrArg List.length (hl1 h)
     have h2 := hTI.2.1
     simp only [List.length_map] at h1
     omega
   · rw [hl2 h]; simp
 apply t_loopP (ι := Nat × List Rz × Option (Nat × Nat)) [40,41,15] (fun z => [(42,.int .i64 ((z.1 : Nat) : Int)),(18,lzS z.2.1 z.2.2)]) (fun z => pnH l o2 ++ (lzH z.2.1 z.2.2 ++ poolH P)) (fun z => z.1 ≤ l.length ∧ z.2.1.map Prod.fst = (l.take z.1).map (fun y => plL y.p) ∧ (∀ r ∈ z.2.1,r.2 = none → r.1 = []) ∧ (z.2.2 = none → z.2.1 = [])) (fun z => l.length - z.1) (0,[],none)
 (repeat (first | exact KeepF.nil | (apply KeepF.cons; exact rfl) | apply KeepF.skip))
 (repeat (first | exact FrSub.nil | (apply FrSub.cons; exact rfl)))
 (try simp only [List.cons_append,List.nil_append])
 (repeat' (first | exact HpSub.refl _ | apply HpSub.skipX | apply HpSub.skipApp))
 · exact ⟨Nat.zero_le _,rfl,fun r hr => (by cases hr),fun _ => rfl⟩
 rintro ⟨i,R,o⟩ ⟨hi,hR1,hR2,hR3⟩
 simp only at hi hR1 hR2 hR3
 try simp only [List.cons_append,List.nil_append]
 by_cases hlt : i < l.length
 rotate_left
 · obtain rfl : i = l.length := by omega
   rw [List.take_of_length_le (by omega)] at hR1
   ((all_goals refine gqU0 ?_); (all_goals constructor); (any_goals exact trivial); all_goals intros)
   all_goals (refine ⟨_,⟨R,o,rfl,?_,hR2,hR3,rfl⟩,HpSub.skipApp HpSub.appLeft⟩)
   rw [hR1]
   by_cases h : ce.2 = 0
   · have h1 := congrArg (List.map plL) (hl1 h)
     rw [List.map_map,List.map_map] at h1
     simp only [if_pos h]
     exact h1
   · simp only [if_neg h,hl2 h,List.map_nil]
 obtain ⟨gO,rfl,rfl⟩ := hAL2 i hlt
 obtain ⟨x,hx⟩ : ∃ x,l[i]? = some x := ⟨_,List.getElem?_eq_getElem hlt⟩
 have hin := hlI x (List.mem_of_getElem? hx)
 have hRl : R.length = i := by have := congrArg List.length hR1; simpa [List.length_take,Nat.min_eq_left (show i ≤ l.length by omega)] using this
 have hxl : (plL x.p).length ≤ 1000000 := by
   by_cases h : ce.2 = 0
   · have hm' : x.p ∈ p.2.map (fun s => (plansF (arcs (legC v q1 q2 q3 g0 g1 C) L) m (fun s => T.getD s false) m).getD s none) := by rw [← hl1 h]; exact List.mem_map.2 ⟨x,List.mem_of_getElem? hx,rfl⟩
     obtain ⟨s',_,hs'⟩ := List.mem_map.1 hm'
     cases hxp : x.p with
     | none => exact Nat.zero_le _
     | some a =>
       rw [hxp] at hs'
       have h12 := (need_bound hpk hcw hLk (by omega) hs').2.2
       show a.2.length ≤ _
       omega
   · rw [hl2 h] at hlt
     exact absurd hlt (Nat.not_lt_zero _)
 have hst : ∀ r : Rz,r.1 = plL x.p → (R ++ [r]).map Prod.fst = (l.take (i + 1)).map (fun y => plL y.p) := fun r hr => by
   rw [List.take_add_one,hx,List.map_append,List.map_append,hR1]
   simp [hr]
 have hrw : ∀ (r q : Rz),q ∈ R ++ [r] → (r.2 = none → r.1 = []) → q.2 = none → q.1 = [] := fun r q hq hr => by
   rcases List.mem_append.1 hq with hq | hq
   · exact hR2 q hq
   · obtain rfl := List.mem_singleton.1 hq
     exact hr
 obtain ⟨xp,xA,xn,xc⟩ := x
 rcases hin with ⟨h1,h2,h3,h4⟩ | ⟨rb,hrb,h1,h2,h3,h4⟩
 · simp only at h1 h2 h3 h4
   subst h2 h3 h4
   simp only [h1] at hst
   rcases o with _ | ⟨bO,cO'⟩
   · obtain rfl := hR3 rfl
     simp only [lzS,lzH,pnH,List.nil_append,List.cons_append]
     ((all_goals refine gqU0 ?_); (all_goals constructor); (any_goals exact trivial); all_goals intros)
     all_goals (rename_i b20 b50 bN cN; refine ⟨(i + 1,[] ++ [(([] : List Nat),(none : Option (Nat × Nat)))],some (bN,cN)),⟨by simp only; omega,?_,?_,fun h => (by cases h)⟩,by simp only; omega,?_,?_⟩)
     all_goals first | (simp only; exact hst _ rfl) | (intro q hq; exact hrw _ q hq (fun _ => rfl)) | (simp only [lzS,lzH,rzB_snoc,hN,List.map_append,List.map_cons,List.map_nil,List.nil_append,List.cons_append,List.append_nil,List.length_append,List.length_singleton,List.length_nil]; (repeat' (first | exact FrSub.nil | (apply FrSub.cons; exact rfl) | exact HpSub.refl _ | (apply HpSub.consE; (repeat first | exact P0 | apply P1); first | exact rfl | (simp [rzV,sN]; done) | skip) | apply HpSub.skipX)))
   · simp only [lzS,lzH,pnH,List.nil_append,List.cons_append]
     ((all_goals refine gqU0 ?_); (all_goals constructor); (any_goals exact trivial); all_goals intros)
     all_goals (rename_i b20 b50 bN cN; refine ⟨(i + 1,R ++ [(([] : List Nat),(none : Option (Nat × Nat)))],some (bN,cN)),⟨by simp only; omega,?_,?_,fun h => (by cases h)⟩,by simp only; omega,?_,?_⟩)
     all_goals first | (simp only; exact hst _ rfl) | (intro q hq; exact hrw _ q hq (fun _ => rfl)) | (simp only [lzS,lzH,rzB_snoc,hN,List.map_append,List.map_cons,List.map_nil,List.nil_append,List.cons_append,List.append_nil,List.length_append,List.length_singleton,List.length_nil]; (repeat' (first | exact FrSub.nil | (apply FrSub.cons; exact rfl) | exact HpSub.refl _ | (apply HpSub.consE; (repeat first | exact P0 | apply P1); first | exact rfl | (simp [rzV,sN]; done) | skip) | apply HpSub.skipX)))
 · simp only at h1 h2 h3 h4
   subst h2 h3 h4
   simp only [← h1] at hst
   have hrl : rb.2.1 = rb.2.1 := rfl
   have HRb := fun D w1 H1 (hw1 : Has w ⟨[],D⟩ H1 w1) (hs : HpSub H1 (poolH P)) => Blk.rows (rows := (cI rb.2.1).map inCells) (n := rb.2.1.length) (k := 1) (by rw [in_flat]; exact pool_blk (hw1.sub hs) rb hrb) (by simp [cI]) in_rows_len
   have hrn : rb.2.1.length ≤ 1000000 := by rw [h1]; exact hxl
   rcases o with _ | ⟨bO,cO'⟩
   · obtain rfl := hR3 rfl
     simp only [lzS,lzH,pnH,List.nil_append,List.cons_append]
     repeat' (first | ((with_reducible apply oq_id); first | (focus ((with_reducible apply oq_indexAddrN (i := i)); (iterate 4 exact rfl); omega)) | ((with_reducible apply oq_lssT); exact rfl; exact rfl; omega) | (apply oq_fn; exact rfl; first | exact trivial | (constructor <;> omega) | omega | skip) | ((with_reducible apply oq_load); exact rfl; exact rfl) | ((with_reducible apply oq_loadAgg); exact rfl; exact rfl)) | ((with_reducible apply tl_id); first | (with_reducible apply tl_nil) | ((with_reducible apply u_s); (iterate 3 exact rfl); (with_reducible apply os_callF (PV := fun u H' => ∃ b cap,u = Value.slice (some ⟨b,0,none⟩) rb.2.1.length cap ∧ H' = [(b,(cI rb.2.1).map iv,some (3,1,cap))]) (hc := Tryz.call78)); exact rfl; exact rfl; exact fun D w1 hw1 => clone78_calls _ _ _ rb.2.1 w1 (HRb D w1 _ hw1 (by repeat (first | exact HpSub.refl _ | apply HpSub.skipX | apply HpSub.skipApp))) (by omega); rintro _ _ ⟨bC,cC',rfl,rfl⟩; simp only [List.cons_append,List.nil_append]) | ((with_reducible apply u_q); (iterate 4 exact rfl)) | ((with_reducible apply u_s0); exact rfl; exact rfl) | ((with_reducible apply u_s); (iterate 3 exact rfl))) | ((with_reducible apply os_id); first | ((with_reducible apply os_x); exact rfl) | ((with_reducible apply os_storeAgg); (iterate 5 exact rfl)) | ((with_reducible apply os_appendNil (hk := app_ok57)); exact rfl; exact rfl)) | ((with_reducible apply ox_id); first | ((with_reducible apply ox_alloc); exact rfl; intro _) | ((with_reducible apply ox_buildSlice1); (iterate 6 exact rfl); intro _)) | ((with_reducible apply rd_id); first | (apply rd_pn0 hx; (repeat first | exact P0 | apply P1); done) | (apply rd_pn1 hx; (repeat first | exact P0 | apply P1); done) | (apply rd_pn2 hx; (repeat first | exact P0 | apply P1); done) | (apply Rd.own; (repeat first | exact P0 | apply P1); exact rfl; done)) | ((with_reducible apply t_id); first | (with_reducible apply t_seq) | (apply t_region; kernel_rfl) | ((with_reducible apply t_condT); exact rfl) | (with_reducible apply t_skip) | (with_reducible apply t_block)) | with_reducible apply q_thenN | with_reducible apply q_blockN | exact P0 | exact Rdn.zero | apply Rdn.succ | ((with_reducible apply Norm.nil); exact rfl) | ((with_reducible apply Norm.cons); exact rfl) | exact Nat.le_of_ble_eq_true rfl | exact (rfl : (_ : Bool) = true) | (intro _ _; with_reducible apply tl_id))
     all_goals (rename_i b20 b50 bN cN; refine ⟨(i + 1,[] ++ [(rb.2.1,some (bC,cC'))],some (bN,cN)),⟨by simp only; omega,?_,?_,fun h => (by cases h)⟩,by simp only; omega,?_,?_⟩)
     all_goals first | (simp only; exact hst _ (by first | rfl | exact hrl)) | (intro q hq; exact hrw _ q hq (fun h => (by cases h))) | (simp only [lzS,lzH,rzB_snoc,hN,List.map_append,List.map_cons,List.map_nil,List.nil_append,List.cons_append,List.append_nil,List.length_append,List.length_singleton,List.length_nil]; (repeat' (first | exact FrSub.nil | (apply FrSub.cons; exact rfl) | exact HpSub.refl _ | (apply HpSub.consE; (repeat first | exact P0 | apply P1); first | exact rfl | (simp [rzV,sN]; done) | skip) | apply HpSub.skipX)))
   · simp only [lzS,lzH,pnH,List.nil_append,List.cons_append]
     repeat' (first | ((with_reducible apply oq_id); first | (focus ((with_reducible apply oq_indexAddrN (i := i)); (iterate 4 exact rfl); omega)) | ((with_reducible apply oq_lssT); exact rfl; exact rfl; omega) | (apply oq_fn; exact rfl; first | exact trivial | (constructor <;> omega) | omega | skip) | ((with_reducible apply oq_load); exact rfl; exact rfl) | ((with_reducible apply oq_loadAgg); exact rfl; exact rfl)) | ((with_reducible apply tl_id); first | (with_reducible apply tl_nil) | ((with_reducible apply u_s); (iterate 3 exact rfl); (with_reducible apply os_callF (PV := fun u H' => ∃ b cap,u = Value.slice (some ⟨b,0,none⟩) rb.2.1.length cap ∧ H' = [(b,(cI rb.2.1).map iv,some (3,1,cap))]) (hc := Tryz.call78)); exact rfl; exact rfl; exact fun D w1 hw1 => clone78_calls _ _ _ rb.2.1 w1 (HRb D w1 _ hw1 (by repeat (first | exact HpSub.refl _ | apply HpSub.skipX | apply HpSub.skipApp))) (by omega); rintro _ _ ⟨bC,cC',rfl,rfl⟩; simp only [List.cons_append,List.nil_append]) | ((with_reducible apply u_q); (iterate 4 exact rfl)) | ((with_reducible apply u_s0); exact rfl; exact rfl) | ((with_reducible apply u_s); (iterate 3 exact rfl))) | ((with_reducible apply os_id); first | ((with_reducible apply os_x); exact rfl) | ((with_reducible apply os_storeAgg); (iterate 5 exact rfl)) | ((with_reducible apply os_append (hk := app_ok57)); exact rfl; exact rfl; (repeat first | exact P0 | apply P1))) | ((with_reducible apply ox_id); first | ((with_reducible apply ox_alloc); exact rfl; intro _) | ((with_reducible apply ox_buildSlice1); (iterate 6 exact rfl); intro _)) | ((with_reducible apply rd_id); first | (apply rd_pn0 hx; (repeat first | exact P0 | apply P1); done) | (apply rd_pn1 hx; (repeat first | exact P0 | apply P1); done) | (apply rd_pn2 hx; (repeat first | exact P0 | apply P1); done) | (apply Rd.own; (repeat first | exact P0 | apply P1); exact rfl; done)) | ((with_reducible apply t_id); first | (with_reducible apply t_seq) | (apply t_region; kernel_rfl) | ((with_reducible apply t_condT); exact rfl) | (with_reducible apply t_skip) | (with_reducible apply t_block)) | with_reducible apply q_thenN | with_reducible apply q_blockN | exact P0 | exact Rdn.zero | apply Rdn.succ | ((with_reducible apply Norm.nil); exact rfl) | ((with_reducible apply Norm.cons); exact rfl) | exact lzM_len _ | exact Nat.le_of_ble_eq_true rfl | exact (rfl : (_ : Bool) = true) | omega | (intro _ _; with_reducible apply tl_id))
     all_goals (rename_i b20 b50 bN cN; refine ⟨(i + 1,R ++ [(rb.2.1,some (bC,cC'))],some (bN,cN)),⟨by simp only; omega,?_,?_,fun h => (by cases h)⟩,by simp only; omega,?_,?_⟩)
     all_goals first | (simp only; exact hst _ (by first | rfl | exact hrl)) | (intro q hq; exact hrw _ q hq (fun h => (by cases h))) | (simp only [lzS,lzH,rzB_snoc,hN,List.map_append,List.map_cons,List.map_nil,List.nil_append,List.cons_append,List.append_nil,List.length_append,List.length_singleton,List.length_nil]; (repeat' (first | exact FrSub.nil | (apply FrSub.cons; exact rfl) | exact HpSub.refl _ | (apply HpSub.consE; (repeat first | exact P0 | apply P1); first | exact rfl | (simp [rzV,sN]; done) | skip) | apply HpSub.skipX)))
theorem refAlt_err (AM A : Option Addr) (m cM n cp : Nat) (L : List Lg) (w : World) (hr : RdS w 5 A n (L.map lgCells)) (hn : n ≤ 1000000) (hm : m ≤ 1000000) (v q1 q2 q3 q4 g0 g1 : Int) (AC : Option Addr) (nC cC : Nat) (C : List Wn) (hrc : CastR w AC nC C) (hs : ∀ z ∈ C,z.n ≤ 1000000) (s : Int) (AR : Option Addr) (nR cR : Nat) (rs : List Int) (hR : RdS w 1 AR nR (rs.map inCells)) (hnR : nR ≤ 1000000) (he : ledE m L v q1 q2 q3 q4 g0 g1 C s rs ≠ 0) (fu : Int) : Calls Tryz.prog 30 #[.agg #[.slice AM m cM,.slice A n cp],.agg #[.int .i64 v,.int .i64 q1,.int .i64 q2,.int .i64 q3,.int .i64 q4,.int .i64 g0,.int .i64 g1],.slice AC nC cC,.int .i64 s,.slice AR nR cR,.int .i64 fu] w fun e w' => e = .returned (.tuple #[.slice none 0 0,.int .i64 (ledE m L v q1 q2 q3 q4 g0 g1 C s rs)]) ∧ Ext w w' := by
 have HN := fun w1 (hx : Ext w w1) => refCheck_err AM A m cM n cp L w1 (hr.ext hx) hn hm v q1 q2 q3 q4 g0 g1 AC nC cC C (hrc.ext hx) hs s AR nR cR rs (hR.ext hx) hnR he fu
 generalize ledE m L v q1 q2 q3 q4 g0 g1 C s rs = e0 at *
 refine enterQ (c := cx w 70) Tryz.func30 rfl rfl rfl rfl ?_
 ((all_goals refine gqU0 ?_); (all_goals constructor); (any_goals exact trivial); all_goals intros)
 all_goals rfl
theorem refAlt_ok (AM A : Option Addr) (m cM n cp : Nat) (L : List Lg) (w : World) (hr : RdS w 5 A n (L.map lgCells)) (hn : n ≤ 1000000) (hm : m ≤ 1000000) (v q1 q2 q3 q4 : Int) (g0 g1 : Nat) (AC : Option Addr) (nC cC : Nat) (C : List Wn) (hrc : CastR w AC nC C) (hs : ∀ z ∈ C,z.n ≤ 1000000) (s : Int) (AR : Option Addr) (nR cR : Nat) (rs : List Int) (hR : RdS w 1 AR nR (rs.map inCells)) (hnR : nR ≤ 1000000) (hE : askE m L v q1 q2 q3 q4 (g0 : Nat) (g1 : Nat) C = 0) (h20 : rs.length ≤ 20) (p : Trp) (htr : tripI m L s rs = some p) (T : List Bool) (hT : RdS w 1 AM m (T.map blCells)) (fu : Int) : Calls Tryz.prog 30 #[.agg #[.slice AM m cM,.slice A n cp],.agg #[.int .i64 v,.int .i64 q1,.int .i64 q2,.int .i64 q3,.int .i64 q4,.int .i64 (g0 : Nat),.int .i64 (g1 : Nat)],.slice AC nC cC,.int .i64 s,.slice AR nR cR,.int .i64 fu] w fun e w' => ∃ u H',e = .returned u ∧ AltV (altE m L T v q1 q2 q3 q4 g0 g1 C p fu) u H' ∧ Has w ⟨[],[]⟩ H' w' := by
 have HO := fun w1 (hx : Ext w w1) => led60_ok AM A m cM n cp L w1 (hr.ext hx) hn hm v q1 q2 q3 q4 g0 g1 AC nC cC C (hrc.ext hx) hs s AR nR cR rs (hR.ext hx) hnR hE h20 p htr
 obtain ⟨hch,hpk,hk0⟩ := askE_ok hE
 obtain ⟨hcl,hcw⟩ := castE_zero.1 hk0
 have hlc := hrc.len
 obtain ⟨hm1,hL40,hLk⟩ := chartB_iff.1 hch
 have hl : L.length = n := by simpa using hr.len
 have hlr : rs.length = nR := by simpa using hR.len
 obtain ⟨hg1,hg2,hg3,hg4⟩ := trip_in hLk htr
 obtain ⟨_,_,_,_,p5,_⟩ := id hpk
 have HK := fun w1 (hx : Ext w w1) => costs_calls AM A m cM n cp L w1 (hr.ext hx) (by omega) v q1 q2 q3 q4 g0 g1 AC nC cC C (hrc.ext hx) hs hcw (by omega) hpk hLk
 have hbd := fun s a (h : (plansF (arcs (legC v q1 q2 q3 g0 g1 C) L) m (fun s => T.getD s false) m).getD s none = some a) => need_bound hpk hcw hLk (by omega) h
 have HR := fun (s : Nat) (hsm : s < m) (AK : Option Addr) (cK : Nat) (R : List Co) w1 (hx : Ext w w1) (hk : CoR w1 AK R.length (R.map coW)) (hRk : R.map Prod.snd = L.map (fun z => (legC v q1 q2 q3 g0 g1 C z false,legC v q1 q2 q3 g0 g1 C z true))) => (by
   have hRn : R.length = n := by have := congrArg List.length hRk; simp only [List.length_map] at this; omega
   have hr' := hr.ext hx
   rw [hRn] at hk ⊢
   have h := routed_calls AM A m cM n cp L w1 hr' (by omega) (by omega) (by omega) AK cK (R.map coW) hk AM cM T (hT.ext hx) hLk (legC v q1 q2 q3 g0 g1 C) (by rw [List.map_map]; exact hRk) (fun z hz bk => (legC_le hcw hpk (hLk z hz) bk).1) (fun z hz bk => (legC_le hcw hpk (hLk z hz) bk).2) s (by omega)
   have e : (fun s => (plansF (arcs (legC v q1 q2 q3 g0 g1 C) L) m (fun s => T.getD s false) m).getD s none) s = routedF (arcs (legC v q1 q2 q3 g0 g1 C) L) (fun k s => (leadF (arcs (legC v q1 q2 q3 g0 g1 C) L) m (fun j => T.getD j false) k).getD s (-1)) m s := best_same (arcs_net hLk) (arcs_sorted _ _) hsm
   rw [← e] at h
   exact h : Calls Tryz.prog 72 #[.agg #[.slice AM m cM,.slice A n cp],.slice AK R.length cK,.int .i64 (s : Nat),.slice AM m cM] w1 fun e w' => ∃ u H',e = .returned u ∧ RouV ((fun s => (plansF (arcs (legC v q1 q2 q3 g0 g1 C) L) m (fun s => T.getD s false) m).getD s none) s) u H' ∧ Has w1 ⟨[],[]⟩ H' w')
 have HC := fun w1 (hx : Ext w w1) => refCheck_ok AM A m cM n cp L w1 (hr.ext hx) hn hm v q1 q2 q3 q4 g0 g1 AC nC cC C (hrc.ext hx) hs s AR nR cR rs (hR.ext hx) hnR hE h20 p htr T (hT.ext hx) fu
 have HS := fun w1 (hx : Ext w w1) => sites_calls AM A m cM n cp L w1 (hr.ext hx) hn hm hLk s AR nR cR rs (hR.ext hx) hnR
 rw [htr] at HS
 unfold altE
 obtain ⟨⟨c1',c2'⟩,hce⟩ : ∃ ce,chkE m L T v q1 q2 q3 q4 g0 g1 C p fu = ce := ⟨_,rfl⟩
 rw [hce] at HC ⊢
 simp only at HC ⊢
 by_cases hc2 : c2' = 0
 rotate_left
 · rw [if_neg hc2]
   refine enterF (c := cx w 70) Tryz.func30 rfl rfl rfl rfl ?_
   ((all_goals refine gqU0 ?_); (all_goals constructor); (any_goals exact trivial); all_goals intros)
   all_goals exact ⟨_,⟨[],none,rfl,rfl,fun r hr => (by cases hr),fun _ => rfl,rfl⟩,HpSub.nil⟩
 subst hc2
 rw [if_pos rfl]
 refine enterF (c := cx w 70) Tryz.func30 rfl rfl rfl rfl ?_
 repeat' (first | ((with_reducible apply oq_id); first | ((with_reducible apply oq_neqF); exact rfl; exact rfl; omega) | (apply oq_fn; exact rfl; first | exact trivial | (constructor <;> omega) | omega | skip) | ((with_reducible apply oq_loadAgg); exact rfl; exact rfl) | ((with_reducible apply oq_call (hc := Tryz.call28)); exact rfl; exact rfl; exact fun D w1 hw1 => HC w1 hw1.ext.ext)) | ((with_reducible apply tl_id); first | (with_reducible apply tl_nil) | ((with_reducible apply u_s); (iterate 3 exact rfl); (with_reducible apply os_callS (PV := SitV (some p)) (hc := Tryz.call79)); exact rfl; exact rfl; exact fun D w1 hw1 => HS w1 hw1.ext.ext; rintro _ _ ⟨bS,cS,rfl,rfl⟩; simp only [List.cons_append,List.nil_append]) | ((with_reducible apply u_s); (iterate 3 exact rfl); (with_reducible apply os_callS (PV := CosV (L.map (fun z => (legC v q1 q2 q3 g0 g1 C z false,legC v q1 q2 q3 g0 g1 C z true)))) (hc := Tryz.call73)); exact rfl; exact rfl; exact fun D w1 hw1 => HK w1 hw1.ext.ext; rintro _ _ ⟨R,o,hRk,hRo,rfl,rfl⟩; obtain ⟨AK,cK,hAK,hCo,hAK2⟩ := coV_form (R := R) (o := o) (fun h => List.map_eq_nil_iff.1 (hRk.trans (hRo h))); rw [hAK]; simp only [List.cons_append,List.nil_append]) | ((with_reducible apply u_q); (iterate 4 exact rfl)) | ((with_reducible apply u_s); (iterate 3 exact rfl))) | ((with_reducible apply os_id); first | ((with_reducible apply os_x); exact rfl)) | ((with_reducible apply ox_id); first | ((with_reducible apply ox_boxAgg); exact rfl; intro _)) | ((with_reducible apply rd_id); first | (apply Rd.own; (repeat first | exact P0 | apply P1); exact rfl; done)) | ((with_reducible apply t_id); first | (with_reducible apply t_seq) | (apply t_region; kernel_rfl) | ((with_reducible apply t_condF); exact rfl) | (with_reducible apply t_skip) | (with_reducible apply t_block)) | with_reducible apply q_thenN | exact Rdn.zero | apply Rdn.succ)
 rename_i b6 b7
 have hRn : R.length = n := by have := congrArg List.length hRk; simp only [List.length_map] at this; omega
 have HCO := fun D w1 H1 (h1 : Has w ⟨[],D⟩ H1 w1) (hs : HpSub H1 (coH R o)) => hCo _ _ w1 (h1.sub hs)
 apply t_loopP (ι := Nat × List Rz × Option (Nat × Nat)) [6,16,18] (fun z => [(20,.int .i64 ((z.1 : Nat) : Int)),(19,lzS z.2.1 z.2.2)]) (fun z => (b6,[.slice AM m cM,.slice A n cp],some (25,2,1)) :: (bS,(cI p.2).map iv,some (3,1,cS)) :: (lzH z.2.1 z.2.2 ++ coH R o)) (fun z => z.1 ≤ p.2.length ∧ z.2.1.map Prod.fst = (p.2.take z.1).map (fun s => plL ((fun s => (plansF (arcs (legC v q1 q2 q3 g0 g1 C) L) m (fun s => T.getD s false) m).getD s none) s)) ∧ (∀ r ∈ z.2.1,r.2 = none → r.1 = []) ∧ (z.2.2 = none → z.2.1 = [])) (fun z => p.2.length - z.1) (0,[],none)
 (repeat (first | exact KeepF.nil | (apply KeepF.cons; exact rfl) | apply KeepF.skip))
 (repeat (first | exact FrSub.nil | (apply FrSub.cons; exact rfl)))
 (try simp only [List.cons_append,List.nil_append])
 (repeat' (first | exact HpSub.refl _ | (apply HpSub.consE; (repeat first | exact P0 | apply P1); first | exact rfl | skip) | apply HpSub.skipX))
 · exact ⟨Nat.zero_le _,rfl,fun r hr => (by cases hr),fun _ => rfl⟩
 rintro ⟨i,Q,oz⟩ ⟨hi,hQ1,hQ2,hQ3⟩
 simp only at hi hQ1 hQ2 hQ3
 try simp only [List.cons_append,List.nil_append]
 by_cases hlt : i < p.2.length
 rotate_left
 · rw [List.take_of_length_le (by omega)] at hQ1
   ((all_goals refine gqU0 ?_); (all_goals constructor); (any_goals exact trivial); all_goals intros)
   all_goals (refine ⟨_,⟨Q,oz,rfl,hQ1,hQ2,hQ3,rfl⟩,HpSub.skipX (HpSub.skipX HpSub.appLeft)⟩)
 obtain ⟨s,hsi⟩ : ∃ s,p.2[i]? = some s := ⟨_,List.getElem?_eq_getElem hlt⟩
 have hsm := hg3 s (List.mem_of_getElem? hsi)
 obtain ⟨rp,hrp⟩ : ∃ rp,(fun s => (plansF (arcs (legC v q1 q2 q3 g0 g1 C) L) m (fun s => T.getD s false) m).getD s none) s = rp := ⟨_,rfl⟩
 have HR := HR s hsm
 dsimp only at HR hrp
 rw [hrp] at HR
 have hQl : Q.length = i := by have := congrArg List.length hQ1; simpa [List.length_take,Nat.min_eq_left (show i ≤ p.2.length by omega)] using this
 have hst : ∀ r : Rz,r.1 = plL rp → (Q ++ [r]).map Prod.fst = (p.2.take (i + 1)).map (fun s => plL ((fun s => (plansF (arcs (legC v q1 q2 q3 g0 g1 C) L) m (fun s => T.getD s false) m).getD s none) s)) := fun r hr => by
   rw [List.take_add_one,hsi,List.map_append,List.map_append,hQ1]
   simp only [List.map_cons,List.map_nil,Option.toList_some]
   rw [hrp,hr]
 have hrw : ∀ (r q : Rz),q ∈ Q ++ [r] → (r.2 = none → r.1 = []) → q.2 = none → q.1 = [] := fun r q hq hr => by
   rcases List.mem_append.1 hq with hq | hq
   · exact hQ2 q hq
   · obtain rfl := List.mem_singleton.1 hq
     exact hr
 rcases oz with _ | ⟨bO,cO⟩
 · obtain rfl := hQ3 rfl
   simp only [lzS,lzH,List.nil_append,List.cons_append]
   repeat' (first | ((with_reducible apply oq_id); first | (focus ((with_reducible apply oq_indexAddrN (i := i)); (iterate 4 exact rfl); omega)) | ((with_reducible apply oq_lssT); exact rfl; exact rfl; omega) | (apply oq_fn; exact rfl; first | exact trivial | (constructor <;> omega) | omega | skip) | ((with_reducible apply oq_load); exact rfl; exact rfl) | ((with_reducible apply oq_loadAgg); exact rfl; exact rfl)) | ((with_reducible apply tl_id); first | (with_reducible apply tl_nil) | ((with_reducible apply u_q); (iterate 4 exact rfl)) | ((with_reducible apply u_s); (iterate 3 exact rfl))) | ((with_reducible apply gx_id); first | (with_reducible apply v_nil) | ((with_reducible apply v_q); (iterate 3 exact rfl))) | ((with_reducible apply os_id); first | ((with_reducible apply os_x); exact rfl) | ((with_reducible apply os_appendNil (hk := app_ok57)); exact rfl; exact rfl)) | ((with_reducible apply ox_id); first | ((with_reducible apply ox_buildSlice1); (iterate 6 exact rfl); intro _)) | ((with_reducible apply ai_id); first | ((with_reducible apply ai_n); (iterate 4 exact rfl); (with_reducible apply os_callF (PV := RouV rp) (hc := Tryz.call72)); exact rfl; exact rfl; exact fun D w1 hw1 => HR AK cK R w1 hw1.ext.ext (HCO D w1 _ hw1 (by repeat (first | exact HpSub.refl _ | exact HpSub.appLeft | apply HpSub.skipX | apply HpSub.skipApp))) hRk; rintro _ _ ⟨_ | ⟨bN,cN⟩,hN0,rfl,rfl⟩ <;> simp only [sN,hN,List.cons_append,List.nil_append]) | ((with_reducible apply ai_q); (iterate 5 exact rfl))) | ((with_reducible apply al_keep); focus (repeat (first | exact HpSub.refl _ | (apply HpSub.cons; (repeat first | exact P0 | apply P1)) | apply HpSub.skipX | exact HpSub.nil))) | ((with_reducible apply rd_id); first | (apply rd_st hsi; (repeat first | exact P0 | apply P1); done) | (apply Rd.own; (repeat first | exact P0 | apply P1); exact rfl; done)) | ((with_reducible apply t_id); first | (apply t_mix (id := 10) [0,1,2,3,4,5,6,7] 6 #[false,false,false,false,false,false,false,false,false,false,false,false,false,false]; kernel_rfl; kernel_rfl; exact rfl) | (with_reducible apply t_seq) | (apply t_region; kernel_rfl) | ((with_reducible apply t_condT); exact rfl) | (with_reducible apply t_skip) | (with_reducible apply t_block)) | with_reducible apply q_thenN | with_reducible apply q_blockN | exact Rdn.zero | apply Rdn.succ | ((with_reducible apply al_id); first | (apply al_done; decide +kernel) | (apply al_one 8; decide +kernel) | (apply al_one 9; decide +kernel) | (apply al_one 10; decide +kernel) | (apply al_one 11; decide +kernel) | (apply al_one 12; decide +kernel) | (apply al_one 13; decide +kernel) | (apply al_two 10 11; decide +kernel) | (apply al_two 11 12; decide +kernel)) | exact Nat.le_of_ble_eq_true rfl | exact (rfl : (_ : Bool) = true) | (intro _ _; with_reducible apply tl_id))
   all_goals (rename_i b67 bO1 cO1; first | (refine ⟨(i + 1,[] ++ [(plL rp,some (bN,cN))],some (bO1,cO1)),⟨by simp only; omega,hst _ rfl,(fun q hq => hrw _ q hq (fun h => (by cases h))),fun h => (by cases h)⟩,by simp only; omega,?_,?_⟩) | (refine ⟨(i + 1,[] ++ [(plL rp,none)],some (bO1,cO1)),⟨by simp only; omega,hst _ rfl,(fun q hq => hrw _ q hq hN0),fun h => (by cases h)⟩,by simp only; omega,?_,?_⟩))
   all_goals (simp only [lzS,lzH,rzB_snoc,hN,List.map_append,List.map_cons,List.map_nil,List.nil_append,List.cons_append,List.append_nil,List.length_append,List.length_singleton,List.length_nil]; (repeat' (first | exact FrSub.nil | (apply FrSub.cons; exact rfl) | exact HpSub.refl _ | (apply HpSub.consE; (repeat first | exact P0 | apply P1); first | exact rfl | (simp [rzV,sN]; done) | skip) | apply HpSub.skipX)))
 · simp only [lzS,lzH,List.nil_append,List.cons_append]
   repeat' (first | ((with_reducible apply oq_id); first | (focus ((with_reducible apply oq_indexAddrN (i := i)); (iterate 4 exact rfl); omega)) | ((with_reducible apply oq_lssT); exact rfl; exact rfl; omega) | (apply oq_fn; exact rfl; first | exact trivial | (constructor <;> omega) | omega | skip) | ((with_reducible apply oq_load); exact rfl; exact rfl) | ((with_reducible apply oq_loadAgg); exact rfl; exact rfl)) | ((with_reducible apply tl_id); first | (with_reducible apply tl_nil) | ((with_reducible apply u_q); (iterate 4 exact rfl)) | ((with_reducible apply u_s); (iterate 3 exact rfl))) | ((with_reducible apply gx_id); first | (with_reducible apply v_nil) | ((with_reducible apply v_q); (iterate 3 exact rfl))) | ((with_reducible apply os_id); first | ((with_reducible apply os_x); exact rfl) | ((with_reducible apply os_append (hk := app_ok57)); exact rfl; exact rfl; (repeat first | exact P0 | apply P1))) | ((with_reducible apply ox_id); first | ((with_reducible apply ox_buildSlice1); (iterate 6 exact rfl); intro _)) | ((with_reducible apply ai_id); first | ((with_reducible apply ai_n); (iterate 4 exact rfl); (with_reducible apply os_callF (PV := RouV rp) (hc := Tryz.call72)); exact rfl; exact rfl; exact fun D w1 hw1 => HR AK cK R w1 hw1.ext.ext (HCO D w1 _ hw1 (by repeat (first | exact HpSub.refl _ | exact HpSub.appLeft | apply HpSub.skipX | apply HpSub.skipApp))) hRk; rintro _ _ ⟨_ | ⟨bN,cN⟩,hN0,rfl,rfl⟩ <;> simp only [sN,hN,List.cons_append,List.nil_append]) | ((with_reducible apply ai_q); (iterate 5 exact rfl))) | ((with_reducible apply al_keep); focus (repeat (first | exact HpSub.refl _ | (apply HpSub.cons; (repeat first | exact P0 | apply P1)) | apply HpSub.skipX | exact HpSub.nil))) | ((with_reducible apply rd_id); first | (apply rd_st hsi; (repeat first | exact P0 | apply P1); done) | (apply Rd.own; (repeat first | exact P0 | apply P1); exact rfl; done)) | ((with_reducible apply t_id); first | (apply t_mix (id := 10) [0,1,2,3,4,5,6,7] 6 #[false,false,false,false,false,false,false,false,false,false,false,false,false,false]; kernel_rfl; kernel_rfl; exact rfl) | (with_reducible apply t_seq) | (apply t_region; kernel_rfl) | ((with_reducible apply t_condT); exact rfl) | (with_reducible apply t_skip) | (with_reducible apply t_block)) | with_reducible apply q_thenN | with_reducible apply q_blockN | exact Rdn.zero | apply Rdn.succ | ((with_reducible apply al_id); first | (apply al_done; decide +kernel) | (apply al_one 8; decide +kernel) | (apply al_one 9; decide +kernel) | (apply al_one 10; decide +kernel) | (apply al_one 11; decide +kernel) | (apply al_one 12; decide +kernel) | (apply al_one 13; decide +kernel) | (apply al_two 10 11; decide +kernel) | (apply al_two 11 12; decide +kernel)) | exact lzM_len _ | exact Nat.le_of_ble_eq_true rfl | exact (rfl : (_ : Bool) = true) | omega | (intro _ _; with_reducible apply tl_id))
   all_goals (rename_i b67 bO1 cO1; first | (refine ⟨(i + 1,Q ++ [(plL rp,some (bN,cN))],some (bO1,cO1)),⟨by simp only; omega,hst _ rfl,(fun q hq => hrw _ q hq (fun h => (by cases h))),fun h => (by cases h)⟩,by simp only; omega,?_,?_⟩) | (refine ⟨(i + 1,Q ++ [(plL rp,none)],some (bO1,cO1)),⟨by simp only; omega,hst _ rfl,(fun q hq => hrw _ q hq hN0),fun h => (by cases h)⟩,by simp only; omega,?_,?_⟩))
   all_goals (simp only [lzS,lzH,rzB_snoc,hN,List.map_append,List.map_cons,List.map_nil,List.nil_append,List.cons_append,List.append_nil,List.length_append,List.length_singleton,List.length_nil]; (repeat' (first | exact FrSub.nil | (apply FrSub.cons; exact rfl) | exact HpSub.refl _ | (apply HpSub.consE; (repeat first | exact P0 | apply P1); first | exact rfl | (simp [rzV,sN]; done) | skip) | apply HpSub.skipX)))
end Go.Proofs.YtcjkndjjbjoehaaGreat
namespace Go.Proofs.YtcjkndjjbjoehaaGreat
open Go.RowKit Go.Shelf
attribute [local irreducible] wpG SAny
attribute [local go_sem] Oper.semAt_some
abbrev BK (S : List Nat) := { p : Nat × Nat // S[p.1]? = some p.2 }
def bkS (S : List Nat) (i : Nat) : Option (BK S) :=
 match h : S[i]? with
 | some s => some ⟨(i,s),h⟩
 | none => none
def bkw (S : List Nat) (k : Nat) : List (BK S) := (List.range k).filterMap fun j => bkS S (S.length - 1 - j)
theorem bkS_some {S : List Nat} {i s : Nat} (h : S[i]? = some s) : bkS S i = some ⟨(i,s),h⟩ := by
 unfold bkS
 split
 · rename_i y hy
   obtain rfl : y = s := by rw [hy] at h; exact Option.some.inj h
   rfl
 · rename_i hy
   rw [hy] at h; cases h
theorem bkw_succ {S : List Nat} {k s : Nat} (h : S[S.length - 1 - k]? = some s) : bkw S (k + 1) = bkw S k ++ [⟨(S.length - 1 - k,s),h⟩] := by
 unfold bkw
 rw [List.range_succ,List.filterMap_append]
 simp [bkS_some h]
theorem bkw_len (S : List Nat) (k : Nat) : (bkw S k).length ≤ k := by
 unfold bkw
 exact Nat.le_trans (List.length_filterMap_le _ _) (by simp)
theorem bkw_pre (S : List Nat) (k n : Nat) (h : k ≤ n) : bkw S k <+: bkw S n := by
 obtain ⟨d,rfl⟩ := Nat.exists_eq_add_of_le h
 unfold bkw
 rw [List.range_add,List.filterMap_append]
 exact List.prefix_append _ _
set_option maxRecDepth 100000 in
set_option maxHeartbeats 4000000 in
theorem back1_in (F : Fence) (m : Nat) (h115 : F.fn 115) (hro : F.round = none) (hm : 1 ≤ m) (y B1 : Nat) (A : Option Addr) (n c : Nat) (S : List Nat) (hn0 : n ≤ 1000000)
   (M : Nat → Prop) (hM1 : M B1) (hMA : 0 < n → ∀ b o,A = some ⟨b,o,none⟩ → M b)
   (J Jx : List (BK S) → World → Prop)
   (hJR : ∀ pre W,J pre W → RdS W 1 A n ((cI S).map inCells) ∧ Bx W B1 (.slice A n c))
   (hY : ∀ pre x W,J pre W → pre.length < S.length → YieldAt F (m - 1) Tryz.prog y #[.int .i64 (x.1.1 : Nat),.int .i64 (x.1.2 : Nat)] W fun e W' =>
     (e = .returned (.bool true) ∧ J (pre ++ [x]) W' ∧ KeepM M W W' ∧ KeepT 78 W W') ∨ (e = .returned (.bool false) ∧ Jx (pre ++ [x]) W'))
   (W : World) (h0 : J [] W) :
   CallsIn F m Tryz.prog 115 #[.func (.yield y) #[] #[],.pointer (some ⟨B1,0,none⟩)] W fun e W' => (∃ v,e = .returned v) ∧
     ((∃ ys,ys = bkw S S.length ∧ J ys W') ∨ (∃ pre,pre <+: bkw S S.length ∧ Jx pre W')) := by
 have HJR := Lib.hid hJR
 have HY := Lib.hid hY
 clear hJR hY
 obtain ⟨hr,b1⟩ := HJR.out _ _ h0
 have hl : S.length = n := by have := hr.len; simpa [cI] using this
 have HR := Lib.hid hr
 clear hr
 unfold Bx at b1
 refine callsIn_of_wp Tryz.func115 rfl h115 ?_ hro
 simp only [Tryz.ntmps115,List.size_toArray,List.length_cons,List.length_nil,Nat.reduceAdd,Nat.reduceSub,Array.replicate_succ,Array.replicate_zero,List.push_toArray,List.append_toArray,List.nil_append,List.cons_append]
 gi_wp2
 gi_loopw [3] (fun i wr => ∃ k : Nat,k ≤ n ∧ i = .int .i64 ((n : Int) - 1 - k) ∧ J (bkw S k) wr)
   (fun i wr => (intOf i + 1).toNat)
 case atStart =>
   exact ⟨0,by omega,by simp,h0⟩
 case round =>
   obtain ⟨k,hk,rfl,hJ⟩ := hrel
   clear b1
   by_cases hlt : k < n
   · obtain ⟨hr,b1⟩ := HJR.out _ _ hJ
     unfold Bx at b1
     obtain ⟨s,hs⟩ : ∃ s,S[S.length - 1 - k]? = some s := ⟨_,List.getElem?_eq_getElem (by omega)⟩
     obtain ⟨b,o,rfl,c0⟩ := st_read hr (i := S.length - 1 - k) (by omega) hs
     have HJ := Lib.hid hJ
     clear hr hJ
     have hlen := bkw_len S k
     obtain ⟨i,hi⟩ : ∃ i : Nat,S.length - 1 - k = i := ⟨_,rfl⟩
     have HF := bkw_succ hs
     have e1 : (n : Int) - 1 - k = (i : Nat) := by omega
     rw [e1]
     obtain ⟨fn,tmps,assign,body,hy,hR⟩ := HY.out (bkw S k) ⟨(S.length - 1 - k,s),hs⟩ _ HJ.out (by omega)
     dsimp only at hy
     rw [hi] at hy c0
     rw [Nat.mul_one] at c0
     gi_wp2
     refine hR.mono ?_
     rintro e W3 (⟨rfl,hJ3,hk3,hT3⟩ | ⟨rfl,hJx3⟩)
     · have HJ3 := Lib.hid hJ3
       clear hJ3 hk3 hT3 b1 c0
       gi_wp2
       go_roundw
       case rel => exact ⟨k + 1,by omega,by go_num,by rw [HF]; exact HJ3.out⟩
       case measure => first | (simp [intOf]; done) | (simp [intOf]; omega)
     · clear b1 c0
       gi_wp2
       refine bodyPost_ret (results_none rfl _ _ _) rfl ?_
       exact ⟨⟨_,rfl⟩,.inr ⟨_,by rw [← HF]; exact bkw_pre _ _ _ (by omega),hJx3⟩⟩
   · obtain rfl : k = n := by omega
     have e1 : (k : Int) - 1 - k = -1 := by omega
     rw [e1]
     gi_wp2
     go_end0
     exact ⟨⟨_,rfl⟩,.inl ⟨_,by rw [hl],hJ⟩⟩
theorem bx_ext {W W' : World} {b : Nat} {v : Value} (h : Bx W b v) (e : Ext W W') : Bx W' b v := e.cell h
theorem back_stops (F : Fence) (m : Nat) (h115 : F.fn 115) (hro : F.round = none) (hm : 1 ≤ m) (B1 : Nat) (A : Option Addr) (n c : Nat) (S : List Nat) (hn0 : n ≤ 1000000)
   (M : Nat → Prop) (hM1 : M B1) (hMA : 0 < n → ∀ b o,A = some ⟨b,o,none⟩ → M b) (w : World) (h : RdS w 1 A n ((cI S).map inCells) ∧ Bx w B1 (.slice A n c)) :
   SeqStopsK F m Tryz.prog 115 #[.pointer (some ⟨B1,0,none⟩)] (fun x : BK S => #[.int .i64 (x.1.1 : Nat),.int .i64 (x.1.2 : Nat)])
     (fun U V => KeepM M U V ∧ KeepT 78 U V) (fun ys => ys = bkw S S.length) (fun pre => pre <+: bkw S S.length) S.length w := fun y J Jx W hW hJ hJx hY h0 => by
 refine (back1_in F m h115 hro hm y B1 A n c S hn0 M hM1 hMA (fun pre W => J pre W ∧ RdS W 1 A n ((cI S).map inCells) ∧ Bx W B1 (.slice A n c)) Jx (fun pre W h => h.2) ?_ W ⟨h0,h.1.ext hW,bx_ext h.2 hW⟩).mono ?_
 · intro pre x W1 hj hlen
   obtain ⟨fn,tmps,assign,body,hy,hR⟩ := hY pre x W1 hj.1 hlen
   refine ⟨fn,tmps,assign,body,hy,hR.mono ?_⟩
   rintro e W' (⟨he,hj',hk⟩ | h)
   · exact .inl ⟨he,⟨hj',hj.2.1.keep hk.1 hMA,(hk.1.cell hM1).trans hj.2.2⟩,hk⟩
   · exact .inr h
 · rintro e W' ⟨hv,⟨ys,hys,hj⟩ | h⟩
   · exact ⟨hv,.inl ⟨ys,hys,hj.1⟩⟩
   · exact ⟨hv,.inr h⟩
end Go.Proofs.YtcjkndjjbjoehaaGreat
namespace Go.Proofs.YtcjkndjjbjoehaaGreat
open Go.RowKit
theorem Has.grownM {w0 : World} {M : Ms} {H : Hp} {W W' : World} {row : Option Nat} (n0 : Nat) (nm : ∀ x ∈ H,(∀ t L,x.2.2 ≠ mapTg t L) ∨ x.1 < n0) (h : Has w0 M H W) (hg : W.grownBy W' row) (hr : ∀ r,row = some r → w0.heap.size ≤ r ∧ n0 ≤ r ∧ r ∉ M.dk ∧ ∃ o : Obj,W.heap[r]? = some o ∧ o.isCells = false) : Has w0 M H W' := by
 refine ⟨⟨hg.os.trans h.ext.os,hg.tape.trans h.ext.tape,hg.output.trans h.ext.output,Nat.le_trans h.ext.size hg.size,fun b hb hm => ?_⟩,fun x hx => ⟨(h.blk x hx).1,(h.blk x hx).2.same (hg.block _ (h.blk x hx).2.lt fun e => ?_)⟩,h.nodup,h.marks.1,fun k hk => ⟨(h.marks.2 k hk).1,?_⟩⟩
 · rw [hg.block b (Nat.lt_of_lt_of_le hb h.ext.size) (fun e => by have := (hr b e.symm).1; omega)]
   exact h.ext.block b hb hm
 · obtain ⟨_,h0,_,o,ho,hc⟩ := hr _ e.symm
   rcases nm x hx with h1 | h1
   · rcases (h.blk x hx).2 with ⟨c,t,h2,_⟩ | ⟨_,t,L,e2,_⟩
     · rw [h2] at ho; cases ho; cases hc
     · exact h1 t L e2
   · omega
 · rw [hg.block k (mark_lt (h.marks.2 k hk).2) (fun e => (hr k e.symm).2.2.1 hk)]
   exact (h.marks.2 k hk).2
section
variable {c : Cx} {F : Fr} {H : Hp} {g : Operand} {ps : Array Tmp} {assign body : Code} {α ι κ β : Type} {Q : QS}
structure RangeOkM (c : Cx) (F : Fr) (ns : List Nat) (hk : Hp) (ps : Array Tmp) (assign body : Code) (m : Nat) (encs : α → List Value) (N : Nat)
   (hp : ι → Hp) (Pi : List α → ι → Prop) (bx : α → β → Hp) (fx : α → β → Fr) (hl : κ → Hp) (Pl : Code → List α → κ → Prop) : Prop where
 size : ∀ x,(encs x).length = ps.size
 slots : (ps.toList.all fun p => Nat.blt p c.N) = true
 assign_ : ∀ (x : α) (W : World),SL0 { c with w0 := W,M := [] } assign (fun F' H' => ∃ bs,FrSub F' (fx x bs) ∧ HpSub H' (bx x bs)) (parF (ps.toList.zip (encs x)) F) []
 disj : ∀ x bs i n W D,Blks n (bx x bs) W → Has c.w0 ⟨c.M,D⟩ (hp i ++ hk) W → (∀ b ∈ ns,b < n) → ∀ y ∈ bx x bs,∀ z ∈ hp i ++ hk,y.1 ≠ z.1
 body_ : ∀ (l : Nat) (pre : List α) (x : α) (i : ι) (bs : β) (W : World) (D : List Nat),Pi pre i → Has c.w0 ⟨c.M,D⟩ (bx x bs ++ hp i ++ hk) W → pre.length < N → (∃ r,W.heap[l]? = some (.loop r)) →
   T { c with w0 := W,M := (bx x bs ++ hp i).map Prod.fst } (WS.round c.P l m) body (QB hp Pi hl Pl (pre ++ [x])) (fx x bs) (bx x bs ++ hp i)
 nob : ∀ x bs,NoM (bx x bs)
 nop : ∀ i,NoM (hp i)
 nol : ∀ j,NoM (hl j)
theorem range_assignM {m N : Nat} {ns : List Nat} {hk : Hp} {encs : α → List Value} {hp : ι → Hp} {Pi : List α → ι → Prop} {bx : α → β → Hp} {fx : α → β → Fr} {hl : κ → Hp} {Pl : Code → List α → κ → Prop}
   (R : RangeOkM c F ns hk ps assign body m encs N hp Pi bx fx hl Pl) {D : List Nat} {a : Act} (ha : Frm D c.N F a) (l : Nat) (x : α) (W : World) (n0 : Nat) (hn0 : n0 ≤ W.heap.size) (K : Act → World → Prop)
   (hK : ∀ a' W' bs,Ext W W' → Frm [] c.N (fx x bs) a' → Blks n0 (bx x bs) W' → K a' W') :
   assign.wpIn (Fence.wide.inRound l) m c.P (Exit.then K (fun _ _ _ => False)) { tmps := (ps.zip ⟨encs x⟩).foldl (fun t (p,v) => t.setIfInBounds p v) a.tmps,defers := [] } W := by
 have hF : Frm [] c.N (parF (ps.toList.zip (encs x)) F) { tmps := (ps.zip ⟨encs x⟩).foldl (fun t (p,v) => t.setIfInBounds p v) a.tmps,defers := [] } := by
   have h1 : Frm D c.N F ⟨a.tmps,D.map dmark⟩ := ⟨ha.size,rfl,ha.at_⟩
   have := Frm.par (ps.toList.zip (encs x)) (fun p hp => by
     have h2 := List.all_eq_true.1 R.slots
     exact h2 p.1 (List.of_mem_zip hp).1) h1
   have e : (ps.zip ⟨encs x⟩).foldl (fun t (p,v) => t.setIfInBounds p v) a.tmps = (ps.toList.zip (encs x)).foldl (fun t p => t.setIfInBounds p.1 p.2) a.tmps := by
     rw [← Array.foldl_toList,Array.toList_zip]
   rw [e]; exact this
 have h0 : Has W ⟨[],[]⟩ [] W := Has.start W
 refine wpIn_mono (SL0.wpIn assign (R.assign_ x W) [] _ W hF h0) fun e a' W' he => ?_
 obtain ⟨rfl,F',H',⟨bs,h1,h2⟩,h3,h4⟩ := he
 have h5 := h4.sub h2
 refine hK a' W' bs h4.ext.ext (h3.sub h1) ⟨fun y hy => ⟨?_,(h5.blk y hy).2⟩,h5.nodup⟩
 rcases (h5.blk y hy).1 with h6 | h6
 · exact Nat.le_trans hn0 h6
 · exact (List.not_mem_nil h6).elim
theorem range_bodyM (e0 : TypeId) {m N : Nat} {ns : List Nat} {hk : Hp} {encs : α → List Value} {hp : ι → Hp} {Pi : List α → ι → Prop} {bx : α → β → Hp} {fx : α → β → Fr} {hl : κ → Hp} {Pl : Code → List α → κ → Prop}
   (R : RangeOkM c F ns hk ps assign body m encs N hp Pi bx fx hl Pl) {D : List Nat} (n0 : Nat) (l : Nat) (pre : List α) (x : α) (i : ι) (bs : β) (a' : Act) (W : World) (hnt : ∀ x bs i,NoT e0 (bx x bs ++ hp i)) (hi : Pi pre i) (hw : Has c.w0 ⟨c.M,D⟩ (bx x bs ++ hp i ++ hk) W) (hlen : pre.length < N) (hr : ∃ r,W.heap[l]? = some (.loop r)) (hmi : ∀ b,MiOf c hk b → b < n0)
   (ha : Frm [] c.N (fx x bs) a') (hn : n0 ≤ W.heap.size) :
   body.wpIn (Fence.wide.inRound l) m c.P (ownPostG n0 (fun A B => KeepB (MiOf c hk) A B ∧ KeepT e0 A B) (fun xs W' => ∃ j,Pi xs j ∧ Has c.w0 ⟨c.M,D⟩ (hp j ++ hk) W' ∧ n0 ≤ W'.heap.size) (fun k xs W' => ∃ j,Pl k xs j ∧ Has c.w0 ⟨c.M,D⟩ (hl j ++ hk) W') (pre ++ [x]) W) a' W := by
 have hself : Has W ⟨(bx x bs ++ hp i).map Prod.fst,[]⟩ (bx x bs ++ hp i) W := by
   refine ⟨ExtM.refl _ _,fun y hy => ⟨.inr (List.mem_map.2 ⟨y,hy,rfl⟩),(hw.blk y (List.mem_append_left _ hy)).2⟩,?_,List.nodup_nil,fun k hk => (List.not_mem_nil hk).elim⟩
   have := hw.nodup
   rw [List.map_append,List.nodup_append] at this
   exact this.1
 have h := R.body_ l pre x i bs W D hi hw hlen hr [] a' W ha hself
 refine wpIn_mono h fun e a2 W' he => ?_
 obtain ⟨D',F',H',h1,h2,h3⟩ := he
 have hk0 : KeepsFrom n0 W W' := h3.ext.keeps (fun b hb => by
   obtain ⟨x0,hx0,rfl⟩ := List.mem_map.1 hb
   exact ((R.nob x bs).app (R.nop i)).cells hx0 (hw.blk x0 (List.mem_append_left _ hx0)).2)
 have hB : KeepB (MiOf c hk) W W' := fun b hb => h3.ext.block b (Nat.lt_of_lt_of_le (hmi b hb) hn) (fun hm => by
   rcases hb with hb | hb
   · obtain ⟨y,hy,rfl⟩ := List.mem_map.1 hm
     rcases (hw.blk y (List.mem_append_left _ hy)).1 with h4 | h4
     · omega
     · exact hb.2 h4
   · have := hw.nodup
     rw [List.map_append,List.nodup_append] at this
     exact this.2.2 _ hm _ hb rfl)
 have hT : KeepT e0 W W' := fun b cs fr hb => h3.ext.block b (Array.getElem?_eq_some_iff.1 hb).1 (fun hm => by
   obtain ⟨y,hy,rfl⟩ := List.mem_map.1 hm
   exact (hnt x bs i).cells ((R.nob x bs).app (R.nop i)) hy (hw.blk y (List.mem_append_left _ hy)).2 hb)
 have h3' : Has W ⟨(bx x bs ++ hp i).map Prod.fst,[]⟩ H' W' := ⟨h3.ext,h3.blk,h3.nodup,List.nodup_nil,fun k hk => (List.not_mem_nil hk).elim⟩
 cases e with
 | normal =>
   obtain ⟨j,hj,hs⟩ := h1
   exact ⟨hk0,⟨hB,hT⟩,j,hj,hw.comp2 (h3'.sub hs),Nat.le_trans hn h3.ext.size⟩
 | ret =>
   obtain ⟨j,hj,hs⟩ := h1
   exact ⟨hk0,j,hj,hw.comp2 (h3'.sub hs)⟩
 | exit id =>
   obtain ⟨j,hj,hs⟩ := h1
   exact ⟨hk0,j,hj,hw.comp2 (h3'.sub hs)⟩
 | goto _ => exact h1.elim
 | panic _ => exact h1.elim
 | outgrown => exact h1.elim
theorem t_rangeM (e0 : TypeId) {N m gf : Nat} {lb : List Value} {encs : α → List Value} {S Sp : List α → Prop} {hk : Hp} (hp : ι → Hp) (Pi : List α → ι → Prop) (bx : α → β → Hp) (fx : α → β → Fr) (hl : κ → Hp) (Pl : Code → List α → κ → Prop) (i0 : ι)
   (hev : ev F g = some (.func (.func gf) #[] ⟨lb⟩)) (eg : ∀ (args : Array Value) (w : World),(callFunc gf args).run c.P w = .ok (.enter gf args) w)
   (hseq : ∀ D w,Has c.w0 ⟨c.M,D⟩ H w → SeqStopsK Fence.wide (m + 1) c.P gf ⟨lb⟩ (fun x => ⟨encs x⟩) (fun A B => KeepB (MiOf c hk) A B ∧ KeepT e0 A B) S Sp N w)
   (h0 : Pi [] i0) (hH : HpSub H (hp i0 ++ hk)) (R : RangeOkM c F (H.map Prod.fst) hk ps assign body m encs N hp Pi bx fx hl Pl)
   (hnt : ∀ x bs i,NoT e0 (bx x bs ++ hp i)) (hdone : ∀ xs i,S xs → Pi xs i → Q .normal F (hp i ++ hk)) (hstop : ∀ k pre j,Sp pre → Pl k pre j → T c (WS.own c.P) k Q F (hl j ++ hk)) : T c (WS.own c.P) (.rangeFunc g ps assign body) Q F H := by
 intro D a w ha hw
 refine (wpIn_wide (n := m + 2)).1 ?_
 have hD : ∀ k ∈ D,k < w.heap.size := fun k hk => mark_lt (hw.marks.2 k hk).2
 have hkl : ∀ x ∈ hk,x.1 < w.heap.size := fun x hx => ((hw.sub hH).blk x (List.mem_append_right _ hx)).2.lt
 have stab : ∀ (X : Hp) (A B : World) (row : Option Nat),NoM X → Has c.w0 ⟨c.M,D⟩ (X ++ hk) A → A.grownBy B row → (∀ r,row = some r → w.heap.size ≤ r ∧ ∃ o : Obj,A.heap[r]? = some o ∧ o.isCells = false) → Has c.w0 ⟨c.M,D⟩ (X ++ hk) B := fun X A B row nm h hg hr =>
   Has.grownM w.heap.size (fun x hx => (List.mem_append.1 hx).imp (fun h t L => nm x h t L) (fun h => hkl x h)) h hg fun r e => ⟨Nat.le_trans hw.ext.size (hr r e).1,(hr r e).1,fun hm => by have := hD r hm; have := (hr r e).1; omega,(hr r e).2⟩
 refine wpIn_rangeFunc_ownH (F := Fence.wide) (encs := fun x => ⟨encs x⟩) (Kp := fun A B => KeepB (MiOf c hk) A B ∧ KeepT e0 A B) (S := S) (Sp := Sp) (N := N) (w0 := w) rfl (by omega) (gf := gf) (lb := ⟨lb⟩) (ha.ev hev) trivial eg (hseq D w hw) (fun h k => ⟨fun b hb => (k.1 b hb).trans (h.1 b hb),h.2.trans k.2⟩)
   (fun W l o o' hl ho hc hwk => ⟨fun b hb => by have := mi_lt hw hH b hb; exact World.putObj_heap_other (by omega),KeepT.put ho hc⟩) (Below.refl _ _) (fun x => by simpa using R.size x)
   (fun xs W' => ∃ j,Pi xs j ∧ Has c.w0 ⟨c.M,D⟩ (hp j ++ hk) W' ∧ w.heap.size ≤ W'.heap.size) (fun k xs W' => ∃ j,Pl k xs j ∧ Has c.w0 ⟨c.M,D⟩ (hl j ++ hk) W')
   (fun s A B row ⟨j,h1,h2,h3⟩ hg hr => ⟨j,h1,stab _ A B row (R.nop j) h2 hg hr,Nat.le_trans h3 hg.size⟩) (fun k s A B row ⟨j,h1,h2⟩ hg hr => ⟨j,h1,stab _ A B row (R.nol j) h2 hg hr⟩) ⟨i0,h0,hw.sub hH,Nat.le_refl _⟩
   (fun x a' W => ∃ bs,Frm [] c.N (fx x bs) a' ∧ Blks w.heap.size (bx x bs) W) (fun x a' _ A B row ⟨bs,h1,h2⟩ hg hr => ⟨bs,h1,Blks.grown (R.nob x bs) h2 hg fun r e => (hr r e).2⟩) ?_ ?_ ?_ ?_
 · intro l pre x W K ⟨j,h1,h2,h3⟩ hK
   refine range_assignM R ha l x W w.heap.size h3 K fun a' W' bs he hf hb => hK a' W' ?_ ?_ ⟨j,h1,h2.grow he,Nat.le_trans h3 he.size⟩ ⟨bs,hf,hb⟩
   · exact (he.toM []).keeps (fun b hb => (List.not_mem_nil hb).elim)
   · exact ⟨fun b hb => he.block b (Nat.lt_of_lt_of_le (mi_lt hw hH b hb) h3),fun b cs fr hb => he.block b (Array.getElem?_eq_some_iff.1 hb).1⟩
 · intro l pre x a' W hl' hr ⟨j,h1,h2,h3⟩ ⟨bs,h4,h5⟩ hlen
   have hj := h2.join h5 hw.ext.size (R.disj x bs j _ W D h5 h2 (fun b hb => by obtain ⟨y,hy,rfl⟩ := List.mem_map.1 hb; exact (hw.blk y hy).2.lt))
   rw [← List.append_assoc] at hj
   exact range_bodyM e0 R w.heap.size l pre x j bs a' W hnt h1 hj hlen hr (fun b hb => mi_lt hw hH b hb) h4 h3
 · intro D' xs W hD' hS ⟨j,h1,h2,h3⟩ hm
   refine ⟨D' :: D,F,hp j ++ hk,hdone xs j hS h1,⟨ha.size,by simp [ha.defers,dmark],ha.at_⟩,h2.ext,h2.blk,h2.nodup,List.nodup_cons.2 ⟨fun hmem => by have := hD _ hmem; omega,h2.marks.1⟩,fun k hk => ?_⟩
   rcases List.mem_cons.1 hk with rfl | hk
   · exact ⟨Nat.le_trans hw.ext.size hD',hm⟩
   · exact h2.marks.2 k hk
 · intro D' k pre W hD' hS ⟨j,h1,h2⟩ hm
   refine wpIn_wide.2 (hstop k pre j hS h1 (D' :: D) _ W ⟨ha.size,by simp [ha.defers,dmark],ha.at_⟩ ⟨h2.ext,h2.blk,h2.nodup,List.nodup_cons.2 ⟨fun hmem => by have := hD _ hmem; omega,h2.marks.1⟩,fun k hk => ?_⟩)
   rcases List.mem_cons.1 hk with rfl | hk
   · exact ⟨Nat.le_trans hw.ext.size hD',hm⟩
   · exact h2.marks.2 k hk
end
end Go.Proofs.YtcjkndjjbjoehaaGreat
namespace Go.Proofs.YtcjkndjjbjoehaaGreat
open Go.RowKit
attribute [local irreducible] OQ OS OX Rd T TL GX GL AL AI RV wpG SAny Calls
def wtS (need : Nat → Pl) (cst : Nat × Bool → Int) (q : Int) (g : List (Nat × Bool)) : Option Int → Nat × Nat → Option Int
 | none,_ => none
 | some w,x => match need x.2 with
   | none => none
   | some a => match g[x.1]? with
     | none => some (max w (a.1 + q))
     | some y => if cst y < 0 then none else some (max (w + cst y) (a.1 + q))
def wtF (need : Nat → Pl) (cst : Nat × Bool → Int) (q : Int) (g : List (Nat × Bool)) {S : List Nat} (l : List (BK S)) : Option Int := l.foldl (fun w x => wtS need cst q g w x.1) (some 0)
theorem wtF_snoc {need : Nat → Pl} {cst : Nat × Bool → Int} {q : Int} {g : List (Nat × Bool)} {S : List Nat} (l : List (BK S)) (x : BK S) : wtF need cst q g (l ++ [x]) = wtS need cst q g (wtF need cst q g l) x.1 := by simp [wtF]
theorem wtF_pre {need : Nat → Pl} {cst : Nat × Bool → Int} {q : Int} {g : List (Nat × Bool)} {S : List Nat} {l k : List (BK S)} (h : l <+: k) (hn : wtF need cst q g l = none) : wtF need cst q g k = none := by
 obtain ⟨r,rfl⟩ := h
 unfold wtF at *
 rw [List.foldl_append,hn]
 induction r with
 | nil => rfl
 | cons a r ih => exact ih
theorem wtF_lb {need : Nat → Pl} {cst : Nat × Bool → Int} {q : Int} {g : List (Nat × Bool)} {S : List Nat} : ∀ k,k ≤ S.length → wtF need cst q g (bkw S k) = lbF need cst q (S.drop (S.length - k)) (g.drop (S.length - k))
 | 0,_ => by rw [Nat.sub_zero,List.drop_length]; rfl
 | k + 1,h => by
   obtain ⟨s,hs⟩ : ∃ s,S[S.length - 1 - k]? = some s := ⟨_,List.getElem?_eq_getElem (by omega)⟩
   rw [bkw_succ hs,wtF_snoc,wtF_lb k (by omega)]
   have e : S.length - (k + 1) = S.length - 1 - k := by omega
   rw [e,List.drop_eq_getElem_cons (show S.length - 1 - k < S.length by omega),(List.getElem?_eq_some_iff.1 hs).2]
   have e2 : S.length - 1 - k + 1 = S.length - k := by omega
   simp only [lbF,List.tail_drop]
   rw [e2]
   cases lbF need cst q (S.drop (S.length - k)) (g.drop (S.length - k)) with
   | none => rfl
   | some w =>
     simp only [wtS]
     cases need s with
     | none => rfl
     | some a =>
       simp only
       rcases Nat.lt_or_ge (S.length - 1 - k) g.length with hlt | hge
       · rw [List.drop_eq_getElem_cons hlt,List.getElem?_eq_getElem hlt]
       · rw [List.drop_of_length_le hge,List.getElem?_eq_none hge]
noncomputable def lstE (m : Nat) (L : List Lg) (T : List Bool) (v q1 q2 q3 q4 : Int) (g0 g1 : Nat) (C : List Wn) (p : Trp) : Int × Int := (match lbF (fun s => (plansF (arcs (legC v q1 q2 q3 g0 g1 C) L) m (fun s => T.getD s false) m).getD s none) (flC v q1 q2 q3 g0 g1 C L) q4 p.2 p.1 with | none => (0,6) | some t => if t > 1099511627776 then (0,6) else (t,0))
def FunV (A : Option Addr) (n c : Nat) (u : Value) (H : Hp) : Prop := ∃ b,u = .func (.func 115) #[] #[.pointer (some ⟨b,0,none⟩)] ∧ H = [(b,[.slice A n c],some (31,1,1))]
theorem back80_calls (A : Option Addr) (n c : Nat) (w : World) : Calls Tryz.prog 80 #[.slice A n c] w fun e w' => ∃ u H',e = .returned u ∧ FunV A n c u H' ∧ Has w ⟨[],[]⟩ H' w' := by
 refine enterF (c := cx w 4) Tryz.func80 rfl rfl rfl rfl ?_
 repeat' (first | ((with_reducible apply oq_id); first | (apply oq_fn; exact rfl; first | exact trivial | (constructor <;> omega) | omega | skip)) | ((with_reducible apply tl_id); first | (with_reducible apply tl_nil) | ((with_reducible apply u_q); (iterate 4 exact rfl)) | ((with_reducible apply u_s); (iterate 3 exact rfl))) | ((with_reducible apply os_id); first | ((with_reducible apply os_x); exact rfl)) | ((with_reducible apply ox_id); first | ((with_reducible apply ox_box); exact rfl; exact rfl; intro _)) | ((with_reducible apply t_id); first | (with_reducible apply t_seq) | (apply t_region; kernel_rfl) | (with_reducible apply t_ret)) | with_reducible apply q_thenN | (with_reducible apply end_ret) | exact rvs_nil | (with_reducible apply rvs_cons) | ((with_reducible apply rv_tmp); exact rfl))
 all_goals (rename_i b; exact ⟨_,⟨b,rfl,rfl⟩,HpSub.refl _⟩)
theorem least31_err (AM A : Option Addr) (m cM n cp : Nat) (L : List Lg) (w : World) (hr : RdS w 5 A n (L.map lgCells)) (hn : n ≤ 1000000) (hm : m ≤ 1000000) (v q1 q2 q3 q4 g0 g1 : Int) (AC : Option Addr) (nC cC : Nat) (C : List Wn) (hrc : CastR w AC nC C) (hs : ∀ z ∈ C,z.n ≤ 1000000) (s : Int) (AR : Option Addr) (nR cR : Nat) (rs : List Int) (hR : RdS w 1 AR nR (rs.map inCells)) (hnR : nR ≤ 1000000) (he : ledE m L v q1 q2 q3 q4 g0 g1 C s rs ≠ 0) : Calls Tryz.prog 31 #[.agg #[.slice AM m cM,.slice A n cp],.agg #[.int .i64 v,.int .i64 q1,.int .i64 q2,.int .i64 q3,.int .i64 q4,.int .i64 g0,.int .i64 g1],.slice AC nC cC,.int .i64 s,.slice AR nR cR] w fun e w' => e = .returned (.tuple #[.int .i64 0,.int .i64 (ledE m L v q1 q2 q3 q4 g0 g1 C s rs)]) ∧ Ext w w' := by
 have HN := fun w1 (hx : Ext w w1) => travel_err AM A m cM n cp L w1 (hr.ext hx) hn hm v q1 q2 q3 q4 g0 g1 AC nC cC C (hrc.ext hx) hs s AR nR cR rs (hR.ext hx) hnR he
 generalize ledE m L v q1 q2 q3 q4 g0 g1 C s rs = e0 at *
 refine enterQ (c := cx w 89) Tryz.func31 rfl rfl rfl rfl ?_
 repeat' (first | ((with_reducible apply oq_id); first | ((with_reducible apply oq_neqT); exact rfl; exact rfl; omega) | (apply oq_fn; exact rfl; first | exact trivial | (constructor <;> omega) | omega | skip) | ((with_reducible apply oq_loadAgg); exact rfl; exact rfl) | ((with_reducible apply oq_call (hc := Tryz.call57)); exact rfl; exact rfl; exact fun D w1 hw1 => HN w1 hw1.ext.ext)) | ((with_reducible apply tl_id); first | (with_reducible apply tl_nil) | ((with_reducible apply u_q); (iterate 4 exact rfl)) | ((with_reducible apply u_s0); exact rfl; exact rfl) | ((with_reducible apply u_s); (iterate 3 exact rfl))) | ((with_reducible apply os_id); first | ((with_reducible apply os_x); exact rfl) | ((with_reducible apply os_store); (iterate 4 exact rfl))) | ((with_reducible apply ox_id); first | ((with_reducible apply ox_alloc); exact rfl; intro _) | ((with_reducible apply ox_boxAgg); exact rfl; intro _)) | ((with_reducible apply rd_id); first | (apply Rd.own; (repeat first | exact P0 | apply P1); exact rfl; done)) | ((with_reducible apply t_id); first | (with_reducible apply t_seq) | (apply t_region; kernel_rfl) | ((with_reducible apply t_condT); exact rfl) | (with_reducible apply t_ret)) | with_reducible apply q_thenN | with_reducible apply q_thenR | exact P0 | (with_reducible apply P1) | exact Rdn.zero | apply Rdn.succ | ((with_reducible apply Norm.nil); exact rfl) | ((with_reducible apply Norm.cons); exact rfl) | (with_reducible apply end_ret) | exact rvs_nil | (with_reducible apply rvs_cons) | ((with_reducible apply rv_cell); exact rfl; exact rfl) | exact Nat.le_of_ble_eq_true rfl)
 all_goals rfl
theorem sub_left {A B G : Hp} (h : HpSub A G) : HpSub (A ++ B) G := HpSub.tr HpSub.appLeft h
theorem Has.noD {w0 : World} {X D : List Nat} {H : Hp} {W : World} (h : Has w0 ⟨X,D⟩ H W) : Has w0 ⟨X,[]⟩ H W := ⟨h.ext,h.blk,h.nodup,List.nodup_nil,fun k hk => (List.not_mem_nil hk).elim⟩
theorem least31_ok (AM A : Option Addr) (m cM n cp : Nat) (L : List Lg) (w : World) (hr : RdS w 5 A n (L.map lgCells)) (hn : n ≤ 1000000) (hm : m ≤ 1000000) (v q1 q2 q3 q4 : Int) (g0 g1 : Nat) (AC : Option Addr) (nC cC : Nat) (C : List Wn) (hrc : CastR w AC nC C) (hs : ∀ z ∈ C,z.n ≤ 1000000) (s : Int) (AR : Option Addr) (nR cR : Nat) (rs : List Int) (hR : RdS w 1 AR nR (rs.map inCells)) (hnR : nR ≤ 1000000) (hE : askE m L v q1 q2 q3 q4 (g0 : Nat) (g1 : Nat) C = 0) (h20 : rs.length ≤ 20) (p : Trp) (htr : tripI m L s rs = some p) (T : List Bool) (hT : RdS w 1 AM m (T.map blCells)) : Calls Tryz.prog 31 #[.agg #[.slice AM m cM,.slice A n cp],.agg #[.int .i64 v,.int .i64 q1,.int .i64 q2,.int .i64 q3,.int .i64 q4,.int .i64 (g0 : Nat),.int .i64 (g1 : Nat)],.slice AC nC cC,.int .i64 s,.slice AR nR cR] w fun e w' => e = .returned (.tuple #[.int .i64 (lstE m L T v q1 q2 q3 q4 g0 g1 C p).1,.int .i64 (lstE m L T v q1 q2 q3 q4 g0 g1 C p).2]) ∧ Ext w w' := by
 have HO := fun w1 (hx : Ext w w1) => travel_ok AM A m cM n cp L w1 (hr.ext hx) hn hm v q1 q2 q3 q4 g0 g1 AC nC cC C (hrc.ext hx) hs s AR nR cR rs (hR.ext hx) hnR hE h20
 rw [htr] at HO
 obtain ⟨hch,hpk,hk0⟩ := askE_ok hE
 obtain ⟨hcl,hcw⟩ := castE_zero.1 hk0
 have hlc := hrc.len
 obtain ⟨hm1,hL40,hLk⟩ := chartB_iff.1 hch
 have hl : L.length = n := by simpa using hr.len
 have hTI := trip_in hLk htr
 have HA := fun bD bM E w1 (hx : Ext w w1) hd hE2 => alternates_calls bD bM AM A m cM n cp L v q1 q2 q3 q4 g0 g1 E C w1 hd hE2 (hr.ext hx) (by omega) (by omega) hLk hpk hcw (by omega) T (hT.ext hx)
 have hbd := fun s a (h : (plansF (arcs (legC v q1 q2 q3 g0 g1 C) L) m (fun s => T.getD s false) m).getD s none = some a) => need_bound hpk hcw hLk (by omega) h
 obtain ⟨hg1,hg2,hg3,hg4⟩ := hTI
 have hleg : ∀ (i : Nat) (x : Nat × Bool),p.1[i]? = some x → ∃ z,L[x.1]? = some z := fun i x hx => by
   have hi := (List.getElem?_eq_some_iff.1 hx).1
   obtain ⟨r',hr'⟩ : ∃ r',rs[i]? = some r' := ⟨_,List.getElem?_eq_getElem (by omega)⟩
   obtain ⟨z,t,bk,_,_,e1,_,e3,_⟩ := hg4 i r' hr'
   rw [hx] at e1
   obtain rfl := Option.some.inj e1
   exact ⟨z,e3⟩
 obtain ⟨_,_,_,_,p5,_⟩ := id hpk
 unfold lstE
 have hWL := wtF_lb (need := (fun s => (plansF (arcs (legC v q1 q2 q3 g0 g1 C) L) m (fun s => T.getD s false) m).getD s none)) (cst := (flC v q1 q2 q3 g0 g1 C L)) (q := q4) (g := p.1) (S := p.2) p.2.length (Nat.le_refl _)
 rw [Nat.sub_self,List.drop_zero,List.drop_zero] at hWL
 rw [← hWL]
 refine enterQ (c := cx w 89) Tryz.func31 rfl rfl rfl rfl ?_
 repeat' (first | ((with_reducible apply oq_id); first | ((with_reducible apply oq_neqF); exact rfl; exact rfl; omega) | (apply oq_fn; exact rfl; first | exact trivial | (constructor <;> omega) | omega | skip) | ((with_reducible apply oq_load); exact rfl; exact rfl) | ((with_reducible apply oq_loadAgg); exact rfl; exact rfl)) | ((with_reducible apply tl_id); first | (with_reducible apply tl_nil) | ((with_reducible apply u_s); (iterate 3 exact rfl); (with_reducible apply os_callS (PV := TravV AM _ m cM n cp v q1 q2 q3 q4 g0 g1 C L (some p)) (hc := Tryz.call57)); exact rfl; exact rfl; exact fun D w1 hw1 => HO w1 hw1.ext.ext; rintro _ _ ⟨bT,bD,bM,bS,cS,E,o,rfl,ho,rfl,hE2,hnl⟩; simp only [TrvH,dkH,List.cons_append,List.nil_append]) | ((with_reducible apply u_s); (iterate 3 exact rfl); (with_reducible apply os_callS (PV := PlansV _ m) (hc := Tryz.call74)); exact rfl; exact rfl; exact fun D w1 hw1 => HA bD bM E w1 hw1.ext.ext (DskR.of_has (hw1.sub (by unfold dkH; repeat (first | exact HpSub.refl _ | apply HpSub.skipX | apply HpSub.skipApp))) hnl) hE2; rintro _ _ ⟨l,P,g,c,hlp,hlP,rfl,rfl⟩; simp only [List.cons_append,List.nil_append]) | ((with_reducible apply u_s); (iterate 3 exact rfl); (with_reducible apply os_callF (PV := FunV (some ⟨bS,0,none⟩) p.2.length cS) (hc := Tryz.call80)); exact rfl; exact rfl; exact fun D w1 hw1 => back80_calls _ _ _ w1; rintro _ _ ⟨bB,rfl,rfl⟩; simp only [List.cons_append,List.nil_append]) | ((with_reducible apply u_q); (iterate 4 exact rfl)) | ((with_reducible apply u_s0); exact rfl; exact rfl) | ((with_reducible apply u_s); (iterate 3 exact rfl))) | ((with_reducible apply os_id); first | ((with_reducible apply os_x); exact rfl) | ((with_reducible apply os_store); (iterate 4 exact rfl))) | ((with_reducible apply ox_id); first | ((with_reducible apply ox_alloc); exact rfl; intro _) | ((with_reducible apply ox_boxAgg); exact rfl; intro _)) | ((with_reducible apply rd_id); first | (apply Rd.own; (repeat first | exact P0 | apply P1); exact rfl; done)) | ((with_reducible apply t_id); first | (with_reducible apply t_seq) | (apply t_region; kernel_rfl) | ((with_reducible apply t_condF); exact rfl) | (with_reducible apply t_skip) | (with_reducible apply t_block)) | with_reducible apply q_thenN | exact P0 | exact Rdn.zero | apply Rdn.succ | ((with_reducible apply Norm.nil); exact rfl) | ((with_reducible apply Norm.cons); exact rfl) | exact Nat.le_of_ble_eq_true rfl)
 rename_i b5 b6 b10 b11 b12 b14 b15
 have hll : l.length = m := by have := congrArg List.length hlp; simpa [plansF_len] using this
 refine t_rangeM 78 (m := 1) (N := p.2.length) (α := BK p.2) (β := Unit) (κ := Unit) (ι := Int) (S := fun xs => xs = bkw p.2 p.2.length) (Sp := fun pre => pre <+: bkw p.2 p.2.length)
   (encs := fun x => [.int .i64 (x.1.1 : Nat),.int .i64 (x.1.2 : Nat)])
   (hk := (bB,[.slice (some ⟨bS,0,none⟩) p.2.length cS],some (31,1,1)) :: (b14,[.slice (some ⟨g,0,none⟩) m c],some (132,1,1)) :: (b12,[.pointer (some ⟨bT,0,none⟩)],some (112,1,1)) :: (b6,[.int .i64 v,.int .i64 q1,.int .i64 q2,.int .i64 q3,.int .i64 q4,.int .i64 (g0 : Nat),.int .i64 (g1 : Nat)],some (29,7,1)) :: (bT,[.pointer (some ⟨bD,0,none⟩),.slice (some ⟨bS,0,none⟩) p.2.length cS,flS p.1 o],some (147,3,1)) :: (bS,(cI p.2).map iv,some (3,1,cS)) :: ((flH p.1 o ++ ((bD,dkC AM A m cM n cp v q1 q2 q3 q4 (g0 : Nat) (g1 : Nat) bM,some (172,10,1)) :: (bM,[],mapTg 170 (enM E)) :: enH E)) ++ ((g,(l.map pnCells).flatten,some (131,3,c)) :: poolH P)))
   (fun z => [(b15,[.int .i64 z],some (3,1,1)),(b10,[.int .i64 0],some (3,1,1)),(b11,[.int .i64 0],some (35,1,1))]) (fun pre z => wtF (fun s => (plansF (arcs (legC v q1 q2 q3 g0 g1 C) L) m (fun s => T.getD s false) m).getD s none) (flC v q1 q2 q3 g0 g1 C L) q4 p.1 pre = some z ∧ 0 ≤ z ∧ z ≤ 4000000000000 + (pre.length : Int) * 166666666667) (fun x b => [])
   (fun x b => [(16,.int .i64 (x.1.1 : Nat)),(17,.int .i64 (x.1.2 : Nat)),(6,.pointer (some ⟨b6,0,none⟩)),(10,.pointer (some ⟨b10,0,none⟩)),(11,.pointer (some ⟨b11,0,none⟩)),(12,.pointer (some ⟨b12,0,none⟩)),(14,.pointer (some ⟨b14,0,none⟩)),(15,.pointer (some ⟨b15,0,none⟩))]) (fun _ => [(b10,[.int .i64 0],some (3,1,1)),(b11,[.int .i64 6],some (35,1,1))]) (fun k pre _ => k = .ret ∧ wtF (fun s => (plansF (arcs (legC v q1 q2 q3 g0 g1 C) L) m (fun s => T.getD s false) m).getD s none) (flC v q1 q2 q3 g0 g1 C L) q4 p.1 pre = none) 0 rfl Tryz.call115 ?seq ⟨rfl,Int.le_refl _,by simp only [List.length_nil]; omega⟩ ?sub ?ok ?nt ?done ?stop
 case sub =>
   simp only [List.cons_append,List.nil_append]
   (repeat' (first | exact HpSub.refl _ | (apply HpSub.consE; (repeat first | exact P0 | apply P1); first | exact rfl | (simp; done) | skip) | apply HpSub.skipX))
 case nt =>
   intro x b z
   exact (TyO.cons (TyO.cons (TyO.cons TyO.nil))).noT
 case seq =>
   intro D w1 hw1
   refine back_stops Fence.wide 2 trivial rfl (by omega) bB (some ⟨bS,0,none⟩) p.2.length cS p.2 (by omega) _ (.inr (by simp)) (fun h0 b o h => .inr (by cases h; simp)) w1 ⟨?_,?_⟩
   · exact in_rows1 (by simp [cI]) hw1 (by (repeat first | exact P0 | apply P1))
   · exact hw1.cellAt (by (repeat first | exact P0 | apply P1)) rfl
 case ok =>
   refine ⟨fun _ => rfl,rfl,fun x W => ?_,fun x b i k W D hb hw _ y hy => (by cases hy),fun l' pre x z b W D hi hw hlt' hl' => ?_,fun x b => NoM.nil,fun z => (TyO.cons (e := 0) (TyO.cons (TyO.cons TyO.nil))).noM,fun _ => (TyO.cons (e := 0) (TyO.cons TyO.nil)).noM⟩
   · refine sl0_seq (sl0_region (by kernel_rfl) ?_)
     repeat' (first | ((with_reducible apply oq_id); first | (apply oq_fn; exact rfl; first | exact trivial | (constructor <;> omega) | omega | skip)) | ((with_reducible apply tl_id); first | (with_reducible apply tl_nil) | ((with_reducible apply u_q); (iterate 4 exact rfl))))
     refine sl0_region (by kernel_rfl) ?_
     repeat' (first | ((with_reducible apply oq_id); first | (apply oq_fn; exact rfl; first | exact trivial | (constructor <;> omega) | omega | skip)) | ((with_reducible apply tl_id); first | (with_reducible apply tl_nil) | ((with_reducible apply u_q); (iterate 4 exact rfl))))
     refine ⟨(),?_,?_⟩
     · (repeat (first | exact FrSub.nil | (apply FrSub.cons; exact rfl)))
     · exact HpSub.nil
   · obtain ⟨⟨i,s⟩,hxs⟩ := x
     obtain ⟨hi1,hi2,hi3⟩ := hi
     simp only at hxs
     have hil := (List.getElem?_eq_some_iff.1 hxs).1
     have hsm := hg3 s (List.mem_of_getElem? hxs)
     obtain ⟨y,hyl⟩ : ∃ y,l[s]? = some y := ⟨_,List.getElem?_eq_getElem (by omega)⟩
     have hyp := getD_map hlp hyl
     have hst := wtF_snoc (need := (fun s => (plansF (arcs (legC v q1 q2 q3 g0 g1 C) L) m (fun s => T.getD s false) m).getD s none)) (cst := (flC v q1 q2 q3 g0 g1 C L)) (q := q4) (g := p.1) pre ⟨(i,s),hxs⟩
     rw [hi1] at hst
     simp only [wtS] at hst
     have hoff := fun b (hb : b ∈ (((bB,[.slice (some ⟨bS,0,none⟩) p.2.length cS],some (31,1,1)) :: (b14,[.slice (some ⟨g,0,none⟩) m c],some (132,1,1)) :: (b12,[.pointer (some ⟨bT,0,none⟩)],some (112,1,1)) :: (b6,[.int .i64 v,.int .i64 q1,.int .i64 q2,.int .i64 q3,.int .i64 q4,.int .i64 (g0 : Nat),.int .i64 (g1 : Nat)],some (29,7,1)) :: (bT,[.pointer (some ⟨bD,0,none⟩),.slice (some ⟨bS,0,none⟩) p.2.length cS,flS p.1 o],some (147,3,1)) :: (bS,(cI p.2).map iv,some (3,1,cS)) :: ((flH p.1 o ++ ((bD,dkC AM A m cM n cp v q1 q2 q3 q4 (g0 : Nat) (g1 : Nat) bM,some (172,10,1)) :: (bM,[],mapTg 170 (enM E)) :: enH E)) ++ ((g,(l.map pnCells).flatten,some (131,3,c)) :: poolH P))) : Hp).map Prod.fst) => hw.off (X := [] ++ [(b15,[.int .i64 z],some (3,1,1)),(b10,[.int .i64 0],some (3,1,1)),(b11,[.int .i64 0],some (35,1,1))]) hb
     have HFx := fun (t : Nat) (bk : Bool) (zt : Lg) (hz : L[t]? = some zt) D1 w1 H1 (h1 : Has W ⟨(([] ++ [(b15,[.int .i64 z],some (3,1,1)),(b10,[.int .i64 0],some (3,1,1)),(b11,[.int .i64 0],some (35,1,1))]) : Hp).map Prod.fst,D1⟩ H1 w1) => (by
       have h2 := hw.comp2 h1.noD
       exact fuel_calls bD bM AM A m cM n cp v q1 q2 q3 q4 g0 g1 E C L t zt bk w1 (DskR.of_has (h2.sub (HpSub.skipApp (by unfold dkH; (repeat apply HpSub.skipX); exact sub_left (HpSub.skipApp (HpSub.refl _))))) hnl) hE2 (hr.ext h2.ext.ext) (by omega) (by have := (List.getElem?_eq_some_iff.1 hz).1; omega) hz (hLk zt (List.mem_of_getElem? hz)) hpk hcw (by omega))
     have hwk := hw.sub (HpSub.skipApp (HpSub.refl _))
     have c0 : W.cell? ⟨b12,0,none⟩ = some (.pointer (some ⟨bT,0,none⟩)) := hwk.cellAt (by (repeat (first | exact P0 | (with_reducible apply pick_app) | (with_reducible apply P1)))) rfl
     have c1 : W.cell? ⟨b14,0,none⟩ = some (.slice (some ⟨g,0,none⟩) m c) := hwk.cellAt (by (repeat (first | exact P0 | (with_reducible apply pick_app) | (with_reducible apply P1)))) rfl
     have c2 : W.cell? ⟨b6,0 + 4,none⟩ = some (.int .i64 q4) := hwk.cellAt (by (repeat (first | exact P0 | (with_reducible apply pick_app) | (with_reducible apply P1)))) rfl
     have c3 : W.cell? ⟨bT,0,none⟩ = some (.pointer (some ⟨bD,0,none⟩)) := hwk.cellAt (by (repeat (first | exact P0 | (with_reducible apply pick_app) | (with_reducible apply P1)))) rfl
     have c4 : W.cell? ⟨bT,0 + 2,none⟩ = some (flS p.1 o) := hwk.cellAt (by (repeat (first | exact P0 | (with_reducible apply pick_app) | (with_reducible apply P1)))) rfl
     have c6 : W.cell? ⟨g,0 + s * 3,none⟩ = some (.int .i64 (plF y.p)) := hwk.cellAt (by (repeat (first | exact P0 | (with_reducible apply pick_app) | (with_reducible apply P1)))) (pn_at hyl).1
     have c8 : W.cell? ⟨g,0 + s * 3 + 2,none⟩ = some (.bool y.p.isNone) := hwk.cellAt (by (repeat (first | exact P0 | (with_reducible apply pick_app) | (with_reducible apply P1)))) (pn_at hyl).2.2
     have m0 := hoff b12 (by simp)
     have m1 := hoff b14 (by simp)
     have m2 := hoff b6 (by simp)
     have m3 := hoff bT (by simp)
     have m4 := hoff g (by simp)
     have hfl : ∃ AG cG,flS p.1 o = .slice AG p.1.length cG ∧ ∀ t bk,p.1[i]? = some (t,bk) → ∃ bG,AG = some ⟨bG,0,none⟩ ∧ W.cell? ⟨bG,0 + i * 2,none⟩ = some (.int .i64 (t : Nat)) ∧ W.cell? ⟨bG,0 + i * 2 + 1,none⟩ = some (.bool bk) ∧ bG ∉ (([] ++ [(b15,[.int .i64 z],some (3,1,1)),(b10,[.int .i64 0],some (3,1,1)),(b11,[.int .i64 0],some (35,1,1))]) : Hp).map Prod.fst := by
       rcases o with _ | ⟨bL,cL⟩
       · have e := ho rfl
         exact ⟨none,0,by rw [e]; rfl,fun t bk h => by rw [e] at h; cases h⟩
       · refine ⟨some ⟨bL,0,none⟩,cL,rfl,fun t bk h => ⟨bL,rfl,?_⟩⟩
         have hrg : RdS W 2 (some ⟨bL,0,none⟩) p.1.length (p.1.map flCells) := fl_own hwk (by (repeat (first | exact P0 | (with_reducible apply pick_app) | (with_reducible apply P1))))
         obtain ⟨b',o',t',bk',e1,e2,e3,e4⟩ := fl_read hrg (List.getElem?_eq_some_iff.1 h).1
         cases e1
         rw [h] at e2
         obtain ⟨rfl,rfl⟩ := Prod.mk.inj (Option.some.inj e2)
         exact ⟨e3,e4,hoff bL (by simp [flH])⟩
     obtain ⟨AG,cG,hAG,hAG2⟩ := hfl
     rw [hAG] at c4
     have hb0 := fun a (h : y.p = some a) => hbd s a (hyp.trans h)
     obtain ⟨yp,yA,yn,yc⟩ := y
     simp only at hyp c6 c8 hb0
     rw [hyp] at hst
     simp only [List.cons_append,List.nil_append]
     rcases yp with _ | a
     · simp only at hst
       repeat' (first | ((with_reducible apply oq_id); first | (focus ((with_reducible apply oq_indexAddrN (i := s)); (iterate 4 exact rfl); omega)) | (apply oq_fn; exact rfl; first | exact trivial | (constructor <;> omega) | omega | skip) | ((with_reducible apply oq_load); exact rfl; exact rfl)) | ((with_reducible apply tl_id); first | (with_reducible apply tl_nil) | ((with_reducible apply u_q); (iterate 4 exact rfl)) | ((with_reducible apply u_s0); exact rfl; exact rfl)) | ((with_reducible apply os_id); first | ((with_reducible apply os_store); (iterate 4 exact rfl))) | ((with_reducible apply rd_id); first | (apply Rd.old; (first | (with_reducible assumption) | exact c0 | exact c1 | exact c2 | exact c3 | exact c4 | exact c5 | exact c6 | exact c7 | exact c8 | exact d0 | exact d1 | exact d2 | exact d3 | exact d4 | exact d5); first | exact List.not_mem_nil | exact m0 | exact m1 | exact m2 | exact m3 | exact m4 | exact m5 | exact m6 | exact m7 | exact m8 | exact m9)) | ((with_reducible apply t_id); first | (with_reducible apply t_seq) | (apply t_region; kernel_rfl) | ((with_reducible apply t_condT); exact rfl) | (with_reducible apply t_ret) | (with_reducible apply t_block)) | with_reducible apply q_thenN | with_reducible apply q_thenR | with_reducible apply q_blockR | exact P0 | (with_reducible apply P1) | ((with_reducible apply Norm.nil); exact rfl) | ((with_reducible apply Norm.cons); exact rfl) | exact Nat.le_of_ble_eq_true rfl)
       all_goals (refine ⟨(),⟨rfl,hst⟩,?_⟩; (repeat' (first | exact HpSub.refl _ | (apply HpSub.consE; (repeat first | exact P0 | apply P1); first | exact rfl | (simp; done) | skip) | apply HpSub.skipX)))
     obtain ⟨ha0,ha1,_⟩ := hb0 a rfl
     simp only at hst
     rcases hgi : p.1[i]? with _ | ⟨t,bk⟩
     · have hge : p.1.length ≤ i := List.getElem?_eq_none_iff.1 hgi
       rw [hgi] at hst
       simp only at hst
       repeat' (first | ((with_reducible apply oq_id); first | (focus ((with_reducible apply oq_indexAddrN (i := s)); (iterate 4 exact rfl); omega)) | (focus ((with_reducible apply (oq_addE (m := a.1) (n := q4) (k := a.1 + q4))); exact rfl; exact rfl; omega)) | (focus ((with_reducible apply (oq_max2E (k := max z (a.1 + q4)))); exact rfl; exact rfl; rfl)) | ((with_reducible apply oq_lssF); exact rfl; exact rfl; omega) | (apply oq_fn; exact rfl; first | exact trivial | (constructor <;> omega) | omega | skip) | ((with_reducible apply oq_load); exact rfl; exact rfl)) | ((with_reducible apply tl_id); first | (with_reducible apply tl_nil) | ((with_reducible apply u_q); (iterate 4 exact rfl))) | ((with_reducible apply gx_id); first | (with_reducible apply v_nil) | ((with_reducible apply v_q); (iterate 3 exact rfl))) | ((with_reducible apply os_id); first | ((with_reducible apply os_store); (iterate 4 exact rfl))) | ((with_reducible apply ai_id); first | ((with_reducible apply ai_s0); (iterate 4 exact rfl))) | ((with_reducible apply rd_id); first | (apply Rd.own; (repeat first | exact P0 | apply P1); exact rfl; done) | (apply Rd.old; (first | (with_reducible assumption) | exact c0 | exact c1 | exact c2 | exact c3 | exact c4 | exact c5 | exact c6 | exact c7 | exact c8 | exact d0 | exact d1 | exact d2 | exact d3 | exact d4 | exact d5); first | exact List.not_mem_nil | exact m0 | exact m1 | exact m2 | exact m3 | exact m4 | exact m5 | exact m6 | exact m7 | exact m8 | exact m9)) | ((with_reducible apply t_id); first | (apply t_mix (id := 16) [0,1,2,3,4,5,6,7,8,9] 1 #[false,false,false,false,false,false,false,false,false,false,true]; kernel_rfl; kernel_rfl; exact rfl) | (with_reducible apply t_seq) | (apply t_region; kernel_rfl) | ((with_reducible apply t_condF); exact rfl) | (with_reducible apply t_skip) | (with_reducible apply t_block)) | with_reducible apply q_thenN | with_reducible apply q_blockN | exact P0 | ((with_reducible apply Norm.nil); exact rfl) | ((with_reducible apply Norm.cons); exact rfl) | ((with_reducible apply al_id); first | (apply al_done; decide +kernel) | (apply al_one 10; decide +kernel)) | exact Nat.le_of_ble_eq_true rfl)
       all_goals (refine ⟨max z (a.1 + q4),⟨hst,by omega,by simp only [List.length_append,List.length_singleton]; omega⟩,?_⟩; (repeat' (first | exact HpSub.refl _)))
     have hlt := (List.getElem?_eq_some_iff.1 hgi).1
     obtain ⟨bG,rfl,e0,e1,m5⟩ := hAG2 t bk hgi
     obtain ⟨zt,hz⟩ := hleg i (t,bk) hgi
     have HFx := HFx t bk zt hz
     unfold fuelV at HFx
     have hcb := (legC_le hcw hpk (hLk zt (List.mem_of_getElem? hz)) bk).1
     rw [hgi] at hst
     simp only at hst
     rw [show (flC v q1 q2 q3 g0 g1 C L) (t,bk) = legC v q1 q2 q3 g0 g1 C zt bk by unfold flC; rw [hz]] at hst
     by_cases hop : legC v q1 q2 q3 g0 g1 C zt bk < 0
     · rw [if_pos hop] at hst
       simp only [if_neg (show ¬ 0 ≤ legC v q1 q2 q3 g0 g1 C zt bk by omega),decide_eq_false (show ¬ 0 ≤ legC v q1 q2 q3 g0 g1 C zt bk by omega)] at HFx
       repeat' (first | ((with_reducible apply oq_id); first | (focus ((with_reducible apply oq_indexAddrN (i := s)); (iterate 4 exact rfl); omega)) | (focus ((with_reducible apply oq_indexAddrN (i := i)); (iterate 4 exact rfl); omega)) | ((with_reducible apply oq_lssT); exact rfl; exact rfl; omega) | (apply oq_fn; exact rfl; first | exact trivial | (constructor <;> omega) | omega | skip) | ((with_reducible apply oq_load); exact rfl; exact rfl) | ((with_reducible apply oq_loadAgg); exact rfl; exact rfl) | ((with_reducible apply oq_call (hc := Tryz.call81)); exact rfl; exact rfl; exact fun D w1 hw1 => HFx D w1 _ hw1)) | ((with_reducible apply tl_id); first | (with_reducible apply tl_nil) | ((with_reducible apply u_q); (iterate 4 exact rfl)) | ((with_reducible apply u_s0); exact rfl; exact rfl)) | ((with_reducible apply gx_id); first | (with_reducible apply v_nil) | ((with_reducible apply v_q); (iterate 3 exact rfl))) | ((with_reducible apply os_id); first | ((with_reducible apply os_store); (iterate 4 exact rfl))) | ((with_reducible apply rd_id); first | (apply Rd.old; (first | (with_reducible assumption) | exact c0 | exact c1 | exact c2 | exact c3 | exact c4 | exact c5 | exact c6 | exact c7 | exact c8 | exact d0 | exact d1 | exact d2 | exact d3 | exact d4 | exact d5); first | exact List.not_mem_nil | exact m0 | exact m1 | exact m2 | exact m3 | exact m4 | exact m5 | exact m6 | exact m7 | exact m8 | exact m9)) | ((with_reducible apply t_id); first | (with_reducible apply t_seq) | (apply t_region; kernel_rfl) | (apply t_drawn; kernel_rfl; decide +kernel; try simp only [List.append_eq,List.cons_append,List.nil_append]) | ((with_reducible apply t_condT); exact rfl) | ((with_reducible apply t_condF); exact rfl) | (with_reducible apply t_ret) | (with_reducible apply t_skip) | (with_reducible apply t_block)) | with_reducible apply q_thenN | with_reducible apply q_thenR | with_reducible apply q_blockR | exact P0 | (with_reducible apply P1) | exact Rdn.zero | apply Rdn.succ | ((with_reducible apply Norm.nil); exact rfl) | ((with_reducible apply Norm.cons); exact rfl) | exact Nat.le_of_ble_eq_true rfl)
       all_goals (refine ⟨(),⟨rfl,hst⟩,?_⟩; (repeat' (first | exact HpSub.refl _ | (apply HpSub.consE; (repeat first | exact P0 | apply P1); first | exact rfl | (simp; done) | skip) | apply HpSub.skipX)))
     rw [if_neg hop] at hst
     simp only [if_pos (show 0 ≤ legC v q1 q2 q3 g0 g1 C zt bk by omega),decide_eq_true (show 0 ≤ legC v q1 q2 q3 g0 g1 C zt bk by omega)] at HFx
     repeat' (first | ((with_reducible apply oq_id); first | (focus ((with_reducible apply oq_indexAddrN (i := s)); (iterate 4 exact rfl); omega)) | (focus ((with_reducible apply oq_indexAddrN (i := i)); (iterate 4 exact rfl); omega)) | (focus ((with_reducible apply (oq_addE (m := a.1) (n := q4) (k := a.1 + q4))); exact rfl; exact rfl; omega)) | (focus ((with_reducible apply (oq_addE (k := z + legC v q1 q2 q3 g0 g1 C zt bk))); exact rfl; exact rfl; omega)) | (focus ((with_reducible apply (oq_max2E (k := max (z + legC v q1 q2 q3 g0 g1 C zt bk) (a.1 + q4)))); exact rfl; exact rfl; rfl)) | ((with_reducible apply oq_lssT); exact rfl; exact rfl; omega) | (apply oq_fn; exact rfl; first | exact trivial | (constructor <;> omega) | omega | skip) | ((with_reducible apply oq_load); exact rfl; exact rfl) | ((with_reducible apply oq_loadAgg); exact rfl; exact rfl) | ((with_reducible apply oq_call (hc := Tryz.call81)); exact rfl; exact rfl; exact fun D w1 hw1 => HFx D w1 _ hw1)) | ((with_reducible apply tl_id); first | (with_reducible apply tl_nil) | ((with_reducible apply u_q); (iterate 4 exact rfl)) | ((with_reducible apply u_s0); exact rfl; exact rfl)) | ((with_reducible apply gx_id); first | (with_reducible apply v_nil) | ((with_reducible apply v_q); (iterate 3 exact rfl))) | ((with_reducible apply os_id); first | ((with_reducible apply os_store); (iterate 4 exact rfl))) | ((with_reducible apply ai_id); first | ((with_reducible apply ai_s0); (iterate 4 exact rfl))) | ((with_reducible apply rd_id); first | (apply Rd.own; (repeat first | exact P0 | apply P1); exact rfl; done) | (apply Rd.old; (first | (with_reducible assumption) | exact c0 | exact c1 | exact c2 | exact c3 | exact c4 | exact c5 | exact c6 | exact c7 | exact c8 | exact d0 | exact d1 | exact d2 | exact d3 | exact d4 | exact d5); first | exact List.not_mem_nil | exact m0 | exact m1 | exact m2 | exact m3 | exact m4 | exact m5 | exact m6 | exact m7 | exact m8 | exact m9)) | ((with_reducible apply t_id); first | (apply t_mix (id := 16) [0,1,2,3,4,5,6,7,8,9] 1 #[false,false,false,false,false,false,false,false,false,false,true]; kernel_rfl; kernel_rfl; exact rfl) | (with_reducible apply t_seq) | (apply t_region; kernel_rfl) | (apply t_drawn; kernel_rfl; decide +kernel; try simp only [List.append_eq,List.cons_append,List.nil_append]) | ((with_reducible apply t_condT); exact rfl) | ((with_reducible apply t_condF); exact rfl) | (with_reducible apply t_skip) | (with_reducible apply t_block)) | with_reducible apply q_thenN | with_reducible apply q_blockN | exact P0 | exact Rdn.zero | apply Rdn.succ | ((with_reducible apply Norm.nil); exact rfl) | ((with_reducible apply Norm.cons); exact rfl) | ((with_reducible apply al_id); first | (apply al_done; decide +kernel) | (apply al_one 10; decide +kernel)) | exact Nat.le_of_ble_eq_true rfl)
     all_goals (refine ⟨max (z + legC v q1 q2 q3 g0 g1 C zt bk) (a.1 + q4),⟨hst,by omega,by simp only [List.length_append,List.length_singleton]; omega⟩,?_⟩; (repeat' (first | exact HpSub.refl _)))
 case stop =>
   rintro k pre _ hpre ⟨rfl,hno⟩
   rw [wtF_pre hpre hno]
   simp only [List.cons_append,List.nil_append]
   repeat' (first | ((with_reducible apply rd_id); first | (apply Rd.own; (repeat first | exact P0 | apply P1); exact rfl; done)) | ((with_reducible apply t_id); first | (with_reducible apply t_ret)) | with_reducible apply q_thenR | with_reducible apply q_blockR | (with_reducible apply end_ret) | exact rvs_nil | (with_reducible apply rvs_cons) | ((with_reducible apply rv_cell); exact rfl; exact rfl))
   all_goals rfl
 case done =>
   rintro xs z rfl ⟨hz1,hz2,hz3⟩
   rw [hz1]
   have hbl := bkw_len p.2 p.2.length
   with_reducible apply q_blockN
   with_reducible apply q_thenN
   simp only [List.cons_append,List.nil_append]
   by_cases hgt : z > 1099511627776
   · simp only [if_pos hgt]
     ((all_goals refine gqU0 ?_); (all_goals constructor); (any_goals exact trivial); all_goals intros)
     all_goals rfl
   · simp only [if_neg hgt]
     ((all_goals refine gqU0 ?_); (all_goals constructor); (any_goals exact trivial); all_goals intros)
     all_goals rfl
theorem refLeast_err (AM A : Option Addr) (m cM n cp : Nat) (L : List Lg) (w : World) (hr : RdS w 5 A n (L.map lgCells)) (hn : n ≤ 1000000) (hm : m ≤ 1000000) (v q1 q2 q3 q4 g0 g1 : Int) (AC : Option Addr) (nC cC : Nat) (C : List Wn) (hrc : CastR w AC nC C) (hs : ∀ z ∈ C,z.n ≤ 1000000) (s : Int) (AR : Option Addr) (nR cR : Nat) (rs : List Int) (hR : RdS w 1 AR nR (rs.map inCells)) (hnR : nR ≤ 1000000) (he : ledE m L v q1 q2 q3 q4 g0 g1 C s rs ≠ 0) : Calls Tryz.prog 32 #[.agg #[.slice AM m cM,.slice A n cp],.agg #[.int .i64 v,.int .i64 q1,.int .i64 q2,.int .i64 q3,.int .i64 q4,.int .i64 g0,.int .i64 g1],.slice AC nC cC,.int .i64 s,.slice AR nR cR] w fun e w' => e = .returned (.tuple #[.int .i64 0,.int .i64 (ledE m L v q1 q2 q3 q4 g0 g1 C s rs)]) ∧ Ext w w' := by
 have HN := fun w1 (hx : Ext w w1) => led60_err AM A m cM n cp L w1 (hr.ext hx) hn hm v q1 q2 q3 q4 g0 g1 AC nC cC C (hrc.ext hx) hs s AR nR cR rs (hR.ext hx) hnR he
 generalize ledE m L v q1 q2 q3 q4 g0 g1 C s rs = e0 at *
 refine enterQ (c := cx w 101) Tryz.func32 rfl rfl rfl rfl ?_
 ((all_goals refine gqU0 ?_); (all_goals constructor); (any_goals exact trivial); all_goals intros)
 all_goals rfl
theorem refLeast_ok (AM A : Option Addr) (m cM n cp : Nat) (L : List Lg) (w : World) (hr : RdS w 5 A n (L.map lgCells)) (hn : n ≤ 1000000) (hm : m ≤ 1000000) (v q1 q2 q3 q4 : Int) (g0 g1 : Nat) (AC : Option Addr) (nC cC : Nat) (C : List Wn) (hrc : CastR w AC nC C) (hs : ∀ z ∈ C,z.n ≤ 1000000) (s : Int) (AR : Option Addr) (nR cR : Nat) (rs : List Int) (hR : RdS w 1 AR nR (rs.map inCells)) (hnR : nR ≤ 1000000) (hE : askE m L v q1 q2 q3 q4 (g0 : Nat) (g1 : Nat) C = 0) (h20 : rs.length ≤ 20) (p : Trp) (htr : tripI m L s rs = some p) (T : List Bool) (hT : RdS w 1 AM m (T.map blCells)) : Calls Tryz.prog 32 #[.agg #[.slice AM m cM,.slice A n cp],.agg #[.int .i64 v,.int .i64 q1,.int .i64 q2,.int .i64 q3,.int .i64 q4,.int .i64 (g0 : Nat),.int .i64 (g1 : Nat)],.slice AC nC cC,.int .i64 s,.slice AR nR cR] w fun e w' => e = .returned (.tuple #[.int .i64 (lstE m L T v q1 q2 q3 q4 g0 g1 C p).1,.int .i64 (lstE m L T v q1 q2 q3 q4 g0 g1 C p).2]) ∧ Ext w w' := by
 have HO := fun w1 (hx : Ext w w1) => led60_ok AM A m cM n cp L w1 (hr.ext hx) hn hm v q1 q2 q3 q4 g0 g1 AC nC cC C (hrc.ext hx) hs s AR nR cR rs (hR.ext hx) hnR hE h20 p htr
 obtain ⟨hch,hpk,hk0⟩ := askE_ok hE
 obtain ⟨hcl,hcw⟩ := castE_zero.1 hk0
 have hlc := hrc.len
 obtain ⟨hm1,hL40,hLk⟩ := chartB_iff.1 hch
 have hl : L.length = n := by simpa using hr.len
 have hlr : rs.length = nR := by simpa using hR.len
 obtain ⟨hg1,hg2,hg3,hg4⟩ := trip_in hLk htr
 obtain ⟨_,_,_,_,p5,_⟩ := id hpk
 have HK := fun w1 (hx : Ext w w1) => costs_calls AM A m cM n cp L w1 (hr.ext hx) (by omega) v q1 q2 q3 q4 g0 g1 AC nC cC C (hrc.ext hx) hs hcw (by omega) hpk hLk
 have hbd := fun s a (h : (plansF (arcs (legC v q1 q2 q3 g0 g1 C) L) m (fun s => T.getD s false) m).getD s none = some a) => need_bound hpk hcw hLk (by omega) h
 have HR := fun (s : Nat) (hsm : s < m) (AK : Option Addr) (cK : Nat) (R : List Co) w1 (hx : Ext w w1) (hk : CoR w1 AK R.length (R.map coW)) (hRk : R.map Prod.snd = L.map (fun z => (legC v q1 q2 q3 g0 g1 C z false,legC v q1 q2 q3 g0 g1 C z true))) => (by
   have hRn : R.length = n := by have := congrArg List.length hRk; simp only [List.length_map] at this; omega
   have hr' := hr.ext hx
   rw [hRn] at hk ⊢
   have h := routed_calls AM A m cM n cp L w1 hr' (by omega) (by omega) (by omega) AK cK (R.map coW) hk AM cM T (hT.ext hx) hLk (legC v q1 q2 q3 g0 g1 C) (by rw [List.map_map]; exact hRk) (fun z hz bk => (legC_le hcw hpk (hLk z hz) bk).1) (fun z hz bk => (legC_le hcw hpk (hLk z hz) bk).2) s (by omega)
   have e : (fun s => (plansF (arcs (legC v q1 q2 q3 g0 g1 C) L) m (fun s => T.getD s false) m).getD s none) s = routedF (arcs (legC v q1 q2 q3 g0 g1 C) L) (fun k s => (leadF (arcs (legC v q1 q2 q3 g0 g1 C) L) m (fun j => T.getD j false) k).getD s (-1)) m s := best_same (arcs_net hLk) (arcs_sorted _ _) hsm
   rw [← e] at h
   exact h : Calls Tryz.prog 72 #[.agg #[.slice AM m cM,.slice A n cp],.slice AK R.length cK,.int .i64 (s : Nat),.slice AM m cM] w1 fun e w' => ∃ u H',e = .returned u ∧ RouV ((fun s => (plansF (arcs (legC v q1 q2 q3 g0 g1 C) L) m (fun s => T.getD s false) m).getD s none) s) u H' ∧ Has w1 ⟨[],[]⟩ H' w')
 unfold lstE
 have hnn : ∀ s a,(fun s => (plansF (arcs (legC v q1 q2 q3 g0 g1 C) L) m (fun s => T.getD s false) m).getD s none) s = some a → 0 ≤ a.1 + q4 := fun s a h => by have := (hbd s a h).1; omega
 have hlf : lfF (fun s => (plansF (arcs (legC v q1 q2 q3 g0 g1 C) L) m (fun s => T.getD s false) m).getD s none) (flC v q1 q2 q3 g0 g1 C L) q4 p.2 p.1 0 0 = lbF (fun s => (plansF (arcs (legC v q1 q2 q3 g0 g1 C) L) m (fun s => T.getD s false) m).getD s none) (flC v q1 q2 q3 g0 g1 C L) q4 p.2 p.1 := by
   rw [lfF_lbF hnn _ _ _ _ (by omega)]
   cases hb : lbF (fun s => (plansF (arcs (legC v q1 q2 q3 g0 g1 C) L) m (fun s => T.getD s false) m).getD s none) (flC v q1 q2 q3 g0 g1 C L) q4 p.2 p.1 with
   | none => rfl
   | some t =>
     have := lbF_nonneg hnn _ _ _ hb
     simp only [Option.map_some]
     congr 1
     omega
 rw [← hlf]
 obtain ⟨res,hres⟩ : ∃ res,lfF (fun s => (plansF (arcs (legC v q1 q2 q3 g0 g1 C) L) m (fun s => T.getD s false) m).getD s none) (flC v q1 q2 q3 g0 g1 C L) q4 p.2 p.1 0 0 = res := ⟨_,rfl⟩
 rw [hres]
 refine enterQ (c := cx w 101) Tryz.func32 rfl rfl rfl rfl ?_
 repeat' (first | ((with_reducible apply oq_id); first | ((with_reducible apply oq_neqF); exact rfl; exact rfl; omega) | (apply oq_fn; exact rfl; first | exact trivial | (constructor <;> omega) | omega | skip) | ((with_reducible apply oq_loadAgg); exact rfl; exact rfl)) | ((with_reducible apply tl_id); first | (with_reducible apply tl_nil) | ((with_reducible apply u_s); (iterate 3 exact rfl); (with_reducible apply os_callS (PV := LedV 0 p) (hc := Tryz.call60)); exact rfl; exact rfl; exact fun D w1 hw1 => HO w1 hw1.ext.ext; rintro _ _ ⟨bS,cS,rfl,rfl⟩; simp only [List.cons_append,List.nil_append]) | ((with_reducible apply u_s); (iterate 3 exact rfl); (with_reducible apply os_callS (PV := CosV (L.map (fun z => (legC v q1 q2 q3 g0 g1 C z false,legC v q1 q2 q3 g0 g1 C z true)))) (hc := Tryz.call73)); exact rfl; exact rfl; exact fun D w1 hw1 => HK w1 hw1.ext.ext; rintro _ _ ⟨R,o,hRk,hRo,rfl,rfl⟩; obtain ⟨AK,cK,hAK,hCo,hAK2⟩ := coV_form (R := R) (o := o) (fun h => List.map_eq_nil_iff.1 (hRk.trans (hRo h))); rw [hAK]; simp only [List.cons_append,List.nil_append]) | ((with_reducible apply u_q); (iterate 4 exact rfl)) | ((with_reducible apply u_s); (iterate 3 exact rfl))) | ((with_reducible apply os_id); first | ((with_reducible apply os_x); exact rfl)) | ((with_reducible apply ox_id); first | ((with_reducible apply ox_boxAgg); exact rfl; intro _)) | ((with_reducible apply rd_id); first | (apply Rd.own; (repeat first | exact P0 | apply P1); exact rfl; done)) | ((with_reducible apply t_id); first | (with_reducible apply t_seq) | (apply t_region; kernel_rfl) | ((with_reducible apply t_condF); exact rfl) | (with_reducible apply t_skip) | (with_reducible apply t_block)) | with_reducible apply q_thenN | exact Rdn.zero | apply Rdn.succ)
 rename_i b5 b6
 have hRn : R.length = n := by have := congrArg List.length hRk; simp only [List.length_map] at this; omega
 have HCO := fun D w1 H1 (h1 : Has w ⟨[],D⟩ H1 w1) (hs : HpSub H1 (coH R o)) => hCo _ _ w1 (h1.sub hs)
 apply t_loopP (ι := Nat × Int × Int) [4,5,6,12,14] (fun z => [(17,.int .i64 ((z.1 : Nat) : Int)),(15,.int .i64 z.2.1),(16,.int .i64 z.2.2)]) (fun _ => (b5,[.slice AM m cM,.slice A n cp],some (25,2,1)) :: (b6,[.int .i64 v,.int .i64 q1,.int .i64 q2,.int .i64 q3,.int .i64 q4,.int .i64 (g0 : Nat),.int .i64 (g1 : Nat)],some (29,7,1)) :: (bS,(cI p.2).map iv,some (3,1,cS)) :: coH R o) (fun z => z.1 ≤ p.2.length ∧ lfF (fun s => (plansF (arcs (legC v q1 q2 q3 g0 g1 C) L) m (fun s => T.getD s false) m).getD s none) (flC v q1 q2 q3 g0 g1 C L) q4 (p.2.drop z.1) (p.1.drop z.1) z.2.1 z.2.2 = res ∧ (0 ≤ z.2.1 ∧ z.2.1 ≤ (z.1 : Int) * 166666666667) ∧ 0 ≤ z.2.2 ∧ z.2.2 ≤ 4000000000000 + (z.1 : Int) * 166666666667) (fun z => p.2.length - z.1) (0,0,0)
 (repeat (first | exact KeepF.nil | (apply KeepF.cons; exact rfl) | apply KeepF.skip))
 (repeat (first | exact FrSub.nil | (apply FrSub.cons; exact rfl)))
 (try simp only [List.cons_append,List.nil_append])
 (repeat' (first | exact HpSub.refl _ | (apply HpSub.consE; (repeat first | exact P0 | apply P1); first | exact rfl | skip)))
 · exact ⟨Nat.zero_le _,hres,⟨Int.le_refl _,by simp only; omega⟩,Int.le_refl _,by simp only; omega⟩
 rintro ⟨i,so,lt⟩ ⟨hi,hck,⟨hf0,hf1⟩,hf2,hf3⟩
 simp only at hi hck hf0 hf1 hf2 hf3
 try simp only [List.cons_append,List.nil_append]
 by_cases hlt : i < p.2.length
 rotate_left
 · rw [List.drop_of_length_le (show p.2.length ≤ i by omega)] at hck
   simp only [lfF] at hck
   subst hck
   simp only
   by_cases hgt : lt > 1099511627776
   · simp only [if_pos hgt]
     ((all_goals refine gqU0 ?_); (all_goals constructor); (any_goals exact trivial); all_goals intros)
     all_goals rfl
   · simp only [if_neg hgt]
     ((all_goals refine gqU0 ?_); (all_goals constructor); (any_goals exact trivial); all_goals intros)
     all_goals rfl
 obtain ⟨s,hsi⟩ : ∃ s,p.2[i]? = some s := ⟨_,List.getElem?_eq_getElem hlt⟩
 have hsm := hg3 s (List.mem_of_getElem? hsi)
 rw [List.drop_eq_getElem_cons hlt,(List.getElem?_eq_some_iff.1 hsi).2] at hck
 simp only [lfF] at hck
 obtain ⟨rp,hrp⟩ : ∃ rp,(fun s => (plansF (arcs (legC v q1 q2 q3 g0 g1 C) L) m (fun s => T.getD s false) m).getD s none) s = rp := ⟨_,rfl⟩
 have hbd := fun a (h : rp = some a) => hbd s a (hrp.trans h)
 have HR := HR s hsm
 dsimp only at HR hrp
 rw [hrp] at hck HR
 rcases rp with _ | a
 · simp only at hck
   subst hck
   simp only
   ((all_goals refine gqU0 ?_); (all_goals constructor); (any_goals exact trivial); all_goals intros)
   all_goals rfl
 obtain ⟨ha0,ha1,_⟩ := hbd a rfl
 simp only at hck
 by_cases hig : i = p.1.length
 · rw [List.drop_of_length_le (show p.1.length ≤ i by omega)] at hck
   simp only at hck
   repeat' (first | ((with_reducible apply oq_id); first | (focus ((with_reducible apply (oq_addE (m := so) (n := a.1) (k := so + a.1))); exact rfl; exact rfl; omega)) | (focus ((with_reducible apply (oq_addE (m := (so + a.1)) (n := q4) (k := (so + a.1) + q4))); exact rfl; exact rfl; omega)) | (focus ((with_reducible apply (oq_max2E (m := lt) (n := so + a.1 + q4) (k := max lt (so + a.1 + q4)))); exact rfl; exact rfl; rfl)) | (focus ((with_reducible apply oq_indexAddrN (i := i)); (iterate 4 exact rfl); omega)) | ((with_reducible apply oq_lssT); exact rfl; exact rfl; omega) | ((with_reducible apply oq_lssF); exact rfl; exact rfl; omega) | (apply oq_fn; exact rfl; first | exact trivial | (constructor <;> omega) | omega | skip) | ((with_reducible apply oq_load); exact rfl; exact rfl) | ((with_reducible apply oq_loadAgg); exact rfl; exact rfl)) | ((with_reducible apply tl_id); first | (with_reducible apply tl_nil) | ((with_reducible apply u_q); (iterate 4 exact rfl))) | ((with_reducible apply gx_id); first | (with_reducible apply v_nil) | ((with_reducible apply v_q); (iterate 3 exact rfl))) | ((with_reducible apply ai_id); first | ((with_reducible apply ai_n); (iterate 4 exact rfl); (with_reducible apply os_callS (PV := RouV (some a)) (hc := Tryz.call72)); exact rfl; exact rfl; exact fun D w1 hw1 => HR _ _ R w1 hw1.ext.ext (HCO D w1 _ hw1 (by repeat (first | exact HpSub.refl _ | exact HpSub.appLeft | apply HpSub.skipX))) hRk; rintro _ _ ⟨oN,hN0,rfl,rfl⟩; simp only [List.cons_append,List.nil_append]) | ((with_reducible apply ai_q); (iterate 5 exact rfl))) | ((with_reducible apply al_keep); focus (repeat (first | exact HpSub.refl _ | (apply HpSub.cons; (repeat first | exact P0 | apply P1)) | apply HpSub.skipX | exact HpSub.nil))) | ((with_reducible apply rd_id); first | (apply rd_st hsi; (repeat first | exact P0 | apply P1); done) | (apply Rd.own; (repeat first | exact P0 | apply P1); exact rfl; done)) | ((with_reducible apply t_id); first | (apply t_mix (id := 9) [0,1,2,3,4,5,6,7] 6 #[false,false,false,false,false,false,false,false,false,false,false,false,false,false]; kernel_rfl; kernel_rfl; exact rfl) | (with_reducible apply t_seq) | (apply t_region; kernel_rfl) | ((with_reducible apply t_condT); exact rfl) | ((with_reducible apply t_condF); exact rfl) | (with_reducible apply t_skip) | (with_reducible apply t_block)) | with_reducible apply q_thenN | with_reducible apply q_blockN | exact Rdn.zero | apply Rdn.succ | ((with_reducible apply al_id); first | (apply al_done; decide +kernel) | (apply al_one 8; decide +kernel) | (apply al_one 9; decide +kernel) | (apply al_one 10; decide +kernel) | (apply al_one 11; decide +kernel) | (apply al_one 12; decide +kernel) | (apply al_one 13; decide +kernel) | (apply al_two 10 11; decide +kernel) | (apply al_two 11 12; decide +kernel)) | exact HpSub.appLeft)
   all_goals (refine ⟨(i + 1,so,max lt (so + a.1 + q4)),⟨by simp only; omega,?_,⟨by simp only; omega,by simp only; omega⟩,by simp only; omega,by simp only; omega⟩,by simp only; omega,?_,?_⟩)
   all_goals first | (simp only; rw [List.drop_of_length_le (show p.1.length ≤ i + 1 by omega)]; exact hck) | (repeat' (first | exact FrSub.nil | (apply FrSub.cons; exact rfl) | exact HpSub.appLeft | (apply HpSub.consE; (repeat first | exact P0 | apply P1); first | exact rfl | skip)))
 have hilt : i < p.1.length := by omega
 obtain ⟨bR,oR,r,rfl,_,hri,e0⟩ := in_read hR (show i < nR by omega)
 obtain ⟨z,t,bk,x',y',l1,rfl,hz,l4,_,lcase⟩ := hg4 i r hri
 rw [hsi] at l4
 obtain rfl := Option.some.inj l4
 have htn : t < n := by have := (List.getElem?_eq_some_iff.1 hz).1; omega
 obtain ⟨bA,oA,z',rfl,_,hz',c0,c1,c2,c3,c4⟩ := lg_read hr htn
 rw [hz] at hz'
 obtain rfl := Option.some.inj hz'
 obtain ⟨bC,rfl,rfl⟩ := hAK2 (by omega)
 obtain ⟨xc,hct⟩ : ∃ xc,R[t]? = some xc := ⟨_,List.getElem?_eq_getElem (by omega)⟩
 have hcm : coW xc ∈ R.map coW := List.mem_map.2 ⟨xc,List.mem_of_getElem? hct,rfl⟩
 have hcx : xc.2 = (legC v q1 q2 q3 g0 g1 C z false,legC v q1 q2 q3 g0 g1 C z true) := by
   have h := congrArg (fun l => l[t]?) hRk
   simp only [List.getElem?_map,hct,hz,Option.map_some,Option.some.injEq] at h
   exact h
 obtain ⟨st,hcost⟩ : ∃ st : Int,(if z.a = (s : Int) then z.b else if z.b = (s : Int) then z.a else 0) = st ∧ (if z.a = (s : Int) then xc.2.1 else if z.b = (s : Int) then xc.2.2 else -1) = (flC v q1 q2 q3 g0 g1 C L) (t,bk) := by
   refine ⟨_,rfl,?_⟩
   unfold flC
   rw [hz,hcx]
   rcases lcase with ⟨rfl,h1,h2⟩ | ⟨rfl,h1,h2,h3⟩
   · rw [if_pos h1]
   · rw [if_neg h1,if_pos h2]
 have HO7 := fun w1 h => other_calls z (coW xc).A (coW xc).c (coW xc).x (coW xc).y (s : Int) w1 h
 rw [show (coW xc).x = xc.2.1 from rfl,show (coW xc).y = xc.2.2 from rfl,hcost.1,hcost.2] at HO7
 rw [List.drop_eq_getElem_cons hilt,(List.getElem?_eq_some_iff.1 l1).2] at hck
 simp only at hck
 have hcb : (flC v q1 q2 q3 g0 g1 C L) (t,bk) ≤ 166666666667 := by unfold flC; rw [hz]; exact (legC_le hcw hpk (hLk z (List.mem_of_getElem? hz)) bk).1
 generalize (flC v q1 q2 q3 g0 g1 C L) (t,bk) = cc at *
 simp only [coH,List.cons_append]
 by_cases hop : cc < 0
 · rw [if_pos hop] at hck
   subst hck
   simp only
   ((all_goals refine gqU0 ?_); (all_goals constructor); (any_goals exact trivial); all_goals intros)
   all_goals rfl
 rw [if_neg hop] at hck
 repeat' (first | ((with_reducible apply oq_id); first | (focus ((with_reducible apply (oq_addE (m := so) (n := a.1) (k := so + a.1))); exact rfl; exact rfl; omega)) | (focus ((with_reducible apply (oq_addE (m := (so + a.1)) (n := q4) (k := (so + a.1) + q4))); exact rfl; exact rfl; omega)) | (focus ((with_reducible apply (oq_addE (m := so) (n := cc) (k := so + cc))); exact rfl; exact rfl; omega)) | (focus ((with_reducible apply (oq_max2E (m := lt) (n := so + a.1 + q4) (k := max lt (so + a.1 + q4)))); exact rfl; exact rfl; rfl)) | (focus ((with_reducible apply oq_indexAddrN (i := i)); (iterate 4 exact rfl); omega)) | (focus ((with_reducible apply oq_indexAddrN (i := t)); (iterate 4 exact rfl); omega)) | ((with_reducible apply oq_lssT); exact rfl; exact rfl; omega) | ((with_reducible apply oq_lssF); exact rfl; exact rfl; omega) | (apply oq_fn; exact rfl; first | exact trivial | (constructor <;> omega) | omega | skip) | ((with_reducible apply oq_load); exact rfl; exact rfl) | ((with_reducible apply oq_loadAgg); exact rfl; exact rfl) | ((with_reducible apply oq_call (hc := Tryz.call77)); exact rfl; exact rfl; exact fun D w1 hw1 => HO7 w1 ((HCO D w1 _ hw1 (by simp only [coH,List.cons_append]; repeat (first | exact HpSub.refl _ | exact HpSub.appLeft | exact HpSub.front HpSub.appLeft | apply HpSub.skipX))).each _ hcm))) | ((with_reducible apply tl_id); first | (with_reducible apply tl_nil) | ((with_reducible apply u_q); (iterate 4 exact rfl))) | ((with_reducible apply gx_id); first | (with_reducible apply v_nil) | ((with_reducible apply v_q); (iterate 3 exact rfl))) | ((with_reducible apply ai_id); first | ((with_reducible apply ai_n); (iterate 4 exact rfl); (with_reducible apply os_callS (PV := RouV (some a)) (hc := Tryz.call72)); exact rfl; exact rfl; exact fun D w1 hw1 => HR _ _ R w1 hw1.ext.ext (HCO D w1 _ hw1 (by repeat (first | exact HpSub.refl _ | exact HpSub.appLeft | apply HpSub.skipX))) hRk; rintro _ _ ⟨oN,hN0,rfl,rfl⟩; simp only [List.cons_append,List.nil_append]) | ((with_reducible apply ai_q); (iterate 5 exact rfl))) | ((with_reducible apply al_keep); focus (repeat (first | exact HpSub.refl _ | (apply HpSub.cons; (repeat first | exact P0 | apply P1)) | apply HpSub.skipX | exact HpSub.nil))) | ((with_reducible apply rd_id); first | (apply rd_st hsi; (repeat first | exact P0 | apply P1); done) | (apply rd_co hct; (repeat first | exact P0 | apply P1); done) | (apply Rd.own; (repeat first | exact P0 | apply P1); exact rfl; done) | (apply Rd.old; (first | (with_reducible assumption) | exact c0 | exact c1 | exact c2 | exact c3 | exact c4 | exact c5 | exact c6 | exact c7 | exact c8 | exact d0 | exact d1 | exact d2 | exact d3 | exact d4 | exact d5); first | exact List.not_mem_nil | exact m0 | exact m1 | exact m2 | exact m3 | exact m4 | exact m5 | exact m6 | exact m7 | exact m8 | exact m9)) | ((with_reducible apply t_id); first | (apply t_mix (id := 9) [0,1,2,3,4,5,6,7] 6 #[false,false,false,false,false,false,false,false,false,false,false,false,false,false]; kernel_rfl; kernel_rfl; exact rfl) | (with_reducible apply t_seq) | (apply t_region; kernel_rfl) | (apply t_drawn; kernel_rfl; decide +kernel; try simp only [List.append_eq,List.cons_append,List.nil_append]) | ((with_reducible apply t_condT); exact rfl) | ((with_reducible apply t_condF); exact rfl) | (with_reducible apply t_skip) | (with_reducible apply t_block)) | with_reducible apply q_thenN | with_reducible apply q_blockN | exact Rdn.zero | apply Rdn.succ | ((with_reducible apply al_id); first | (apply al_done; decide +kernel) | (apply al_one 8; decide +kernel) | (apply al_one 9; decide +kernel) | (apply al_one 10; decide +kernel) | (apply al_one 11; decide +kernel) | (apply al_one 12; decide +kernel) | (apply al_one 13; decide +kernel) | (apply al_two 10 11; decide +kernel) | (apply al_two 11 12; decide +kernel)) | exact HpSub.appLeft)
 all_goals (refine ⟨(i + 1,so + cc,max lt (so + a.1 + q4)),⟨by simp only; omega,hck,⟨by simp only; omega,by simp only; omega⟩,by simp only; omega,by simp only; omega⟩,by simp only; omega,?_,?_⟩ <;> (try simp only [coH]) <;> (repeat' (first | exact FrSub.nil | (apply FrSub.cons; exact rfl) | exact HpSub.appLeft | (apply HpSub.consE; (repeat first | exact P0 | apply P1); first | exact rfl | skip))))
end Go.Proofs.YtcjkndjjbjoehaaGreat

