/- A part of the proof: rules for walks, and contracts of functions (13). -/
import Derived.Test.YtcjkndjjbjoehaaGreatXBA
import Derived.Test.YtcjkndjjbjoehaaGreatXBL
import Derived.Test.YtcjkndjjbjoehaaGreatXBK
import Derived.Test.YtcjkndjjbjoehaaGreatXBH
set_option linter.unusedVariables false
set_option linter.unusedSimpArgs false
set_option maxRecDepth 100000
set_option maxHeartbeats 2000000
namespace Go.Proofs.YtcjkndjjbjoehaaGreat
theorem goR1e {G A1 A2 A3 A4 A5 A6 A7 A8 A9 A10 A11 A12 A13 A14 A15 A16:Prop} (p:GoP A1 A2 A3 A4 A5 A6 A7 A8 A9 A10 A11 A12 A13 A14 A15 A16) (h:GoL A1→GoL A2→GoL A3→GoL A4→GoL A5→GoL A6→GoL A7→GoL A8→GoL A9→GoL A10→GoL A11→GoL A12→GoL A13→GoL A14→GoL A15→GoL A16→GoM→G:=by intro m1 m2 m3 m4 m5 m6 m7 m8 m9 m10 m11 m12 m13 m14 m15 m16 _;(repeat' (first|((with_reducible apply oq_id);first|((with_reducible apply oq_call (k:=kf) (hc:=hcf));exact rfl;exact rfl;exact fun D w1 hw1=>HTk w1 hw1.ext.ext)|((with_reducible apply oq_call (hc:=Tryz.call108));exact rfl;exact rfl;exact fun D w1 hw1=>HLs D w1 _ hw1 (by repeat (first|exact HpSub.refl _|apply HpSub.skipX)) (by (repeat first|exact P0|apply P1)))|((with_reducible apply ob_id);first|((with_reducible apply oq_eqlT);exact rfl;exact rfl;omega)|((with_reducible apply oq_eqlF);exact rfl;exact rfl;omega)|((with_reducible apply oq_lssT);exact rfl;exact rfl;omega)|((with_reducible apply oq_lssF);exact rfl;exact rfl;omega))|(focus ((with_reducible apply oq_indexAddrN);(iterate 4 exact rfl);omega))|(apply oq_fn;exact rfl;first|exact trivial|(and_intros<;>omega)|omega|skip)|((with_reducible apply oq_load);exact rfl;exact rfl))|((with_reducible apply tl_id);first|(with_reducible apply tl_nil)|((with_reducible apply u_q);(iterate 4 exact rfl))|((with_reducible apply u_s0);exact rfl;exact rfl))|((with_reducible apply gx_id);first|(with_reducible apply v_nil)|((with_reducible apply v_q);(iterate 3 exact rfl)))|((with_reducible apply os_id);first|((with_reducible apply (os_storePf (i:=k) (u:=if to k=false then nP else zP) (hz:=hk1) (hl:=hs)));(iterate 4 exact rfl);(rw [hto];exact rfl);(focus ((repeat first|exact P0|apply P1);done)))|((with_reducible apply (os_storePn (i:=ys.length) (u:=lstN x0 ls) (hz:=up_get hx) (hl:=up_set _ (by omega))));(iterate 3 exact rfl);(focus ((repeat first|exact P0|apply P1);done)))|((with_reducible apply os_store);(iterate 4 exact rfl)))|((with_reducible apply ai_id);first|((with_reducible apply ai_s0);(iterate 4 exact rfl)))|((with_reducible apply rd_id);first|(apply Rd.own;(repeat first|exact P0|apply P1);exact rfl;done)|(apply Rd.old;(first|(with_reducible assumption)|exact c0|exact c1|exact c2|exact c3|exact c4|exact c5|exact c6|exact c7|exact c8|exact d0|exact d1|exact d2|exact d3|exact d4|exact d5);first|exact List.not_mem_nil|exact m0|exact m1|exact m2|exact m3|exact m4|exact m5|exact m6|exact m7|exact m8|exact m9))|((with_reducible apply t_id);first|(apply t_mix (id:=5) [0,1,2,3,4,5,6,7] 1 #[false,false,false,false,false,false,false,false,true];kernel_rfl;kernel_rfl;exact rfl)|(with_reducible apply t_seq)|(apply t_region;kernel_rfl)|((with_reducible apply t_condT);exact rfl)|((with_reducible apply t_condF);exact rfl)|(with_reducible apply t_ret)|(with_reducible apply t_skip)|(with_reducible apply t_exit)|(with_reducible apply t_block))|with_reducible apply q_thenN|with_reducible apply q_blockN|with_reducible apply q_thenE|((with_reducible apply q_blockE);exact rfl)|exact P0|(with_reducible apply P1)|((with_reducible apply Norm.nil);exact rfl)|((with_reducible apply Norm.cons);exact rfl)|(with_reducible apply end_ret)|exact rvs_nil|(with_reducible apply rvs_cons)|((with_reducible apply rv_tmp);exact rfl)|((with_reducible apply al_id);first|(apply al_done;decide +kernel)|(apply al_one 8;decide +kernel))|exact Nat.le_of_ble_eq_true rfl));(try focus (repeat (rename_i x;first|exact goD x m1.p|revert x)));(try focus (repeat (rename_i x;first|exact goD x m2.p|revert x)));(try focus (repeat (rename_i x;first|exact goD x m3.p|revert x)));(try focus (repeat (rename_i x;first|exact goD x m4.p|revert x)));(try focus (repeat (rename_i x;first|exact goD x m5.p|revert x)));(try focus (repeat (rename_i x;first|exact goD x m6.p|revert x)));(try focus (repeat (rename_i x;first|exact goD x m7.p|revert x)));(try focus (repeat (rename_i x;first|exact goD x m8.p|revert x)));(try focus (repeat (rename_i x;first|exact goD x m9.p|revert x)));(try focus (repeat (rename_i x;first|exact goD x m10.p|revert x)));(try focus (repeat (rename_i x;first|exact goD x m11.p|revert x)));(try focus (repeat (rename_i x;first|exact goD x m12.p|revert x)));(try focus (repeat (rename_i x;first|exact goD x m13.p|revert x)));(try focus (repeat (rename_i x;first|exact goD x m14.p|revert x)));(try focus (repeat (rename_i x;first|exact goD x m15.p|revert x)));(try focus (repeat (rename_i x;first|exact goD x m16.p|revert x)))) (e:GoTs A1 A2 A3 A4 A5 A6 A7 A8 A9 A10 A11 A12 A13 A14 A15 A16:=by constructor<;>first|(with_reducible exact GoT.t)|exact GoT.u):G:=p.run h
theorem goS0e {G A1 A2 A3 A4 A5 A6 A7 A8 A9 A10 A11 A12 A13 A14 A15 A16:Prop} (p:GoP A1 A2 A3 A4 A5 A6 A7 A8 A9 A10 A11 A12 A13 A14 A15 A16) (h:GoL A1→GoL A2→GoL A3→GoL A4→GoL A5→GoL A6→GoL A7→GoL A8→GoL A9→GoL A10→GoL A11→GoL A12→GoL A13→GoL A14→GoL A15→GoL A16→GoM→G:=by intro m1 m2 m3 m4 m5 m6 m7 m8 m9 m10 m11 m12 m13 m14 m15 m16 _;(repeat' (first|((with_reducible apply oq_id);first|((with_reducible apply oq_call (hc:=Tryz.call86));exact rfl;exact rfl;exact fun D w1 hw1=>HL w1)|((with_reducible apply oq_call (hc:=Tryz.call87));exact rfl;exact rfl;exact fun D w1 hw1=>HP w1 hw1.ext.ext)|(focus ((with_reducible apply oq_indexAddrN (i:=j));(iterate 4 exact rfl);omega))|(apply oq_fn;exact rfl;first|exact trivial|(and_intros<;>omega)|omega|skip)|((with_reducible apply oq_load);exact rfl;exact rfl)|((with_reducible apply oq_loadAgg);exact rfl;exact rfl))|((with_reducible apply tl_id);first|(with_reducible apply tl_nil)|((with_reducible apply u_q);(iterate 4 exact rfl))|((with_reducible apply u_s);(iterate 3 exact rfl)))|((with_reducible apply gx_id);first|(with_reducible apply v_nil)|((with_reducible apply v_q);(iterate 3 exact rfl)))|((with_reducible apply os_id);first|((with_reducible apply os_x);exact rfl)|((with_reducible apply os_storeAgg);(iterate 5 exact rfl)))|((with_reducible apply ox_id);first|((with_reducible apply ox_alloc);exact rfl;intro _)|((with_reducible apply ox_boxAgg);exact rfl;intro _))|((with_reducible apply ai_id);first|((with_reducible apply ai_q);(iterate 5 exact rfl))|((with_reducible apply ai_x);(iterate 5 exact rfl))|((with_reducible apply ai_n0);(iterate 3 exact rfl)))|((with_reducible apply al_keep);focus (repeat (first|exact HpSub.refl _|(apply HpSub.cons;(repeat first|exact P0|apply P1))|apply HpSub.skipX|exact HpSub.nil)))|((with_reducible apply rd_id);first|(apply Rd.own;(repeat first|exact P0|apply P1);exact rfl;done)|(apply Rd.old;(first|(with_reducible assumption)|exact c0|exact c1|exact c2|exact c3|exact c4|exact c5|exact c6|exact c7|exact c8|exact d0|exact d1|exact d2|exact d3|exact d4|exact d5);first|exact List.not_mem_nil|exact m0|exact m1|exact m2|exact m3|exact m4|exact m5|exact m6|exact m7|exact m8|exact m9))|((with_reducible apply t_id);first|(apply t_mix (id:=1) [0,1,2,3,4,5,6,7,8,9,10,11,12,13,14,15,16] 5 #[false,false,false,false,false,false,false,false,false,false,false,false,false,false,false,false,false,false,false,false,false,false];kernel_rfl;kernel_rfl;exact rfl)|(with_reducible apply t_seq)|(apply t_region;kernel_rfl)|(with_reducible apply t_ret)|(with_reducible apply t_block))|with_reducible apply q_thenN|exact P0|(with_reducible apply P1)|exact Rdn.zero|apply Rdn.succ|((with_reducible apply Norm.nil);exact rfl)|((with_reducible apply Norm.cons);exact rfl)|(with_reducible apply end_ret)|exact rvs_nil|(with_reducible apply rvs_cons)|((with_reducible apply rv_tmp);exact rfl)|((with_reducible apply al_id);first|(apply al_done;decide +kernel)|(apply al_one 17;decide +kernel)|(apply al_one 18;decide +kernel)|(apply al_one 19;decide +kernel)|(apply al_one 20;decide +kernel)|(apply al_one 21;decide +kernel)|(apply al_two 17 18;decide +kernel))|exact Nat.le_of_ble_eq_true rfl));(try focus (repeat (rename_i x;first|exact goD x m1.p|revert x)));(try focus (repeat (rename_i x;first|exact goD x m2.p|revert x)));(try focus (repeat (rename_i x;first|exact goD x m3.p|revert x)));(try focus (repeat (rename_i x;first|exact goD x m4.p|revert x)));(try focus (repeat (rename_i x;first|exact goD x m5.p|revert x)));(try focus (repeat (rename_i x;first|exact goD x m6.p|revert x)));(try focus (repeat (rename_i x;first|exact goD x m7.p|revert x)));(try focus (repeat (rename_i x;first|exact goD x m8.p|revert x)));(try focus (repeat (rename_i x;first|exact goD x m9.p|revert x)));(try focus (repeat (rename_i x;first|exact goD x m10.p|revert x)));(try focus (repeat (rename_i x;first|exact goD x m11.p|revert x)));(try focus (repeat (rename_i x;first|exact goD x m12.p|revert x)));(try focus (repeat (rename_i x;first|exact goD x m13.p|revert x)));(try focus (repeat (rename_i x;first|exact goD x m14.p|revert x)));(try focus (repeat (rename_i x;first|exact goD x m15.p|revert x)));(try focus (repeat (rename_i x;first|exact goD x m16.p|revert x)))) (e:GoTs A1 A2 A3 A4 A5 A6 A7 A8 A9 A10 A11 A12 A13 A14 A15 A16:=by constructor<;>first|(with_reducible exact GoT.t)|exact GoT.u):G:=p.run h
theorem goT0d {G A1 A2 A3 A4 A5 A6 A7 A8 A9 A10 A11 A12 A13 A14 A15 A16:Prop} (p:GoP A1 A2 A3 A4 A5 A6 A7 A8 A9 A10 A11 A12 A13 A14 A15 A16) (h:GoL A1→GoL A2→GoL A3→GoL A4→GoL A5→GoL A6→GoL A7→GoL A8→GoL A9→GoL A10→GoL A11→GoL A12→GoL A13→GoL A14→GoL A15→GoL A16→GoM→G:=by intro m1 m2 m3 m4 m5 m6 m7 m8 m9 m10 m11 m12 m13 m14 m15 m16 _;(repeat' (first|((with_reducible apply oq_id);first|((with_reducible apply oc_id);first|((with_reducible apply oq_call (hc:=Tryz.call66));exact rfl;exact rfl;exact fun D w1 hw1=>HN w1 hw1.ext.ext)|((with_reducible apply oq_call (hc:=Tryz.call70));exact rfl;exact rfl;exact fun D w1 hw1=>HN w1 hw1.ext.ext)|((with_reducible apply oq_call (hc:=Tryz.call67));exact rfl;exact rfl;(intro D w1 hw1;refine rfrom1_t ?_ hw1 (by (repeat first|exact P0|apply P1));omega))|((with_reducible apply oq_call (hc:=Tryz.call67));exact rfl;exact rfl;(intro D w1 hw1;refine rfrom1_f ?_ hw1 (by (repeat first|exact P0|apply P1));omega))|((with_reducible apply oq_call (hc:=Tryz.call67));exact rfl;exact rfl;(intro D w1 hw1;refine rfrom2_t ?_ hw1 (by (repeat first|exact P0|apply P1));omega))|((with_reducible apply oq_call (hc:=Tryz.call67));exact rfl;exact rfl;(intro D w1 hw1;refine rfrom2_f ?_ hw1 (by (repeat first|exact P0|apply P1));omega))|((with_reducible apply oq_call (hc:=Tryz.call15));exact rfl;exact rfl;exact fun D w1 hw1=>HG w1 hw1.ext.ext)|((with_reducible apply oq_call (hc:=Tryz.call23));exact rfl;exact rfl;exact fun D w1 hw1=>(hNd _ _ _ _ w1 (by first|exact hT.ext hw1.ext.ext|exact bl_rows hlT hw1 (by (repeat first|exact P0|apply P1))) (by first|exact hr.ext hw1.ext.ext|exact lg_rows hl hw1 (by (repeat first|exact P0|apply P1))) hw1.ext.ext).1)|((with_reducible apply oq_call (hc:=Tryz.call24));exact rfl;exact rfl;exact fun D w1 hw1=>(hNd _ _ _ _ w1 (by first|exact hT.ext hw1.ext.ext|exact bl_rows hlT hw1 (by (repeat first|exact P0|apply P1))) (by first|exact hr.ext hw1.ext.ext|exact lg_rows hl hw1 (by (repeat first|exact P0|apply P1))) hw1.ext.ext).2)|((with_reducible apply oq_call (hc:=Tryz.call25));exact rfl;exact rfl;exact fun D w1 hw1=>same25_calls _ _ _ _ _ _ (cI rl) w1 (by first|exact in_rows1 (by simp [cI]) hw1 (by (repeat first|exact P0|apply P1))|(have h:rl=[]:=ho1 rfl;rw [h];exact RdS.nil _ _ _)) (by first|exact in_rows1 (by simp [cI]) hw1 (by (repeat first|exact P0|apply P1))|(have h:rl=[]:=ho2 rfl;rw [h];exact RdS.nil _ _ _)) (by omega) (by omega))|((with_reducible apply oq_call (hc:=Tryz.call26));exact rfl;exact rfl;exact fun D w1 hw1=>alike_calls _ _ _ _ m _ _ n _ _ T L w1 (bl_rows hlT hw1 (by (repeat first|exact P0|apply P1))) (hT.ext hw1.ext.ext) (lg_rows hl hw1 (by (repeat first|exact P0|apply P1))) (hr.ext hw1.ext.ext) (by omega) (by omega)))|((with_reducible apply ob_id);first|(focus ((with_reducible apply (oq_subE (k:=(m:Int)-1)));exact rfl;exact rfl;omega))|(focus ((with_reducible apply (oq_addE (m:=a.1) (n:=q4) (k:=a.1+q4)));exact rfl;exact rfl;omega))|((with_reducible apply oq_neqB);exact rfl;exact rfl)|((with_reducible apply (oq_neLg z));exact rfl;exact rfl)|((with_reducible apply oq_neqT);exact rfl;exact rfl;omega)|((with_reducible apply oq_neqF);exact rfl;exact rfl;omega)|((with_reducible apply oq_lssT);exact rfl;exact rfl;omega)|((with_reducible apply oq_lssF);exact rfl;exact rfl;omega)|((with_reducible apply oq_eqlT);exact rfl;exact rfl;omega)|((with_reducible apply oq_eqlF);exact rfl;exact rfl;omega))|(focus ((with_reducible apply oq_indexAddrN (i:=i));(iterate 4 exact rfl);omega))|(focus ((with_reducible apply oq_indexAddrN);(iterate 4 exact rfl);omega))|(apply oq_fn;exact rfl;first|exact trivial|(and_intros<;>omega)|omega|skip)|((with_reducible apply oq_load);exact rfl;exact rfl)|((with_reducible apply oq_loadAgg);exact rfl;exact rfl))|((with_reducible apply tl_id);first|(with_reducible apply tl_nil)|((with_reducible apply u_s);(iterate 3 exact rfl);(with_reducible apply os_callS (PV:=DskV AM _ m cM n cp v q1 q2 q3 q4 g0 g1 C L) (hc:=Tryz.call66));exact rfl;exact rfl;exact fun D w1 hw1=>HO w1 hw1.ext.ext;rintro _ _ ⟨bD,bM,E,rfl,rfl,hE2,hnl⟩;simp only [dkH,List.cons_append,List.nil_append])|((with_reducible apply u_s);(iterate 3 exact rfl);(with_reducible apply os_callF (PV:=PlansV _ m) (hc:=Tryz.call74));exact rfl;exact rfl;exact fun D w1 hw1=>HP bD bM E w1 hw1.ext.ext (DskR.of_has (hw1.sub (by unfold dkH dkC;(repeat' (first|exact FrSub.nil|(apply FrSub.cons;exact rfl)|exact HpSub.refl _|(apply HpSub.consE;(repeat first|exact P0|apply P1);exact rfl)|apply HpSub.skipX|apply HpSub.skipX|exact HpSub.nil)))) hnl) hE2;rintro _ _ ⟨l,P,g,c,hlp,hlP,rfl,rfl⟩;simp only [List.cons_append,List.nil_append];obtain ⟨⟨xp,xA,xn,xc⟩,hx⟩:∃ x,l[i]?=some x:=⟨_,List.getElem?_eq_getElem (by have:=congrArg List.length hlp;simp only [List.length_map,plansF_len] at this;omega)⟩;obtain rfl:=(getD_map hlp hx).symm.trans HB;have hin:=hlP _ (List.mem_of_getElem? hx))|((with_reducible apply u_s);(iterate 3 exact rfl);(with_reducible apply os_callF (PV:=TwinV T L m n) (hc:=Tryz.call20));exact rfl;exact rfl;exact fun D w1 hw1=>twin_calls AM A m cM n cp T L w1 (hT.ext hw1.ext.ext) (hr.ext hw1.ext.ext) (by omega) (by omega);rintro _ _ ⟨b1,k1,b2,k2,rfl,rfl⟩;simp only [List.cons_append,List.nil_append])|((with_reducible apply u_s);(iterate 3 exact rfl);(with_reducible apply os_callF (PV:=BestV (rl,rk,re)) (hc:=Tryz.call21));exact rfl;exact rfl;exact fun D w1 hw1=>(hB _ _ _ _ w1 (by first|exact hr.ext hw1.ext.ext|exact lg_rows hl hw1 (by (repeat first|exact P0|apply P1))) hw1.ext.ext).1;rintro _ _ ⟨_|⟨bX,cX⟩,ho1,rfl,rfl⟩<;>simp only [sN,hN,List.cons_append,List.nil_append])|((with_reducible apply u_s);(iterate 3 exact rfl);(with_reducible apply os_callF (PV:=BestV (rl,rk,re)) (hc:=Tryz.call22));exact rfl;exact rfl;exact fun D w1 hw1=>(hB _ _ _ _ w1 (by first|exact hr.ext hw1.ext.ext|exact lg_rows hl hw1 (by (repeat first|exact P0|apply P1))) hw1.ext.ext).2;rintro _ _ ⟨_|⟨bY,cY⟩,ho2,rfl,rfl⟩<;>simp only [sN,hN,List.cons_append,List.nil_append])|((with_reducible apply u_q);(iterate 4 exact rfl))|((with_reducible apply u_s0);exact rfl;exact rfl)|((with_reducible apply u_s);(iterate 3 exact rfl)))|((with_reducible apply gx_id);first|(with_reducible apply v_nil)|((with_reducible apply v_q);(iterate 3 exact rfl)))|((with_reducible apply os_id);first|((with_reducible apply os_x);exact rfl)|((with_reducible apply os_storeAgg);(iterate 5 exact rfl)))|((with_reducible apply ox_id);first|((with_reducible apply ox_alloc);exact rfl;intro _)|((with_reducible apply ox_box);exact rfl;exact rfl;intro _)|((with_reducible apply ox_boxAgg);exact rfl;intro _)|((with_reducible apply ox_buildSlice1);(iterate 6 exact rfl);intro _))|((with_reducible apply rd_id);first|(apply rd_pn0 hx;(repeat first|exact P0|apply P1);done)|(apply rd_pn1 hx;(repeat first|exact P0|apply P1);done)|(apply rd_pn2 hx;(repeat first|exact P0|apply P1);done)|(apply Rd.own;(focus (repeat (first|exact P0|(with_reducible apply pick_app)|(with_reducible apply P1))));exact rfl)|(apply Rd.old;(first|(with_reducible assumption)|exact c0|exact c1|exact c2|exact c3|exact c4|exact c5|exact c6|exact c7|exact c8|exact d0|exact d1|exact d2|exact d3|exact d4|exact d5);first|exact List.not_mem_nil|exact m0|exact m1|exact m2|exact m3|exact m4|exact m5|exact m6|exact m7|exact m8|exact m9))|((with_reducible apply t_id);first|(with_reducible apply t_seq)|(apply t_region;kernel_rfl)|(apply t_drawn;kernel_rfl;decide +kernel;try simp only [List.append_eq,List.cons_append,List.nil_append])|((with_reducible apply t_condT);exact rfl)|((with_reducible apply t_condF);exact rfl)|(with_reducible apply t_ret)|(with_reducible apply t_skip)|(with_reducible apply t_exit)|(with_reducible apply t_block))|with_reducible apply q_thenN|with_reducible apply q_thenR|with_reducible apply q_blockN|with_reducible apply q_thenE|((with_reducible apply q_blockE);exact rfl)|exact P0|exact Rdn.zero|apply Rdn.succ|((with_reducible apply Norm.nil);exact rfl)|((with_reducible apply Norm.cons);exact rfl)|(with_reducible apply end_ret)|exact rvs_nil|(with_reducible apply rvs_cons)|((with_reducible apply rv_tmp);exact rfl)|exact Nat.le_of_ble_eq_true rfl));(try focus (repeat (rename_i x;first|exact goD x m1.p|revert x)));(try focus (repeat (rename_i x;first|exact goD x m2.p|revert x)));(try focus (repeat (rename_i x;first|exact goD x m3.p|revert x)));(try focus (repeat (rename_i x;first|exact goD x m4.p|revert x)));(try focus (repeat (rename_i x;first|exact goD x m5.p|revert x)));(try focus (repeat (rename_i x;first|exact goD x m6.p|revert x)));(try focus (repeat (rename_i x;first|exact goD x m7.p|revert x)));(try focus (repeat (rename_i x;first|exact goD x m8.p|revert x)));(try focus (repeat (rename_i x;first|exact goD x m9.p|revert x)));(try focus (repeat (rename_i x;first|exact goD x m10.p|revert x)));(try focus (repeat (rename_i x;first|exact goD x m11.p|revert x)));(try focus (repeat (rename_i x;first|exact goD x m12.p|revert x)));(try focus (repeat (rename_i x;first|exact goD x m13.p|revert x)));(try focus (repeat (rename_i x;first|exact goD x m14.p|revert x)));(try focus (repeat (rename_i x;first|exact goD x m15.p|revert x)));(try focus (repeat (rename_i x;first|exact goD x m16.p|revert x)))) (e:GoTs A1 A2 A3 A4 A5 A6 A7 A8 A9 A10 A11 A12 A13 A14 A15 A16:=by constructor<;>first|(with_reducible exact GoT.t)|exact GoT.u):G:=p.run h
open Go.RowKit
attribute [local irreducible] OQ OS OX Rd T TL GX GL AL AI RV wpG SAny Calls
theorem zero131z:(Tryz.prog.info? 131).map (fun i=>i.zero)=some (some (.agg #[.int .i64 0,.slice none 0 0,.bool false])):=by kernel_rfl
theorem pn_rows {w0:World} {M:Ms} {H H':Hp} {w:World} {g n:Nat} {l:List Pn} {tg:Tg} (hl:l.length=n) (h:Has w0 M H w) (q:Pick H g ((l.map pnCells).flatten) tg H'):RdS w 3 (some ⟨g,0,none⟩) n (l.map pnCells):=
 Blk.rows (h.blk _ q.mem).2 (by simpa using hl) pn_len
theorem in_rows1 {w0:World} {M:Ms} {H H':Hp} {w:World} {g:Nat} {l:List Int} {n:Nat} {tg:Tg} (hl:l.length=n) (h:Has w0 M H w) (q:Pick H g (l.map iv) tg H'):RdS w 1 (some ⟨g,0,none⟩) n (l.map inCells):=
 Blk.rows (by rw [in_flat];exact (h.blk _ q.mem).2) (by simpa using hl) in_rows_len
theorem two_rows {w0:World} {M:Ms} {H H':Hp} {w:World} {g:Nat} {a b:Value} {tg:Tg} (h:Has w0 M H w) (q:Pick H g [a,b] tg H'):RdS w 1 (some ⟨g,0,none⟩) 2 [[a],[b]]:=
 Blk.rows (h.blk _ q.mem).2 rfl (by simp)
theorem getD_map {l:List Pn} {Q:List Pl} (h:l.map (·.p)=Q) {s:Nat} {y:Pn} (hy:l[s]?=some y):Q.getD s none=y.p:=by
 rw [← h,List.getD_eq_getElem?_getD,List.getElem?_map,hy];rfl
theorem step_take {A:Arcs} {m i:Nat} {Q:List Pl} (hi:i<m):(stepP A m Q).take (i+1)=(stepP A m Q).take i++[leastF (Q.getD i none) (moreP Q (A i))]:=by
 rw [List.take_add_one]
 congr 1
 simp [stepP,hi]
theorem plans_calls (bd:Nat) (AP AT:Option Addr) (m cM n cp:Nat) (L:List Lg) (w:World) (d0:w.cell? ⟨bd,0,none⟩=some (.slice AP m cM)) (d1:w.cell? ⟨bd,1,none⟩=some (.slice AT n cp)) (hr:RdS w 5 AT n (L.map lgCells)) (hn:n≤40) (hm:m≤12) (hL:∀ z∈L,LegOk m z) (cst:Lg→Bool→Int) (hc:∀ z∈L,∀ bk,cst z bk≤166666666667) (HF:∀ (j:Nat) (z:Lg) (bk:Bool) (w1:World),L[j]?=some z→Ext w w1→Calls Tryz.prog 81 #[.pointer (some ⟨bd,0,none⟩),.agg #[.int .i64 (j:Nat),.bool bk]] w1 fun e w'=>e=.returned (.tuple #[.int .i64 (if 0≤cst z bk then cst z bk else 0),.bool (decide (0≤cst z bk))])∧Ext w1 w') (to:Nat→Bool) (kf:Nat) (caps:List Value) (hcf:∀ (a:Array Value) (w:World),(callFunc kf a).run Tryz.prog w=.ok (.enter kf a) w) (HT:∀ (i:Nat) (w1:World),i<m→Ext w w1→Calls Tryz.prog kf ⟨.int .i64 (i:Nat)::caps⟩ w1 fun e w'=>e=.returned (.bool (to i))∧Ext w1 w'):Calls Tryz.prog 68 #[.pointer (some ⟨bd,0,none⟩),.func (.func kf) #[] ⟨caps⟩] w fun e w'=>∃ u H',e=.returned u∧PlansV (plansF (arcs cst L) m to m) m u H'∧Has w ⟨[],[]⟩ H' w':=by
 have hl:L.length=n:=by simpa using hr.len
 refine enterF (c:=cx w 105) Tryz.func68 rfl rfl rfl rfl ?_
 repeat' (first|((with_reducible apply oq_id);first|(apply oq_fn;exact rfl;first|exact trivial|(and_intros<;>omega)|omega|skip)|((with_reducible apply oq_load);exact rfl;exact rfl))|((with_reducible apply tl_id);first|(with_reducible apply tl_nil)|((with_reducible apply u_s);(iterate 3 exact rfl);((with_reducible apply (os_make (n:=m) (hk:=app_ok132) (hz:=zero131z) (zs:=pnCells zP)));(iterate 4 exact rfl);omega;(unfold maxLen;omega);intro g0))|((with_reducible apply u_q);(iterate 4 exact rfl))|((with_reducible apply u_s0);exact rfl;exact rfl)|((with_reducible apply u_s);(iterate 3 exact rfl)))|((with_reducible apply os_id);first|((with_reducible apply os_x);exact rfl)|((with_reducible apply os_store);(iterate 4 exact rfl)))|((with_reducible apply ox_id);first|((with_reducible apply ox_alloc);exact rfl;intro _)|((with_reducible apply ox_box);exact rfl;exact rfl;intro _))|((with_reducible apply rd_id);first|(apply Rd.own;(repeat first|exact P0|apply P1);exact rfl;done)|(apply Rd.old;(first|(with_reducible assumption)|exact c0|exact c1|exact c2|exact c3|exact c4|exact c5|exact c6|exact c7|exact c8|exact d0|exact d1|exact d2|exact d3|exact d4|exact d5);first|exact List.not_mem_nil|exact m0|exact m1|exact m2|exact m3|exact m4|exact m5|exact m6|exact m7|exact m8|exact m9))|((with_reducible apply t_id);first|(with_reducible apply t_seq)|(apply t_region;kernel_rfl)|(with_reducible apply t_block))|with_reducible apply q_thenN|exact P0|((with_reducible apply Norm.nil);exact rfl)|((with_reducible apply Norm.cons);exact rfl)|exact Nat.le_of_ble_eq_true rfl)
 rename_i b2 b5
 rw [show (List.replicate m (pnCells zP)).flatten=((iniN to m 0).map pnCells).flatten by rw [iniN_zero,List.map_replicate]]
 apply t_loopP (ι:=Nat) [1,2,5,22] (fun k=>[(23,.int .i64 ((k:Nat):Int))]) (fun k=>[(b5,[.slice (some ⟨g0,0,none⟩) m m],some (132,1,1)),(g0,((iniN to m k).map pnCells).flatten,some (131,3,m)),(b2,[.pointer (some ⟨bd,0,none⟩)],some (126,1,1))]) (fun k=>k≤m) (fun k=>m-k) (0)
 (repeat (first|exact KeepF.nil|(apply KeepF.cons;exact rfl)|apply KeepF.skip))
 (repeat first|exact FrSub.nil|(apply FrSub.cons;exact rfl))
 (try simp only [List.cons_append,List.nil_append])
 (repeat' (first|exact HpSub.refl _))
 · exact Nat.zero_le _
 rintro k hk
 try simp only [List.cons_append,List.nil_append]
 by_cases hlt:k<m
 · have hk1:=iniN_at (to:=to) hlt
   have hs:=iniN_set (to:=to) (m:=m) (k:=k)
   have HTk:=fun w1 (hx:Ext w w1)=>HT k w1 hlt hx
   cases hto:to k with
   | false=>
     rw [hto] at HTk
     ((all_goals refine goR1e ?_);(all_goals constructor);(any_goals exact trivial);all_goals intros)
     all_goals (refine ⟨k+1,by omega,by omega,?_,?_⟩<;>(repeat' (first|exact FrSub.nil|(apply FrSub.cons;exact rfl)|exact HpSub.refl _|(apply HpSub.consE;(repeat first|exact P0|apply P1);first|exact rfl|(simp;done)|skip))))
   | true=>
     rw [hto] at HTk
     ((all_goals refine goR1e ?_);(all_goals constructor);(any_goals exact trivial);all_goals intros)
     all_goals (refine ⟨k+1,by omega,by omega,?_,?_⟩<;>(repeat' (first|exact FrSub.nil|(apply FrSub.cons;exact rfl)|exact HpSub.refl _|(apply HpSub.consE;(repeat first|exact P0|apply P1);first|exact rfl|(simp;done)|skip))))
 obtain rfl:m=k:=by omega
 ((all_goals refine goR1e ?_);(all_goals constructor);(any_goals exact trivial);all_goals intros)
 apply t_loopP (ι:=Nat×Nat×Nat×List Pn×List Rb) [2,5,40] (fun z=>[(41,.int .i64 ((z.1:Nat):Int))]) (fun z=>(b5,[.slice (some ⟨z.2.1,0,none⟩) m z.2.2.1],some (132,1,1))::(z.2.1,((z.2.2.2.1).map pnCells).flatten,some (131,3,z.2.2.1))::(b2,[.pointer (some ⟨bd,0,none⟩)],some (126,1,1))::poolH z.2.2.2.2) (fun z=>z.1≤m∧z.2.2.2.1.map (·.p)=(plansF (arcs cst L) m to z.1)∧∀ x∈z.2.2.2.1,InP z.2.2.2.2 x) (fun z=>m-z.1) ((0,g0,m,iniN to m m,[]))
 (repeat (first|exact KeepF.nil|(apply KeepF.cons;exact rfl)|apply KeepF.skip))
 (repeat first|exact FrSub.nil|(apply FrSub.cons;exact rfl))
 (try simp only [List.cons_append,List.nil_append])
 (repeat' (first|exact HpSub.refl _))
 · exact ⟨Nat.zero_le _,iniN_p _ _ _,iniN_in⟩
 rintro ⟨k,g,c,l,P⟩ ⟨hk,hlp,hlP⟩
 simp only at hk hlp hlP
 try simp only [List.cons_append,List.nil_append]
 have hll:l.length=m:=by have:=congrArg List.length hlp;simpa [plansF_len] using this
 have hbd:=plans_bd (A:=(arcs cst L)) (n:=m) (to:=to) (by
   intro i x hx
   obtain ⟨_,z,hz,h0,h⟩:=arcT_some (arcs_mem hx)
   refine ⟨h0,?_⟩
   have hm:=List.mem_of_getElem? hz
   rcases h with ⟨_,e⟩|⟨_,e⟩<;>rw [e]<;>exact hc z hm _) k
 have hst:(plansF (arcs cst L) m to (k+1))=stepP (arcs cst L) m (plansF (arcs cst L) m to k):=rfl
 have hQl:=plansF_len (A:=(arcs cst L)) (n:=m) (to:=to) k
 by_cases hlt:k<m
 rotate_left
 · obtain rfl:m=k:=by omega
   ((all_goals refine goR1e ?_);(all_goals constructor);(any_goals exact trivial);all_goals intros)
   all_goals (refine ⟨_,⟨l,P,g,c,hlp,hlP,rfl,rfl⟩,?_⟩<;>(repeat' (first|exact HpSub.refl _|(apply HpSub.consE;(repeat first|exact P0|apply P1);first|exact rfl|(simp;done)|skip)|apply HpSub.skipX)))
 obtain ⟨Q,hQ⟩:∃ Q,(plansF (arcs cst L) m to k)=Q:=⟨_,rfl⟩
 rw [hQ] at hlp hst hbd hQl
 repeat' (first|((with_reducible apply oq_id);first|((with_reducible apply oq_lssT);exact rfl;exact rfl;omega)|(apply oq_fn;exact rfl;first|exact trivial|(and_intros<;>omega)|omega|skip)|((with_reducible apply oq_load);exact rfl;exact rfl))|((with_reducible apply tl_id);first|(with_reducible apply tl_nil)|((with_reducible apply u_s);(iterate 3 exact rfl);(with_reducible apply os_callF (PV:=OwnP l m) (hc:=Tryz.call105));exact rfl;exact rfl;exact fun D w1 hw1=>cloneP_calls g 0 m c l w1 (pn_rows hll hw1 (by (repeat first|exact P0|apply P1))) (by omega);rintro _ _ ⟨gN,cN,rfl,rfl⟩;simp only [List.cons_append,List.nil_append])|((with_reducible apply u_q);(iterate 4 exact rfl)))|((with_reducible apply rd_id);first|(apply Rd.own;(repeat first|exact P0|apply P1);exact rfl;done))|((with_reducible apply t_id);first|(with_reducible apply t_seq)|(apply t_region;kernel_rfl)|((with_reducible apply t_condT);exact rfl)|(with_reducible apply t_skip)|(with_reducible apply t_block))|with_reducible apply q_thenN)
 apply t_loopP (ι:=List Pn×List Rb) [2,5,40,41,7,46] (fun z=>[(47,.int .i64 ((z.1.length:Nat):Int))]) (fun z=>(gN,((z.1++l.drop z.1.length).map pnCells).flatten,some (131,3,cN))::(b5,[.slice (some ⟨g,0,none⟩) m c],some (132,1,1))::(g,((l).map pnCells).flatten,some (131,3,c))::(b2,[.pointer (some ⟨bd,0,none⟩)],some (126,1,1))::poolH z.2) (fun z=>z.1.length≤m∧z.1.map (·.p)=(stepP (arcs cst L) m Q).take z.1.length∧(∀ x∈z.1,InP z.2 x)∧∀ x∈l,InP z.2 x) (fun z=>m-z.1.length) (([],P))
 (repeat (first|exact KeepF.nil|(apply KeepF.cons;exact rfl)|apply KeepF.skip))
 (repeat first|exact FrSub.nil|(apply FrSub.cons;exact rfl))
 (try simp only [List.cons_append,List.nil_append])
 (repeat' (first|exact HpSub.refl _))
 · exact ⟨Nat.zero_le _,rfl,fun x hx=>(by cases hx),hlP⟩
 rintro ⟨ys,Pq⟩ ⟨hy,hyp,hyP,hlP1⟩
 simp only at hy hyp hyP hlP1
 try simp only [List.cons_append,List.nil_append]
 by_cases hlC:ys.length<m
 rotate_left
 · have hym:ys.length=m:=by omega
   ((all_goals refine goR1e ?_);(all_goals constructor);(any_goals exact trivial);all_goals intros)
   all_goals (refine ⟨(k+1,gN,cN,ys,Pq),⟨by simp only;omega,by simp only;rw [hst,hyp,hym,List.take_of_length_le (by simp [stepP])],hyP⟩,by simp only;omega,?_,?_⟩<;>(try simp only)<;>(try rw [List.drop_of_length_le (by omega),List.append_nil])<;>(repeat' (first|exact FrSub.nil|(apply FrSub.cons;exact rfl)|exact HpSub.refl _|(apply HpSub.consE;(repeat first|exact P0|apply P1);first|exact rfl|(simp;done)|skip)|apply HpSub.skipX)))
 obtain ⟨x,hx⟩:∃ x,l[ys.length]?=some x:=⟨_,List.getElem?_eq_getElem (by omega)⟩
 have hxm:x∈l:=List.mem_of_getElem? hx
 have hlen:∀ x∈l,(plL x.p).length≤k:=fun x hx=>by
   cases hp:x.p with
   | none=>exact Nat.zero_le _
   | some a=>exact (hbd a (by rw [← hlp,← hp];exact List.mem_map.2 ⟨x,hx,rfl⟩)).2.2
 repeat' (first|((with_reducible apply oq_id);first|(focus ((with_reducible apply oq_indexAddrN);(iterate 4 exact rfl);omega))|((with_reducible apply oq_lssT);exact rfl;exact rfl;omega)|(apply oq_fn;exact rfl;first|exact trivial|(and_intros<;>omega)|omega|skip)|((with_reducible apply oq_load);exact rfl;exact rfl)|((with_reducible apply oq_loadAgg);exact rfl;exact rfl))|((with_reducible apply tl_id);first|(with_reducible apply tl_nil)|((with_reducible apply u_s);(iterate 3 exact rfl);(with_reducible apply os_callF (PV:=FromV bd ((ys.length:Nat):Int)) (hc:=Tryz.call106));exact rfl;exact rfl;exact fun D w1 hw1=>from106_calls bd _ w1;rintro _ _ ⟨b0,b1,rfl,rfl⟩;simp only [List.cons_append,List.nil_append])|((with_reducible apply u_q);(iterate 4 exact rfl))|((with_reducible apply u_s0);exact rfl;exact rfl)|((with_reducible apply u_s);(iterate 3 exact rfl)))|((with_reducible apply os_id);first|((with_reducible apply os_x);exact rfl)|((with_reducible apply os_store);(iterate 4 exact rfl)))|((with_reducible apply ox_id);first|((with_reducible apply ox_alloc);exact rfl;intro _)|((with_reducible apply ox_buildSlice);(iterate 4 exact rfl)))|((with_reducible apply rd_id);first|(apply rd_pn0 hx;(repeat first|exact P0|apply P1);done)|(apply rd_pn1 hx;(repeat first|exact P0|apply P1);done)|(apply rd_pn2 hx;(repeat first|exact P0|apply P1);done)|(apply Rd.own;(repeat first|exact P0|apply P1);exact rfl;done))|((with_reducible apply t_id);first|(with_reducible apply t_seq)|(apply t_region;kernel_rfl)|((with_reducible apply t_condT);exact rfl)|(with_reducible apply t_skip)|(with_reducible apply t_block))|with_reducible apply q_thenN|exact P0|exact Rdn.zero|apply Rdn.succ|((with_reducible apply Norm.nil);exact rfl)|((with_reducible apply Norm.cons);exact rfl)|exact Nat.le_of_ble_eq_true rfl|exact (rfl:(_:Bool)=true)|(intro _;with_reducible apply tl_id))
 rename_i ga0 b9
 refine t_rangeT 78 (m:=1) (N:=L.length) (α:=FN L ((ys.length:Nat):Int)) (β:=Nat) (κ:=Nat) (ι:=Nat×Nat×List Pn×List Rb) (S:=fun xs=>xs=fns L ((ys.length:Nat):Int) L.length) (Sp:=fun pre=>pre <+: fns L ((ys.length:Nat):Int) L.length)
   (encs:=fun x=>[.agg ⟨[.int .i64 (x.1.1:Int),.bool x.1.2.1]⟩,.int .i64 x.1.2.2])
   (hk:=(b1,[.int .i64 ((ys.length:Nat):Int)],some (3,1,1))::(b0,[.pointer (some ⟨bd,0,none⟩)],some (126,1,1))::(gN,((ys++l.drop ys.length).map pnCells).flatten,some (131,3,cN))::(b5,[.slice (some ⟨g,0,none⟩) m c],some (132,1,1))::(g,((l).map pnCells).flatten,some (131,3,c))::(b2,[.pointer (some ⟨bd,0,none⟩)],some (126,1,1))::poolH Pq)
   (fun z=>(b9,[.slice (some ⟨z.1,0,none⟩) z.2.2.1.length z.2.1],some (132,1,1))::(z.1,((z.2.2.1).map pnCells).flatten,some (131,3,z.2.1))::poolH z.2.2.2) (fun pre z=>z.2.2.1.map (·.p)=Q.getD ys.length none::mvP cst Q pre∧z.2.2.1.length≤pre.length+1∧∀ x∈z.2.2.1,InP (z.2.2.2++Pq) x∧(plL x.p).length≤13) (fun x b=>[(b,[.int .i64 (x.1.1:Int),.bool x.1.2.1],some (153,2,1))])
   (fun x b=>[(10,.pointer (some ⟨b,0,none⟩)),(11,.int .i64 x.1.2.2),(2,.pointer (some ⟨b2,0,none⟩)),(5,.pointer (some ⟨b5,0,none⟩)),(9,.pointer (some ⟨b9,0,none⟩))]) (fun _=>[]) (fun _ _ _=>False) (ga0,1,[x],[]) rfl Tryz.call131 ?seq ⟨by rw [getD_map hlp hx];rfl,by simp,fun q hq=>by (obtain rfl:q=x:=(by simpa using hq));exact ⟨(hlP1 _ hxm).more,by have:=hlen _ hxm;omega⟩⟩ ?sub ?ok ?nt ?done (fun _ _ _ _ h=>h.elim)
 case sub=>
   simp only [List.cons_append,List.nil_append,poolH_nil]
   (repeat' (first|exact HpSub.refl _|(apply HpSub.consE;(repeat first|exact P0|apply P1);first|exact rfl|(simp [pnCells];done)|skip)))
 case nt=>
   intro x b z
   exact (TyO.cons (TyO.cons (TyO.cons (TyO.pool _)))).noT
 case seq=>
   intro D w1 hw1
   have hx:Ext w w1:=hw1.ext.ext
   refine from_stops Fence.wide 2 trivial rfl (by omega) b0 b1 bd AT n cp L _ (by omega) (fun z hz=>(hL z hz).2.2.1) _ (.inr (by simp)) (.inr (by simp)) (.inl ⟨cell_lt d0,List.not_mem_nil⟩) (fun h0 b o h=>.inl ⟨by obtain ⟨b',o',e,hlt,_⟩:=hr.at_ h0;rw [h] at e;cases e;exact hlt,List.not_mem_nil⟩) w1 ⟨hr.ext hx,?_,?_,hx.cell d1⟩
   · exact hw1.cellAt (by (repeat first|exact P0|apply P1)) rfl
   · exact hw1.cellAt (by (repeat first|exact P0|apply P1)) rfl
 case ok=>
   refine ⟨fun _=>rfl,rfl,fun x W=>?_,fun x b z k W D hb hw _ y hy q hq=>?_,fun l' pre x z b W D hi hw hlt' hl'=>?_,fun x b=>(TyO.cons (e:=0) TyO.nil).noM,fun z=>(TyO.cons (e:=0) (TyO.cons (TyO.pool _))).noM,(TyO.cons (e:=0) (TyO.cons (TyO.cons (TyO.cons (TyO.cons (TyO.cons (TyO.pool _))))))).noM,fun _=>NoM.nil⟩
   · refine sl0_seq (sl0_region (by kernel_rfl) ?_)
     ((all_goals refine goR0e ?_);(all_goals constructor);(any_goals exact trivial);all_goals intros)
     refine sl0_region (by kernel_rfl) ?_
     ((all_goals refine goR0e ?_);(all_goals constructor);(any_goals exact trivial);all_goals intros)
     rename_i bx
     refine ⟨bx,?_,?_⟩
     · (repeat first|exact FrSub.nil|(apply FrSub.cons;exact rfl))
     · (repeat (first|exact HpSub.refl _|(apply HpSub.consE;(repeat first|exact P0|apply P1);exact rfl)|exact HpSub.nil))
   · obtain rfl:y=_:=by simpa using hy
     have h1:=(hb.blk _ hy).2
     exact TyO.ne (e:=153) (TyO.app (TyO.cons (TyO.cons (TyO.pool _))) (TyO.cons (TyO.cons (TyO.cons (TyO.cons (TyO.cons (TyO.cons (TyO.pool _)))))))) h1 hq (hw.blk _ hq).2
   · obtain ⟨⟨t,bk,site⟩,zt,hz,hsc⟩:=x
     obtain ⟨ga,ca,ls,N⟩:=z
     obtain ⟨hi1,hi2,hi3⟩:=hi
     simp only at hz hsc hi1 hi2 hi3
     have hzm:=List.mem_of_getElem? hz
     obtain ⟨s,rfl⟩:∃ s:Nat,site=s:=by
       obtain ⟨⟨_,_⟩,⟨_,_⟩,_⟩:=hL zt hzm
       refine Int.eq_ofNat_of_zero_le ?_
       rcases hsc with ⟨_,_,h⟩|⟨_,_,_,h⟩<;>rw [h]<;>omega
     have hsm:s<m:=by
       obtain ⟨⟨_,_⟩,⟨_,_⟩,_⟩:=hL zt hzm
       rcases hsc with ⟨_,_,h⟩|⟨_,_,_,h⟩<;>omega
     obtain ⟨y,hyl⟩:∃ y,l[s]?=some y:=⟨_,List.getElem?_eq_getElem (by omega)⟩
     have hQs:=getD_map hlp hyl
     have hym:=List.mem_of_getElem? hyl
     have hx:Ext w W:=hw.ext.ext
     have hwk:=hw.sub (HpSub.skipApp (HpSub.refl _))
     have hoff:=fun b (hb:b∈(((b1,[.int .i64 ((ys.length:Nat):Int)],some (3,1,1))::(b0,[.pointer (some ⟨bd,0,none⟩)],some (126,1,1))::(gN,((ys++l.drop ys.length).map pnCells).flatten,some (131,3,cN))::(b5,[.slice (some ⟨g,0,none⟩) m c],some (132,1,1))::(g,((l).map pnCells).flatten,some (131,3,c))::(b2,[.pointer (some ⟨bd,0,none⟩)],some (126,1,1))::poolH Pq):Hp).map Prod.fst)=>hw.off hb
     have hM:∀ b'∈(([(b,[.int .i64 (t:Int),.bool bk],some (153,2,1))]++((b9,[.slice (some ⟨ga,0,none⟩) ls.length ca],some (132,1,1))::(ga,((ls).map pnCells).flatten,some (131,3,ca))::poolH N):Hp)).map Prod.fst,w.heap.size≤b':=fun b' hb'=>by
       obtain ⟨q,hq,rfl⟩:=List.mem_map.1 hb'
       rcases (hw.blk q (List.mem_append_left _ hq)).1 with h1|h1
       · exact h1
       · exact (List.not_mem_nil h1).elim
     have HFx:=fun D1 w1 H1 (h1:Has W ⟨_,D1⟩ H1 w1)=>HF t zt bk w1 hz (ext_over hx h1.ext hM)
     have c2:W.cell? ⟨b2,0,none⟩=some (.pointer (some ⟨bd,0,none⟩)):=hwk.cellAt (by (repeat first|exact P0|apply P1)) rfl
     have c5:W.cell? ⟨b5,0,none⟩=some (.slice (some ⟨g,0,none⟩) m c):=hwk.cellAt (by (repeat first|exact P0|apply P1)) rfl
     have c6:W.cell? ⟨g,0+s*3,none⟩=some (.int .i64 (plF y.p)):=hwk.cellAt (by (repeat first|exact P0|apply P1)) (pn_at hyl).1
     have c7:W.cell? ⟨g,0+s*3+1,none⟩=some (.slice y.A y.n y.c):=hwk.cellAt (by (repeat first|exact P0|apply P1)) (pn_at hyl).2.1
     have c8:W.cell? ⟨g,0+s*3+2,none⟩=some (.bool y.p.isNone):=hwk.cellAt (by (repeat first|exact P0|apply P1)) (pn_at hyl).2.2
     have m2:=hoff b2 (by simp)
     have m5:=hoff b5 (by simp)
     have m6:=hoff g (by simp)
     have HY:=fun D1 w1 H1 (h1:Has W ⟨(([(b,[.int .i64 (t:Int),.bool bk],some (153,2,1))]++((b9,[.slice (some ⟨ga,0,none⟩) ls.length ca],some (132,1,1))::(ga,((ls).map pnCells).flatten,some (131,3,ca))::poolH N):Hp)).map Prod.fst,D1⟩ H1 w1)=>((hlP1 y hym).rd (pool_blk (hwk.sub (by repeat (first|exact HpSub.refl _|apply HpSub.skipX))))).extM h1.ext (fun h0 b' o' hA=>by
       rcases hlP1 y hym with ⟨_,_,h3,_⟩|⟨r,hr',_,h2,_⟩
       · omega
       · rw [h2] at hA
         cases hA
         exact hoff r.1 (List.mem_map.2 ⟨rbH r,by repeat (first|exact List.mem_map.2 ⟨r,hr',rfl⟩|apply List.mem_cons_of_mem),rfl⟩))
     have hyn:=(hlP1 y hym).len
     have hyk:=hlen y hym
     have hyb:∀ a,y.p=some a→0≤a.1∧a.1≤(k:Int)*166666666667:=fun a ha=>by
       have:=hbd a (by rw [← hlp,← ha];exact List.mem_map.2 ⟨y,hym,rfl⟩)
       exact ⟨this.1,this.2.1⟩
     have hcu:=hc zt hzm bk
     have hmv:=mvP_snoc cst Q pre ⟨(t,bk,(s:Int)),zt,hz,hsc⟩ hz
     simp only [Int.toNat_natCast] at hmv
     rw [hQs] at hmv
     clear hyl hym
     obtain ⟨yp,yA,yn,yc⟩:=y
     simp only at hyn hyk hyb hmv c6 c7 c8
     simp only [List.cons_append,List.nil_append]
     by_cases h0:0≤cst zt bk
     rotate_left
     · rw [if_neg h0] at hmv
       simp only [if_neg h0,decide_eq_false h0] at HFx
       repeat' (first|((with_reducible apply oq_id);first|(apply oq_fn;exact rfl;first|exact trivial|(and_intros<;>omega)|omega|skip)|((with_reducible apply oq_load);exact rfl;exact rfl)|((with_reducible apply oq_loadAgg);exact rfl;exact rfl)|((with_reducible apply oq_call (hc:=Tryz.call81));exact rfl;exact rfl;exact fun D w1 hw1=>HFx D w1 _ hw1))|((with_reducible apply tl_id);first|(with_reducible apply tl_nil)|((with_reducible apply u_q);(iterate 4 exact rfl))|((with_reducible apply u_skip);(iterate 3 exact rfl)))|((with_reducible apply rd_id);first|(apply Rd.own;(repeat first|exact P0|apply P1);exact rfl;done)|(apply Rd.old;(first|(with_reducible assumption)|exact c0|exact c1|exact c2|exact c3|exact c4|exact c5|exact c6|exact c7|exact c8|exact d0|exact d1|exact d2|exact d3|exact d4|exact d5);first|exact List.not_mem_nil|exact m0|exact m1|exact m2|exact m3|exact m4|exact m5|exact m6|exact m7|exact m8|exact m9))|((with_reducible apply t_id);first|(with_reducible apply t_seq)|(apply t_region;kernel_rfl)|((with_reducible apply t_condF);exact rfl)|(with_reducible apply t_skip)|(with_reducible apply t_block))|with_reducible apply q_thenN|with_reducible apply q_blockN|exact Rdn.zero|apply Rdn.succ)
       all_goals (refine ⟨(ga,ca,ls,N),⟨by simp only;rw [hmv,List.append_nil];exact hi1,by simp only [List.length_append,List.length_singleton];omega,hi3⟩,?_⟩<;>(repeat' (first|exact HpSub.refl _|(apply HpSub.consE;(repeat first|exact P0|apply P1);first|exact rfl|(simp [pnCells];done)|skip)|apply HpSub.skipX)))
     rw [if_pos h0] at hmv
     simp only [if_pos h0,decide_eq_true h0] at HFx
     rcases yp with _|a
     · simp only at hmv
       repeat' (first|((with_reducible apply oq_id);first|(focus ((with_reducible apply oq_indexAddrN);(iterate 4 exact rfl);omega))|(apply oq_fn;exact rfl;first|exact trivial|(and_intros<;>omega)|omega|skip)|((with_reducible apply oq_load);exact rfl;exact rfl)|((with_reducible apply oq_loadAgg);exact rfl;exact rfl)|((with_reducible apply oq_call (hc:=Tryz.call81));exact rfl;exact rfl;exact fun D w1 hw1=>HFx D w1 _ hw1))|((with_reducible apply tl_id);first|(with_reducible apply tl_nil)|((with_reducible apply u_q);(iterate 4 exact rfl)))|((with_reducible apply rd_id);first|(apply Rd.own;(repeat first|exact P0|apply P1);exact rfl;done)|(apply Rd.old;(first|(with_reducible assumption)|exact c0|exact c1|exact c2|exact c3|exact c4|exact c5|exact c6|exact c7|exact c8|exact d0|exact d1|exact d2|exact d3|exact d4|exact d5);first|exact List.not_mem_nil|exact m0|exact m1|exact m2|exact m3|exact m4|exact m5|exact m6|exact m7|exact m8|exact m9))|((with_reducible apply t_id);first|(with_reducible apply t_seq)|(apply t_region;kernel_rfl)|((with_reducible apply t_condF);exact rfl)|(with_reducible apply t_skip)|(with_reducible apply t_block))|with_reducible apply q_thenN|with_reducible apply q_blockN|exact Rdn.zero|apply Rdn.succ)
       all_goals (refine ⟨(ga,ca,ls,N),⟨by simp only;rw [hmv,List.append_nil];exact hi1,by simp only [List.length_append,List.length_singleton];omega,hi3⟩,?_⟩<;>(repeat' (first|exact HpSub.refl _|(apply HpSub.consE;(repeat first|exact P0|apply P1);first|exact rfl|(simp [pnCells];done)|skip)|apply HpSub.skipX)))
     simp only [plF,plL,Option.isNone] at hyn hyk hmv c6 c7 c8 HY
     obtain ⟨hy0,hy1⟩:=hyb a rfl
     have hml:(ls.map pnCells).flatten.length=ls.length*3:=pnF_len ls
     have hL40:=hlt'
     repeat' (first|((with_reducible apply oq_id);first|(focus ((with_reducible apply (oq_addE (k:=cst zt bk+a.1)));exact rfl;exact rfl;omega))|(focus ((with_reducible apply oq_indexAddrN);(iterate 4 exact rfl);omega))|(apply oq_fn;exact rfl;first|exact trivial|(and_intros<;>omega)|omega|skip)|((with_reducible apply oq_load);exact rfl;exact rfl)|((with_reducible apply oq_loadAgg);exact rfl;exact rfl)|((with_reducible apply oq_call (hc:=Tryz.call81));exact rfl;exact rfl;exact fun D w1 hw1=>HFx D w1 _ hw1)|((with_reducible apply oq_build);(iterate 3 exact rfl)))|((with_reducible apply tl_id);first|(with_reducible apply tl_nil)|((with_reducible apply u_q);(iterate 4 exact rfl)))|((with_reducible apply gx_id);first|(with_reducible apply v_nil)|((with_reducible apply v_q);(iterate 3 exact rfl)))|((with_reducible apply os_id);first|((with_reducible apply os_store);(iterate 4 exact rfl))|((with_reducible apply os_append (hk:=app_ok132));exact rfl;exact rfl;(repeat first|exact P0|apply P1)))|((with_reducible apply ox_id);first|((with_reducible apply ox_buildSlice1);(iterate 6 exact rfl);intro _)|((with_reducible apply ox_buildSlice);(iterate 4 exact rfl)))|((with_reducible apply ai_id);first|((with_reducible apply ai_n);(iterate 4 exact rfl);(with_reducible apply os_callF (PV:=OwnI ([((t:Nat):Int)]++cI a.2) (1+yn)) (hc:=Tryz.call107));exact rfl;exact rfl;exact fun D w1 hw1=>concat_calls _ _ _ yA 1 _ yn yc [((t:Nat):Int)] (cI a.2) w1 (two_rows hw1 (by (repeat first|exact P0|apply P1))) (in_rows1 rfl hw1 (by (repeat first|exact P0|apply P1))) (HY D w1 _ hw1) (by omega) (by omega);rintro _ _ ⟨bN,cM',rfl,rfl⟩;simp only [List.cons_append,List.nil_append])|((with_reducible apply ai_q);(iterate 5 exact rfl))|((with_reducible apply ai_x);(iterate 5 exact rfl))|((with_reducible apply ai_s0);(iterate 4 exact rfl))|((with_reducible apply ai_s);(iterate 5 exact rfl)))|((with_reducible apply al_keep);focus (repeat (first|exact HpSub.refl _|(apply HpSub.cons;(repeat first|exact P0|apply P1))|apply HpSub.skipX|exact HpSub.nil)))|((with_reducible apply rd_id);first|(apply Rd.own;(repeat first|exact P0|apply P1);exact rfl;done)|(apply Rd.old;(first|(with_reducible assumption)|exact c0|exact c1|exact c2|exact c3|exact c4|exact c5|exact c6|exact c7|exact c8|exact d0|exact d1|exact d2|exact d3|exact d4|exact d5);first|exact List.not_mem_nil|exact m0|exact m1|exact m2|exact m3|exact m4|exact m5|exact m6|exact m7|exact m8|exact m9))|((with_reducible apply t_id);first|(apply t_mix (id:=19) [0,1,2,3,4,5,6,7,8,9,11,12,13,14,15] 7 #[false,false,false,false,false,false,false,false,false,false,false,false,false,false,false,false,false,false,false,false,true,true];kernel_rfl;kernel_rfl;exact rfl)|(with_reducible apply t_seq)|(apply t_region;kernel_rfl)|((with_reducible apply t_condT);exact rfl)|(with_reducible apply t_block))|with_reducible apply q_thenN|with_reducible apply q_blockN|exact P0|(with_reducible apply P1)|exact Rdn.zero|apply Rdn.succ|((with_reducible apply Norm.nil);exact rfl)|((with_reducible apply Norm.cons);exact rfl)|((with_reducible apply al_id);first|(apply al_done;decide +kernel)|(apply al_one 10;decide +kernel)|(apply al_one 16;decide +kernel)|(apply al_one 17;decide +kernel)|(apply al_one 18;decide +kernel)|(apply al_one 19;decide +kernel)|(apply al_one 20;decide +kernel)|(apply al_one 21;decide +kernel))|exact hml|exact Nat.le_of_ble_eq_true rfl|exact (rfl:(_:Bool)=true)|omega|(intro _ _;with_reducible apply al_id)|(intro _;with_reducible apply al_id))
     rename_i gNw cNw
     refine ⟨(gNw,cNw,ls++[⟨some (cst zt bk+a.1,t::a.2),some ⟨bN,0,none⟩,1+yn,cM'⟩],(bN,t::a.2,cM')::N),⟨?_,by simp only [List.length_append,List.length_singleton];omega,fun q hq=>?_⟩,?_⟩
     · simp only [List.map_append,List.map_cons,List.map_nil]
       rw [hmv,hi1];rfl
     · rcases List.mem_append.1 hq with hq|hq
       · exact ⟨(hi3 q hq).1.cons,(hi3 q hq).2⟩
       · obtain rfl:=List.mem_singleton.1 hq
         refine ⟨.inr ⟨(bN,t::a.2,cM'),List.mem_cons_self ..,rfl,rfl,?_,rfl⟩,?_⟩
         · simp only [List.length_cons];omega
         · simp only [plL,List.length_cons];omega
     · simp only [poolH_cons,rbH,List.map_append,List.flatten_append,List.length_append,List.length_singleton]
       (repeat' (first|exact HpSub.refl _|(apply HpSub.consE;(repeat first|exact P0|apply P1);first|exact rfl|(simp [pnCells];done)|skip)|apply HpSub.skipX))
 case done=>
   rintro xs ⟨ga,ca,ls,N⟩ rfl ⟨hi1,hi2,hi3⟩
   simp only at hi1 hi2 hi3
   rcases ls with _|⟨x0,ls⟩
   · cases hi1
   simp only [List.map_cons,List.cons.injEq] at hi1
   obtain ⟨hi1,hi4⟩:=hi1
   unfold mvP at hi4
   rw [fns_arcs] at hi4
   simp only [List.length_cons] at hi2
   have hfl:=fns_len L ((ys.length:Nat):Int) L.length
   have hu:(lstN x0 ls).p=leastF (Q.getD ys.length none) (moreP Q (arcs cst L ys.length)):=by rw [lstN_p,hi1,hi4]
   have hum:lstN x0 ls∈x0::ls:=by
     rcases lstN_mem ls x0 with h|h
     · rw [h];exact List.mem_cons_self ..
     · exact List.mem_cons_of_mem _ h
   have HLs:=fun D1 w1 H1 (h1:Has w ⟨[],D1⟩ H1 w1) (H2:HpSub H1 (poolH (N++Pq))) {H3:Hp} (H4:Pick H1 ga (((x0::ls).map pnCells).flatten) (some (131,3,ca)) H3)=>least_calls (some ⟨ga,0,none⟩) ls.length ca x0 ls w1 (pn_rows rfl h1 H4) (by
     have:=blk_cap (h1.blkP H4)
     rw [pnF_len,List.length_cons] at this
     omega) (by omega) (fun q hq=>(hi3 q hq).1.pnR (pool_blk (h1.sub H2)) (by have:=(hi3 q hq).2;omega))
   with_reducible apply q_blockN
   with_reducible apply q_thenN
   refine t_subW (HpSub.w (pool_mid [_,_] [_,_,_,_,_,_] N Pq)) ?_
   simp only [List.cons_append,List.nil_append]
   ((all_goals refine goR1e ?_);(all_goals constructor);(any_goals exact trivial);all_goals intros)
   refine ⟨(ys++[lstN x0 ls],N++Pq),⟨by simp only [List.length_append,List.length_singleton];omega,?_,fun q hq=>?_,fun q hq=>(hlP1 q hq).more⟩,by simp only [List.length_append,List.length_singleton];omega,?_,?_⟩
   · simp only [List.map_append,List.map_cons,List.map_nil,List.length_append,List.length_singleton]
     rw [step_take hlC,hyp,hu]
   · rcases List.mem_append.1 hq with hq|hq
     · exact (hyP q hq).more
     · obtain rfl:=List.mem_singleton.1 hq
       exact (hi3 _ hum).1
   · simp only [List.length_append,List.length_singleton]
     (repeat' (first|exact FrSub.nil|(apply FrSub.cons;exact rfl)))
   · simp only []
     (repeat' (first|exact HpSub.refl _|(apply HpSub.consE;(repeat first|exact P0|apply P1);first|exact rfl|(simp;done)|skip)|apply HpSub.skipX))
section
variable {c:Cx} {F:Fr} {H H':Hp} {K:Value→Hp→Prop} {d:Option Tmp} {ty:TypeId} {pos:String} {af:Array Edge} {gd:Option (Nat×Bool)} {t:TypeId} {x y:Operand} {a0:Bool} {z0:List Value} {k0:TyK} {g k:Nat} {tg:Tg} {row:List Bool} {z u:Bool}
end
def goalL (m j:Nat):List Bool:=(List.replicate m false).set j true
noncomputable def bestR (m:Nat) (L:List Lg) (v q1 q2 q3 q4:Int) (g0 g1:Nat) (C:List Wn) (i j:Int):List Nat×Int×Int:=
 if askE m L v q1 q2 q3 q4 g0 g1 C=0 then (if (0≤i∧i≤(m:Int)-1)∧0≤j∧j≤(m:Int)-1 then (match routedF (arcs (legC v q1 q2 q3 g0 g1 C) L) (lfG (legC v q1 q2 q3 g0 g1 C) L m (goalL m j.toNat)) m i.toNat with
   | none=>([],0,6)
   | some a=>(a.2,a.1,0)) else ([],0,2)) else ([],0,askE m L v q1 q2 q3 q4 g0 g1 C)
def BestV (r:List Nat×Int×Int) (u:Value) (H:Hp):Prop:=∃ o,(o=none→r.1=[])∧u=.tuple #[sN r.1 o,.int .i64 r.2.1,.int .i64 r.2.2]∧H=hN r.1 o
noncomputable def fuelV (v q1 q2 q3:Int) (g0 g1:Nat) (C:List Wn) (z:Lg) (bk:Bool):Value:=.tuple #[.int .i64 (if 0≤legC v q1 q2 q3 g0 g1 C z bk then legC v q1 q2 q3 g0 g1 C z bk else 0),.bool (decide (0≤legC v q1 q2 q3 g0 g1 C z bk))]
theorem fuel_calls (b bM:Nat) (AP AT:Option Addr) (m cM n cp:Nat) (v q1 q2 q3 q4:Int) (g0 g1:Nat) (E:List En) (C:List Wn) (L:List Lg) (j:Nat) (z:Lg) (bk:Bool) (w:World) (hd:DskR w b bM AP AT m cM n cp v q1 q2 q3 q4 g0 g1 E) (hE:E.map keyOf=deskE v q1 q2 q3 C L n) (hr:RdS w 5 AT n (L.map lgCells)) (hn:n≤1000000) (hj:j<n) (hz:L[j]?=some z) (hL:LegOk m z) (hp:PaceOk v q1 q2 q3 q4 g0 g1) (hcw:∀ x∈C,windB x.l=true) (hC:C.length≤4):Calls Tryz.prog 81 #[.pointer (some ⟨b,0,none⟩),fk j bk] w fun e w'=>e=.returned (fuelV v q1 q2 q3 g0 g1 C z bk)∧Ext w w':=by
 obtain ⟨_,_,_,kx,ky,kz,kh⟩:=hL
 obtain ⟨hR,hRl⟩:=legRz_ok (z:=z) (bk:=bk) hcw hp kh ⟨kx,ky,kz⟩
 have lb:=lenV_bound kx ky
 have HL:=fun w1=>length_calls z.a z.b z.x z.y z.h kx ky w1
 obtain ⟨_,_,_,_,_,kg⟩:=id hp
 obtain ⟨me,hme⟩:=Int.eq_ofNat_of_zero_le lb.1
 have hP:∀ w1,Ext w w1→_:=fun w1 (hx:Ext w w1)=>part59_calls b bM AP AT m cM n cp v q1 q2 q3 q4 g0 g1 E C L j n z me bk w1 (hd.ext hx) hE hj hz hR (by omega) (by omega) (by omega)
 have HP:=hP
 clear hP
 obtain ⟨bA,oA,z',rfl,_,hz',c0,c1,c2,c3,c4⟩:=lg_read hr hj
 rw [hz] at hz'
 obtain rfl:=Option.some.inj hz'
 obtain ⟨d0,d1,d2,d3,d4,d5,c6,c7,c8,_,_,_,_,_⟩:=hd
 rw [hme] at HL
 unfold fuelV legC
 unfold partV at HP
 rw [hme,Int.toNat_natCast]
 generalize legRz v q1 q2 q3 z bk C=R at *
 unfold fk at *
 by_cases hR0:R=[]
 · simp only [if_pos hR0] at HP ⊢
   simp only [show ¬ (0:Int)≤-1 by omega,if_false,decide_false]
   refine enterQ (c:=cx w 29) Tryz.func81 rfl rfl rfl rfl ?_
   ((all_goals refine goS0e ?_);(all_goals constructor);(any_goals exact trivial);all_goals intros)
   all_goals rfl
 · simp only [if_neg hR0] at HP ⊢
   generalize hh:(aH (hullT me R).1 (hullT me R).2 g0 g1 8:Nat)=t at *
   simp only [show (0:Int)≤(t:Int) by omega,if_true,decide_true]
   refine enterQ (c:=cx w 29) Tryz.func81 rfl rfl rfl rfl ?_
   ((all_goals refine goS0e ?_);(all_goals constructor);(any_goals exact trivial);all_goals intros)
   all_goals rfl
theorem plansD_calls (bd bM:Nat) (AP AT:Option Addr) (m cM n cp:Nat) (L:List Lg) (v q1 q2 q3 q4:Int) (g0 g1:Nat) (E:List En) (C:List Wn) (w:World) (hd:DskR w bd bM AP AT m cM n cp v q1 q2 q3 q4 g0 g1 E) (hE:E.map keyOf=deskE v q1 q2 q3 C L n) (hr:RdS w 5 AT n (L.map lgCells)) (hn:n≤40) (hm:m≤12) (hL:∀ z∈L,LegOk m z) (hp:PaceOk v q1 q2 q3 q4 g0 g1) (hcw:∀ x∈C,windB x.l=true) (hC:C.length≤4) (to:Nat→Bool) (kf:Nat) (caps:List Value) (hcf:∀ (a:Array Value) (w:World),(callFunc kf a).run Tryz.prog w=.ok (.enter kf a) w) (HT:∀ (i:Nat) (w1:World),i<m→Ext w w1→Calls Tryz.prog kf ⟨.int .i64 (i:Nat)::caps⟩ w1 fun e w'=>e=.returned (.bool (to i))∧Ext w1 w'):Calls Tryz.prog 68 #[.pointer (some ⟨bd,0,none⟩),.func (.func kf) #[] ⟨caps⟩] w fun e w'=>∃ u H',e=.returned u∧PlansV (plansF (arcs (legC v q1 q2 q3 g0 g1 C) L) m to m) m u H'∧Has w ⟨[],[]⟩ H' w':=by
 have hl:L.length=n:=by simpa using hr.len
 exact plans_calls bd AP AT m cM n cp L w hd.c0 hd.c1 hr hn hm hL (legC v q1 q2 q3 g0 g1 C) (fun z hz bk=>(legC_le hcw hp (hL z hz) bk).1) (fun j z bk w1 hz hx=>fuel_calls bd bM AP AT m cM n cp v q1 q2 q3 q4 g0 g1 E C L j z bk w1 (hd.ext hx) hE (hr.ext hx) (by omega) (by have:=(List.getElem?_eq_some_iff.1 hz).1;omega) hz (hL z (List.mem_of_getElem? hz)) hp hcw hC) to kf caps hcf HT
theorem alternates_calls (bd bM:Nat) (AP AT:Option Addr) (m cM n cp:Nat) (L:List Lg) (v q1 q2 q3 q4:Int) (g0 g1:Nat) (E:List En) (C:List Wn) (w:World) (hd:DskR w bd bM AP AT m cM n cp v q1 q2 q3 q4 g0 g1 E) (hE:E.map keyOf=deskE v q1 q2 q3 C L n) (hr:RdS w 5 AT n (L.map lgCells)) (hn:n≤40) (hm:m≤12) (hL:∀ z∈L,LegOk m z) (hp:PaceOk v q1 q2 q3 q4 g0 g1) (hcw:∀ x∈C,windB x.l=true) (hC:C.length≤4) (T:List Bool) (hT:RdS w 1 AP m (T.map blCells)):Calls Tryz.prog 74 #[.pointer (some ⟨bd,0,none⟩)] w fun e w'=>∃ u H',e=.returned u∧PlansV (plansF (arcs (legC v q1 q2 q3 g0 g1 C) L) m (fun s=>T.getD s false) m) m u H'∧Has w ⟨[],[]⟩ H' w':=by
 have HP:=fun (b:Nat) w1 (hx:Ext w w1) (hc:w1.cell? ⟨b,0,none⟩=some (.pointer (some ⟨bd,0,none⟩)))=>plansD_calls bd bM AP AT m cM n cp L v q1 q2 q3 q4 g0 g1 E C w1 (hd.ext hx) hE (hr.ext hx) hn hm hL hp hcw hC (fun s=>T.getD s false) 114 [.pointer (some ⟨b,0,none⟩)] Tryz.call114 (fun i w2 hi h2=>alt1_calls i b bd AP m cM T w2 hi (by omega) (h2.cell hc) ((hd.ext hx).ext h2).c0 ((hT.ext hx).ext h2))
 refine enterF (c:=cx w 6) Tryz.func74 rfl rfl rfl rfl ?_
 repeat' (first|((with_reducible apply oq_id);first|(apply oq_fn;exact rfl;first|exact trivial|(and_intros<;>omega)|omega|skip)|((with_reducible apply oq_load);exact rfl;exact rfl))|((with_reducible apply tl_id);first|(with_reducible apply tl_nil)|((with_reducible apply u_s);(iterate 3 exact rfl);(with_reducible apply os_callF (PV:=PlansV _ m) (hc:=Tryz.call68));exact rfl;exact rfl;exact fun D w1 hw1=>HP _ w1 hw1.ext.ext (hw1.cellAt (by (repeat first|exact P0|apply P1)) rfl);rintro _ _ ⟨l,P,g,c,hlp,hlP,rfl,rfl⟩;simp only [List.cons_append,List.nil_append])|((with_reducible apply u_q);(iterate 4 exact rfl))|((with_reducible apply u_s);(iterate 3 exact rfl)))|((with_reducible apply os_id);first|((with_reducible apply os_x);exact rfl))|((with_reducible apply ox_id);first|((with_reducible apply ox_box);exact rfl;exact rfl;intro _))|((with_reducible apply rd_id);first|(apply Rd.own;(repeat first|exact P0|apply P1);exact rfl;done))|((with_reducible apply t_id);first|(with_reducible apply t_seq)|(apply t_region;kernel_rfl)|(with_reducible apply t_ret))|with_reducible apply q_thenN|(with_reducible apply end_ret)|exact rvs_nil|(with_reducible apply rvs_cons)|((with_reducible apply rv_tmp);exact rfl))
 all_goals (refine ⟨_,⟨l,P,g,c,hlp,hlP,rfl,rfl⟩,?_⟩;(try simp only [List.append_nil]);first|exact HpSub.refl _|exact HpSub.consE .head rfl HpSub.appLeft|exact HpSub.front HpSub.appLeft|(repeat' (first|done)))
theorem pick_app {A H H':Hp} {b:Nat} {C:List Value} {g:Tg} (p:Pick H b C g H'):Pick (A++H) b C g (A++H'):=by
 induction A with
 | nil=>exact p
 | cons x A ih=>exact ih.tail
theorem pool_one {P:List Rb} {r:Rb} {X:Hp} (h:r∈P):HpSub (poolH P++X) [(r.1,(cI r.2.1).map iv,some (3,1,r.2.2))]:=by
 obtain ⟨H',hp⟩:=pick_of (List.mem_append_left X (List.mem_map.2 ⟨r,h,rfl⟩):rbH r∈poolH P++X)
 exact .cons hp .nil
theorem InP.ans {P:List Rb} {p:Pl} {A:Option Addr} {k c:Nat} (h:InP P ⟨p,A,k,c⟩):∃ o,(o=none→plL p=[])∧Value.slice A k c=sN (plL p) o∧∀ X:Hp,HpSub (poolH P++X) (hN (plL p) o):=by
 rcases h with ⟨h1,h2,h3,h4⟩|⟨r,hr,h1,h2,h3,h4⟩
 · simp only at h1 h2 h3 h4
   subst h2 h3 h4
   exact ⟨none,fun _=>h1,rfl,fun X=>.nil⟩
 · simp only at h1 h2 h3 h4
   subst h2 h3 h4
   rw [← h1]
   exact ⟨some (r.1,r.2.2),fun h=>(by cases h),rfl,fun X=>pool_one hr⟩
theorem best21_no (AM A:Option Addr) (m cM n cp:Nat) (L:List Lg) (w:World) (hr:RdS w 5 A n (L.map lgCells)) (hn:n≤1000000) (hm:m≤1000000) (v q1 q2 q3 q4 g0 g1:Int) (AC:Option Addr) (nC cC:Nat) (C:List Wn) (hrc:CastR w AC nC C) (hs:∀ z∈C,z.n≤1000000) (hE:askE m L v q1 q2 q3 q4 g0 g1 C≠0) (i j:Int):Calls Tryz.prog 21 #[.agg #[.slice AM m cM,.slice A n cp],.agg #[.int .i64 v,.int .i64 q1,.int .i64 q2,.int .i64 q3,.int .i64 q4,.int .i64 g0,.int .i64 g1],.slice AC nC cC,.int .i64 i,.int .i64 j] w fun e w'=>∃ u H',e=.returned u∧BestV ([],0,askE m L v q1 q2 q3 q4 g0 g1 C) u H'∧Has w ⟨[],[]⟩ H' w':=by
 have HN:=fun w1 (hx:Ext w w1)=>open_no AM A m cM n cp L w1 (hr.ext hx) hn hm v q1 q2 q3 q4 g0 g1 AC nC cC C (hrc.ext hx) hs hE
 generalize askE m L v q1 q2 q3 q4 g0 g1 C=e at *
 refine enterF (c:=cx w 46) Tryz.func21 rfl rfl rfl rfl ?_
 ((all_goals refine goT0d ?_);(all_goals constructor);(any_goals exact trivial);all_goals intros)
 all_goals exact ⟨_,⟨none,fun _=>rfl,rfl,rfl⟩,HpSub.nil⟩
theorem goalL_at {m j s:Nat} (hj:j<m):(goalL m j).getD s false=decide (((s:Nat):Int)=((j:Nat):Int)):=by
 unfold goalL
 rw [List.getD_eq_getElem?_getD,List.getElem?_set]
 by_cases h:j=s
 · subst h
   simp [hj]
 · rw [if_neg h,decide_eq_false (by omega),List.getElem?_replicate]
   split<;>rfl
theorem best21_calls (AM A:Option Addr) (m cM n cp:Nat) (L:List Lg) (w:World) (hr:RdS w 5 A n (L.map lgCells)) (hn:n≤1000000) (hm:m≤1000000) (v q1 q2 q3 q4:Int) (g0 g1:Nat) (AC:Option Addr) (nC cC:Nat) (C:List Wn) (hrc:CastR w AC nC C) (hs:∀ z∈C,z.n≤1000000) (i j:Int):Calls Tryz.prog 21 #[.agg #[.slice AM m cM,.slice A n cp],.agg #[.int .i64 v,.int .i64 q1,.int .i64 q2,.int .i64 q3,.int .i64 q4,.int .i64 (g0:Nat),.int .i64 (g1:Nat)],.slice AC nC cC,.int .i64 i,.int .i64 j] w fun e w'=>∃ u H',e=.returned u∧BestV (bestR m L v q1 q2 q3 q4 g0 g1 C i j) u H'∧Has w ⟨[],[]⟩ H' w':=by
 have hl:L.length=n:=by simpa using hr.len
 unfold bestR
 by_cases hE:askE m L v q1 q2 q3 q4 g0 g1 C=0
 rotate_left
 · rw [if_neg hE]
   exact best21_no AM A m cM n cp L w hr hn hm v q1 q2 q3 q4 g0 g1 AC nC cC C hrc hs hE i j
 rw [if_pos hE]
 have HO:=fun w1 (hx:Ext w w1)=>open_ok AM A m cM n cp L w1 (hr.ext hx) hn hm v q1 q2 q3 q4 g0 g1 AC nC cC C (hrc.ext hx) hs hE
 obtain ⟨hch,hpk,hk0⟩:=askE_ok hE
 obtain ⟨hcl,hcw⟩:=castE_zero.1 hk0
 have hlc:=hrc.len
 clear hE
 obtain ⟨hm1,hL40,hLk⟩:=chartB_iff.1 hch
 by_cases hij:(0≤i∧i≤(m:Int)-1)∧0≤j∧j≤(m:Int)-1
 rotate_left
 · rw [if_neg hij]
   refine enterF (c:=cx w 46) Tryz.func21 rfl rfl rfl rfl ?_
   repeat' (first|((with_reducible apply oq_id);first|(focus ((with_reducible apply (oq_subE (k:=(m:Int)-1)));exact rfl;exact rfl;omega))|((with_reducible apply oq_neqF);exact rfl;exact rfl;omega)|(apply oq_fn;exact rfl;first|exact trivial|(and_intros<;>omega)|omega|skip)|((with_reducible apply oq_load);exact rfl;exact rfl)|((with_reducible apply oq_loadAgg);exact rfl;exact rfl)|((with_reducible apply oq_call (hc:=Tryz.call67));exact rfl;exact rfl;(intro D w1 hw1;refine rfrom2_f ?_ hw1 (by (repeat first|exact P0|apply P1));omega)))|((with_reducible apply tl_id);first|(with_reducible apply tl_nil)|((with_reducible apply u_s);(iterate 3 exact rfl);(with_reducible apply os_callS (PV:=DskV AM _ m cM n cp v q1 q2 q3 q4 g0 g1 C L) (hc:=Tryz.call66));exact rfl;exact rfl;exact fun D w1 hw1=>HO w1 hw1.ext.ext;rintro _ _ ⟨bD,bM,E,rfl,rfl,hE2,hnl⟩;simp only [dkH,List.cons_append,List.nil_append])|((with_reducible apply u_q);(iterate 4 exact rfl))|((with_reducible apply u_s);(iterate 3 exact rfl)))|((with_reducible apply os_id);first|((with_reducible apply os_x);exact rfl))|((with_reducible apply ox_id);first|((with_reducible apply ox_box);exact rfl;exact rfl;intro _)|((with_reducible apply ox_boxAgg);exact rfl;intro _)|((with_reducible apply ox_buildSlice1);(iterate 6 exact rfl);intro _))|((with_reducible apply rd_id);first|(apply Rd.own;(repeat first|exact P0|apply P1);exact rfl;done))|((with_reducible apply t_id);first|(with_reducible apply t_seq)|(apply t_region;kernel_rfl)|((with_reducible apply t_condT);exact rfl)|((with_reducible apply t_condF);exact rfl)|(with_reducible apply t_ret)|(with_reducible apply t_skip))|with_reducible apply q_thenN|with_reducible apply q_thenR|exact Rdn.zero|apply Rdn.succ|(with_reducible apply end_ret)|exact rvs_nil|(with_reducible apply rvs_cons)|((with_reducible apply rv_tmp);exact rfl))
   all_goals exact ⟨_,⟨none,fun _=>rfl,rfl,rfl⟩,HpSub.nil⟩
 rw [if_pos hij]
 obtain ⟨hi,hj⟩:=hij
 obtain ⟨i,rfl⟩:=Int.eq_ofNat_of_zero_le hi.1
 obtain ⟨j,rfl⟩:=Int.eq_ofNat_of_zero_le hj.1
 rw [Int.toNat_natCast,Int.toNat_natCast]
 have HB:(plansF (arcs (legC v q1 q2 q3 g0 g1 C) L) m (fun s=>(goalL m j).getD s false) m).getD i none=routedF (arcs (legC v q1 q2 q3 g0 g1 C) L) (lfG (legC v q1 q2 q3 g0 g1 C) L m (goalL m j)) m i:=best_same (arcs_net hLk) (arcs_sorted _ _) (by omega)
 have HP:=fun bd bM E (b:Nat) w1 (hx:Ext w w1) hd hE2 (hc:w1.cell? ⟨b,0,none⟩=some (.int .i64 ((j:Nat):Int)))=>plansD_calls bd bM AM A m cM n cp L v q1 q2 q3 q4 g0 g1 E C w1 hd hE2 (hr.ext hx) (by omega) (by omega) hLk hpk hcw (by omega) (fun s=>(goalL m j).getD s false) 69 [.pointer (some ⟨b,0,none⟩)] Tryz.call69 (fun s w2 hs h2=>by
   have h:=best1_calls ((s:Nat):Int) ((j:Nat):Int) b w2 (h2.cell hc)
   rw [← goalL_at (show j<m by omega)] at h
   exact h)
 obtain ⟨rp,hrp⟩:∃ p,routedF (arcs (legC v q1 q2 q3 g0 g1 C) L) (lfG (legC v q1 q2 q3 g0 g1 C) L m (goalL m j)) m i=p:=⟨_,rfl⟩
 rw [hrp] at HB ⊢
 clear hrp
 rcases rp with _|a
 · simp only
   refine enterF (c:=cx w 46) Tryz.func21 rfl rfl rfl rfl ?_
   repeat' (first|((with_reducible apply oq_id);first|(focus ((with_reducible apply (oq_subE (k:=(m:Int)-1)));exact rfl;exact rfl;omega))|(focus ((with_reducible apply oq_indexAddrN (i:=i));(iterate 4 exact rfl);omega))|((with_reducible apply oq_neqF);exact rfl;exact rfl;omega)|(apply oq_fn;exact rfl;first|exact trivial|(and_intros<;>omega)|omega|skip)|((with_reducible apply oq_load);exact rfl;exact rfl)|((with_reducible apply oq_loadAgg);exact rfl;exact rfl)|((with_reducible apply oq_call (hc:=Tryz.call67));exact rfl;exact rfl;(intro D w1 hw1;refine rfrom2_t ?_ hw1 (by (repeat first|exact P0|apply P1));omega)))|((with_reducible apply tl_id);first|(with_reducible apply tl_nil)|((with_reducible apply u_s);(iterate 3 exact rfl);(with_reducible apply os_callS (PV:=DskV AM _ m cM n cp v q1 q2 q3 q4 g0 g1 C L) (hc:=Tryz.call66));exact rfl;exact rfl;exact fun D w1 hw1=>HO w1 hw1.ext.ext;rintro _ _ ⟨bD,bM,E,rfl,rfl,hE2,hnl⟩;simp only [dkH,List.cons_append,List.nil_append])|((with_reducible apply u_s);(iterate 3 exact rfl);(with_reducible apply os_callF (PV:=PlansV _ m) (hc:=Tryz.call68));exact rfl;exact rfl;exact fun D w1 hw1=>HP bD bM E _ w1 hw1.ext.ext (DskR.of_has (hw1.sub (by unfold dkH dkC;(repeat' (first|exact FrSub.nil|(apply FrSub.cons;exact rfl)|exact HpSub.refl _|(apply HpSub.consE;(repeat first|exact P0|apply P1);exact rfl)|apply HpSub.skipX|apply HpSub.skipX|exact HpSub.nil)))) hnl) hE2 (hw1.cellAt (by (repeat first|exact P0|apply P1)) rfl);rintro _ _ ⟨l,P,g,c,hlp,hlP,rfl,rfl⟩;simp only [List.cons_append,List.nil_append];obtain ⟨⟨xp,xA,xn,xc⟩,hx⟩:∃ x,l[i]?=some x:=⟨_,List.getElem?_eq_getElem (by have:=congrArg List.length hlp;simp only [List.length_map,plansF_len] at this;omega)⟩;obtain rfl:=(getD_map hlp hx).symm.trans HB;have hin:=hlP _ (List.mem_of_getElem? hx))|((with_reducible apply u_q);(iterate 4 exact rfl))|((with_reducible apply u_s0);exact rfl;exact rfl)|((with_reducible apply u_s);(iterate 3 exact rfl)))|((with_reducible apply os_id);first|((with_reducible apply os_x);exact rfl)|((with_reducible apply os_storeAgg);(iterate 5 exact rfl)))|((with_reducible apply ox_id);first|((with_reducible apply ox_alloc);exact rfl;intro _)|((with_reducible apply ox_box);exact rfl;exact rfl;intro _)|((with_reducible apply ox_boxAgg);exact rfl;intro _)|((with_reducible apply ox_buildSlice1);(iterate 6 exact rfl);intro _))|((with_reducible apply rd_id);first|(apply rd_pn0 hx;(repeat first|exact P0|apply P1);done)|(apply rd_pn1 hx;(repeat first|exact P0|apply P1);done)|(apply rd_pn2 hx;(repeat first|exact P0|apply P1);done)|(apply Rd.own;(repeat first|exact P0|apply P1);exact rfl;done))|((with_reducible apply t_id);first|(with_reducible apply t_seq)|(apply t_region;kernel_rfl)|((with_reducible apply t_condT);exact rfl)|((with_reducible apply t_condF);exact rfl)|(with_reducible apply t_ret)|(with_reducible apply t_skip))|with_reducible apply q_thenN|with_reducible apply q_thenR|exact P0|exact Rdn.zero|apply Rdn.succ|((with_reducible apply Norm.nil);exact rfl)|((with_reducible apply Norm.cons);exact rfl)|(with_reducible apply end_ret)|exact rvs_nil|(with_reducible apply rvs_cons)|((with_reducible apply rv_tmp);exact rfl)|exact Nat.le_of_ble_eq_true rfl)
   all_goals exact ⟨_,⟨none,fun _=>rfl,rfl,rfl⟩,HpSub.nil⟩
 · simp only
   refine enterF (c:=cx w 46) Tryz.func21 rfl rfl rfl rfl ?_
   repeat' (first|((with_reducible apply oq_id);first|(focus ((with_reducible apply (oq_subE (k:=(m:Int)-1)));exact rfl;exact rfl;omega))|(focus ((with_reducible apply oq_indexAddrN (i:=i));(iterate 4 exact rfl);omega))|((with_reducible apply oq_neqF);exact rfl;exact rfl;omega)|(apply oq_fn;exact rfl;first|exact trivial|(and_intros<;>omega)|omega|skip)|((with_reducible apply oq_load);exact rfl;exact rfl)|((with_reducible apply oq_loadAgg);exact rfl;exact rfl)|((with_reducible apply oq_call (hc:=Tryz.call67));exact rfl;exact rfl;(intro D w1 hw1;refine rfrom2_t ?_ hw1 (by (repeat first|exact P0|apply P1));omega)))|((with_reducible apply tl_id);first|(with_reducible apply tl_nil)|((with_reducible apply u_s);(iterate 3 exact rfl);(with_reducible apply os_callS (PV:=DskV AM _ m cM n cp v q1 q2 q3 q4 g0 g1 C L) (hc:=Tryz.call66));exact rfl;exact rfl;exact fun D w1 hw1=>HO w1 hw1.ext.ext;rintro _ _ ⟨bD,bM,E,rfl,rfl,hE2,hnl⟩;simp only [dkH,List.cons_append,List.nil_append])|((with_reducible apply u_s);(iterate 3 exact rfl);(with_reducible apply os_callF (PV:=PlansV _ m) (hc:=Tryz.call68));exact rfl;exact rfl;exact fun D w1 hw1=>HP bD bM E _ w1 hw1.ext.ext (DskR.of_has (hw1.sub (by unfold dkH dkC;(repeat' (first|exact FrSub.nil|(apply FrSub.cons;exact rfl)|exact HpSub.refl _|(apply HpSub.consE;(repeat first|exact P0|apply P1);exact rfl)|apply HpSub.skipX|apply HpSub.skipX|exact HpSub.nil)))) hnl) hE2 (hw1.cellAt (by (repeat first|exact P0|apply P1)) rfl);rintro _ _ ⟨l,P,g,c,hlp,hlP,rfl,rfl⟩;simp only [List.cons_append,List.nil_append];obtain ⟨⟨xp,xA,xn,xc⟩,hx⟩:∃ x,l[i]?=some x:=⟨_,List.getElem?_eq_getElem (by have:=congrArg List.length hlp;simp only [List.length_map,plansF_len] at this;omega)⟩;obtain rfl:=(getD_map hlp hx).symm.trans HB;have hin:=hlP _ (List.mem_of_getElem? hx))|((with_reducible apply u_q);(iterate 4 exact rfl))|((with_reducible apply u_s0);exact rfl;exact rfl)|((with_reducible apply u_s);(iterate 3 exact rfl)))|((with_reducible apply gx_id);first|(with_reducible apply v_nil)|((with_reducible apply v_q);(iterate 3 exact rfl)))|((with_reducible apply os_id);first|((with_reducible apply os_x);exact rfl)|((with_reducible apply os_storeAgg);(iterate 5 exact rfl)))|((with_reducible apply ox_id);first|((with_reducible apply ox_alloc);exact rfl;intro _)|((with_reducible apply ox_box);exact rfl;exact rfl;intro _)|((with_reducible apply ox_boxAgg);exact rfl;intro _)|((with_reducible apply ox_buildSlice1);(iterate 6 exact rfl);intro _))|((with_reducible apply rd_id);first|(apply rd_pn0 hx;(repeat first|exact P0|apply P1);done)|(apply rd_pn1 hx;(repeat first|exact P0|apply P1);done)|(apply rd_pn2 hx;(repeat first|exact P0|apply P1);done)|(apply Rd.own;(repeat first|exact P0|apply P1);exact rfl;done))|((with_reducible apply t_id);first|(with_reducible apply t_seq)|(apply t_region;kernel_rfl)|(apply t_drawn;kernel_rfl;decide +kernel;try simp only [List.append_eq,List.cons_append,List.nil_append])|((with_reducible apply t_condF);exact rfl)|(with_reducible apply t_ret)|(with_reducible apply t_skip))|with_reducible apply q_thenN|exact P0|exact Rdn.zero|apply Rdn.succ|((with_reducible apply Norm.nil);exact rfl)|((with_reducible apply Norm.cons);exact rfl)|(with_reducible apply end_ret)|exact rvs_nil|(with_reducible apply rvs_cons)|((with_reducible apply rv_tmp);exact rfl)|exact Nat.le_of_ble_eq_true rfl)
   all_goals (obtain ⟨o,ho,hu,hX⟩:=hin.ans;refine ⟨_,⟨o,ho,by rw [show Value.slice xA xn xc=sN a.2 o from hu];rfl,rfl⟩,?_⟩;exact HpSub.skipX (HpSub.skipX (hX _)))
theorem need_bound {v q1 q2 q3 q4:Int} {g0 g1:Nat} {C:List Wn} {L:List Lg} {m:Nat} {to:Nat→Bool} {i:Nat} {a:Int×List Nat} (hp:PaceOk v q1 q2 q3 q4 g0 g1) (hcw:∀ x∈C,windB x.l=true) (hL:∀ z∈L,LegOk m z) (hm:m≤12) (h:(plansF (arcs (legC v q1 q2 q3 g0 g1 C) L) m to m).getD i none=some a):0≤a.1∧a.1≤3000000000000∧a.2.length≤12:=by
 have hi:some a∈plansF (arcs (legC v q1 q2 q3 g0 g1 C) L) m to m:=by
   rw [List.getD_eq_getElem?_getD] at h
   cases hx:(plansF (arcs (legC v q1 q2 q3 g0 g1 C) L) m to m)[i]? with
   | none=>rw [hx] at h;cases h
   | some x=>
     rw [hx] at h
     obtain rfl:x=some a:=h
     exact List.mem_of_getElem? hx
 have:=plans_bd (A:=(arcs (legC v q1 q2 q3 g0 g1 C) L)) (n:=m) (to:=to) (by
   intro i x hx
   obtain ⟨_,z,hz,h0,h⟩:=arcT_some (arcs_mem hx)
   refine ⟨h0,?_⟩
   have hm:=List.mem_of_getElem? hz
   rcases h with ⟨_,e⟩|⟨_,e⟩<;>rw [e]<;>exact (legC_le hcw hp (hL z hm) _).1) m a hi
 have h2:(m:Int)*166666666667≤12*166666666667:=Int.mul_le_mul_of_nonneg_right (by omega) (by omega)
 omega
end Go.Proofs.YtcjkndjjbjoehaaGreat
