/- A part of the proof: rules for walks, and contracts of functions (9). -/
import Derived.Test.YtcjkndjjbjoehaaGreatXBA
import Derived.Test.YtcjkndjjbjoehaaGreatXBC
import Derived.Test.YtcjkndjjbjoehaaGreatXBD
set_option linter.unusedVariables false
set_option linter.unusedSimpArgs false
set_option maxRecDepth 100000
set_option maxHeartbeats 2000000
namespace Go.Proofs.YtcjkndjjbjoehaaGreat
theorem goC0e {G A1 A2 A3 A4 A5 A6 A7 A8 A9 A10 A11 A12 A13 A14 A15 A16:Prop} (p:GoP A1 A2 A3 A4 A5 A6 A7 A8 A9 A10 A11 A12 A13 A14 A15 A16) (h:GoL A1→GoL A2→GoL A3→GoL A4→GoL A5→GoL A6→GoL A7→GoL A8→GoL A9→GoL A10→GoL A11→GoL A12→GoL A13→GoL A14→GoL A15→GoL A16→GoM→G:=by intro m1 m2 m3 m4 m5 m6 m7 m8 m9 m10 m11 m12 m13 m14 m15 m16 _;(repeat' (first|((with_reducible apply oq_id);first|((with_reducible apply oq_call (hc:=Tryz.call157));exact rfl;exact rfl;exact fun D w1 hw1=>isNaN_calls _ w1)|((with_reducible apply ob_id);first|((with_reducible apply oq_lssT);exact rfl;exact rfl;omega)|((with_reducible apply oq_lssF);exact rfl;exact rfl;omega)|((with_reducible apply oq_neqT);exact rfl;exact rfl;omega)|((with_reducible apply oq_neqF);exact rfl;exact rfl;omega)|((with_reducible apply oq_gtrT);exact rfl;exact rfl;omega)|((with_reducible apply oq_gtrF);exact rfl;exact rfl;omega))|(focus ((with_reducible apply oq_indexAddrN);(iterate 4 exact rfl);omega))|(apply oq_fn;exact rfl;first|exact trivial|(and_intros<;>omega)|omega|skip)|((with_reducible apply oq_load);exact rfl;exact rfl))|((with_reducible apply tl_id);first|(with_reducible apply tl_nil)|((with_reducible apply u_q);(iterate 4 exact rfl)))|((with_reducible apply rd_id);first|(apply Rd.old;(first|(with_reducible assumption)|exact c0|exact c1|exact c2|exact c3|exact c4|exact c5|exact c6|exact c7|exact c8|exact d0|exact d1|exact d2|exact d3|exact d4|exact d5);first|exact List.not_mem_nil|exact m0|exact m1|exact m2|exact m3|exact m4|exact m5|exact m6|exact m7|exact m8|exact m9))|((with_reducible apply t_id);first|(with_reducible apply t_seq)|(apply t_region;kernel_rfl)|((with_reducible apply t_condT);exact rfl)|((with_reducible apply t_condF);exact rfl)|(with_reducible apply t_ret)|(with_reducible apply t_skip)|(with_reducible apply t_exit)|(with_reducible apply t_block))|with_reducible apply q_thenN|with_reducible apply q_thenR|with_reducible apply q_blockR|with_reducible apply q_blockN|with_reducible apply q_thenE|((with_reducible apply q_blockE);exact rfl)|(with_reducible apply end_ret)|exact rvs_nil|(with_reducible apply rvs_cons)|((with_reducible apply rv_tmp);exact rfl)));(try focus (repeat (rename_i x;first|exact goD x m1.p|revert x)));(try focus (repeat (rename_i x;first|exact goD x m2.p|revert x)));(try focus (repeat (rename_i x;first|exact goD x m3.p|revert x)));(try focus (repeat (rename_i x;first|exact goD x m4.p|revert x)));(try focus (repeat (rename_i x;first|exact goD x m5.p|revert x)));(try focus (repeat (rename_i x;first|exact goD x m6.p|revert x)));(try focus (repeat (rename_i x;first|exact goD x m7.p|revert x)));(try focus (repeat (rename_i x;first|exact goD x m8.p|revert x)));(try focus (repeat (rename_i x;first|exact goD x m9.p|revert x)));(try focus (repeat (rename_i x;first|exact goD x m10.p|revert x)));(try focus (repeat (rename_i x;first|exact goD x m11.p|revert x)));(try focus (repeat (rename_i x;first|exact goD x m12.p|revert x)));(try focus (repeat (rename_i x;first|exact goD x m13.p|revert x)));(try focus (repeat (rename_i x;first|exact goD x m14.p|revert x)));(try focus (repeat (rename_i x;first|exact goD x m15.p|revert x)));(try focus (repeat (rename_i x;first|exact goD x m16.p|revert x)))) (e:GoTs A1 A2 A3 A4 A5 A6 A7 A8 A9 A10 A11 A12 A13 A14 A15 A16:=by constructor<;>first|(with_reducible exact GoT.t)|exact GoT.u):G:=p.run h
theorem goC1e {G A1 A2 A3 A4 A5 A6 A7 A8 A9 A10 A11 A12 A13 A14 A15 A16:Prop} (p:GoP A1 A2 A3 A4 A5 A6 A7 A8 A9 A10 A11 A12 A13 A14 A15 A16) (h:GoL A1→GoL A2→GoL A3→GoL A4→GoL A5→GoL A6→GoL A7→GoL A8→GoL A9→GoL A10→GoL A11→GoL A12→GoL A13→GoL A14→GoL A15→GoL A16→GoM→G:=by intro m1 m2 m3 m4 m5 m6 m7 m8 m9 m10 m11 m12 m13 m14 m15 m16 _;(repeat' (first|((with_reducible apply oq_id);first|(apply oq_fn;exact rfl;first|exact trivial|(and_intros<;>omega)|omega|skip))|((with_reducible apply tl_id);first|(with_reducible apply tl_nil)|((with_reducible apply u_q);(iterate 4 exact rfl)))|((with_reducible apply t_id);first|(with_reducible apply t_seq)|(apply t_region;kernel_rfl)|((with_reducible apply t_condT);exact rfl)|((with_reducible apply t_condF);exact rfl)|(with_reducible apply t_ret)|(with_reducible apply t_skip))|with_reducible apply q_thenN|with_reducible apply q_thenR|(with_reducible apply end_ret)|exact rvs_nil|(with_reducible apply rvs_cons)|((with_reducible apply rv_tmp);exact rfl)));(try focus (repeat (rename_i x;first|exact goD x m1.p|revert x)));(try focus (repeat (rename_i x;first|exact goD x m2.p|revert x)));(try focus (repeat (rename_i x;first|exact goD x m3.p|revert x)));(try focus (repeat (rename_i x;first|exact goD x m4.p|revert x)));(try focus (repeat (rename_i x;first|exact goD x m5.p|revert x)));(try focus (repeat (rename_i x;first|exact goD x m6.p|revert x)));(try focus (repeat (rename_i x;first|exact goD x m7.p|revert x)));(try focus (repeat (rename_i x;first|exact goD x m8.p|revert x)));(try focus (repeat (rename_i x;first|exact goD x m9.p|revert x)));(try focus (repeat (rename_i x;first|exact goD x m10.p|revert x)));(try focus (repeat (rename_i x;first|exact goD x m11.p|revert x)));(try focus (repeat (rename_i x;first|exact goD x m12.p|revert x)));(try focus (repeat (rename_i x;first|exact goD x m13.p|revert x)));(try focus (repeat (rename_i x;first|exact goD x m14.p|revert x)));(try focus (repeat (rename_i x;first|exact goD x m15.p|revert x)));(try focus (repeat (rename_i x;first|exact goD x m16.p|revert x)))) (e:GoTs A1 A2 A3 A4 A5 A6 A7 A8 A9 A10 A11 A12 A13 A14 A15 A16:=by constructor<;>first|(with_reducible exact GoT.t)|exact GoT.u):G:=p.run h
theorem goD0e {G A1 A2 A3 A4 A5 A6 A7 A8 A9 A10 A11 A12 A13 A14 A15 A16:Prop} (p:GoP A1 A2 A3 A4 A5 A6 A7 A8 A9 A10 A11 A12 A13 A14 A15 A16) (h:GoL A1→GoL A2→GoL A3→GoL A4→GoL A5→GoL A6→GoL A7→GoL A8→GoL A9→GoL A10→GoL A11→GoL A12→GoL A13→GoL A14→GoL A15→GoL A16→GoM→G:=by intro m1 m2 m3 m4 m5 m6 m7 m8 m9 m10 m11 m12 m13 m14 m15 m16 _;(repeat' (first|((with_reducible apply oq_id);first|((with_reducible apply oq_call (hc:=Tryz.call133));exact rfl;exact rfl;exact fun D w1 hw1=>flag_calls _ w1)|(apply oq_fn;exact rfl;first|exact trivial|(and_intros<;>omega)|omega|skip)|((with_reducible apply oq_load);exact rfl;exact rfl))|((with_reducible apply tl_id);first|(with_reducible apply tl_nil)|((with_reducible apply u_q);(iterate 4 exact rfl))|((with_reducible apply u_s);(iterate 3 exact rfl))|((with_reducible apply u_skip);(iterate 3 exact rfl)))|((with_reducible apply gx_id);first|(with_reducible apply v_nil)|((with_reducible apply v_q);(iterate 3 exact rfl)))|((with_reducible apply os_id);first|((with_reducible apply os_x);exact rfl))|((with_reducible apply ox_id);first|((with_reducible apply ox_boxAgg);exact rfl;intro _))|((with_reducible apply rd_id);first|(apply Rd.own;(repeat first|exact P0|apply P1);exact rfl;done))|((with_reducible apply t_id);first|(with_reducible apply t_seq)|(apply t_region;kernel_rfl)|(apply t_drawn;kernel_rfl;decide +kernel;try simp only [List.append_eq,List.cons_append,List.nil_append])|((with_reducible apply t_condT);exact rfl)|(with_reducible apply t_ret)|(with_reducible apply t_block))|with_reducible apply q_thenN|with_reducible apply q_thenR|with_reducible apply q_blockR|(with_reducible apply end_ret)|exact rvs_nil|(with_reducible apply rvs_cons)|((with_reducible apply rv_tmp);exact rfl)));(try focus (repeat (rename_i x;first|exact goD x m1.p|revert x)));(try focus (repeat (rename_i x;first|exact goD x m2.p|revert x)));(try focus (repeat (rename_i x;first|exact goD x m3.p|revert x)));(try focus (repeat (rename_i x;first|exact goD x m4.p|revert x)));(try focus (repeat (rename_i x;first|exact goD x m5.p|revert x)));(try focus (repeat (rename_i x;first|exact goD x m6.p|revert x)));(try focus (repeat (rename_i x;first|exact goD x m7.p|revert x)));(try focus (repeat (rename_i x;first|exact goD x m8.p|revert x)));(try focus (repeat (rename_i x;first|exact goD x m9.p|revert x)));(try focus (repeat (rename_i x;first|exact goD x m10.p|revert x)));(try focus (repeat (rename_i x;first|exact goD x m11.p|revert x)));(try focus (repeat (rename_i x;first|exact goD x m12.p|revert x)));(try focus (repeat (rename_i x;first|exact goD x m13.p|revert x)));(try focus (repeat (rename_i x;first|exact goD x m14.p|revert x)));(try focus (repeat (rename_i x;first|exact goD x m15.p|revert x)));(try focus (repeat (rename_i x;first|exact goD x m16.p|revert x)))) (e:GoTs A1 A2 A3 A4 A5 A6 A7 A8 A9 A10 A11 A12 A13 A14 A15 A16:=by constructor<;>first|(with_reducible exact GoT.t)|exact GoT.u):G:=p.run h
theorem goD1e {G A1 A2 A3 A4 A5 A6 A7 A8 A9 A10 A11 A12 A13 A14 A15 A16:Prop} (p:GoP A1 A2 A3 A4 A5 A6 A7 A8 A9 A10 A11 A12 A13 A14 A15 A16) (h:GoL A1→GoL A2→GoL A3→GoL A4→GoL A5→GoL A6→GoL A7→GoL A8→GoL A9→GoL A10→GoL A11→GoL A12→GoL A13→GoL A14→GoL A15→GoL A16→GoM→G:=by intro m1 m2 m3 m4 m5 m6 m7 m8 m9 m10 m11 m12 m13 m14 m15 m16 _;(repeat' (first|((with_reducible apply oq_id);first|((with_reducible apply oc_id);first|((with_reducible apply oq_call (hc:=Tryz.call134));exact rfl;exact rfl;exact fun D w1 hw1=>HC w1)|((with_reducible apply oq_call (hc:=Tryz.call133));exact rfl;exact rfl;exact fun D w1 hw1=>flag_calls _ w1)|((with_reducible apply oq_call (hc:=Tryz.call134));exact rfl;exact rfl;exact fun D w1 hw1=>cmpI_calls _ _ w1)|((with_reducible apply oq_call (hc:=Tryz.call136));exact rfl;exact rfl;exact fun D w1 hw1=>HL w1 hw1.ext.ext)|((with_reducible apply oq_call (hc:=Tryz.call135));exact rfl;exact rfl;exact fun D w1 hw1=>or2_calls _ _ _ _ w1 (int_rows (l:=[_,_]) rfl hw1 (by (repeat first|exact P0|apply P1))))|((with_reducible apply oq_call (hc:=Tryz.call109));exact rfl;exact rfl;exact fun D w1 hw1=>HB w1 hw1.ext.ext))|((with_reducible apply ob_id);first|(focus ((with_reducible apply (oq_addE (k:=((nx:Nat):Int))));exact rfl;exact rfl;omega))|(focus ((with_reducible apply (oq_addE (k:=((nx+ny:Nat):Int))));exact rfl;exact rfl;omega))|(focus ((with_reducible apply (oq_addE (k:=((k+1:Nat):Int))));exact rfl;exact rfl;omega))|((with_reducible apply oq_lssT);exact rfl;exact rfl;omega)|((with_reducible apply oq_lssF);exact rfl;exact rfl;omega)|((with_reducible apply oq_neqT);exact rfl;exact rfl;omega)|((with_reducible apply oq_neqF);exact rfl;exact rfl;omega)|((with_reducible apply oq_geqT);exact rfl;exact rfl;omega)|((with_reducible apply oq_geqF);exact rfl;exact rfl;omega))|(focus ((with_reducible apply oq_indexAddrN (i:=0));(iterate 4 exact rfl);omega))|(focus ((with_reducible apply oq_indexAddrN);(iterate 4 exact rfl);omega))|((with_reducible apply hSl);exact rfl)|(apply oq_fn;exact rfl;first|exact trivial|(and_intros<;>omega)|omega|skip)|((with_reducible apply oq_load);exact rfl;exact rfl)|((with_reducible apply oq_loadAgg);exact rfl;exact rfl))|((with_reducible apply tl_id);first|(with_reducible apply tl_nil)|((with_reducible apply u_q);(iterate 4 exact rfl))|((with_reducible apply u_s0);exact rfl;exact rfl)|((with_reducible apply u_s);(iterate 3 exact rfl)))|((with_reducible apply gx_id);first|(with_reducible apply v_nil)|((with_reducible apply v_q);(iterate 3 exact rfl)))|((with_reducible apply os_id);first|((with_reducible apply os_x);exact rfl)|((with_reducible apply os_storeAgg);(iterate 5 exact rfl)))|((with_reducible apply ox_id);first|((with_reducible apply ox_alloc);exact rfl;intro _)|((with_reducible apply ox_boxAgg);exact rfl;intro _)|((with_reducible apply ox_buildSlice1);(iterate 6 exact rfl);intro _))|((with_reducible apply ai_id);first|((with_reducible apply ai_q);(iterate 5 exact rfl))|((with_reducible apply ai_x);(iterate 5 exact rfl)))|((with_reducible apply rd_id);first|(apply Rd.own;(repeat first|exact P0|apply P1);exact rfl;done)|(apply Rd.old;(first|(with_reducible assumption)|exact c0|exact c1|exact c2|exact c3|exact c4|exact c5|exact c6|exact c7|exact c8|exact d0|exact d1|exact d2|exact d3|exact d4|exact d5);first|exact List.not_mem_nil|exact m0|exact m1|exact m2|exact m3|exact m4|exact m5|exact m6|exact m7|exact m8|exact m9))|((with_reducible apply t_id);first|(apply t_mix (id:=5) [0,1,2,3,4,5,6,7,8,9,10,11] 3 #[false,false,false,false,false,false,false,false,false,false,false,false,false,false,false];kernel_rfl;kernel_rfl;exact rfl)|(with_reducible apply t_seq)|(apply t_region;kernel_rfl)|((with_reducible apply t_condT);exact rfl)|((with_reducible apply t_condF);exact rfl)|(with_reducible apply t_ret)|(with_reducible apply t_skip)|(with_reducible apply t_exit)|(with_reducible apply t_block))|with_reducible apply q_thenN|with_reducible apply q_thenR|with_reducible apply q_blockR|with_reducible apply q_blockN|with_reducible apply q_thenE|((with_reducible apply q_blockE);exact rfl)|exact P0|(with_reducible apply P1)|exact Rdn.zero|apply Rdn.succ|((with_reducible apply Norm.nil);exact rfl)|((with_reducible apply Norm.cons);exact rfl)|(with_reducible apply end_ret)|exact rvs_nil|(with_reducible apply rvs_cons)|((with_reducible apply rv_tmp);exact rfl)|((with_reducible apply rv_cellAgg);exact rfl;exact rfl)|((with_reducible apply al_id);first|(apply al_done;decide +kernel)|(apply al_one 12;decide +kernel)|(apply al_one 13;decide +kernel)|(apply al_one 14;decide +kernel))|exact Nat.le_of_ble_eq_true rfl));(try focus (repeat (rename_i x;first|exact goD x m1.p|revert x)));(try focus (repeat (rename_i x;first|exact goD x m2.p|revert x)));(try focus (repeat (rename_i x;first|exact goD x m3.p|revert x)));(try focus (repeat (rename_i x;first|exact goD x m4.p|revert x)));(try focus (repeat (rename_i x;first|exact goD x m5.p|revert x)));(try focus (repeat (rename_i x;first|exact goD x m6.p|revert x)));(try focus (repeat (rename_i x;first|exact goD x m7.p|revert x)));(try focus (repeat (rename_i x;first|exact goD x m8.p|revert x)));(try focus (repeat (rename_i x;first|exact goD x m9.p|revert x)));(try focus (repeat (rename_i x;first|exact goD x m10.p|revert x)));(try focus (repeat (rename_i x;first|exact goD x m11.p|revert x)));(try focus (repeat (rename_i x;first|exact goD x m12.p|revert x)));(try focus (repeat (rename_i x;first|exact goD x m13.p|revert x)));(try focus (repeat (rename_i x;first|exact goD x m14.p|revert x)));(try focus (repeat (rename_i x;first|exact goD x m15.p|revert x)));(try focus (repeat (rename_i x;first|exact goD x m16.p|revert x)))) (e:GoTs A1 A2 A3 A4 A5 A6 A7 A8 A9 A10 A11 A12 A13 A14 A15 A16:=by constructor<;>first|(with_reducible exact GoT.t)|exact GoT.u):G:=p.run h
open Go.RowKit
attribute [local irreducible] OQ OS OX Rd T TL GX GL AL AI RV wpG SAny Calls
theorem isNaN_calls (a:Int) (w:World):Calls Tryz.prog 157 #[.int .i64 a] w fun e w'=>e=.returned (.bool false)∧Ext w w':=by
 refine enterQ (c:=cx w 6) Tryz.func157 rfl rfl rfl rfl ?_
 ((all_goals refine goC0e ?_);(all_goals constructor);(any_goals exact trivial);all_goals intros)
 all_goals rfl
theorem cmpI_calls (a b:Int) (w:World):Calls Tryz.prog 134 #[.int .i64 a,.int .i64 b] w fun e w'=>e=.returned (.int .i64 (cmpI a b))∧Ext w w':=by
 rcases Int.lt_trichotomy a b with h|h|h
 · rw [show cmpI a b=-1 by unfold cmpI;rw [if_pos h]]
   refine enterQ (c:=cx w 20) Tryz.func134 rfl rfl rfl rfl ?_
   ((all_goals refine goC0e ?_);(all_goals constructor);(any_goals exact trivial);all_goals intros)
   all_goals rfl
 · rw [show cmpI a b=0 by unfold cmpI;rw [if_neg (by omega),if_neg (by omega)]]
   refine enterQ (c:=cx w 20) Tryz.func134 rfl rfl rfl rfl ?_
   ((all_goals refine goC0e ?_);(all_goals constructor);(any_goals exact trivial);all_goals intros)
   all_goals rfl
 · rw [show cmpI a b=1 by unfold cmpI;rw [if_neg (by omega),if_pos h]]
   refine enterQ (c:=cx w 20) Tryz.func134 rfl rfl rfl rfl ?_
   ((all_goals refine goC0e ?_);(all_goals constructor);(any_goals exact trivial);all_goals intros)
   all_goals rfl
theorem flag_calls (b:Bool) (w:World):Calls Tryz.prog 133 #[.bool b] w fun e w'=>e=.returned (.int .i64 (if b then 1 else 0))∧Ext w w':=by
 cases b
 · refine enterQ (c:=cx w 4) Tryz.func133 rfl rfl rfl rfl ?_
   ((all_goals refine goC1e ?_);(all_goals constructor);(any_goals exact trivial);all_goals intros)
   all_goals rfl
 · refine enterQ (c:=cx w 4) Tryz.func133 rfl rfl rfl rfl ?_
   ((all_goals refine goC1e ?_);(all_goals constructor);(any_goals exact trivial);all_goals intros)
   all_goals rfl
theorem or2_calls (A:Option Addr) (c:Nat) (a b:Int) (w:World) (hr:RdS w 1 A 2 ([a,b].map inCells)):Calls Tryz.prog 135 #[.slice A 2 c] w fun e w'=>e=.returned (.int .i64 (if a≠0 then a else b))∧Ext w w':=by
 obtain ⟨b1,o1,x,rfl,_,hx,c0⟩:=in_read hr (show 0<2 by omega)
 obtain ⟨b2,o2,y,e2,_,hy,c1⟩:=in_read hr (show 1<2 by omega)
 simp only [Option.some.injEq,Addr.mk.injEq] at e2
 obtain ⟨rfl,rfl,_⟩:=e2
 simp only [List.getElem?_cons_zero,List.getElem?_cons_succ,Option.some.injEq] at hx hy
 subst hx
 subst hy
 refine enterQ (c:=cx w 18) Tryz.func135 rfl rfl rfl rfl ?_
 ((all_goals refine goC0e ?_);(all_goals constructor);(any_goals exact trivial);all_goals intros)
 apply t_loopK (ι:=Nat) [0,3,6,7] (fun k=>[(8,.int .i64 ((k:Nat):Int))]) (fun _=>[]) (fun k=>k≤2∧(0<k→a=0)∧(1<k→b=0)) (fun k=>2-k) (0)
 (repeat (first|exact KeepF.nil|(apply KeepF.cons;exact rfl)|apply KeepF.skip))
 (repeat first|exact FrSub.nil|(apply FrSub.cons;exact rfl))
 (repeat (first|exact HpSub.refl _|(apply HpSub.consE;(repeat first|exact P0|apply P1);exact rfl)|exact HpSub.nil))
 · exact ⟨Nat.zero_le _,fun h=>by omega,fun h=>by omega⟩
 rintro k ⟨hk,p1,p2⟩
 try simp only [List.cons_append,List.nil_append]
 by_cases hlt:k<2
 · rcases (show k=0∨k=1 by omega) with rfl|rfl
   · by_cases hz:a=0
     · ((all_goals refine goC0e ?_);(all_goals constructor);(any_goals exact trivial);all_goals intros)
       all_goals (refine ⟨1,⟨by omega,fun _=>hz,fun h=>(by omega)⟩,by omega,?_,?_⟩<;>(repeat' (first|exact FrSub.nil|(apply FrSub.cons;exact rfl)|exact HpSub.refl _)))
     · rw [if_pos hz]
       ((all_goals refine goC0e ?_);(all_goals constructor);(any_goals exact trivial);all_goals intros)
       all_goals rfl
   · have ha:=p1 (by omega)
     rw [if_neg (by omega)]
     by_cases hz:b=0
     · ((all_goals refine goC0e ?_);(all_goals constructor);(any_goals exact trivial);all_goals intros)
       all_goals (refine ⟨2,⟨by omega,fun _=>ha,fun _=>hz⟩,by omega,?_,?_⟩<;>(repeat' (first|exact FrSub.nil|(apply FrSub.cons;exact rfl)|exact HpSub.refl _)))
     · ((all_goals refine goC0e ?_);(all_goals constructor);(any_goals exact trivial);all_goals intros)
       all_goals rfl
 · have ha:=p1 (by omega)
   have hb:=p2 (by omega)
   rw [if_neg (by omega),hb]
   ((all_goals refine goC0e ?_);(all_goals constructor);(any_goals exact trivial);all_goals intros)
   all_goals rfl
theorem cmpL_eq:∀ {l m:List Nat} {k:Nat},k≤l.length→k≤m.length→l.take k=m.take k→cmpL l m=cmpL (l.drop k) (m.drop k)
 | _,_,0,_,_,_=>rfl
 | [],_,k+1,h,_,_=>by simp at h
 | _::_,[],k+1,_,h,_=>by simp at h
 | a::l,b::m,k+1,h1,h2,h=>by
   simp only [List.take_succ_cons,List.cons.injEq] at h
   obtain ⟨rfl,h⟩:=h
   simp only [List.length_cons,Nat.add_le_add_iff_right] at h1 h2
   rw [List.drop_succ_cons,List.drop_succ_cons,← cmpL_eq h1 h2 h]
   simp [cmpL]
theorem cI_get {l:List Nat} {k:Nat} {x:Int} (h:(cI l)[k]?=some x):∃ t,l[k]?=some t∧x=(t:Int):=by
 unfold cI at h
 rw [List.getElem?_map,Option.map_eq_some_iff] at h
 obtain ⟨t,h1,h2⟩:=h
 exact ⟨t,h1,h2.symm⟩
theorem cmp_at {l m:List Nat} {k a b:Nat} (h:l.take k=m.take k) (ha:l[k]?=some a) (hb:m[k]?=some b):cmpL l m=if a<b then -1 else if b<a then 1 else cmpL (l.drop (k+1)) (m.drop (k+1)):=by
 have h1:=(List.getElem?_eq_some_iff.1 ha)
 have h2:=(List.getElem?_eq_some_iff.1 hb)
 obtain ⟨h1,e1⟩:=h1
 obtain ⟨h2,e2⟩:=h2
 rw [cmpL_eq (by omega) (by omega) h,List.drop_eq_getElem_cons h1,List.drop_eq_getElem_cons h2,e1,e2]
 simp [cmpL]
theorem cmpL_calls (A B:Option Addr) (n c n2 c2:Nat) (l m:List Nat) (w:World) (hr:RdS w 1 A n ((cI l).map inCells)) (hq:RdS w 1 B n2 ((cI m).map inCells)) (hn:n≤1000000) (hn2:n2≤1000000):Calls Tryz.prog 136 #[.slice A n c,.slice B n2 c2] w fun e w'=>e=.returned (.int .i64 (cmpL l m))∧Ext w w':=by
 have hl:l.length=n:=by have:=hr.len;simpa [cI] using this
 have hm:m.length=n2:=by have:=hq.len;simpa [cI] using this
 refine enterQ (c:=cx w 36) Tryz.func136 rfl rfl rfl rfl ?_
 ((all_goals refine goD0e ?_);(all_goals constructor);(any_goals exact trivial);all_goals intros)
 apply t_loopK (ι:=Nat) [0,1,9,10] (fun k=>[(11,.int .i64 ((k:Nat):Int))]) (fun _=>[]) (fun k=>k≤n∧k≤l.length∧k≤m.length∧l.take k=m.take k) (fun k=>n-k) (0)
 (repeat (first|exact KeepF.nil|(apply KeepF.cons;exact rfl)|apply KeepF.skip))
 (repeat first|exact FrSub.nil|(apply FrSub.cons;exact rfl))
 (repeat (first|exact HpSub.refl _|(apply HpSub.consE;(repeat first|exact P0|apply P1);exact rfl)|exact HpSub.nil))
 · exact ⟨Nat.zero_le _,Nat.zero_le _,Nat.zero_le _,rfl⟩
 rintro k ⟨hk,hkl,hkm,he⟩
 try simp only [List.cons_append,List.nil_append]
 by_cases hlt:k<n
 · obtain ⟨b1,o1,x,rfl,_,hx,c0⟩:=in_read hr hlt
   obtain ⟨a,ha,rfl⟩:=cI_get hx
   by_cases hlt2:k<n2
   · obtain ⟨b2,o2,y,rfl,_,hy,c1⟩:=in_read hq hlt2
     obtain ⟨b,hb,rfl⟩:=cI_get hy
     have hc:=cmp_at he ha hb
     rcases Nat.lt_trichotomy a b with h|h|h
     · rw [if_pos h] at hc
       rw [hc]
       have HC:=fun w1=>cmpI_calls (a:Int) (b:Int) w1
       rw [show cmpI (a:Int) (b:Int)=-1 by unfold cmpI;rw [if_pos (by omega)]] at HC
       ((all_goals refine goD1e ?_);(all_goals constructor);(any_goals exact trivial);all_goals intros)
       all_goals rfl
     · subst h
       have HC:=fun w1=>cmpI_calls (a:Int) (a:Int) w1
       rw [show cmpI (a:Int) (a:Int)=0 by unfold cmpI;rw [if_neg (by omega),if_neg (by omega)]] at HC
       ((all_goals refine goD1e ?_);(all_goals constructor);(any_goals exact trivial);all_goals intros)
       all_goals (refine ⟨k+1,⟨by omega,by omega,by omega,by rw [List.take_add_one,List.take_add_one,he,ha,hb]⟩,by omega,?_,?_⟩<;>(repeat' (first|exact FrSub.nil|(apply FrSub.cons;exact rfl)|exact HpSub.refl _)))
     · rw [if_neg (by omega),if_pos h] at hc
       rw [hc]
       have HC:=fun w1=>cmpI_calls (a:Int) (b:Int) w1
       rw [show cmpI (a:Int) (b:Int)=1 by unfold cmpI;rw [if_neg (by omega),if_pos (by omega)]] at HC
       ((all_goals refine goD1e ?_);(all_goals constructor);(any_goals exact trivial);all_goals intros)
       all_goals rfl
   · have hc:=cmpL_eq hkl hkm he
     rw [List.drop_eq_nil_of_le (show m.length≤k by omega),List.drop_eq_getElem_cons (by omega)] at hc
     rw [hc]
     ((all_goals refine goD1e ?_);(all_goals constructor);(any_goals exact trivial);all_goals intros)
     all_goals rfl
 · have hc:=cmpL_eq hkl hkm he
   rw [List.drop_eq_nil_of_le (show l.length≤k by omega)] at hc
   by_cases h2:n<n2
   · rw [List.drop_eq_getElem_cons (by omega)] at hc
     rw [hc]
     ((all_goals refine goD1e ?_);(all_goals constructor);(any_goals exact trivial);all_goals intros)
     all_goals rfl
   · rw [List.drop_eq_nil_of_le (by omega)] at hc
     rw [hc]
     ((all_goals refine goD1e ?_);(all_goals constructor);(any_goals exact trivial);all_goals intros)
     all_goals rfl
def plF:Pl→Int
 | none=>0
 | some a=>a.1
def plL:Pl→List Nat
 | none=>[]
 | some a=>a.2
def plCells (p:Pl) (A:Option Addr) (n c:Nat):List Value:=[.int .i64 (plF p),.slice A n c,.bool p.isNone]
theorem better_calls (p q:Pl) (A B:Option Addr) (n c n2 c2:Nat) (w:World) (hr:RdS w 1 A n ((cI (plL p)).map inCells)) (hq:RdS w 1 B n2 ((cI (plL q)).map inCells)) (hn:n≤1000000) (hn2:n2≤1000000):Calls Tryz.prog 109 #[.agg ⟨plCells p A n c⟩,.agg ⟨plCells q B n2 c2⟩] w fun e w'=>e=.returned (.int .i64 (better p q))∧Ext w w':=by
 have hl:(plL p).length=n:=by have:=hr.len;simpa [cI] using this
 have hm:(plL q).length=n2:=by have:=hq.len;simpa [cI] using this
 have HL:=fun w1 (hx:Ext w w1)=>cmpL_calls A B n c n2 c2 (plL p) (plL q) w1 (hr.ext hx) (hq.ext hx) hn hn2
 unfold plCells
 rcases p with _|⟨f1,l1⟩
 · rcases q with _|⟨f2,l2⟩
   · refine enterQ (c:=cx w 44) Tryz.func109 rfl rfl rfl rfl ?_
     ((all_goals refine goD0e ?_);(all_goals constructor);(any_goals exact trivial);all_goals intros)
     all_goals rfl
   · refine enterQ (c:=cx w 44) Tryz.func109 rfl rfl rfl rfl ?_
     ((all_goals refine goD0e ?_);(all_goals constructor);(any_goals exact trivial);all_goals intros)
     all_goals rfl
 · rcases q with _|⟨f2,l2⟩
   · refine enterQ (c:=cx w 44) Tryz.func109 rfl rfl rfl rfl ?_
     ((all_goals refine goD0e ?_);(all_goals constructor);(any_goals exact trivial);all_goals intros)
     all_goals rfl
   · simp only [plF,plL,Option.isNone_some] at *
     unfold better
     simp only
     by_cases hf:f1=f2
     · rw [if_neg (by omega),hl,hm]
       refine enterQ (c:=cx w 44) Tryz.func109 rfl rfl rfl rfl ?_
       ((all_goals refine goD1e ?_);(all_goals constructor);(any_goals exact trivial);all_goals intros)
       all_goals rfl
     · rw [if_pos hf]
       refine enterQ (c:=cx w 44) Tryz.func109 rfl rfl rfl rfl ?_
       ((all_goals refine goD1e ?_);(all_goals constructor);(any_goals exact trivial);all_goals intros)
       all_goals rfl
end Go.Proofs.YtcjkndjjbjoehaaGreat
