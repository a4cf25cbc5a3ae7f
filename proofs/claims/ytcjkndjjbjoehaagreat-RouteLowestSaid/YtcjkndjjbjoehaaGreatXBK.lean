/- A part of the proof: rules for walks, and contracts of functions (11). -/
import Derived.Test.YtcjkndjjbjoehaaGreatXBA
import Derived.Test.YtcjkndjjbjoehaaGreatXBH
import Derived.Test.YtcjkndjjbjoehaaGreatXBC
import Derived.Test.YtcjkndjjbjoehaaGreatXBJ
import Derived.Test.YtcjkndjjbjoehaaGreatXBI
set_option linter.unusedVariables false
set_option linter.unusedSimpArgs false
set_option maxRecDepth 100000
set_option maxHeartbeats 2000000
namespace Go.Proofs.YtcjkndjjbjoehaaGreat
theorem goP0e {G A1 A2 A3 A4 A5 A6 A7 A8 A9 A10 A11 A12 A13 A14 A15 A16:Prop} (p:GoP A1 A2 A3 A4 A5 A6 A7 A8 A9 A10 A11 A12 A13 A14 A15 A16) (h:GoL A1→GoL A2→GoL A3→GoL A4→GoL A5→GoL A6→GoL A7→GoL A8→GoL A9→GoL A10→GoL A11→GoL A12→GoL A13→GoL A14→GoL A15→GoL A16→GoM→G:=by intro m1 m2 m3 m4 m5 m6 m7 m8 m9 m10 m11 m12 m13 m14 m15 m16 _;(repeat' (first|((with_reducible apply oq_id);first|((with_reducible apply oc_id);first|((with_reducible apply oq_call (hc:=Tryz.call122));exact rfl;exact rfl;exact fun D w1 hw1=>fine3 hq hw1 (by (repeat first|exact P0|apply P1)))|((with_reducible apply oq_call (hc:=Tryz.call141));exact rfl;exact rfl;exact fun D w1 hw1=>share60_calls _ _ (by omega) (by omega) w1)|((with_reducible apply oq_call (hc:=Tryz.call143));exact rfl;exact rfl;exact fun D w1 hw1=>HA w1 hw1 (by (repeat first|exact P0|apply P1)))|((with_reducible apply oq_call (hc:=Tryz.call142));exact rfl;exact rfl;exact fun D w1 hw1=>sized_calls _ _ (by omega) (by omega) w1))|((with_reducible apply ob_id);first|(focus ((with_reducible apply (oq_mulE (k:=((10*me:Nat):Int))));exact rfl;exact rfl;omega;(refine ⟨?_,?_⟩<;>omega)))|(focus ((with_reducible apply (oq_quoI (k:=((tl:Nat):Int))));exact rfl;exact rfl;exact ⟨(tdiv_nat rfl rfl).trans (by rw [htl]),by omega,by omega,by omega⟩))|(focus ((with_reducible apply (oq_quoI (k:=((th:Nat):Int))));exact rfl;exact rfl;exact ⟨(tdiv_nat rfl rfl).trans (by rw [hth]),by omega,by omega,by omega⟩))|(focus ((with_reducible apply (oq_addE (k:=((10*me+s:Nat):Int))));exact rfl;exact rfl;omega))|(focus ((with_reducible apply (oq_subE (k:=((10*me+s-1:Nat):Int))));exact rfl;exact rfl;omega))|(focus ((with_reducible apply (oq_addE (k:=((k+1:Nat):Int))));exact rfl;exact rfl;omega))|(focus ((with_reducible apply oq_and1I);exact rfl;exact rfl;(refine ⟨?_,?_⟩<;>omega)))|((with_reducible apply oq_shr1I);exact rfl;exact rfl)|((with_reducible apply oq_shr2I);exact rfl;exact rfl))|((with_reducible apply hLk');exact rfl;exact rfl)|(apply oq_fn;exact rfl;first|exact trivial|(and_intros<;>omega)|omega|skip)|((with_reducible apply oq_load);exact rfl;exact rfl)|((with_reducible apply oq_loadAgg);exact rfl;exact rfl)|((with_reducible apply oq_sliceArr);(iterate 3 exact rfl)))|((with_reducible apply tl_id);first|(with_reducible apply tl_nil)|((with_reducible apply u_q);(iterate 4 exact rfl))|((with_reducible apply u_s0);exact rfl;exact rfl)|((with_reducible apply u_s);(iterate 3 exact rfl)))|((with_reducible apply gx_id);first|(with_reducible apply v_nil)|((with_reducible apply v_q);(iterate 3 exact rfl)))|((with_reducible apply os_id);first|((with_reducible apply os_x);exact rfl)|((with_reducible apply os_storeAgg);(iterate 5 exact rfl)))|((with_reducible apply ox_id);first|((with_reducible apply ox_alloc);exact rfl;intro _)|((with_reducible apply ox_boxAgg);exact rfl;intro _)|((with_reducible apply ox_buildSlice2);(iterate 6 exact rfl);intro _))|((with_reducible apply ai_id);first|((with_reducible apply ai_s0);(iterate 4 exact rfl)))|((with_reducible apply rd_id);first|(apply Rd.own;(repeat first|exact P0|apply P1);exact rfl;done)|(apply Rd.old;(first|(with_reducible assumption)|exact c0|exact c1|exact c2|exact c3|exact c4|exact c5|exact c6|exact c7|exact c8|exact d0|exact d1|exact d2|exact d3|exact d4|exact d5);first|exact List.not_mem_nil|exact m0|exact m1|exact m2|exact m3|exact m4|exact m5|exact m6|exact m7|exact m8|exact m9))|((with_reducible apply t_id);first|(with_reducible apply t_seq)|(apply t_region;kernel_rfl)|(apply t_drawn;kernel_rfl;decide +kernel;try simp only [List.append_eq,List.cons_append,List.nil_append])|((with_reducible apply t_condF);exact rfl)|(with_reducible apply t_ret)|(with_reducible apply t_skip)|(with_reducible apply t_exit)|(with_reducible apply t_block))|with_reducible apply q_thenN|with_reducible apply q_blockN|with_reducible apply q_thenE|((with_reducible apply q_blockE);exact rfl)|exact P0|(with_reducible apply P1)|exact Rdn.zero|apply Rdn.succ|((with_reducible apply Norm.nil);exact rfl)|((with_reducible apply Norm.cons);exact rfl)|(with_reducible apply end_ret)|exact rvs_nil|(with_reducible apply rvs_cons)|((with_reducible apply rv_tmp);exact rfl)|((with_reducible apply rv_cellAgg);exact rfl;exact rfl)|(apply t_mix (id:=10) [0,1,2,3,4,5,6,7,8,9,10,11,12,13,14,15] 1 #[false,false,false,false,false,false,false,false,false,false,false,false,false,false,false,false,true];kernel_rfl;kernel_rfl;exact rfl)|((with_reducible apply al_id);first|(apply al_done;decide +kernel)|(apply al_one 16;decide +kernel))|exact Nat.le_of_ble_eq_true rfl));(try focus (repeat (rename_i x;first|exact goD x m1.p|revert x)));(try focus (repeat (rename_i x;first|exact goD x m2.p|revert x)));(try focus (repeat (rename_i x;first|exact goD x m3.p|revert x)));(try focus (repeat (rename_i x;first|exact goD x m4.p|revert x)));(try focus (repeat (rename_i x;first|exact goD x m5.p|revert x)));(try focus (repeat (rename_i x;first|exact goD x m6.p|revert x)));(try focus (repeat (rename_i x;first|exact goD x m7.p|revert x)));(try focus (repeat (rename_i x;first|exact goD x m8.p|revert x)));(try focus (repeat (rename_i x;first|exact goD x m9.p|revert x)));(try focus (repeat (rename_i x;first|exact goD x m10.p|revert x)));(try focus (repeat (rename_i x;first|exact goD x m11.p|revert x)));(try focus (repeat (rename_i x;first|exact goD x m12.p|revert x)));(try focus (repeat (rename_i x;first|exact goD x m13.p|revert x)));(try focus (repeat (rename_i x;first|exact goD x m14.p|revert x)));(try focus (repeat (rename_i x;first|exact goD x m15.p|revert x)));(try focus (repeat (rename_i x;first|exact goD x m16.p|revert x)))) (e:GoTs A1 A2 A3 A4 A5 A6 A7 A8 A9 A10 A11 A12 A13 A14 A15 A16:=by constructor<;>first|(with_reducible exact GoT.t)|exact GoT.u):G:=p.run h
theorem goP1e {G A1 A2 A3 A4 A5 A6 A7 A8 A9 A10 A11 A12 A13 A14 A15 A16:Prop} (p:GoP A1 A2 A3 A4 A5 A6 A7 A8 A9 A10 A11 A12 A13 A14 A15 A16) (h:GoL A1→GoL A2→GoL A3→GoL A4→GoL A5→GoL A6→GoL A7→GoL A8→GoL A9→GoL A10→GoL A11→GoL A12→GoL A13→GoL A14→GoL A15→GoL A16→GoM→G:=by intro m1 m2 m3 m4 m5 m6 m7 m8 m9 m10 m11 m12 m13 m14 m15 m16 _;(repeat' (first|((with_reducible apply oq_id);first|((with_reducible apply oq_call (hc:=Tryz.call119));exact rfl;exact rfl;exact fun D w1 hw1=>HO w1)|((with_reducible apply ob_id);first|(focus ((with_reducible apply (oq_mulE (k:=((10*me:Nat):Int))));exact rfl;exact rfl;omega;(refine ⟨?_,?_⟩<;>omega)))|(focus ((with_reducible apply (oq_quoI (k:=((tl:Nat):Int))));exact rfl;exact rfl;exact ⟨(tdiv_nat rfl rfl).trans (by rw [htl]),by omega,by omega,by omega⟩))|(focus ((with_reducible apply (oq_quoI (k:=((th:Nat):Int))));exact rfl;exact rfl;exact ⟨(tdiv_nat rfl rfl).trans (by rw [hth]),by omega,by omega,by omega⟩))|(focus ((with_reducible apply (oq_addE (k:=((10*me+s:Nat):Int))));exact rfl;exact rfl;omega))|(focus ((with_reducible apply (oq_subE (k:=((10*me+s-1:Nat):Int))));exact rfl;exact rfl;omega))|(focus ((with_reducible apply (oq_addE (k:=((k+1:Nat):Int))));exact rfl;exact rfl;omega))|((with_reducible apply oq_lssT);exact rfl;exact rfl;omega)|((with_reducible apply oq_lssF);exact rfl;exact rfl;omega)|((with_reducible apply oq_eqlT);exact rfl;exact rfl;omega)|((with_reducible apply oq_eqlF);exact rfl;exact rfl;omega)|((with_reducible apply oq_gtrT);exact rfl;exact rfl;omega)|((with_reducible apply oq_gtrF);exact rfl;exact rfl;omega))|(focus ((with_reducible apply oq_indexAddrN);(iterate 4 exact rfl);omega))|((with_reducible apply hLk');exact rfl;exact rfl)|((with_reducible apply (oq_min2E (k:=((tl:Nat):Int))));exact rfl;exact rfl;omega)|((with_reducible apply (oq_max2E (k:=((th:Nat):Int))));exact rfl;exact rfl;omega)|((with_reducible apply (oq_min2E (k:=((min (hullT me (R.take k)).1 tl:Nat):Int))));exact rfl;exact rfl;omega)|((with_reducible apply (oq_max2E (k:=((max (hullT me (R.take k)).2 th:Nat):Int))));exact rfl;exact rfl;omega)|(apply oq_fn;exact rfl;first|exact trivial|(and_intros<;>omega)|omega|skip)|((with_reducible apply oq_load);exact rfl;exact rfl)|((with_reducible apply oq_loadAgg);exact rfl;exact rfl)|((with_reducible apply oq_build);(iterate 3 exact rfl)))|((with_reducible apply tl_id);first|(with_reducible apply tl_nil)|((with_reducible apply u_q);(iterate 4 exact rfl))|((with_reducible apply u_s0);exact rfl;exact rfl)|((with_reducible apply u_s);(iterate 3 exact rfl)))|((with_reducible apply gx_id);first|(with_reducible apply v_nil)|((with_reducible apply v_q);(iterate 3 exact rfl)))|((with_reducible apply os_id);first|((with_reducible apply os_x);exact rfl)|((with_reducible apply os_store);(iterate 4 exact rfl))|((with_reducible apply os_storeAgg);(iterate 5 exact rfl)))|((with_reducible apply ox_id);first|((with_reducible apply ox_alloc);exact rfl;intro _))|((with_reducible apply ai_id);first|((with_reducible apply ai_q);(iterate 5 exact rfl))|((with_reducible apply ai_s0);(iterate 4 exact rfl))|((with_reducible apply ai_n0);(iterate 3 exact rfl)))|((with_reducible apply al_keep);focus (repeat (first|exact HpSub.refl _|(apply HpSub.cons;(repeat first|exact P0|apply P1))|apply HpSub.skipX|exact HpSub.nil)))|((with_reducible apply rd_id);first|(apply Rd.own;(repeat first|exact P0|apply P1);exact rfl;done)|(apply Rd.old;(first|(with_reducible assumption)|exact c0|exact c1|exact c2|exact c3|exact c4|exact c5|exact c6|exact c7|exact c8|exact d0|exact d1|exact d2|exact d3|exact d4|exact d5);first|exact List.not_mem_nil|exact m0|exact m1|exact m2|exact m3|exact m4|exact m5|exact m6|exact m7|exact m8|exact m9))|((with_reducible apply t_id);first|(apply t_mix (id:=4) [0,1,2,3,4,5,6,7,8,9,10,11,12,13,14,15] 0 #[false,false,false,false,false,false,false,false,false,false,false,false,false,false,false,false];kernel_rfl;kernel_rfl;exact rfl)|(apply t_mix (id:=9) [0,1,2,3,4,5,6,7,8,9] 2 #[false,false,false,false,false,false,false,false,false,false,false,true];kernel_rfl;kernel_rfl;exact rfl)|(apply t_mix (id:=10) [0,1,2,3,4,5,6,7,8,9] 3 #[false,false,false,false,false,false,false,false,false,false,false,false,false];kernel_rfl;kernel_rfl;exact rfl)|(with_reducible apply t_seq)|(apply t_region;kernel_rfl)|((with_reducible apply t_condT);exact rfl)|((with_reducible apply t_condF);exact rfl)|(with_reducible apply t_ret)|(with_reducible apply t_skip)|(with_reducible apply t_exit)|(with_reducible apply t_block))|with_reducible apply q_thenN|with_reducible apply q_blockN|with_reducible apply q_thenE|((with_reducible apply q_blockE);exact rfl)|exact P0|(with_reducible apply P1)|exact Rdn.zero|apply Rdn.succ|((with_reducible apply Norm.nil);exact rfl)|((with_reducible apply Norm.cons);exact rfl)|(with_reducible apply end_ret)|exact rvs_nil|(with_reducible apply rvs_cons)|((with_reducible apply rv_tmp);exact rfl)|((with_reducible apply rv_cellAgg);exact rfl;exact rfl)|((with_reducible apply al_id);first|(apply al_done;decide +kernel)|(apply al_one 10;decide +kernel)|(apply al_one 11;decide +kernel)|(apply al_two 10 11;decide +kernel)|(apply al_one 12;decide +kernel))|exact Nat.le_of_ble_eq_true rfl));(try focus (repeat (rename_i x;first|exact goD x m1.p|revert x)));(try focus (repeat (rename_i x;first|exact goD x m2.p|revert x)));(try focus (repeat (rename_i x;first|exact goD x m3.p|revert x)));(try focus (repeat (rename_i x;first|exact goD x m4.p|revert x)));(try focus (repeat (rename_i x;first|exact goD x m5.p|revert x)));(try focus (repeat (rename_i x;first|exact goD x m6.p|revert x)));(try focus (repeat (rename_i x;first|exact goD x m7.p|revert x)));(try focus (repeat (rename_i x;first|exact goD x m8.p|revert x)));(try focus (repeat (rename_i x;first|exact goD x m9.p|revert x)));(try focus (repeat (rename_i x;first|exact goD x m10.p|revert x)));(try focus (repeat (rename_i x;first|exact goD x m11.p|revert x)));(try focus (repeat (rename_i x;first|exact goD x m12.p|revert x)));(try focus (repeat (rename_i x;first|exact goD x m13.p|revert x)));(try focus (repeat (rename_i x;first|exact goD x m14.p|revert x)));(try focus (repeat (rename_i x;first|exact goD x m15.p|revert x)));(try focus (repeat (rename_i x;first|exact goD x m16.p|revert x)))) (e:GoTs A1 A2 A3 A4 A5 A6 A7 A8 A9 A10 A11 A12 A13 A14 A15 A16:=by constructor<;>first|(with_reducible exact GoT.t)|exact GoT.u):G:=p.run h
open Go.RowKit
attribute [local irreducible] OQ OS OX Rd T TL GX GL AL AI RV wpG SAny Calls
attribute [local irreducible] qf qc
def prS (a b c d:Nat) (k:Nat):List (Int×Int):=(List.range 8).map fun i=>if i<k then (((qf (prN a b c d i):Nat):Int),((qc (prN a b c d i):Nat):Int)) else (0,0)
theorem over60_calls (a b c d:Nat) (hab:a≤b) (hb:b≤10000000) (hcd:c≤d) (hd:d≤1000000) (w:World) :
   Calls Tryz.prog 119 #[.agg #[.int .i64 (a:Nat),.int .i64 (b:Nat)],.agg #[.int .i64 (c:Nat),.int .i64 (d:Nat)],.agg #[.int .i64 60,.int .i64 60]] w fun e w'=>e=.returned (.tuple #[.agg #[.int .i64 (aL a b c d 8:Nat),.int .i64 (aH a b c d 8:Nat)],.int .i64 0])∧Ext w w':=by
 have hq:(fineS ((a:Int),(b:Int)) && (fineS ((c:Int),(d:Int)) && fineS (60,60)))=true:=by rw [Bool.and_eq_true,Bool.and_eq_true,fineS_iff,fineS_iff,fineS_iff];simp only;omega
 have ab:=a_bound hab hb hcd hd 8
 have HA:∀ {w0:World} {M:Ms} {H H':Hp} {g:Nat} {tg:Tg} (w1:World),Has w0 M H w1→Pick H g ((prS a b c d 8).map spanCells).flatten tg H'→Calls Tryz.prog 143 #[.slice (some ⟨g,0,none⟩) 8 8] w1 fun e w'=>
     e=.returned (.agg #[.int .i64 (aL a b c d 8:Nat),.int .i64 (aH a b c d 8:Nat)])∧Ext w1 w':=fun w1 hw p=>by
   have:=around_calls (some ⟨_,0,none⟩) 8 8 (((qf (a*c):Nat):Int),((qc (a*c):Nat):Int)) (prS a b c d 8) w1 (Blk.rows (hw.blk _ p.mem).2 (by simp [prS]) (by simp only [List.mem_map];rintro r ⟨x,_,rfl⟩;rfl)) (by omega) rfl (by omega) (by omega)
   have e:hullA (((qf (a*c):Nat):Int),((qc (a*c):Nat):Int)) (prS a b c d 8)=(((aL a b c d 8:Nat):Int),((aH a b c d 8:Nat):Int)):=by
     have e1:aL a b c d 8=min (min (min (min (min (min (min (min (qf (a*c)) (qf (a*c))) (qf (b*c))) (qf (a*d))) (qf (b*d))) (qf (a*c))) (qf (b*c))) (qf (a*d))) (qf (b*d)):=rfl
     have e2:aH a b c d 8=max (max (max (max (max (max (max (max (qc (a*c)) (qc (a*c))) (qc (b*c))) (qc (a*d))) (qc (b*d))) (qc (a*c))) (qc (b*c))) (qc (a*d))) (qc (b*d)):=rfl
     have:prS a b c d 8=[(((qf (a*c):Nat):Int),((qc (a*c):Nat):Int)),(((qf (b*c):Nat):Int),((qc (b*c):Nat):Int)),(((qf (a*d):Nat):Int),((qc (a*d):Nat):Int)),(((qf (b*d):Nat):Int),((qc (b*d):Nat):Int)),(((qf (a*c):Nat):Int),((qc (a*c):Nat):Int)),(((qf (b*c):Nat):Int),((qc (b*c):Nat):Int)),(((qf (a*d):Nat):Int),((qc (a*d):Nat):Int)),(((qf (b*d):Nat):Int),((qc (b*d):Nat):Int))]:=rfl
     rw [this,e1,e2]
     simp only [hullA,List.foldl_cons,List.foldl_nil,hullS]
     generalize qf (a*c)=x1
     generalize qf (b*c)=x2
     generalize qf (a*d)=x3
     generalize qf (b*d)=x4
     generalize qc (a*c)=y1
     generalize qc (b*c)=y2
     generalize qc (a*d)=y3
     generalize qc (b*d)=y4
     congr 1<;>omega
   rw [e] at this
   exact this
 refine enterQ (c:=cx w 66) Tryz.func119 rfl rfl rfl rfl ?_
 ((all_goals refine goP0e ?_);(all_goals constructor);(any_goals exact trivial);all_goals intros)
 rename_i b3 b4 b5 b6 b7 b8
 apply t_loopK (ι:=Nat) [3,4,5,6,7,8,61,62,63,64,65] (fun k=>[(26,.int .i64 (k:Nat))]) (fun k=>[(b8,((prS a b c d k).map spanCells).flatten,some (236,16,1))]) (fun k=>k≤8) (fun k=>8-k) (0)
 (repeat (first|exact KeepF.nil|(apply KeepF.cons;exact rfl)|apply KeepF.skip))
 (repeat first|exact FrSub.nil|(apply FrSub.cons;exact rfl))
 (repeat (first|exact HpSub.refl _|(apply HpSub.consE;(repeat first|exact P0|apply P1);exact rfl)|exact HpSub.nil))
 · omega
 intro k hk
 try simp only [List.cons_append,List.nil_append]
 by_cases hlt:k<8
 · repeat' (first|((with_reducible apply oq_id);first|(apply oq_fn;exact rfl;first|exact trivial|(and_intros<;>omega)|omega|skip)|((with_reducible apply oq_load);exact rfl;exact rfl)|((with_reducible apply oq_buildA);(iterate 4 exact rfl)))|((with_reducible apply tl_id);first|(with_reducible apply tl_nil)|((with_reducible apply u_q);(iterate 4 exact rfl)))|((with_reducible apply gx_id);first|(with_reducible apply v_nil)|((with_reducible apply v_q);(iterate 3 exact rfl)))|((with_reducible apply os_id);first|((with_reducible apply os_storeAgg);(iterate 5 exact rfl)))|((with_reducible apply ox_id);first|((with_reducible apply ox_alloc);exact rfl;intro _))|((with_reducible apply ai_id);first|((with_reducible apply ai_x);(iterate 5 exact rfl))|((with_reducible apply ai_n0);(iterate 3 exact rfl)))|((with_reducible apply al_keep);focus (repeat first|exact HpSub.refl _|(apply HpSub.cons;(repeat first|exact P0|apply P1))|exact HpSub.nil))|((with_reducible apply rd_id);first|(apply Rd.own;(repeat first|exact P0|apply P1);exact rfl;done))|((with_reducible apply t_id);first|(with_reducible apply t_cutK (ι:=(Nat×Nat×Nat)) (rid:=9) [3,4,5,6,7,8,9,26] (fun i=>[(10,.pointer (some ⟨i.1,0,none⟩)),(11,.pointer (some ⟨i.2.1,0,none⟩)),(12,.pointer (some ⟨i.2.2,0,none⟩))]) (fun i=>[(i.1,[.int .i64 (a:Nat),.int .i64 (b:Nat)],some (237,2,1)),(i.2.1,[.int .i64 (c:Nat),.int .i64 (d:Nat)],some (237,2,1)),(i.2.2,[.int .i64 60,.int .i64 60],some (237,2,1))]));(repeat (first|exact KeepF.nil|(apply KeepF.cons;exact rfl)|apply KeepF.skip))|(with_reducible apply t_seq)|(apply t_region;kernel_rfl)|((with_reducible apply t_condD);exact rfl;all_goals first|(intro hp;try (exfalso;omega))|skip)|(with_reducible apply t_skip)|(with_reducible apply t_block))|with_reducible apply q_thenN|exact P0|(with_reducible apply P1)|((with_reducible apply Norm.nil);exact rfl)|((with_reducible apply Norm.cons);exact rfl)|((with_reducible apply cut_in3)<;>(repeat' (first|exact FrSub.nil|(apply FrSub.cons;exact rfl)|exact HpSub.refl _|(apply HpSub.consE;(repeat first|exact P0|apply P1);exact rfl)|exact HpSub.nil)))|(apply t_mix (id:=9) [0,1,2,3,4,5,6,7,8,9,10,11,12,13,14] 6 #[false,false,false,false,false,false,false,false,false,false,false,false,false,false,false,false,false,false,false,false,false];kernel_rfl;kernel_rfl;exact rfl)|((with_reducible apply al_id);first|(apply al_done;decide +kernel)|(apply al_one 15;decide +kernel)|(apply al_one 16;decide +kernel)|(apply al_one 17;decide +kernel)|(apply al_one 18;decide +kernel)|(apply al_one 19;decide +kernel)|(apply al_one 20;decide +kernel)|(apply al_two 15 16;decide +kernel)|(apply al_two 15 17;decide +kernel)|(apply al_two 16 17;decide +kernel)|(apply al_three 15 16 17;decide +kernel))|exact Nat.le_of_ble_eq_true rfl)
   rintro ⟨b10,b11,b12⟩
   try simp only [List.cons_append,List.nil_append]
   try dsimp only
   have hk8:k=0∨k=1∨k=2∨k=3∨k=4∨k=5∨k=6∨k=7:=by omega
   clear hlt hk
   rcases hk8 with rfl|rfl|rfl|rfl|rfl|rfl|rfl|rfl
   · ((all_goals refine goP0e ?_);(all_goals constructor);(any_goals exact trivial);all_goals intros)
     refine ⟨1,by omega,by omega,?_,?_⟩
     · try simp only [List.cons_append,List.nil_append]
       (repeat first|exact FrSub.nil|(apply FrSub.cons;exact rfl))
     · try simp only [List.cons_append,List.nil_append]
       (repeat (first|exact HpSub.refl _|(apply HpSub.consE;(repeat first|exact P0|apply P1);exact rfl)|exact HpSub.nil))
   · ((all_goals refine goP0e ?_);(all_goals constructor);(any_goals exact trivial);all_goals intros)
     refine ⟨2,by omega,by omega,?_,?_⟩
     · try simp only [List.cons_append,List.nil_append]
       (repeat first|exact FrSub.nil|(apply FrSub.cons;exact rfl))
     · try simp only [List.cons_append,List.nil_append]
       (repeat (first|exact HpSub.refl _|(apply HpSub.consE;(repeat first|exact P0|apply P1);exact rfl)|exact HpSub.nil))
   · ((all_goals refine goP0e ?_);(all_goals constructor);(any_goals exact trivial);all_goals intros)
     refine ⟨3,by omega,by omega,?_,?_⟩
     · try simp only [List.cons_append,List.nil_append]
       (repeat first|exact FrSub.nil|(apply FrSub.cons;exact rfl))
     · try simp only [List.cons_append,List.nil_append]
       (repeat (first|exact HpSub.refl _|(apply HpSub.consE;(repeat first|exact P0|apply P1);exact rfl)|exact HpSub.nil))
   · ((all_goals refine goP0e ?_);(all_goals constructor);(any_goals exact trivial);all_goals intros)
     refine ⟨4,by omega,by omega,?_,?_⟩
     · try simp only [List.cons_append,List.nil_append]
       (repeat first|exact FrSub.nil|(apply FrSub.cons;exact rfl))
     · try simp only [List.cons_append,List.nil_append]
       (repeat (first|exact HpSub.refl _|(apply HpSub.consE;(repeat first|exact P0|apply P1);exact rfl)|exact HpSub.nil))
   · ((all_goals refine goP0e ?_);(all_goals constructor);(any_goals exact trivial);all_goals intros)
     refine ⟨5,by omega,by omega,?_,?_⟩
     · try simp only [List.cons_append,List.nil_append]
       (repeat first|exact FrSub.nil|(apply FrSub.cons;exact rfl))
     · try simp only [List.cons_append,List.nil_append]
       (repeat (first|exact HpSub.refl _|(apply HpSub.consE;(repeat first|exact P0|apply P1);exact rfl)|exact HpSub.nil))
   · ((all_goals refine goP0e ?_);(all_goals constructor);(any_goals exact trivial);all_goals intros)
     refine ⟨6,by omega,by omega,?_,?_⟩
     · try simp only [List.cons_append,List.nil_append]
       (repeat first|exact FrSub.nil|(apply FrSub.cons;exact rfl))
     · try simp only [List.cons_append,List.nil_append]
       (repeat (first|exact HpSub.refl _|(apply HpSub.consE;(repeat first|exact P0|apply P1);exact rfl)|exact HpSub.nil))
   · ((all_goals refine goP0e ?_);(all_goals constructor);(any_goals exact trivial);all_goals intros)
     refine ⟨7,by omega,by omega,?_,?_⟩
     · try simp only [List.cons_append,List.nil_append]
       (repeat first|exact FrSub.nil|(apply FrSub.cons;exact rfl))
     · try simp only [List.cons_append,List.nil_append]
       (repeat (first|exact HpSub.refl _|(apply HpSub.consE;(repeat first|exact P0|apply P1);exact rfl)|exact HpSub.nil))
   · ((all_goals refine goP0e ?_);(all_goals constructor);(any_goals exact trivial);all_goals intros)
     refine ⟨8,by omega,by omega,?_,?_⟩
     · try simp only [List.cons_append,List.nil_append]
       (repeat first|exact FrSub.nil|(apply FrSub.cons;exact rfl))
     · try simp only [List.cons_append,List.nil_append]
       (repeat (first|exact HpSub.refl _|(apply HpSub.consE;(repeat first|exact P0|apply P1);exact rfl)|exact HpSub.nil))
 · obtain rfl:k=8:=by omega
   ((all_goals refine goP0e ?_);(all_goals constructor);(any_goals exact trivial);all_goals intros)
   rfl
end Go.Proofs.YtcjkndjjbjoehaaGreat
namespace Go.Proofs.YtcjkndjjbjoehaaGreat
open Go.RowKit
attribute [local irreducible] OQ OS OX Rd T TL GX GL AL AI RV wpG SAny Calls
theorem os_callS {c:Cx} {F:Fr} {H:Hp} {K:Value→Hp→Prop} {d:Option Tmp} {ty:TypeId} {pos:String} {af:Array Edge} {g:Option (Nat×Bool)} {f:Operand} {args:Array Operand} {T:Array TypeId} {k:Nat} {fst cap vs:List Value} {PV:Value→Hp→Prop} (hf:ev F f=some (.func (.func k) ⟨fst⟩ ⟨cap⟩)) (hc:∀ (a:Array Value) (w:World),(callFunc k a).run c.P w=.ok (.enter k a) w)
   (ha:evs F args.toList=some vs) (h:∀ D w,Has c.w0 ⟨c.M,D⟩ H w→Calls c.P k ⟨fst++vs++cap⟩ w fun e w'=>∃ v H',e=.returned v∧PV v H'∧Has w ⟨[],[]⟩ H' w')
   (hk:∀ v H',PV v H'→K v (H++H')):OS c ⟨d,.call ⟨.value f,args,T⟩,ty,pos,af,g⟩ F H K:=
 os_call hf hc ha fun D w hw=>(h D w hw).mono fun e w' ⟨v,H',h1,h2,h3⟩=>⟨v,H++H',h1,hk v H' h2,(hw.call h3).sub (hp_comm _ _)⟩
theorem legRz_ok {v q1 q2 q3 q4 g0 g1:Int} {z:Lg} {bk:Bool} {C:List Wn} (hcw:∀ x∈C,windB x.l=true) (hp:PaceOk v q1 q2 q3 q4 g0 g1) (hh : -500≤z.h∧z.h≤9000) (hw:WayIn z.x z.y):(∀ r∈legRz v q1 q2 q3 z bk C,RtOk r)∧(legRz v q1 q2 q3 z bk C).length≤C.length:=by
 obtain ⟨p1,p2,p3,p4,p5,p6⟩:=id hp
 have hup : -500≤upV q1 q2 z.h∧upV q1 q2 z.h≤20000:=by unfold upV;omega
 unfold legRz legR
 split
 · exact ⟨fun r h=>(by cases h),Nat.zero_le _⟩
 unfold ratesV
 split
 · refine ⟨fun r h=>?_,List.length_filterMap_le _ _⟩
   obtain ⟨x,hx,e⟩:=List.mem_filterMap.1 h
   rcases wn_both (hcw x hx) p1 hup (turn_way hw bk) with ⟨e1,_⟩|⟨s,f,e1,_,k1,k2,k3⟩
   · rw [e1] at e;cases e
   · rw [e1] at e
     obtain rfl:=Option.some.inj e
     exact ⟨k1,k2,k3⟩
 · exact ⟨fun r h=>(by cases h),Nat.zero_le _⟩
theorem rt_read {w:World} {A:Option Addr} {n:Nat} {l:List (Int×Int)} (h:RdS w 2 A n (l.map rtCells)) {i:Nat} (hi:i<n) :
   ∃ b o s f,A=some ⟨b,o,none⟩∧b<w.heap.size∧l[i]?=some (s,f)∧w.cell? ⟨b,o+i*2,none⟩=some (.int .i64 s)∧w.cell? ⟨b,o+i*2+1,none⟩=some (.int .i64 f):=by
 obtain ⟨b,o,cs,hA,hb,hx,_,hc⟩:=h.row hi
 simp only [List.getElem?_map,Option.map_eq_some_iff] at hx
 obtain ⟨⟨s,f⟩,hx,rfl⟩:=hx
 exact ⟨b,o,s,f,hA,hb,hx,hc 0 _ rfl,hc 1 _ rfl⟩
theorem aLH_zero (c d:Nat):aL 0 0 c d 8=0∧aH 0 0 c d 8=0:=by
 have hp:∀ k,prN 0 0 c d k=0:=fun k=>by unfold prN;rw [show (if k % 2=1 then 0 else 0)=0 by split<;>rfl,Nat.zero_mul]
 have key:∀ k,aL 0 0 c d k=0∧aH 0 0 c d k=0:=fun k=>by
   induction k with
   | zero=>simp [aL,aH,qf,qc]
   | succ k ih=>simp [aL,aH,ih.1,ih.2,hp,qf,qc]
 exact key 8
theorem DskR.find2 {w:World} {b bM:Nat} {AP AT:Option Addr} {m cM n cp:Nat} {v q1 q2 q3 q4 g0 g1:Int} {E:List En} {C:List Wn} {L:List Lg} {j nn:Nat} {z:Lg} (h:DskR w b bM AP AT m cM n cp v q1 q2 q3 q4 g0 g1 E) (hE:E.map keyOf=deskE v q1 q2 q3 C L nn) (hn:j<nn) (hz:L[j]?=some z) (bk:Bool) :
   ∃ (A:Option Addr) (cap:Nat),RdS w 2 A (legRz v q1 q2 q3 z bk C).length ((legRz v q1 q2 q3 z bk C).map rtCells) ∧
     ∀ (F:Fr) (H:Hp) (d:Option Tmp) (ty:TypeId) (pos:String) (af:Array Edge) (g:Option (Nat×Bool)) (x y:Operand) (w1:World) (N:Nat),Ext w w1→ev F x=some (.map (some bM))→ev F y=some (fk j bk)→OQ (cx w1 N) ⟨d,.lookup 170 x y false,ty,pos,af,g⟩ F H (.slice A (legRz v q1 q2 q3 z bk C).length cap):=by
 obtain ⟨o,h1,h2,h3⟩:=h.find hE hn hz bk
 rcases o with _|⟨g,cap⟩
 · have e:=h1 rfl
   rw [e] at h3 ⊢
   exact ⟨none,0,RdS.nil _ _ _,h3⟩
 · exact ⟨some ⟨g,0,none⟩,cap,h2 g cap rfl,h3⟩
theorem part59_calls (b bM:Nat) (AP AT:Option Addr) (m cM n cp:Nat) (v q1 q2 q3 q4:Int) (g0 g1:Nat) (E:List En) (C:List Wn) (L:List Lg) (j nn:Nat) (z:Lg) (me:Nat) (bk:Bool) (w:World) (hd:DskR w b bM AP AT m cM n cp v q1 q2 q3 q4 g0 g1 E) (hE:E.map keyOf=deskE v q1 q2 q3 C L nn) (hj:j<nn) (hz:L[j]?=some z) (hR:∀ r∈legRz v q1 q2 q3 z bk C,RtOk r) (hRl:(legRz v q1 q2 q3 z bk C).length≤1000) (hme:me≤1000000) (hg:g0≤g1∧g1≤1000000):Calls Tryz.prog 87 #[.pointer (some ⟨b,0,none⟩),fk j bk,.int .i64 (me:Nat)] w fun e w'=>e=.returned (partV (legRz v q1 q2 q3 z bk C) me g0 g1)∧Ext w w':=by
 obtain ⟨A,cap,hrd,hLk⟩:=hd.find2 hE hj hz bk
 obtain ⟨e0,e1,e2,e3,e4,e5,e6,c7,c8,c9,_,_,_,_⟩:=hd
 generalize legRz v q1 q2 q3 z bk C=R at *
 have hLk':=fun F H d ty pos af g x y=>hLk F H d ty pos af g x y w 76 (Ext.refl w)
 clear hLk
 unfold fk at *
 refine enterQ (c:=cx w 76) Tryz.func87 rfl rfl rfl rfl ?_
 ((all_goals refine goP0e ?_);(all_goals constructor);(any_goals exact trivial);all_goals intros)
 rename_i b4 b6 b7
 apply t_loopK (ι:=Nat) [0,2,4,6,7,8,18,19] (fun k=>[(20,.int .i64 ((k:Nat):Int))]) (fun k=>[(b4,[.int .i64 ((j:Nat):Int),.bool bk],some (153,2,1)),(b6,[.int .i64 ((hullT me (R.take k)).1:Nat),.int .i64 ((hullT me (R.take k)).2:Nat)],some (27,2,1)),(b7,[.int .i64 0,.int .i64 0],some (27,2,1))]) (fun k=>k≤R.length) (fun k=>R.length-k) (0)
 (repeat (first|exact KeepF.nil|(apply KeepF.cons;exact rfl)|apply KeepF.skip))
 (repeat first|exact FrSub.nil|(apply FrSub.cons;exact rfl))
 (repeat (first|exact HpSub.refl _|(apply HpSub.consE;(repeat first|exact P0|apply P1);exact rfl)|exact HpSub.nil))
 · exact Nat.zero_le _
 rintro k hk
 try simp only [List.cons_append,List.nil_append]
 by_cases hlt:k<R.length
 · obtain ⟨bA,oA,s,f,rfl,_,hr,c0,c1⟩:=rt_read hrd hlt
   have hok:=hR _ (List.mem_of_getElem? hr)
   obtain ⟨k1,k2,k3⟩:=id hok
   simp only at k1 k2 k3
   obtain ⟨s,rfl⟩:=Int.eq_ofNat_of_zero_le (show 0≤s by omega)
   obtain ⟨f,rfl⟩:=Int.eq_ofNat_of_zero_le (show 0≤f by omega)
   have eL:tLo me ((s:Int),(f:Int))=10*me / f:=rfl
   have eH:tHi me ((s:Int),(f:Int))=(10*me+s-1) / s:=rfl
   obtain ⟨tl,htl⟩:∃ t,10*me / f=t:=⟨_,rfl⟩
   obtain ⟨th,hth⟩:∃ t,(10*me+s-1) / s=t:=⟨_,rfl⟩
   have q1':tl≤10*me:=htl ▸ Nat.div_le_self _ _
   have q2':th≤10*me+s-1:=hth ▸ Nat.div_le_self _ _
   have ht:R.take (k+1)=R.take k++[((s:Int),(f:Int))]:=by rw [List.take_add_one,hr];rfl
   rw [htl] at eL
   rw [hth] at eH
   rcases Nat.eq_zero_or_pos k with rfl|hk0
   · have hone:=hullT_one me ((s:Int),(f:Int))
     rw [eL,eH] at hone
     rw [List.take_zero,List.nil_append] at ht
     ((all_goals refine goP1e ?_);(all_goals constructor);(any_goals exact trivial);all_goals intros)
     all_goals (refine ⟨1,hlt,(by omega),?_,?_⟩<;>(try simp only [ht,hone])<;>(repeat' (first|exact FrSub.nil|(apply FrSub.cons;exact rfl)|(apply HpSub.consE;(repeat first|exact P0|apply P1);exact rfl)|exact HpSub.nil)))
   · have h0:R.take k≠[]:=fun e=>by
       have:=congrArg List.length e
       rw [List.length_take,List.length_nil] at this
       omega
     have hsn:=hullT_snoc (m:=me) h0 ((s:Int),(f:Int))
     rw [eL,eH,← ht] at hsn
     ((all_goals refine goP1e ?_);(all_goals constructor);(any_goals exact trivial);all_goals intros)
     all_goals (refine ⟨k+1,hlt,(by omega),?_,?_⟩<;>(try simp only [hsn])<;>(repeat' (first|exact FrSub.nil|(apply FrSub.cons;exact rfl)|(apply HpSub.consE;(repeat first|exact P0|apply P1);exact rfl)|exact HpSub.nil)))
 · obtain rfl:k=R.length:=by omega
   rw [List.take_length]
   have hb:=hullT_bound hme R hR
   have HO:=fun w1=>over60_calls (hullT me R).1 (hullT me R).2 g0 g1 hb.1 (by omega) hg.1 hg.2 w1
   by_cases h0:R=[]
   · subst h0
     rw [show hullT me []=(0,0) from rfl] at HO ⊢
     simp only [(aLH_zero g0 g1).1,(aLH_zero g0 g1).2] at HO
     simp only [List.length_nil]
     ((all_goals refine goP1e ?_);(all_goals constructor);(any_goals exact trivial);all_goals intros)
     all_goals rfl
   · have hl0:0<R.length:=List.length_pos_iff.2 h0
     unfold partV
     rw [if_neg h0]
     ((all_goals refine goP1e ?_);(all_goals constructor);(any_goals exact trivial);all_goals intros)
     all_goals rfl
theorem pick_of {H:Hp} {b:Nat} {C:List Value} {g:Tg} (hm:(b,C,g)∈H):∃ H',Pick H b C g H':=by
 induction H with
 | nil=>cases hm
 | cons x H ih=>
   rcases List.mem_cons.1 hm with rfl|hm
   · exact ⟨H,Pick.head _ _ _ _⟩
   · obtain ⟨H',hp⟩:=ih hm
     exact ⟨x::H',hp.tail⟩
def sN (l:List Nat):Option (Nat×Nat)→Value
 | none=>.slice none 0 0
 | some (b,cap)=>.slice (some ⟨b,0,none⟩) l.length cap
def hN (l:List Nat):Option (Nat×Nat)→Hp
 | none=>[]
 | some (b,cap)=>[(b,(cI l).map iv,some (3,1,cap))]
theorem cN_snoc (l:List Nat) (t:Nat):(cI l).map iv++[Value.int .i64 ((t:Nat):Int)]=(cI (l++[t])).map iv:=by
 unfold cI
 rw [List.map_append,List.map_append]
 rfl
theorem legC_le {v q1 q2 q3 q4:Int} {g0 g1:Nat} {C:List Wn} {z:Lg} {m:Nat} (hcw:∀ x∈C,windB x.l=true) (hp:PaceOk v q1 q2 q3 q4 g0 g1) (hL:LegOk m z) (bk:Bool):legC v q1 q2 q3 g0 g1 C z bk≤166666666667∧-1≤legC v q1 q2 q3 g0 g1 C z bk:=by
 obtain ⟨_,_,_,kx,ky,kz,kh⟩:=hL
 obtain ⟨hR,hRl⟩:=legRz_ok (z:=z) (bk:=bk) hcw hp kh ⟨kx,ky,kz⟩
 have lb:=lenV_bound kx ky
 obtain ⟨_,_,_,_,_,kg⟩:=id hp
 unfold legC
 split
 · omega
 · have hb:=hullT_bound (m:=(lenV z.x z.y).toNat) (by omega) _ hR
   have:=a_bound (c:=g0) (d:=g1) hb.1 (by omega) (by omega) (by omega) 8
   omega
def lfG (cst:Lg→Bool→Int) (L:List Lg) (m:Nat) (T:List Bool):Nat→Nat→Int:=fun k s=>(leadF (arcs cst L) m (fun j=>T.getD j false) k).getD s (-1)
abbrev Trp:=List (Nat×Bool)×List Nat
def stF (L:List Lg):Option Trp→Int→Option Trp
 | none,_=>none
 | some p,r=>if 0≤r∧r<(L.length:Int) then (match L[r.toNat]? with
   | none=>none
   | some z=>if ((p.2.getLastD 0:Nat):Int)=z.a∨((p.2.getLastD 0:Nat):Int)=z.b then some (p.1++[(r.toNat,decide (((p.2.getLastD 0:Nat):Int)=z.b))],p.2++[(z.a+z.b-((p.2.getLastD 0:Nat):Int)).toNat]) else none) else none
def tripF (L:List Lg) (s:Nat) (rs:List Int):Option Trp:=rs.foldl (stF L) (some ([],[s]))
theorem stF_none (L:List Lg):∀ rs:List Int,rs.foldl (stF L) none=none
 | []=>rfl
 | _::rs=>stF_none L rs
theorem tripF_take {L:List Lg} {s:Nat} {rs:List Int} {k:Nat} {r:Int} (h:rs[k]?=some r):tripF L s (rs.take (k+1))=stF L (tripF L s (rs.take k)) r:=by
 unfold tripF
 rw [List.take_add_one,h]
 simp
theorem tripF_cut {L:List Lg} {s:Nat} {rs:List Int} {k:Nat} (h:tripF L s (rs.take k)=none):tripF L s rs=none:=by
 unfold tripF at *
 conv=>lhs;rw [← List.take_append_drop k rs]
 rw [List.foldl_append,h,stF_none]
theorem tripF_bad {L:List Lg} {s:Nat} {rs:List Int} {r:Int} (hr:r∈rs) (h:¬ (0≤r∧r<(L.length:Int))):tripF L s rs=none:=by
 obtain ⟨k,hk,rfl⟩:=List.getElem_of_mem hr
 refine tripF_cut (k:=k+1) ?_
 rw [tripF_take (List.getElem?_eq_getElem hk)]
 cases tripF L s (rs.take k) with
 | none=>rfl
 | some p=>simp only [stF];rw [if_neg h]
def LegAt (L:List Lg) (p:Trp) (i:Nat) (r:Int):Prop:=∃ (z:Lg) (t:Nat) (bk:Bool) (x y:Nat),p.1[i]?=some (t,bk)∧r=(t:Int)∧L[t]?=some z∧p.2[i]?=some x∧p.2[i+1]?=some y∧((bk=false∧z.a=x∧z.b=y)∨(bk=true∧z.a≠x∧z.b=x∧z.a=y))
def TI (L:List Lg) (m:Nat) (rs:List Int) (p:Trp):Prop:=p.1.length=rs.length∧p.2.length=rs.length+1∧(∀ x∈p.2,x<m)∧∀ i r,rs[i]?=some r→LegAt L p i r
theorem TI.step {L:List Lg} {m:Nat} (hL:∀ z∈L,LegOk m z) {pre:List Int} {p q:Trp} {r:Int} (h:TI L m pre p) (hq:stF L (some p) r=some q):TI L m (pre++[r]) q:=by
 obtain ⟨h1,h2,h3,h4⟩:=h
 simp only [stF] at hq
 split at hq
 rotate_left
 · cases hq
 rename_i hr
 obtain ⟨t,rfl⟩:=Int.eq_ofNat_of_zero_le hr.1
 rw [Int.toNat_natCast] at hq
 obtain ⟨z,hz⟩:∃ z,L[t]?=some z:=⟨_,List.getElem?_eq_getElem (by omega)⟩
 rw [hz] at hq
 simp only at hq
 split at hq
 rotate_left
 · cases hq
 rename_i hx
 obtain ⟨hz1,hz2,hz3,_⟩:=hL z (List.mem_of_getElem? hz)
 obtain ⟨x,hxl,hxe⟩:∃ x,p.2[pre.length]?=some x∧p.2.getLastD 0=x:=by
   refine ⟨p.2.getLastD 0,?_,rfl⟩
   rw [List.getLastD_eq_getLast?,List.getLast?_eq_getElem?,h2,Nat.add_sub_cancel]
   rw [List.getElem?_eq_getElem (by omega)]
   rfl
 rw [hxe] at hq hx
 have hxm:=h3 x (List.mem_of_getElem? hxl)
 obtain rfl:=Option.some.inj hq
 refine ⟨by simp [h1],by simp [h2],?_,?_⟩
 · intro y hy
   rcases List.mem_append.1 hy with hy|hy
   · exact h3 y hy
   · obtain rfl:=List.mem_singleton.1 hy
     omega
 · intro i r hi
   rcases Nat.lt_or_ge i pre.length with hlt|hge
   · rw [List.getElem?_append_left hlt] at hi
     obtain ⟨z',t',bk,x',y',e1,e2,e3,e4,e5,e6⟩:=h4 i r hi
     refine ⟨z',t',bk,x',y',?_,e2,e3,?_,?_,e6⟩
     · simp only;rw [List.getElem?_append_left (by omega)];exact e1
     · simp only;rw [List.getElem?_append_left (by omega)];exact e4
     · simp only;rw [List.getElem?_append_left (by omega)];exact e5
   · rw [List.getElem?_append_right hge] at hi
     have hi0:i-pre.length=0:=by
       have:=(List.getElem?_eq_some_iff.1 hi).1
       simpa using this
     obtain rfl:i=pre.length:=by omega
     rw [hi0] at hi
     obtain rfl:((t:Nat):Int)=r:=by simpa using hi
     refine ⟨z,t,decide ((x:Int)=z.b),x,(z.a+z.b-(x:Int)).toNat,?_,rfl,hz,?_,?_,?_⟩
     · simp only;rw [List.getElem?_append_right (by omega),h1,Nat.sub_self];rfl
     · simp only;rw [List.getElem?_append_left (by omega)];exact hxl
     · simp only;rw [List.getElem?_append_right (by omega),h2,Nat.sub_self];rfl
     · by_cases hb:(x:Int)=z.b
       · exact .inr ⟨decide_eq_true hb,by omega,hb.symm,by omega⟩
       · exact .inl ⟨decide_eq_false hb,by omega,by omega⟩
theorem TI.go {L:List Lg} {m:Nat} (hL:∀ z∈L,LegOk m z):∀ {rs pre:List Int} {p q:Trp},TI L m pre p→rs.foldl (stF L) (some p)=some q→TI L m (pre++rs) q
 | [],pre,p,q,h,hq=>by
   obtain rfl:=Option.some.inj hq
   rw [List.append_nil];exact h
 | r::rs,pre,p,q,h,hq=>by
   rw [List.foldl_cons] at hq
   cases hs:stF L (some p) r with
   | none=>rw [hs,stF_none] at hq;cases hq
   | some p'=>
     rw [hs] at hq
     have:=TI.go hL (h.step hL hs) hq
     rw [List.append_assoc] at this
     exact this
theorem trip_ti {L:List Lg} {m s:Nat} (hL:∀ z∈L,LegOk m z) (hs:s<m) {rs:List Int} {p:Trp} (h:tripF L s rs=some p):TI L m rs p:=by
 have h0:TI L m [] (([],[s]):Trp):=⟨rfl,rfl,fun x hx=>by (obtain rfl:=List.mem_singleton.1 hx);exact hs,fun i r hi=>by simp at hi⟩
 exact TI.go hL h0 h
def lbF (need:Nat→Pl) (cst:Nat×Bool→Int) (q:Int):List Nat→List (Nat×Bool)→Option Int
 | [],_=>some 0
 | s::ss,g=>match lbF need cst q ss g.tail with
   | none=>none
   | some w=>match need s with
     | none=>none
     | some a=>match g with
       | []=>some (max w (a.1+q))
       | x::_=>if cst x<0 then none else some (max (w+cst x) (a.1+q))
end Go.Proofs.YtcjkndjjbjoehaaGreat
