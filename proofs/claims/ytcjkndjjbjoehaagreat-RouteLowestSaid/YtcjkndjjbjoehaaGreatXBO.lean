/- A part of the proof: rules for walks, and contracts of functions (15). -/
import Derived.Test.YtcjkndjjbjoehaaGreatXBN
import Derived.Test.YtcjkndjjbjoehaaGreatXBC
import Derived.Test.YtcjkndjjbjoehaaGreatXBB
import Derived.Test.YtcjkndjjbjoehaaGreatXBA
import Derived.Test.YtcjkndjjbjoehaaGreatXBD
import Derived.Test.YtcjkndjjbjoehaaGreatXBL
import Derived.Test.YtcjkndjjbjoehaaGreatXBK
import Derived.Test.YtcjkndjjbjoehaaGreatXBM
set_option linter.unusedVariables false
set_option linter.unusedSimpArgs false
set_option maxRecDepth 100000
set_option maxHeartbeats 2000000
namespace Go.Proofs.YtcjkndjjbjoehaaGreat
theorem gqO0 {G A1 A2 A3 A4 A5 A6 A7 A8 A9 A10 A11 A12 A13 A14 A15 A16:Prop} (p:GoP A1 A2 A3 A4 A5 A6 A7 A8 A9 A10 A11 A12 A13 A14 A15 A16) (h:GoL A1→GoL A2→GoL A3→GoL A4→GoL A5→GoL A6→GoL A7→GoL A8→GoL A9→GoL A10→GoL A11→GoL A12→GoL A13→GoL A14→GoL A15→GoL A16→GoM→G:=by intro m1 m2 m3 m4 m5 m6 m7 m8 m9 m10 m11 m12 m13 m14 m15 m16 _;(repeat' (first|((with_reducible apply oq_id);first|(apply oq_fn;exact rfl;first|exact trivial|(constructor<;>omega)|omega|skip)|(focus ((with_reducible apply oq_indexAddrN);(iterate 4 exact rfl);omega))|((with_reducible apply oq_assert);exact Tryz.runUnderlying195;(intro _ h;cases h);exact rfl)|(apply oq_fn;exact rfl;first|exact trivial|(and_intros<;>omega)|omega|skip)|((with_reducible apply oq_load);exact rfl;exact rfl)|((with_reducible apply oq_build);(iterate 3 exact rfl)))|((with_reducible apply tl_id);first|(with_reducible apply tl_nil)|((with_reducible apply u_q);(iterate 4 exact rfl))|((with_reducible apply u_s);(iterate 3 exact rfl)))|((with_reducible apply gx_id);first|(with_reducible apply v_nil)|((with_reducible apply v_q);(iterate 3 exact rfl)))|((with_reducible apply os_id);first|((with_reducible apply os_x);exact rfl)|((with_reducible apply os_store);(iterate 4 exact rfl))|((with_reducible apply os_append (hk:=app_ok197));exact rfl;exact rfl;(repeat first|exact P0|apply P1))|((with_reducible apply os_makeB (hk:=app_ok22) (hz:=zero4));exact rfl;exact rfl;omega;(unfold maxLen;omega);intro _))|((with_reducible apply ox_id);first|((with_reducible apply ox_box);exact rfl;exact rfl;intro _)|((with_reducible apply ox_buildSlice);(iterate 4 exact rfl))|((with_reducible apply ox_boxAgg);exact rfl;intro _))|((with_reducible apply ai_id);first|((with_reducible apply ai_q);(iterate 5 exact rfl))|((with_reducible apply ai_x);(iterate 5 exact rfl))|((with_reducible apply ai_s0);(iterate 4 exact rfl))|((with_reducible apply ai_s);(iterate 5 exact rfl)))|((with_reducible apply rd_id);first|(apply Rd.old;(first|(with_reducible assumption)|exact c0|exact c1|exact c2|exact c3|exact c4|exact c5|exact c6|exact c7|exact c8|exact d0|exact d1|exact d2|exact d3|exact d4|exact d5);first|exact List.not_mem_nil|exact m0|exact m1|exact m2|exact m3|exact m4|exact m5|exact m6|exact m7|exact m8|exact m9)|(apply Rd.old;exact hca;exact List.not_mem_nil)|(apply rdB hsx;(repeat first|exact P0|apply P1);done)|(apply Rd.own;(repeat first|exact P0|apply P1);exact rfl;done))|((with_reducible apply t_id);first|(with_reducible apply t_seq)|(apply t_region;kernel_rfl)|(apply t_drawn;kernel_rfl;decide +kernel;try simp only [List.append_eq,List.cons_append,List.nil_append])|(with_reducible apply t_ret)|(apply t_mix (id:=0) [1,2,3,4,5] 5 #[false,false,false,false,false,false,false,true,false,true];kernel_rfl;kernel_rfl;exact rfl)|(with_reducible apply t_block)|((with_reducible apply t_condF);exact rfl)|(with_reducible apply t_skip))|with_reducible apply q_thenN|with_reducible apply q_thenR|with_reducible apply q_blockR|(with_reducible apply end_ret)|exact P0|(with_reducible apply P1)|exact Rdn.zero|apply Rdn.succ|((with_reducible apply Norm.nil);exact rfl)|((with_reducible apply Norm.cons);exact rfl)|(with_reducible apply end_normal)|exact rvs_nil|(with_reducible apply rvs_cons)|((with_reducible apply rv_tmp);exact rfl)|((with_reducible apply rv_cell);exact rfl;exact rfl)|((with_reducible apply al_id);first|(apply al_done;decide +kernel)|(apply al_one 0;decide +kernel)|(apply al_one 6;decide +kernel)|(apply al_one 7;decide +kernel)|(apply al_one 8;decide +kernel)|(apply al_one 9;decide +kernel)|(apply al_two 0 6;decide +kernel)|(apply al_two 0 7;decide +kernel))|exact Nat.le_of_ble_eq_true rfl|exact (rfl:(_:Bool)=true)|omega|(intro _ _;with_reducible apply al_id)|(intro _;with_reducible apply al_id)|(intro _;with_reducible apply tl_id)));(try focus (repeat (rename_i x;first|exact goD x m1.p|revert x)));(try focus (repeat (rename_i x;first|exact goD x m2.p|revert x)));(try focus (repeat (rename_i x;first|exact goD x m3.p|revert x)));(try focus (repeat (rename_i x;first|exact goD x m4.p|revert x)));(try focus (repeat (rename_i x;first|exact goD x m5.p|revert x)));(try focus (repeat (rename_i x;first|exact goD x m6.p|revert x)));(try focus (repeat (rename_i x;first|exact goD x m7.p|revert x)));(try focus (repeat (rename_i x;first|exact goD x m8.p|revert x)));(try focus (repeat (rename_i x;first|exact goD x m9.p|revert x)));(try focus (repeat (rename_i x;first|exact goD x m10.p|revert x)));(try focus (repeat (rename_i x;first|exact goD x m11.p|revert x)));(try focus (repeat (rename_i x;first|exact goD x m12.p|revert x)));(try focus (repeat (rename_i x;first|exact goD x m13.p|revert x)));(try focus (repeat (rename_i x;first|exact goD x m14.p|revert x)));(try focus (repeat (rename_i x;first|exact goD x m15.p|revert x)));(try focus (repeat (rename_i x;first|exact goD x m16.p|revert x)))) (e:GoTs A1 A2 A3 A4 A5 A6 A7 A8 A9 A10 A11 A12 A13 A14 A15 A16:=by constructor<;>first|(with_reducible exact GoT.t)|exact GoT.u):G:=p.run h
theorem gqO1 {G A1 A2 A3 A4 A5 A6 A7 A8 A9 A10 A11 A12 A13 A14 A15 A16:Prop} (p:GoP A1 A2 A3 A4 A5 A6 A7 A8 A9 A10 A11 A12 A13 A14 A15 A16) (h:GoL A1→GoL A2→GoL A3→GoL A4→GoL A5→GoL A6→GoL A7→GoL A8→GoL A9→GoL A10→GoL A11→GoL A12→GoL A13→GoL A14→GoL A15→GoL A16→GoM→G:=by intro m1 m2 m3 m4 m5 m6 m7 m8 m9 m10 m11 m12 m13 m14 m15 m16 _;(repeat' (first|((with_reducible apply oq_id);first|((with_reducible apply ob_id);first|((with_reducible apply (oq_quoE (k:=0)));exact rfl;exact rfl;(refine ⟨by decide,by decide,by decide,by decide⟩))|((with_reducible apply oq_eqlT);exact rfl;exact rfl;omega)|((with_reducible apply oq_subE (k:=((k-1:Nat):Int)));exact rfl;exact rfl;omega)|((with_reducible apply (oq_quoE (k:=((i:Nat):Int))));exact rfl;exact rfl;(refine ⟨tdiv_natH (a:=k-1) (b:=2) (by omega) rfl (by omega),by omega,by omega,by omega⟩))|((with_reducible apply oq_eqlF);exact rfl;exact rfl;omega)|((with_reducible apply (oq_mulE (k:=((2*i:Nat):Int))));exact rfl;exact rfl;omega)|((with_reducible apply oq_geqT);exact rfl;exact rfl;omega)|((with_reducible apply oq_lssT);exact rfl;exact rfl;omega)|((with_reducible apply oq_lssF);exact rfl;exact rfl;omega)|((with_reducible apply oq_geqF);exact rfl;exact rfl;omega))|((with_reducible apply oq_invoke (name := "Less") (k:=198) (rv:=.slice (some ⟨db,0,none⟩) (n) cap) (hc:=Tryz.call198));exact rfl;exact fun D w1 hw1=>m_less (hw1.cellAt (C:=[.slice (some ⟨db,0,none⟩) (n) cap]) (by (repeat first|exact P0|apply P1)) rfl);exact rfl;exact fun D w1 hw1=>frontLess_calls db (n) cap k i l1 x y _ w1 (hw1.blkP (by (repeat first|exact P0|apply P1))) hl hn1 hx hy)|((with_reducible apply oq_invoke (name := "Less") (k:=198) (rv:=.slice (some ⟨db,0,none⟩) (n+1) cap) (hc:=Tryz.call198));exact rfl;exact fun D w1 hw1=>m_less (hw1.cellAt (C:=[.slice (some ⟨db,0,none⟩) (n+1) cap]) (by (repeat first|exact P0|apply P1)) rfl);exact rfl;exact fun D w1 hw1=>frontLess_calls db (n+1) cap (2*i+1+1) (2*i+1) l1 z x _ w1 (hw1.blkP (by (repeat first|exact P0|apply P1))) hl (by omega) hz hx)|((with_reducible apply oq_invoke (name := "Less") (k:=198) (rv:=.slice (some ⟨db,0,none⟩) (n+1) cap) (hc:=Tryz.call198));exact rfl;exact fun D w1 hw1=>m_less (hw1.cellAt (C:=[.slice (some ⟨db,0,none⟩) (n+1) cap]) (by (repeat first|exact P0|apply P1)) rfl);exact rfl;exact fun D w1 hw1=>frontLess_calls db (n+1) cap (2*i+1+1) i l1 z y _ w1 (hw1.blkP (by (repeat first|exact P0|apply P1))) hl (by omega) hz hy)|((with_reducible apply oq_invoke (name := "Less") (k:=198) (rv:=.slice (some ⟨db,0,none⟩) (n+1) cap) (hc:=Tryz.call198));exact rfl;exact fun D w1 hw1=>m_less (hw1.cellAt (C:=[.slice (some ⟨db,0,none⟩) (n+1) cap]) (by (repeat first|exact P0|apply P1)) rfl);exact rfl;exact fun D w1 hw1=>frontLess_calls db (n+1) cap (2*i+1) i l1 x y _ w1 (hw1.blkP (by (repeat first|exact P0|apply P1))) hl (by omega) hx hy)|(focus ((with_reducible apply oq_indexAddrN);(iterate 4 exact rfl);omega))|(apply oq_fn;exact rfl;first|exact trivial|(and_intros<;>omega)|omega|skip)|((with_reducible apply oq_load);exact rfl;exact rfl))|((with_reducible apply tl_id);first|(with_reducible apply tl_nil)|((with_reducible apply u_s);(iterate 3 exact rfl);(with_reducible apply os_invokeM (name := "Swap") (PV:=fun v H1=>v=.tuple #[]∧H1=[(db,rcs (swp l1 i k),some (195,3,cap))]) (G:=[(db,rcs l1,some (195,3,cap))]) (R:=[(pb,[.slice (some ⟨db,0,none⟩) (n) cap],some (197,1,1))]) (k:=201) (rv:=.slice (some ⟨db,0,none⟩) (n) cap) (hc:=Tryz.call201));exact rfl;(repeat (first|exact HpSub.refl _|(apply HpSub.consE;(repeat first|exact P0|apply P1);exact rfl)|apply HpSub.skipX|apply HpSub.skipX|exact HpSub.nil));exact fun D w1 hw1=>m_swap (hw1.cellAt (C:=[.slice (some ⟨db,0,none⟩) (n) cap]) (by (repeat first|exact P0|apply P1)) rfl);exact rfl;exact fun D w1 hw1 hg1=>frontSwap_W db (n) cap i k l1 y x w1 hg1 hl hn1 hy hx;rintro _ _ ⟨rfl,rfl⟩;(try simp only [List.cons_append,List.nil_append,List.append_nil]))|((with_reducible apply u_s);(iterate 3 exact rfl);(with_reducible apply os_invokeM (name := "Swap") (PV:=fun v H1=>v=.tuple #[]∧H1=[(db,rcs (swp l1 i (2*i+1+1)),some (195,3,cap))]) (G:=[(db,rcs l1,some (195,3,cap))]) (R:=[(pb,[.slice (some ⟨db,0,none⟩) (n+1) cap],some (197,1,1))]) (k:=201) (rv:=.slice (some ⟨db,0,none⟩) (n+1) cap) (hc:=Tryz.call201));exact rfl;(repeat (first|exact HpSub.refl _|(apply HpSub.consE;(repeat first|exact P0|apply P1);exact rfl)|apply HpSub.skipX|apply HpSub.skipX|exact HpSub.nil));exact fun D w1 hw1=>m_swap (hw1.cellAt (C:=[.slice (some ⟨db,0,none⟩) (n+1) cap]) (by (repeat first|exact P0|apply P1)) rfl);exact rfl;exact fun D w1 hw1 hg1=>frontSwap_W db (n+1) cap i (2*i+1+1) l1 y z w1 hg1 hl (by omega) hy hz;rintro _ _ ⟨rfl,rfl⟩;(try simp only [List.cons_append,List.nil_append,List.append_nil]))|((with_reducible apply u_s);(iterate 3 exact rfl);(with_reducible apply os_invokeM (name := "Swap") (PV:=fun v H1=>v=.tuple #[]∧H1=[(db,rcs (swp l1 i (2*i+1)),some (195,3,cap))]) (G:=[(db,rcs l1,some (195,3,cap))]) (R:=[(pb,[.slice (some ⟨db,0,none⟩) (n+1) cap],some (197,1,1))]) (k:=201) (rv:=.slice (some ⟨db,0,none⟩) (n+1) cap) (hc:=Tryz.call201));exact rfl;(repeat (first|exact HpSub.refl _|(apply HpSub.consE;(repeat first|exact P0|apply P1);exact rfl)|apply HpSub.skipX|apply HpSub.skipX|exact HpSub.nil));exact fun D w1 hw1=>m_swap (hw1.cellAt (C:=[.slice (some ⟨db,0,none⟩) (n+1) cap]) (by (repeat first|exact P0|apply P1)) rfl);exact rfl;exact fun D w1 hw1 hg1=>frontSwap_W db (n+1) cap i (2*i+1) l1 y x w1 hg1 hl (by omega) hy hx;rintro _ _ ⟨rfl,rfl⟩;(try simp only [List.cons_append,List.nil_append,List.append_nil]))|((with_reducible apply u_q);(iterate 4 exact rfl))|((with_reducible apply u_skip);(iterate 3 exact rfl)))|((with_reducible apply rd_id);first|(apply rdB hsx;(repeat first|exact P0|apply P1);done)|(apply Rd.own;(repeat first|exact P0|apply P1);exact rfl;done))|((with_reducible apply t_id);first|(with_reducible apply t_seq)|(apply t_region;kernel_rfl)|((with_reducible apply t_condT);exact rfl)|((with_reducible apply t_condF);exact rfl)|((with_reducible apply t_condD);exact rfl;all_goals first|(intro _;try (exfalso;omega))|skip)|((with_reducible apply t_condN);exact rfl;all_goals first|(intro _;try (exfalso;omega))|skip)|(with_reducible apply t_ret)|(with_reducible apply t_skip)|(with_reducible apply t_exit)|(with_reducible apply t_block))|with_reducible apply q_thenN|with_reducible apply q_blockN|with_reducible apply q_thenE|((with_reducible apply q_blockE);exact rfl)|((with_reducible apply q_blockO);exact rfl)|(with_reducible apply end_normal)|with_reducible apply q_thenR|with_reducible apply q_blockR|(with_reducible apply end_ret)|exact rvs_nil|(with_reducible apply rvs_cons)|((with_reducible apply rv_tmp);exact rfl)|omega));(try focus (repeat (rename_i x;first|exact goD x m1.p|revert x)));(try focus (repeat (rename_i x;first|exact goD x m2.p|revert x)));(try focus (repeat (rename_i x;first|exact goD x m3.p|revert x)));(try focus (repeat (rename_i x;first|exact goD x m4.p|revert x)));(try focus (repeat (rename_i x;first|exact goD x m5.p|revert x)));(try focus (repeat (rename_i x;first|exact goD x m6.p|revert x)));(try focus (repeat (rename_i x;first|exact goD x m7.p|revert x)));(try focus (repeat (rename_i x;first|exact goD x m8.p|revert x)));(try focus (repeat (rename_i x;first|exact goD x m9.p|revert x)));(try focus (repeat (rename_i x;first|exact goD x m10.p|revert x)));(try focus (repeat (rename_i x;first|exact goD x m11.p|revert x)));(try focus (repeat (rename_i x;first|exact goD x m12.p|revert x)));(try focus (repeat (rename_i x;first|exact goD x m13.p|revert x)));(try focus (repeat (rename_i x;first|exact goD x m14.p|revert x)));(try focus (repeat (rename_i x;first|exact goD x m15.p|revert x)));(try focus (repeat (rename_i x;first|exact goD x m16.p|revert x)))) (e:GoTs A1 A2 A3 A4 A5 A6 A7 A8 A9 A10 A11 A12 A13 A14 A15 A16:=by constructor<;>first|(with_reducible exact GoT.t)|exact GoT.u):G:=p.run h
theorem gqU0e {G A1 A2 A3 A4 A5 A6 A7 A8 A9 A10 A11 A12 A13 A14 A15 A16:Prop} (p:GoP A1 A2 A3 A4 A5 A6 A7 A8 A9 A10 A11 A12 A13 A14 A15 A16) (h:GoL A1→GoL A2→GoL A3→GoL A4→GoL A5→GoL A6→GoL A7→GoL A8→GoL A9→GoL A10→GoL A11→GoL A12→GoL A13→GoL A14→GoL A15→GoL A16→GoM→G:=by intro m1 m2 m3 m4 m5 m6 m7 m8 m9 m10 m11 m12 m13 m14 m15 m16 _;(repeat' (first|((with_reducible apply oq_id);first|((with_reducible apply oc_id);first|((with_reducible apply oq_call (hc:=Tryz.call60));exact rfl;exact rfl;exact fun D w1 hw1=>HN w1 hw1.ext.ext)|((with_reducible apply oq_call (hc:=Tryz.call71));exact rfl;exact rfl;(intro D w1 hw1;refine within6_f _ _ _ ?_ w1;omega))|((with_reducible apply oq_call (hc:=Tryz.call77));exact rfl;exact rfl;exact fun D w1 hw1=>HO7 w1 ((HCO D w1 _ hw1 (by simp only [coH,List.cons_append];repeat (first|exact HpSub.refl _|exact HpSub.appLeft|exact HpSub.front HpSub.appLeft|apply HpSub.skipX))).each _ hcm))|((with_reducible apply oq_call (hc:=Tryz.call57));exact rfl;exact rfl;exact fun D w1 hw1=>HN w1 hw1.ext.ext)|((with_reducible apply oq_call (hc:=Tryz.call78));exact rfl;exact rfl;exact fun D w1 hw1=>clone78_nil w1)|((with_reducible apply oq_call (hc:=Tryz.call28));exact rfl;exact rfl;exact fun D w1 hw1=>HN w1 hw1.ext.ext)|((with_reducible apply oq_call (hc:=Tryz.call28));exact rfl;exact rfl;exact fun D w1 hw1=>HC w1 hw1.ext.ext))|((with_reducible apply ob_id);first|((with_reducible apply oq_neqT);exact rfl;exact rfl;omega)|((with_reducible apply oq_neqF);exact rfl;exact rfl;omega)|(focus ((with_reducible apply (oq_addE (m:=a.1) (n:=q4) (k:=a.1+q4)));exact rfl;exact rfl;omega))|(focus ((with_reducible apply (oq_addE (m:=so) (n:=a.1) (k:=so+a.1)));exact rfl;exact rfl;omega))|(focus ((with_reducible apply (oq_addE (m:=(so+a.1)) (n:=q4) (k:=(so+a.1)+q4)));exact rfl;exact rfl;omega))|((with_reducible apply oq_lssT);exact rfl;exact rfl;omega)|((with_reducible apply oq_lssF);exact rfl;exact rfl;omega)|((with_reducible apply oq_gtrT);exact rfl;exact rfl;omega)|((with_reducible apply oq_gtrF);exact rfl;exact rfl;omega))|(focus ((with_reducible apply (oq_max2E (m:=lt) (n:=so+a.1+q4) (k:=max lt (so+a.1+q4))));exact rfl;exact rfl;rfl))|(focus ((with_reducible apply oq_indexAddrN (i:=i));(iterate 4 exact rfl);omega))|(focus ((with_reducible apply oq_indexAddrN (i:=t));(iterate 4 exact rfl);omega))|(apply oq_fn;exact rfl;first|exact trivial|(constructor<;>omega)|omega|skip)|((with_reducible apply oq_load);exact rfl;exact rfl)|((with_reducible apply oq_loadAgg);exact rfl;exact rfl))|((with_reducible apply tl_id);first|(with_reducible apply tl_nil)|((with_reducible apply u_s);(iterate 3 exact rfl);(with_reducible apply os_callS (PV:=LedV 0 p) (hc:=Tryz.call60));exact rfl;exact rfl;exact fun D w1 hw1=>HO w1 hw1.ext.ext;rintro _ _ ⟨bS,cS,rfl,rfl⟩;simp only [List.cons_append,List.nil_append])|((with_reducible apply u_q);(iterate 4 exact rfl))|((with_reducible apply u_skip);(iterate 3 exact rfl))|((with_reducible apply u_s0);exact rfl;exact rfl)|((with_reducible apply u_s);(iterate 3 exact rfl)))|((with_reducible apply os_id);first|((with_reducible apply os_x);exact rfl)|((with_reducible apply os_storeAgg);(iterate 5 exact rfl))|((with_reducible apply os_appendNil (hk:=app_ok57));exact rfl;exact rfl)|((with_reducible apply os_append (hk:=app_ok57));exact rfl;exact rfl;(repeat first|exact P0|apply P1))|((with_reducible apply os_store);(iterate 4 exact rfl)))|((with_reducible apply ox_id);first|((with_reducible apply ox_boxAgg);exact rfl;intro _)|((with_reducible apply ox_alloc);exact rfl;intro _)|((with_reducible apply ox_buildSlice1);(iterate 6 exact rfl);intro _))|((with_reducible apply gx_id);first|(with_reducible apply v_nil)|((with_reducible apply v_q);(iterate 3 exact rfl)))|((with_reducible apply ai_id);first|((with_reducible apply ai_n);(iterate 4 exact rfl);(with_reducible apply os_callS (PV:=RouV none) (hc:=Tryz.call72));exact rfl;exact rfl;exact fun D w1 hw1=>HR AK cK R w1 hw1.ext.ext (HCO D w1 _ hw1 (by repeat (first|exact HpSub.refl _|exact HpSub.appLeft|apply HpSub.skipX))) hRk;rintro _ _ ⟨oN,hN0,rfl,rfl⟩;simp only [List.cons_append,List.nil_append])|((with_reducible apply ai_n);(iterate 4 exact rfl);(with_reducible apply os_callS (PV:=RouV (some a)) (hc:=Tryz.call72));exact rfl;exact rfl;exact fun D w1 hw1=>HR AK cK R w1 hw1.ext.ext (HCO D w1 _ hw1 (by repeat (first|exact HpSub.refl _|exact HpSub.appLeft|apply HpSub.skipX))) hRk;rintro _ _ ⟨oN,hN0,rfl,rfl⟩;simp only [List.cons_append,List.nil_append])|((with_reducible apply ai_n);(iterate 4 exact rfl);(with_reducible apply os_callS (PV:=RouV (some a)) (hc:=Tryz.call72));exact rfl;exact rfl;exact fun D w1 hw1=>HR _ cK R w1 hw1.ext.ext (HCO D w1 _ hw1 (by repeat (first|exact HpSub.refl _|exact HpSub.appLeft|apply HpSub.skipX))) hRk;rintro _ _ ⟨oN,hN0,rfl,rfl⟩;simp only [List.cons_append,List.nil_append])|((with_reducible apply ai_n);(iterate 4 exact rfl);(with_reducible apply os_callS (PV:=RouV none) (hc:=Tryz.call72));exact rfl;exact rfl;exact fun D w1 hw1=>HR _ _ R w1 hw1.ext.ext (HCO D w1 _ hw1 (by repeat (first|exact HpSub.refl _|exact HpSub.appLeft|apply HpSub.skipX))) hRk;rintro _ _ ⟨oN,hN0,rfl,rfl⟩;simp only [List.cons_append,List.nil_append])|((with_reducible apply ai_n);(iterate 4 exact rfl);(with_reducible apply os_callS (PV:=RouV (some a)) (hc:=Tryz.call72));exact rfl;exact rfl;exact fun D w1 hw1=>HR _ _ R w1 hw1.ext.ext (HCO D w1 _ hw1 (by repeat (first|exact HpSub.refl _|exact HpSub.appLeft|apply HpSub.skipX))) hRk;rintro _ _ ⟨oN,hN0,rfl,rfl⟩;simp only [List.cons_append,List.nil_append])|((with_reducible apply ai_q);(iterate 5 exact rfl)))|((with_reducible apply al_keep);focus (repeat (first|exact HpSub.refl _|(apply HpSub.cons;(repeat first|exact P0|apply P1))|apply HpSub.skipX|exact HpSub.nil)))|((with_reducible apply rd_id);first|(apply rd_st hsi;(repeat first|exact P0|apply P1);done)|(apply rd_co hct;(repeat first|exact P0|apply P1);done)|(apply rd_pn0 hx;(repeat first|exact P0|apply P1);done)|(apply rd_pn1 hx;(repeat first|exact P0|apply P1);done)|(apply rd_pn2 hx;(repeat first|exact P0|apply P1);done)|(apply Rd.own;(repeat first|exact P0|apply P1);exact rfl;done)|(apply Rd.old;(first|(with_reducible assumption)|exact c0|exact c1|exact c2|exact c3|exact c4|exact c5|exact c6|exact c7|exact c8|exact d0|exact d1|exact d2|exact d3|exact d4|exact d5);first|exact List.not_mem_nil|exact m0|exact m1|exact m2|exact m3|exact m4|exact m5|exact m6|exact m7|exact m8|exact m9))|((with_reducible apply t_id);first|(apply t_mix (id:=10) [0,1,2,3,4,5,6,7] 6 #[false,false,false,false,false,false,false,false,false,false,false,false,false,false];kernel_rfl;kernel_rfl;exact rfl)|(apply t_mix (id:=9) [0,1,2,3,4,5,6,7] 6 #[false,false,false,false,false,false,false,false,false,false,false,false,false,false];kernel_rfl;kernel_rfl;exact rfl)|(with_reducible apply t_seq)|(apply t_region;kernel_rfl)|(apply t_drawn;kernel_rfl;decide +kernel;try simp only [List.append_eq,List.cons_append,List.nil_append])|((with_reducible apply t_condT);exact rfl)|((with_reducible apply t_condF);exact rfl)|(with_reducible apply t_ret)|(with_reducible apply t_skip)|(with_reducible apply t_exit)|(with_reducible apply t_block))|with_reducible apply q_thenN|with_reducible apply q_thenR|with_reducible apply q_thenE|((with_reducible apply q_blockE);exact rfl)|with_reducible apply q_blockR|with_reducible apply q_blockN|exact P0|exact Rdn.zero|apply Rdn.succ|(with_reducible apply P1)|((with_reducible apply Norm.nil);exact rfl)|((with_reducible apply Norm.cons);exact rfl)|(with_reducible apply end_ret)|exact rvs_nil|(with_reducible apply rvs_cons)|((with_reducible apply rv_tmp);exact rfl)|((with_reducible apply al_id);first|(apply al_done;decide +kernel)|(apply al_one 8;decide +kernel)|(apply al_one 9;decide +kernel)|(apply al_one 10;decide +kernel)|(apply al_one 11;decide +kernel)|(apply al_one 12;decide +kernel)|(apply al_one 13;decide +kernel)|(apply al_two 10 11;decide +kernel)|(apply al_two 11 12;decide +kernel))|exact HpSub.appLeft|exact lzM_len _|((with_reducible apply rv_cell);exact rfl;exact rfl)|exact Nat.le_of_ble_eq_true rfl|exact (rfl:(_:Bool)=true)|omega|(intro _ _;with_reducible apply tl_id)));(try focus (repeat (rename_i x;first|exact goD x m1.p|revert x)));(try focus (repeat (rename_i x;first|exact goD x m2.p|revert x)));(try focus (repeat (rename_i x;first|exact goD x m3.p|revert x)));(try focus (repeat (rename_i x;first|exact goD x m4.p|revert x)));(try focus (repeat (rename_i x;first|exact goD x m5.p|revert x)));(try focus (repeat (rename_i x;first|exact goD x m6.p|revert x)));(try focus (repeat (rename_i x;first|exact goD x m7.p|revert x)));(try focus (repeat (rename_i x;first|exact goD x m8.p|revert x)));(try focus (repeat (rename_i x;first|exact goD x m9.p|revert x)));(try focus (repeat (rename_i x;first|exact goD x m10.p|revert x)));(try focus (repeat (rename_i x;first|exact goD x m11.p|revert x)));(try focus (repeat (rename_i x;first|exact goD x m12.p|revert x)));(try focus (repeat (rename_i x;first|exact goD x m13.p|revert x)));(try focus (repeat (rename_i x;first|exact goD x m14.p|revert x)));(try focus (repeat (rename_i x;first|exact goD x m15.p|revert x)));(try focus (repeat (rename_i x;first|exact goD x m16.p|revert x)))) (e:GoTs A1 A2 A3 A4 A5 A6 A7 A8 A9 A10 A11 A12 A13 A14 A15 A16:=by constructor<;>first|(with_reducible exact GoT.t)|exact GoT.u):G:=p.run h
theorem goT1e {G A1 A2 A3 A4 A5 A6 A7 A8 A9 A10 A11 A12 A13 A14 A15 A16:Prop} (p:GoP A1 A2 A3 A4 A5 A6 A7 A8 A9 A10 A11 A12 A13 A14 A15 A16) (h:GoL A1→GoL A2→GoL A3→GoL A4→GoL A5→GoL A6→GoL A7→GoL A8→GoL A9→GoL A10→GoL A11→GoL A12→GoL A13→GoL A14→GoL A15→GoL A16→GoM→G:=by intro m1 m2 m3 m4 m5 m6 m7 m8 m9 m10 m11 m12 m13 m14 m15 m16 _;(repeat' (first|((with_reducible apply oq_id);first|((with_reducible apply oq_call (hc:=Tryz.call75));exact rfl;exact rfl;exact fun D w1 hw1=>sameInts_calls A A' n c n' c' l l true (by simp) w1 (hr.ext hw1.ext.ext) (hr'.ext hw1.ext.ext) hn hn')|((with_reducible apply oq_call (hc:=Tryz.call15));exact rfl;exact rfl;exact fun D w1 hw1=>HG w1 hw1.ext.ext)|(focus ((with_reducible apply oq_indexAddrN);(iterate 4 exact rfl);omega))|(apply oq_fn;exact rfl;first|exact trivial|(constructor<;>omega)|omega|skip)|((with_reducible apply oq_load);exact rfl;exact rfl)|((with_reducible apply oq_loadAgg);exact rfl;exact rfl))|((with_reducible apply tl_id);first|(with_reducible apply tl_nil)|((with_reducible apply u_q);(iterate 4 exact rfl))|((with_reducible apply u_s);(iterate 3 exact rfl)))|((with_reducible apply gx_id);first|(with_reducible apply v_nil)|((with_reducible apply v_q);(iterate 3 exact rfl)))|((with_reducible apply os_id);first|((with_reducible apply os_x);exact rfl))|((with_reducible apply ox_id);first|((with_reducible apply ox_boxAgg);exact rfl;intro _))|((with_reducible apply rd_id);first|(apply Rd.own;(repeat first|exact P0|apply P1);exact rfl;done)|(apply Rd.old;(first|(with_reducible assumption)|exact c0|exact c1|exact c2|exact c3|exact c4|exact c5|exact c6|exact c7|exact c8|exact d0|exact d1|exact d2|exact d3|exact d4|exact d5);first|exact List.not_mem_nil|exact m0|exact m1|exact m2|exact m3|exact m4|exact m5|exact m6|exact m7|exact m8|exact m9))|((with_reducible apply t_id);first|(with_reducible apply t_seq)|(apply t_region;kernel_rfl)|(apply t_drawn;kernel_rfl;decide +kernel;try simp only [List.append_eq,List.cons_append,List.nil_append])|((with_reducible apply t_condT);exact rfl)|((with_reducible apply t_condD);exact rfl;all_goals first|(intro _;try (exfalso;omega))|skip)|((with_reducible apply t_condN);exact rfl;all_goals first|(intro _;try (exfalso;omega))|skip)|(with_reducible apply t_ret)|(with_reducible apply t_skip)|(with_reducible apply t_exit)|(with_reducible apply t_block))|with_reducible apply q_thenN|with_reducible apply q_thenR|with_reducible apply q_blockR|with_reducible apply q_blockN|with_reducible apply q_thenE|((with_reducible apply q_blockE);exact rfl)|exact Rdn.zero|apply Rdn.succ|(with_reducible apply end_ret)|exact rvs_nil|(with_reducible apply rvs_cons)|((with_reducible apply rv_tmp);exact rfl)));(try focus (repeat (rename_i x;first|exact goD x m1.p|revert x)));(try focus (repeat (rename_i x;first|exact goD x m2.p|revert x)));(try focus (repeat (rename_i x;first|exact goD x m3.p|revert x)));(try focus (repeat (rename_i x;first|exact goD x m4.p|revert x)));(try focus (repeat (rename_i x;first|exact goD x m5.p|revert x)));(try focus (repeat (rename_i x;first|exact goD x m6.p|revert x)));(try focus (repeat (rename_i x;first|exact goD x m7.p|revert x)));(try focus (repeat (rename_i x;first|exact goD x m8.p|revert x)));(try focus (repeat (rename_i x;first|exact goD x m9.p|revert x)));(try focus (repeat (rename_i x;first|exact goD x m10.p|revert x)));(try focus (repeat (rename_i x;first|exact goD x m11.p|revert x)));(try focus (repeat (rename_i x;first|exact goD x m12.p|revert x)));(try focus (repeat (rename_i x;first|exact goD x m13.p|revert x)));(try focus (repeat (rename_i x;first|exact goD x m14.p|revert x)));(try focus (repeat (rename_i x;first|exact goD x m15.p|revert x)));(try focus (repeat (rename_i x;first|exact goD x m16.p|revert x)))) (e:GoTs A1 A2 A3 A4 A5 A6 A7 A8 A9 A10 A11 A12 A13 A14 A15 A16:=by constructor<;>first|(with_reducible exact GoT.t)|exact GoT.u):G:=p.run h
open Go.RowKit
attribute [local irreducible] OQ OS OX Rd T TL GX GL AL AI RV wpG SAny Calls
def wtS (need:Nat→Pl) (cst:Nat×Bool→Int) (q:Int) (g:List (Nat×Bool)):Option Int→Nat×Nat→Option Int
 | none,_=>none
 | some w,x=>match need x.2 with
   | none=>none
   | some a=>match g[x.1]? with
     | none=>some (max w (a.1+q))
     | some y=>if cst y<0 then none else some (max (w+cst y) (a.1+q))
def wtF (need:Nat→Pl) (cst:Nat×Bool→Int) (q:Int) (g:List (Nat×Bool)) {S:List Nat} (l:List (BK S)):Option Int:=l.foldl (fun w x=>wtS need cst q g w x.1) (some 0)
theorem wtF_snoc {need:Nat→Pl} {cst:Nat×Bool→Int} {q:Int} {g:List (Nat×Bool)} {S:List Nat} (l:List (BK S)) (x:BK S):wtF need cst q g (l++[x])=wtS need cst q g (wtF need cst q g l) x.1:=by simp [wtF]
theorem wtF_pre {need:Nat→Pl} {cst:Nat×Bool→Int} {q:Int} {g:List (Nat×Bool)} {S:List Nat} {l k:List (BK S)} (h:l <+: k) (hn:wtF need cst q g l=none):wtF need cst q g k=none:=by
 obtain ⟨r,rfl⟩:=h
 unfold wtF at *
 rw [List.foldl_append,hn]
 induction r with
 | nil=>rfl
 | cons a r ih=>exact ih
theorem wtF_lb {need:Nat→Pl} {cst:Nat×Bool→Int} {q:Int} {g:List (Nat×Bool)} {S:List Nat}:∀ k,k≤S.length→wtF need cst q g (bkw S k)=lbF need cst q (S.drop (S.length-k)) (g.drop (S.length-k))
 | 0,_=>by rw [Nat.sub_zero,List.drop_length];rfl
 | k+1,h=>by
   obtain ⟨s,hs⟩:∃ s,S[S.length-1-k]?=some s:=⟨_,List.getElem?_eq_getElem (by omega)⟩
   rw [bkw_succ hs,wtF_snoc,wtF_lb k (by omega)]
   have e:S.length-(k+1)=S.length-1-k:=by omega
   rw [e,List.drop_eq_getElem_cons (show S.length-1-k<S.length by omega),(List.getElem?_eq_some_iff.1 hs).2]
   have e2:S.length-1-k+1=S.length-k:=by omega
   simp only [lbF,List.tail_drop]
   rw [e2]
   cases lbF need cst q (S.drop (S.length-k)) (g.drop (S.length-k)) with
   | none=>rfl
   | some w=>
     simp only [wtS]
     cases need s with
     | none=>rfl
     | some a=>
       simp only
       rcases Nat.lt_or_ge (S.length-1-k) g.length with hlt|hge
       · rw [List.drop_eq_getElem_cons hlt,List.getElem?_eq_getElem hlt]
       · rw [List.drop_of_length_le hge,List.getElem?_eq_none hge]
noncomputable def lstE (m:Nat) (L:List Lg) (T:List Bool) (v q1 q2 q3 q4:Int) (g0 g1:Nat) (C:List Wn) (p:Trp):Int×Int:=(match lbF (fun s=>(plansF (arcs (legC v q1 q2 q3 g0 g1 C) L) m (fun s=>T.getD s false) m).getD s none) (flC v q1 q2 q3 g0 g1 C L) q4 p.2 p.1 with|none=>(0,6)|some t=>if t > 1099511627776 then (0,6) else (t,0))
def FunV (A:Option Addr) (n c:Nat) (u:Value) (H:Hp):Prop:=∃ b,u=.func (.func 115) #[] #[.pointer (some ⟨b,0,none⟩)]∧H=[(b,[.slice A n c],some (31,1,1))]
theorem back80_calls (A:Option Addr) (n c:Nat) (w:World):Calls Tryz.prog 80 #[.slice A n c] w fun e w'=>∃ u H',e=.returned u∧FunV A n c u H'∧Has w ⟨[],[]⟩ H' w':=by
 refine enterF (c:=cx w 4) Tryz.func80 rfl rfl rfl rfl ?_
 ((all_goals refine gqO0 ?_);(all_goals constructor);(any_goals exact trivial);all_goals intros)
 all_goals (rename_i b;exact ⟨_,⟨b,rfl,rfl⟩,HpSub.refl _⟩)
theorem sub_left {A B G:Hp} (h:HpSub A G):HpSub (A++B) G:=HpSub.tr HpSub.appLeft h
theorem Has.noD {w0:World} {X D:List Nat} {H:Hp} {W:World} (h:Has w0 ⟨X,D⟩ H W):Has w0 ⟨X,[]⟩ H W:=⟨h.ext,h.blk,h.nodup,List.nodup_nil,fun k hk=>(List.not_mem_nil hk).elim⟩
theorem least31_ok (AM A:Option Addr) (m cM n cp:Nat) (L:List Lg) (w:World) (hr:RdS w 5 A n (L.map lgCells)) (hn:n≤1000000) (hm:m≤1000000) (v q1 q2 q3 q4:Int) (g0 g1:Nat) (AC:Option Addr) (nC cC:Nat) (C:List Wn) (hrc:CastR w AC nC C) (hs:∀ z∈C,z.n≤1000000) (s:Int) (AR:Option Addr) (nR cR:Nat) (rs:List Int) (hR:RdS w 1 AR nR (rs.map inCells)) (hnR:nR≤1000000) (hE:askE m L v q1 q2 q3 q4 (g0:Nat) (g1:Nat) C=0) (h20:rs.length≤20) (p:Trp) (htr:tripI m L s rs=some p) (T:List Bool) (hT:RdS w 1 AM m (T.map blCells)):Calls Tryz.prog 31 #[.agg #[.slice AM m cM,.slice A n cp],.agg #[.int .i64 v,.int .i64 q1,.int .i64 q2,.int .i64 q3,.int .i64 q4,.int .i64 (g0:Nat),.int .i64 (g1:Nat)],.slice AC nC cC,.int .i64 s,.slice AR nR cR] w fun e w'=>e=.returned (.tuple #[.int .i64 (lstE m L T v q1 q2 q3 q4 g0 g1 C p).1,.int .i64 (lstE m L T v q1 q2 q3 q4 g0 g1 C p).2])∧Ext w w':=by
 have HO:=fun w1 (hx:Ext w w1)=>travel_ok AM A m cM n cp L w1 (hr.ext hx) hn hm v q1 q2 q3 q4 g0 g1 AC nC cC C (hrc.ext hx) hs s AR nR cR rs (hR.ext hx) hnR hE h20
 rw [htr] at HO
 obtain ⟨hch,hpk,hk0⟩:=askE_ok hE
 obtain ⟨hcl,hcw⟩:=castE_zero.1 hk0
 have hlc:=hrc.len
 obtain ⟨hm1,hL40,hLk⟩:=chartB_iff.1 hch
 have hl:L.length=n:=by simpa using hr.len
 have hTI:=trip_in hLk htr
 have HA:=fun bD bM E w1 (hx:Ext w w1) hd hE2=>alternates_calls bD bM AM A m cM n cp L v q1 q2 q3 q4 g0 g1 E C w1 hd hE2 (hr.ext hx) (by omega) (by omega) hLk hpk hcw (by omega) T (hT.ext hx)
 have hbd:=fun s a (h:(plansF (arcs (legC v q1 q2 q3 g0 g1 C) L) m (fun s=>T.getD s false) m).getD s none=some a)=>need_bound hpk hcw hLk (by omega) h
 obtain ⟨hg1,hg2,hg3,hg4⟩:=hTI
 have hleg:∀ (i:Nat) (x:Nat×Bool),p.1[i]?=some x→∃ z,L[x.1]?=some z:=fun i x hx=>by
   have hi:=(List.getElem?_eq_some_iff.1 hx).1
   obtain ⟨r',hr'⟩:∃ r',rs[i]?=some r':=⟨_,List.getElem?_eq_getElem (by omega)⟩
   obtain ⟨z,t,bk,_,_,e1,_,e3,_⟩:=hg4 i r' hr'
   rw [hx] at e1
   obtain rfl:=Option.some.inj e1
   exact ⟨z,e3⟩
 obtain ⟨_,_,_,_,p5,_⟩:=id hpk
 unfold lstE
 have hWL:=wtF_lb (need:=(fun s=>(plansF (arcs (legC v q1 q2 q3 g0 g1 C) L) m (fun s=>T.getD s false) m).getD s none)) (cst:=(flC v q1 q2 q3 g0 g1 C L)) (q:=q4) (g:=p.1) (S:=p.2) p.2.length (Nat.le_refl _)
 rw [Nat.sub_self,List.drop_zero,List.drop_zero] at hWL
 rw [← hWL]
 refine enterQ (c:=cx w 89) Tryz.func31 rfl rfl rfl rfl ?_
 repeat' (first|((with_reducible apply oq_id);first|((with_reducible apply oq_neqF);exact rfl;exact rfl;omega)|(apply oq_fn;exact rfl;first|exact trivial|(constructor<;>omega)|omega|skip)|((with_reducible apply oq_load);exact rfl;exact rfl)|((with_reducible apply oq_loadAgg);exact rfl;exact rfl))|((with_reducible apply tl_id);first|(with_reducible apply tl_nil)|((with_reducible apply u_s);(iterate 3 exact rfl);(with_reducible apply os_callS (PV:=TravV AM _ m cM n cp v q1 q2 q3 q4 g0 g1 C L (some p)) (hc:=Tryz.call57));exact rfl;exact rfl;exact fun D w1 hw1=>HO w1 hw1.ext.ext;rintro _ _ ⟨bT,bD,bM,bS,cS,E,o,rfl,ho,rfl,hE2,hnl⟩;simp only [TrvH,dkH,List.cons_append,List.nil_append])|((with_reducible apply u_s);(iterate 3 exact rfl);(with_reducible apply os_callS (PV:=PlansV _ m) (hc:=Tryz.call74));exact rfl;exact rfl;exact fun D w1 hw1=>HA bD bM E w1 hw1.ext.ext (DskR.of_has (hw1.sub (by unfold dkH;repeat (first|exact HpSub.refl _|apply HpSub.skipX|apply HpSub.skipApp))) hnl) hE2;rintro _ _ ⟨l,P,g,c,hlp,hlP,rfl,rfl⟩;simp only [List.cons_append,List.nil_append])|((with_reducible apply u_s);(iterate 3 exact rfl);(with_reducible apply os_callF (PV:=FunV (some ⟨bS,0,none⟩) p.2.length cS) (hc:=Tryz.call80));exact rfl;exact rfl;exact fun D w1 hw1=>back80_calls _ _ _ w1;rintro _ _ ⟨bB,rfl,rfl⟩;simp only [List.cons_append,List.nil_append])|((with_reducible apply u_q);(iterate 4 exact rfl))|((with_reducible apply u_s0);exact rfl;exact rfl)|((with_reducible apply u_s);(iterate 3 exact rfl)))|((with_reducible apply os_id);first|((with_reducible apply os_x);exact rfl)|((with_reducible apply os_store);(iterate 4 exact rfl)))|((with_reducible apply ox_id);first|((with_reducible apply ox_alloc);exact rfl;intro _)|((with_reducible apply ox_boxAgg);exact rfl;intro _))|((with_reducible apply rd_id);first|(apply Rd.own;(repeat first|exact P0|apply P1);exact rfl;done))|((with_reducible apply t_id);first|(with_reducible apply t_seq)|(apply t_region;kernel_rfl)|((with_reducible apply t_condF);exact rfl)|(with_reducible apply t_skip)|(with_reducible apply t_block))|with_reducible apply q_thenN|exact P0|exact Rdn.zero|apply Rdn.succ|((with_reducible apply Norm.nil);exact rfl)|((with_reducible apply Norm.cons);exact rfl)|exact Nat.le_of_ble_eq_true rfl)
 rename_i b5 b6 b10 b11 b12 b14 b15
 have hll:l.length=m:=by have:=congrArg List.length hlp;simpa [plansF_len] using this
 refine t_rangeM 78 (m:=1) (N:=p.2.length) (α:=BK p.2) (β:=Unit) (κ:=Unit) (ι:=Int) (S:=fun xs=>xs=bkw p.2 p.2.length) (Sp:=fun pre=>pre <+: bkw p.2 p.2.length)
   (encs:=fun x=>[.int .i64 (x.1.1:Nat),.int .i64 (x.1.2:Nat)])
   (hk:=(bB,[.slice (some ⟨bS,0,none⟩) p.2.length cS],some (31,1,1))::(b14,[.slice (some ⟨g,0,none⟩) m c],some (132,1,1))::(b12,[.pointer (some ⟨bT,0,none⟩)],some (112,1,1))::(b6,[.int .i64 v,.int .i64 q1,.int .i64 q2,.int .i64 q3,.int .i64 q4,.int .i64 (g0:Nat),.int .i64 (g1:Nat)],some (29,7,1))::(bT,[.pointer (some ⟨bD,0,none⟩),.slice (some ⟨bS,0,none⟩) p.2.length cS,flS p.1 o],some (147,3,1))::(bS,(cI p.2).map iv,some (3,1,cS))::((flH p.1 o++((bD,dkC AM A m cM n cp v q1 q2 q3 q4 (g0:Nat) (g1:Nat) bM,some (172,10,1))::(bM,[],mapTg 170 (enM E))::enH E))++((g,(l.map pnCells).flatten,some (131,3,c))::poolH P)))
   (fun z=>[(b15,[.int .i64 z],some (3,1,1)),(b10,[.int .i64 0],some (3,1,1)),(b11,[.int .i64 0],some (35,1,1))]) (fun pre z=>wtF (fun s=>(plansF (arcs (legC v q1 q2 q3 g0 g1 C) L) m (fun s=>T.getD s false) m).getD s none) (flC v q1 q2 q3 g0 g1 C L) q4 p.1 pre=some z∧0≤z∧z≤4000000000000+(pre.length:Int)*166666666667) (fun x b=>[])
   (fun x b=>[(16,.int .i64 (x.1.1:Nat)),(17,.int .i64 (x.1.2:Nat)),(6,.pointer (some ⟨b6,0,none⟩)),(10,.pointer (some ⟨b10,0,none⟩)),(11,.pointer (some ⟨b11,0,none⟩)),(12,.pointer (some ⟨b12,0,none⟩)),(14,.pointer (some ⟨b14,0,none⟩)),(15,.pointer (some ⟨b15,0,none⟩))]) (fun _=>[(b10,[.int .i64 0],some (3,1,1)),(b11,[.int .i64 6],some (35,1,1))]) (fun k pre _=>k=.ret∧wtF (fun s=>(plansF (arcs (legC v q1 q2 q3 g0 g1 C) L) m (fun s=>T.getD s false) m).getD s none) (flC v q1 q2 q3 g0 g1 C L) q4 p.1 pre=none) 0 rfl Tryz.call115 ?seq ⟨rfl,Int.le_refl _,by simp only [List.length_nil];omega⟩ ?sub ?ok ?nt ?done ?stop
 case sub=>
   simp only [List.cons_append,List.nil_append]
   (repeat' (first|exact HpSub.refl _|(apply HpSub.consE;(repeat first|exact P0|apply P1);first|exact rfl|(simp;done)|skip)|apply HpSub.skipX))
 case nt=>
   intro x b z
   exact (TyO.cons (TyO.cons (TyO.cons TyO.nil))).noT
 case seq=>
   intro D w1 hw1
   refine back_stops Fence.wide 2 trivial rfl (by omega) bB (some ⟨bS,0,none⟩) p.2.length cS p.2 (by omega) _ (.inr (by simp)) (fun h0 b o h=>.inr (by cases h;simp)) w1 ⟨?_,?_⟩
   · exact in_rows1 (by simp [cI]) hw1 (by (repeat first|exact P0|apply P1))
   · exact hw1.cellAt (by (repeat first|exact P0|apply P1)) rfl
 case ok=>
   refine ⟨fun _=>rfl,rfl,fun x W=>?_,fun x b i k W D hb hw _ y hy=>(by cases hy),fun l' pre x z b W D hi hw hlt' hl'=>?_,fun x b=>NoM.nil,fun z=>(TyO.cons (e:=0) (TyO.cons (TyO.cons TyO.nil))).noM,fun _=>(TyO.cons (e:=0) (TyO.cons TyO.nil)).noM⟩
   · refine sl0_seq (sl0_region (by kernel_rfl) ?_)
     ((all_goals refine gqO0 ?_);(all_goals constructor);(any_goals exact trivial);all_goals intros)
     refine sl0_region (by kernel_rfl) ?_
     repeat' (first|((with_reducible apply oq_id);first|(apply oq_fn;exact rfl;first|exact trivial|(constructor<;>omega)|omega|skip))|((with_reducible apply tl_id);first|(with_reducible apply tl_nil)|((with_reducible apply u_q);(iterate 4 exact rfl))))
     refine ⟨(),?_,?_⟩
     · (repeat first|exact FrSub.nil|(apply FrSub.cons;exact rfl))
     · exact HpSub.nil
   · obtain ⟨⟨i,s⟩,hxs⟩:=x
     obtain ⟨hi1,hi2,hi3⟩:=hi
     simp only at hxs
     have hil:=(List.getElem?_eq_some_iff.1 hxs).1
     have hsm:=hg3 s (List.mem_of_getElem? hxs)
     obtain ⟨y,hyl⟩:∃ y,l[s]?=some y:=⟨_,List.getElem?_eq_getElem (by omega)⟩
     have hyp:=getD_map hlp hyl
     have hst:=wtF_snoc (need:=(fun s=>(plansF (arcs (legC v q1 q2 q3 g0 g1 C) L) m (fun s=>T.getD s false) m).getD s none)) (cst:=(flC v q1 q2 q3 g0 g1 C L)) (q:=q4) (g:=p.1) pre ⟨(i,s),hxs⟩
     rw [hi1] at hst
     simp only [wtS] at hst
     have hoff:=fun b (hb:b∈(((bB,[.slice (some ⟨bS,0,none⟩) p.2.length cS],some (31,1,1))::(b14,[.slice (some ⟨g,0,none⟩) m c],some (132,1,1))::(b12,[.pointer (some ⟨bT,0,none⟩)],some (112,1,1))::(b6,[.int .i64 v,.int .i64 q1,.int .i64 q2,.int .i64 q3,.int .i64 q4,.int .i64 (g0:Nat),.int .i64 (g1:Nat)],some (29,7,1))::(bT,[.pointer (some ⟨bD,0,none⟩),.slice (some ⟨bS,0,none⟩) p.2.length cS,flS p.1 o],some (147,3,1))::(bS,(cI p.2).map iv,some (3,1,cS))::((flH p.1 o++((bD,dkC AM A m cM n cp v q1 q2 q3 q4 (g0:Nat) (g1:Nat) bM,some (172,10,1))::(bM,[],mapTg 170 (enM E))::enH E))++((g,(l.map pnCells).flatten,some (131,3,c))::poolH P))):Hp).map Prod.fst)=>hw.off (X:=[]++[(b15,[.int .i64 z],some (3,1,1)),(b10,[.int .i64 0],some (3,1,1)),(b11,[.int .i64 0],some (35,1,1))]) hb
     have HFx:=fun (t:Nat) (bk:Bool) (zt:Lg) (hz:L[t]?=some zt) D1 w1 H1 (h1:Has W ⟨(([]++[(b15,[.int .i64 z],some (3,1,1)),(b10,[.int .i64 0],some (3,1,1)),(b11,[.int .i64 0],some (35,1,1))]):Hp).map Prod.fst,D1⟩ H1 w1)=>(by
       have h2:=hw.comp2 h1.noD
       exact fuel_calls bD bM AM A m cM n cp v q1 q2 q3 q4 g0 g1 E C L t zt bk w1 (DskR.of_has (h2.sub (HpSub.skipApp (by unfold dkH;(repeat apply HpSub.skipX);exact sub_left (HpSub.skipApp (HpSub.refl _))))) hnl) hE2 (hr.ext h2.ext.ext) (by omega) (by have:=(List.getElem?_eq_some_iff.1 hz).1;omega) hz (hLk zt (List.mem_of_getElem? hz)) hpk hcw (by omega))
     have hwk:=hw.sub (HpSub.skipApp (HpSub.refl _))
     have c0:W.cell? ⟨b12,0,none⟩=some (.pointer (some ⟨bT,0,none⟩)):=hwk.cellAt (by (repeat (first|exact P0|(with_reducible apply pick_app)|(with_reducible apply P1)))) rfl
     have c1:W.cell? ⟨b14,0,none⟩=some (.slice (some ⟨g,0,none⟩) m c):=hwk.cellAt (by (repeat (first|exact P0|(with_reducible apply pick_app)|(with_reducible apply P1)))) rfl
     have c2:W.cell? ⟨b6,0+4,none⟩=some (.int .i64 q4):=hwk.cellAt (by (repeat (first|exact P0|(with_reducible apply pick_app)|(with_reducible apply P1)))) rfl
     have c3:W.cell? ⟨bT,0,none⟩=some (.pointer (some ⟨bD,0,none⟩)):=hwk.cellAt (by (repeat (first|exact P0|(with_reducible apply pick_app)|(with_reducible apply P1)))) rfl
     have c4:W.cell? ⟨bT,0+2,none⟩=some (flS p.1 o):=hwk.cellAt (by (repeat (first|exact P0|(with_reducible apply pick_app)|(with_reducible apply P1)))) rfl
     have c6:W.cell? ⟨g,0+s*3,none⟩=some (.int .i64 (plF y.p)):=hwk.cellAt (by (repeat (first|exact P0|(with_reducible apply pick_app)|(with_reducible apply P1)))) (pn_at hyl).1
     have c8:W.cell? ⟨g,0+s*3+2,none⟩=some (.bool y.p.isNone):=hwk.cellAt (by (repeat (first|exact P0|(with_reducible apply pick_app)|(with_reducible apply P1)))) (pn_at hyl).2.2
     have m0:=hoff b12 (by simp)
     have m1:=hoff b14 (by simp)
     have m2:=hoff b6 (by simp)
     have m3:=hoff bT (by simp)
     have m4:=hoff g (by simp)
     have hfl:∃ AG cG,flS p.1 o=.slice AG p.1.length cG∧∀ t bk,p.1[i]?=some (t,bk)→∃ bG,AG=some ⟨bG,0,none⟩∧W.cell? ⟨bG,0+i*2,none⟩=some (.int .i64 (t:Nat))∧W.cell? ⟨bG,0+i*2+1,none⟩=some (.bool bk)∧bG∉(([]++[(b15,[.int .i64 z],some (3,1,1)),(b10,[.int .i64 0],some (3,1,1)),(b11,[.int .i64 0],some (35,1,1))]):Hp).map Prod.fst:=by
       rcases o with _|⟨bL,cL⟩
       · have e:=ho rfl
         exact ⟨none,0,by rw [e];rfl,fun t bk h=>by rw [e] at h;cases h⟩
       · refine ⟨some ⟨bL,0,none⟩,cL,rfl,fun t bk h=>⟨bL,rfl,?_⟩⟩
         have hrg:RdS W 2 (some ⟨bL,0,none⟩) p.1.length (p.1.map flCells):=fl_own hwk (by (repeat (first|exact P0|(with_reducible apply pick_app)|(with_reducible apply P1))))
         obtain ⟨b',o',t',bk',e1,e2,e3,e4⟩:=fl_read hrg (List.getElem?_eq_some_iff.1 h).1
         cases e1
         rw [h] at e2
         obtain ⟨rfl,rfl⟩:=Prod.mk.inj (Option.some.inj e2)
         exact ⟨e3,e4,hoff bL (by simp [flH])⟩
     obtain ⟨AG,cG,hAG,hAG2⟩:=hfl
     rw [hAG] at c4
     have hb0:=fun a (h:y.p=some a)=>hbd s a (hyp.trans h)
     obtain ⟨yp,yA,yn,yc⟩:=y
     simp only at hyp c6 c8 hb0
     rw [hyp] at hst
     simp only [List.cons_append,List.nil_append]
     rcases yp with _|a
     · simp only at hst
       repeat' (first|((with_reducible apply oq_id);first|(focus ((with_reducible apply oq_indexAddrN (i:=s));(iterate 4 exact rfl);omega))|(apply oq_fn;exact rfl;first|exact trivial|(constructor<;>omega)|omega|skip)|((with_reducible apply oq_load);exact rfl;exact rfl))|((with_reducible apply tl_id);first|(with_reducible apply tl_nil)|((with_reducible apply u_q);(iterate 4 exact rfl))|((with_reducible apply u_s0);exact rfl;exact rfl))|((with_reducible apply os_id);first|((with_reducible apply os_store);(iterate 4 exact rfl)))|((with_reducible apply rd_id);first|(apply Rd.old;(first|(with_reducible assumption)|exact c0|exact c1|exact c2|exact c3|exact c4|exact c5|exact c6|exact c7|exact c8|exact d0|exact d1|exact d2|exact d3|exact d4|exact d5);first|exact List.not_mem_nil|exact m0|exact m1|exact m2|exact m3|exact m4|exact m5|exact m6|exact m7|exact m8|exact m9))|((with_reducible apply t_id);first|(with_reducible apply t_seq)|(apply t_region;kernel_rfl)|((with_reducible apply t_condT);exact rfl)|(with_reducible apply t_ret)|(with_reducible apply t_block))|with_reducible apply q_thenN|with_reducible apply q_thenR|with_reducible apply q_blockR|exact P0|(with_reducible apply P1)|((with_reducible apply Norm.nil);exact rfl)|((with_reducible apply Norm.cons);exact rfl)|exact Nat.le_of_ble_eq_true rfl)
       all_goals (refine ⟨(),⟨rfl,hst⟩,?_⟩;(repeat' (first|exact HpSub.refl _|(apply HpSub.consE;(repeat first|exact P0|apply P1);first|exact rfl|(simp;done)|skip)|apply HpSub.skipX)))
     obtain ⟨ha0,ha1,_⟩:=hb0 a rfl
     simp only at hst
     rcases hgi:p.1[i]? with _|⟨t,bk⟩
     · have hge:p.1.length≤i:=List.getElem?_eq_none_iff.1 hgi
       rw [hgi] at hst
       simp only at hst
       repeat' (first|((with_reducible apply oq_id);first|(focus ((with_reducible apply oq_indexAddrN (i:=s));(iterate 4 exact rfl);omega))|(focus ((with_reducible apply (oq_addE (m:=a.1) (n:=q4) (k:=a.1+q4)));exact rfl;exact rfl;omega))|(focus ((with_reducible apply (oq_max2E (k:=max z (a.1+q4))));exact rfl;exact rfl;rfl))|((with_reducible apply oq_lssF);exact rfl;exact rfl;omega)|(apply oq_fn;exact rfl;first|exact trivial|(constructor<;>omega)|omega|skip)|((with_reducible apply oq_load);exact rfl;exact rfl))|((with_reducible apply tl_id);first|(with_reducible apply tl_nil)|((with_reducible apply u_q);(iterate 4 exact rfl)))|((with_reducible apply gx_id);first|(with_reducible apply v_nil)|((with_reducible apply v_q);(iterate 3 exact rfl)))|((with_reducible apply os_id);first|((with_reducible apply os_store);(iterate 4 exact rfl)))|((with_reducible apply ai_id);first|((with_reducible apply ai_s0);(iterate 4 exact rfl)))|((with_reducible apply rd_id);first|(apply Rd.own;(repeat first|exact P0|apply P1);exact rfl;done)|(apply Rd.old;(first|(with_reducible assumption)|exact c0|exact c1|exact c2|exact c3|exact c4|exact c5|exact c6|exact c7|exact c8|exact d0|exact d1|exact d2|exact d3|exact d4|exact d5);first|exact List.not_mem_nil|exact m0|exact m1|exact m2|exact m3|exact m4|exact m5|exact m6|exact m7|exact m8|exact m9))|((with_reducible apply t_id);first|(apply t_mix (id:=16) [0,1,2,3,4,5,6,7,8,9] 1 #[false,false,false,false,false,false,false,false,false,false,true];kernel_rfl;kernel_rfl;exact rfl)|(with_reducible apply t_seq)|(apply t_region;kernel_rfl)|((with_reducible apply t_condF);exact rfl)|(with_reducible apply t_skip)|(with_reducible apply t_block))|with_reducible apply q_thenN|with_reducible apply q_blockN|exact P0|((with_reducible apply Norm.nil);exact rfl)|((with_reducible apply Norm.cons);exact rfl)|((with_reducible apply al_id);first|(apply al_done;decide +kernel)|(apply al_one 10;decide +kernel))|exact Nat.le_of_ble_eq_true rfl)
       all_goals (refine ⟨max z (a.1+q4),⟨hst,by omega,by simp only [List.length_append,List.length_singleton];omega⟩,?_⟩;(repeat' (first|exact HpSub.refl _)))
     have hlt:=(List.getElem?_eq_some_iff.1 hgi).1
     obtain ⟨bG,rfl,e0,e1,m5⟩:=hAG2 t bk hgi
     obtain ⟨zt,hz⟩:=hleg i (t,bk) hgi
     have HFx:=HFx t bk zt hz
     unfold fuelV at HFx
     have hcb:=(legC_le hcw hpk (hLk zt (List.mem_of_getElem? hz)) bk).1
     rw [hgi] at hst
     simp only at hst
     rw [show (flC v q1 q2 q3 g0 g1 C L) (t,bk)=legC v q1 q2 q3 g0 g1 C zt bk by unfold flC;rw [hz]] at hst
     by_cases hop:legC v q1 q2 q3 g0 g1 C zt bk<0
     · rw [if_pos hop] at hst
       simp only [if_neg (show ¬ 0≤legC v q1 q2 q3 g0 g1 C zt bk by omega),decide_eq_false (show ¬ 0≤legC v q1 q2 q3 g0 g1 C zt bk by omega)] at HFx
       repeat' (first|((with_reducible apply oq_id);first|(focus ((with_reducible apply oq_indexAddrN (i:=s));(iterate 4 exact rfl);omega))|(focus ((with_reducible apply oq_indexAddrN (i:=i));(iterate 4 exact rfl);omega))|((with_reducible apply oq_lssT);exact rfl;exact rfl;omega)|(apply oq_fn;exact rfl;first|exact trivial|(constructor<;>omega)|omega|skip)|((with_reducible apply oq_load);exact rfl;exact rfl)|((with_reducible apply oq_loadAgg);exact rfl;exact rfl)|((with_reducible apply oq_call (hc:=Tryz.call81));exact rfl;exact rfl;exact fun D w1 hw1=>HFx D w1 _ hw1))|((with_reducible apply tl_id);first|(with_reducible apply tl_nil)|((with_reducible apply u_q);(iterate 4 exact rfl))|((with_reducible apply u_s0);exact rfl;exact rfl))|((with_reducible apply gx_id);first|(with_reducible apply v_nil)|((with_reducible apply v_q);(iterate 3 exact rfl)))|((with_reducible apply os_id);first|((with_reducible apply os_store);(iterate 4 exact rfl)))|((with_reducible apply rd_id);first|(apply Rd.old;(first|(with_reducible assumption)|exact c0|exact c1|exact c2|exact c3|exact c4|exact c5|exact c6|exact c7|exact c8|exact d0|exact d1|exact d2|exact d3|exact d4|exact d5);first|exact List.not_mem_nil|exact m0|exact m1|exact m2|exact m3|exact m4|exact m5|exact m6|exact m7|exact m8|exact m9))|((with_reducible apply t_id);first|(with_reducible apply t_seq)|(apply t_region;kernel_rfl)|(apply t_drawn;kernel_rfl;decide +kernel;try simp only [List.append_eq,List.cons_append,List.nil_append])|((with_reducible apply t_condT);exact rfl)|((with_reducible apply t_condF);exact rfl)|(with_reducible apply t_ret)|(with_reducible apply t_skip)|(with_reducible apply t_block))|with_reducible apply q_thenN|with_reducible apply q_thenR|with_reducible apply q_blockR|exact P0|(with_reducible apply P1)|exact Rdn.zero|apply Rdn.succ|((with_reducible apply Norm.nil);exact rfl)|((with_reducible apply Norm.cons);exact rfl)|exact Nat.le_of_ble_eq_true rfl)
       all_goals (refine ⟨(),⟨rfl,hst⟩,?_⟩;(repeat' (first|exact HpSub.refl _|(apply HpSub.consE;(repeat first|exact P0|apply P1);first|exact rfl|(simp;done)|skip)|apply HpSub.skipX)))
     rw [if_neg hop] at hst
     simp only [if_pos (show 0≤legC v q1 q2 q3 g0 g1 C zt bk by omega),decide_eq_true (show 0≤legC v q1 q2 q3 g0 g1 C zt bk by omega)] at HFx
     repeat' (first|((with_reducible apply oq_id);first|(focus ((with_reducible apply oq_indexAddrN (i:=s));(iterate 4 exact rfl);omega))|(focus ((with_reducible apply oq_indexAddrN (i:=i));(iterate 4 exact rfl);omega))|(focus ((with_reducible apply (oq_addE (m:=a.1) (n:=q4) (k:=a.1+q4)));exact rfl;exact rfl;omega))|(focus ((with_reducible apply (oq_addE (k:=z+legC v q1 q2 q3 g0 g1 C zt bk)));exact rfl;exact rfl;omega))|(focus ((with_reducible apply (oq_max2E (k:=max (z+legC v q1 q2 q3 g0 g1 C zt bk) (a.1+q4))));exact rfl;exact rfl;rfl))|((with_reducible apply oq_lssT);exact rfl;exact rfl;omega)|(apply oq_fn;exact rfl;first|exact trivial|(constructor<;>omega)|omega|skip)|((with_reducible apply oq_load);exact rfl;exact rfl)|((with_reducible apply oq_loadAgg);exact rfl;exact rfl)|((with_reducible apply oq_call (hc:=Tryz.call81));exact rfl;exact rfl;exact fun D w1 hw1=>HFx D w1 _ hw1))|((with_reducible apply tl_id);first|(with_reducible apply tl_nil)|((with_reducible apply u_q);(iterate 4 exact rfl))|((with_reducible apply u_s0);exact rfl;exact rfl))|((with_reducible apply gx_id);first|(with_reducible apply v_nil)|((with_reducible apply v_q);(iterate 3 exact rfl)))|((with_reducible apply os_id);first|((with_reducible apply os_store);(iterate 4 exact rfl)))|((with_reducible apply ai_id);first|((with_reducible apply ai_s0);(iterate 4 exact rfl)))|((with_reducible apply rd_id);first|(apply Rd.own;(repeat first|exact P0|apply P1);exact rfl;done)|(apply Rd.old;(first|(with_reducible assumption)|exact c0|exact c1|exact c2|exact c3|exact c4|exact c5|exact c6|exact c7|exact c8|exact d0|exact d1|exact d2|exact d3|exact d4|exact d5);first|exact List.not_mem_nil|exact m0|exact m1|exact m2|exact m3|exact m4|exact m5|exact m6|exact m7|exact m8|exact m9))|((with_reducible apply t_id);first|(apply t_mix (id:=16) [0,1,2,3,4,5,6,7,8,9] 1 #[false,false,false,false,false,false,false,false,false,false,true];kernel_rfl;kernel_rfl;exact rfl)|(with_reducible apply t_seq)|(apply t_region;kernel_rfl)|(apply t_drawn;kernel_rfl;decide +kernel;try simp only [List.append_eq,List.cons_append,List.nil_append])|((with_reducible apply t_condT);exact rfl)|((with_reducible apply t_condF);exact rfl)|(with_reducible apply t_skip)|(with_reducible apply t_block))|with_reducible apply q_thenN|with_reducible apply q_blockN|exact P0|exact Rdn.zero|apply Rdn.succ|((with_reducible apply Norm.nil);exact rfl)|((with_reducible apply Norm.cons);exact rfl)|((with_reducible apply al_id);first|(apply al_done;decide +kernel)|(apply al_one 10;decide +kernel))|exact Nat.le_of_ble_eq_true rfl)
     all_goals (refine ⟨max (z+legC v q1 q2 q3 g0 g1 C zt bk) (a.1+q4),⟨hst,by omega,by simp only [List.length_append,List.length_singleton];omega⟩,?_⟩;(repeat' (first|exact HpSub.refl _)))
 case stop=>
   rintro k pre _ hpre ⟨rfl,hno⟩
   rw [wtF_pre hpre hno]
   simp only [List.cons_append,List.nil_append]
   ((all_goals refine gqO0 ?_);(all_goals constructor);(any_goals exact trivial);all_goals intros)
   all_goals rfl
 case done=>
   rintro xs z rfl ⟨hz1,hz2,hz3⟩
   rw [hz1]
   have hbl:=bkw_len p.2 p.2.length
   with_reducible apply q_blockN
   with_reducible apply q_thenN
   simp only [List.cons_append,List.nil_append]
   by_cases hgt:z > 1099511627776
   · simp only [if_pos hgt]
     ((all_goals refine gqU0e ?_);(all_goals constructor);(any_goals exact trivial);all_goals intros)
     all_goals rfl
   · simp only [if_neg hgt]
     ((all_goals refine gqU0e ?_);(all_goals constructor);(any_goals exact trivial);all_goals intros)
     all_goals rfl
end Go.Proofs.YtcjkndjjbjoehaaGreat
namespace Go.Proofs.YtcjkndjjbjoehaaGreat
open Go.RowKit
theorem run_info {P:Program} {w:World} {t:TypeId} {i:TypeInfo} (h:P.info? t=some i):(typeInfo t).run P w=.ok i w:=by
 simp [typeInfo,Sem.run_bind,run_program,Result.andThen,h,Sem.run_pure]
theorem info193:Tryz.prog.info? 193=some Tryz.t193:=by kernel_rfl
theorem meth_ptr {w:World} {n k:Nat} {p:Value} {name:String} (h:∃ m:Method,(Tryz.t193.methods.find? (·.name == name))=some m∧m.path = #[]∧m.func=some (k,true)) :
   (method (n+1) 193 p name).run Tryz.prog w=.ok (k,p) w:=by
 obtain ⟨m,h1,h2,h3⟩:=h
 unfold method
 simp [Sem.run_bind,run_info info193,Result.andThen,h1,h2,h3,follow,Sem.run_pure,receiverAt,run_underlying Tryz.underlying193,Place.get]
theorem run_wrap {P:Program} {w:World} {t:TypeId} {a:Addr} {s m:String}:(Builtin.ssaWrapNilChk_ #[t] t #[.pointer (some a),strVal s,strVal m]).run P w=.ok (.pointer (some a)) w:=rfl
theorem meth_val {w:World} {n k pb:Nat} {v:Value} {name:String} (hv:w.cell? ⟨pb,0,none⟩=some v) (h:∃ m:Method,(Tryz.t193.methods.find? (·.name == name))=some m∧m.path = #[]∧m.func=some (k,false)) :
   (method (n+1) 193 (.pointer (some ⟨pb,0,none⟩)) name).run Tryz.prog w=.ok (k,v) w:=by
 obtain ⟨m,h1,h2,h3⟩:=h
 unfold method
 simp [Sem.run_bind,run_info info193,Result.andThen,h1,h2,h3,follow,Sem.run_pure,receiverAt,run_underlying Tryz.underlying193,Place.get,run_wrap,asAddr,loadVar,Tryz.isAgg197 w,run_load Tryz.prog _ w v hv]
theorem msz (n:Nat):n+Made.depth=(n+99)+1:=by simp [Made.depth]
theorem m_push {w:World} {p:Value}:Meth Tryz.prog w 193 p "Push" 200 p:=by
 unfold Meth
 rw [msz]
 exact meth_ptr ⟨{ name := "Push", sig:=234,path:=#[],func:=some (200,true) },by kernel_rfl,rfl,rfl⟩
theorem m_pop {w:World} {p:Value}:Meth Tryz.prog w 193 p "Pop" 199 p:=by
 unfold Meth
 rw [msz]
 exact meth_ptr ⟨{ name := "Pop", sig:=233,path:=#[],func:=some (199,true) },by kernel_rfl,rfl,rfl⟩
theorem m_len {w:World} {pb:Nat} {v:Value} (hv:w.cell? ⟨pb,0,none⟩=some v):Meth Tryz.prog w 193 (.pointer (some ⟨pb,0,none⟩)) "Len" 197 v:=by
 unfold Meth
 rw [msz]
 exact meth_val hv ⟨{ name := "Len", sig:=230,path:=#[],func:=some (197,false) },by kernel_rfl,rfl,rfl⟩
theorem m_less {w:World} {pb:Nat} {v:Value} (hv:w.cell? ⟨pb,0,none⟩=some v):Meth Tryz.prog w 193 (.pointer (some ⟨pb,0,none⟩)) "Less" 198 v:=by
 unfold Meth
 rw [msz]
 exact meth_val hv ⟨{ name := "Less", sig:=192,path:=#[],func:=some (198,false) },by kernel_rfl,rfl,rfl⟩
theorem m_swap {w:World} {pb:Nat} {v:Value} (hv:w.cell? ⟨pb,0,none⟩=some v):Meth Tryz.prog w 193 (.pointer (some ⟨pb,0,none⟩)) "Swap" 201 v:=by
 unfold Meth
 rw [msz]
 exact meth_val hv ⟨{ name := "Swap", sig:=231,path:=#[],func:=some (201,false) },by kernel_rfl,rfl,rfl⟩
end Go.Proofs.YtcjkndjjbjoehaaGreat
namespace Go.Proofs.YtcjkndjjbjoehaaGreat
abbrev Rc:=Int×Nat
def key (l:List Rc) (i:Nat):Int:=((l[i]?).map Prod.fst).getD 0
theorem key_of {l:List Rc} {i:Nat} {x:Rc} (h:l[i]?=some x):key l i=x.1:=by simp [key,h]
def swp (l:List Rc) (i j:Nat):List Rc:=match l[i]?,l[j]? with
 | some x,some y=>(l.set i y).set j x
 | _,_=>l
theorem swp_of {l:List Rc} {i j:Nat} {x y:Rc} (hx:l[i]?=some x) (hy:l[j]?=some y):swp l i j=(l.set i y).set j x:=by simp [swp,hx,hy]
theorem swp_len (l:List Rc) (i j:Nat):(swp l i j).length=l.length:=by
 unfold swp
 split<;>simp
theorem swp_perm (l:List Rc) (i j:Nat):(swp l i j).Perm l:=by
 cases hx:l[i]? with
 | none=>simp [swp,hx]
 | some x=>
   cases hy:l[j]? with
   | none=>simp [swp,hx,hy]
   | some y=>
     rw [swp_of hx hy]
     obtain ⟨hi,rfl⟩:=List.getElem?_eq_some_iff.1 hx
     obtain ⟨hj,rfl⟩:=List.getElem?_eq_some_iff.1 hy
     rw [List.perm_iff_count]
     intro a
     have e:(l.set i l[j])[j]'(by simpa using hj)=l[j]:=by simp [List.getElem_set]
     rw [List.count_set (by simpa using hj),List.count_set hi,e]
     have h1:(if (l[i] == a)=true then 1 else 0)≤l.count a:=by
       split
       · rename_i h
         rw [← eq_of_beq h]
         exact List.count_pos_iff.2 (List.getElem_mem hi)
       · exact Nat.zero_le _
     generalize (if (l[i] == a)=true then 1 else 0)=A at *
     generalize (if (l[j] == a)=true then 1 else 0)=B at *
     omega
theorem swp_key {l:List Rc} {i j:Nat} (hi:i<l.length) (hj:j<l.length) (k:Nat):key (swp l i j) k=if k=j then key l i else if k=i then key l j else key l k:=by
 have hx:l[i]?=some l[i]:=List.getElem?_eq_getElem hi
 have hy:l[j]?=some l[j]:=List.getElem?_eq_getElem hj
 rw [swp_of hx hy]
 unfold key
 rw [List.getElem?_set,List.getElem?_set]
 by_cases h1:j=k
 · subst h1;simp [hj,hx]
 · by_cases h2:i=k
   · subst h2
     simp [h1,hi,hy,Ne.symm h1]
   · simp [h1,h2,Ne.symm h1,Ne.symm h2]
def Hord (l:List Rc) (n:Nat):Prop:=∀ k,0<k→k<n→key l ((k-1) / 2)≤key l k
theorem Hord.min {l:List Rc} {n:Nat} (h:Hord l n):∀ k,k<n→key l 0≤key l k:=by
 intro k
 induction k using Nat.strongRecOn with
 | ind k ih=>
   intro hk
   rcases Nat.eq_zero_or_pos k with rfl|h0
   · exact Int.le_refl _
   · have:=ih ((k-1) / 2) (by omega) (by omega)
     have:=h k h0 hk
     omega
structure UpOk (l:List Rc) (n j:Nat):Prop where
 ord:∀ k,0<k→k<n→k≠j→key l ((k-1) / 2)≤key l k
 skip:∀ k,0<k→k<n→(k-1) / 2=j→0<j→key l ((j-1) / 2)≤key l k
theorem UpOk.done {l:List Rc} {n j:Nat} (u:UpOk l n j) (h:j=0∨key l ((j-1) / 2)≤key l j):Hord l n:=fun k h0 hk=>by
 by_cases e:k=j
 · subst e
   rcases h with h|h
   · omega
   · exact h
 · exact u.ord k h0 hk e
theorem UpOk.step {l:List Rc} {n j:Nat} (u:UpOk l n j) (hn:n=l.length) (hj:j<n) (h0:0<j) (hl:key l j<key l ((j-1) / 2)):UpOk (swp l ((j-1) / 2) j) n ((j-1) / 2):=by
 have hi:(j-1) / 2<l.length:=by omega
 have hj':j<l.length:=by omega
 have K:=swp_key hi hj'
 generalize hp:(j-1) / 2=i at *
 refine ⟨fun k k0 kn ke=>?_,fun k k0 kn ke i0=>?_⟩
 · rw [K,K]
   by_cases e1:k=j
   · subst e1
     rw [hp]
     simp only [if_true]
     rw [if_neg (by omega)]
     omega
   · rw [if_neg e1,if_neg ke]
     by_cases e2:(k-1) / 2=j
     · rw [if_pos e2]
       have:=u.skip k k0 kn e2 h0
       rw [hp] at this
       exact this
     · rw [if_neg e2]
       by_cases e3:(k-1) / 2=i
       · rw [if_pos e3]
         have:=u.ord k k0 kn e1
         rw [e3] at this
         omega
       · rw [if_neg e3]
         exact u.ord k k0 kn e1
 · rw [K,K]
   rw [if_neg (by omega),if_neg (by omega)]
   have h1:=u.ord i i0 (by omega) (by omega)
   by_cases e1:k=j
   · rw [if_pos e1];exact h1
   · rw [if_neg e1,if_neg (by omega)]
     have:=u.ord k k0 kn e1
     rw [ke] at this
     omega
structure DnOk (l:List Rc) (n i:Nat):Prop where
 ord:∀ k,0<k→k<n→(k-1) / 2≠i→key l ((k-1) / 2)≤key l k
 skip:∀ k,0<k→k<n→(k-1) / 2=i→0<i→key l ((i-1) / 2)≤key l k
theorem DnOk.done {l:List Rc} {n i:Nat} (u:DnOk l n i) (h:∀ k,0<k→k<n→(k-1) / 2=i→key l i≤key l k):Hord l n:=fun k h0 hk=>by
 by_cases e:(k-1) / 2=i
 · rw [e];exact h k h0 hk e
 · exact u.ord k h0 hk e
theorem DnOk.step {l:List Rc} {n i j:Nat} (u:DnOk l n i) (hn:n≤l.length) (hj:j<n) (h0:0<j) (hp:(j-1) / 2=i) (hm:∀ k,0<k→k<n→(k-1) / 2=i→key l j≤key l k) (hl:key l j<key l i):DnOk (swp l i j) n j:=by
 have hi:i<l.length:=by omega
 have hj':j<l.length:=by omega
 have K:=swp_key hi hj'
 refine ⟨fun k k0 kn ke=>?_,fun k k0 kn ke j0=>?_⟩
 · rw [K,K]
   rw [if_neg ke]
   by_cases e1:k=j
   · rw [if_pos e1,if_pos (by rw [e1];exact hp)];omega
   · rw [if_neg e1]
     by_cases e2:k=i
     · rw [if_pos e2]
       rw [if_neg (by omega)]
       have:=u.skip j h0 hj hp (by omega)
       rw [e2]
       exact this
     · rw [if_neg e2]
       by_cases e3:(k-1) / 2=i
       · rw [if_pos e3];exact hm k k0 kn e3
       · rw [if_neg e3];exact u.ord k k0 kn e3
 · rw [K,K]
   rw [hp,if_neg (by omega),if_pos rfl,if_neg (by omega),if_neg (by omega)]
   have:=u.ord k k0 kn (by omega)
   rw [ke] at this
   exact this
theorem Hord.push {l:List Rc} {x:Rc} (h:Hord l l.length):UpOk (l++[x]) (l.length+1) l.length:=by
 have K:∀ k,k<l.length→key (l++[x]) k=key l k:=fun k hk=>by unfold key;rw [List.getElem?_append_left hk]
 refine ⟨fun k k0 kn ke=>?_,fun k k0 kn ke j0=>by omega⟩
 rw [K _ (by omega),K _ (by omega)]
 exact h k k0 (by omega)
theorem Hord.pop {l:List Rc} {n:Nat} (h:Hord l (n+1)) (hl:l.length=n+1):DnOk (swp l 0 n) n 0:=by
 have K:=swp_key (l:=l) (i:=0) (j:=n) (by omega) (by omega)
 refine ⟨fun k k0 kn ke=>?_,fun k k0 kn ke j0=>by omega⟩
 rw [K,K]
 rw [if_neg (by omega),if_neg ke,if_neg (by omega),if_neg (by omega)]
 exact h k k0 (by omega)
theorem Hord.take {l:List Rc} {n:Nat} (h:Hord l n) (hn:n≤l.length):Hord (l.take n) n:=fun k k0 kn=>by
 have K:∀ k,k<n→key (l.take n) k=key l k:=fun k hk=>by unfold key;rw [List.getElem?_take,if_pos hk]
 rw [K _ (by omega),K _ kn]
 exact h k k0 kn
end Go.Proofs.YtcjkndjjbjoehaaGreat
namespace Go.Proofs.YtcjkndjjbjoehaaGreat
open Go.RowKit
theorem flat_atH {α:Type} {f:α→List Value} {s:Nat} (hf:∀ x,(f x).length=s):∀ {l:List α} {i:Nat} {x:α},l[i]?=some x→∀ {j:Nat} {v:Value},(f x)[j]?=some v→((l.map f).flatten)[i*s+j]?=some v
 | [],i,x,h,_,_,_=>by simp at h
 | y::l,0,x,h,j,v,hv=>by
   obtain rfl:y=x:=by simpa using h
   have hj:=(List.getElem?_eq_some_iff.1 hv).1
   rw [List.map_cons,List.flatten_cons,Nat.zero_mul,Nat.zero_add,List.getElem?_append_left hj]
   exact hv
 | y::l,i+1,x,h,j,v,hv=>by
   have h':l[i]?=some x:=by simpa using h
   have:=flat_atH hf h' hv
   rw [List.map_cons,List.flatten_cons,List.getElem?_append_right (by rw [hf];rw [Nat.succ_mul];omega),hf]
   rw [show (i+1)*s+j-s=i*s+j by rw [Nat.succ_mul];omega]
   exact this
theorem flat_lenH {α:Type} {f:α→List Value} {s:Nat} (hf:∀ x,(f x).length=s):∀ (l:List α),((l.map f).flatten).length=l.length*s
 | []=>by simp
 | x::l=>by
   simp only [List.map_cons,List.flatten_cons,List.length_append,hf,flat_lenH hf l,List.length_cons,Nat.add_mul]
   omega
theorem flat_setH {α:Type} {f:α→List Value} {s:Nat} (hf:∀ x,(f x).length=s):∀ {l:List α} {i:Nat} {x y:α},l[i]?=some x→∀ {k:Nat} {v:Value},k<s→f y=(f x).set k v→((l.map f).flatten).set (i*s+k) v=((l.set i y).map f).flatten
 | [],i,x,y,h,k,v,hk,hy=>by simp at h
 | a::l,0,x,y,h,k,v,hk,hy=>by
   obtain rfl:a=x:=by simpa using h
   simp only [List.map_cons,List.flatten_cons,List.set_cons_zero,Nat.zero_mul,Nat.zero_add]
   rw [List.set_append_left _ _ (by rw [hf];exact hk),hy]
 | a::l,i+1,x,y,h,k,v,hk,hy=>by
   have h':l[i]?=some x:=by simpa using h
   simp only [List.map_cons,List.flatten_cons,List.set_cons_succ]
   rw [List.set_append_right _ _ (by rw [hf,Nat.add_mul];omega),hf,show (i+1)*s+k-s=i*s+k by rw [Nat.add_mul];omega,flat_setH hf h' hk hy]
section
variable {c:Cx} {F:Fr} {H H':Hp} {K:Value→Hp→Prop} {d:Option Tmp} {ty t:TypeId} {pos:String} {af:Array Edge} {g:Option (Nat×Bool)} {x y:Operand} {v:Value} {a0:Bool} {z0:List Value} {k0:TyK} {b o:Nat} {C C':List Value} {tg:Tg}
end
end Go.Proofs.YtcjkndjjbjoehaaGreat
namespace Go.Proofs.YtcjkndjjbjoehaaGreat
open Go.RowKit
attribute [local irreducible] OQ OS OX Rd T TL GX GL AL AI RV wpG SAny Calls
abbrev rcCells (x:Rc):List Value:=[.int .i64 x.1,.int .i64 0,.int .i64 (x.2:Nat)]
abbrev rcs (l:List Rc):List Value:=(l.map rcCells).flatten
theorem rcs_len (l:List Rc):(rcs l).length=l.length*3:=flat_lenH (s:=3) (fun _=>rfl) l
theorem rc_at {l:List Rc} {i:Nat} {x:Rc} (h:l[i]?=some x):(rcs l)[0+i*3]?=some (.int .i64 x.1)∧(rcs l)[0+i*3+1]?=some (.int .i64 0)∧(rcs l)[0+i*3+1+1]?=some (.int .i64 (x.2:Nat)):=by
 rw [Nat.zero_add]
 exact ⟨flat_atH (f:=rcCells) (s:=3) (fun _=>rfl) h (j:=0) rfl,flat_atH (f:=rcCells) (s:=3) (fun _=>rfl) h (j:=1) rfl,flat_atH (f:=rcCells) (s:=3) (fun _=>rfl) h (j:=2) rfl⟩
theorem rc_set {l:List Rc} {i:Nat} {x y:Rc} (h:l[i]?=some x):setL (rcs l) (0+i*3) [.int .i64 y.1,.int .i64 0,.int .i64 (y.2:Nat)]=rcs (l.set i y):=by
 simp only [setL,Nat.zero_add]
 have e1:=flat_setH (f:=rcCells) (s:=3) (fun _=>rfl) (l:=l) (i:=i) (x:=x) (y:=(y.1,x.2)) h (k:=0) (v:=.int .i64 y.1) (by omega) rfl
 have h2:(l.set i (y.1,x.2))[i]?=some (y.1,x.2):=by
   rw [List.getElem?_set,if_pos rfl,if_pos (List.getElem?_eq_some_iff.1 h).1]
 have e2:=flat_setH (f:=rcCells) (s:=3) (fun _=>rfl) (l:=l.set i (y.1,x.2)) (i:=i) (y:=(y.1,x.2)) h2 (k:=1) (v:=.int .i64 0) (by omega) rfl
 have e3:=flat_setH (f:=rcCells) (s:=3) (fun _=>rfl) (l:=l.set i (y.1,x.2)) (i:=i) (y:=y) h2 (k:=2) (v:=.int .i64 (y.2:Nat)) (by omega) rfl
 simp only [List.set_set,Nat.add_zero] at e1 e2 e3
 rw [Nat.add_assoc]
 rw [e1,e2,e3]
section
variable {c:Cx} {F:Fr} {H H':Hp} {K:Value→Hp→Prop} {d:Option Tmp} {ty t:TypeId} {pos:String} {af:Array Edge} {gd:Option (Nat×Bool)} {x y:Operand} {a0:Bool} {z0:List Value} {k0:TyK} {g i:Nat} {tg:Tg} {l l':List Rc} {z:Rc}
theorem os_storeRc (u:Rc) (hz:l[i]?=some z) (hl:l.set i u=l') (ht:tyAt c.tys t=some ⟨a0,3,z0,k0⟩) (hx:ev F x=some (.pointer (some ⟨g,0+i*3,none⟩))) (hy:ev F y=some (.agg #[.int .i64 u.1,.int .i64 0,.int .i64 (u.2:Nat)])) (hp:Pick H g (rcs l) tg H')
   (kk:K undef ((g,rcs l',tg)::H')):OS c ⟨d,.store t x y,ty,pos,af,gd⟩ F H K:=
 store_gen (vs:=[.int .i64 u.1,.int .i64 0,.int .i64 (u.2:Nat)]) ht hx hy rfl rfl (by simp [Value.oneCell']) hp (by rw [rcs_len];have:=(List.getElem?_eq_some_iff.1 hz).1;omega) (by rw [rc_set hz,hl];exact kk)
end
def frH (pb db cap:Nat) (l:List Rc):Hp:=[(pb,[.slice (some ⟨db,0,none⟩) l.length cap],some (197,1,1)),(db,rcs l,some (195,3,cap))]
theorem frontLen_calls (db n cap:Nat) (w:World):Calls Tryz.prog 197 #[.slice (some ⟨db,0,none⟩) n cap] w fun e w'=>e=.returned (.int .i64 (n:Nat))∧Ext w w':=by
 refine enterQ (c:=cx w 5) Tryz.func197 rfl rfl rfl rfl ?_
 ((all_goals refine gqO0 ?_);(all_goals constructor);(any_goals exact trivial);all_goals intros)
 all_goals rfl
theorem frontLess_calls (db n cap i j:Nat) (l:List Rc) (x y:Rc) (tg:Tg) (w:World) (hB:Blk w db (rcs l) tg) (hn:l.length=n) (hn1:n≤1000000) (hx:l[i]?=some x) (hy:l[j]?=some y) :
   Calls Tryz.prog 198 #[.slice (some ⟨db,0,none⟩) n cap,.int .i64 ((i:Nat):Int),.int .i64 ((j:Nat):Int)] w fun e w'=>e=.returned (.bool (decide (x.1<y.1)))∧Ext w w':=by
 have hi:=(List.getElem?_eq_some_iff.1 hx).1
 have hj:=(List.getElem?_eq_some_iff.1 hy).1
 have c0:=hB.cell (rc_at hx).1
 have c1:=hB.cell (rc_at hy).1
 refine enterQ (c:=cx w 18) Tryz.func198 rfl rfl rfl rfl ?_
 ((all_goals refine gqO0 ?_);(all_goals constructor);(any_goals exact trivial);all_goals intros)
 all_goals rfl
theorem frontSwap_W (db n cap i j:Nat) (l:List Rc) (x y:Rc) (w:World) (hH:Has w ⟨[db],[]⟩ [(db,rcs l,some (195,3,cap))] w) (hn:l.length=n) (hn1:n≤1000000) (hx:l[i]?=some x) (hy:l[j]?=some y) :
   Calls Tryz.prog 201 #[.slice (some ⟨db,0,none⟩) n cap,.int .i64 ((i:Nat):Int),.int .i64 ((j:Nat):Int)] w fun e w'=>∃ v H1,e=.returned v∧(v=.tuple #[]∧H1=[(db,rcs (swp l i j),some (195,3,cap))])∧Has w ⟨[db],[]⟩ H1 w':=by
 have hi:=(List.getElem?_eq_some_iff.1 hx).1
 have hj:=(List.getElem?_eq_some_iff.1 hy).1
 obtain ⟨q0,q1,q2⟩:=rc_at hx
 obtain ⟨r0,r1,r2⟩:=rc_at hy
 have hs:(l.set i y).set j x=swp l i j:=(swp_of hx hy).symm
 have hy2:∃ y2,(l.set i y)[j]?=some y2:=⟨_,List.getElem?_eq_getElem (by simpa using hj)⟩
 obtain ⟨y2,hy2⟩:=hy2
 refine enterM (c:=cxM [db] w 20) Tryz.func201 rfl rfl rfl hH ?_
 repeat' (first|((with_reducible apply oq_id);first|(focus ((with_reducible apply oq_indexAddrN);(iterate 4 exact rfl);omega))|(apply oq_fn;exact rfl;first|exact trivial|(and_intros<;>omega)|omega|skip)|((with_reducible apply oq_loadAgg);exact rfl;exact rfl))|((with_reducible apply gx_id);first|(with_reducible apply v_nil)|((with_reducible apply v_q);(iterate 3 exact rfl)))|((with_reducible apply os_id);first|((with_reducible apply (os_storeRc y hx rfl));(iterate 3 exact rfl);(repeat first|exact P0|apply P1))|((with_reducible apply (os_storeRc x hy2 hs));(iterate 3 exact rfl);(repeat first|exact P0|apply P1)))|((with_reducible apply ai_id);first|((with_reducible apply ai_q);(iterate 5 exact rfl))|((with_reducible apply ai_n0);(iterate 3 exact rfl)))|((with_reducible apply al_keep);focus (repeat (first|exact HpSub.refl _|(apply HpSub.cons;(repeat first|exact P0|apply P1))|apply HpSub.skipX|exact HpSub.nil)))|((with_reducible apply rd_id);first|(apply Rd.own;(repeat first|exact P0|apply P1);with_reducible (first|exact q0|exact q1|exact q2|exact r0|exact r1|exact r2);done))|((with_reducible apply t_id);first|(apply t_mixZ (id:=0) [0,1,2,3,4,5,6,8,9,10] 6;kernel_rfl;kernel_rfl;exact rfl))|exact Rdn.zero|apply Rdn.succ|(with_reducible apply end_normal)|exact rvs_nil|((with_reducible apply al_id);first|(apply al_done;decide +kernel)|(apply al_one 7;decide +kernel)|(apply al_one 11;decide +kernel)|(apply al_one 12;decide +kernel)|(apply al_one 13;decide +kernel)|(apply al_one 14;decide +kernel)|(apply al_one 15;decide +kernel)|(apply al_two 7 11;decide +kernel)))
 all_goals exact ⟨_,⟨rfl,rfl⟩,HpSub.w (by (repeat (first|exact HpSub.refl _|(apply HpSub.consE;(repeat first|exact P0|apply P1);exact rfl)|apply HpSub.skipX|exact HpSub.nil)))⟩
theorem rcs_snoc (l:List Rc) (x:Rc):rcs l++[.int .i64 x.1,.int .i64 0,.int .i64 (x.2:Nat)]=rcs (l++[x]):=by simp [rcs]
theorem rcs_app (a b:List Rc):rcs (a++b)=rcs a++rcs b:=by simp [rcs]
theorem frH_n {pb db cap n:Nat} {l:List Rc} (hn:l.length=n):frH pb db cap l=[(pb,[.slice (some ⟨db,0,none⟩) n cap],some (197,1,1)),(db,rcs l,some (195,3,cap))]:=by rw [frH,hn]
theorem frontPush_W (pb db n cap:Nat) (l:List Rc) (x:Rc) (w:World) (hH:Has w ⟨[pb,db],[]⟩ [(pb,[.slice (some ⟨db,0,none⟩) n cap],some (197,1,1)),(db,rcs l,some (195,3,cap))] w) (hn:l.length=n) (hn1:n≤1000000) :
   Calls Tryz.prog 200 #[.pointer (some ⟨pb,0,none⟩),.iface 195 (.agg #[.int .i64 x.1,.int .i64 0,.int .i64 (x.2:Nat)])] w fun e w'=>∃ v H1,e=.returned v∧(v=.tuple #[]∧∃ db' cap',H1=frH pb db' cap' (l++[x]))∧Has w ⟨[pb,db],[]⟩ H1 w':=by
 have hlen:=rcs_len l
 rw [hn] at hlen
 refine enterM (c:=cxM [pb,db] w 13) Tryz.func200 rfl rfl rfl hH ?_
 ((all_goals refine gqO0 ?_);(all_goals constructor);(any_goals exact trivial);all_goals intros)
 all_goals (rename_i bA bB cpB;refine ⟨_,⟨rfl,bB,cpB,(frH_n (l:=l++[x]) (n:=n+1) (by simp [hn])).symm⟩,HpSub.w ?_⟩;(try simp only [List.cons_append,List.nil_append]);rw [← rcs_snoc];(repeat (first|exact HpSub.refl _|(apply HpSub.consE;(repeat first|exact P0|apply P1);exact rfl)|apply HpSub.skipX|exact HpSub.nil)))
theorem frontPop_W (pb db n cap:Nat) (l:List Rc) (x:Rc) (w:World) (hH:Has w ⟨[pb,db],[]⟩ [(pb,[.slice (some ⟨db,0,none⟩) (n+1) cap],some (197,1,1)),(db,rcs l,some (195,3,cap))] w) (hn:l.length=n+1) (hn1:n≤1000000) (hc:n+1≤cap) (hx:l[n]?=some x) :
   Calls Tryz.prog 199 #[.pointer (some ⟨pb,0,none⟩)] w fun e w'=>∃ v H1,e=.returned v∧(v=.iface 195 (.agg #[.int .i64 x.1,.int .i64 0,.int .i64 (x.2:Nat)])∧H1=frH pb db cap (l.take n))∧Has w ⟨[pb,db],[]⟩ H1 w':=by
 have hlen:=rcs_len l
 rw [hn] at hlen
 have hl:l=l.take n++l.drop n:=(List.take_append_drop _ _).symm
 obtain ⟨q0,q1,q2⟩:=rc_at hx
 rw [frH_n (n:=n) (by rw [List.length_take,hn];omega)]
 refine enterM (c:=cxM [pb,db] w 27) Tryz.func199 rfl rfl rfl hH ?_
 repeat' (first|((with_reducible apply oq_id);first|((with_reducible apply oq_makeIface);exact Tryz.runUnderlying195;(intro _ h;cases h);exact rfl)|((with_reducible apply oq_subE (k:=((n:Nat):Int)));exact rfl;exact rfl;omega)|((with_reducible apply (oq_sliceH (h:=n)));(iterate 4 exact rfl);omega;omega)|(focus ((with_reducible apply oq_indexAddrN);(iterate 4 exact rfl);omega))|(apply oq_fn;exact rfl;first|exact trivial|(and_intros<;>omega)|omega|skip)|((with_reducible apply oq_load);exact rfl;exact rfl)|((with_reducible apply oq_loadAgg);exact rfl;exact rfl))|((with_reducible apply tl_id);first|(with_reducible apply tl_nil)|((with_reducible apply u_q);(iterate 4 exact rfl)))|((with_reducible apply gx_id);first|(with_reducible apply v_nil)|((with_reducible apply v_q);(iterate 3 exact rfl)))|((with_reducible apply os_id);first|((with_reducible apply os_store);(iterate 4 exact rfl))|((with_reducible apply os_storeAgg);(iterate 5 exact rfl)))|((with_reducible apply ox_id);first|((with_reducible apply ox_alloc);exact rfl;intro _))|((with_reducible apply ai_id);first|((with_reducible apply ai_x);(iterate 5 exact rfl))|((with_reducible apply ai_s0);(iterate 4 exact rfl))|((with_reducible apply ai_n0);(iterate 3 exact rfl)))|((with_reducible apply al_keep);focus (repeat (first|exact HpSub.refl _|(apply HpSub.cons;(repeat first|exact P0|apply P1))|apply HpSub.skipX|exact HpSub.nil)))|((with_reducible apply rd_id);first|(apply Rd.own;(repeat first|exact P0|apply P1);with_reducible (first|exact q0|exact q1|exact q2);done)|(apply Rd.own;(repeat first|exact P0|apply P1);exact rfl;done))|((with_reducible apply t_id);first|(apply t_mix (id:=1) [0,1,2,3,4,5,6,7,8,9] 2 #[false,false,false,false,false,false,false,false,false,false,false,false];kernel_rfl;kernel_rfl;exact rfl)|(apply t_mix (id:=2) [0,1,2,3,4,5,6,7,8,9,10] 1 #[false,false,false,false,false,false,false,false,false,false,false,true];kernel_rfl;kernel_rfl;exact rfl)|(with_reducible apply t_seq)|(apply t_region;kernel_rfl)|(with_reducible apply t_ret))|with_reducible apply q_thenN|exact P0|(with_reducible apply P1)|exact Rdn.zero|apply Rdn.succ|((with_reducible apply Norm.nil);exact rfl)|((with_reducible apply Norm.cons);exact rfl)|(with_reducible apply end_ret)|exact rvs_nil|(with_reducible apply rvs_cons)|((with_reducible apply rv_tmp);exact rfl)|((with_reducible apply al_id);first|(apply al_done;decide +kernel)|(apply al_one 10;decide +kernel)|(apply al_one 11;decide +kernel))|exact Nat.le_of_ble_eq_true rfl)
 all_goals (refine ⟨_,⟨rfl,rfl⟩,(HpSub.w (G:=(db,rcs (l.take n)++rcs (l.drop n),some (195,3,cap))::[(pb,[.slice (some ⟨db,0,none⟩) n cap],some (197,1,1))]) ?_).trans (HpW.pre.trans (HpSub.w (by (repeat (first|exact HpSub.refl _|(apply HpSub.consE;(repeat first|exact P0|apply P1);exact rfl)|apply HpSub.skipX|exact HpSub.nil)))))⟩)
 all_goals (rw [← rcs_app,← hl];(repeat (first|exact HpSub.refl _|(apply HpSub.consE;(repeat first|exact P0|apply P1);exact rfl)|apply HpSub.skipX|exact HpSub.nil)))
end Go.Proofs.YtcjkndjjbjoehaaGreat
namespace Go.Proofs.YtcjkndjjbjoehaaGreat
open Go.RowKit
attribute [local irreducible] OQ OS OX Rd T TL GX GL AL AI RV wpG SAny Calls Meth
theorem blk_capH {w:World} {b e s cap:Nat} {C:List Value} (h:Blk w b C (some (e,s,cap))) (hs:0<s):C.length≤cap*s:=by
 rcases h with ⟨c,t,h1,h2,_,h4,_⟩|⟨rfl,_⟩
 · rw [← h4]
   rcases Nat.lt_or_ge c.size C.length with h5|h5
   · have:=h2 c.size C[c.size] (List.getElem?_eq_getElem h5)
     have:=(Array.getElem?_eq_some_iff.1 this).1
     omega
   · exact h5
 · simp
section
variable {c:Cx} {F:Fr} {H:Hp} {d:Option Tmp} {ty t t':TypeId} {pos:String} {af:Array Edge} {g:Option (Nat×Bool)} {x y:Operand} {m n k:Int}
theorem oq_quoE (hx:ev F x=some (.int .i64 m)) (hy:ev F y=some (.int .i64 n)) (e:m.tdiv n=k∧n≠0∧-9223372036854775808≤k∧k≤9223372036854775807):OQ c ⟨d,.binOp .quo t x y t',ty,pos,af,g⟩ F H (.int .i64 k):=
 (oq_quo hx hy e.2.1 (by rw [e.1];exact ⟨e.2.2.1,e.2.2.2⟩)).as (by rw [e.1])
theorem tdiv_natH {m:Int} {a b r:Nat} {n:Int} (e:m=(a:Int)) (e2:n=(b:Int)) (hr:a / b=r):m.tdiv n=(r:Int):=by
 rw [e,e2,← hr,Int.ofNat_tdiv]
end
theorem heapUp_W (pb db cap n j:Nat) (l:List Rc) (w:World) (hH:Has w ⟨[pb,db],[]⟩ [(pb,[.slice (some ⟨db,0,none⟩) (n) cap],some (197,1,1)),(db,rcs (l),some (195,3,cap))] w) (hn:l.length=n) (hn1:n≤1000000) (hj:j<n) (hu:UpOk l n j) :
   Calls Tryz.prog 139 #[.iface 193 (.pointer (some ⟨pb,0,none⟩)),.int .i64 ((j:Nat):Int)] w fun e w'=>∃ v H1,e=.returned v∧(v=.tuple #[]∧∃ l',H1=frH pb db cap l'∧l'.Perm l∧Hord l' n)∧Has w ⟨[pb,db],[]⟩ H1 w':=by
 refine enterM (c:=cxM [pb,db] w 23) Tryz.func139 rfl rfl rfl hH ?_
 ((all_goals refine gqO0 ?_);(all_goals constructor);(any_goals exact trivial);all_goals intros)
 apply t_loopK (ι:=List Rc×Nat) [0] (fun z=>[(1,.int .i64 ((z.2:Nat):Int))]) (fun z=>[(pb,[.slice (some ⟨db,0,none⟩) (n) cap],some (197,1,1)),(db,rcs (z.1),some (195,3,cap))]) (fun z=>z.1.length=n∧z.2<n∧UpOk z.1 n z.2∧z.1.Perm l) (fun z=>z.2) ((l,j))
 (repeat (first|exact KeepF.nil|(apply KeepF.cons;exact rfl)|apply KeepF.skip))
 (repeat first|exact FrSub.nil|(apply FrSub.cons;exact rfl))
 (repeat (first|exact HpSub.refl _|(apply HpSub.consE;(repeat first|exact P0|apply P1);exact rfl)|exact HpSub.nil))
 · exact ⟨hn,hj,hu,List.Perm.refl _⟩
 rintro ⟨l1,k⟩ ⟨hl,hk,hu1,hpp⟩
 simp only at hl hk hu1 hpp
 try simp only [List.cons_append,List.nil_append]
 rcases Nat.eq_zero_or_pos k with rfl|hk0
 · ((all_goals refine gqO1 ?_);(all_goals constructor);(any_goals exact trivial);all_goals intros)
   all_goals exact ⟨_,⟨rfl,_,(frH_n hl).symm,hpp,hu1.done (.inl rfl)⟩,HpSub.w (by (repeat (first|exact HpSub.refl _|(apply HpSub.consE;(repeat first|exact P0|apply P1);exact rfl)|apply HpSub.skipX|exact HpSub.nil)))⟩
 · obtain ⟨i,hi⟩:∃ i,(k-1) / 2=i:=⟨_,rfl⟩
   have hx:l1[k]?=some l1[k]:=List.getElem?_eq_getElem (by omega)
   have hy:l1[i]?=some l1[i]:=List.getElem?_eq_getElem (by omega)
   generalize l1[k]=x at hx
   generalize l1[i]=y at hy
   by_cases hlt:x.1<y.1
   · ((all_goals refine gqO1 ?_);(all_goals constructor);(any_goals exact trivial);all_goals intros)
     all_goals (refine ⟨(swp l1 i k,i),⟨by rw [swp_len];exact hl,(by simp only;omega),(by have:=hu1.step hl.symm hk hk0 (by rw [hi,key_of hx,key_of hy];exact hlt);rw [hi] at this;exact this),(swp_perm _ _ _).trans hpp⟩,(by simp only;omega),?_,?_⟩<;>(try simp only [List.cons_append,List.nil_append])<;>(repeat' (first|exact FrSub.nil|(apply FrSub.cons;exact rfl)|exact HpSub.refl _|(apply HpSub.consE;(repeat first|exact P0|apply P1);exact rfl))))
   · ((all_goals refine gqO1 ?_);(all_goals constructor);(any_goals exact trivial);all_goals intros)
     all_goals exact ⟨_,⟨rfl,_,(frH_n hl).symm,hpp,hu1.done (.inr (by rw [hi,key_of hx,key_of hy];omega))⟩,HpSub.w (by (repeat (first|exact HpSub.refl _|(apply HpSub.consE;(repeat first|exact P0|apply P1);exact rfl)|apply HpSub.skipX|exact HpSub.nil)))⟩
theorem heapDown_W (pb db cap n:Nat) (l:List Rc) (w:World) (hH:Has w ⟨[pb,db],[]⟩ [(pb,[.slice (some ⟨db,0,none⟩) (n+1) cap],some (197,1,1)),(db,rcs (l),some (195,3,cap))] w) (hn:l.length=n+1) (hn1:n≤900000) (hu:DnOk l n 0) :
   Calls Tryz.prog 138 #[.iface 193 (.pointer (some ⟨pb,0,none⟩)),.int .i64 0,.int .i64 ((n:Nat):Int)] w fun e w'=>∃ v H1,e=.returned v∧((∃ b,v=.bool b)∧∃ l',H1=frH pb db cap l'∧l'.Perm l∧Hord l' n∧l'[n]?=l[n]?)∧Has w ⟨[pb,db],[]⟩ H1 w':=by
 refine enterM (c:=cxM [pb,db] w 48) Tryz.func138 rfl rfl rfl hH ?_
 ((all_goals refine gqO0 ?_);(all_goals constructor);(any_goals exact trivial);all_goals intros)
 apply t_loopK (ι:=List Rc×Nat) [0,1,2,6,45,46,47] (fun z=>[(7,.int .i64 ((z.2:Nat):Int))]) (fun z=>[(pb,[.slice (some ⟨db,0,none⟩) (n+1) cap],some (197,1,1)),(db,rcs (z.1),some (195,3,cap))]) (fun z=>z.1.length=n+1∧z.2≤n∧DnOk z.1 n z.2∧z.1.Perm l∧z.1[n]?=l[n]?) (fun z=>n-z.2) ((l,0))
 (repeat (first|exact KeepF.nil|(apply KeepF.cons;exact rfl)|apply KeepF.skip))
 (repeat first|exact FrSub.nil|(apply FrSub.cons;exact rfl))
 (repeat (first|exact HpSub.refl _|(apply HpSub.consE;(repeat first|exact P0|apply P1);exact rfl)|exact HpSub.nil))
 · exact ⟨hn,Nat.zero_le _,hu,List.Perm.refl _,rfl⟩
 rintro ⟨l1,i⟩ ⟨hl,hi,hd,hpp,hlast⟩
 simp only at hl hi hd hpp hlast
 try simp only [List.cons_append,List.nil_append]
 have hsl:∀ j,j<n→i<n→(swp l1 i j)[n]?=l[n]?:=fun j hj hin=>by
   rw [← hlast]
   rcases Nat.lt_or_ge i l1.length with h1|h1
   · rw [swp_of (List.getElem?_eq_getElem h1) (List.getElem?_eq_getElem (show j<l1.length by omega)),List.getElem?_set_ne (by omega)]
     rw [List.getElem?_set_ne (by omega)]
   · omega
 by_cases h1:2*i+1<n
 rotate_left
 · ((all_goals refine gqO1 ?_);(all_goals constructor);(any_goals exact trivial);all_goals intros)
   all_goals exact ⟨_,⟨⟨_,rfl⟩,_,(frH_n hl).symm,hpp,(hd.done fun k k0 kn kp=>by omega),hlast⟩,HpSub.w (by (repeat (first|exact HpSub.refl _|(apply HpSub.consE;(repeat first|exact P0|apply P1);exact rfl)|apply HpSub.skipX|exact HpSub.nil)))⟩
 have hx:l1[2*i+1]?=some l1[2*i+1]:=List.getElem?_eq_getElem (by omega)
 have hy:l1[i]?=some l1[i]:=List.getElem?_eq_getElem (by omega)
 generalize l1[2*i+1]=x at hx
 generalize l1[i]=y at hy
 by_cases h2:2*i+1+1<n
 · have hz:l1[2*i+1+1]?=some l1[2*i+1+1]:=List.getElem?_eq_getElem (by omega)
   generalize l1[2*i+1+1]=z at hz
   by_cases hlt:z.1<x.1
   · have hm:∀ k,0<k→k<n→(k-1) / 2=i→key l1 (2*i+1+1)≤key l1 k:=fun k k0 kn kp=>by
       obtain rfl|rfl:k=2*i+1∨k=2*i+1+1:=by omega
       · rw [key_of hx,key_of hz];omega
       · exact Int.le_refl _
     by_cases hlt2:z.1<y.1
     · ((all_goals refine gqO1 ?_);(all_goals constructor);(any_goals exact trivial);all_goals intros)
       all_goals (refine ⟨(swp l1 i ((2*i+1+1)),(2*i+1+1)),⟨by rw [swp_len];exact hl,(by simp only;omega),hd.step (by omega) (by omega) (by omega) (by omega) hm (by rw [key_of hz,key_of hy];exact hlt2),(swp_perm _ _ _).trans hpp,hsl _ (by omega) (by omega)⟩,(by simp only;omega),?_,?_⟩<;>(try simp only [List.cons_append,List.nil_append])<;>(repeat' (first|exact FrSub.nil|(apply FrSub.cons;exact rfl)|exact HpSub.refl _|(apply HpSub.consE;(repeat first|exact P0|apply P1);exact rfl))))
     · ((all_goals refine gqO1 ?_);(all_goals constructor);(any_goals exact trivial);all_goals intros)
       all_goals exact ⟨_,⟨⟨_,rfl⟩,_,(frH_n hl).symm,hpp,(hd.done fun k k0 kn kp=>Int.le_trans (by rw [key_of hz,key_of hy];omega) (hm k k0 kn kp)),hlast⟩,HpSub.w (by (repeat (first|exact HpSub.refl _|(apply HpSub.consE;(repeat first|exact P0|apply P1);exact rfl)|apply HpSub.skipX|exact HpSub.nil)))⟩
   · have hm:∀ k,0<k→k<n→(k-1) / 2=i→key l1 (2*i+1)≤key l1 k:=fun k k0 kn kp=>by
       obtain rfl|rfl:k=2*i+1∨k=2*i+1+1:=by omega
       · exact Int.le_refl _
       · rw [key_of hx,key_of hz];omega
     by_cases hlt2:x.1<y.1
     · ((all_goals refine gqO1 ?_);(all_goals constructor);(any_goals exact trivial);all_goals intros)
       all_goals (refine ⟨(swp l1 i ((2*i+1)),(2*i+1)),⟨by rw [swp_len];exact hl,(by simp only;omega),hd.step (by omega) (by omega) (by omega) (by omega) hm (by rw [key_of hx,key_of hy];exact hlt2),(swp_perm _ _ _).trans hpp,hsl _ (by omega) (by omega)⟩,(by simp only;omega),?_,?_⟩<;>(try simp only [List.cons_append,List.nil_append])<;>(repeat' (first|exact FrSub.nil|(apply FrSub.cons;exact rfl)|exact HpSub.refl _|(apply HpSub.consE;(repeat first|exact P0|apply P1);exact rfl))))
     · ((all_goals refine gqO1 ?_);(all_goals constructor);(any_goals exact trivial);all_goals intros)
       all_goals exact ⟨_,⟨⟨_,rfl⟩,_,(frH_n hl).symm,hpp,(hd.done fun k k0 kn kp=>Int.le_trans (by rw [key_of hx,key_of hy];omega) (hm k k0 kn kp)),hlast⟩,HpSub.w (by (repeat (first|exact HpSub.refl _|(apply HpSub.consE;(repeat first|exact P0|apply P1);exact rfl)|apply HpSub.skipX|exact HpSub.nil)))⟩
 · have hm:∀ k,0<k→k<n→(k-1) / 2=i→key l1 (2*i+1)≤key l1 k:=fun k k0 kn kp=>by
     obtain rfl:k=2*i+1:=by omega
     exact Int.le_refl _
   by_cases hlt2:x.1<y.1
   · ((all_goals refine gqO1 ?_);(all_goals constructor);(any_goals exact trivial);all_goals intros)
     all_goals (refine ⟨(swp l1 i ((2*i+1)),(2*i+1)),⟨by rw [swp_len];exact hl,(by simp only;omega),hd.step (by omega) (by omega) (by omega) (by omega) hm (by rw [key_of hx,key_of hy];exact hlt2),(swp_perm _ _ _).trans hpp,hsl _ (by omega) (by omega)⟩,(by simp only;omega),?_,?_⟩<;>(try simp only [List.cons_append,List.nil_append])<;>(repeat' (first|exact FrSub.nil|(apply FrSub.cons;exact rfl)|exact HpSub.refl _|(apply HpSub.consE;(repeat first|exact P0|apply P1);exact rfl))))
   · ((all_goals refine gqO1 ?_);(all_goals constructor);(any_goals exact trivial);all_goals intros)
     all_goals exact ⟨_,⟨⟨_,rfl⟩,_,(frH_n hl).symm,hpp,(hd.done fun k k0 kn kp=>Int.le_trans (by rw [key_of hx,key_of hy];omega) (hm k k0 kn kp)),hlast⟩,HpSub.w (by (repeat (first|exact HpSub.refl _|(apply HpSub.consE;(repeat first|exact P0|apply P1);exact rfl)|apply HpSub.skipX|exact HpSub.nil)))⟩
theorem heapPush_W (pb db cap n:Nat) (l:List Rc) (x:Rc) (w:World) (hH:Has w ⟨[pb,db],[]⟩ (frH pb db cap l) w) (hn:l.length=n) (hn1:n≤900000) (ho:Hord l n) :
   Calls Tryz.prog 117 #[.iface 193 (.pointer (some ⟨pb,0,none⟩)),.iface 195 (.agg #[.int .i64 x.1,.int .i64 0,.int .i64 (x.2:Nat)])] w fun e w'=>∃ v H1,e=.returned v∧(v=.tuple #[]∧∃ l' db' cap',H1=frH pb db' cap' l'∧l'.Perm (x::l)∧Hord l' (n+1))∧Has w ⟨[pb,db],[]⟩ H1 w':=by
 rw [frH_n hn] at hH
 have hl1:(l++[x]).length=n+1:=by simp [hn]
 have hu:UpOk (l++[x]) (n+1) n:=by
   have:=Hord.push (x:=x) (hn ▸ ho)
   rw [hn] at this;exact this
 refine enterM (c:=cxM [pb,db] w 12) Tryz.func117 rfl rfl rfl hH ?_
 refine t_cutW (ι:=Nat×Nat) (fun _=>[(0,.iface 193 (.pointer (some ⟨pb,0,none⟩)))]) (fun z=>[(pb,[.slice (some ⟨z.1,0,none⟩) (n+1) z.2],some (197,1,1)),(z.1,rcs (l++[x]),some (195,3,z.2))]) (fun _=>True) ?_ ?_
 · repeat' (first|((with_reducible apply oq_id);first|(apply oq_fn;exact rfl;first|exact trivial|(and_intros<;>omega)|omega|skip))|((with_reducible apply tl_id);first|(with_reducible apply tl_nil)|((with_reducible apply u_s);(iterate 3 exact rfl);(with_reducible apply os_invokeM (name := "Push") (PV:=fun v H1=>v=.tuple #[]∧∃ db' cap',H1=frH pb db' cap' (l++[x])) (G:=[(pb,[.slice (some ⟨db,0,none⟩) (n) cap],some (197,1,1)),(db,rcs (l),some (195,3,cap))]) (R:=[]) (k:=200) (rv:=.pointer (some ⟨pb,0,none⟩)) (hc:=Tryz.call200));exact rfl;(repeat (first|exact HpSub.refl _|(apply HpSub.consE;(repeat first|exact P0|apply P1);exact rfl)|apply HpSub.skipX|apply HpSub.skipX|exact HpSub.nil));exact fun D w1 hw1=>m_push;exact rfl;exact fun D w1 hw1 hg1=>frontPush_W pb db n cap l x w1 hg1 hn (by omega);rintro _ _ ⟨rfl,db',cap',rfl⟩;(rw [frH_n hl1]);(try simp only [List.cons_append,List.nil_append,List.append_nil]))|((with_reducible apply u_q);(iterate 4 exact rfl)))|((with_reducible apply t_id);first|(apply t_region;kernel_rfl)))
   all_goals exact ⟨(by first|rfl|trivial),(db',cap'),trivial,by (repeat first|exact FrSub.nil|(apply FrSub.cons;exact rfl)),HpSub.w (by (repeat (first|exact HpSub.refl _|(apply HpSub.consE;(repeat first|exact P0|apply P1);exact rfl)|apply HpSub.skipX|exact HpSub.nil)))⟩
 rintro ⟨db2,cap2⟩ -
 try simp only [List.cons_append,List.nil_append]
 repeat' (first|((with_reducible apply oq_id);first|((with_reducible apply oq_invoke (name := "Len") (k:=197) (rv:=.slice (some ⟨db2,0,none⟩) (n+1) cap2) (hc:=Tryz.call197));exact rfl;exact fun D w1 hw1=>m_len (hw1.cellAt (C:=[.slice (some ⟨db2,0,none⟩) (n+1) cap2]) (by (repeat first|exact P0|apply P1)) rfl);exact rfl;exact fun D w1 hw1=>frontLen_calls db2 (n+1) cap2 w1)|((with_reducible apply oq_subE (k:=((n:Nat):Int)));exact rfl;exact rfl;omega)|(apply oq_fn;exact rfl;first|exact trivial|(and_intros<;>omega)|omega|skip))|((with_reducible apply tl_id);first|(with_reducible apply tl_nil)|((with_reducible apply u_s);(iterate 3 exact rfl);(with_reducible apply os_callM (PV:=fun v H1=>v=.tuple #[]∧∃ l',H1=frH pb db2 cap2 l'∧l'.Perm (l++[x])∧Hord l' (n+1)) (G:=[(pb,[.slice (some ⟨db2,0,none⟩) (n+1) cap2],some (197,1,1)),(db2,rcs (l++[x]),some (195,3,cap2))]) (R:=[]) (hc:=Tryz.call139));exact rfl;exact rfl;(repeat (first|exact HpSub.refl _|(apply HpSub.consE;(repeat first|exact P0|apply P1);exact rfl)|apply HpSub.skipX|apply HpSub.skipX|exact HpSub.nil));exact fun D w1 hw1 hg1=>heapUp_W pb db2 cap2 (n+1) n (l++[x]) w1 hg1 hl1 (by omega) (by omega) hu;rintro _ _ ⟨rfl,l',rfl,hp1,ho1⟩;(try simp only [List.cons_append,List.nil_append,List.append_nil]))|((with_reducible apply u_q);(iterate 4 exact rfl)))|((with_reducible apply t_id);first|(apply t_region;kernel_rfl))|(with_reducible apply end_normal)|exact rvs_nil)
 all_goals exact ⟨_,⟨rfl,l',db2,cap2,rfl,hp1.trans List.perm_append_comm,ho1⟩,(by first|exact HpW.refl _|(rw [List.append_nil];exact HpW.refl _))⟩
theorem heapPop_W (pb db cap n:Nat) (l:List Rc) (w:World) (hH:Has w ⟨[pb,db],[]⟩ (frH pb db cap l) w) (hn:l.length=n+1) (hn1:n≤900000) (ho:Hord l (n+1)) :
   Calls Tryz.prog 116 #[.iface 193 (.pointer (some ⟨pb,0,none⟩))] w fun e w'=>∃ v H1,e=.returned v∧(∃ (x:Rc) (l':List Rc),v=.iface 195 (.agg #[.int .i64 x.1,.int .i64 0,.int .i64 (x.2:Nat)])∧H1=frH pb db cap l'∧l.Perm (x::l')∧l'.length=n∧Hord l' n∧∀ y∈l,x.1≤y.1)∧Has w ⟨[pb,db],[]⟩ H1 w':=by
 rw [frH_n hn] at hH
 have hx:l[0]?=some l[0]:=List.getElem?_eq_getElem (by omega)
 have hz:l[n]?=some l[n]:=List.getElem?_eq_getElem (by omega)
 generalize l[0]=x at hx
 generalize l[n]=z at hz
 have hu:=ho.pop hn
 have hsn:(swp l 0 n)[n]?=some x:=by
   rw [swp_of hx hz,List.getElem?_set,if_pos rfl,if_pos (by simp [hn])]
 have hmin:∀ y∈l,x.1≤y.1:=fun y hy=>by
   obtain ⟨k,hk⟩:=List.mem_iff_getElem?.1 hy
   have:=ho.min k (by have:=(List.getElem?_eq_some_iff.1 hk).1;omega)
   rw [key_of hx,key_of hk] at this
   exact this
 refine enterM (c:=cxM [pb,db] w 15) Tryz.func116 rfl rfl rfl hH ?_
 repeat' (first|((with_reducible apply oq_id);first|((with_reducible apply oq_invoke (name := "Len") (k:=197) (rv:=.slice (some ⟨db,0,none⟩) (n+1) cap) (hc:=Tryz.call197));exact rfl;exact fun D w1 hw1=>m_len (hw1.cellAt (C:=[.slice (some ⟨db,0,none⟩) (n+1) cap]) (by (repeat first|exact P0|apply P1)) rfl);exact rfl;exact fun D w1 hw1=>frontLen_calls db (n+1) cap w1)|((with_reducible apply oq_subE (k:=((n:Nat):Int)));exact rfl;exact rfl;omega)|(apply oq_fn;exact rfl;first|exact trivial|(and_intros<;>omega)|omega|skip))|((with_reducible apply tl_id);first|(with_reducible apply tl_nil)|((with_reducible apply u_s);(iterate 3 exact rfl);(with_reducible apply os_invokeM (name := "Swap") (PV:=fun v H1=>v=.tuple #[]∧H1=[(db,rcs (swp l 0 n),some (195,3,cap))]) (G:=[(db,rcs l,some (195,3,cap))]) (R:=[(pb,[.slice (some ⟨db,0,none⟩) (n+1) cap],some (197,1,1))]) (k:=201) (rv:=.slice (some ⟨db,0,none⟩) (n+1) cap) (hc:=Tryz.call201));exact rfl;(repeat (first|exact HpSub.refl _|(apply HpSub.consE;(repeat first|exact P0|apply P1);exact rfl)|apply HpSub.skipX|apply HpSub.skipX|exact HpSub.nil));exact fun D w1 hw1=>m_swap (hw1.cellAt (C:=[.slice (some ⟨db,0,none⟩) (n+1) cap]) (by (repeat first|exact P0|apply P1)) rfl);exact rfl;exact fun D w1 hw1 hg1=>frontSwap_W db (n+1) cap 0 n l x z w1 hg1 hn (by omega) hx hz;rintro _ _ ⟨rfl,rfl⟩;(try simp only [List.cons_append,List.nil_append,List.append_nil]))|((with_reducible apply u_s);(iterate 3 exact rfl);(with_reducible apply os_callM (PV:=fun v H1=>(∃ b,v=.bool b)∧∃ l',H1=frH pb db cap l'∧l'.Perm (swp l 0 n)∧Hord l' n∧l'[n]?=(swp l 0 n)[n]?) (G:=[(pb,[.slice (some ⟨db,0,none⟩) (n+1) cap],some (197,1,1)),(db,rcs (swp l 0 n),some (195,3,cap))]) (R:=[]) (hc:=Tryz.call138));exact rfl;exact rfl;(repeat (first|exact HpSub.refl _|(apply HpSub.consE;(repeat first|exact P0|apply P1);exact rfl)|apply HpSub.skipX|apply HpSub.skipX|exact HpSub.nil));exact fun D w1 hw1 hg1=>heapDown_W pb db cap n (swp l 0 n) w1 hg1 (by rw [swp_len];exact hn) hn1 hu;rintro _ _ ⟨⟨b,rfl⟩,l1,rfl,hp1,ho1,hl1⟩;(have hln:l1.length=n+1:=hp1.length_eq.trans ((swp_len l 0 n).trans hn));(have hlx:l1[n]?=some x:=hl1.trans hsn);(rw [frH_n hln]);(try simp only [List.cons_append,List.nil_append,List.append_nil]))|((with_reducible apply u_s);(iterate 3 exact rfl);(with_reducible apply os_invokeM (name := "Pop") (PV:=fun v H1=>v=.iface 195 (.agg #[.int .i64 x.1,.int .i64 0,.int .i64 (x.2:Nat)])∧H1=frH pb db cap (l1.take n)) (G:=[(pb,[.slice (some ⟨db,0,none⟩) (n+1) cap],some (197,1,1)),(db,rcs (l1),some (195,3,cap))]) (R:=[]) (k:=199) (rv:=.pointer (some ⟨pb,0,none⟩)) (hc:=Tryz.call199));exact rfl;(repeat (first|exact HpSub.refl _|(apply HpSub.consE;(repeat first|exact P0|apply P1);exact rfl)|apply HpSub.skipX|apply HpSub.skipX|exact HpSub.nil));exact fun D w1 hw1=>m_pop;exact rfl;exact fun D w1 hw1 hg1=>frontPop_W pb db n cap l1 x w1 hg1 hln (by omega) (by have:=blk_capH (hg1.blk _ (List.mem_cons_of_mem _ (List.mem_cons_self ..))).2 (by omega);rw [rcs_len,hln] at this;omega) hlx;rintro _ _ ⟨rfl,rfl⟩;(try simp only [List.cons_append,List.nil_append,List.append_nil]))|((with_reducible apply u_q);(iterate 4 exact rfl)))|((with_reducible apply t_id);first|(with_reducible apply t_seq)|(apply t_region;kernel_rfl)|(with_reducible apply t_ret))|with_reducible apply q_thenN|(with_reducible apply end_ret)|exact rvs_nil|(with_reducible apply rvs_cons)|((with_reducible apply rv_tmp);exact rfl))
 all_goals (
   have hl1t:l1=l1.take n++[x]:=by
     have h1:l1.take (n+1)=l1.take n++[x]:=by rw [List.take_add_one,hlx];rfl
     rw [← h1,List.take_of_length_le (by omega)]
   have hperm:l.Perm (x::l1.take n):=by
     refine ((swp_perm l 0 n).symm.trans hp1.symm).trans ?_
     rw [hl1t]
     simp only [List.take_append_of_le_length (show n≤(l1.take n).length by rw [List.length_take];omega),List.take_take,Nat.min_self]
     exact List.perm_append_comm
   exact ⟨_,⟨x,l1.take n,rfl,rfl,hperm,by rw [List.length_take];omega,ho1.take (by omega),hmin⟩,HpW.refl _⟩)
end Go.Proofs.YtcjkndjjbjoehaaGreat
namespace Go.Proofs.YtcjkndjjbjoehaaGreat
open Go.RowKit
attribute [local irreducible] OQ OS OX Rd T TL GX GL AL AI RV wpG SAny Calls
def bv (b:Bool):Value:=.bool b
section
variable {c:Cx} {F:Fr} {H H':Hp} {K:Value→Hp→Prop} {d:Option Tmp} {ty:TypeId} {pos:String} {af:Array Edge} {gd:Option (Nat×Bool)} {t:TypeId} {x y:Operand} {a0:Bool} {z0:List Value} {k0:TyK} {g k:Nat} {tg:Tg} {row:List Bool} {z u:Bool}
theorem ox_makeB {n:Nat} {tt:TypeId} {bytes:Nat} (hk:AppOk c.P tt 4 1 bytes) (hz:(c.P.info? 4).map (fun i=>i.zero)=some (some (.bool false)))
   (hx:ev F x=some (.int .i64 (n:Int))) (hy:ev F y=some (.int .i64 (n:Int))) (hb:bytes*n≤281474976710656) (hn:n≤maxLen) (k:∀ b,K (.slice (some ⟨b,0,none⟩) n n) ((b,(List.replicate n false).map bv,some (4,1,n))::H)):OX c ⟨d,.makeSlice tt x y,ty,pos,af,gd⟩ F H K:=by
 refine ox_make (zs:=[.bool false]) hk hz rfl rfl hx hy hb hn fun b=>?_
 have e:(List.replicate n [Value.bool false]).flatten=(List.replicate n false).map bv:=by simp [bv]
 rw [e]
 exact k b
theorem os_makeB {n:Nat} {tt:TypeId} {bytes:Nat} (hk:AppOk c.P tt 4 1 bytes) (hz:(c.P.info? 4).map (fun i=>i.zero)=some (some (.bool false)))
   (hx:ev F x=some (.int .i64 (n:Int))) (hy:ev F y=some (.int .i64 (n:Int))) (hb:bytes*n≤281474976710656) (hn:n≤maxLen) (k:∀ b,K (.slice (some ⟨b,0,none⟩) n n) ((b,(List.replicate n false).map bv,some (4,1,n))::H)):OS c ⟨d,.makeSlice tt x y,ty,pos,af,gd⟩ F H K:=.ofX (ox_makeB hk hz hx hy hb hn k)
theorem rdB (hx:row[k]?=some z) (p:Pick H g (row.map bv) tg H'):Rd c H ⟨g,0+k*1,none⟩ (.bool z):=Rd.own p (by rw [Nat.zero_add,Nat.mul_one,List.getElem?_map,hx];rfl)
theorem os_storeB1 (h:k<row.length) (ht:tyAt c.tys t=some ⟨a0,1,z0,k0⟩) (hx:ev F x=some (.pointer (some ⟨g,0+k*1,none⟩))) (hy:ev F y=some (.bool u)) (hp:Pick H g (row.map bv) tg H')
   (kk:K undef ((g,(row.set k u).map bv,tg)::H')):OS c ⟨d,.store t x y,ty,pos,af,gd⟩ F H K:=
 store_gen (vs:=[.bool u]) ht hx hy rfl rfl (by simp [Value.oneCell']) hp (by simp;omega) (by
   have e:setL (row.map bv) (0+k*1) [Value.bool u]=(row.set k u).map bv:=by simp only [setL];rw [Nat.zero_add,Nat.mul_one,List.map_set];rfl
   rw [e];exact kk)
end
theorem zero4:(Tryz.prog.info? 4).map (fun i=>i.zero)=some (some (.bool false)):=by kernel_rfl
theorem zero3:(Tryz.prog.info? 3).map (fun i=>i.zero)=some (some (.int .i64 0)):=by kernel_rfl
theorem lowest_calls (bA oA cp W Hh n a b:Nat) (g:List Int) (h:Int) (t:Ter W Hh n) (ha:a<n) (hb:b<n) (hp:IsPass W n g a b h) (w:World) (hr:RdS w 1 (some ⟨bA,oA,none⟩) n (g.map inCells)) :
   Calls Tryz.prog 82 #[.agg #[.int .i64 ((W:Nat):Int),.int .i64 ((Hh:Nat):Int),.slice (some ⟨bA,oA,none⟩) n cp],.int .i64 ((a:Nat):Int),.int .i64 ((b:Nat):Int)] w fun e w'=>e=.returned (.int .i64 h)∧Ext w w':=by
 have n576:=t.n576
 have hgl:∀ i,i<n→w.cell? ⟨bA,oA+i*1,none⟩=some (.int .i64 (gr g i)):=fun i hi=>by
   obtain ⟨b',o',y,hA,_,hy,hc⟩:=in_read hr hi
   obtain ⟨rfl,rfl⟩:bA=b'∧oA=o':=by simpa using hA
   rw [gr_of hy];exact hc
 refine enterQ (c:=cx w 68) Tryz.func82 rfl rfl rfl rfl ?_
 refine t_cut (ι:=Nat) (fun b3=>[(1,.int .i64 ((a:Nat):Int)),(2,.int .i64 ((b:Nat):Int)),(3,.pointer (some ⟨b3,0,none⟩))]) (fun b3=>[(b3,[.int .i64 ((W:Nat):Int),.int .i64 ((Hh:Nat):Int),.slice (some ⟨bA,oA,none⟩) n cp],some (66,3,1))]) (fun _=>True) ?_ ?_
 · ((all_goals refine gqO0 ?_);(all_goals constructor);(any_goals exact trivial);all_goals intros)
   all_goals exact ⟨rfl,_,trivial,by (repeat first|exact FrSub.nil|(apply FrSub.cons;exact rfl)),by (repeat (first|exact HpSub.refl _|(apply HpSub.consE;(repeat first|exact P0|apply P1);exact rfl)|exact HpSub.nil))⟩
 rintro b3 -
 try dsimp only
 refine t_cut (ι:=Nat) (fun bs=>[(1,.int .i64 ((a:Nat):Int)),(2,.int .i64 ((b:Nat):Int)),(3,.pointer (some ⟨b3,0,none⟩)),(7,.slice (some ⟨bs,0,none⟩) n n)]) (fun bs=>[(b3,[.int .i64 ((W:Nat):Int),.int .i64 ((Hh:Nat):Int),.slice (some ⟨bA,oA,none⟩) n cp],some (66,3,1)),(bs,(List.replicate n false).map bv,some (4,1,n))]) (fun _=>True) ?_ ?_
 · ((all_goals refine gqO0 ?_);(all_goals constructor);(any_goals exact trivial);all_goals intros)
   all_goals exact ⟨rfl,_,trivial,by (repeat first|exact FrSub.nil|(apply FrSub.cons;exact rfl)),by (repeat (first|exact HpSub.refl _|(apply HpSub.consE;(repeat first|exact P0|apply P1);exact rfl)|exact HpSub.nil))⟩
 rintro bs -
 try dsimp only
 have hca:=hgl a ha
 refine t_cut (ι:=Nat×Nat×Nat) (fun z=>[(2,.int .i64 ((b:Nat):Int)),(3,.pointer (some ⟨b3,0,none⟩)),(7,.slice (some ⟨bs,0,none⟩) n n),(8,.pointer (some ⟨z.1,0,none⟩))]) (fun z=>[(b3,[.int .i64 ((W:Nat):Int),.int .i64 ((Hh:Nat):Int),.slice (some ⟨bA,oA,none⟩) n cp],some (66,3,1)),(bs,(List.replicate n false).map bv,some (4,1,n)),(z.1,[.slice (some ⟨z.2.1,0,none⟩) 1 z.2.2],some (197,1,1)),(z.2.1,rcs [(gr g a,a)],some (195,3,z.2.2))]) (fun _=>True) ?_ ?_
 · ((all_goals refine gqO0 ?_);(all_goals constructor);(any_goals exact trivial);all_goals intros)
   all_goals (rename_i bD bP;exact ⟨rfl,(bP,bD,1),trivial,by (repeat first|exact FrSub.nil|(apply FrSub.cons;exact rfl)),by (repeat (first|exact HpSub.refl _|(apply HpSub.consE;(repeat first|exact P0|apply P1);exact rfl)|exact HpSub.nil))⟩)
 rintro ⟨pb,db,cap⟩ -
 try dsimp only
 ((all_goals refine gqO0 ?_);(all_goals constructor);(any_goals exact trivial);all_goals intros)
 apply t_loopK (ι:=List Bool×List Rc×Nat×Nat) [2,3,7,8] (fun z=>[]) (fun z=>[(b3,[.int .i64 ((W:Nat):Int),.int .i64 ((Hh:Nat):Int),.slice (some ⟨bA,oA,none⟩) n cp],some (66,3,1)),(bs,(z.1).map bv,some (4,1,n)),(pb,[.slice (some ⟨z.2.2.1,0,none⟩) (z.2.1).length z.2.2.2],some (197,1,1)),(z.2.2.1,rcs (z.2.1),some (195,3,z.2.2.2))]) (fun z=>Sea W n g a z.1 z.2.1∧Hord z.2.1 z.2.1.length∧z.2.1.length+5*z.1.countP (fun s=>!s)≤5*n+1∧¬ z.1[b]?=some true) (fun z=>z.2.1.length+5*z.1.countP (fun s=>!s)) ((List.replicate n false,[(gr g a,a)],db,cap))
 (repeat (first|exact KeepF.nil|(apply KeepF.cons;exact rfl)|apply KeepF.skip))
 (repeat first|exact FrSub.nil|(apply FrSub.cons;exact rfl))
 (repeat (first|exact HpSub.refl _|(apply HpSub.consE;(repeat first|exact P0|apply P1);exact rfl)|exact HpSub.nil))
 · refine ⟨Sea.first ha,fun k k0 kn=>by simp at kn;omega,by simp [List.countP_replicate];omega,fun hh=>?_⟩
   rw [List.getElem?_replicate] at hh
   split at hh<;>simp at hh
 clear cap db
 rintro ⟨seen,f,db,cap⟩ ⟨hsea,hord,hcnt,hnb⟩
 simp only at hsea hord hcnt hnb
 try dsimp only
 obtain ⟨x0,hx0,_⟩:=hsea.front hp.is hnb
 obtain ⟨m,hfm⟩:∃ m,f.length=m+1:=⟨f.length-1,by have:=List.length_pos_of_mem hx0;omega⟩
 rw [hfm] at hord
 refine t_block ?_
 refine t_cut (ι:=Rc×List Rc×Nat) (fun z=>[(2,.int .i64 ((b:Nat):Int)),(3,.pointer (some ⟨b3,0,none⟩)),(7,.slice (some ⟨bs,0,none⟩) n n),(8,.pointer (some ⟨pb,0,none⟩)),(9,.pointer (some ⟨z.2.2,0,none⟩))]) (fun z=>[(b3,[.int .i64 ((W:Nat):Int),.int .i64 ((Hh:Nat):Int),.slice (some ⟨bA,oA,none⟩) n cp],some (66,3,1)),(bs,(seen).map bv,some (4,1,n)),(pb,[.slice (some ⟨db,0,none⟩) (z.2.1).length cap],some (197,1,1)),(db,rcs (z.2.1),some (195,3,cap)),(z.2.2,[.int .i64 z.1.1,.int .i64 0,.int .i64 ((z.1.2:Nat):Int)],some (195,3,1))]) (fun z=>f.Perm (z.1::z.2.1)∧z.2.1.length=m∧Hord z.2.1 m∧∀ y∈f,z.1.1≤y.1) ?_ ?_
 · repeat' (first|((with_reducible apply oq_id);first|((with_reducible apply oq_makeIface);exact Tryz.runUnderlying193;(intro _ h;cases h);exact rfl)|((with_reducible apply oq_assert);exact Tryz.runUnderlying195;(intro _ h;cases h);exact rfl)|(apply oq_fn;exact rfl;first|exact trivial|(and_intros<;>omega)|omega|skip))|((with_reducible apply tl_id);first|(with_reducible apply tl_nil)|((with_reducible apply u_s);(iterate 3 exact rfl);(with_reducible apply os_callM (PV:=fun v H1=>∃ (x:Rc) (l':List Rc),v=.iface 195 (.agg #[.int .i64 x.1,.int .i64 0,.int .i64 (x.2:Nat)])∧H1=frH pb db cap l'∧f.Perm (x::l')∧l'.length=m∧Hord l' m∧∀ y∈f,x.1≤y.1) (G:=frH pb db cap f) (R:=[(b3,[.int .i64 ((W:Nat):Int),.int .i64 ((Hh:Nat):Int),.slice (some ⟨bA,oA,none⟩) n cp],some (66,3,1)),(bs,(seen).map bv,some (4,1,n))]) (hc:=Tryz.call116));exact rfl;exact rfl;(unfold frH;simp only [List.cons_append,List.nil_append];(repeat (first|exact HpSub.refl _|(apply HpSub.consE;(repeat first|exact P0|apply P1);exact rfl)|apply HpSub.skipX|apply HpSub.skipX|exact HpSub.nil)));exact fun D w1 hw1 hg1=>heapPop_W pb db cap m f w1 hg1 hfm (by omega) hord;rintro _ _ ⟨x,f1,rfl,rfl,hpm,hfl,hf1,hmin⟩;(unfold frH);(try simp only [List.cons_append,List.nil_append,List.append_nil]))|((with_reducible apply u_q);(iterate 4 exact rfl))|((with_reducible apply u_s0);exact rfl;exact rfl)|((with_reducible apply u_s);(iterate 3 exact rfl)))|((with_reducible apply os_id);first|((with_reducible apply os_x);exact rfl)|((with_reducible apply os_storeAgg);(iterate 5 exact rfl)))|((with_reducible apply ox_id);first|((with_reducible apply ox_alloc);exact rfl;intro _))|((with_reducible apply t_id);first|(apply t_region;kernel_rfl))|exact P0|((with_reducible apply Norm.nil);exact rfl)|((with_reducible apply Norm.cons);exact rfl)|exact Nat.le_of_ble_eq_true rfl)
   all_goals (rename_i bN;exact ⟨(by first|rfl|trivial),(x,f1,bN),⟨hpm,hfl,hf1,hmin⟩,by (repeat first|exact FrSub.nil|(apply FrSub.cons;exact rfl)),by (repeat (first|exact HpSub.refl _|(apply HpSub.consE;(repeat first|exact P0|apply P1);exact rfl)|exact HpSub.nil))⟩)
 rintro ⟨x,f1,b9⟩ ⟨hpm,hfl,hf1,hmin⟩
 simp only at hpm hfl hf1 hmin
 try dsimp only
 have hxf:x∈f:=hpm.mem_iff.2 (List.mem_cons_self ..)
 have hxn:=hsea.lt x hxf
 by_cases hxb:x.2=b
 · obtain rfl:x.1=h:=(hsea.least hxf hmin (by rw [hxb];exact hnb)).uniq (hxb ▸ hp)
   ((all_goals refine gqO1 ?_);(all_goals constructor);(any_goals exact trivial);all_goals intros)
   all_goals rfl
 obtain ⟨sx,hsx⟩:∃ sx,seen[x.2]?=some sx:=⟨_,List.getElem?_eq_getElem (by rw [hsea.len];exact hxn)⟩
 cases sx with
 | true=>
   ((all_goals refine gqO1 ?_);(all_goals constructor);(any_goals exact trivial);all_goals intros)
   all_goals (refine ⟨(seen,f1,db,cap),⟨hsea.skip hpm hsx,(by simp only;rw [hfl];exact hf1),(by simp only;omega),hnb⟩,(by simp only;omega),?_,?_⟩<;>(try simp only [List.cons_append,List.nil_append])<;>(repeat' (first|exact FrSub.nil|(apply FrSub.cons;exact rfl)|(apply HpSub.consE;(repeat first|exact P0|apply P1);exact rfl)|exact HpSub.nil)))
 | false=>
   have hct:=countP_drop (p:=fun s:Bool=>!s) (v:=true) hsx rfl rfl
   have hlen':x.2<seen.length:=by rw [hsea.len];exact hxn
   have hnl:=nb_len W n x.2
   have hnlt:∀ c∈nb W n x.2,c<n:=fun c hc=>nb_lt t hxn hc
   have hnx:=hsea.next (f2:=(nb W n x.2).map (fun c=>(max x.1 (gr g c),c))++f1) t hpm hmin (by rw [hsx];simp) (List.Perm.refl _)
   refine t_cut (ι:=Unit) (fun _=>[(2,.int .i64 ((b:Nat):Int)),(3,.pointer (some ⟨b3,0,none⟩)),(7,.slice (some ⟨bs,0,none⟩) n n),(8,.pointer (some ⟨pb,0,none⟩)),(9,.pointer (some ⟨b9,0,none⟩))]) (fun _=>[(b3,[.int .i64 ((W:Nat):Int),.int .i64 ((Hh:Nat):Int),.slice (some ⟨bA,oA,none⟩) n cp],some (66,3,1)),(bs,(seen).map bv,some (4,1,n)),(pb,[.slice (some ⟨db,0,none⟩) (f1).length cap],some (197,1,1)),(db,rcs (f1),some (195,3,cap)),(b9,[.int .i64 x.1,.int .i64 0,.int .i64 ((x.2:Nat):Int)],some (195,3,1))]) (fun _=>True) ?_ ?_
   · ((all_goals refine gqO1 ?_);(all_goals constructor);(any_goals exact trivial);all_goals intros)
     all_goals exact ⟨rfl,(),trivial,by (repeat first|exact FrSub.nil|(apply FrSub.cons;exact rfl)),by (repeat (first|exact HpSub.refl _|(apply HpSub.consE;(repeat first|exact P0|apply P1);exact rfl)|exact HpSub.nil))⟩
   rintro ⟨⟩ -
   try dsimp only
   refine t_cut (ι:=Unit) (fun _=>[(2,.int .i64 ((b:Nat):Int)),(3,.pointer (some ⟨b3,0,none⟩)),(7,.slice (some ⟨bs,0,none⟩) n n),(8,.pointer (some ⟨pb,0,none⟩)),(9,.pointer (some ⟨b9,0,none⟩))]) (fun _=>[(b3,[.int .i64 ((W:Nat):Int),.int .i64 ((Hh:Nat):Int),.slice (some ⟨bA,oA,none⟩) n cp],some (66,3,1)),(bs,(seen).map bv,some (4,1,n)),(pb,[.slice (some ⟨db,0,none⟩) (f1).length cap],some (197,1,1)),(db,rcs (f1),some (195,3,cap)),(b9,[.int .i64 x.1,.int .i64 0,.int .i64 ((x.2:Nat):Int)],some (195,3,1))]) (fun _=>True) ?_ ?_
   · ((all_goals refine gqO0 ?_);(all_goals constructor);(any_goals exact trivial);all_goals intros)
     all_goals exact ⟨rfl,(),trivial,by (repeat first|exact FrSub.nil|(apply FrSub.cons;exact rfl)),by (repeat (first|exact HpSub.refl _|(apply HpSub.consE;(repeat first|exact P0|apply P1);exact rfl)|exact HpSub.nil))⟩
   rintro ⟨⟩ -
   try dsimp only
   refine t_cut (ι:=Unit) (fun _=>[(2,.int .i64 ((b:Nat):Int)),(3,.pointer (some ⟨b3,0,none⟩)),(7,.slice (some ⟨bs,0,none⟩) n n),(8,.pointer (some ⟨pb,0,none⟩)),(9,.pointer (some ⟨b9,0,none⟩))]) (fun _=>[(b3,[.int .i64 ((W:Nat):Int),.int .i64 ((Hh:Nat):Int),.slice (some ⟨bA,oA,none⟩) n cp],some (66,3,1)),(bs,(seen.set x.2 true).map bv,some (4,1,n)),(pb,[.slice (some ⟨db,0,none⟩) (f1).length cap],some (197,1,1)),(db,rcs (f1),some (195,3,cap)),(b9,[.int .i64 x.1,.int .i64 0,.int .i64 ((x.2:Nat):Int)],some (195,3,1))]) (fun _=>True) ?_ ?_
   · repeat' (first|((with_reducible apply oq_id);first|(focus ((with_reducible apply oq_indexAddrN);(iterate 4 exact rfl);omega))|(apply oq_fn;exact rfl;first|exact trivial|(and_intros<;>omega)|omega|skip)|((with_reducible apply oq_load);exact rfl;exact rfl))|((with_reducible apply tl_id);first|(with_reducible apply tl_nil)|((with_reducible apply u_q);(iterate 4 exact rfl))|((with_reducible apply u_s0);exact rfl;exact rfl))|((with_reducible apply os_id);first|((with_reducible apply (os_storeB1 hlen'));(iterate 3 exact rfl);(repeat first|exact P0|apply P1)))|((with_reducible apply rd_id);first|(apply Rd.own;(repeat first|exact P0|apply P1);exact rfl;done))|((with_reducible apply t_id);first|(apply t_region;kernel_rfl)))
     all_goals exact ⟨rfl,(),trivial,by (repeat first|exact FrSub.nil|(apply FrSub.cons;exact rfl)),by (repeat (first|exact HpSub.refl _|(apply HpSub.consE;(repeat first|exact P0|apply P1);exact rfl)|exact HpSub.nil))⟩
   rintro ⟨⟩ -
   try dsimp only
   refine t_cut (ι:=Option (Nat×Nat)) (fun o=>[(2,.int .i64 ((b:Nat):Int)),(3,.pointer (some ⟨b3,0,none⟩)),(7,.slice (some ⟨bs,0,none⟩) n n),(8,.pointer (some ⟨pb,0,none⟩)),(9,.pointer (some ⟨b9,0,none⟩)),(47,sI (cI (nb W n x.2)) o),(48,.int .i64 (((nb W n x.2).length:Nat):Int)),(49,.int .i64 0)]) (fun o=>[(b3,[.int .i64 ((W:Nat):Int),.int .i64 ((Hh:Nat):Int),.slice (some ⟨bA,oA,none⟩) n cp],some (66,3,1)),(bs,(seen.set x.2 true).map bv,some (4,1,n)),(pb,[.slice (some ⟨db,0,none⟩) (f1).length cap],some (197,1,1)),(db,rcs (f1),some (195,3,cap)),(b9,[.int .i64 x.1,.int .i64 0,.int .i64 ((x.2:Nat):Int)],some (195,3,1))]++hI (cI (nb W n x.2)) o) (fun o=>o=none→nb W n x.2=[]) ?_ ?_
   · repeat' (first|((with_reducible apply oq_id);first|(apply oq_fn;exact rfl;first|exact trivial|(and_intros<;>omega)|omega|skip)|((with_reducible apply oq_load);exact rfl;exact rfl)|((with_reducible apply oq_loadAgg);exact rfl;exact rfl))|((with_reducible apply tl_id);first|(with_reducible apply tl_nil)|((with_reducible apply u_s);(iterate 3 exact rfl);(with_reducible apply os_callF (PV:=LsI (cI (nb W n x.2))) (hc:=Tryz.call83));exact rfl;exact rfl;exact fun D w1 hw1=>around6_calls (some ⟨bA,oA,none⟩) cp W Hh n x.2 t hxn w1;rintro _ _ ⟨_|⟨bo,co⟩,ho,rfl,rfl⟩;simp only [List.cons_append,List.nil_append])|((with_reducible apply u_q);(iterate 4 exact rfl)))|((with_reducible apply rd_id);first|(apply Rd.own;(repeat first|exact P0|apply P1);exact rfl;done))|((with_reducible apply t_id);first|(apply t_region;kernel_rfl))|exact Rdn.zero|apply Rdn.succ)
     all_goals skip
     · have hc0:cI (nb W n x.2)=[]:=ho rfl
       have hn0:nb W n x.2=[]:=by simpa [cI] using hc0
       rw [hn0]
       exact ⟨(by first|rfl|trivial),none,fun _=>rfl,by (repeat' (first|exact FrSub.nil|(apply FrSub.cons;exact rfl))),by (repeat' (first|exact HpSub.refl _))⟩
     · have hcl:=cI_len (nb W n x.2)
       exact ⟨(by first|rfl|trivial),some (bo,co),(fun hh=>by cases hh),by (repeat (first|exact FrSub.nil|(apply FrSub.cons;exact rfl)|(apply FrSub.consE;exact rfl;(rw [← hcl])))),by (repeat' (first|exact HpSub.refl _|(apply HpSub.consE;(repeat first|exact P0|apply P1);first|exact rfl|(simp [iv,cI];done))))⟩
   rintro o ho
   try dsimp only
   obtain ⟨l,hl⟩:∃ l,l=nb W n x.2:=⟨_,rfl⟩
   rw [← hl] at ho hnl hnlt ⊢
   ((all_goals refine gqO0 ?_);(all_goals constructor);(any_goals exact trivial);all_goals intros)
   apply t_loopK (GH:=[]) (ι:=Nat×List Rc×Nat×Nat) [2,3,7,8,9,47,48] (fun z=>[(49,.int .i64 ((z.1:Nat):Int))]) (fun z=>[(b3,[.int .i64 ((W:Nat):Int),.int .i64 ((Hh:Nat):Int),.slice (some ⟨bA,oA,none⟩) n cp],some (66,3,1)),(bs,(seen.set x.2 true).map bv,some (4,1,n)),(pb,[.slice (some ⟨z.2.2.1,0,none⟩) (z.2.1).length z.2.2.2],some (197,1,1)),(z.2.2.1,rcs (z.2.1),some (195,3,z.2.2.2)),(b9,[.int .i64 x.1,.int .i64 0,.int .i64 ((x.2:Nat):Int)],some (195,3,1))]++hI (cI l) o) (fun z=>z.1≤l.length∧z.2.1.Perm ((l.take z.1).map (fun c=>(max x.1 (gr g c),c))++f1)∧Hord z.2.1 z.2.1.length∧z.2.1.length=m+z.1) (fun z=>l.length-z.1) ((0,f1,db,cap))
   (repeat (first|exact KeepF.nil|(apply KeepF.cons;exact rfl)|apply KeepF.skip))
   (repeat first|exact FrSub.nil|(apply FrSub.cons;exact rfl))
   (simp only [List.append_nil];exact HpSub.refl _)
   · exact ⟨Nat.zero_le _,List.Perm.refl _,(by simp only;rw [hfl];exact hf1),(by simp only;omega)⟩
   clear db cap
   rintro ⟨k,f2,db2,cap2⟩ ⟨hk,hp2,ho2,hl2⟩
   simp only at hk hp2 ho2 hl2
   try dsimp only
   simp only [List.append_nil,List.cons_append,List.nil_append]
   by_cases hkl:k<l.length
   · rcases o with _|⟨bo,co⟩
     · rw [ho rfl] at hkl;simp at hkl
     have hc:l[k]?=some l[k]:=List.getElem?_eq_getElem hkl
     generalize l[k]=c at hc
     have hcn:=hnlt c (List.mem_of_getElem? hc)
     have hck:(cI l)[k]?=some (c:Int):=by simp [cI,hc]
     have hcl:=cI_len l
     have hgc:=hgl c hcn
     rw [hl2] at ho2
     repeat' (first|((with_reducible apply oq_id);first|((with_reducible apply oq_makeIface);exact Tryz.runUnderlying193;(intro _ h;cases h);exact rfl)|((with_reducible apply oq_makeIface);exact Tryz.runUnderlying195;(intro _ h;cases h);exact rfl)|(focus ((with_reducible apply oq_indexAddrN);(iterate 4 exact rfl);omega))|((with_reducible apply oq_lssT);exact rfl;exact rfl;omega)|(apply oq_fn;exact rfl;first|exact trivial|(and_intros<;>omega)|omega|skip)|((with_reducible apply oq_load);exact rfl;exact rfl)|((with_reducible apply oq_build);(iterate 3 exact rfl)))|((with_reducible apply tl_id);first|(with_reducible apply tl_nil)|((with_reducible apply u_q);(iterate 4 exact rfl)))|((with_reducible apply gx_id);first|(with_reducible apply v_nil)|((with_reducible apply v_q);(iterate 3 exact rfl)))|((with_reducible apply ai_id);first|((with_reducible apply ai_s);(iterate 5 exact rfl);(with_reducible apply os_callM (PV:=fun v H1=>v=.tuple #[]∧∃ l' db' cap',H1=frH pb db' cap' l'∧l'.Perm ((max x.1 (gr g c),c)::f2)∧Hord l' (m+k+1)) (G:=frH pb db2 cap2 f2) (R:=[(b3,[.int .i64 ((W:Nat):Int),.int .i64 ((Hh:Nat):Int),.slice (some ⟨bA,oA,none⟩) n cp],some (66,3,1)),(bs,(seen.set x.2 true).map bv,some (4,1,n)),(b9,[.int .i64 x.1,.int .i64 0,.int .i64 ((x.2:Nat):Int)],some (195,3,1)),(bo,(cI l).map iv,some (3,1,co))]) (hc:=Tryz.call117));exact rfl;exact rfl;(unfold frH;simp only [List.cons_append,List.nil_append];(repeat (first|exact HpSub.refl _|(apply HpSub.consE;(repeat first|exact P0|apply P1);exact rfl)|apply HpSub.skipX|apply HpSub.skipX|exact HpSub.nil)));exact fun D w1 hw1 hg1=>heapPush_W pb db2 cap2 (m+k) f2 (max x.1 (gr g c),c) w1 hg1 hl2 (by omega) ho2;rintro _ _ ⟨rfl,f3,db3,cap3,rfl,hp3,ho3⟩;(unfold frH);(try simp only [List.cons_append,List.nil_append,List.append_nil])))|((with_reducible apply rd_id);first|(apply rdI hck;(repeat first|exact P0|apply P1);done)|(apply Rd.old;exact hgc;exact List.not_mem_nil)|(apply Rd.own;(repeat first|exact P0|apply P1);exact rfl;done))|((with_reducible apply t_id);first|(apply t_mix (id:=11) [0,1,2,3,4,5,6,7,8,9,10,11,12] 1 #[false,false,false,false,false,false,false,false,false,false,false,false,false,true];kernel_rfl;kernel_rfl;exact rfl)|(with_reducible apply t_seq)|(apply t_region;kernel_rfl)|((with_reducible apply t_condT);exact rfl)|(with_reducible apply t_skip)|(with_reducible apply t_block))|with_reducible apply q_thenN|with_reducible apply q_blockN|((with_reducible apply Norm.nil);exact rfl)|((with_reducible apply Norm.cons);exact rfl)|((with_reducible apply al_id);first|(apply al_done;decide +kernel)|(apply al_one 13;decide +kernel)))
     all_goals (refine ⟨(k+1,f3,db3,cap3),⟨(by simp only;omega),hp3.trans ?_,(by simp only;rw [hp3.length_eq,List.length_cons,hl2];exact ho3),(by simp only;rw [hp3.length_eq,List.length_cons,hl2];omega)⟩,(by simp only;omega),?_,?_⟩)
     all_goals first
       | (simp only [List.take_add_one,hc,Option.toList_some,List.map_append,List.map_cons,List.map_nil,List.append_assoc,List.singleton_append];exact (hp2.cons _).trans List.perm_middle.symm)
       | ((try simp only [List.cons_append,List.nil_append,List.append_nil]);(repeat' (first|exact FrSub.nil|(apply FrSub.cons;exact rfl)|exact HpSub.refl _|(apply HpSub.consE;(repeat first|exact P0|apply P1);first|exact rfl|(simp [iv,cI];done)))))
   · obtain rfl:k=l.length:=by omega
     ((all_goals refine gqO1 ?_);(all_goals constructor);(any_goals exact trivial);all_goals intros)
     all_goals (refine ⟨(seen.set x.2 true,f2,db2,cap2),⟨hsea.next t hpm hmin (by rw [hsx];simp) (by rw [← hl];rw [List.take_length] at hp2;exact hp2),ho2,(by simp only;omega),(by simp only;rw [List.getElem?_set_ne hxb];exact hnb)⟩,(by simp only;omega),?_,?_⟩)
     all_goals ((try simp only [List.cons_append,List.nil_append,List.append_nil]);(repeat' (first|exact FrSub.nil|(apply FrSub.cons;exact rfl)|(apply HpSub.consE;(repeat first|exact P0|apply P1);first|exact rfl|(simp [iv,cI];done))|apply HpSub.skipX|exact HpSub.nil)))
theorem bfsRow_snoc {g:List Int} {h:Int} {d c:Nat}:∀ (l:List Nat) (s:List Nat×List Nat),bfsRow g h d (l++[c]) s=(if (bfsRow g h d l s).1.getD c 0=0∧gr g c≤h then ((bfsRow g h d l s).1.set c d,(bfsRow g h d l s).2++[c]) else bfsRow g h d l s)
 | [],s=>rfl
 | x::l,s=>by
   rw [List.cons_append]
   simp only [bfsRow]
   exact bfsRow_snoc l _
theorem cI_at {l:List Nat} {c:Nat} (h:c<l.length):(cI l)[c]?=some ((l.getD c 0:Nat):Int):=by
 simp [cI,List.getElem?_eq_getElem h,List.getD_eq_getElem?_getD]
theorem cI_set (l:List Nat) (c d:Nat):(cI l).set c (d:Int)=cI (l.set c d):=by simp [cI,List.map_set]
theorem cI_snoc (l:List Nat) (c:Nat):cI (l++[c])=cI l++[(c:Int)]:=by simp [cI]
inductive IsP (W Hh:Int) (g:List Int) (a b:Int):Int→Int→List Nat→Prop
 | ground (h:terB W Hh g=false):IsP W Hh g a b 60 0 []
 | arg (h:terB W Hh g=true) (ha:¬ ((0≤a∧a≤(g.length:Int)-1)∧0≤b∧b≤(g.length:Int)-1)):IsP W Hh g a b 2 0 []
 | ok {w n x y k:Nat} {h:Int} {L P:List Nat} (hT:terB W Hh g=true) (hw:W=w) (hn:g.length=n) (hx:a=x) (hy:b=y) (xn:x<n) (yn:y<n) (hh:IsPass w n g x y h) (hB:Bfs w n g h L k ((List.replicate n 0).set y 1) [y]) (hD:Dist w n g h y L) (hP:Pth w n L y x P):IsP W Hh g a b 0 h P
theorem ter_of {W Hh:Int} {g:List Int} (h:terB W Hh g=true):∃ w hh:Nat,W=w∧Hh=hh∧Ter w hh g.length∧∀ c,c<g.length→-500≤gr g c∧gr g c≤9000:=by
 obtain ⟨⟨h1,h2,h3,h4⟩,h5,h6⟩:=terB_iff.1 h
 obtain ⟨w,rfl⟩:=Int.eq_ofNat_of_zero_le (show 0≤W by omega)
 obtain ⟨hh,rfl⟩:=Int.eq_ofNat_of_zero_le (show 0≤Hh by omega)
 refine ⟨w,hh,rfl,rfl,⟨by omega,by omega,by omega,by omega,by exact_mod_cast h5⟩,fun c hc=>?_⟩
 have:g[c]?=some g[c]:=List.getElem?_eq_getElem hc
 rw [gr_of this]
 exact h6 _ (List.getElem_mem hc)
theorem pass_ex {W Hh n:Nat} {g:List Int} {a b:Nat} (t:Ter W Hh n) (hg:∀ c,c<n→-500≤gr g c∧gr g c≤9000) (ha:a<n) (hb:b<n):∃ h,IsPass W n g a b h∧-500≤h∧h≤9000:=by
 have htop:Rch W n g 9000 a b:=rch_all t (fun c hc=>(hg c hc).2) ha hb
 have key:∀ m:Nat,(∃ q:Nat,q≤m∧Rch W n g (-500+(q:Int)) a b)→∃ h,IsPass W n g a b h∧-500≤h∧h≤9000:=by
   intro m
   induction m with
   | zero=>
     rintro ⟨q,hq,hr⟩
     obtain rfl:q=0:=by omega
     refine ⟨-500+((0:Nat):Int),⟨hr,fun k hk=>?_⟩,by omega,by omega⟩
     have:=(hg a ha).1
     have:=hk.src
     omega
   | succ m ih=>
     rintro ⟨q,hq,hr⟩
     by_cases hl:∃ q:Nat,q≤m∧Rch W n g (-500+(q:Int)) a b
     · exact ih hl
     · obtain rfl:q=m+1:=by
         rcases Nat.lt_or_ge q (m+1) with h|h
         · exact (hl ⟨q,by omega,hr⟩).elim
         · omega
       refine ⟨-500+((m+1:Nat):Int),⟨hr,fun k hk=>?_⟩,by omega,?_⟩
       · have h1:=(hg a ha).1
         have h2:=hk.src
         rcases Int.lt_or_le k (-500+((m+1:Nat):Int)) with h|h
         · obtain ⟨z,hz⟩:=Int.eq_ofNat_of_zero_le (show 0≤k+500 by omega)
           exact (hl ⟨z,by omega,by rw [show (-500:Int)+(z:Int)=k by omega];exact hk⟩).elim
         · exact h
       · rcases Int.lt_or_le 9000 (-500+((m+1:Nat):Int)) with h|h
         · exact (hl ⟨9500,by omega,by rw [show (-500:Int)+((9500:Nat):Int)=9000 by omega];exact htop⟩).elim
         · exact h
 exact key 9500 ⟨9500,Nat.le_refl _,by rw [show (-500:Int)+((9500:Nat):Int)=9000 by omega];exact htop⟩
theorem isP_ex (W Hh:Int) (g:List Int) (a b:Int):∃ e h P,IsP W Hh g a b e h P:=by
 cases hT:terB W Hh g with
 | false=>exact ⟨_,_,_,.ground hT⟩
 | true=>
   by_cases hr:(0≤a∧a≤(g.length:Int)-1)∧0≤b∧b≤(g.length:Int)-1
   · obtain ⟨w,hh,rfl,rfl,t,hg⟩:=ter_of hT
     obtain ⟨x,rfl⟩:=Int.eq_ofNat_of_zero_le hr.1.1
     obtain ⟨y,rfl⟩:=Int.eq_ofNat_of_zero_le hr.2.1
     have xn:x<g.length:=by omega
     have yn:y<g.length:=by omega
     obtain ⟨h,hp,_⟩:=pass_ex t hg xn yn
     have hy:gr g y≤h:=hp.is.dst
     obtain ⟨k,L,hB,hD⟩:=BI.runs t _ rfl (bfs_start (g:=g) (h:=h) t yn hy)
     have hLx:=hD.reach t yn (hp.is.symm t xn)
     obtain ⟨P,hP,_⟩:=hD.path t (L.getD x 0-1) x xn (by omega)
     exact ⟨_,_,_,.ok hT rfl rfl rfl rfl xn yn hp hB hD hP⟩
   · exact ⟨_,_,_,.arg hT hr⟩
theorem Pth.head {W n:Nat} {L:List Nat} {a b:Nat} {l:List Nat} (h:Pth W n L b a l):∃ t,l=a::t:=by
 cases h with
 | done=>exact ⟨[],rfl⟩
 | next _ _ k=>exact ⟨_,rfl⟩
def PasV (e h:Int) (P:List Nat) (v:Value) (H:Hp):Prop:=∃ o,(o=none→P=[])∧v=.tuple #[.int .i64 h,sI (cI P) o,.int .i64 e]∧H=hI (cI P) o
def exT:List Bool:=[true,false,true]
def exL:List Lg:=[⟨0,1,300,400,500⟩,⟨1,2,300,0,200⟩]
def exG:List Gl:=[⟨0,30,60,80,80,0⟩]
theorem along_val {a b c d dx dy l h q r s:Int} (h1:windE a b c d=0) (h2:wayOk dx dy=true) (hl:alongLo a b c d dx dy=l) (hh:alongHi a b c d dx dy=h) (hq:dx*dx+dy*dy=q) (q0:0<q) (h3:IsSh l q r) (h4:IsSh (-h) q (-s)):alongV a b c d dx dy=(r,s,0):=by
 unfold alongV
 rw [if_pos h1,if_pos h2,hl,hh,hq,h3.val q0,h4.val q0,Int.neg_neg]
theorem rate_val {v al ah cl ch x y r s a b:Int} (hf:¬ v<farR cl ch) (hx:v*v-farR cl ch*farR cl ch=x) (hy:v*v-nearR cl ch*nearR cl ch=y) (hr:IsR x r) (hs:IsR y s) (h1:¬ al+r<1) (ha:al+r=a) (hb:ah+(if s*s=y then s else s+1)=b):rate v al ah cl ch=some (a,b):=by
 unfold rate rtHi
 rw [if_neg hf,hx,hy,hr.rt,hs.rt,if_neg h1,ha,hb]
theorem wrate_val {v up x y:Int} {z:Wn} {a b c d al ah cl ch:Int} {o:Option (Int×Int)} (h0:windV z.l up up=((a,b),(c,d),0)) (h1:alongV a b c d x y=(al,ah,0)) (h2:alongV a b c d (-y) x=(cl,ch,0)) (h3:rate v al ah cl ch=o):wrate v up x y z=o:=by
 unfold wrate
 rw [h0]
 simp only
 rw [h1,h2]
 exact h3
theorem legR_one {v q1 q2 q3 h x y:Int} {bk:Bool} {z:Wn} {r:Int×Int} (hu:¬ q3<upV q1 q2 h) (hr:wrate v (upV q1 q2 h) (turnX bk x) (turnX bk y) z=some r):legR v q1 q2 q3 h x y bk [z]=[r]:=by
 unfold legR
 rw [if_neg hu]
 unfold ratesV
 simp [hr]
def exR (x:Nat×Bool):List (Int×Int):=if x.1=0 then (if x.2 then [(98,118)] else [(280,300)]) else if x.1=1 then (if x.2 then [(123,154)] else [(213,244)]) else []
theorem al_a:alongV 30 60 80 80 300 400=(82,100,0):=along_val (l:=41000) (h:=50000) (q:=250000) (by decide +kernel) (by decide +kernel) (by decide +kernel) (by decide +kernel) (by decide) (by decide) (by unfold IsSh ShP;decide) (by unfold IsSh ShP;decide)
theorem al_b:alongV 30 60 80 80 (-400) 300=(0,24,0):=along_val (l:=0) (h:=12000) (q:=250000) (by decide +kernel) (by decide +kernel) (by decide +kernel) (by decide +kernel) (by decide) (by decide) (by unfold IsSh ShP;decide) (by unfold IsSh ShP;decide)
theorem al_c:alongV 30 60 80 80 (-300) (-400)=(-100,-82,0):=along_val (l:=-50000) (h:=-41000) (q:=250000) (by decide +kernel) (by decide +kernel) (by decide +kernel) (by decide +kernel) (by decide) (by decide) (by unfold IsSh ShP;decide) (by unfold IsSh ShP;decide)
theorem al_d:alongV 30 60 80 80 400 (-300)=(-24,0,0):=along_val (l:=-12000) (h:=0) (q:=250000) (by decide +kernel) (by decide +kernel) (by decide +kernel) (by decide +kernel) (by decide) (by decide) (by unfold IsSh ShP;decide) (by unfold IsSh ShP;decide)
theorem al_e:alongV 30 60 80 80 300 0=(30,60,0):=along_val (l:=9000) (h:=18000) (q:=90000) (by decide +kernel) (by decide +kernel) (by decide +kernel) (by decide +kernel) (by decide) (by decide) (by unfold IsSh ShP;decide) (by unfold IsSh ShP;decide)
theorem al_f:alongV 30 60 80 80 0 300=(80,80,0):=along_val (l:=24000) (h:=24000) (q:=90000) (by decide +kernel) (by decide +kernel) (by decide +kernel) (by decide +kernel) (by decide) (by decide) (by unfold IsSh ShP;decide) (by unfold IsSh ShP;decide)
theorem al_g:alongV 30 60 80 80 (-300) 0=(-60,-30,0):=along_val (l:=-18000) (h:=-9000) (q:=90000) (by decide +kernel) (by decide +kernel) (by decide +kernel) (by decide +kernel) (by decide) (by decide) (by unfold IsSh ShP;decide) (by unfold IsSh ShP;decide)
theorem al_h:alongV 30 60 80 80 0 (-300)=(-80,-80,0):=along_val (l:=-24000) (h:=-24000) (q:=90000) (by decide +kernel) (by decide +kernel) (by decide +kernel) (by decide +kernel) (by decide) (by decide) (by unfold IsSh ShP;decide) (by unfold IsSh ShP;decide)
section
variable {z:Wn} (hz:z.l=exG)
theorem exW1:windV exG 700 700=((30,60),(80,80),0):=by decide +kernel
theorem exW2:windV exG 600 600=((30,60),(80,80),0):=by decide +kernel
include hz
theorem exR_eq:∀ (t:Nat) (y:Lg) (bk:Bool),exL[t]?=some y→legRz 200 600 200 800 y bk [z]=exR (t,bk):=by
 intro t y bk hy
 have h1:windV z.l 700 700=((30,60),(80,80),0):=hz ▸ exW1
 have h2:windV z.l 600 600=((30,60),(80,80),0):=hz ▸ exW2
 match t,hy with
 | 0,hy=>
   obtain rfl:=Option.some.inj hy
   cases bk with
   | false=>exact legR_one (by decide) (wrate_val h1 al_a al_b (rate_val (x:=39424) (y:=40000) (r:=198) (s:=200) (by decide +kernel) (by decide +kernel) (by decide +kernel) ⟨by decide,by decide,by decide⟩ ⟨by decide,by decide,by decide⟩ (by decide) (by decide) (by decide)))
   | true=>exact legR_one (by decide) (wrate_val h1 al_c al_d (rate_val (x:=39424) (y:=40000) (r:=198) (s:=200) (by decide +kernel) (by decide +kernel) (by decide +kernel) ⟨by decide,by decide,by decide⟩ ⟨by decide,by decide,by decide⟩ (by decide) (by decide) (by decide)))
 | 1,hy=>
   obtain rfl:=Option.some.inj hy
   cases bk with
   | false=>exact legR_one (by decide) (wrate_val h2 al_e al_f (rate_val (x:=33600) (y:=33600) (r:=183) (s:=183) (by decide +kernel) (by decide +kernel) (by decide +kernel) ⟨by decide,by decide,by decide⟩ ⟨by decide,by decide,by decide⟩ (by decide) (by decide) (by decide)))
   | true=>exact legR_one (by decide) (wrate_val h2 al_g al_h (rate_val (x:=33600) (y:=33600) (r:=183) (s:=183) (by decide +kernel) (by decide +kernel) (by decide +kernel) ⟨by decide,by decide,by decide⟩ ⟨by decide,by decide,by decide⟩ (by decide) (by decide) (by decide)))
 | t+2,hy=>cases hy
omit hz
theorem len_val {x y r q:Int} (hq:10000*(x*x+y*y)=q) (h:q=r*r) (h0:0≤r) (h1:q≤1000000000000):lenV x y=r:=by
 have hr:IsR q r:=⟨h0,by omega,by subst h;rw [Int.add_mul,Int.mul_add,Int.mul_add];omega⟩
 unfold lenV rootV
 have hq0:0≤q:=by subst h;exact Int.mul_nonneg h0 h0
 have f1:fineS (q,q)=true:=(fineS_iff _).2 ⟨Int.le_refl _,by show _≤q;omega,by show q≤_;omega⟩
 rw [hq,if_pos f1,if_neg (by omega),hr.rt,if_pos h.symm]
theorem len_a:lenV 300 400=50000:=len_val (q:=2500000000) (by decide) (by decide) (by decide) (by decide)
theorem len_b:lenV 300 0=30000:=len_val (q:=900000000) (by decide) (by decide) (by decide) (by decide)
def exN (t:Nat):Nat:=if t=0 then 50000 else if t=1 then 30000 else 0
theorem exN_eq:lnL exL=exN:=by
 funext t
 match t with
 | 0=>show (lenV 300 400).toNat=_;rw [len_a];rfl
 | 1=>show (lenV 300 0).toNat=_;rw [len_b];rfl
 | t+2=>rfl
def exC (y:Lg) (bk:Bool):Int:=if y.h=500 then (if bk then 1021 else 358) else (if bk then 488 else 282)
include hz
theorem exC_eq:∀ y∈exL,∀ bk,legC 200 600 200 800 6 12 [z] y bk=exC y bk:=by
 intro y hy bk
 obtain ⟨t,ht⟩:=List.getElem?_of_mem hy
 have h:=exR_eq hz t y bk ht
 unfold legC
 rw [h]
 match t,ht with
 | 0,ht=>
   obtain rfl:=Option.some.inj ht
   show (if exR (0,bk)=[] then (-1:Int) else ((aH (hullT (lenV 300 400).toNat (exR (0,bk))).1 (hullT (lenV 300 400).toNat (exR (0,bk))).2 6 12 8:Nat):Int))=_
   rw [len_a]
   cases bk<;>decide +kernel
 | 1,ht=>
   obtain rfl:=Option.some.inj ht
   show (if exR (1,bk)=[] then (-1:Int) else ((aH (hullT (lenV 300 0).toNat (exR (1,bk))).1 (hullT (lenV 300 0).toNat (exR (1,bk))).2 6 12 8:Nat):Int))=_
   rw [len_b]
   cases bk<;>decide +kernel
 | t+2,ht=>cases ht
omit hz
theorem fm_congr {α β:Type} {f g:α→Option β}:∀ {l:List α},(∀ x∈l,f x=g x)→l.filterMap f=l.filterMap g
 | [],_=>rfl
 | a::l,h=>by
   rw [List.filterMap_cons,List.filterMap_cons,h a (List.mem_cons_self ..),fm_congr fun x hx=>h x (List.mem_cons_of_mem _ hx)]
theorem arcs_congr {c c':Lg→Bool→Int} {L:List Lg} (h:∀ y∈L,∀ bk,c y bk=c' y bk):arcs c L=arcs c' L:=by
 funext i
 unfold arcs
 refine fm_congr fun t ht=>?_
 unfold arcT
 cases hy:L[t]? with
 | none=>rfl
 | some y=>
   have hm:=h y (List.mem_of_getElem? hy)
   show arcOf c i y t=arcOf c' i y t
   unfold arcOf
   rw [hm false,hm true]
include hz
theorem exA:arcs (legC 200 600 200 800 6 12 [z]) exL=arcs exC exL:=arcs_congr (exC_eq hz)
theorem exE:askE 3 exL 200 600 200 800 100 6 12 [z]=0:=by
 have hw:windB z.l=true:=hz ▸ (by decide +kernel:windB exG=true)
 unfold askE
 rw [if_pos (by decide +kernel),if_pos (by decide +kernel)]
 simp [castE,hw]
theorem exBest:bestR 3 exL 200 600 200 800 100 6 12 [z] 0 2=([0,1],640,0):=by
 unfold bestR lfG
 rw [if_pos (by exact exE hz),if_pos (by decide),exA hz]
 decide +kernel
theorem exF:flC 200 600 200 800 6 12 [z] exL=fun x=>if x.1=0 then (if x.2 then 1021 else 358) else if x.1=1 then (if x.2 then 488 else 282) else -1:=by
 funext ⟨t,bk⟩
 unfold flC
 match t with
 | 0=>exact exC_eq hz _ (List.mem_cons_self .. : (⟨0,1,300,400,500⟩:Lg)∈exL) bk
 | 1=>exact exC_eq hz _ (List.mem_cons_of_mem _ (List.mem_cons_self ..):(⟨1,2,300,0,200⟩:Lg)∈exL) bk
 | t+2=>rfl
def exP:Trp:=([(0,false),(1,false)],[0,1,2])
omit hz
theorem exTrip:tripI 3 exL 0 [0,1]=some exP:=by decide +kernel
include hz
theorem exLst:lstE 3 exL exT 200 600 200 800 100 6 12 [z] exP=(740,0):=by
 unfold lstE
 rw [exA hz,exF hz]
 decide +kernel
theorem exBil:bilL 200 600 200 800 6 12 [z] exL=fun x me=>bilV (exR x) me 6 12:=by
 funext ⟨t,bk⟩ me
 unfold bilL
 match t with
 | 0=>exact congrArg (fun R=>bilV R me 6 12) (exR_eq hz 0 _ bk rfl)
 | 1=>exact congrArg (fun R=>bilV R me 6 12) (exR_eq hz 1 _ bk rfl)
 | t+2=>rfl
omit hz
theorem las_val {g:List (Nat×Bool)} {op:Bool} {hp:Nat→Nat→Bool} {ln:Nat→Nat} {r:Nat} (hg:g.length=2) (ho:op=true) (h1:hp 1 0=false) (h0:hp 0 0=true) (hr:hp 0 r=true) (hr1:hp 0 (r+1)=false) (hl:r+1≤ln 0) (ha:AntiP hp ln g.length):lasR g op hp ln=((0,r),0):=by
 unfold lasR
 rw [if_neg (by intro e;rw [e] at hg;cases hg),ho,if_neg (by decide),hg]
 simp only [lstP]
 rw [h1,if_neg (by decide),h0,if_pos rfl]
 simp only
 rw [lastM_eq hr (ln 0) (by omega)]
 intro j hj hjl
 cases hc:hp 0 j with
 | false=>rfl
 | true=>rw [ha 0 (r+1) 0 j (by omega) hl hjl (.inr ⟨rfl,hj⟩) hc] at hr1;cases hr1
include hz
theorem exNo:ptR 200 600 200 800 6 12 [z] exL exP (noP 740 100)=((0,23226),0):=by
 unfold ptR
 rw [exF hz,exBil hz,exN_eq]
 exact las_val rfl (by decide +kernel) (by decide +kernel) (by decide +kernel) (by decide +kernel) (by decide +kernel) (by decide +kernel) (anti_of (fun x m m' h=>bilV_mono h) noP_anti)
theorem exPart:partR 3 exL 200 600 200 800 100 6 12 [z] 0 false 50000=.tuple #[.agg #[.int .i64 1666,.int .i64 1786],.agg #[.int .i64 166,.int .i64 358],.int .i64 0]:=by
 unfold partR
 rw [if_pos (exE hz),if_pos (by decide)]
 show (if 0≤(50000:Int)∧(50000:Int)≤lenV 300 400 then fullV (legRz 200 600 200 800 ⟨0,1,300,400,500⟩ false [z]) 50000 6 12 else no3 2)=_
 rw [len_a,if_pos (by decide),exR_eq hz 0 _ false rfl]
 unfold fullV
 rw [if_neg (by decide)]
 rfl
end
def exH:List Int:=[0,9,0,0,7,0,0,8,0]
def bfsN (W n:Nat) (g:List Int) (h:Int):Nat→List Nat×List Nat→Option (List Nat)
 | 0,(lev,[])=>some lev
 | k+1,(lev,a::q)=>bfsN W n g h k (bfsRow g h (lev.getD a 0+1) (nb W n a) (lev,q))
 | _,_=>none
theorem bfs_of {W n:Nat} {g:List Int} {h:Int} {L:List Nat}:∀ (k:Nat) (s:List Nat×List Nat),bfsN W n g h k s=some L→Bfs W n g h L k s.1 s.2
 | 0,(lev,[]),e=>by obtain rfl:=Option.some.inj e;exact .done
 | 0,(lev,a::q),e=>by cases e
 | k+1,(lev,[]),e=>by cases e
 | k+1,(lev,a::q),e=>.next (bfs_of k _ e)
theorem exPass:IsPass 3 9 exH 0 2 7:=by
 refine ⟨?_,fun k hk=>?_⟩
 · exact .step (.step (.step (.step (.refl (by decide)) (by decide:3∈nb 3 9 0) (by decide)) (by decide:4∈nb 3 9 3) (by decide)) (by decide:5∈nb 3 9 4) (by decide)) (by decide:2∈nb 3 9 5) (by decide)
 · rcases Int.lt_or_le k 7 with h|h
   · have key:∀ c,Rch 3 9 exH k 0 c→c∈[0,3,6]:=by
       intro c hc
       induction hc with
       | refl _=>decide
       | step _ hn hg ih=>
         have hs:∀ b∈[0,3,6],∀ c∈nb 3 9 b,gr exH c≤6→c∈[0,3,6]:=by decide
         exact hs _ ih _ hn (by omega)
     exact absurd (key 2 hk) (by decide)
   · exact h
theorem exIsP {e h:Int} {P:List Nat} (hP:IsP 3 3 exH 0 2 e h P):e=0∧h=7∧P=[0,3,4,5,2]:=by
 cases hP with
 | ground h=>exact absurd h (by decide)
 | arg h ha=>exact absurd ⟨⟨by decide,by decide⟩,by decide,by decide⟩ ha
 | @ok w n x y k h L P hT hw hn hx hy xn yn hh hB hD hP=>
   obtain rfl:w=3:=by omega
   obtain rfl:n=9:=by rw [← hn];rfl
   obtain rfl:x=0:=by omega
   obtain rfl:y=2:=by omega
   obtain rfl:=hh.uniq exPass
   obtain rfl:L=[5,0,1,4,3,2,5,0,3]:=hB.uniq (bfs_of 7 (_,_) (by decide +kernel))
   refine ⟨rfl,rfl,hP.uniq ?_⟩
   exact .next (by decide) (by decide:nxt 3 9 _ 0=some 3) (.next (by decide) (by decide:nxt 3 9 _ 3=some 4) (.next (by decide) (by decide:nxt 3 9 _ 4=some 5) (.next (by decide) (by decide:nxt 3 9 _ 5=some 2) .done)))
theorem sameInts_calls (A A':Option Addr) (n c n' c':Nat) (l m:List Int) (q:Bool) (hq:q=true↔l=m) (w:World) (hr:RdS w 1 A n (l.map inCells)) (hr':RdS w 1 A' n' (m.map inCells)) (hn:n≤1000000) (hn':n'≤1000000) :
   Calls Tryz.prog 75 #[.slice A n c,.slice A' n' c'] w fun e w'=>e=.returned (.bool q)∧Ext w w':=by
 have hl:=hr.len
 have hl':=hr'.len
 simp only [List.length_map] at hl hl'
 by_cases hnn:n=n'
 · subst hnn
   refine enterQ (c:=cx w 26) Tryz.func75 rfl rfl rfl rfl ?_
   ((all_goals refine goT1e ?_);(all_goals constructor);(any_goals exact trivial);all_goals intros)
   apply t_loopK (ι:=Nat) [0,1] (fun k=>[(5,.int .i64 (k:Nat))]) (fun _=>[]) (fun k=>k≤n∧∀ j,j<k→l[j]?=m[j]?) (fun k=>n-k) (0)
   (repeat (first|exact KeepF.nil|(apply KeepF.cons;exact rfl)|apply KeepF.skip))
   (repeat first|exact FrSub.nil|(apply FrSub.cons;exact rfl))
   (repeat (first|exact HpSub.refl _|(apply HpSub.consE;(repeat first|exact P0|apply P1);exact rfl)|exact HpSub.nil))
   · exact ⟨by omega,fun j hj=>by omega⟩
   rintro k ⟨hk,hkp⟩
   try simp only [List.cons_append,List.nil_append]
   by_cases hlt:k<n
   · obtain ⟨b,o,x,rfl,_,hx,c0⟩:=in_read hr hlt
     obtain ⟨b',o',y,rfl,_,hy,d0⟩:=in_read hr' hlt
     by_cases hxy:x=y
     · subst hxy
       ((all_goals refine goT1e ?_);(all_goals constructor);(any_goals exact trivial);all_goals intros)
       refine ⟨k+1,⟨by omega,fun j hj=>?_⟩,by omega,?_,?_⟩
       · rcases Nat.lt_or_ge j k with h|h
         · exact hkp j h
         · obtain rfl:j=k:=by omega
           rw [hx,hy]
       · try simp only [List.cons_append,List.nil_append]
         (repeat' (first|exact FrSub.nil|(apply FrSub.cons;exact rfl)))
       · try simp only [List.cons_append,List.nil_append]
         (repeat' (first|exact HpSub.refl _))
     · ((all_goals refine goT1e ?_);(all_goals constructor);(any_goals exact trivial);all_goals intros)
       have hf:q=false:=by
         cases q with
         | false=>rfl
         | true=>
           have e:=hq.1 rfl
           rw [e,hy] at hx
           exact absurd (Option.some.inj hx).symm hxy
       rw [hf];rfl
   · ((all_goals refine goT1e ?_);(all_goals constructor);(any_goals exact trivial);all_goals intros)
     have:q=true:=hq.2 (List.ext_getElem? fun j=>by
       rcases Nat.lt_or_ge j n with h|h
       · exact hkp j (by omega)
       · rw [List.getElem?_eq_none (by omega),List.getElem?_eq_none (by omega)])
     rw [this];rfl
 · have:q=false:=by
     cases q with
     | false=>rfl
     | true=>exact absurd (by rw [← hl,← hl',hq.1 rfl]) hnn
   refine enterQ (c:=cx w 26) Tryz.func75 rfl rfl rfl rfl ?_
   ((all_goals refine goT1e ?_);(all_goals constructor);(any_goals exact trivial);all_goals intros)
   rw [this]
   all_goals rfl
end Go.Proofs.YtcjkndjjbjoehaaGreat
