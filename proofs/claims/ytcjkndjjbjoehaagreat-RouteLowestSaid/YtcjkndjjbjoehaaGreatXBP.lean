/- A part of the proof: rules for walks, and contracts of functions (16). -/
import Derived.Test.YtcjkndjjbjoehaaGreatXBA
import Derived.Test.YtcjkndjjbjoehaaGreatXBM
import Derived.Test.YtcjkndjjbjoehaaGreatXBL
import Derived.Test.YtcjkndjjbjoehaaGreatXBH
import Derived.Test.YtcjkndjjbjoehaaGreatXBC
import Derived.Test.YtcjkndjjbjoehaaGreatXBO
import Derived.Test.YtcjkndjjbjoehaaGreatXBK
import Derived.Test.YtcjkndjjbjoehaaGreatXBD
import Derived.Test.YtcjkndjjbjoehaaGreatXBN
set_option linter.unusedVariables false
set_option linter.unusedSimpArgs false
set_option maxRecDepth 100000
set_option maxHeartbeats 2000000
namespace Go.Proofs.YtcjkndjjbjoehaaGreat
theorem gqP0 {G A1 A2 A3 A4 A5 A6 A7 A8 A9 A10 A11 A12 A13 A14 A15 A16:Prop} (p:GoP A1 A2 A3 A4 A5 A6 A7 A8 A9 A10 A11 A12 A13 A14 A15 A16) (h:GoL A1→GoL A2→GoL A3→GoL A4→GoL A5→GoL A6→GoL A7→GoL A8→GoL A9→GoL A10→GoL A11→GoL A12→GoL A13→GoL A14→GoL A15→GoL A16→GoM→G:=by intro m1 m2 m3 m4 m5 m6 m7 m8 m9 m10 m11 m12 m13 m14 m15 m16 _;(repeat' (first|((with_reducible apply oq_id);first|((with_reducible apply oc_id);first|((with_reducible apply oq_call (hc:=Tryz.call66));exact rfl;exact rfl;exact fun D w1 hw1=>HN w1 hw1.ext.ext)|((with_reducible apply oq_call (hc:=Tryz.call67));exact rfl;exact rfl;(intro D w1 hw1;refine rfrom1_t ?_ hw1 (by (repeat first|exact P0|apply P1));omega))|((with_reducible apply oq_call (hc:=Tryz.call67));exact rfl;exact rfl;(intro D w1 hw1;refine rfrom1_f ?_ hw1 (by (repeat first|exact P0|apply P1));omega))|((with_reducible apply oq_call (hc:=Tryz.call86));exact rfl;exact rfl;exact fun D w1 hw1=>HL w1)|((with_reducible apply oq_call (hc:=Tryz.call87));exact rfl;exact rfl;exact fun D w1 hw1=>hP59 bD bM E w1 (DskR.of_has (hw1.sub (by unfold dkH dkC;(repeat' (first|exact FrSub.nil|(apply FrSub.cons;exact rfl)|exact HpSub.refl _|(apply HpSub.consE;(repeat first|exact P0|apply P1);exact rfl)|apply HpSub.skipX|apply HpSub.skipX|exact HpSub.nil)))) hnl) hE2)|((with_reducible apply oq_call (hc:=Tryz.call53));exact rfl;exact rfl;exact fun D w1 hw1=>HC w1 (hr.ext hw1.ext.ext))|((with_reducible apply oq_call (hc:=Tryz.call67));exact rfl;exact rfl;exact fun D w1 hw1=>HR _ w1 (int_rows (l:=[a,b]) rfl hw1 (by (repeat first|exact P0|apply P1)))))|((with_reducible apply ob_id);first|((with_reducible apply oq_neqT);exact rfl;exact rfl;omega)|(focus ((with_reducible apply (oq_subE (k:=(n:Int)-1)));exact rfl;exact rfl;omega))|((with_reducible apply oq_neqF);exact rfl;exact rfl;omega)|((with_reducible apply oq_eqlT);exact rfl;exact rfl;omega)|((with_reducible apply oq_leqT);exact rfl;exact rfl;omega)|((with_reducible apply oq_eqlF);exact rfl;exact rfl;omega)|((with_reducible apply oq_gtrT);exact rfl;exact rfl;omega)|((with_reducible apply oq_leqF);exact rfl;exact rfl;omega)|((with_reducible apply oq_lssF);exact rfl;exact rfl;omega))|(focus ((with_reducible apply oq_indexAddrN (i:=j));(iterate 4 exact rfl);omega))|(focus ((with_reducible apply oq_indexAddrN);(iterate 4 exact rfl);omega))|(apply oq_fn;exact rfl;first|exact trivial|(and_intros<;>omega)|omega|skip)|((with_reducible apply oq_load);exact rfl;exact rfl)|((with_reducible apply oq_loadAgg);exact rfl;exact rfl)|((with_reducible apply oq_build);(iterate 3 exact rfl)))|((with_reducible apply tl_id);first|(with_reducible apply tl_nil)|((with_reducible apply u_s);(iterate 3 exact rfl);(with_reducible apply os_callS (PV:=DskV AM _ m cM n cp v q1 q2 q3 q4 g0 g1 C L) (hc:=Tryz.call66));exact rfl;exact rfl;exact fun D w1 hw1=>HO w1 hw1.ext.ext;rintro _ _ ⟨bD,bM,E,rfl,rfl,hE2,hnl⟩;simp only [dkH,List.cons_append,List.nil_append])|((with_reducible apply u_q);(iterate 4 exact rfl))|((with_reducible apply u_s0);exact rfl;exact rfl)|((with_reducible apply u_s);(iterate 3 exact rfl))|((with_reducible apply u_skip);(iterate 3 exact rfl)))|((with_reducible apply gx_id);first|(with_reducible apply v_nil)|((with_reducible apply v_q);(iterate 3 exact rfl))|((with_reducible apply v_skip);(iterate 3 exact rfl)))|((with_reducible apply os_id);first|((with_reducible apply os_x);exact rfl)|((with_reducible apply os_storeAgg);(iterate 5 exact rfl))|((with_reducible apply os_store);(iterate 4 exact rfl)))|((with_reducible apply ox_id);first|((with_reducible apply ox_alloc);exact rfl;intro _)|((with_reducible apply ox_boxAgg);exact rfl;intro _)|((with_reducible apply ox_buildSlice1);(iterate 6 exact rfl);intro _))|((with_reducible apply ai_id);first|((with_reducible apply ai_q);(iterate 5 exact rfl))|((with_reducible apply ai_n0);(iterate 3 exact rfl)))|((with_reducible apply al_keep);focus (repeat (first|exact HpSub.refl _|(apply HpSub.cons;(repeat first|exact P0|apply P1))|apply HpSub.skipX|exact HpSub.nil)))|((with_reducible apply rd_id);first|(apply Rd.old;(first|exact c0|exact c1|exact c2|exact c3|exact c4|exact c5|exact c6);exact List.not_mem_nil)|(apply rdI hck;(repeat first|exact P0|apply P1);done)|(apply rdI hlc;(repeat first|exact P0|apply P1);done)|(apply Rd.old;exact hgc;exact List.not_mem_nil)|(apply Rd.own;(repeat first|exact P0|apply P1);exact rfl;done)|(apply Rd.old;(first|(with_reducible assumption)|exact c0|exact c1|exact c2|exact c3|exact c4|exact c5|exact c6|exact c7|exact c8|exact d0|exact d1|exact d2|exact d3|exact d4|exact d5);first|exact List.not_mem_nil|exact m0|exact m1|exact m2|exact m3|exact m4|exact m5|exact m6|exact m7|exact m8|exact m9))|((with_reducible apply t_id);first|(apply t_mix (id:=9) [0,1] 3 #[false,false,false,false,false];kernel_rfl;kernel_rfl;exact rfl)|(with_reducible apply t_seq)|(apply t_region;kernel_rfl)|((with_reducible apply t_condT);exact rfl)|(apply t_drawn;kernel_rfl;decide +kernel;try simp only [List.append_eq,List.cons_append,List.nil_append])|((with_reducible apply t_condF);exact rfl)|(with_reducible apply t_ret)|((with_reducible apply t_condD);exact rfl;all_goals first|(intro _;try (exfalso;omega))|skip)|(with_reducible apply t_skip)|(with_reducible apply t_block)|(with_reducible apply t_exit))|with_reducible apply q_thenN|with_reducible apply q_thenR|exact P0|(with_reducible apply P1)|exact Rdn.zero|apply Rdn.succ|((with_reducible apply Norm.nil);exact rfl)|((with_reducible apply Norm.cons);exact rfl)|(with_reducible apply end_ret)|exact rvs_nil|(with_reducible apply rvs_cons)|((with_reducible apply rv_tmp);exact rfl)|((with_reducible apply rv_cellAgg);exact rfl;exact rfl)|((with_reducible apply al_id);first|(apply al_done;decide +kernel)|(apply al_one 2;decide +kernel)|(apply al_one 3;decide +kernel)|(apply al_one 4;decide +kernel))|((with_reducible apply rv_cell);exact rfl;exact rfl)|exact Nat.le_of_ble_eq_true rfl|with_reducible apply q_blockN|with_reducible apply q_thenE|((with_reducible apply q_blockE);exact rfl)));(try focus (repeat (rename_i x;first|exact goD x m1.p|revert x)));(try focus (repeat (rename_i x;first|exact goD x m2.p|revert x)));(try focus (repeat (rename_i x;first|exact goD x m3.p|revert x)));(try focus (repeat (rename_i x;first|exact goD x m4.p|revert x)));(try focus (repeat (rename_i x;first|exact goD x m5.p|revert x)));(try focus (repeat (rename_i x;first|exact goD x m6.p|revert x)));(try focus (repeat (rename_i x;first|exact goD x m7.p|revert x)));(try focus (repeat (rename_i x;first|exact goD x m8.p|revert x)));(try focus (repeat (rename_i x;first|exact goD x m9.p|revert x)));(try focus (repeat (rename_i x;first|exact goD x m10.p|revert x)));(try focus (repeat (rename_i x;first|exact goD x m11.p|revert x)));(try focus (repeat (rename_i x;first|exact goD x m12.p|revert x)));(try focus (repeat (rename_i x;first|exact goD x m13.p|revert x)));(try focus (repeat (rename_i x;first|exact goD x m14.p|revert x)));(try focus (repeat (rename_i x;first|exact goD x m15.p|revert x)));(try focus (repeat (rename_i x;first|exact goD x m16.p|revert x)))) (e:GoTs A1 A2 A3 A4 A5 A6 A7 A8 A9 A10 A11 A12 A13 A14 A15 A16:=by constructor<;>first|(with_reducible exact GoT.t)|exact GoT.u):G:=p.run h
theorem gqP1 {G A1 A2 A3 A4 A5 A6 A7 A8 A9 A10 A11 A12 A13 A14 A15 A16:Prop} (p:GoP A1 A2 A3 A4 A5 A6 A7 A8 A9 A10 A11 A12 A13 A14 A15 A16) (h:GoL A1→GoL A2→GoL A3→GoL A4→GoL A5→GoL A6→GoL A7→GoL A8→GoL A9→GoL A10→GoL A11→GoL A12→GoL A13→GoL A14→GoL A15→GoL A16→GoM→G:=by intro m1 m2 m3 m4 m5 m6 m7 m8 m9 m10 m11 m12 m13 m14 m15 m16 _;(repeat' (first|((with_reducible apply oq_id);first|((with_reducible apply oc_id);first|((with_reducible apply oq_call (hc:=Tryz.call67));exact rfl;exact rfl;exact fun D w1 hw1=>HR _ w1 (int_rows (l:=[(x:Int),(y:Int)]) rfl hw1 (by (repeat first|exact P0|apply P1))))|((with_reducible apply oq_call (hc:=Tryz.call82));exact rfl;exact rfl;exact fun D w1 hw1=>lowest_calls bA oA cp W Hh n x y g h t xn yn hh w1 (hr.ext hw1.ext.ext))|((with_reducible apply oq_call (hc:=Tryz.call84));exact rfl;exact rfl;exact fun D w1 hw1=>index49_calls bL bl b14 b3 b6 bA oA bo co n cp at_ c _ aa bs L g h han n576 hD.bnd hla1 hD.low hnlt hnx2 has rfl hcl5 w1 (hw1.cellAt (C:=[.slice (some ⟨bl,0,none⟩) n n]) (by (repeat first|exact P0|apply P1)) rfl) (fun z hz=>hw1.cellAt (C:=(cI L).map iv) (by (repeat first|exact P0|apply P1)) (cI_cell (by rw [hD.len];exact hz))) (hw1.cellAt (C:=[.int .i64 ((at_:Nat):Int)]) (by (repeat first|exact P0|apply P1)) rfl) (hw1.cellAt (C:=[.int .i64 ((W:Nat):Int),.int .i64 ((Hh:Nat):Int),.slice (some ⟨bA,oA,none⟩) n cp]) (by (repeat first|exact P0|apply P1)) rfl) (fun z hz=>hw1.oldc (hgl z hz) List.not_mem_nil) (hw1.cellAt (C:=[.int .i64 h]) (by (repeat first|exact P0|apply P1)) rfl) (int_rows rfl hw1 (by (repeat first|exact P0|apply P1))))|((with_reducible apply oq_call (hc:=Tryz.call25));exact rfl;exact rfl;first|exact fun D w1 hw1=>same25_calls _ _ 5 _ 5 _ [0,3,4,5,2] w1 (in_rows1 (l:=[0,3,4,5,2]) rfl hw1 (by (repeat first|exact P0|apply P1))) (in_rows1 (l:=[0,3,4,5,2]) rfl hw1 (by (repeat first|exact P0|apply P1))) (by decide) (by decide)|exact fun D w1 hw1=>same25_calls _ _ 2 _ 2 _ [0,1] w1 (in_rows1 (l:=[0,1]) rfl hw1 (by (repeat first|exact P0|apply P1))) (in_rows1 (l:=[0,1]) rfl hw1 (by (repeat first|exact P0|apply P1))) (by decide) (by decide))|((with_reducible apply oq_call (hc:=Tryz.call40));exact rfl;exact rfl;exact fun D w1 hw1=>span40_calls _ _ w1))|((with_reducible apply oq_eqSpT);exact rfl;exact rfl;(focus (constructor<;>rfl)))|((with_reducible apply oq_eqPnT);exact rfl;exact rfl;(focus (constructor<;>rfl)))|(focus ((with_reducible apply oq_indexAddrN);(iterate 4 exact rfl);omega))|(apply oq_fn;exact rfl;first|exact trivial|(and_intros<;>omega)|omega|skip)|((with_reducible apply oq_load);exact rfl;exact rfl)|((with_reducible apply oq_loadAgg);exact rfl;exact rfl)|((with_reducible apply oq_build);(iterate 3 exact rfl)))|((with_reducible apply tl_id);first|(with_reducible apply tl_nil)|((with_reducible apply u_q);(iterate 4 exact rfl))|((with_reducible apply u_s0);exact rfl;exact rfl)|((with_reducible apply u_s);(iterate 3 exact rfl)))|((with_reducible apply os_id);first|((with_reducible apply os_makeI (hk:=app_ok31) (hz:=zero3));exact rfl;exact rfl;omega;(unfold maxLen;omega);intro _)|((with_reducible apply os_x);exact rfl)|((with_reducible apply os_store);(iterate 4 exact rfl))|((with_reducible apply os_append (hk:=app_ok31));exact rfl;exact rfl;(repeat first|exact P0|apply P1))|((with_reducible apply os_storeAgg);(iterate 5 exact rfl)))|((with_reducible apply gx_id);first|(with_reducible apply v_nil)|((with_reducible apply v_q);(iterate 3 exact rfl)))|((with_reducible apply ox_id);first|((with_reducible apply ox_alloc);exact rfl;intro _)|((with_reducible apply ox_boxAgg);exact rfl;intro _)|((with_reducible apply ox_buildSlice1);(iterate 6 exact rfl);intro _)|((with_reducible apply ox_buildSlice);(iterate 4 exact rfl)))|((with_reducible apply ai_id);first|((with_reducible apply ai_q);(iterate 5 exact rfl))|((with_reducible apply ai_x);(iterate 5 exact rfl)))|((with_reducible apply rd_id);first|(apply Rd.own;(repeat first|exact P0|apply P1);exact rfl;done)|(apply rdI hzk;(repeat first|exact P0|apply P1);done))|((with_reducible apply t_id);first|(with_reducible apply t_block)|(apply t_mix (id:=6) [0,1,2,3,4,5,6,7] 48 #[false,false,false,false,false,false,false,false,false,false,false,false,false,false,false,false,false,false,false,false,false,false,false,false,false,false,false,false,false,false,false,false,false,false,false,false,false,false,false,false,false,false,false,false,false,false,false,false,false,false,false,false,false,false,false,false];kernel_rfl;kernel_rfl;exact rfl)|(with_reducible apply t_seq)|(apply t_region;kernel_rfl)|((with_reducible apply t_condF);exact rfl)|(with_reducible apply t_skip)|(with_reducible apply t_exit)|(with_reducible apply t_ret))|with_reducible apply q_thenN|with_reducible apply q_thenE|((with_reducible apply q_blockE);exact rfl)|with_reducible apply q_blockN|exact P0|(with_reducible apply P1)|exact Rdn.zero|apply Rdn.succ|((with_reducible apply Norm.nil);exact rfl)|((with_reducible apply Norm.cons);exact rfl)|exact iv_len _|(with_reducible apply end_ret)|exact rvs_nil|(with_reducible apply rvs_cons)|((with_reducible apply rv_tmp);exact rfl)|((with_reducible apply rv_cell);exact rfl;exact rfl)|((with_reducible apply rv_cellAgg);exact rfl;exact rfl)|exact Nat.le_of_ble_eq_true rfl|exact (rfl:(_:Bool)=true)|omega|(intro _ _;with_reducible apply tl_id)|(intro _;with_reducible apply tl_id)|((with_reducible apply al_id);first|(apply al_done;decide +kernel)|(apply al_moreZ [10,11,12,13,14,15] 40;decide +kernel;exact rfl;exact rfl;focus (repeat (first|exact HpSub.refl _|(apply HpSub.cons;(repeat first|exact P0|apply P1))|apply HpSub.skipX|exact HpSub.nil)))|(apply al_moreZ [18,19,20] 35;decide +kernel;exact rfl;exact rfl;focus (repeat (first|exact HpSub.refl _|(apply HpSub.cons;(repeat first|exact P0|apply P1))|apply HpSub.skipX|exact HpSub.nil)))|(apply al_moreZ [23,24,25,26,27,28,29,30] 25;decide +kernel;exact rfl;exact rfl;focus (repeat (first|exact HpSub.refl _|(apply HpSub.cons;(repeat first|exact P0|apply P1))|apply HpSub.skipX|exact HpSub.nil)))|(apply al_moreZ [33,34,35,36,37,38,39,40,41,42,43,44,45,46,47,48,49,50] 5;decide +kernel;exact rfl;exact rfl;focus (repeat (first|exact HpSub.refl _|(apply HpSub.cons;(repeat first|exact P0|apply P1))|apply HpSub.skipX|exact HpSub.nil)))|(apply al_moreZ [53,54,55] 0;decide +kernel;exact rfl;exact rfl;focus (repeat (first|exact HpSub.refl _|(apply HpSub.cons;(repeat first|exact P0|apply P1))|apply HpSub.skipX|exact HpSub.nil)))|(apply al_one 8;decide +kernel)|(apply al_one 9;decide +kernel)|(apply al_one 17;decide +kernel)|(apply al_one 22;decide +kernel)|(apply al_one 31;decide +kernel)|(apply al_one 32;decide +kernel)|(apply al_one 52;decide +kernel)|(apply al_one 51;decide +kernel)|(apply al_one 21;decide +kernel)|(apply al_one 16;decide +kernel)|(apply al_two 16 17;decide +kernel)|(apply al_two 21 22;decide +kernel)|(apply al_two 51 52;decide +kernel))));(try focus (repeat (rename_i x;first|exact goD x m1.p|revert x)));(try focus (repeat (rename_i x;first|exact goD x m2.p|revert x)));(try focus (repeat (rename_i x;first|exact goD x m3.p|revert x)));(try focus (repeat (rename_i x;first|exact goD x m4.p|revert x)));(try focus (repeat (rename_i x;first|exact goD x m5.p|revert x)));(try focus (repeat (rename_i x;first|exact goD x m6.p|revert x)));(try focus (repeat (rename_i x;first|exact goD x m7.p|revert x)));(try focus (repeat (rename_i x;first|exact goD x m8.p|revert x)));(try focus (repeat (rename_i x;first|exact goD x m9.p|revert x)));(try focus (repeat (rename_i x;first|exact goD x m10.p|revert x)));(try focus (repeat (rename_i x;first|exact goD x m11.p|revert x)));(try focus (repeat (rename_i x;first|exact goD x m12.p|revert x)));(try focus (repeat (rename_i x;first|exact goD x m13.p|revert x)));(try focus (repeat (rename_i x;first|exact goD x m14.p|revert x)));(try focus (repeat (rename_i x;first|exact goD x m15.p|revert x)));(try focus (repeat (rename_i x;first|exact goD x m16.p|revert x)))) (e:GoTs A1 A2 A3 A4 A5 A6 A7 A8 A9 A10 A11 A12 A13 A14 A15 A16:=by constructor<;>first|(with_reducible exact GoT.t)|exact GoT.u):G:=p.run h
open Go.RowKit
attribute [local irreducible] OQ OS OX Rd T TL GX GL AL AI RV wpG SAny Calls
theorem same25_calls (A A':Option Addr) (n c n' c':Nat) (l:List Int) (w:World) (hr:RdS w 1 A n (l.map inCells)) (hr':RdS w 1 A' n' (l.map inCells)) (hn:n≤1000000) (hn':n'≤1000000):Calls Tryz.prog 25 #[.slice A n c,.slice A' n' c'] w fun e w'=>e=.returned (.bool true)∧Ext w w':=by
 refine enterQ (c:=cx w 8) Tryz.func25 rfl rfl rfl rfl ?_
 ((all_goals refine goT1e ?_);(all_goals constructor);(any_goals exact trivial);all_goals intros)
 all_goals rfl
theorem part16_calls (AM A:Option Addr) (m cM n cp:Nat) (L:List Lg) (w:World) (hr:RdS w 5 A n (L.map lgCells)) (hn:n≤1000000) (hm:m≤1000000) (v q1 q2 q3 q4 g0 g1:Int) (AC:Option Addr) (nC cC:Nat) (C:List Wn) (hrc:CastR w AC nC C) (hs:∀ z∈C,z.n≤1000000) (i:Int) (bk:Bool) (me:Int):Calls Tryz.prog 37 #[.agg #[.slice AM m cM,.slice A n cp],.agg #[.int .i64 v,.int .i64 q1,.int .i64 q2,.int .i64 q3,.int .i64 q4,.int .i64 g0,.int .i64 g1],.slice AC nC cC,.int .i64 i,.bool bk,.int .i64 me] w fun e w'=>e=.returned (partR m L v q1 q2 q3 q4 g0 g1 C i bk me)∧Ext w w':=by
 have hl:L.length=n:=by simpa using hr.len
 unfold partR
 by_cases hE:askE m L v q1 q2 q3 q4 g0 g1 C=0
 rotate_left
 · rw [if_neg hE]
   have HN:=fun w1 (hx:Ext w w1)=>open_no AM A m cM n cp L w1 (hr.ext hx) hn hm v q1 q2 q3 q4 g0 g1 AC nC cC C (hrc.ext hx) hs hE
   generalize askE m L v q1 q2 q3 q4 g0 g1 C=e at *
   refine enterQ (c:=cx w 67) Tryz.func37 rfl rfl rfl rfl ?_
   ((all_goals refine gqP0 ?_);(all_goals constructor);(any_goals exact trivial);all_goals intros)
   all_goals rfl
 rw [if_pos hE]
 have HO:=fun w1 (hx:Ext w w1)=>open_ok AM A m cM n cp L w1 (hr.ext hx) hn hm v q1 q2 q3 q4 g0 g1 AC nC cC C (hrc.ext hx) hs hE
 obtain ⟨hch,hpk,hk0⟩:=askE_ok hE
 obtain ⟨hcl,hcw⟩:=castE_zero.1 hk0
 have hlc:=hrc.len
 clear hE
 by_cases hi:0≤i∧i≤(L.length:Int)-1
 rotate_left
 · rw [if_neg hi]
   refine enterQ (c:=cx w 67) Tryz.func37 rfl rfl rfl rfl ?_
   ((all_goals refine gqP0 ?_);(all_goals constructor);(any_goals exact trivial);all_goals intros)
   all_goals rfl
 rw [if_pos hi]
 obtain ⟨j,rfl⟩:=Int.eq_ofNat_of_zero_le hi.1
 obtain ⟨bA,oA,z,rfl,_,hz,c0,c1,c2,c3,c4⟩:=lg_read hr (show j<n by omega)
 obtain ⟨_,_,_,kx,ky,kz,kh⟩:=(chartB_iff.1 hch).2.2 z (List.mem_of_getElem? hz)
 have HL:=fun w1=>length_calls z.a z.b z.x z.y z.h kx ky w1
 have lb:=lenV_bound kx ky
 rw [Int.toNat_natCast,hz]
 simp only
 by_cases hme:0≤me∧me≤lenV z.x z.y
 rotate_left
 · rw [if_neg hme]
   refine enterQ (c:=cx w 67) Tryz.func37 rfl rfl rfl rfl ?_
   ((all_goals refine gqP0 ?_);(all_goals constructor);(any_goals exact trivial);all_goals intros)
   all_goals rfl
 rw [if_pos hme]
 obtain ⟨me,rfl⟩:=Int.eq_ofNat_of_zero_le hme.1
 obtain ⟨pv,_,_,_,_,kg⟩:=id hpk
 obtain ⟨g0,rfl⟩:=Int.eq_ofNat_of_zero_le kg.1
 obtain ⟨g1,rfl⟩:=Int.eq_ofNat_of_zero_le (show 0≤g1 by omega)
 simp only [Int.toNat_natCast]
 obtain ⟨hR,hRl⟩:=legRz_ok (z:=z) (bk:=bk) hcw hpk kh ⟨kx,ky,kz⟩
 have hP59:=fun bD bM E w1 hd hE2=>part59_calls bD bM AM (some ⟨bA,oA,none⟩) m cM n cp v q1 q2 q3 q4 g0 g1 E C L j n z me bk w1 hd hE2 (by omega) hz hR (by omega) (by omega) (by omega)
 unfold fullV
 unfold partV fk at hP59
 generalize legRz v q1 q2 q3 z bk C=R at *
 by_cases hR:R=[]
 · rw [if_pos hR]
   simp only [if_pos hR] at hP59
   refine enterQ (c:=cx w 67) Tryz.func37 rfl rfl rfl rfl ?_
   ((all_goals refine gqP0 ?_);(all_goals constructor);(any_goals exact trivial);all_goals intros)
   all_goals rfl
 · rw [if_neg hR]
   simp only [if_neg hR] at hP59
   refine enterQ (c:=cx w 67) Tryz.func37 rfl rfl rfl rfl ?_
   ((all_goals refine gqP0 ?_);(all_goals constructor);(any_goals exact trivial);all_goals intros)
   all_goals rfl
theorem pass1_calls (bL bl b14 b3 b6 bA oA n cp z at_:Nat) (lz la:Nat) (gz h:Int) (q:Bool) (hz:z<n) (ha:at_<n) (hn:n≤576) (hlz:lz≤1000) (hla:1<la) (hla2:la≤1000) (hq:q=true↔lz+1=la) (hg:lz+1=la→gz≤h) (w:World)
   (c0:w.cell? ⟨bL,0,none⟩=some (.slice (some ⟨bl,0,none⟩) n n)) (c1:w.cell? ⟨bl,0+z*1,none⟩=some (.int .i64 (lz:Nat))) (c2:w.cell? ⟨b14,0,none⟩=some (.int .i64 (at_:Nat))) (c3:w.cell? ⟨bl,0+at_*1,none⟩=some (.int .i64 (la:Nat)))
   (c4:w.cell? ⟨b3,2,none⟩=some (.slice (some ⟨bA,oA,none⟩) n cp)) (c5:w.cell? ⟨bA,oA+z*1,none⟩=some (.int .i64 gz)) (c6:w.cell? ⟨b6,0,none⟩=some (.int .i64 h)) :
   Calls Tryz.prog 85 #[.int .i64 ((z:Nat):Int),.pointer (some ⟨bL,0,none⟩),.pointer (some ⟨b14,0,none⟩),.pointer (some ⟨b3,0,none⟩),.pointer (some ⟨b6,0,none⟩)] w fun e w'=>e=.returned (.bool q)∧Ext w w':=by
 by_cases h1:lz+1=la
 · have h2:=hg h1
   obtain rfl:q=true:=hq.2 h1
   refine enterQ (c:=cx w 26) Tryz.func85 rfl rfl rfl rfl ?_
   ((all_goals refine gqP0 ?_);(all_goals constructor);(any_goals exact trivial);all_goals intros)
   all_goals rfl
 · obtain rfl:q=false:=by
     cases q with
     | false=>rfl
     | true=>exact absurd (hq.1 rfl) h1
   refine enterQ (c:=cx w 26) Tryz.func85 rfl rfl rfl rfl ?_
   ((all_goals refine gqP0 ?_);(all_goals constructor);(any_goals exact trivial);all_goals intros)
   all_goals rfl
theorem index49_calls (bL bl b14 b3 b6 bA oA bo co n cp at_ c m:Nat) (aa bs L:List Nat) (g:List Int) (h:Int) (ha:at_<n) (hn:n≤576) (hLb:∀ q,L.getD q 0≤n+1) (hla:1<L.getD at_ 0) (hlow:∀ z,z<n→0<L.getD z 0→gr g z≤h) (hlt:∀ z∈aa++c::bs,z<n) (hc:L.getD c 0+1=L.getD at_ 0) (has:∀ z∈aa,L.getD z 0+1≠L.getD at_ 0) (hm:(cI (aa++c::bs)).length=m) (hm2:m≤576) (w:World)
   (c0:w.cell? ⟨bL,0,none⟩=some (.slice (some ⟨bl,0,none⟩) n n)) (cl:∀ z,z<n→w.cell? ⟨bl,0+z*1,none⟩=some (.int .i64 ((L.getD z 0:Nat):Int))) (c2:w.cell? ⟨b14,0,none⟩=some (.int .i64 (at_:Nat)))
   (c4:w.cell? ⟨b3,2,none⟩=some (.slice (some ⟨bA,oA,none⟩) n cp)) (cg:∀ z,z<n→w.cell? ⟨bA,oA+z*1,none⟩=some (.int .i64 (gr g z))) (c6:w.cell? ⟨b6,0,none⟩=some (.int .i64 h)) (hr:RdS w 1 (some ⟨bo,0,none⟩) m ((cI (aa++c::bs)).map inCells)) :
   Calls Tryz.prog 84 #[.slice (some ⟨bo,0,none⟩) m co,.func (.func 85) #[] ⟨[.pointer (some ⟨bL,0,none⟩),.pointer (some ⟨b14,0,none⟩),.pointer (some ⟨b3,0,none⟩),.pointer (some ⟨b6,0,none⟩)]⟩] w fun e w'=>e=.returned (.int .i64 (aa.length:Nat))∧Ext w w':=by
 have hidx:idxV (fun z:Int=>decide (L.getD z.toNat 0+1=L.getD at_ 0)) (cI (aa++c::bs))=(aa.length:Nat):=by
   refine idxV_some (x:=(c:Int)) (by unfold cI;rw [List.getElem?_map,List.getElem?_append_right (Nat.le_refl _)];simp) (by simpa using hc) (fun z hz=>?_)
   have e:(cI (aa++c::bs)).take aa.length=cI aa:=by unfold cI;simp
   rw [e] at hz
   unfold cI at hz
   obtain ⟨z0,hz0,rfl⟩:=List.mem_map.1 hz
   simpa using has z0 hz0
 have:=indexInt_calls 85 [.pointer (some ⟨bL,0,none⟩),.pointer (some ⟨b14,0,none⟩),.pointer (some ⟨b3,0,none⟩),.pointer (some ⟨b6,0,none⟩)] (fun z:Int=>decide (L.getD z.toNat 0+1=L.getD at_ 0)) (some ⟨bo,0,none⟩) m co (cI (aa++c::bs)) w hr (by omega) Tryz.call85 (fun z hz w1 hx=>by
   unfold cI at hz
   obtain ⟨z0,hz0,rfl⟩:=List.mem_map.1 hz
   have hzn:=hlt z0 hz0
   exact pass1_calls bL bl b14 b3 b6 bA oA n cp z0 at_ (L.getD z0 0) (L.getD at_ 0) (gr g z0) h _ hzn ha hn (by have:=hLb z0;omega) hla (by have:=hLb at_;omega) (by simp) (fun e=>hlow z0 hzn (by omega)) w1 (hx.cell c0) (hx.cell (cl z0 hzn)) (hx.cell c2) (hx.cell (cl at_ ha)) (hx.cell c4) (hx.cell (cg z0 hzn)) (hx.cell c6))
 rw [hidx] at this
 exact this
theorem cI_cell {l:List Nat} {c:Nat} (h:c<l.length):((cI l).map iv)[0+c*1]?=some (.int .i64 ((l.getD c 0:Nat):Int)):=by
 rw [Nat.zero_add,Nat.mul_one,List.getElem?_map,cI_at h];rfl
theorem pass_calls (A:Option Addr) (n cp:Nat) (W Hh a b e h:Int) (g:List Int) (P:List Nat) (w:World) (hP:IsP W Hh g a b e h P) (hr:RdS w 1 A n (g.map inCells)) (hn:n≤1000000) :
    Calls Tryz.prog 35 #[.agg #[.int .i64 W,.int .i64 Hh,.slice A n cp],.int .i64 a,.int .i64 b] w fun e' w'=>∃ v H',e'=.returned v∧PasV e h P v H'∧Has w ⟨[],[]⟩ H' w':=by
  have hl:g.length=n:=by simpa using hr.len
  have HC:=fun w1 h=>checkTerrain_calls A n cp W Hh g w1 h hn
  have HR:=fun (b1:Nat) (w1:World) (h:RdS w1 1 (some ⟨b1,0,none⟩) 2 ([a,b].map inCells))=>rfrom_calls 0 ((n:Int)-1) (some ⟨b1,0,none⟩) 2 2 [a,b] w1 h (by omega)
  cases hP with
  | ground hT=>
    rw [hT] at HC
    simp only [Bool.false_eq_true,if_false] at HC
    refine enterF (c:=cx w 109) Tryz.func35 rfl rfl rfl rfl ?_
    ((all_goals refine gqP0 ?_);(all_goals constructor);(any_goals exact trivial);all_goals intros)
    all_goals exact ⟨_,⟨none,fun _=>rfl,rfl,rfl⟩,(by (repeat (first|exact HpSub.refl _|(apply HpSub.consE;(repeat first|exact P0|apply P1);exact rfl)|apply HpSub.skipX|exact HpSub.nil)))⟩
  | arg hT ha=>
    rw [hT] at HC
    simp only [if_true] at HC
    rw [hl] at ha
    have hf:allFrom 0 ((n:Int)-1) [a,b]=false:=by
      cases hq:allFrom 0 ((n:Int)-1) [a,b] with
      | false=>rfl
      | true=>exact absurd (allFrom_two.1 hq) (by omega)
    rw [hf] at HR
    refine enterF (c:=cx w 109) Tryz.func35 rfl rfl rfl rfl ?_
    ((all_goals refine gqP0 ?_);(all_goals constructor);(any_goals exact trivial);all_goals intros)
    all_goals exact ⟨_,⟨none,fun _=>rfl,rfl,rfl⟩,(by (repeat (first|exact HpSub.refl _|(apply HpSub.consE;(repeat first|exact P0|apply P1);exact rfl)|apply HpSub.skipX|exact HpSub.nil)))⟩
  | @ok w0 n0 x y k h L P hT hw0 hn0 hx0 hy0 xn yn hh hB hD hPt=>
  obtain ⟨W,Hh,rfl,rfl,t,hg⟩:=ter_of hT
  obtain rfl:W=w0:=by omega
  obtain rfl:n=n0:=by omega
  subst hx0 hy0
  rw [hl] at t hg
  rw [hT] at HC
  simp only [if_true] at HC
  have hf:allFrom 0 ((n:Int)-1) [(x:Int),(y:Int)]=true:=allFrom_two.2 (by omega)
  rw [hf] at HR
  have n576:=t.n576
  obtain ⟨bA,oA,_,rfl,_⟩:=in_read hr xn
  have hgy:gr g y≤h:=hh.is.dst
  have hgl:∀ i,i<n→w.cell? ⟨bA,oA+i*1,none⟩=some (.int .i64 (gr g i)):=fun i hi=>by
    obtain ⟨b',o',y,hA,_,hy,hc⟩:=in_read hr hi
    obtain ⟨rfl,rfl⟩:bA=b'∧oA=o':=by simpa using hA
    rw [gr_of hy];exact hc
  have hxpos:0<L.getD x 0:=hD.reach t yn (hh.is.symm t xn)
  refine enterF (c:=cx w 109) Tryz.func35 rfl rfl rfl rfl ?_
  refine t_cut (ι:=Nat×Nat) (fun z=>[(1,.int .i64 ((x:Nat):Int)),(2,.int .i64 ((y:Nat):Int)),(3,.pointer (some ⟨z.1,0,none⟩)),(6,.pointer (some ⟨z.2,0,none⟩))]) (fun z=>[(z.1,[.int .i64 ((W:Nat):Int),.int .i64 ((Hh:Nat):Int),.slice (some ⟨bA,oA,none⟩) n cp],some (66,3,1)),(z.2,[.int .i64 0],some (3,1,1))]) (fun _=>True) ?_ ?_
  · ((all_goals refine gqP1 ?_);(all_goals constructor);(any_goals exact trivial);all_goals intros)
    all_goals (rename_i bX bY;exact ⟨rfl,(bX,bY),trivial,by (repeat first|exact FrSub.nil|(apply FrSub.cons;exact rfl)),by (repeat (first|exact HpSub.refl _|(apply HpSub.consE;(repeat first|exact P0|apply P1);exact rfl)|exact HpSub.nil))⟩)
  rintro ⟨b3,b6⟩ -
  try dsimp only
  refine t_cut (ι:=Unit) (fun _=>[(1,.int .i64 ((x:Nat):Int)),(2,.int .i64 ((y:Nat):Int)),(3,.pointer (some ⟨b3,0,none⟩)),(6,.pointer (some ⟨b6,0,none⟩))]) (fun _=>[(b3,[.int .i64 ((W:Nat):Int),.int .i64 ((Hh:Nat):Int),.slice (some ⟨bA,oA,none⟩) n cp],some (66,3,1)),(b6,[.int .i64 0],some (3,1,1))]) (fun _=>True) ?_ ?_
  · ((all_goals refine gqP0 ?_);(all_goals constructor);(any_goals exact trivial);all_goals intros)
    all_goals exact ⟨(by first|rfl|trivial),(),trivial,by (repeat' (first|exact FrSub.nil|(apply FrSub.cons;exact rfl))),by (repeat' (first|exact HpSub.refl _))⟩
  rintro ⟨⟩ -
  try dsimp only
  refine t_cut (ι:=Unit) (fun _=>[(1,.int .i64 ((x:Nat):Int)),(2,.int .i64 ((y:Nat):Int)),(3,.pointer (some ⟨b3,0,none⟩)),(6,.pointer (some ⟨b6,0,none⟩))]) (fun _=>[(b3,[.int .i64 ((W:Nat):Int),.int .i64 ((Hh:Nat):Int),.slice (some ⟨bA,oA,none⟩) n cp],some (66,3,1)),(b6,[.int .i64 0],some (3,1,1))]) (fun _=>True) ?_ ?_
  · ((all_goals refine gqP1 ?_);(all_goals constructor);(any_goals exact trivial);all_goals intros)
    all_goals exact ⟨(by first|rfl|trivial),(),trivial,by (repeat' (first|exact FrSub.nil|(apply FrSub.cons;exact rfl))),by (repeat' (first|exact HpSub.refl _|(apply HpSub.consE;(repeat first|exact P0|apply P1);first|exact rfl|(focus (simp [iv,cI];done)))|apply HpSub.skipX))⟩
  rintro ⟨⟩ -
  try dsimp only
  refine t_cut (ι:=Unit) (fun _=>[(1,.int .i64 ((x:Nat):Int)),(2,.int .i64 ((y:Nat):Int)),(3,.pointer (some ⟨b3,0,none⟩)),(6,.pointer (some ⟨b6,0,none⟩))]) (fun _=>[(b3,[.int .i64 ((W:Nat):Int),.int .i64 ((Hh:Nat):Int),.slice (some ⟨bA,oA,none⟩) n cp],some (66,3,1)),(b6,[.int .i64 h],some (3,1,1))]) (fun _=>True) ?_ ?_
  · ((all_goals refine gqP1 ?_);(all_goals constructor);(any_goals exact trivial);all_goals intros)
    all_goals exact ⟨(by first|rfl|trivial),(),trivial,by (repeat' (first|exact FrSub.nil|(apply FrSub.cons;exact rfl))),by (repeat' (first|exact HpSub.refl _|(apply HpSub.consE;(repeat first|exact P0|apply P1);first|exact rfl|(focus (simp [iv,cI];done)))))⟩
  rintro ⟨⟩ -
  try dsimp only
  refine t_cut (ι:=Nat×Nat) (fun z=>[(1,.int .i64 ((x:Nat):Int)),(2,.int .i64 ((y:Nat):Int)),(3,.pointer (some ⟨b3,0,none⟩)),(6,.pointer (some ⟨b6,0,none⟩)),(10,.pointer (some ⟨z.1,0,none⟩))]) (fun z=>[(b3,[.int .i64 ((W:Nat):Int),.int .i64 ((Hh:Nat):Int),.slice (some ⟨bA,oA,none⟩) n cp],some (66,3,1)),(b6,[.int .i64 h],some (3,1,1)),(z.1,[.slice (some ⟨z.2,0,none⟩) n n],some (31,1,1)),(z.2,(cI (List.replicate n 0)).map iv,some (3,1,n))]) (fun _=>True) ?_ ?_
  · ((all_goals refine gqP1 ?_);(all_goals constructor);(any_goals exact trivial);all_goals intros)
    all_goals (rename_i bX bY;exact ⟨rfl,(bY,bX),trivial,by (repeat first|exact FrSub.nil|(apply FrSub.cons;exact rfl)),by (repeat (first|exact HpSub.refl _|(apply HpSub.consE;(repeat first|exact P0|apply P1);first|exact rfl|((simp [cI,iv])))|exact HpSub.nil))⟩)
  rintro ⟨bL,bl⟩ -
  try dsimp only
  have hyl:y<(cI (List.replicate n 0)).length:=by rw [cI_len];simpa using yn
  have hst:(cI (List.replicate n 0)).set y 1=cI ((List.replicate n 0).set y 1):=cI_set _ y 1
  refine t_cut (ι:=Unit) (fun _=>[(1,.int .i64 ((x:Nat):Int)),(2,.int .i64 ((y:Nat):Int)),(3,.pointer (some ⟨b3,0,none⟩)),(6,.pointer (some ⟨b6,0,none⟩)),(10,.pointer (some ⟨bL,0,none⟩))]) (fun _=>[(b3,[.int .i64 ((W:Nat):Int),.int .i64 ((Hh:Nat):Int),.slice (some ⟨bA,oA,none⟩) n cp],some (66,3,1)),(b6,[.int .i64 h],some (3,1,1)),(bL,[.slice (some ⟨bl,0,none⟩) n n],some (31,1,1)),(bl,(cI ((List.replicate n 0).set y 1)).map iv,some (3,1,n))]) (fun _=>True) ?_ ?_
  · repeat' (first|((with_reducible apply oq_id);first|(focus ((with_reducible apply oq_indexAddrN);(iterate 4 exact rfl);omega))|(apply oq_fn;exact rfl;first|exact trivial|(and_intros<;>omega)|omega|skip)|((with_reducible apply oq_load);exact rfl;exact rfl))|((with_reducible apply tl_id);first|(with_reducible apply tl_nil)|((with_reducible apply u_q);(iterate 4 exact rfl))|((with_reducible apply u_s0);exact rfl;exact rfl))|((with_reducible apply os_id);first|((with_reducible apply (os_storeI hyl));(iterate 3 exact rfl);(repeat first|exact P0|apply P1);rw [hst]))|((with_reducible apply rd_id);first|(apply Rd.own;(repeat first|exact P0|apply P1);exact rfl;done))|((with_reducible apply t_id);first|(apply t_region;kernel_rfl)))
    all_goals exact ⟨(by first|rfl|trivial),(),trivial,by (repeat' (first|exact FrSub.nil|(apply FrSub.cons;exact rfl))),by (repeat' (first|exact HpSub.refl _|(apply HpSub.consE;(repeat first|exact P0|apply P1);first|exact rfl|(focus (simp [iv,cI];done)))))⟩
  rintro ⟨⟩ -
  try dsimp only
  have hwi:=bfs_start (g:=g) (h:=h) t yn hgy
  refine t_cut (ι:=Unit) (fun _=>[(1,.int .i64 ((x:Nat):Int)),(2,.int .i64 ((y:Nat):Int)),(3,.pointer (some ⟨b3,0,none⟩)),(6,.pointer (some ⟨b6,0,none⟩)),(10,.pointer (some ⟨bL,0,none⟩))]) (fun _=>[(b3,[.int .i64 ((W:Nat):Int),.int .i64 ((Hh:Nat):Int),.slice (some ⟨bA,oA,none⟩) n cp],some (66,3,1)),(b6,[.int .i64 h],some (3,1,1)),(bL,[.slice (some ⟨bl,0,none⟩) n n],some (31,1,1)),(bl,(cI (L)).map iv,some (3,1,n))]) (fun _=>True) ?_ ?_
  · refine t_cut (ι:=Nat×Nat) (fun z=>[(1,.int .i64 ((x:Nat):Int)),(2,.int .i64 ((y:Nat):Int)),(3,.pointer (some ⟨b3,0,none⟩)),(6,.pointer (some ⟨b6,0,none⟩)),(10,.pointer (some ⟨bL,0,none⟩)),(11,.slice (some ⟨z.1,0,none⟩) 1 z.2)]) (fun z=>[(b3,[.int .i64 ((W:Nat):Int),.int .i64 ((Hh:Nat):Int),.slice (some ⟨bA,oA,none⟩) n cp],some (66,3,1)),(b6,[.int .i64 h],some (3,1,1)),(bL,[.slice (some ⟨bl,0,none⟩) n n],some (31,1,1)),(bl,(cI ((List.replicate n 0).set y 1)).map iv,some (3,1,n)),(z.1,[.int .i64 (y:Nat)],some (3,1,z.2))]) (fun z=>z.2=1) ?_ ?_
    · ((all_goals refine gqP1 ?_);(all_goals constructor);(any_goals exact trivial);all_goals intros)
      all_goals (rename_i bN;exact ⟨rfl,(bN,1),rfl,by (repeat first|exact FrSub.nil|(apply FrSub.cons;exact rfl)),by (repeat (first|exact HpSub.refl _|(apply HpSub.consE;(repeat first|exact P0|apply P1);exact rfl)|exact HpSub.nil))⟩)
    rintro ⟨bq,cq⟩ hcq
    simp only at hcq
    try dsimp only
    ((all_goals refine gqP1 ?_);(all_goals constructor);(any_goals exact trivial);all_goals intros)
    apply t_loopK (ι:=Nat×List Nat×List Nat×Qm) [1,2,3,6,10] (fun z=>[(11,qS (cI z.2.2.1) z.2.2.2)]) (fun z=>[(b3,[.int .i64 ((W:Nat):Int),.int .i64 ((Hh:Nat):Int),.slice (some ⟨bA,oA,none⟩) n cp],some (66,3,1)),(b6,[.int .i64 h],some (3,1,1)),(bL,[.slice (some ⟨bl,0,none⟩) n n],some (31,1,1)),(bl,(cI (z.2.1)).map iv,some (3,1,n)),(z.2.2.2.b,z.2.2.2.C,some (3,1,z.2.2.2.c0))]) (fun z=>Bfs W n g h L z.1 z.2.1 z.2.2.1∧BI W n g h y z.2.1 z.2.2.1∧Qok (cI z.2.2.1) z.2.2.2) (fun z=>z.1) ((k,(List.replicate n 0).set y 1,[y],⟨bq,0,cq,cq,[.int .i64 (y:Nat)]⟩))
    (repeat (first|exact KeepF.nil|(apply KeepF.cons;exact rfl)|apply KeepF.skip))
    (repeat first|exact FrSub.nil|(apply FrSub.cons;exact rfl))
    (repeat (first|exact HpSub.refl _|(apply HpSub.consE;(repeat first|exact P0|apply P1);exact rfl)|exact HpSub.nil))
    · exact ⟨hB,hwi,.inr ⟨[],rfl,rfl,by simp only [];omega,by simp only [];omega⟩⟩
    rintro ⟨k,lev,q,mq⟩ ⟨hbf,hw,hq⟩
    simp only at hbf hw hq
    try simp only [List.cons_append,List.nil_append]
    have hqcnt:=hw.cnt
    have hqln:=cI_len q
    cases hbf with
    | done=>
      ((all_goals refine gqP1 ?_);(all_goals constructor);(any_goals exact trivial);all_goals intros)
      all_goals exact ⟨rfl,(),trivial,by (repeat first|exact FrSub.nil|(apply FrSub.cons;exact rfl)),by (repeat (first|exact HpSub.refl _|(apply HpSub.consE;(repeat first|exact P0|apply P1);exact rfl)|apply HpSub.skipX|exact HpSub.nil))⟩
    | @next k2 a _ q hbf=>
    have han:=hw.lt a (List.mem_cons_self ..)
    have hq0:=hq.at_ (i:=0) (z:=(a:Int)) rfl
    simp only [List.length_cons] at hqcnt hqln
    have hla0:0<lev.getD a 0:=hw.set_ a (List.mem_cons_self ..)
    have hnl:=nb_len W n a
    have hrd:=hw.round t
    refine t_cut (ι:=Unit) (fun _=>[(1,.int .i64 ((x:Nat):Int)),(2,.int .i64 ((y:Nat):Int)),(3,.pointer (some ⟨b3,0,none⟩)),(6,.pointer (some ⟨b6,0,none⟩)),(10,.pointer (some ⟨bL,0,none⟩)),(11,qS (cI (a::q)) mq)]) (fun _=>[(b3,[.int .i64 ((W:Nat):Int),.int .i64 ((Hh:Nat):Int),.slice (some ⟨bA,oA,none⟩) n cp],some (66,3,1)),(b6,[.int .i64 h],some (3,1,1)),(bL,[.slice (some ⟨bl,0,none⟩) n n],some (31,1,1)),(bl,(cI (lev)).map iv,some (3,1,n)),(mq.b,mq.C,some (3,1,mq.c0))]) (fun _=>True) ?_ ?_
    · ((all_goals refine gqP0 ?_);(all_goals constructor);(any_goals exact trivial);all_goals intros)
      all_goals exact ⟨(by first|rfl|trivial),(),trivial,by (repeat' (first|exact FrSub.nil|(apply FrSub.cons;exact rfl))),by (repeat' (first|exact HpSub.refl _))⟩
    rintro ⟨⟩ -
    try dsimp only
    refine t_cut (ι:=List Nat×List Nat×Qm) (fun z=>[(1,.int .i64 ((x:Nat):Int)),(2,.int .i64 ((y:Nat):Int)),(3,.pointer (some ⟨b3,0,none⟩)),(6,.pointer (some ⟨b6,0,none⟩)),(10,.pointer (some ⟨bL,0,none⟩)),(11,qS (cI (a::z.2.1)) z.2.2)]) (fun z=>[(b3,[.int .i64 ((W:Nat):Int),.int .i64 ((Hh:Nat):Int),.slice (some ⟨bA,oA,none⟩) n cp],some (66,3,1)),(b6,[.int .i64 h],some (3,1,1)),(bL,[.slice (some ⟨bl,0,none⟩) n n],some (31,1,1)),(bl,(cI (z.1)).map iv,some (3,1,n)),(z.2.2.b,z.2.2.C,some (3,1,z.2.2.c0))]) (fun z=>Bfs W n g h L k2 z.1 z.2.1∧BI W n g h y z.1 z.2.1∧Qok (cI (a::z.2.1)) z.2.2) ?_ ?_
    · refine t_block ?_
      refine t_cut (ι:=Option (Nat×Nat)) (fun o=>[(1,.int .i64 ((x:Nat):Int)),(2,.int .i64 ((y:Nat):Int)),(3,.pointer (some ⟨b3,0,none⟩)),(6,.pointer (some ⟨b6,0,none⟩)),(10,.pointer (some ⟨bL,0,none⟩)),(11,qS (cI (a::q)) mq),(52,sI (cI (nb W n a)) o),(53,.int .i64 (((nb W n a).length:Nat):Int)),(54,.int .i64 0)]) (fun o=>[(b3,[.int .i64 ((W:Nat):Int),.int .i64 ((Hh:Nat):Int),.slice (some ⟨bA,oA,none⟩) n cp],some (66,3,1)),(b6,[.int .i64 h],some (3,1,1)),(bL,[.slice (some ⟨bl,0,none⟩) n n],some (31,1,1)),(bl,(cI (lev)).map iv,some (3,1,n)),(mq.b,mq.C,some (3,1,mq.c0))]++hI (cI (nb W n a)) o) (fun o=>o=none→nb W n a=[]) ?_ ?_
      · repeat' (first|((with_reducible apply oq_id);first|(apply oq_fn;exact rfl;first|exact trivial|(and_intros<;>omega)|omega|skip)|((with_reducible apply oq_load);exact rfl;exact rfl)|((with_reducible apply oq_loadAgg);exact rfl;exact rfl))|((with_reducible apply gx_id);first|(with_reducible apply v_nil)|((with_reducible apply v_q);(iterate 3 exact rfl)))|((with_reducible apply ai_id);first|((with_reducible apply ai_n);(iterate 4 exact rfl);(with_reducible apply os_callF (PV:=LsI (cI (nb W n a))) (hc:=Tryz.call83));exact rfl;exact rfl;exact fun D w1 hw1=>around6_calls (some ⟨bA,oA,none⟩) cp W Hh n a t han w1;rintro _ _ ⟨_|⟨bo,co⟩,ho,rfl,rfl⟩;simp only [List.cons_append,List.nil_append])|((with_reducible apply ai_q);(iterate 5 exact rfl)))|((with_reducible apply al_keep);focus (repeat (first|exact HpSub.refl _|(apply HpSub.cons;(repeat first|exact P0|apply P1))|apply HpSub.skipX|exact HpSub.nil)))|((with_reducible apply rd_id);first|(apply Rd.own;(repeat first|exact P0|apply P1);exact hq0;done)|(apply Rd.own;(repeat first|exact P0|apply P1);exact rfl;done))|((with_reducible apply t_id);first|(apply t_mix (id:=12) [0,1,2,3,6] 2 #[false,false,false,false,false,false,false];kernel_rfl;kernel_rfl;exact rfl))|exact Rdn.zero|apply Rdn.succ|((with_reducible apply al_id);first|(apply al_done;decide +kernel)|(apply al_one 4;decide +kernel)|(apply al_one 5;decide +kernel)))
        all_goals skip
        all_goals first
          | (have hc0:cI (nb W n a)=[]:=ho rfl
             have hn0:nb W n a=[]:=by simpa [cI] using hc0
             rw [hn0]
             exact ⟨(by first|rfl|trivial),none,fun _=>rfl,by (repeat' (first|exact FrSub.nil|(apply FrSub.cons;exact rfl))),by (repeat' (first|exact HpSub.refl _))⟩)
          | (have hcl:=cI_len (nb W n a)
             exact ⟨(by first|rfl|trivial),some (bo,co),(fun hh=>by cases hh),by (repeat (first|exact FrSub.nil|(apply FrSub.cons;exact rfl)|(apply FrSub.consE;exact rfl;(rw [← hcl])))),by (repeat' (first|exact HpSub.refl _|(apply HpSub.consE;(repeat first|exact P0|apply P1);first|exact rfl|(focus (simp [iv,cI];done)))))⟩)
      rintro o ho
      try dsimp only
      obtain ⟨l,hl2⟩:∃ l,l=nb W n a:=⟨_,rfl⟩
      rw [← hl2] at ho hbf hnl hrd ⊢
      have hlw:∀ c∈l,c<n:=fun c hc=>nb_lt t han (hl2 ▸ hc)
      ((all_goals refine gqP1 ?_);(all_goals constructor);(any_goals exact trivial);all_goals intros)
      apply t_loopK (GH:=[]) (ι:=Nat×List Nat×List Nat×Qm) [1,2,3,6,10,52,53] (fun z=>[(54,.int .i64 ((z.1:Nat):Int)),(11,qS (cI (a::z.2.2.1)) z.2.2.2)]) (fun z=>[(b3,[.int .i64 ((W:Nat):Int),.int .i64 ((Hh:Nat):Int),.slice (some ⟨bA,oA,none⟩) n cp],some (66,3,1)),(b6,[.int .i64 h],some (3,1,1)),(bL,[.slice (some ⟨bl,0,none⟩) n n],some (31,1,1)),(bl,(cI (z.2.1)).map iv,some (3,1,n)),(z.2.2.2.b,z.2.2.2.C,some (3,1,z.2.2.2.c0))]++hI (cI l) o) (fun z=>z.1≤l.length∧bfsRow g h (lev.getD a 0+1) (l.take z.1) (lev,q)=(z.2.1,z.2.2.1)∧Qok (cI (a::z.2.2.1)) z.2.2.2∧WI n z.2.1 z.2.2.1∧z.2.1.getD a 0=lev.getD a 0) (fun z=>l.length-z.1) ((0,lev,q,mq))
      (repeat (first|exact KeepF.nil|(apply KeepF.cons;exact rfl)|apply KeepF.skip))
      (repeat first|exact FrSub.nil|(apply FrSub.cons;exact rfl))
      (simp only [List.append_nil];exact HpSub.refl _)
      · exact ⟨Nat.zero_le _,rfl,hq,hw.toWI.pop,rfl⟩
      rintro ⟨i,lv2,q2,m2⟩ ⟨hi,hbr,hq2,hw2,hla⟩
      simp only at hi hbr hq2 hw2 hla
      try dsimp only
      simp only [List.append_nil,List.cons_append,List.nil_append]
      have hq2n:=hw2.cnt
      have hq2l:=cI_len (a::q2)
      simp only [List.length_cons] at hq2l
      have hq00:=hq2.at_ (i:=0) (z:=(a:Int)) rfl
      by_cases hil:i<l.length
      · rcases o with _|⟨bo,co⟩
        · rw [ho rfl] at hil;simp at hil
        have hc:l[i]?=some l[i]:=List.getElem?_eq_getElem hil
        generalize l[i]=c at hc
        have hcn:=hlw c (List.mem_of_getElem? hc)
        have hck:(cI l)[i]?=some (c:Int):=by simp [cI,hc]
        have hcl:=cI_len l
        have hgc:=hgl c hcn
        have hlc:=cI_at (l:=lv2) (c:=c) (by rw [hw2.len];exact hcn)
        have hlaa:=cI_at (l:=lv2) (c:=a) (by rw [hw2.len];exact han)
        rw [hla] at hlaa
        have hbn:=hw2.bnd a
        rw [hla] at hbn
        have hsn:=bfsRow_snoc (g:=g) (h:=h) (d:=lev.getD a 0+1) (c:=c) (l.take i) (lev,q)
        have htk:l.take (i+1)=l.take i++[c]:=by rw [List.take_add_one,hc];rfl
        rw [← htk,hbr] at hsn
        simp only at hsn
        by_cases hcc:lv2.getD c 0=0∧gr g c≤h
        · rw [if_pos hcc] at hsn
          have hcl2:c<(cI lv2).length:=by rw [cI_len,hw2.len];exact hcn
          have hset:=cI_set lv2 c (lev.getD a 0+1)
          have hc0:=hcc.1
          have hc1:=hcc.2
          have hwn:WI n (lv2.set c (lev.getD a 0+1)) (q2++[c]):=hw2.one hcn hc0 (by omega) (by omega)
          have hca:c≠a:=fun e=>by rw [e,hla] at hc0;omega
          have hcsn:cI (a::(q2++[c]))=cI (a::q2)++[(c:Int)]:=cI_snoc (a::q2) c
          repeat' (first|((with_reducible apply oq_id);first|(focus ((with_reducible apply oq_indexAddrN);(iterate 4 exact rfl);omega))|((with_reducible apply (oq_addE (k:=((lev.getD a 0+1:Nat):Int))));exact rfl;exact rfl;omega)|((with_reducible apply oq_eqlT);exact rfl;exact rfl;omega)|((with_reducible apply oq_leqT);exact rfl;exact rfl;omega)|(apply oq_fn;exact rfl;first|exact trivial|(and_intros<;>omega)|omega|skip)|((with_reducible apply oq_load);exact rfl;exact rfl))|((with_reducible apply tl_id);first|(with_reducible apply tl_nil)|((with_reducible apply u_s);(iterate 3 exact rfl);((with_reducible apply (os_appQ (hk:=app_ok31) (m:=m2) (q:=cI (a::q2)) (z:=(c:Int))));exact rfl;exact rfl;exact hq2;omega;(repeat first|exact P0|apply P1);(apply Rd.own;(repeat first|exact P0|apply P1);exact rfl);intro m3 hq3))|((with_reducible apply u_q);(iterate 4 exact rfl))|((with_reducible apply u_s);(iterate 3 exact rfl)))|((with_reducible apply gx_id);first|(with_reducible apply v_nil)|((with_reducible apply v_q);(iterate 3 exact rfl)))|((with_reducible apply os_id);first|((with_reducible apply (os_storeI hcl2));(iterate 3 exact rfl);(repeat first|exact P0|apply P1);rw [hset])|((with_reducible apply os_x);exact rfl))|((with_reducible apply ox_id);first|((with_reducible apply ox_buildSlice1);(iterate 6 exact rfl);intro _))|((with_reducible apply ai_id);first|((with_reducible apply ai_s0);(iterate 4 exact rfl)))|((with_reducible apply rd_id);first|(apply rdI hck;(repeat first|exact P0|apply P1);done)|(apply rdI hlc;(repeat first|exact P0|apply P1);done)|(apply rdI hlaa;(repeat first|exact P0|apply P1);done)|(apply Rd.old;exact hgc;exact List.not_mem_nil)|(apply Rd.own;(repeat first|exact P0|apply P1);exact hq00;done)|(apply Rd.own;(repeat first|exact P0|apply P1);exact rfl;done))|((with_reducible apply t_id);first|(apply t_mix (id:=16) [0,1,2,3,4,5,6,7,8,9] 1 #[false,false,false,false,false,false,false,false,false,false,true];kernel_rfl;kernel_rfl;exact rfl)|(with_reducible apply t_seq)|(apply t_region;kernel_rfl)|(apply t_drawn;kernel_rfl;decide +kernel;try simp only [List.append_eq,List.cons_append,List.nil_append])|((with_reducible apply t_condT);exact rfl)|((with_reducible apply t_condD);exact rfl;all_goals first|(intro hp;try (exfalso;omega))|skip)|(with_reducible apply t_skip)|(with_reducible apply t_block))|with_reducible apply q_thenN|with_reducible apply q_blockN|((with_reducible apply al_id);first|(apply al_done;decide +kernel)|(apply al_one 10;decide +kernel)))
          all_goals (refine ⟨(i+1,lv2.set c (lev.getD a 0+1),q2++[c],m3),⟨(by simp only;omega),hsn,(by simp only;rw [hcsn];exact hq3),hwn,(by simp only;rw [getD_set,if_neg (by omega)];exact hla)⟩,(by simp only;omega),?_,?_⟩)
          all_goals ((try simp only [List.cons_append,List.nil_append,List.append_nil,hcsn]);(repeat' (first|exact FrSub.nil|(apply FrSub.cons;exact rfl)|(apply FrSub.consE;exact rfl;first|(focus (simp [sI,cI,qS];done))|skip)|exact HpSub.refl _|(apply HpSub.consE;(repeat first|exact P0|apply P1);first|exact rfl|(focus (simp [iv,cI];done)))|apply HpSub.skipX)))
        · rw [if_neg hcc] at hsn
          by_cases hc0:lv2.getD c 0=0
          · have hc1:¬ gr g c≤h:=fun e=>hcc ⟨hc0,e⟩
            ((all_goals refine gqP0 ?_);(all_goals constructor);(any_goals exact trivial);all_goals intros)
            all_goals (refine ⟨(i+1,lv2,q2,m2),⟨(by simp only;omega),hsn,hq2,hw2,hla⟩,(by simp only;omega),?_,?_⟩)
            all_goals ((try simp only [List.cons_append,List.nil_append,List.append_nil]);(repeat' (first|exact FrSub.nil|(apply FrSub.cons;exact rfl)|exact HpSub.refl _)))
          · ((all_goals refine gqP0 ?_);(all_goals constructor);(any_goals exact trivial);all_goals intros)
            all_goals (refine ⟨(i+1,lv2,q2,m2),⟨(by simp only;omega),hsn,hq2,hw2,hla⟩,(by simp only;omega),?_,?_⟩)
            all_goals ((try simp only [List.cons_append,List.nil_append,List.append_nil]);(repeat' (first|exact FrSub.nil|(apply FrSub.cons;exact rfl)|exact HpSub.refl _)))
      · obtain rfl:i=l.length:=by omega
        rw [List.take_length] at hbr
        rw [hbr] at hbf hrd
        simp only at hbf hrd
        ((all_goals refine gqP0 ?_);(all_goals constructor);(any_goals exact trivial);all_goals intros)
        all_goals exact ⟨rfl,(lv2,q2,m2),⟨hbf,hrd,hq2⟩,by (repeat' (first|exact FrSub.nil|(apply FrSub.cons;exact rfl))),by (repeat' (first|(apply HpSub.consE;(repeat first|exact P0|apply P1);first|exact rfl|(focus (simp [iv,cI];done)))|exact HpSub.nil))⟩
    rintro ⟨lv2,q2,m2⟩ ⟨hbf2,hrd2,hq2⟩
    simp only at hbf2 hrd2 hq2
    try dsimp only
    have hq2n:=hrd2.cnt
    have hq2l:=cI_len (a::q2)
    simp only [List.length_cons] at hq2l
    refine t_fact (P:=(cI (a::q2)).length≤m2.cap) (fun M w2 hw2=>hq2.room (hw2.blkP (by (repeat first|exact P0|apply P1)))) fun hroom=>?_
    have hqt:Qok (cI q2) m2.tail:=hq2.tail hroom
    obtain ⟨tb1,tb2,tb3,tb4⟩:=m2.tail_b
    repeat' (first|((with_reducible apply oq_id);first|((with_reducible apply (oq_sliceQ (q:=cI q2) (m:=m2) (z:=(a:Int))));(iterate 4 exact rfl))|(apply oq_fn;exact rfl;first|exact trivial|(and_intros<;>omega)|omega|skip))|((with_reducible apply tl_id);first|(with_reducible apply tl_nil)|((with_reducible apply u_q);(iterate 4 exact rfl)))|((with_reducible apply t_id);first|(apply t_region;kernel_rfl))|with_reducible apply q_thenN)
    all_goals (refine ⟨(k2,lv2,q2,m2.tail),⟨hbf2,hrd2,hqt⟩,(by simp only;omega),?_,?_⟩)
    all_goals ((try simp only [List.cons_append,List.nil_append,List.append_nil,tb1,tb2,tb3]);(repeat' (first|exact FrSub.nil|(apply FrSub.cons;exact rfl)|exact HpSub.refl _)))
  rintro ⟨⟩ -
  try dsimp only
  refine t_cut (ι:=Nat×Nat) (fun z=>[(1,.int .i64 ((x:Nat):Int)),(2,.int .i64 ((y:Nat):Int)),(3,.pointer (some ⟨b3,0,none⟩)),(6,.pointer (some ⟨b6,0,none⟩)),(10,.pointer (some ⟨bL,0,none⟩)),(7,sI (cI [x]) (some z))]) (fun z=>[(b3,[.int .i64 ((W:Nat):Int),.int .i64 ((Hh:Nat):Int),.slice (some ⟨bA,oA,none⟩) n cp],some (66,3,1)),(b6,[.int .i64 h],some (3,1,1)),(bL,[.slice (some ⟨bl,0,none⟩) n n],some (31,1,1)),(bl,(cI (L)).map iv,some (3,1,n))]++hI (cI [x]) (some z)) (fun _=>True) ?_ ?_
  · ((all_goals refine gqP1 ?_);(all_goals constructor);(any_goals exact trivial);all_goals intros)
    all_goals (rename_i bN;exact ⟨rfl,(bN,1),trivial,by (repeat' (first|exact FrSub.nil|(apply FrSub.cons;exact rfl))),by (repeat' (first|exact HpSub.refl _|(apply HpSub.consE;(repeat first|exact P0|apply P1);first|exact rfl|(focus (simp [iv,cI];done)))))⟩)
  rintro ⟨bp,cq⟩ -
  try dsimp only
  have hLb:=hD.bnd
  refine t_cut (ι:=Nat×Nat) (fun z=>[(6,.pointer (some ⟨b6,0,none⟩)),(7,sI (cI P) (some z))]) (fun z=>(b6,[.int .i64 h],some (3,1,1))::hI (cI P) (some z)) (fun _=>True) ?_ ?_
  · refine t_cut (ι:=Nat) (fun b14=>[(2,.int .i64 ((y:Nat):Int)),(3,.pointer (some ⟨b3,0,none⟩)),(6,.pointer (some ⟨b6,0,none⟩)),(10,.pointer (some ⟨bL,0,none⟩)),(14,.pointer (some ⟨b14,0,none⟩)),(7,sI (cI [x]) (some (bp,cq)))]) (fun b14=>[(b3,[.int .i64 ((W:Nat):Int),.int .i64 ((Hh:Nat):Int),.slice (some ⟨bA,oA,none⟩) n cp],some (66,3,1)),(b6,[.int .i64 h],some (3,1,1)),(bL,[.slice (some ⟨bl,0,none⟩) n n],some (31,1,1)),(bl,(cI (L)).map iv,some (3,1,n)),(b14,[.int .i64 ((x:Nat):Int)],some (3,1,1))]++hI (cI [x]) (some (bp,cq))) (fun _=>True) ?_ ?_
    · ((all_goals refine gqP1 ?_);(all_goals constructor);(any_goals exact trivial);all_goals intros)
      all_goals (rename_i bN;exact ⟨rfl,bN,trivial,by (repeat' (first|exact FrSub.nil|(apply FrSub.cons;exact rfl))),by (repeat' (first|exact HpSub.refl _|(apply HpSub.consE;(repeat first|exact P0|apply P1);first|exact rfl|(focus (simp [iv,cI];done)))))⟩)
    rintro b14 -
    try dsimp only
    ((all_goals refine gqP1 ?_);(all_goals constructor);(any_goals exact trivial);all_goals intros)
    apply t_loopK (GH:=[]) (ι:=Nat×List Nat×Nat×Nat×Nat) [2,3,6,10] (fun z=>[(14,.pointer (some ⟨z.2.2.2.2,0,none⟩)),(7,sI (cI (z.2.1++[z.1])) (some (z.2.2.1,z.2.2.2.1)))]) (fun z=>[(b3,[.int .i64 ((W:Nat):Int),.int .i64 ((Hh:Nat):Int),.slice (some ⟨bA,oA,none⟩) n cp],some (66,3,1)),(b6,[.int .i64 h],some (3,1,1)),(bL,[.slice (some ⟨bl,0,none⟩) n n],some (31,1,1)),(bl,(cI (L)).map iv,some (3,1,n)),(z.2.2.2.2,[.int .i64 ((z.1:Nat):Int)],some (3,1,1))]++hI (cI (z.2.1++[z.1])) (some (z.2.2.1,z.2.2.2.1))) (fun z=>∃ P2,P=z.2.1++P2∧Pth W n L y z.1 P2∧z.1<n∧0<L.getD z.1 0∧z.2.1.length+L.getD z.1 0=L.getD x 0) (fun z=>L.getD z.1 0) ((x,[],bp,cq,b14))
    (repeat (first|exact KeepF.nil|(apply KeepF.cons;exact rfl)|apply KeepF.skip))
    (repeat first|exact FrSub.nil|(apply FrSub.cons;exact rfl))
    (simp only [List.append_nil];exact HpSub.refl _)
    · exact ⟨P,rfl,hPt,xn,hxpos,by simp⟩
    rintro ⟨at_,pre,bp,cq,b14⟩ ⟨P2,hPp,hP2,han,hla,hlen⟩
    simp only at hPp hP2 han hla hlen
    try dsimp only
    simp only [List.append_nil,List.cons_append,List.nil_append]
    have hbx:=hLb x
    cases hP2 with
    | done=>
      ((all_goals refine gqP0 ?_);(all_goals constructor);(any_goals exact trivial);all_goals intros)
      all_goals (rw [hPp];exact ⟨rfl,(bp,cq),trivial,by (repeat' (first|exact FrSub.nil|(apply FrSub.cons;exact rfl))),by (repeat' (first|exact HpSub.refl _|(apply HpSub.consE;(repeat first|exact P0|apply P1);first|exact rfl|(focus (simp [iv,cI];done)))|apply HpSub.skipX))⟩)
    | @next _ c l2 hne hnx hk=>
    obtain ⟨hnx1,hnx2⟩:c∈nb W n at_∧L.getD c 0+1=L.getD at_ 0:=by
      obtain ⟨c',h1,h2,h3⟩:=hD.nxt han hla hne
      rw [hnx] at h1
      obtain rfl:=Option.some.inj h1
      exact ⟨h2,h3⟩
    have hcn:=nb_lt t han hnx1
    have hc1:0<L.getD c 0:=by
      have:L.getD at_ 0≠1:=fun e=>hne ((hD.one at_ han).1 e)
      omega
    have hla1:1<L.getD at_ 0:=by omega
    obtain ⟨aa,bs,hsp,has⟩:∃ aa bs,nb W n at_=aa++c::bs∧∀ z∈aa,L.getD z 0+1≠L.getD at_ 0:=by
      unfold nxt at hnx
      rw [List.find?_eq_some_iff_append] at hnx
      obtain ⟨_,aa,bs,h1,h2⟩:=hnx
      exact ⟨aa,bs,h1,fun z hz=>by have:=h2 z hz;simpa using this⟩
    have hnl:=nb_len W n at_
    have hnlt:∀ z∈nb W n at_,z<n:=fun z hz=>nb_lt t han hz
    rw [hsp] at hnl hnlt
    simp only [List.length_append,List.length_cons] at hnl
    have hcl:(cI (aa++c::bs)).length=aa.length+(bs.length+1):=by rw [cI_len];simp
    have hcl5:(cI (aa++c::bs)).length≤576:=by omega
    have hzk:(cI (aa++c::bs))[aa.length]?=some (c:Int):=by
      unfold cI
      rw [List.getElem?_map,List.getElem?_append_right (Nat.le_refl _)];simp
    have hpl:=cI_len (pre++[at_])
    simp only [List.length_append,List.length_singleton] at hpl
    refine t_cut (ι:=Unit) (fun _=>[(2,.int .i64 ((y:Nat):Int)),(3,.pointer (some ⟨b3,0,none⟩)),(6,.pointer (some ⟨b6,0,none⟩)),(10,.pointer (some ⟨bL,0,none⟩)),(14,.pointer (some ⟨b14,0,none⟩)),(7,sI (cI (pre++[at_])) (some (bp,cq)))]) (fun _=>[(b3,[.int .i64 ((W:Nat):Int),.int .i64 ((Hh:Nat):Int),.slice (some ⟨bA,oA,none⟩) n cp],some (66,3,1)),(b6,[.int .i64 h],some (3,1,1)),(bL,[.slice (some ⟨bl,0,none⟩) n n],some (31,1,1)),(bl,(cI (L)).map iv,some (3,1,n)),(b14,[.int .i64 ((at_:Nat):Int)],some (3,1,1)),(bp,(cI (pre++[at_])).map iv,some (3,1,cq))]) (fun _=>True) ?_ ?_
    · ((all_goals refine gqP0 ?_);(all_goals constructor);(any_goals exact trivial);all_goals intros)
      all_goals exact ⟨(by first|rfl|trivial),(),trivial,by (repeat' (first|exact FrSub.nil|(apply FrSub.cons;exact rfl))),by (repeat' (first|exact HpSub.refl _))⟩
    rintro ⟨⟩ -
    try dsimp only
    refine t_cut (ι:=Unit) (fun _=>[(2,.int .i64 ((y:Nat):Int)),(3,.pointer (some ⟨b3,0,none⟩)),(6,.pointer (some ⟨b6,0,none⟩)),(10,.pointer (some ⟨bL,0,none⟩)),(14,.pointer (some ⟨b14,0,none⟩)),(7,sI (cI (pre++[at_])) (some (bp,cq)))]) (fun _=>[(b3,[.int .i64 ((W:Nat):Int),.int .i64 ((Hh:Nat):Int),.slice (some ⟨bA,oA,none⟩) n cp],some (66,3,1)),(b6,[.int .i64 h],some (3,1,1)),(bL,[.slice (some ⟨bl,0,none⟩) n n],some (31,1,1)),(bl,(cI (L)).map iv,some (3,1,n)),(b14,[.int .i64 ((c:Nat):Int)],some (3,1,1)),(bp,(cI (pre++[at_])).map iv,some (3,1,cq))]) (fun _=>True) ?_ ?_
    · refine t_block ?_
      refine t_cut (ι:=Nat×Nat) (fun z=>[(2,.int .i64 ((y:Nat):Int)),(3,.pointer (some ⟨b3,0,none⟩)),(6,.pointer (some ⟨b6,0,none⟩)),(10,.pointer (some ⟨bL,0,none⟩)),(14,.pointer (some ⟨b14,0,none⟩)),(7,sI (cI (pre++[at_])) (some (bp,cq))),(15,sI (cI (aa++c::bs)) (some z))]) (fun z=>[(b3,[.int .i64 ((W:Nat):Int),.int .i64 ((Hh:Nat):Int),.slice (some ⟨bA,oA,none⟩) n cp],some (66,3,1)),(b6,[.int .i64 h],some (3,1,1)),(bL,[.slice (some ⟨bl,0,none⟩) n n],some (31,1,1)),(bl,(cI (L)).map iv,some (3,1,n)),(b14,[.int .i64 ((at_:Nat):Int)],some (3,1,1)),(bp,(cI (pre++[at_])).map iv,some (3,1,cq)),(z.1,(cI (aa++c::bs)).map iv,some (3,1,z.2))]) (fun _=>True) ?_ ?_
      · repeat' (first|((with_reducible apply oq_id);first|(apply oq_fn;exact rfl;first|exact trivial|(and_intros<;>omega)|omega|skip)|((with_reducible apply oq_load);exact rfl;exact rfl)|((with_reducible apply oq_loadAgg);exact rfl;exact rfl))|((with_reducible apply tl_id);first|(with_reducible apply tl_nil)|((with_reducible apply u_s);(iterate 3 exact rfl);(with_reducible apply os_callF (PV:=LsI (cI (aa++c::bs))) (hc:=Tryz.call83));exact rfl;exact rfl;exact fun D w1 hw1=>(hsp ▸ around6_calls (some ⟨bA,oA,none⟩) cp W Hh n at_ t han w1);rintro _ _ ⟨_|⟨bo,co⟩,ho,rfl,rfl⟩;(focus (have hee:=ho rfl;simp [cI] at hee));simp only [List.cons_append,List.nil_append])|((with_reducible apply u_q);(iterate 4 exact rfl)))|((with_reducible apply rd_id);first|(apply Rd.own;(repeat first|exact P0|apply P1);exact rfl;done))|((with_reducible apply t_id);first|(apply t_region;kernel_rfl))|exact Rdn.zero|apply Rdn.succ)
        all_goals exact ⟨(by first|rfl|trivial),(bo,co),trivial,by (repeat first|exact FrSub.nil|(apply FrSub.cons;exact rfl)),by (repeat (first|exact HpSub.refl _|(apply HpSub.consE;(repeat first|exact P0|apply P1);exact rfl)|apply HpSub.skipX|exact HpSub.nil))⟩
      rintro ⟨bo,co⟩ -
      try dsimp only
      ((all_goals refine gqP1 ?_);(all_goals constructor);(any_goals exact trivial);all_goals intros)
      all_goals exact ⟨rfl,(),trivial,by (repeat' (first|exact FrSub.nil|(apply FrSub.cons;exact rfl))),by (repeat' (first|exact HpSub.refl _|(apply HpSub.consE;(repeat first|exact P0|apply P1);first|exact rfl|(focus (simp [iv,cI];done)))|apply HpSub.skipX))⟩
    rintro ⟨⟩ -
    try dsimp only
    refine t_cut (ι:=Nat) (fun b15=>[(2,.int .i64 ((y:Nat):Int)),(3,.pointer (some ⟨b3,0,none⟩)),(6,.pointer (some ⟨b6,0,none⟩)),(10,.pointer (some ⟨bL,0,none⟩)),(14,.pointer (some ⟨b15,0,none⟩)),(7,sI (cI (pre++[at_])) (some (bp,cq)))]) (fun b15=>[(b3,[.int .i64 ((W:Nat):Int),.int .i64 ((Hh:Nat):Int),.slice (some ⟨bA,oA,none⟩) n cp],some (66,3,1)),(b6,[.int .i64 h],some (3,1,1)),(bL,[.slice (some ⟨bl,0,none⟩) n n],some (31,1,1)),(bl,(cI (L)).map iv,some (3,1,n)),(b15,[.int .i64 ((c:Nat):Int)],some (3,1,1)),(bp,(cI (pre++[at_])).map iv,some (3,1,cq))]) (fun _=>True) ?_ ?_
    · ((all_goals refine gqP1 ?_);(all_goals constructor);(any_goals exact trivial);all_goals intros)
      all_goals (rename_i bN;exact ⟨rfl,bN,trivial,by (repeat' (first|exact FrSub.nil|(apply FrSub.cons;exact rfl))),by (repeat' (first|exact HpSub.refl _|(apply HpSub.consE;(repeat first|exact P0|apply P1);first|exact rfl|(focus (simp [iv,cI];done)))|apply HpSub.skipX))⟩)
    rintro b15 -
    try dsimp only
    ((all_goals refine gqP1 ?_);(all_goals constructor);(any_goals exact trivial);all_goals intros)
    all_goals (rename_i bN cN;refine ⟨(c,pre++[at_],bN,cN,b15),⟨l2,(by rw [hPp,List.append_assoc];rfl),hk,hcn,hc1,(by simp only [List.length_append,List.length_singleton];omega)⟩,(by simp only;omega),?_,?_⟩)
    all_goals ((try simp only [List.cons_append,List.nil_append,List.append_nil,sI_snoc,hI_snoc]);(repeat' (first|exact FrSub.nil|(apply FrSub.cons;exact rfl)|exact HpSub.refl _|(apply HpSub.consE;(repeat first|exact P0|apply P1);first|exact rfl|(focus (simp [iv,cI];done)))|apply HpSub.skipX)))
  rintro ⟨bp,cq⟩ -
  try dsimp only
  ((all_goals refine gqP1 ?_);(all_goals constructor);(any_goals exact trivial);all_goals intros)
  all_goals exact ⟨_,⟨some (bp,cq),(fun h=>by cases h),rfl,rfl⟩,by (repeat (first|exact HpSub.refl _|(apply HpSub.consE;(repeat first|exact P0|apply P1);exact rfl)|apply HpSub.skipX|exact HpSub.nil))⟩
section
variable {w:World} {N:Nat} {F:Fr} {H:Hp} {M:List Nat} {d:Option Tmp} {ty t':TypeId} {pos:String} {af:Array Edge} {g:Option (Nat×Bool)} {x y:Operand} {a b a' b':Int}
theorem eq_sp {d:Nat}:(Op.equalIn (d+2) 27 (.agg ⟨[.int .i64 a,.int .i64 b]⟩) (.agg ⟨[.int .i64 a',.int .i64 b']⟩)).run Tryz.prog w=.ok (decide (a=a') && (decide (b=b') && true)) w:=by
 rw [run_equalIn_struct w (d+1) 27 _ _ (by kernel_rfl) (by kernel_rfl)]
 simp only [Program.fieldsOf,Tryz.underlying27]
 exact eqF_int rfl rfl rfl rfl rfl (eqF_int rfl rfl rfl rfl rfl eqF_nil)
theorem eq_pn {d:Nat}:(Op.equalIn (d+2) 34 (.agg ⟨[.int .i64 a,.int .i64 b]⟩) (.agg ⟨[.int .i64 a',.int .i64 b']⟩)).run Tryz.prog w=.ok (decide (a=a') && (decide (b=b') && true)) w:=by
 rw [run_equalIn_struct w (d+1) 34 _ _ (by kernel_rfl) (by kernel_rfl)]
 simp only [Program.fieldsOf,Tryz.underlying34]
 exact eqF_int rfl rfl rfl rfl rfl (eqF_int rfl rfl rfl rfl rfl eqF_nil)
theorem oq_eqSpT (hx:ev F x=some (.agg ⟨[.int .i64 a,.int .i64 b]⟩)) (hy:ev F y=some (.agg ⟨[.int .i64 a',.int .i64 b']⟩)) (h:a=a'∧b=b'):OQ (cxM M w N) ⟨d,.binOp .eql 27 x y t',ty,pos,af,g⟩ F H (.bool true):=oq_eqS (by kernel_rfl) (fun w=>by rw [eq_sp (d:=9998)];simp [h]) hx hy
theorem oq_neSpF (hx:ev F x=some (.agg ⟨[.int .i64 a,.int .i64 b]⟩)) (hy:ev F y=some (.agg ⟨[.int .i64 a',.int .i64 b']⟩)) (h:a=a'∧b=b'):OQ (cxM M w N) ⟨d,.binOp .neq 27 x y t',ty,pos,af,g⟩ F H (.bool false):=oq_neS (q:=true) (by kernel_rfl) (fun w=>by rw [eq_sp (d:=9998)];simp [h]) hx hy
theorem oq_eqPnT (hx:ev F x=some (.agg ⟨[.int .i64 a,.int .i64 b]⟩)) (hy:ev F y=some (.agg ⟨[.int .i64 a',.int .i64 b']⟩)) (h:a=a'∧b=b'):OQ (cxM M w N) ⟨d,.binOp .eql 34 x y t',ty,pos,af,g⟩ F H (.bool true):=oq_eqS (by kernel_rfl) (fun w=>by rw [eq_pn (d:=9998)];simp [h]) hx hy
end
theorem rows_own {w0:World} {M:Ms} {H H':Hp} {w:World} {g n k:Nat} {rows:List (List Value)} {tg:Tg} (hl:rows.length=n) (hk:∀ r∈rows,r.length=k) (h:Has w0 M H w) (q:Pick H g rows.flatten tg H'):RdS w k (some ⟨g,0,none⟩) n rows:=Blk.rows (h.blk _ q.mem).2 hl hk
def exW (b:Nat):Wn:=⟨some ⟨b,0,none⟩,1,1,exG⟩
theorem exW_cast {w0:World} {M:Ms} {H H' H'':Hp} {w:World} {b g:Nat} {tg tg':Tg} (h:Has w0 M H w) (p:Pick H b [.slice (some ⟨g,0,none⟩) 1 1] tg H') (q:Pick H g (exG.map glCells).flatten tg' H''):CastR w (some ⟨b,0,none⟩) 1 [exW g]:=
 ⟨rows_own (rows:=[exW g].map wnCells) rfl (by intro r hr;obtain rfl:=List.mem_singleton.1 hr;rfl) h p,fun x hx=>by
   obtain rfl:=List.mem_singleton.1 hx
   exact ⟨rows_own (rows:=exG.map glCells) rfl (by decide +kernel) h q,Nat.le_refl _⟩⟩
theorem span40_calls (a b:Int) (w:World):Calls Tryz.prog 40 #[.int .i64 a,.int .i64 b] w fun e w'=>e=.returned (.agg #[.int .i64 a,.int .i64 b])∧Ext w w':=by
 refine enterQ (c:=cx w 8) Tryz.func40 rfl rfl rfl rfl ?_
 ((all_goals refine gqP1 ?_);(all_goals constructor);(any_goals exact trivial);all_goals intros)
 all_goals rfl
theorem pace50_calls (w:World):Calls Tryz.prog 50 #[] w fun e w'=>e=.returned (.agg #[.int .i64 200,.int .i64 600,.int .i64 200,.int .i64 800,.int .i64 100,.int .i64 6,.int .i64 12])∧Ext w w':=by
 refine enterQ (c:=cx w 3) Tryz.func50 rfl rfl rfl rfl ?_
 ((all_goals refine gqP1 ?_);(all_goals constructor);(any_goals exact trivial);all_goals intros)
 all_goals rfl
def chartV (v:Value) (H:Hp):Prop:=∃ b1 b2,v=.agg #[.slice (some ⟨b1,0,none⟩) 3 3,.slice (some ⟨b2,0,none⟩) 2 2]∧H=[(b1,(exT.map blCells).flatten,some (4,1,3)),(b2,(exL.map lgCells).flatten,some (78,5,2))]
def castV (v:Value) (H:Hp):Prop:=∃ b g,v=.slice (some ⟨b,0,none⟩) 1 1∧H=[(b,[.slice (some ⟨g,0,none⟩) 1 1],some (84,1,1)),(g,(exG.map glCells).flatten,some (164,6,1))]
def ridgeV (v:Value) (H:Hp):Prop:=∃ b,v=.agg #[.int .i64 3,.int .i64 3,.slice (some ⟨b,0,none⟩) 9 9]∧H=[(b,exH.map iv,some (3,1,9))]
theorem chart_T (w:World):Calls Tryz.prog 49 #[] w fun e w'=>∃ v H',e=.returned v∧chartV v H'∧Has w ⟨[],[]⟩ H' w':=by
 refine enterF (c:=cx w 6) Tryz.func49 rfl rfl rfl rfl ?_
 ((all_goals refine gqP1 ?_);(all_goals constructor);(any_goals exact trivial);all_goals intros)
 all_goals (rename_i b1 b2;exact ⟨_,⟨_,_,rfl,rfl⟩,by (repeat' (first|exact HpSub.refl _|(apply HpSub.consE;(repeat first|exact P0|apply P1);first|exact rfl|(simp;done))|apply HpSub.skipX))⟩)
theorem cast_T (w:World):Calls Tryz.prog 51 #[] w fun e w'=>∃ v H',e=.returned v∧castV v H'∧Has w ⟨[],[]⟩ H' w':=by
 refine enterF (c:=cx w 7) Tryz.func51 rfl rfl rfl rfl ?_
 ((all_goals refine gqP1 ?_);(all_goals constructor);(any_goals exact trivial);all_goals intros)
 all_goals exact ⟨_,⟨_,_,rfl,rfl⟩,by (repeat' (first|exact HpSub.refl _))⟩
theorem ridge_T (w:World):Calls Tryz.prog 52 #[] w fun e w'=>∃ v H',e=.returned v∧ridgeV v H'∧Has w ⟨[],[]⟩ H' w':=by
 refine enterF (c:=cx w 3) Tryz.func52 rfl rfl rfl rfl ?_
 ((all_goals refine gqP1 ?_);(all_goals constructor);(any_goals exact trivial);all_goals intros)
 all_goals exact ⟨_,⟨_,rfl,rfl⟩,by (repeat' (first|exact HpSub.refl _|(apply HpSub.consE;(repeat first|exact P0|apply P1);first|exact rfl|(simp;done))|apply HpSub.skipX))⟩
theorem ex_part {b1 b2 b g:Nat} {w:World} (hT:RdS w 1 (some ⟨b1,0,none⟩) 3 (exT.map blCells)) (hr:RdS w 5 (some ⟨b2,0,none⟩) 2 (exL.map lgCells)) (hc:CastR w (some ⟨b,0,none⟩) 1 [exW g]):Calls Tryz.prog 37 #[.agg #[.slice (some ⟨b1,0,none⟩) 3 3,.slice (some ⟨b2,0,none⟩) 2 2],.agg #[.int .i64 200,.int .i64 600,.int .i64 200,.int .i64 800,.int .i64 100,.int .i64 6,.int .i64 12],.slice (some ⟨b,0,none⟩) 1 1,.int .i64 0,.bool false,.int .i64 50000] w fun e w'=>e=.returned (.tuple #[.agg #[.int .i64 1666,.int .i64 1786],.agg #[.int .i64 166,.int .i64 358],.int .i64 0])∧Ext w w':=by
 rw [← exPart (z:=exW g) rfl]
 exact part16_calls (some ⟨b1,0,none⟩) _ 3 3 2 2 exL w hr (by decide) (by decide) 200 600 200 800 100 6 12 _ 1 1 [exW g] hc (fun z hz=>by obtain rfl:=List.mem_singleton.1 hz;exact (by decide:1≤1000000)) 0 false 50000
theorem ex_best {b1 b2 b g:Nat} {w:World} (hT:RdS w 1 (some ⟨b1,0,none⟩) 3 (exT.map blCells)) (hr:RdS w 5 (some ⟨b2,0,none⟩) 2 (exL.map lgCells)) (hc:CastR w (some ⟨b,0,none⟩) 1 [exW g]):Calls Tryz.prog 21 #[.agg #[.slice (some ⟨b1,0,none⟩) 3 3,.slice (some ⟨b2,0,none⟩) 2 2],.agg #[.int .i64 200,.int .i64 600,.int .i64 200,.int .i64 800,.int .i64 100,.int .i64 6,.int .i64 12],.slice (some ⟨b,0,none⟩) 1 1,.int .i64 0,.int .i64 2] w fun e w'=>∃ u H',e=.returned u∧BestV ([0,1],640,0) u H'∧Has w ⟨[],[]⟩ H' w':=by
 rw [← exBest (z:=exW g) rfl]
 exact best21_calls (some ⟨b1,0,none⟩) _ 3 3 2 2 exL w hr (by decide) (by decide) 200 600 200 800 100 6 12 _ 1 1 [exW g] hc (fun z hz=>by obtain rfl:=List.mem_singleton.1 hz;exact (by decide:1≤1000000)) 0 2
theorem ex_least {b1 b2 b g:Nat} {w:World} (hT:RdS w 1 (some ⟨b1,0,none⟩) 3 (exT.map blCells)) (hr:RdS w 5 (some ⟨b2,0,none⟩) 2 (exL.map lgCells)) (hc:CastR w (some ⟨b,0,none⟩) 1 [exW g]) (A:Option Addr) (cp:Nat) (hR:RdS w 1 A 2 (([0,1]:List Int).map inCells)):Calls Tryz.prog 31 #[.agg #[.slice (some ⟨b1,0,none⟩) 3 3,.slice (some ⟨b2,0,none⟩) 2 2],.agg #[.int .i64 200,.int .i64 600,.int .i64 200,.int .i64 800,.int .i64 100,.int .i64 6,.int .i64 12],.slice (some ⟨b,0,none⟩) 1 1,.int .i64 0,.slice A 2 cp] w fun e w'=>e=.returned (.tuple #[.int .i64 740,.int .i64 0])∧Ext w w':=by
 have h:=least31_ok (some ⟨b1,0,none⟩) _ 3 3 2 2 exL w hr (by decide) (by decide) 200 600 200 800 100 6 12 _ 1 1 [exW g] hc (fun z hz=>by obtain rfl:=List.mem_singleton.1 hz;exact (by decide:1≤1000000)) 0 A 2 cp [0,1] hR (by decide) (exE rfl) (by decide) exP exTrip exT hT
 rw [exLst (z:=exW g) rfl] at h
 exact h
theorem ex_noret {b1 b2 b g:Nat} {w:World} (hT:RdS w 1 (some ⟨b1,0,none⟩) 3 (exT.map blCells)) (hr:RdS w 5 (some ⟨b2,0,none⟩) 2 (exL.map lgCells)) (hc:CastR w (some ⟨b,0,none⟩) 1 [exW g]) (A:Option Addr) (cp:Nat) (hR:RdS w 1 A 2 (([0,1]:List Int).map inCells)):Calls Tryz.prog 16 #[.agg #[.slice (some ⟨b1,0,none⟩) 3 3,.slice (some ⟨b2,0,none⟩) 2 2],.agg #[.int .i64 200,.int .i64 600,.int .i64 200,.int .i64 800,.int .i64 100,.int .i64 6,.int .i64 12],.slice (some ⟨b,0,none⟩) 1 1,.int .i64 0,.slice A 2 cp,.int .i64 740] w fun e w'=>e=.returned (.tuple #[.agg #[.int .i64 0,.int .i64 23226],.int .i64 0])∧Ext w w':=by
 have h:=noret16_ok (some ⟨b1,0,none⟩) _ 3 3 2 2 exL w hr (by decide) (by decide) 200 600 200 800 100 6 12 _ 1 1 [exW g] hc (fun z hz=>by obtain rfl:=List.mem_singleton.1 hz;exact (by decide:1≤1000000)) 0 A 2 cp [0,1] hR (by decide) (exE rfl) (by decide) exP exTrip 740 (by decide)
 rw [exNo (z:=exW g) rfl] at h
 exact h
theorem ex_pass {g cp:Nat} {w:World} (hr:RdS w 1 (some ⟨g,0,none⟩) 9 (exH.map inCells)):Calls Tryz.prog 35 #[.agg #[.int .i64 3,.int .i64 3,.slice (some ⟨g,0,none⟩) 9 cp],.int .i64 0,.int .i64 2] w fun e w'=>∃ v H',e=.returned v∧PasV 0 7 [0,3,4,5,2] v H'∧Has w ⟨[],[]⟩ H' w':=by
 obtain ⟨e,h,P,hP⟩:=isP_ex 3 3 exH 0 2
 obtain ⟨rfl,rfl,rfl⟩:=exIsP hP
 exact pass_calls _ 9 cp 3 3 0 2 0 7 exH _ w hP hr (by decide)
end Go.Proofs.YtcjkndjjbjoehaaGreat
namespace Go.Proofs.YtcjkndjjbjoehaaGreat
open Go.RowKit
theorem al_moreZ {c:Cx} {l ql:List Oper} {cov:Array Bool} {H0 H:Hp} {n:Nat} {listed:Array Bool} {R:Fr→Hp→Prop} {F:Fr} (q:List Nat) (m:Nat) (hB:(Region.noSelect ⟨l⟩ && downB l listed && lexOk ⟨l⟩ cov q listed)=true) (hn:n=m+q.length) (hq:pickOps l q=some ql) (hs:HpSub H H0)
   (h:GX c ⟨l⟩ ql (fun F'=>AL c ⟨l⟩ cov H0 m (listedBy q listed) R F' H) F H0):AL c ⟨l⟩ cov H0 n listed R F H:=fun D a w ha hw=>by
 subst hn
 simp only [Bool.and_eq_true] at hB
 exact SAnyI_lexE (Has.up (M:=⟨c.M,D⟩)) hB.1.1 m q listed a w (hw.sub hs) hB.2 (downB_spec hB.1.2) (wpGI_mono (fun a' ⟨F',h1,h2⟩ w' hw'=>h1 D a' w' h2 (hw.grow hw')) q a (h q (pickOps_spec hq) D a ha)) w (Ext.refl _)
theorem al_with {c:Cx} {ops:Array Oper} {cov:Array Bool} {H0 H1:Hp} {n0:Nat} {l0:Array Bool} {R:Fr→Hp→Prop} {F0:Fr} (A:(Nat→Array Bool→Fr→Hp→Prop)→Prop) (h:A fun n l F H=>AL c ops cov H0 n l R F H) (k:(A fun n l F H=>AL c ops cov H0 n l R F H)→AL c ops cov H0 n0 l0 R F0 H1):AL c ops cov H0 n0 l0 R F0 H1:=k h
theorem al_sub {c:Cx} {ops:Array Oper} {cov:Array Bool} {H0 H H':Hp} {n:Nat} {l:Array Bool} {R:Fr→Hp→Prop} {F F':Fr} (h:AL c ops cov H0 n l R F' H') (hF:FrSub F F') (hH:HpSub H H'):AL c ops cov H0 n l R F H:=fun D a w ha hw=>h D a w (ha.sub hF) (hw.sub hH)
end Go.Proofs.YtcjkndjjbjoehaaGreat
namespace Go.Proofs.YtcjkndjjbjoehaaGreat
open Go.RowKit
attribute [local irreducible] OQ OS OX Rd T TL GX GL AL AI RV wpG SAny Calls
theorem alive_calls (w:World):Calls Tryz.prog 34 #[] w fun e w'=>e=.returned (.bool true)∧Ext w w':=by
 refine enterQ (c:=cx w 107) Tryz.func34 rfl rfl rfl rfl ?_
 refine t_cut (ι:=Unit) (fun _=>[]) (fun _=>[]) (fun _=>True) ?_ ?_
 · ((all_goals refine gqP1 ?_);(all_goals constructor);(any_goals exact trivial);all_goals intros)
   all_goals exact ⟨rfl,(),trivial,by (repeat first|exact FrSub.nil|(apply FrSub.cons;exact rfl)),by (repeat' (first|exact HpSub.refl _))⟩
 rintro ⟨⟩ -
 refine t_cut (ι:=Nat×Nat) (fun z=>[(1,.int .i64 7),(2,.slice (some ⟨z.1,0,none⟩) 5 z.2),(3,.int .i64 0)]) (fun z=>(z.1,(cI [0,3,4,5,2]).map iv,some (3,1,z.2))::[]) (fun _=>True) ?_ ?_
 · repeat' (first|((with_reducible apply oq_id);first|(apply oq_fn;exact rfl;first|exact trivial|(and_intros<;>omega)|omega|skip))|((with_reducible apply tl_id);first|(with_reducible apply tl_nil)|((with_reducible apply u_s);(iterate 3 exact rfl);(with_reducible apply os_callF (PV:=ridgeV) (hc:=Tryz.call52));exact rfl;exact rfl;exact fun D w1 hw1=>ridge_T w1;rintro _ _ ⟨b,rfl,rfl⟩;simp only [List.cons_append,List.nil_append])|((with_reducible apply u_s);(iterate 3 exact rfl);(with_reducible apply os_callF (PV:=PasV 0 7 [0,3,4,5,2]) (hc:=Tryz.call35));exact rfl;exact rfl;exact fun D w1 hw1=>ex_pass (in_rows1 (l:=exH) rfl hw1 (by (repeat first|exact P0|apply P1)));rintro _ _ ⟨o,ho,rfl,rfl⟩;(rcases o with _|⟨gP,cP⟩);(exact absurd (ho rfl) (by decide));simp only [sI,hI,List.cons_append,List.nil_append])|((with_reducible apply u_q);(iterate 4 exact rfl)))|((with_reducible apply t_id);first|(apply t_region;kernel_rfl)))
   all_goals exact ⟨by trivial,(gP,cP),trivial,by (repeat first|exact FrSub.nil|(apply FrSub.cons;exact rfl)),by (repeat' (first|exact HpSub.refl _|(apply HpSub.consE;(repeat first|exact P0|apply P1);first|exact rfl|(simp;done))|apply HpSub.skipX))⟩
 rintro ⟨gP,cP⟩ -
 simp only
 refine t_cut (ι:=Nat×Nat) (fun z=>[(1,.int .i64 7),(2,.slice (some ⟨gP,0,none⟩) 5 cP),(3,.int .i64 0),(4,.pointer (some ⟨z.1,0,none⟩)),(5,.pointer (some ⟨z.2,0,none⟩)),(6,.int .i64 0)]) (fun z=>(gP,(cI [0,3,4,5,2]).map iv,some (3,1,cP))::(z.1,[.int .i64 1666,.int .i64 1786],some (27,2,1))::(z.2,[.int .i64 166,.int .i64 358],some (27,2,1))::[]) (fun _=>True) ?_ ?_
 · repeat' (first|((with_reducible apply oq_id);first|(apply oq_fn;exact rfl;first|exact trivial|(and_intros<;>omega)|omega|skip)|((with_reducible apply oq_call (hc:=Tryz.call50));exact rfl;exact rfl;exact fun D w1 hw1=>pace50_calls w1)|((with_reducible apply oq_call (hc:=Tryz.call37));exact rfl;exact rfl;exact fun D w1 hw1=>ex_part (rows_own (rows:=exT.map blCells) rfl (by decide +kernel) hw1 (by (repeat first|exact P0|apply P1))) (rows_own (rows:=exL.map lgCells) rfl (by decide +kernel) hw1 (by (repeat first|exact P0|apply P1))) (exW_cast hw1 (by (repeat first|exact P0|apply P1)) (by (repeat first|exact P0|apply P1)))))|((with_reducible apply tl_id);first|(with_reducible apply tl_nil)|((with_reducible apply u_s);(iterate 3 exact rfl);(with_reducible apply os_callF (PV:=chartV) (hc:=Tryz.call49));exact rfl;exact rfl;exact fun D w1 hw1=>chart_T w1;rintro _ _ ⟨b1,b2,rfl,rfl⟩;simp only [List.cons_append,List.nil_append])|((with_reducible apply u_s);(iterate 3 exact rfl);(with_reducible apply os_callF (PV:=castV) (hc:=Tryz.call51));exact rfl;exact rfl;exact fun D w1 hw1=>cast_T w1;rintro _ _ ⟨b,g,rfl,rfl⟩;simp only [List.cons_append,List.nil_append])|((with_reducible apply u_q);(iterate 4 exact rfl))|((with_reducible apply u_s0);exact rfl;exact rfl)|((with_reducible apply u_s);(iterate 3 exact rfl)))|((with_reducible apply os_id);first|((with_reducible apply os_x);exact rfl)|((with_reducible apply os_storeAgg);(iterate 5 exact rfl)))|((with_reducible apply ox_id);first|((with_reducible apply ox_alloc);exact rfl;intro _))|((with_reducible apply t_id);first|(apply t_region;kernel_rfl))|exact P0|(with_reducible apply P1)|((with_reducible apply Norm.nil);exact rfl)|((with_reducible apply Norm.cons);exact rfl)|exact Nat.le_of_ble_eq_true rfl)
   all_goals exact ⟨by trivial,(_,_),trivial,by (repeat first|exact FrSub.nil|(apply FrSub.cons;exact rfl)),by (repeat' (first|exact HpSub.refl _|(apply HpSub.consE;(repeat first|exact P0|apply P1);first|exact rfl|(simp;done))|apply HpSub.skipX))⟩
 rintro ⟨b4,b5⟩ -
 simp only
 refine t_cut (ι:=Nat×Nat) (fun z=>[(1,.int .i64 7),(2,.slice (some ⟨gP,0,none⟩) 5 cP),(3,.int .i64 0),(4,.pointer (some ⟨b4,0,none⟩)),(5,.pointer (some ⟨b5,0,none⟩)),(6,.int .i64 0),(7,.slice (some ⟨z.1,0,none⟩) 2 z.2),(8,.int .i64 640),(9,.int .i64 0)]) (fun z=>(z.1,(cI [0,1]).map iv,some (3,1,z.2))::(gP,(cI [0,3,4,5,2]).map iv,some (3,1,cP))::(b4,[.int .i64 1666,.int .i64 1786],some (27,2,1))::(b5,[.int .i64 166,.int .i64 358],some (27,2,1))::[]) (fun _=>True) ?_ ?_
 · repeat' (first|((with_reducible apply oq_id);first|(apply oq_fn;exact rfl;first|exact trivial|(and_intros<;>omega)|omega|skip)|((with_reducible apply oq_call (hc:=Tryz.call50));exact rfl;exact rfl;exact fun D w1 hw1=>pace50_calls w1))|((with_reducible apply tl_id);first|(with_reducible apply tl_nil)|((with_reducible apply u_s);(iterate 3 exact rfl);(with_reducible apply os_callF (PV:=chartV) (hc:=Tryz.call49));exact rfl;exact rfl;exact fun D w1 hw1=>chart_T w1;rintro _ _ ⟨b1,b2,rfl,rfl⟩;simp only [List.cons_append,List.nil_append])|((with_reducible apply u_s);(iterate 3 exact rfl);(with_reducible apply os_callF (PV:=castV) (hc:=Tryz.call51));exact rfl;exact rfl;exact fun D w1 hw1=>cast_T w1;rintro _ _ ⟨b,g,rfl,rfl⟩;simp only [List.cons_append,List.nil_append])|((with_reducible apply u_s);(iterate 3 exact rfl);(with_reducible apply os_callF (PV:=BestV ([0,1],640,0)) (hc:=Tryz.call21));exact rfl;exact rfl;exact fun D w1 hw1=>ex_best (rows_own (rows:=exT.map blCells) rfl (by decide +kernel) hw1 (by (repeat first|exact P0|apply P1))) (rows_own (rows:=exL.map lgCells) rfl (by decide +kernel) hw1 (by (repeat first|exact P0|apply P1))) (exW_cast hw1 (by (repeat first|exact P0|apply P1)) (by (repeat first|exact P0|apply P1)));rintro _ _ ⟨o,ho,rfl,rfl⟩;(rcases o with _|⟨gB,cB⟩);(exact absurd (ho rfl) (by decide));simp only [sN,hN,List.cons_append,List.nil_append])|((with_reducible apply u_q);(iterate 4 exact rfl)))|((with_reducible apply t_id);first|(apply t_region;kernel_rfl)))
   all_goals exact ⟨by trivial,(gB,cB),trivial,by (repeat first|exact FrSub.nil|(apply FrSub.cons;exact rfl)),by (repeat' (first|exact HpSub.refl _|(apply HpSub.consE;(repeat first|exact P0|apply P1);first|exact rfl|(simp;done))|apply HpSub.skipX))⟩
 rintro ⟨gB,cB⟩ -
 simp only
 refine t_cut (ι:=Unit) (fun _=>[(1,.int .i64 7),(2,.slice (some ⟨gP,0,none⟩) 5 cP),(3,.int .i64 0),(4,.pointer (some ⟨b4,0,none⟩)),(5,.pointer (some ⟨b5,0,none⟩)),(6,.int .i64 0),(7,.slice (some ⟨gB,0,none⟩) 2 cB),(8,.int .i64 640),(9,.int .i64 0),(10,.int .i64 740),(11,.int .i64 0)]) (fun _=>(gB,(cI [0,1]).map iv,some (3,1,cB))::(gP,(cI [0,3,4,5,2]).map iv,some (3,1,cP))::(b4,[.int .i64 1666,.int .i64 1786],some (27,2,1))::(b5,[.int .i64 166,.int .i64 358],some (27,2,1))::[]) (fun _=>True) ?_ ?_
 · repeat' (first|((with_reducible apply oq_id);first|(apply oq_fn;exact rfl;first|exact trivial|(and_intros<;>omega)|omega|skip)|((with_reducible apply oq_call (hc:=Tryz.call50));exact rfl;exact rfl;exact fun D w1 hw1=>pace50_calls w1)|((with_reducible apply oq_call (hc:=Tryz.call31));exact rfl;exact rfl;exact fun D w1 hw1=>ex_least (rows_own (rows:=exT.map blCells) rfl (by decide +kernel) hw1 (by (repeat first|exact P0|apply P1))) (rows_own (rows:=exL.map lgCells) rfl (by decide +kernel) hw1 (by (repeat first|exact P0|apply P1))) (exW_cast hw1 (by (repeat first|exact P0|apply P1)) (by (repeat first|exact P0|apply P1))) _ _ (in_rows1 (l:=[0,1]) rfl hw1 (by (repeat first|exact P0|apply P1)))))|((with_reducible apply tl_id);first|(with_reducible apply tl_nil)|((with_reducible apply u_s);(iterate 3 exact rfl);(with_reducible apply os_callF (PV:=chartV) (hc:=Tryz.call49));exact rfl;exact rfl;exact fun D w1 hw1=>chart_T w1;rintro _ _ ⟨b1,b2,rfl,rfl⟩;simp only [List.cons_append,List.nil_append])|((with_reducible apply u_s);(iterate 3 exact rfl);(with_reducible apply os_callF (PV:=castV) (hc:=Tryz.call51));exact rfl;exact rfl;exact fun D w1 hw1=>cast_T w1;rintro _ _ ⟨b,g,rfl,rfl⟩;simp only [List.cons_append,List.nil_append])|((with_reducible apply u_q);(iterate 4 exact rfl))|((with_reducible apply u_s);(iterate 3 exact rfl)))|((with_reducible apply os_id);first|((with_reducible apply os_x);exact rfl))|((with_reducible apply ox_id);first|((with_reducible apply ox_buildSlice1);(iterate 6 exact rfl);intro _))|((with_reducible apply t_id);first|(apply t_region;kernel_rfl)))
   all_goals exact ⟨by trivial,(),trivial,by (repeat first|exact FrSub.nil|(apply FrSub.cons;exact rfl)),by (repeat' (first|exact HpSub.refl _|(apply HpSub.consE;(repeat first|exact P0|apply P1);first|exact rfl|(simp;done))|apply HpSub.skipX))⟩
 rintro ⟨⟩ -
 refine t_cut (ι:=Nat) (fun z=>[(1,.int .i64 7),(2,.slice (some ⟨gP,0,none⟩) 5 cP),(3,.int .i64 0),(4,.pointer (some ⟨b4,0,none⟩)),(5,.pointer (some ⟨b5,0,none⟩)),(6,.int .i64 0),(7,.slice (some ⟨gB,0,none⟩) 2 cB),(8,.int .i64 640),(9,.int .i64 0),(10,.int .i64 740),(11,.int .i64 0),(12,.pointer (some ⟨z,0,none⟩)),(13,.int .i64 0)]) (fun z=>(z,[.int .i64 0,.int .i64 23226],some (34,2,1))::(gB,(cI [0,1]).map iv,some (3,1,cB))::(gP,(cI [0,3,4,5,2]).map iv,some (3,1,cP))::(b4,[.int .i64 1666,.int .i64 1786],some (27,2,1))::(b5,[.int .i64 166,.int .i64 358],some (27,2,1))::[]) (fun _=>True) ?_ ?_
 · repeat' (first|((with_reducible apply oq_id);first|(apply oq_fn;exact rfl;first|exact trivial|(and_intros<;>omega)|omega|skip)|((with_reducible apply oq_call (hc:=Tryz.call50));exact rfl;exact rfl;exact fun D w1 hw1=>pace50_calls w1)|((with_reducible apply oq_call (hc:=Tryz.call16));exact rfl;exact rfl;exact fun D w1 hw1=>ex_noret (rows_own (rows:=exT.map blCells) rfl (by decide +kernel) hw1 (by (repeat first|exact P0|apply P1))) (rows_own (rows:=exL.map lgCells) rfl (by decide +kernel) hw1 (by (repeat first|exact P0|apply P1))) (exW_cast hw1 (by (repeat first|exact P0|apply P1)) (by (repeat first|exact P0|apply P1))) _ _ (in_rows1 (l:=[0,1]) rfl hw1 (by (repeat first|exact P0|apply P1)))))|((with_reducible apply tl_id);first|(with_reducible apply tl_nil)|((with_reducible apply u_s);(iterate 3 exact rfl);(with_reducible apply os_callF (PV:=chartV) (hc:=Tryz.call49));exact rfl;exact rfl;exact fun D w1 hw1=>chart_T w1;rintro _ _ ⟨b1,b2,rfl,rfl⟩;simp only [List.cons_append,List.nil_append])|((with_reducible apply u_s);(iterate 3 exact rfl);(with_reducible apply os_callF (PV:=castV) (hc:=Tryz.call51));exact rfl;exact rfl;exact fun D w1 hw1=>cast_T w1;rintro _ _ ⟨b,g,rfl,rfl⟩;simp only [List.cons_append,List.nil_append])|((with_reducible apply u_q);(iterate 4 exact rfl))|((with_reducible apply u_s0);exact rfl;exact rfl)|((with_reducible apply u_s);(iterate 3 exact rfl)))|((with_reducible apply os_id);first|((with_reducible apply os_x);exact rfl)|((with_reducible apply os_storeAgg);(iterate 5 exact rfl)))|((with_reducible apply ox_id);first|((with_reducible apply ox_alloc);exact rfl;intro _)|((with_reducible apply ox_buildSlice1);(iterate 6 exact rfl);intro _))|((with_reducible apply t_id);first|(apply t_region;kernel_rfl))|exact P0|((with_reducible apply Norm.nil);exact rfl)|((with_reducible apply Norm.cons);exact rfl)|exact Nat.le_of_ble_eq_true rfl)
   all_goals exact ⟨by trivial,_,trivial,by (repeat first|exact FrSub.nil|(apply FrSub.cons;exact rfl)),by (repeat' (first|exact HpSub.refl _|(apply HpSub.consE;(repeat first|exact P0|apply P1);first|exact rfl|(simp;done))|apply HpSub.skipX))⟩
 rintro b12 -
 ((all_goals refine gqP1 ?_);(all_goals constructor);(any_goals exact trivial);all_goals intros)
 all_goals rfl
end Go.Proofs.YtcjkndjjbjoehaaGreat
namespace Go.Proofs.YtcjkndjjbjoehaaGreat
open Go.RowKit
theorem qf_mono {a b:Nat} (h:a≤b):qf a≤qf b:=Nat.div_le_div_right h
theorem prN_in {a b c d k:Nat} (h1:a≤b) (h2:c≤d):a*c≤prN a b c d k∧prN a b c d k≤b*d:=by
 unfold prN
 refine ⟨Nat.mul_le_mul ?_ ?_,Nat.mul_le_mul ?_ ?_⟩<;>split<;>omega
theorem aL_eq {a b c d:Nat} (h1:a≤b) (h2:c≤d):∀ k,aL a b c d k=qf (a*c)
 | 0=>rfl
 | k+1=>by
   have:=qf_mono (prN_in (k:=k) h1 h2).1
   simp only [aL,aL_eq h1 h2 k]
   omega
theorem aH_le {a b c d:Nat} (h1:a≤b) (h2:c≤d):∀ k,aH a b c d k≤qc (b*d)
 | 0=>qc_mono (Nat.mul_le_mul h1 h2)
 | k+1=>by
   have:=qc_mono (prN_in (k:=k) h1 h2).2
   have:=aH_le h1 h2 k
   simp only [aH]
   omega
theorem aH_eq {a b c d:Nat} (h1:a≤b) (h2:c≤d):aH a b c d 8=qc (b*d):=by
 refine Nat.le_antisymm (aH_le h1 h2 8) ?_
 have h4:qc (b*d)≤aH a b c d 4:=Nat.le_max_right ..
 have e:aH a b c d 8=max (max (max (max (aH a b c d 4) (qc (prN a b c d 4))) (qc (prN a b c d 5))) (qc (prN a b c d 6))) (qc (prN a b c d 7)):=rfl
 rw [e]
 omega
abbrev Pt:=(Int×Int)×(Int×Int)×Int
def ptV (P:Pt):Value:=.tuple #[.agg #[.int .i64 P.1.1,.int .i64 P.1.2],.agg #[.int .i64 P.2.1.1,.int .i64 P.2.1.2],.int .i64 P.2.2]
def partF (R:List (Int×Int)) (m g0 g1:Nat):Pt:=((((hullT m R).1:Nat),((hullT m R).2:Nat)),(((qf ((hullT m R).1*g0):Nat):Int),((qc ((hullT m R).2*g1):Nat):Int)),0)
def PtOk (m:Nat) (L:List Lg) (v q1 q2 q3 q4 g0 g1:Int) (C:List Wn) (i:Int) (bk:Bool) (me:Int) (z:Lg) (k:Nat):Prop:=askE m L v q1 q2 q3 q4 g0 g1 C=0∧0≤i∧L[i.toNat]?=some z∧me=(k:Int)∧(k:Int)≤lenV z.x z.y∧legRz v q1 q2 q3 z bk C≠[]
inductive PtIs (m:Nat) (L:List Lg) (v q1 q2 q3 q4 g0 g1:Int) (C:List Wn) (i:Int) (bk:Bool) (me:Int):Pt→Prop
 | no (e:Int) (he:e≠0) (hn:∀ z k,¬ PtOk m L v q1 q2 q3 q4 g0 g1 C i bk me z k):PtIs m L v q1 q2 q3 q4 g0 g1 C i bk me ((0,0),(0,0),e)
 | ok (z:Lg) (k:Nat) (h:PtOk m L v q1 q2 q3 q4 g0 g1 C i bk me z k):PtIs m L v q1 q2 q3 q4 g0 g1 C i bk me (partF (legRz v q1 q2 q3 z bk C) k g0.toNat g1.toNat)
theorem wrate_ok {v up x y:Int} {z:Wn} {r:Int×Int} (hz:windB z.l=true) (hv:1≤v∧v≤1000) (hu : -500≤up∧up≤20000) (hw:WayIn x y) (h:wrate v up x y z=some r):RtOk r:=by
 rcases wn_both hz hv hu hw with ⟨e,_⟩|⟨s,f,e,_,h1,h2,h3⟩
 · rw [e] at h;cases h
 · rw [e] at h
   obtain rfl:=Option.some.inj h
   exact ⟨h1,h2,h3⟩
theorem legRz_in {v q1 q2 q3 q4 g0 g1:Int} {m:Nat} {z:Lg} {bk:Bool} {C:List Wn} (hz:LegOk m z) (hp:PaceOk v q1 q2 q3 q4 g0 g1) (hC:∀ x∈C,windB x.l=true):∀ r∈legRz v q1 q2 q3 z bk C,RtOk r:=by
 obtain ⟨_,_,_,zx,zy,z0,zh⟩:=hz
 obtain ⟨hv,h1,h3,h2,_,_⟩:=hp
 intro r hr
 unfold legRz legR at hr
 split at hr
 · cases hr
 · rename_i hup
   unfold ratesV at hr
   split at hr
   · obtain ⟨w,hw,he⟩:=List.mem_filterMap.1 hr
     exact wrate_ok (hC w hw) hv (by unfold upV at *;omega) (turn_way ⟨zx,zy,z0⟩ bk) he
   · cases hr
theorem askE_all {m:Nat} {L:List Lg} {v q1 q2 q3 q4 g0 g1:Int} {C:List Wn} (h:askE m L v q1 q2 q3 q4 g0 g1 C=0):chartB m L=true∧PaceOk v q1 q2 q3 q4 g0 g1∧castE C=0:=by
 unfold askE at h
 cases h1:chartB m L with
 | false=>rw [h1] at h;cases h
 | true=>
   rw [h1,if_pos rfl] at h
   cases h2:paceB v q1 q2 q3 q4 g0 g1 with
   | false=>rw [h2] at h;cases h
   | true=>rw [h2,if_pos rfl] at h;exact ⟨rfl,of_decide_eq_true h2,h⟩
theorem PtOk.facts {m:Nat} {L:List Lg} {v q1 q2 q3 q4 g0 g1:Int} {C:List Wn} {i:Int} {bk:Bool} {me:Int} {z:Lg} {k:Nat} (h:PtOk m L v q1 q2 q3 q4 g0 g1 C i bk me z k):LegOk m z∧PaceOk v q1 q2 q3 q4 g0 g1∧(∀ x∈C,windB x.l=true)∧(1≤(C.length:Int)∧(C.length:Int)≤4)∧k≤1000000∧∀ r∈legRz v q1 q2 q3 z bk C,RtOk r:=by
 obtain ⟨hE,hi,hz,rfl,hk,hR⟩:=h
 obtain ⟨h1,h2,h3⟩:=askE_all hE
 obtain ⟨h4,h5⟩:=castE_zero.1 h3
 have h6:=(chartB_iff.1 h1).2.2 z (List.mem_of_getElem? hz)
 have h7:=lenV_bound h6.2.2.2.1 h6.2.2.2.2.1
 exact ⟨h6,h2,h5,h4,by omega,legRz_in h6 h2 h5⟩
theorem partR_is (m:Nat) (L:List Lg) (v q1 q2 q3 q4 g0 g1:Int) (C:List Wn) (i:Int) (bk:Bool) (me:Int):∃ P,partR m L v q1 q2 q3 q4 g0 g1 C i bk me=ptV P∧PtIs m L v q1 q2 q3 q4 g0 g1 C i bk me P:=by
 unfold partR
 split
 rotate_left
 · rename_i hE
   exact ⟨_,rfl,.no _ hE fun z k h=>hE h.1⟩
 rename_i hE
 split
 rotate_left
 · rename_i hi
   refine ⟨_,rfl,.no 2 (by decide) fun z k h=>hi ?_⟩
   have:=(List.getElem?_eq_some_iff.1 h.2.2.1).1
   have:=h.2.1
   omega
 rename_i hi
 split
 rotate_left
 · rename_i hz
   exact ⟨_,rfl,.no 2 (by decide) fun z k ⟨_,_,h3,_⟩=>by rw [hz] at h3;cases h3⟩
 rename_i z hz
 split
 rotate_left
 · rename_i hm
   refine ⟨_,rfl,.no 2 (by decide) fun z' k h=>hm ?_⟩
   obtain ⟨_,_,h3,h4,h5,_⟩:=h
   rw [hz] at h3
   obtain rfl:=Option.some.inj h3
   omega
 rename_i hm
 unfold fullV
 split
 · rename_i hR
   refine ⟨_,rfl,.no 63 (by decide) fun z' k h=>?_⟩
   obtain ⟨_,_,h3,_,_,h6⟩:=h
   rw [hz] at h3
   obtain rfl:=Option.some.inj h3
   exact h6 hR
 · rename_i hR
   have hk:PtOk m L v q1 q2 q3 q4 g0 g1 C i bk me z me.toNat:=⟨hE,hi.1,hz,by omega,by omega,hR⟩
   obtain ⟨_,⟨_,_,_,_,_,p6⟩,_,_,k5,k6⟩:=hk.facts
   have hb:=hullT_bound k5 _ k6
   have hg:g0.toNat≤g1.toNat:=by omega
   refine ⟨_,?_,.ok z me.toNat hk⟩
   rw [aL_eq hb.1 hg,aH_eq hb.1 hg]
   rfl
theorem PtIs.det {m:Nat} {L:List Lg} {v q1 q2 q3 q4 g0 g1:Int} {C:List Wn} {i:Int} {bk:Bool} {me:Int} {P:Pt} (h:PtIs m L v q1 q2 q3 q4 g0 g1 C i bk me P) {z:Lg} {k:Nat} (hk:PtOk m L v q1 q2 q3 q4 g0 g1 C i bk me z k):P=partF (legRz v q1 q2 q3 z bk C) k g0.toNat g1.toNat:=by
 cases h with
 | no e he hn=>exact absurd hk (hn z k)
 | ok z' k' h'=>
   obtain ⟨_,_,h3,h4,_,_⟩:=h'
   obtain ⟨_,_,k3,k4,_,_⟩:=hk
   rw [h3] at k3
   obtain rfl:=Option.some.inj k3
   obtain rfl:k'=k:=by omega
   rfl
theorem PtIs.inv {m:Nat} {L:List Lg} {v q1 q2 q3 q4 g0 g1:Int} {C:List Wn} {i:Int} {bk:Bool} {me:Int} {P:Pt} (h:PtIs m L v q1 q2 q3 q4 g0 g1 C i bk me P):(P.2.2≠0∧P.1=(0,0)∧P.2.1=(0,0))∨(∃ z k,PtOk m L v q1 q2 q3 q4 g0 g1 C i bk me z k∧P=partF (legRz v q1 q2 q3 z bk C) k g0.toNat g1.toNat):=by
 cases h with
 | no e he hn=>exact .inl ⟨he,rfl,rfl⟩
 | ok z k h=>exact .inr ⟨z,k,h,rfl⟩
theorem lenV_sq {m:Nat} {z:Lg} (hz:LegOk m z):10000*(z.x*z.x+z.y*z.y)≤lenV z.x z.y*lenV z.x z.y∧(lenV z.x z.y-1)*(lenV z.x z.y-1)<10000*(z.x*z.x+z.y*z.y):=by
 obtain ⟨_,_,_,zx,zy,z0,_⟩:=hz
 have hq:=WayIn.q (p:=z.x) (q:=z.y) ⟨zx,zy,z0⟩
 have hx:=mul_abs (x:=z.x) (y:=z.x) (a:=7000) (b:=7000) (by omega) (by omega)
 have hy:=mul_abs (x:=z.y) (y:=z.y) (a:=7000) (b:=7000) (by omega) (by omega)
 obtain ⟨N,hN⟩:∃ N,10000*(z.x*z.x+z.y*z.y)=N:=⟨_,rfl⟩
 unfold lenV
 rw [hN]
 have hN0:1≤N∧N≤980000000000:=by omega
 unfold rootV
 have f1:fineS (N,N)=true:=(fineS_iff _).2 ⟨Int.le_refl _,by show _≤N;omega,by show N≤_;omega⟩
 rw [if_pos f1,if_neg (by omega)]
 obtain ⟨r1,r2,r3⟩:=rt_spec N (by omega)
 simp only
 split
 · rename_i he
   rw [he]
   refine ⟨Int.le_refl _,?_⟩
   have h1:1≤rt N:=by
     rcases Int.lt_or_le (rt N) 1 with h|h
     · have:rt N=0:=by omega
       rw [this] at he;omega
     · exact h
   have:=sq_lt (j:=rt N-1) (k:=rt N) (by omega) (by omega)
   omega
 · rename_i he
   exact ⟨by omega,by rw [Int.add_sub_cancel];omega⟩
theorem partF_mono {R:List (Int×Int)} {k k' g0 g1:Nat} (h:k≤k'):(partF R k g0 g1).1.1≤(partF R k' g0 g1).1.1∧(partF R k g0 g1).1.2≤(partF R k' g0 g1).1.2∧(partF R k g0 g1).2.1.1≤(partF R k' g0 g1).2.1.1∧(partF R k g0 g1).2.1.2≤(partF R k' g0 g1).2.1.2:=by
 obtain ⟨h1,h2⟩:=hullT_mono h R
 have h3:=qf_mono (Nat.mul_le_mul_right g0 h1)
 have h4:=qc_mono (Nat.mul_le_mul_right g1 h2)
 simp only [partF]
 omega
theorem partF_zero {R:List (Int×Int)} {g0 g1:Nat} (h:∀ r∈R,RtOk r):partF R 0 g0 g1=((0,0),(0,0),0):=by
 obtain ⟨h1,h2⟩:=hullT_bound (m:=0) (Nat.zero_le _) R h
 have e2:(hullT 0 R).2=0:=by omega
 have e1:(hullT 0 R).1=0:=by omega
 unfold partF
 rw [e1,e2,Nat.zero_mul,Nat.zero_mul]
 rfl
theorem partF_snoc {R:List (Int×Int)} {r:Int×Int} {k g0 g1:Nat} (h:R≠[]):(partF (R++[r]) k g0 g1).1.1≤(partF R k g0 g1).1.1∧(partF R k g0 g1).1.2≤(partF (R++[r]) k g0 g1).1.2∧(partF (R++[r]) k g0 g1).2.1.1≤(partF R k g0 g1).2.1.1∧(partF R k g0 g1).2.1.2≤(partF (R++[r]) k g0 g1).2.1.2:=by
 have e:=hullT_snoc (m:=k) h r
 have h1:(hullT k (R++[r])).1≤(hullT k R).1:=by rw [e];exact Nat.min_le_left ..
 have h2:(hullT k R).2≤(hullT k (R++[r])).2:=by rw [e];exact Nat.le_max_left ..
 have h3:=qf_mono (Nat.mul_le_mul_right g0 h1)
 have h4:=qc_mono (Nat.mul_le_mul_right g1 h2)
 simp only [partF]
 omega
theorem ratesV_snoc {v up x y:Int} {C:List Wn} {w:Wn} (h:ratesV v up x y (C++[w])≠[]) (hC:C≠[]):ratesV v up x y C≠[]∧∃ r,ratesV v up x y (C++[w])=ratesV v up x y C++[r]:=by
 unfold ratesV at h ⊢
 split at h
 rotate_left
 · exact absurd rfl h
 rename_i ha
 rw [if_pos ha]
 rw [List.all_append,Bool.and_eq_true] at ha
 rw [if_pos ha.1]
 have hw:(wrate v up x y w).isSome=true:=by have:=ha.2;simpa using this
 obtain ⟨r,hr⟩:=Option.isSome_iff_exists.1 hw
 refine ⟨?_,r,by rw [List.filterMap_append];simp [hr]⟩
 cases C with
 | nil=>exact absurd rfl hC
 | cons a C=>
   have h1:=List.all_eq_true.1 ha.1 a (List.mem_cons_self ..)
   obtain ⟨s,hs⟩:=Option.isSome_iff_exists.1 h1
   rw [List.filterMap_cons,hs]
   exact List.cons_ne_nil _ _
theorem PtOk.less {m:Nat} {L:List Lg} {v q1 q2 q3 q4 g0 g1:Int} {C:List Wn} {w:Wn} {i:Int} {bk:Bool} {me:Int} {z:Lg} {k:Nat} (h:PtOk m L v q1 q2 q3 q4 g0 g1 (C++[w]) i bk me z k) (hC:C≠[]):PtOk m L v q1 q2 q3 q4 g0 g1 C i bk me z k∧∃ r,legRz v q1 q2 q3 z bk (C++[w])=legRz v q1 q2 q3 z bk C++[r]:=by
 obtain ⟨hE,hi,hz,hk,hl,hR⟩:=h
 obtain ⟨h1,h2,h3⟩:=askE_all hE
 obtain ⟨h4,h5⟩:=castE_zero.1 h3
 have hc0:1≤C.length:=by
   cases C with
   | nil=>exact absurd rfl hC
   | cons a C=>simp
 have h6:castE C=0:=castE_zero.2 ⟨by simp only [List.length_append,List.length_singleton] at h4;omega,fun x hx=>h5 x (List.mem_append_left _ hx)⟩
 have h7:askE m L v q1 q2 q3 q4 g0 g1 C=0:=by
   unfold askE
   rw [h1,if_pos rfl,show paceB v q1 q2 q3 q4 g0 g1=true from decide_eq_true h2,if_pos rfl,h6]
 unfold legRz legR at hR ⊢
 split at hR
 · exact absurd rfl hR
 · rename_i hu
   obtain ⟨k1,k2⟩:=ratesV_snoc hR hC
   refine ⟨⟨h7,hi,hz,hk,hl,?_⟩,?_⟩
   · unfold legRz legR
     rw [if_neg hu];exact k1
   · rw [if_neg hu,if_neg hu];exact k2
theorem more_all {m:Nat} {L:List Lg} {v q1 q2 q3 q4 g0 g1:Int} {C:List Wn} {w:Wn} {i:Int} {bk:Bool} {me me':Int} {P Q S:Pt} (hC:C≠[]) (hP:PtIs m L v q1 q2 q3 q4 g0 g1 C i bk me P) (hQ:PtIs m L v q1 q2 q3 q4 g0 g1 C i bk me' Q) (hS:PtIs m L v q1 q2 q3 q4 g0 g1 (C++[w]) i bk me S) :
   (P.2.2=0→Q.2.2=0→me≤me'→P.1.1≤Q.1.1∧P.1.2≤Q.1.2∧P.2.1.1≤Q.2.1.1∧P.2.1.2≤Q.2.1.2)∧(P.2.2=0→me=0→P.1.1=0∧P.1.2=0∧P.2.1.1=0∧P.2.1.2=0)∧(S.2.2=0→P.2.2=0∧S.1.1≤P.1.1∧P.1.2≤S.1.2∧S.2.1.1≤P.2.1.1∧P.2.1.2≤S.2.1.2):=by
 refine ⟨fun h1 h2 hm=>?_,fun h1 hm=>?_,fun h1=>?_⟩
 · rcases hP.inv with ⟨h,_⟩|⟨z,k,hk,rfl⟩
   · exact absurd h1 h
   rcases hQ.inv with ⟨h,_⟩|⟨z',k',hk',rfl⟩
   · exact absurd h2 h
   obtain ⟨_,_,a3,a4,_,_⟩:=hk
   obtain ⟨_,_,b3,b4,_,_⟩:=hk'
   rw [a3] at b3
   obtain rfl:=Option.some.inj b3
   exact partF_mono (by omega)
 · rcases hP.inv with ⟨h,_⟩|⟨z,k,hk,rfl⟩
   · exact absurd h1 h
   obtain rfl:k=0:=by have:=hk.2.2.2.1;omega
   rw [partF_zero hk.facts.2.2.2.2.2]
   exact ⟨rfl,rfl,rfl,rfl⟩
 · rcases hS.inv with ⟨h,_⟩|⟨z,k,hk,rfl⟩
   · exact absurd h1 h
   obtain ⟨k1,r,e⟩:=hk.less hC
   rw [hP.det k1,e]
   exact ⟨rfl,partF_snoc k1.2.2.2.2.2⟩
end Go.Proofs.YtcjkndjjbjoehaaGreat
