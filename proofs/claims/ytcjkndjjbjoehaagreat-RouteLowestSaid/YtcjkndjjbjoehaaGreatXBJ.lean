/- A part of the proof: rules for walks, and contracts of functions (10). -/
import Derived.Test.YtcjkndjjbjoehaaGreatXBA
import Derived.Test.YtcjkndjjbjoehaaGreatXBH
set_option linter.unusedVariables false
set_option linter.unusedSimpArgs false
set_option maxRecDepth 100000
set_option maxHeartbeats 2000000
namespace Go.Proofs.YtcjkndjjbjoehaaGreat
theorem goO0e {G A1 A2 A3 A4 A5 A6 A7 A8 A9 A10 A11 A12 A13 A14 A15 A16:Prop} (p:GoP A1 A2 A3 A4 A5 A6 A7 A8 A9 A10 A11 A12 A13 A14 A15 A16) (h:GoL A1→GoL A2→GoL A3→GoL A4→GoL A5→GoL A6→GoL A7→GoL A8→GoL A9→GoL A10→GoL A11→GoL A12→GoL A13→GoL A14→GoL A15→GoL A16→GoM→G:=by intro m1 m2 m3 m4 m5 m6 m7 m8 m9 m10 m11 m12 m13 m14 m15 m16 _;(repeat' (first|((with_reducible apply oq_id);first|((with_reducible apply oq_call (hc:=Tryz.call54));exact rfl;exact rfl;exact fun D w1 hw1=>HC w1 hw1.ext.ext)|((with_reducible apply oq_call (hc:=Tryz.call55));exact rfl;exact rfl;exact fun D w1 hw1=>HP w1)|((with_reducible apply oq_call (hc:=Tryz.call56));exact rfl;exact rfl;exact fun D w1 hw1=>HK w1 hw1.ext.ext)|(apply oq_fn;exact rfl;first|exact trivial|(and_intros<;>omega)|omega|skip)|((with_reducible apply oq_loadAgg);exact rfl;exact rfl)|((with_reducible apply oq_buildA);(iterate 4 exact rfl)))|((with_reducible apply tl_id);first|(with_reducible apply tl_nil)|((with_reducible apply u_q);(iterate 4 exact rfl))|((with_reducible apply u_s);(iterate 3 exact rfl)))|((with_reducible apply gx_id);first|(with_reducible apply v_nil)|((with_reducible apply v_q);(iterate 3 exact rfl)))|((with_reducible apply os_id);first|((with_reducible apply os_x);exact rfl))|((with_reducible apply ox_id);first|((with_reducible apply ox_boxAgg);exact rfl;intro _))|((with_reducible apply rd_id);first|(apply Rd.own;(repeat first|exact P0|apply P1);exact rfl;done))|((with_reducible apply t_id);first|(with_reducible apply t_seq)|(apply t_region;kernel_rfl)|(apply t_drawn;kernel_rfl;decide +kernel;try simp only [List.append_eq,List.cons_append,List.nil_append])|(with_reducible apply t_block))|with_reducible apply q_thenN|exact Rdn.zero|apply Rdn.succ|((with_reducible apply Norm.nil);exact rfl)|((with_reducible apply Norm.cons);exact rfl)));(try focus (repeat (rename_i x;first|exact goD x m1.p|revert x)));(try focus (repeat (rename_i x;first|exact goD x m2.p|revert x)));(try focus (repeat (rename_i x;first|exact goD x m3.p|revert x)));(try focus (repeat (rename_i x;first|exact goD x m4.p|revert x)));(try focus (repeat (rename_i x;first|exact goD x m5.p|revert x)));(try focus (repeat (rename_i x;first|exact goD x m6.p|revert x)));(try focus (repeat (rename_i x;first|exact goD x m7.p|revert x)));(try focus (repeat (rename_i x;first|exact goD x m8.p|revert x)));(try focus (repeat (rename_i x;first|exact goD x m9.p|revert x)));(try focus (repeat (rename_i x;first|exact goD x m10.p|revert x)));(try focus (repeat (rename_i x;first|exact goD x m11.p|revert x)));(try focus (repeat (rename_i x;first|exact goD x m12.p|revert x)));(try focus (repeat (rename_i x;first|exact goD x m13.p|revert x)));(try focus (repeat (rename_i x;first|exact goD x m14.p|revert x)));(try focus (repeat (rename_i x;first|exact goD x m15.p|revert x)));(try focus (repeat (rename_i x;first|exact goD x m16.p|revert x)))) (e:GoTs A1 A2 A3 A4 A5 A6 A7 A8 A9 A10 A11 A12 A13 A14 A15 A16:=by constructor<;>first|(with_reducible exact GoT.t)|exact GoT.u):G:=p.run h
theorem goO1e {G A1 A2 A3 A4 A5 A6 A7 A8 A9 A10 A11 A12 A13 A14 A15 A16:Prop} (p:GoP A1 A2 A3 A4 A5 A6 A7 A8 A9 A10 A11 A12 A13 A14 A15 A16) (h:GoL A1→GoL A2→GoL A3→GoL A4→GoL A5→GoL A6→GoL A7→GoL A8→GoL A9→GoL A10→GoL A11→GoL A12→GoL A13→GoL A14→GoL A15→GoL A16→GoM→G:=by intro m1 m2 m3 m4 m5 m6 m7 m8 m9 m10 m11 m12 m13 m14 m15 m16 _;(repeat' (first|((with_reducible apply oq_id);first|((with_reducible apply ob_id);first|((with_reducible apply oq_neg);exact rfl;(refine ⟨?_,?_⟩<;>omega))|(focus ((with_reducible apply (oq_addE (k:=z.h+q2)));exact rfl;exact rfl;omega))|(focus ((with_reducible apply (oq_addE (k:=((k+1:Nat):Int))));exact rfl;exact rfl;omega))|((with_reducible apply oq_lssT);exact rfl;exact rfl;omega)|((with_reducible apply oq_lssF);exact rfl;exact rfl;omega)|((with_reducible apply oq_neqT);exact rfl;exact rfl;omega)|((with_reducible apply oq_neqF);exact rfl;exact rfl;omega)|((with_reducible apply oq_gtrT);exact rfl;exact rfl;omega)|((with_reducible apply oq_gtrF);exact rfl;exact rfl;omega))|(focus ((with_reducible apply oq_index);(iterate 4 exact rfl);(first|exact rfl|omega)))|(focus ((with_reducible apply oq_indexAddrN);(iterate 4 exact rfl);omega))|((with_reducible apply (oq_max2E (k:=up)));exact rfl;exact rfl;exact hup)|(apply oq_fn;exact rfl;first|exact trivial|(and_intros<;>omega)|omega|skip)|((with_reducible apply oq_load);exact rfl;exact rfl)|((with_reducible apply oq_loadAgg);exact rfl;exact rfl)|((with_reducible apply oq_build);(iterate 3 exact rfl)))|((with_reducible apply tl_id);first|(with_reducible apply tl_nil)|((with_reducible apply u_s);(iterate 3 exact rfl);((with_reducible apply os_makeMap);intro _))|((with_reducible apply u_q);(iterate 4 exact rfl))|((with_reducible apply u_s0);exact rfl;exact rfl)|((with_reducible apply u_s);(iterate 3 exact rfl)))|((with_reducible apply os_id);first|((with_reducible apply os_x);exact rfl)|((with_reducible apply os_storeAgg);(iterate 5 exact rfl)))|((with_reducible apply ox_id);first|((with_reducible apply ox_alloc);exact rfl;intro _)|((with_reducible apply ox_boxAgg);exact rfl;intro _))|((with_reducible apply rd_id);first|(apply Rd.own;(repeat first|exact P0|apply P1);exact rfl;done)|(apply Rd.old;(first|(with_reducible assumption)|exact c0|exact c1|exact c2|exact c3|exact c4|exact c5|exact c6|exact c7|exact c8|exact d0|exact d1|exact d2|exact d3|exact d4|exact d5);first|exact List.not_mem_nil|exact m0|exact m1|exact m2|exact m3|exact m4|exact m5|exact m6|exact m7|exact m8|exact m9))|((with_reducible apply t_id);first|(with_reducible apply t_seq)|(apply t_region;kernel_rfl)|((with_reducible apply t_condT);exact rfl)|((with_reducible apply t_condF);exact rfl)|(with_reducible apply t_ret)|(with_reducible apply t_skip)|(with_reducible apply t_exit)|(with_reducible apply t_block))|with_reducible apply q_thenN|with_reducible apply q_thenR|with_reducible apply q_blockR|with_reducible apply q_blockN|with_reducible apply q_thenE|((with_reducible apply q_blockE);exact rfl)|exact P0|exact Rdn.zero|apply Rdn.succ|((with_reducible apply Norm.nil);exact rfl)|((with_reducible apply Norm.cons);exact rfl)|(with_reducible apply end_ret)|exact rvs_nil|(with_reducible apply rvs_cons)|((with_reducible apply rv_tmp);exact rfl)|exact Nat.le_of_ble_eq_true rfl|omega));(try focus (repeat (rename_i x;first|exact goD x m1.p|revert x)));(try focus (repeat (rename_i x;first|exact goD x m2.p|revert x)));(try focus (repeat (rename_i x;first|exact goD x m3.p|revert x)));(try focus (repeat (rename_i x;first|exact goD x m4.p|revert x)));(try focus (repeat (rename_i x;first|exact goD x m5.p|revert x)));(try focus (repeat (rename_i x;first|exact goD x m6.p|revert x)));(try focus (repeat (rename_i x;first|exact goD x m7.p|revert x)));(try focus (repeat (rename_i x;first|exact goD x m8.p|revert x)));(try focus (repeat (rename_i x;first|exact goD x m9.p|revert x)));(try focus (repeat (rename_i x;first|exact goD x m10.p|revert x)));(try focus (repeat (rename_i x;first|exact goD x m11.p|revert x)));(try focus (repeat (rename_i x;first|exact goD x m12.p|revert x)));(try focus (repeat (rename_i x;first|exact goD x m13.p|revert x)));(try focus (repeat (rename_i x;first|exact goD x m14.p|revert x)));(try focus (repeat (rename_i x;first|exact goD x m15.p|revert x)));(try focus (repeat (rename_i x;first|exact goD x m16.p|revert x)))) (e:GoTs A1 A2 A3 A4 A5 A6 A7 A8 A9 A10 A11 A12 A13 A14 A15 A16:=by constructor<;>first|(with_reducible exact GoT.t)|exact GoT.u):G:=p.run h
open Go.RowKit
attribute [local irreducible] OQ OS OX Rd T TL GX GL AL AI RV wpG SAny Calls
theorem os_makeMap {c:Cx} {F:Fr} {H:Hp} {K:Value→Hp→Prop} {d:Option Tmp} {ty:TypeId} {pos:String} {af:Array Edge} {g:Option (Nat×Bool)} {t:TypeId} (k:∀ b,K (.map (some b)) ((b,[],mapTg t [])::H)):OS c ⟨d,.makeMap t none,ty,pos,af,g⟩ F H K:=.ofX (ox_makeMap k)
theorem askE_of {m:Nat} {L:List Lg} {v q1 q2 q3 q4 g0 g1:Int} {C:List Wn} {e1 e2 e3:Int} (h1:(if chartB m L then (0:Int) else 61)=e1) (h2:(if paceB v q1 q2 q3 q4 g0 g1 then (0:Int) else 62)=e2) (h3:castE C=e3) :
   (e1≠0→askE m L v q1 q2 q3 q4 g0 g1 C=e1)∧(e1=0→e2≠0→askE m L v q1 q2 q3 q4 g0 g1 C=e2)∧(e1=0→e2=0→askE m L v q1 q2 q3 q4 g0 g1 C=e3):=by
 unfold askE
 cases ha:chartB m L<;>cases hb:paceB v q1 q2 q3 q4 g0 g1<;>simp only [ha,hb,if_true,if_false,Bool.false_eq_true] at h1 h2 ⊢<;>subst h1<;>subst h2<;>subst h3<;>simp
theorem askE_ok {m:Nat} {L:List Lg} {v q1 q2 q3 q4 g0 g1:Int} {C:List Wn} (h:askE m L v q1 q2 q3 q4 g0 g1 C=0):chartB m L=true∧PaceOk v q1 q2 q3 q4 g0 g1∧castE C=0:=by
 unfold askE at h
 split at h
 rotate_left
 · cases h
 rename_i h1
 split at h
 rotate_left
 · cases h
 rename_i h2
 exact ⟨h1,of_decide_eq_true h2,h⟩
theorem open_no (AM A:Option Addr) (m cM n cp:Nat) (L:List Lg) (w:World) (hr:RdS w 5 A n (L.map lgCells)) (hn:n≤1000000) (hm:m≤1000000) (v q1 q2 q3 q4 g0 g1:Int) (AC:Option Addr) (nC cC:Nat) (C:List Wn) (hrc:CastR w AC nC C) (hs:∀ z∈C,z.n≤1000000) (hE:askE m L v q1 q2 q3 q4 g0 g1 C≠0):Calls Tryz.prog 66 #[.agg #[.slice AM m cM,.slice A n cp],.agg #[.int .i64 v,.int .i64 q1,.int .i64 q2,.int .i64 q3,.int .i64 q4,.int .i64 g0,.int .i64 g1],.slice AC nC cC] w fun e w'=>e=.returned (.tuple #[.pointer none,.int .i64 (askE m L v q1 q2 q3 q4 g0 g1 C)])∧Ext w w':=by
 have hlc:=hrc.len
 have HC:=fun w1 (hx:Ext w w1)=>checkChart_calls AM A m cM n cp L w1 (hr.ext hx) hn hm
 have HP:=fun w1=>checkPace_calls v q1 q2 q3 q4 g0 g1 w1
 have HK:=fun w1 (hx:Ext w w1)=>checkCast_calls AC nC cC C w1 (hrc.ext hx) hs
 obtain ⟨e1,h1⟩:∃ e,(if chartB m L then (0:Int) else 61)=e:=⟨_,rfl⟩
 obtain ⟨e2,h2⟩:∃ e,(if paceB v q1 q2 q3 q4 g0 g1 then (0:Int) else 62)=e:=⟨_,rfl⟩
 obtain ⟨e3,h3⟩:∃ e,castE C=e:=⟨_,rfl⟩
 obtain ⟨k1,k2,k3⟩:=askE_of h1 h2 h3
 rw [h1] at HC
 rw [h2] at HP
 rw [h3] at HK
 generalize askE m L v q1 q2 q3 q4 g0 g1 C=r at *
 refine enterQ (c:=cx w 85) Tryz.func66 rfl rfl rfl rfl ?_
 ((all_goals refine goO0e ?_);(all_goals constructor);(any_goals exact trivial);all_goals intros)
 rename_i b3 b4
 apply t_loopK (ι:=Nat) [2,3,4,20] (fun k=>[(21,.int .i64 ((k:Nat):Int))]) (fun _=>[(b3,[.slice AM m cM,.slice A n cp],some (25,2,1)),(b4,[.int .i64 v,.int .i64 q1,.int .i64 q2,.int .i64 q3,.int .i64 q4,.int .i64 g0,.int .i64 g1],some (29,7,1))]) (fun k=>k≤3∧(0<k→e1=0)∧(1<k→e2=0)∧(2<k→e3=0)) (fun k=>3-k) (0)
 (repeat (first|exact KeepF.nil|(apply KeepF.cons;exact rfl)|apply KeepF.skip))
 (repeat first|exact FrSub.nil|(apply FrSub.cons;exact rfl))
 (repeat (first|exact HpSub.refl _|(apply HpSub.consE;(repeat first|exact P0|apply P1);exact rfl)|exact HpSub.nil))
 · refine ⟨by omega,fun h=>?_,fun h=>?_,fun h=>?_⟩<;>omega
 rintro k ⟨hk,p1,p2,p3⟩
 try simp only [List.cons_append,List.nil_append]
 by_cases hlt:k<3
 · rcases (show k=0∨k=1∨k=2 by omega) with rfl|rfl|rfl
   · by_cases hz:e1=0
     · ((all_goals refine goO1e ?_);(all_goals constructor);(any_goals exact trivial);all_goals intros)
       all_goals (refine ⟨1,⟨by omega,fun h=>hz,fun h=>(by omega),fun h=>(by omega)⟩,by omega,?_,?_⟩<;>(repeat' (first|exact FrSub.nil|(apply FrSub.cons;exact rfl)|exact HpSub.refl _)))
     · obtain rfl:=k1 hz
       ((all_goals refine goO1e ?_);(all_goals constructor);(any_goals exact trivial);all_goals intros)
       all_goals rfl
   · by_cases hz:e2=0
     · ((all_goals refine goO1e ?_);(all_goals constructor);(any_goals exact trivial);all_goals intros)
       all_goals (refine ⟨2,⟨by omega,fun h=>p1 (by omega),fun h=>hz,fun h=>(by omega)⟩,by omega,?_,?_⟩<;>(repeat' (first|exact FrSub.nil|(apply FrSub.cons;exact rfl)|exact HpSub.refl _)))
     · obtain rfl:=k2 (p1 (by omega)) hz
       ((all_goals refine goO1e ?_);(all_goals constructor);(any_goals exact trivial);all_goals intros)
       all_goals rfl
   · by_cases hz:e3=0
     · exact absurd (k3 (p1 (by omega)) (p2 (by omega))) (by omega)
     · obtain rfl:=k3 (p1 (by omega)) (p2 (by omega))
       ((all_goals refine goO1e ?_);(all_goals constructor);(any_goals exact trivial);all_goals intros)
       all_goals rfl
 · exfalso
   exact hE (by rw [k3 (p1 (by omega)) (p2 (by omega)),p3 (by omega)])
theorem open_ok (AM A:Option Addr) (m cM n cp:Nat) (L:List Lg) (w:World) (hr:RdS w 5 A n (L.map lgCells)) (hn:n≤1000000) (hm:m≤1000000) (v q1 q2 q3 q4 g0 g1:Int) (AC:Option Addr) (nC cC:Nat) (C:List Wn) (hrc:CastR w AC nC C) (hs:∀ z∈C,z.n≤1000000) (hE:askE m L v q1 q2 q3 q4 g0 g1 C=0):Calls Tryz.prog 66 #[.agg #[.slice AM m cM,.slice A n cp],.agg #[.int .i64 v,.int .i64 q1,.int .i64 q2,.int .i64 q3,.int .i64 q4,.int .i64 g0,.int .i64 g1],.slice AC nC cC] w fun e w'=>∃ u H',e=.returned u∧DskV AM A m cM n cp v q1 q2 q3 q4 g0 g1 C L u H'∧Has w ⟨[],[]⟩ H' w':=by
 have hlc:=hrc.len
 have HC:=fun w1 (hx:Ext w w1)=>checkChart_calls AM A m cM n cp L w1 (hr.ext hx) hn hm
 have HP:=fun w1=>checkPace_calls v q1 q2 q3 q4 g0 g1 w1
 have HK:=fun w1 (hx:Ext w w1)=>checkCast_calls AC nC cC C w1 (hrc.ext hx) hs
 have hl:L.length=n:=by simpa using hr.len
 obtain ⟨hch,hpk,hk0⟩:=askE_ok hE
 have hpb:paceB v q1 q2 q3 q4 g0 g1=true:=decide_eq_true hpk
 obtain ⟨hcl,hcw⟩:=castE_zero.1 hk0
 rw [hch] at HC
 rw [hpb] at HP
 rw [hk0] at HK
 obtain ⟨pv,pq1,pq3,pq2,pq4,pg⟩:=id hpk
 refine enterF (c:=cx w 85) Tryz.func66 rfl rfl rfl rfl ?_
 ((all_goals refine goO0e ?_);(all_goals constructor);(any_goals exact trivial);all_goals intros)
 rename_i b3 b4
 apply t_loopK (ι:=Nat) [2,3,4,20] (fun k=>[(21,.int .i64 ((k:Nat):Int))]) (fun _=>[(b3,[.slice AM m cM,.slice A n cp],some (25,2,1)),(b4,[.int .i64 v,.int .i64 q1,.int .i64 q2,.int .i64 q3,.int .i64 q4,.int .i64 g0,.int .i64 g1],some (29,7,1))]) (fun k=>k≤3∧True) (fun k=>3-k) (0)
 (repeat (first|exact KeepF.nil|(apply KeepF.cons;exact rfl)|apply KeepF.skip))
 (repeat first|exact FrSub.nil|(apply FrSub.cons;exact rfl))
 (repeat (first|exact HpSub.refl _|(apply HpSub.consE;(repeat first|exact P0|apply P1);exact rfl)|exact HpSub.nil))
 · exact ⟨by omega,trivial⟩
 rintro k ⟨hk,-⟩
 try simp only [List.cons_append,List.nil_append]
 by_cases hlt:k<3
 · rcases (show k=0∨k=1∨k=2 by omega) with rfl|rfl|rfl
   · ((all_goals refine goO1e ?_);(all_goals constructor);(any_goals exact trivial);all_goals intros)
     all_goals (refine ⟨1,⟨by omega,trivial⟩,by omega,?_,?_⟩<;>(repeat' (first|exact FrSub.nil|(apply FrSub.cons;exact rfl)|exact HpSub.refl _)))
   · ((all_goals refine goO1e ?_);(all_goals constructor);(any_goals exact trivial);all_goals intros)
     all_goals (refine ⟨2,⟨by omega,trivial⟩,by omega,?_,?_⟩<;>(repeat' (first|exact FrSub.nil|(apply FrSub.cons;exact rfl)|exact HpSub.refl _)))
   · ((all_goals refine goO1e ?_);(all_goals constructor);(any_goals exact trivial);all_goals intros)
     all_goals (refine ⟨3,⟨by omega,trivial⟩,by omega,?_,?_⟩<;>(repeat' (first|exact FrSub.nil|(apply FrSub.cons;exact rfl)|exact HpSub.refl _)))
 clear HC HP HK
 ((all_goals refine goO1e ?_);(all_goals constructor);(any_goals exact trivial);all_goals intros)
 rename_i bM bD
 apply t_loopK (ι:=Nat×List En) [2,4,10,34,35] (fun z=>[(36,.int .i64 ((z.1:Nat):Int))]) (fun z=>(b3,[.slice AM m cM,.slice A n cp],some (25,2,1))::(b4,[.int .i64 v,.int .i64 q1,.int .i64 q2,.int .i64 q3,.int .i64 q4,.int .i64 g0,.int .i64 g1],some (29,7,1))::(bD,[.slice AM m cM,.slice A n cp,.int .i64 v,.int .i64 q1,.int .i64 q2,.int .i64 q3,.int .i64 q4,.int .i64 g0,.int .i64 g1,.map (some bM)],some (172,10,1))::(bM,[],mapTg 170 (enM z.2))::enH z.2) (fun z=>z.1≤n∧z.2.map keyOf=deskE v q1 q2 q3 C L z.1∧∀ e∈z.2,e.o=none→e.l=[]) (fun z=>n-z.1) ((0,[]))
 (repeat (first|exact KeepF.nil|(apply KeepF.cons;exact rfl)|apply KeepF.skip))
 (repeat first|exact FrSub.nil|(apply FrSub.cons;exact rfl))
 (repeat (first|exact HpSub.refl _|(apply HpSub.consE;(repeat first|exact P0|apply P1);exact rfl)|exact HpSub.nil))
 · exact ⟨Nat.zero_le _,rfl,fun e he=>by cases he⟩
 rintro ⟨k,E⟩ ⟨hkn,hE,hnl⟩
 simp only at hkn hE hnl
 try simp only [List.cons_append,List.nil_append]
 by_cases hlt:k<n
 · obtain ⟨bA,oA,z,rfl,_,hz,c0,c1,c2,c3,c4⟩:=lg_read hr hlt
   obtain ⟨_,_,_,kx,ky,kz,kh⟩:=(chartB_iff.1 hch).2.2 z (List.mem_of_getElem? hz)
   obtain ⟨up,hup⟩:∃ u,max q1 (z.h+q2)=u:=⟨_,rfl⟩
   have hup2:upV q1 q2 z.h=up:=hup
   have hu : -500≤up∧up≤20000:=by omega
   have hway:WayIn z.x z.y:=⟨kx,ky,kz⟩
   have HR1:=fun w1 (hx:Ext w w1)=>rates_calls v q1 q2 q3 q4 g0 g1 up z.x z.y AC nC cC C w1 (hrc.ext hx) hs hcw (by omega) pv hu hway
   have HR2:=fun w1 (hx:Ext w w1)=>rates_calls v q1 q2 q3 q4 g0 g1 up (-z.x) (-z.y) AC nC cC C w1 (hrc.ext hx) hs hcw (by omega) pv hu hway.neg
   have hn1:=new_one hE
   have hn2:=fun vc=>new_two hE vc
   by_cases hq:q3<up
   · ((all_goals refine goO1e ?_);(all_goals constructor);(any_goals exact trivial);all_goals intros)
     all_goals (refine ⟨(k+1,E),⟨by simp only;omega,desk_no hE hz (by rw [hup2];exact hq),hnl⟩,by simp only;omega,?_,?_⟩<;>(repeat' (first|exact FrSub.nil|(apply FrSub.cons;exact rfl)|exact HpSub.refl _|(apply HpSub.consE;(repeat first|exact P0|apply P1);exact rfl)|apply HpSub.skipX)))
   · have hq':¬ q3<upV q1 q2 z.h:=by rw [hup2];exact hq
     have hD:=fun o1 o2=>desk_two o1 o2 hE hz hq'
     rw [hup2] at hD
     repeat' (first|((with_reducible apply oq_id);first|(focus ((with_reducible apply oq_indexAddrN);(iterate 4 exact rfl);omega))|((with_reducible apply (oq_max2E (k:=up)));exact rfl;exact rfl;exact hup)|((with_reducible apply oq_neg);exact rfl;(refine ⟨?_,?_⟩<;>omega))|(focus ((with_reducible apply (oq_addE (k:=z.h+q2)));exact rfl;exact rfl;omega))|(focus ((with_reducible apply (oq_addE (k:=((k+1:Nat):Int))));exact rfl;exact rfl;omega))|((with_reducible apply oq_lssT);exact rfl;exact rfl;omega)|((with_reducible apply oq_gtrF);exact rfl;exact rfl;omega)|(apply oq_fn;exact rfl;first|exact trivial|(and_intros<;>omega)|omega|skip)|((with_reducible apply oq_load);exact rfl;exact rfl)|((with_reducible apply oq_loadAgg);exact rfl;exact rfl)|((with_reducible apply oq_build);(iterate 3 exact rfl)))|((with_reducible apply tl_id);first|(with_reducible apply tl_nil)|((with_reducible apply u_q);(iterate 4 exact rfl))|((with_reducible apply u_s0);exact rfl;exact rfl)|((with_reducible apply u_s);(iterate 3 exact rfl)))|((with_reducible apply gx_id);first|(with_reducible apply v_nil)|((with_reducible apply v_q);(iterate 3 exact rfl)))|((with_reducible apply os_id);first|((with_reducible apply os_mapUpdate);(iterate 3 exact rfl);exact dec_k0 _;(first|exact dec_s _ _ _|exact dec_n);(repeat first|exact P0|apply P1);exact hn1)|((with_reducible apply os_mapUpdate);(iterate 3 exact rfl);exact dec_k1 _;(first|exact dec_s _ _ _|exact dec_n);(repeat first|exact P0|apply P1);exact (hn2 _))|((with_reducible apply os_x);exact rfl)|((with_reducible apply os_storeAgg);(iterate 5 exact rfl)))|((with_reducible apply ox_id);first|((with_reducible apply ox_alloc);exact rfl;intro _))|((with_reducible apply ai_id);first|((with_reducible apply ai_n);(iterate 4 exact rfl);(with_reducible apply os_callF (PV:=LsR (ratesV v up z.x z.y C)) (hc:=Tryz.call102));exact rfl;exact rfl;exact fun D w1 hw1=>HR1 w1 hw1.ext.ext;rintro _ _ ⟨_|⟨bo,co⟩,ho,rfl,rfl⟩<;>simp only [hR,sR,List.cons_append,List.nil_append])|((with_reducible apply ai_n);(iterate 4 exact rfl);(with_reducible apply os_callF (PV:=LsR (ratesV v up (-z.x) (-z.y) C)) (hc:=Tryz.call102));exact rfl;exact rfl;exact fun D w1 hw1=>HR2 w1 hw1.ext.ext;rintro _ _ ⟨_|⟨bp,cq⟩,ho2,rfl,rfl⟩<;>simp only [hR,sR,List.cons_append,List.nil_append])|((with_reducible apply ai_s0);(iterate 4 exact rfl)))|((with_reducible apply al_keep);focus (repeat (first|exact HpSub.refl _|(apply HpSub.cons;(repeat first|exact P0|apply P1))|apply HpSub.skipX|exact HpSub.nil)))|((with_reducible apply rd_id);first|(apply Rd.own;(repeat first|exact P0|apply P1);exact rfl;done)|(apply Rd.old;(first|(with_reducible assumption)|exact c0|exact c1|exact c2|exact c3|exact c4|exact c5|exact c6|exact c7|exact c8|exact d0|exact d1|exact d2|exact d3|exact d4|exact d5);first|exact List.not_mem_nil|exact m0|exact m1|exact m2|exact m3|exact m4|exact m5|exact m6|exact m7|exact m8|exact m9))|((with_reducible apply t_id);first|(apply t_mix (id:=13) [0,1,2,3,4,5,6,7,8,9,10,11,12] 2 #[false,false,false,false,false,false,false,false,false,false,false,false,false,false,true];kernel_rfl;kernel_rfl;exact rfl)|(apply t_mix (id:=14) [0,1,2,3,4,5,6,7,8,9,10,11,12,13,14] 2 #[false,false,false,false,false,false,false,false,false,false,false,false,false,false,false,false,true];kernel_rfl;kernel_rfl;exact rfl)|(with_reducible apply t_seq)|(apply t_region;kernel_rfl)|((with_reducible apply t_condT);exact rfl)|((with_reducible apply t_condF);exact rfl)|(with_reducible apply t_skip)|(with_reducible apply t_block))|with_reducible apply q_thenN|with_reducible apply q_blockN|exact P0|exact Rdn.zero|apply Rdn.succ|((with_reducible apply Norm.nil);exact rfl)|((with_reducible apply Norm.cons);exact rfl)|((with_reducible apply al_id);first|(apply al_done;decide +kernel)|(apply al_one 13;decide +kernel)|(apply al_one 14;decide +kernel))|((with_reducible apply al_id);first|(apply al_one 15;decide +kernel)|(apply al_one 16;decide +kernel))|exact Nat.le_of_ble_eq_true rfl)
     all_goals first|(refine ⟨(k+1,E++[⟨k,false,_,none⟩,⟨k,true,_,none⟩]),⟨by simp only;omega,hD _ _,nl_two hnl (fun h=>ho rfl) (fun h=>ho2 rfl)⟩,by simp only;omega,?_,?_⟩<;>(try simp only [enM_two,enH_two,hR,slC,List.cons_append,List.nil_append])<;>(repeat' (first|exact FrSub.nil|(apply FrSub.cons;exact rfl)|exact HpSub.refl _|(apply HpSub.consE;(repeat first|exact P0|apply P1);exact rfl)|apply HpSub.skipX));done)|(refine ⟨(k+1,E++[⟨k,false,_,none⟩,⟨k,true,_,(some (bp,cq))⟩]),⟨by simp only;omega,hD _ _,nl_two hnl (fun h=>ho rfl) (fun h=>(by cases h))⟩,by simp only;omega,?_,?_⟩<;>(try simp only [enM_two,enH_two,hR,slC,List.cons_append,List.nil_append])<;>(repeat' (first|exact FrSub.nil|(apply FrSub.cons;exact rfl)|exact HpSub.refl _|(apply HpSub.consE;(repeat first|exact P0|apply P1);exact rfl)|apply HpSub.skipX));done)|(refine ⟨(k+1,E++[⟨k,false,_,(some (bo,co))⟩,⟨k,true,_,none⟩]),⟨by simp only;omega,hD _ _,nl_two hnl (fun h=>(by cases h)) (fun h=>ho2 rfl)⟩,by simp only;omega,?_,?_⟩<;>(try simp only [enM_two,enH_two,hR,slC,List.cons_append,List.nil_append])<;>(repeat' (first|exact FrSub.nil|(apply FrSub.cons;exact rfl)|exact HpSub.refl _|(apply HpSub.consE;(repeat first|exact P0|apply P1);exact rfl)|apply HpSub.skipX));done)|(refine ⟨(k+1,E++[⟨k,false,_,(some (bo,co))⟩,⟨k,true,_,(some (bp,cq))⟩]),⟨by simp only;omega,hD _ _,nl_two hnl (fun h=>(by cases h)) (fun h=>(by cases h))⟩,by simp only;omega,?_,?_⟩<;>(try simp only [enM_two,enH_two,hR,slC,List.cons_append,List.nil_append])<;>(repeat' (first|exact FrSub.nil|(apply FrSub.cons;exact rfl)|exact HpSub.refl _|(apply HpSub.consE;(repeat first|exact P0|apply P1);exact rfl)|apply HpSub.skipX));done)
 · obtain rfl:k=n:=by omega
   ((all_goals refine goO1e ?_);(all_goals constructor);(any_goals exact trivial);all_goals intros)
   all_goals exact ⟨_,⟨bD,bM,E,rfl,rfl,hE,hnl⟩,by (try simp only [List.cons_append,List.append_nil]);(repeat' (first|exact HpSub.refl _|(apply HpSub.consE;(repeat first|exact P0|apply P1);exact rfl)|apply HpSub.skipX))⟩
end Go.Proofs.YtcjkndjjbjoehaaGreat
