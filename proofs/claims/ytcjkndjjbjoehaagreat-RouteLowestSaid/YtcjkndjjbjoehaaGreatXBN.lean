/- A part of the proof: rules for walks, and contracts of functions (14). -/
import Derived.Test.YtcjkndjjbjoehaaGreatXBA
import Derived.Test.YtcjkndjjbjoehaaGreatXBK
import Derived.Test.YtcjkndjjbjoehaaGreatXBM
import Derived.Test.YtcjkndjjbjoehaaGreatXBD
import Derived.Test.YtcjkndjjbjoehaaGreatXBC
import Derived.Test.YtcjkndjjbjoehaaGreatXBL
import Derived.Test.YtcjkndjjbjoehaaGreatXBH
set_option linter.unusedVariables false
set_option linter.unusedSimpArgs false
set_option maxRecDepth 100000
set_option maxHeartbeats 2000000
namespace Go.Proofs.YtcjkndjjbjoehaaGreat
theorem gqT0e {G A1 A2 A3 A4 A5 A6 A7 A8 A9 A10 A11 A12 A13 A14 A15 A16:Prop} (p:GoP A1 A2 A3 A4 A5 A6 A7 A8 A9 A10 A11 A12 A13 A14 A15 A16) (h:GoL A1→GoL A2→GoL A3→GoL A4→GoL A5→GoL A6→GoL A7→GoL A8→GoL A9→GoL A10→GoL A11→GoL A12→GoL A13→GoL A14→GoL A15→GoL A16→GoM→G:=by intro m1 m2 m3 m4 m5 m6 m7 m8 m9 m10 m11 m12 m13 m14 m15 m16 _;(repeat' (first|((with_reducible apply oq_id);first|((with_reducible apply oc_id);first|((with_reducible apply oq_call (hc:=Tryz.call66));exact rfl;exact rfl;exact fun D w1 hw1=>HN w1 hw1.ext.ext)|((with_reducible apply oq_call (hc:=Tryz.call57));exact rfl;exact rfl;exact fun D w1 hw1=>HN w1 hw1.ext.ext)|((with_reducible apply oq_call (hc:=Tryz.call75));exact rfl;exact rfl;exact fun D w1 hw1=>sameInts_calls _ _ _ _ _ _ (cI l) (cI l) true (by simp) w1 (hq.ext hw1.ext.ext) (hq'.ext hw1.ext.ext) hln hln)|((with_reducible apply oq_call (hc:=Tryz.call71));exact rfl;exact rfl;(intro D w1 hw1;refine within6_f _ _ _ ?_ w1;omega))|((with_reducible apply oq_call (hc:=Tryz.call71));exact rfl;exact rfl;(intro D w1 hw1;refine within6_t _ _ _ ?_ w1;omega))|((with_reducible apply oq_call (hc:=Tryz.call70));exact rfl;exact rfl;exact fun D w1 hw1=>HA w1 hw1.ext.ext)|((with_reducible apply oq_call (hc:=Tryz.call79));exact rfl;exact rfl;exact fun D w1 hw1=>HS2 w1 hw1.ext.ext))|((with_reducible apply ob_id);first|((with_reducible apply oq_lssF);exact rfl;exact rfl;omega)|(focus ((with_reducible apply (oq_subE (k:=(n:Int)-1)));exact rfl;exact rfl;omega))|(focus ((with_reducible apply (oq_subE (k:=((k:Nat):Int))));exact rfl;exact rfl;omega))|(focus ((with_reducible apply (oq_subE (k:=((y:Nat):Int))));exact rfl;exact rfl;omega))|((with_reducible apply oq_neqT);exact rfl;exact rfl;omega)|((with_reducible apply oq_neqF);exact rfl;exact rfl;omega)|((with_reducible apply oq_gtrT);exact rfl;exact rfl;omega)|((with_reducible apply oq_lssT);exact rfl;exact rfl;omega)|((with_reducible apply oq_gtrF);exact rfl;exact rfl;omega))|(focus ((with_reducible apply oq_indexAddrN);(iterate 4 exact rfl);omega))|(focus ((with_reducible apply oq_indexAddrN (i:=k));(iterate 4 exact rfl);omega))|(focus ((with_reducible apply oq_indexAddrN (i:=t));(iterate 4 exact rfl);omega))|(apply oq_fn;exact rfl;first|exact trivial|(constructor<;>omega)|omega|skip)|((with_reducible apply oq_load);exact rfl;exact rfl)|((with_reducible apply oq_loadAgg);exact rfl;exact rfl))|((with_reducible apply tl_id);first|(with_reducible apply tl_nil)|((with_reducible apply u_s);(iterate 3 exact rfl);(with_reducible apply os_callS (PV:=DskV AM _ m cM n cp v q1 q2 q3 q4 g0 g1 C L) (hc:=Tryz.call66));exact rfl;exact rfl;exact fun D w1 hw1=>HO w1 hw1.ext.ext;rintro _ _ ⟨bD,bM,E,rfl,rfl,hE2,hnl⟩;simp only [dkH,List.cons_append,List.nil_append])|((with_reducible apply u_q);(iterate 4 exact rfl))|((with_reducible apply u_s);(iterate 3 exact rfl))|((with_reducible apply u_skip);(iterate 3 exact rfl)))|((with_reducible apply gx_id);first|(with_reducible apply v_nil)|((with_reducible apply v_q);(iterate 3 exact rfl)))|((with_reducible apply os_id);first|((with_reducible apply os_x);exact rfl)|((with_reducible apply os_storeAgg);(iterate 5 exact rfl))|((with_reducible apply os_append (hk:=app_ok31));exact rfl;exact rfl;(repeat first|exact P0|apply P1)))|((with_reducible apply ox_id);first|((with_reducible apply ox_boxAgg);exact rfl;intro _)|((with_reducible apply ox_alloc);exact rfl;intro _)|((with_reducible apply ox_buildSlice1);(iterate 6 exact rfl);intro _))|((with_reducible apply ai_id);first|((with_reducible apply ai_x);(iterate 5 exact rfl))|((with_reducible apply ai_n0);(iterate 3 exact rfl)))|((with_reducible apply al_keep);focus (repeat (first|exact HpSub.refl _|(apply HpSub.cons;(repeat first|exact P0|apply P1))|apply HpSub.skipX|exact HpSub.nil)))|((with_reducible apply rd_id);first|(apply rd_st hxl;(repeat first|exact P0|apply P1);done)|(apply Rd.own;(repeat first|exact P0|apply P1);exact rfl;done)|(apply Rd.old;(first|(with_reducible assumption)|exact c0|exact c1|exact c2|exact c3|exact c4|exact c5|exact c6|exact c7|exact c8|exact d0|exact d1|exact d2|exact d3|exact d4|exact d5);first|exact List.not_mem_nil|exact m0|exact m1|exact m2|exact m3|exact m4|exact m5|exact m6|exact m7|exact m8|exact m9))|((with_reducible apply t_id);first|(apply t_mix (id:=10) [0,1,2,3,4,5,6,7] 2 #[false,false,false,false,false,false,false,false,false,false];kernel_rfl;kernel_rfl;exact rfl)|(with_reducible apply t_seq)|(apply t_region;kernel_rfl)|(apply t_drawn;kernel_rfl;decide +kernel;try simp only [List.append_eq,List.cons_append,List.nil_append])|((with_reducible apply t_condT);exact rfl)|((with_reducible apply t_condF);exact rfl)|(with_reducible apply t_ret)|(with_reducible apply t_exit)|(with_reducible apply t_skip)|(with_reducible apply t_block))|with_reducible apply q_thenN|with_reducible apply q_thenR|with_reducible apply q_blockR|with_reducible apply q_thenE|((with_reducible apply q_blockE);exact rfl)|with_reducible apply q_blockN|exact P0|exact Rdn.zero|apply Rdn.succ|((with_reducible apply Norm.nil);exact rfl)|((with_reducible apply Norm.cons);exact rfl)|(with_reducible apply end_ret)|exact rvs_nil|(with_reducible apply rvs_cons)|((with_reducible apply rv_tmp);exact rfl)|((with_reducible apply al_id);first|(apply al_done;decide +kernel)|(apply al_one 8;decide +kernel)|(apply al_one 9;decide +kernel))|exact cI_len1 _|exact Nat.le_of_ble_eq_true rfl|exact (rfl:(_:Bool)=true)|omega|(intro _ _;with_reducible apply tl_id)));(try focus (repeat (rename_i x;first|exact goD x m1.p|revert x)));(try focus (repeat (rename_i x;first|exact goD x m2.p|revert x)));(try focus (repeat (rename_i x;first|exact goD x m3.p|revert x)));(try focus (repeat (rename_i x;first|exact goD x m4.p|revert x)));(try focus (repeat (rename_i x;first|exact goD x m5.p|revert x)));(try focus (repeat (rename_i x;first|exact goD x m6.p|revert x)));(try focus (repeat (rename_i x;first|exact goD x m7.p|revert x)));(try focus (repeat (rename_i x;first|exact goD x m8.p|revert x)));(try focus (repeat (rename_i x;first|exact goD x m9.p|revert x)));(try focus (repeat (rename_i x;first|exact goD x m10.p|revert x)));(try focus (repeat (rename_i x;first|exact goD x m11.p|revert x)));(try focus (repeat (rename_i x;first|exact goD x m12.p|revert x)));(try focus (repeat (rename_i x;first|exact goD x m13.p|revert x)));(try focus (repeat (rename_i x;first|exact goD x m14.p|revert x)));(try focus (repeat (rename_i x;first|exact goD x m15.p|revert x)));(try focus (repeat (rename_i x;first|exact goD x m16.p|revert x)))) (e:GoTs A1 A2 A3 A4 A5 A6 A7 A8 A9 A10 A11 A12 A13 A14 A15 A16:=by constructor<;>first|(with_reducible exact GoT.t)|exact GoT.u):G:=p.run h
open Go.RowKit
attribute [local irreducible] OQ OS OX Rd T TL GX GL AL AI RV wpG SAny Calls
def flCells (x:Nat×Bool):List Value:=[.int .i64 (x.1:Nat),.bool x.2]
theorem flF_len:∀ g:List (Nat×Bool),(g.map flCells).flatten.length=g.length*2
 | []=>rfl
 | x::g=>by
   simp only [List.map_cons,List.flatten_cons,List.length_append,flF_len g,List.length_cons,flCells,List.length_nil]
   omega
theorem cI_len1 (S:List Nat):((cI S).map iv).length=S.length*1:=by simp [cI]
theorem fl_snoc (g:List (Nat×Bool)) (t:Nat) (b:Bool):(g.map flCells).flatten++[Value.int .i64 ((t:Nat):Int),Value.bool b]=((g++[(t,b)]).map flCells).flatten:=by simp [flCells]
theorem fl_rows_len (g:List (Nat×Bool)):∀ r∈g.map flCells,r.length=2:=by simp only [List.mem_map];rintro r ⟨x,_,rfl⟩;rfl
def flS (g:List (Nat×Bool)):Option (Nat×Nat)→Value
 | none=>.slice none 0 0
 | some (b,cap)=>.slice (some ⟨b,0,none⟩) g.length cap
def flH (g:List (Nat×Bool)):Option (Nat×Nat)→Hp
 | none=>[]
 | some (b,cap)=>[(b,(g.map flCells).flatten,some (153,2,cap))]
theorem rd_st {c:Cx} {H H':Hp} {g k:Nat} {S:List Nat} {x:Nat} {tg:Tg} (h:S[k]?=some x) (p:Pick H g ((cI S).map iv) tg H'):Rd c H ⟨g,0+k*1,none⟩ (.int .i64 (x:Nat)):=
 Rd.own p (by rw [Nat.zero_add,Nat.mul_one,List.getElem?_map];unfold cI;rw [List.getElem?_map,h];rfl)
def TrvH (bT bD bM bS cS:Nat) (E:List En) (AP AT:Option Addr) (m cM n cp:Nat) (v q1 q2 q3 q4 g0 g1:Int) (p:Trp) (o:Option (Nat×Nat)):Hp:=(bT,[.pointer (some ⟨bD,0,none⟩),.slice (some ⟨bS,0,none⟩) p.2.length cS,flS p.1 o],some (147,3,1))::(bS,(cI p.2).map iv,some (3,1,cS))::(flH p.1 o++dkH bD bM AP AT m cM n cp v q1 q2 q3 q4 g0 g1 E)
def TravV (AP AT:Option Addr) (m cM n cp:Nat) (v q1 q2 q3 q4 g0 g1:Int) (C:List Wn) (L:List Lg):Option Trp→Value→Hp→Prop
 | none,u,H=>u=.tuple #[.pointer none,.int .i64 2]∧H=[]
 | some p,u,H=>∃ bT bD bM bS cS E o,u=.tuple #[.pointer (some ⟨bT,0,none⟩),.int .i64 0]∧(o=none→p.1=[])∧H=TrvH bT bD bM bS cS E AP AT m cM n cp v q1 q2 q3 q4 g0 g1 p o∧E.map keyOf=deskE v q1 q2 q3 C L n∧∀ e∈E,e.o=none→e.l=[]
def tripI (m:Nat) (L:List Lg) (s:Int) (rs:List Int):Option Trp:=if 0≤s∧s≤(m:Int)-1 then tripF L s.toNat rs else none
theorem allF_iff {lo hi:Int} {rs:List Int}:allFrom lo hi rs=true↔∀ r∈rs,lo≤r∧r≤hi:=by simp [allFrom]
theorem travel_ok (AM A:Option Addr) (m cM n cp:Nat) (L:List Lg) (w:World) (hr:RdS w 5 A n (L.map lgCells)) (hn:n≤1000000) (hm:m≤1000000) (v q1 q2 q3 q4 g0 g1:Int) (AC:Option Addr) (nC cC:Nat) (C:List Wn) (hrc:CastR w AC nC C) (hs:∀ z∈C,z.n≤1000000) (s:Int) (AR:Option Addr) (nR cR:Nat) (rs:List Int) (hR:RdS w 1 AR nR (rs.map inCells)) (hnR:nR≤1000000) (hE:askE m L v q1 q2 q3 q4 g0 g1 C=0) (h20:rs.length≤20):Calls Tryz.prog 57 #[.agg #[.slice AM m cM,.slice A n cp],.agg #[.int .i64 v,.int .i64 q1,.int .i64 q2,.int .i64 q3,.int .i64 q4,.int .i64 g0,.int .i64 g1],.slice AC nC cC,.int .i64 s,.slice AR nR cR] w fun e w'=>∃ u H',e=.returned u∧TravV AM A m cM n cp v q1 q2 q3 q4 g0 g1 C L (tripI m L s rs) u H'∧Has w ⟨[],[]⟩ H' w':=by
 have hl:L.length=n:=by simpa using hr.len
 have hlr:rs.length=nR:=by simpa using hR.len
 have HO:=fun w1 (hx:Ext w w1)=>open_ok AM A m cM n cp L w1 (hr.ext hx) hn hm v q1 q2 q3 q4 g0 g1 AC nC cC C (hrc.ext hx) hs hE
 have hLk:∀ z∈L,LegOk m z:=(chartB_iff.1 (askE_ok hE).1).2.2
 clear hE
 have HRt:=fun w1 (hx:Ext w w1)=>rfrom_calls 0 ((n:Int)-1) AR nR cR rs w1 (hR.ext hx) (by omega)
 by_cases hst:0≤s∧s≤(m:Int)-1
 rotate_left
 · rw [show tripI m L s rs=none from if_neg hst]
   refine enterF (c:=cx w 123) Tryz.func57 rfl rfl rfl rfl ?_
   repeat' (first|((with_reducible apply oq_id);first|(focus ((with_reducible apply (oq_subE (k:=(m:Int)-1)));exact rfl;exact rfl;omega))|((with_reducible apply oq_neqF);exact rfl;exact rfl;omega)|((with_reducible apply oq_gtrF);exact rfl;exact rfl;omega)|(apply oq_fn;exact rfl;first|exact trivial|(constructor<;>omega)|omega|skip)|((with_reducible apply oq_load);exact rfl;exact rfl)|((with_reducible apply oq_loadAgg);exact rfl;exact rfl)|((with_reducible apply oq_call (hc:=Tryz.call67));exact rfl;exact rfl;(intro D w1 hw1;refine rfrom1_f ?_ hw1 (by (repeat first|exact P0|apply P1));omega)))|((with_reducible apply tl_id);first|(with_reducible apply tl_nil)|((with_reducible apply u_s);(iterate 3 exact rfl);(with_reducible apply os_callS (PV:=DskV AM _ m cM n cp v q1 q2 q3 q4 g0 g1 C L) (hc:=Tryz.call66));exact rfl;exact rfl;exact fun D w1 hw1=>HO w1 hw1.ext.ext;rintro _ _ ⟨bD,bM,E,rfl,rfl,hE2,hnl⟩;simp only [dkH,List.cons_append,List.nil_append])|((with_reducible apply u_q);(iterate 4 exact rfl))|((with_reducible apply u_s);(iterate 3 exact rfl))|((with_reducible apply u_skip);(iterate 3 exact rfl)))|((with_reducible apply os_id);first|((with_reducible apply os_x);exact rfl))|((with_reducible apply ox_id);first|((with_reducible apply ox_boxAgg);exact rfl;intro _)|((with_reducible apply ox_buildSlice1);(iterate 6 exact rfl);intro _))|((with_reducible apply rd_id);first|(apply Rd.own;(repeat first|exact P0|apply P1);exact rfl;done))|((with_reducible apply t_id);first|(with_reducible apply t_seq)|(apply t_region;kernel_rfl)|((with_reducible apply t_condT);exact rfl)|((with_reducible apply t_condF);exact rfl)|(with_reducible apply t_ret)|(with_reducible apply t_block))|with_reducible apply q_thenN|with_reducible apply q_thenR|with_reducible apply q_blockR|exact Rdn.zero|apply Rdn.succ|(with_reducible apply end_ret)|exact rvs_nil|(with_reducible apply rvs_cons)|((with_reducible apply rv_tmp);exact rfl))
   all_goals exact ⟨_,⟨rfl,rfl⟩,HpSub.nil⟩
 rw [show tripI m L s rs=tripF L s.toNat rs from if_pos hst]
 by_cases hal:allFrom 0 ((n:Int)-1) rs=true
 rotate_left
 · rw [Bool.not_eq_true] at hal
   have hno:tripF L s.toNat rs=none:=by
     obtain ⟨r,hr,h⟩:∃ r∈rs,¬ (0≤r∧r≤(n:Int)-1):=by
       refine Classical.byContradiction fun hn=>?_
       rw [show allFrom 0 ((n:Int)-1) rs=true from allF_iff.2 fun r hr=>Classical.byContradiction fun h=>hn ⟨r,hr,h⟩] at hal
       cases hal
     exact tripF_bad hr (by omega)
   rw [hno]
   simp only [hal] at HRt
   refine enterF (c:=cx w 123) Tryz.func57 rfl rfl rfl rfl ?_
   repeat' (first|((with_reducible apply oq_id);first|(focus ((with_reducible apply (oq_subE (k:=(m:Int)-1)));exact rfl;exact rfl;omega))|(focus ((with_reducible apply (oq_subE (k:=(n:Int)-1)));exact rfl;exact rfl;omega))|((with_reducible apply oq_neqF);exact rfl;exact rfl;omega)|((with_reducible apply oq_gtrF);exact rfl;exact rfl;omega)|(apply oq_fn;exact rfl;first|exact trivial|(constructor<;>omega)|omega|skip)|((with_reducible apply oq_load);exact rfl;exact rfl)|((with_reducible apply oq_loadAgg);exact rfl;exact rfl)|((with_reducible apply oq_call (hc:=Tryz.call67));exact rfl;exact rfl;(intro D w1 hw1;refine rfrom1_t ?_ hw1 (by (repeat first|exact P0|apply P1));omega))|((with_reducible apply oq_call (hc:=Tryz.call67));exact rfl;exact rfl;exact fun D w1 hw1=>HRt w1 hw1.ext.ext))|((with_reducible apply tl_id);first|(with_reducible apply tl_nil)|((with_reducible apply u_s);(iterate 3 exact rfl);(with_reducible apply os_callS (PV:=DskV AM _ m cM n cp v q1 q2 q3 q4 g0 g1 C L) (hc:=Tryz.call66));exact rfl;exact rfl;exact fun D w1 hw1=>HO w1 hw1.ext.ext;rintro _ _ ⟨bD,bM,E,rfl,rfl,hE2,hnl⟩;simp only [dkH,List.cons_append,List.nil_append])|((with_reducible apply u_q);(iterate 4 exact rfl))|((with_reducible apply u_s);(iterate 3 exact rfl)))|((with_reducible apply os_id);first|((with_reducible apply os_x);exact rfl))|((with_reducible apply ox_id);first|((with_reducible apply ox_boxAgg);exact rfl;intro _)|((with_reducible apply ox_buildSlice1);(iterate 6 exact rfl);intro _))|((with_reducible apply rd_id);first|(apply Rd.own;(repeat first|exact P0|apply P1);exact rfl;done))|((with_reducible apply t_id);first|(with_reducible apply t_seq)|(apply t_region;kernel_rfl)|((with_reducible apply t_condT);exact rfl)|((with_reducible apply t_condF);exact rfl)|(with_reducible apply t_ret)|(with_reducible apply t_block))|with_reducible apply q_thenN|with_reducible apply q_thenR|with_reducible apply q_blockR|exact Rdn.zero|apply Rdn.succ|(with_reducible apply end_ret)|exact rvs_nil|(with_reducible apply rvs_cons)|((with_reducible apply rv_tmp);exact rfl))
   all_goals exact ⟨_,⟨rfl,rfl⟩,HpSub.nil⟩
 have hall:=allF_iff.1 hal
 simp only [hal] at HRt
 obtain ⟨s,rfl⟩:=Int.eq_ofNat_of_zero_le hst.1
 rw [Int.toNat_natCast]
 refine enterF (c:=cx w 123) Tryz.func57 rfl rfl rfl rfl ?_
 repeat' (first|((with_reducible apply oq_id);first|(focus ((with_reducible apply (oq_subE (k:=(m:Int)-1)));exact rfl;exact rfl;omega))|(focus ((with_reducible apply (oq_subE (k:=(n:Int)-1)));exact rfl;exact rfl;omega))|((with_reducible apply oq_neqF);exact rfl;exact rfl;omega)|((with_reducible apply oq_gtrF);exact rfl;exact rfl;omega)|(apply oq_fn;exact rfl;first|exact trivial|(constructor<;>omega)|omega|skip)|((with_reducible apply oq_load);exact rfl;exact rfl)|((with_reducible apply oq_loadAgg);exact rfl;exact rfl)|((with_reducible apply oq_call (hc:=Tryz.call67));exact rfl;exact rfl;(intro D w1 hw1;refine rfrom1_t ?_ hw1 (by (repeat first|exact P0|apply P1));omega))|((with_reducible apply oq_call (hc:=Tryz.call67));exact rfl;exact rfl;exact fun D w1 hw1=>HRt w1 hw1.ext.ext)|((with_reducible apply oq_build);(iterate 3 exact rfl)))|((with_reducible apply tl_id);first|(with_reducible apply tl_nil)|((with_reducible apply u_s);(iterate 3 exact rfl);(with_reducible apply os_callS (PV:=DskV AM _ m cM n cp v q1 q2 q3 q4 g0 g1 C L) (hc:=Tryz.call66));exact rfl;exact rfl;exact fun D w1 hw1=>HO w1 hw1.ext.ext;rintro _ _ ⟨bD,bM,E,rfl,rfl,hE2,hnl⟩;simp only [dkH,List.cons_append,List.nil_append])|((with_reducible apply u_q);(iterate 4 exact rfl))|((with_reducible apply u_s);(iterate 3 exact rfl)))|((with_reducible apply os_id);first|((with_reducible apply os_x);exact rfl))|((with_reducible apply ox_id);first|((with_reducible apply ox_boxAgg);exact rfl;intro _)|((with_reducible apply ox_buildSlice1);(iterate 6 exact rfl);intro _))|((with_reducible apply rd_id);first|(apply Rd.own;(repeat first|exact P0|apply P1);exact rfl;done))|((with_reducible apply t_id);first|(with_reducible apply t_seq)|(apply t_region;kernel_rfl)|((with_reducible apply t_condF);exact rfl)|(with_reducible apply t_skip)|(with_reducible apply t_block))|with_reducible apply q_thenN|with_reducible apply q_blockN|exact Rdn.zero|apply Rdn.succ|((with_reducible apply Norm.nil);exact rfl)|((with_reducible apply Norm.cons);exact rfl))
 rename_i b5 b6 b40 b54 bT
 apply t_loopP (ι:=Nat×Trp×Nat×Nat×Option (Nat×Nat)) [5,14,57,58] (fun z=>[(59,.int .i64 ((z.1:Nat):Int))]) (fun z=>(bT,[.pointer (some ⟨bD,0,none⟩),.slice (some ⟨z.2.2.1,0,none⟩) z.2.1.2.length z.2.2.2.1,flS z.2.1.1 z.2.2.2.2],some (147,3,1))::(z.2.2.1,(cI z.2.1.2).map iv,some (3,1,z.2.2.2.1))::(b5,[.slice AM m cM,.slice A n cp],some (25,2,1))::(flH z.2.1.1 z.2.2.2.2++(bD,dkC AM A m cM n cp v q1 q2 q3 q4 g0 g1 bM,some (172,10,1))::(bM,[],mapTg 170 (enM E))::enH E)) (fun z=>z.1≤nR∧tripF L s (rs.take z.1)=some z.2.1∧(z.2.2.2.2=none→z.2.1.1=[])) (fun z=>nR-z.1) ((0,([],[s]),b54,1,none))
 (repeat (first|exact KeepF.nil|(apply KeepF.cons;exact rfl)|apply KeepF.skip))
 (repeat first|exact FrSub.nil|(apply FrSub.cons;exact rfl))
 (try simp only [List.cons_append,List.nil_append])
 (repeat' (first|exact HpSub.refl _|(apply HpSub.consE;(repeat first|exact P0|apply P1);first|exact rfl|exact cN_snoc _ _|exact fl_snoc _ _ _|(simp [flCells,flS,cI,iv];done)|skip)|apply HpSub.skipX))
 · exact ⟨Nat.zero_le _,rfl,fun _=>rfl⟩
 rintro ⟨k,⟨g,S⟩,bS,cS,o⟩ ⟨hk,hp,ho⟩
 simp only at hk hp ho
 try simp only [List.cons_append,List.nil_append]
 obtain ⟨hp1,hp2,hp3,hp4⟩:=trip_ti hLk (show s<m by omega) hp
 rw [List.length_take,Nat.min_eq_left (by omega)] at hp1 hp2
 simp only at hp1 hp2 hp3
 by_cases hlt:k<nR
 rotate_left
 · obtain rfl:k=nR:=by omega
   rw [List.take_of_length_le (by omega)] at hp
   rw [hp]
   ((all_goals refine gqT0e ?_);(all_goals constructor);(any_goals exact trivial);all_goals intros)
   all_goals (refine ⟨_,⟨bT,bD,bM,bS,cS,E,o,rfl,ho,rfl,hE2,hnl⟩,?_⟩;unfold TrvH dkH;(repeat' (first|exact HpSub.refl _|(apply HpSub.consE;(repeat first|exact P0|apply P1);first|exact rfl|exact cN_snoc _ _|exact fl_snoc _ _ _|(simp [flCells,flS,cI,iv];done)|skip)|apply HpSub.skipX)))
 obtain ⟨bR,oR,r,rfl,_,hrk,e0⟩:=in_read hR hlt
 have hrr:=hall r (List.mem_of_getElem? hrk)
 obtain ⟨t,rfl⟩:=Int.eq_ofNat_of_zero_le hrr.1
 obtain ⟨bA,oA,z,rfl,_,hz,c0,c1,c2,c3,c4⟩:=lg_read hr (show t<n by omega)
 obtain ⟨hz1,hz2,hz3,_⟩:=hLk z (List.mem_of_getElem? hz)
 have hst':=tripF_take (L:=L) (s:=s) hrk
 rw [hp] at hst'
 simp only [stF] at hst'
 rw [if_pos (by omega),Int.toNat_natCast,hz] at hst'
 simp only at hst'
 obtain ⟨x,hxl,hxe⟩:∃ x,S[k]?=some x∧S.getLastD 0=x:=by
   refine ⟨S.getLastD 0,?_,rfl⟩
   rw [List.getLastD_eq_getLast?,List.getLast?_eq_getElem?,hp2,Nat.add_sub_cancel]
   rw [List.getElem?_eq_getElem (by omega)]
   rfl
 have hxm:=hp3 x (List.mem_of_getElem? hxl)
 rw [hxe] at hst'
 by_cases hx:(x:Int)=z.a∨(x:Int)=z.b
 rotate_left
 · rw [if_neg hx] at hst'
   rw [tripF_cut hst']
   repeat' (first|((with_reducible apply oq_id);first|(focus ((with_reducible apply (oq_subE (k:=((k:Nat):Int))));exact rfl;exact rfl;omega))|(focus ((with_reducible apply oq_indexAddrN (i:=k));(iterate 4 exact rfl);omega))|(focus ((with_reducible apply oq_indexAddrN (i:=t));(iterate 4 exact rfl);omega))|((with_reducible apply oq_neqT);exact rfl;exact rfl;omega)|((with_reducible apply oq_lssT);exact rfl;exact rfl;omega)|(apply oq_fn;exact rfl;first|exact trivial|(constructor<;>omega)|omega|skip)|((with_reducible apply oq_load);exact rfl;exact rfl)|((with_reducible apply oq_loadAgg);exact rfl;exact rfl))|((with_reducible apply tl_id);first|(with_reducible apply tl_nil)|((with_reducible apply u_q);(iterate 4 exact rfl)))|((with_reducible apply gx_id);first|(with_reducible apply v_nil)|((with_reducible apply v_q);(iterate 3 exact rfl)))|((with_reducible apply os_id);first|((with_reducible apply os_storeAgg);(iterate 5 exact rfl)))|((with_reducible apply ox_id);first|((with_reducible apply ox_alloc);exact rfl;intro _))|((with_reducible apply ai_id);first|((with_reducible apply ai_q);(iterate 5 exact rfl))|((with_reducible apply ai_x);(iterate 5 exact rfl))|((with_reducible apply ai_n0);(iterate 3 exact rfl)))|((with_reducible apply al_keep);focus (repeat (first|exact HpSub.refl _|(apply HpSub.cons;(repeat first|exact P0|apply P1))|apply HpSub.skipX|exact HpSub.nil)))|((with_reducible apply rd_id);first|(apply rd_st hxl;(repeat first|exact P0|apply P1);done)|(apply Rd.own;(repeat first|exact P0|apply P1);exact rfl;done)|(apply Rd.old;(first|(with_reducible assumption)|exact c0|exact c1|exact c2|exact c3|exact c4|exact c5|exact c6|exact c7|exact c8|exact d0|exact d1|exact d2|exact d3|exact d4|exact d5);first|exact List.not_mem_nil|exact m0|exact m1|exact m2|exact m3|exact m4|exact m5|exact m6|exact m7|exact m8|exact m9))|((with_reducible apply t_id);first|(apply t_mix (id:=12) [0,1,2,3,4,5,6,7,8,9,10,11,12,13,14,15,16] 3 #[false,false,false,false,false,false,false,false,false,false,false,false,false,false,false,false,false,false,false,false];kernel_rfl;kernel_rfl;exact rfl)|(with_reducible apply t_seq)|(apply t_region;kernel_rfl)|((with_reducible apply t_condT);exact rfl)|(with_reducible apply t_ret)|(with_reducible apply t_skip)|(with_reducible apply t_block))|with_reducible apply q_thenN|with_reducible apply q_thenR|with_reducible apply q_blockR|exact P0|exact Rdn.zero|apply Rdn.succ|((with_reducible apply Norm.nil);exact rfl)|((with_reducible apply Norm.cons);exact rfl)|(with_reducible apply end_ret)|exact rvs_nil|(with_reducible apply rvs_cons)|((with_reducible apply rv_tmp);exact rfl)|((with_reducible apply al_id);first|(apply al_done;decide +kernel)|(apply al_one 17;decide +kernel)|(apply al_one 18;decide +kernel)|(apply al_one 19;decide +kernel))|exact Nat.le_of_ble_eq_true rfl)
   all_goals exact ⟨_,⟨rfl,rfl⟩,HpSub.nil⟩
 rw [if_pos hx] at hst'
 obtain ⟨y,hy⟩:∃ y:Nat,(z.a+z.b-(x:Int))=y:=Int.eq_ofNat_of_zero_le (by omega)
 rw [hy,Int.toNat_natCast] at hst'
 rcases o with _|⟨bL,cL⟩
 · obtain rfl:=ho rfl
   simp only [flS,flH,List.nil_append,List.cons_append]
   rcases hx with hx|hx
   all_goals (repeat' (first|((with_reducible apply oq_id);first|(focus ((with_reducible apply (oq_subE (k:=((k:Nat):Int))));exact rfl;exact rfl;omega))|(focus ((with_reducible apply (oq_subE (k:=((y:Nat):Int))));exact rfl;exact rfl;omega))|(focus ((with_reducible apply oq_indexAddrN (i:=k));(iterate 4 exact rfl);omega))|(focus ((with_reducible apply oq_indexAddrN (i:=t));(iterate 4 exact rfl);omega))|((with_reducible apply oq_neqT);exact rfl;exact rfl;omega)|((with_reducible apply oq_neqF);exact rfl;exact rfl;omega)|((with_reducible apply oq_lssT);exact rfl;exact rfl;omega)|(apply oq_fn;exact rfl;first|exact trivial|(constructor<;>omega)|omega|skip)|((with_reducible apply oq_load);exact rfl;exact rfl)|((with_reducible apply oq_loadAgg);exact rfl;exact rfl)|((with_reducible apply oq_build);(iterate 3 exact rfl)))|((with_reducible apply tl_id);first|(with_reducible apply tl_nil)|((with_reducible apply u_q);(iterate 4 exact rfl))|((with_reducible apply u_skip);(iterate 3 exact rfl)))|((with_reducible apply gx_id);first|(with_reducible apply v_nil)|((with_reducible apply v_q);(iterate 3 exact rfl)))|((with_reducible apply os_id);first|((with_reducible apply os_store);(iterate 4 exact rfl))|((with_reducible apply os_storeAgg);(iterate 5 exact rfl))|((with_reducible apply os_appendNil (hk:=app_ok145));exact rfl;exact rfl)|((with_reducible apply os_append (hk:=app_ok31));exact rfl;exact rfl;(repeat first|exact P0|apply P1)))|((with_reducible apply ox_id);first|((with_reducible apply ox_alloc);exact rfl;intro _)|((with_reducible apply ox_buildSlice1);(iterate 6 exact rfl);intro _)|((with_reducible apply ox_buildSlice2);(iterate 6 exact rfl);intro _))|((with_reducible apply ai_id);first|((with_reducible apply ai_q);(iterate 5 exact rfl))|((with_reducible apply ai_x);(iterate 5 exact rfl))|((with_reducible apply ai_s0);(iterate 4 exact rfl))|((with_reducible apply ai_n0);(iterate 3 exact rfl))|((with_reducible apply ai_s);(iterate 5 exact rfl)))|((with_reducible apply al_keep);focus (repeat (first|exact HpSub.refl _|(apply HpSub.cons;(repeat first|exact P0|apply P1))|apply HpSub.skipX|exact HpSub.nil)))|((with_reducible apply rd_id);first|(apply rd_st hxl;(repeat first|exact P0|apply P1);done)|(apply Rd.own;(repeat first|exact P0|apply P1);exact rfl;done)|(apply Rd.old;(first|(with_reducible assumption)|exact c0|exact c1|exact c2|exact c3|exact c4|exact c5|exact c6|exact c7|exact c8|exact d0|exact d1|exact d2|exact d3|exact d4|exact d5);first|exact List.not_mem_nil|exact m0|exact m1|exact m2|exact m3|exact m4|exact m5|exact m6|exact m7|exact m8|exact m9))|((with_reducible apply t_id);first|(apply t_mix (id:=12) [0,1,2,3,4,5,6,7,8,9,10,11,12,13,14,15,16] 3 #[false,false,false,false,false,false,false,false,false,false,false,false,false,false,false,false,false,false,false,false];kernel_rfl;kernel_rfl;exact rfl)|(apply t_mix (id:=15) [1,2,3,4,5,6,7,8,9,10] 6 #[false,false,false,false,false,false,false,false,false,false,false,false,true,false,false,true];kernel_rfl;kernel_rfl;exact rfl)|(apply t_mix (id:=16) [1,2,3,4,5,6,7,8,9,10,11] 6 #[false,false,false,false,false,false,false,false,false,false,false,false,false,true,false,false,true];kernel_rfl;kernel_rfl;exact rfl)|(with_reducible apply t_seq)|(apply t_region;kernel_rfl)|((with_reducible apply t_condT);exact rfl)|((with_reducible apply t_condF);exact rfl)|(with_reducible apply t_skip)|(with_reducible apply t_block))|with_reducible apply q_thenN|with_reducible apply q_blockN|exact P0|(with_reducible apply P1)|exact Rdn.zero|apply Rdn.succ|((with_reducible apply Norm.nil);exact rfl)|((with_reducible apply Norm.cons);exact rfl)|((with_reducible apply al_id);first|(apply al_done;decide +kernel)|(apply al_one 17;decide +kernel)|(apply al_one 18;decide +kernel)|(apply al_one 19;decide +kernel))|((with_reducible apply al_id);first|(apply al_one 0;decide +kernel)|(apply al_one 11;decide +kernel)|(apply al_one 12;decide +kernel)|(apply al_one 13;decide +kernel)|(apply al_one 14;decide +kernel)|(apply al_one 15;decide +kernel)|(apply al_two 0 11;decide +kernel)|(apply al_two 0 12;decide +kernel))|((with_reducible apply al_id);first|(apply al_one 16;decide +kernel)|(apply al_two 0 13;decide +kernel))|exact cI_len1 _|exact Nat.le_of_ble_eq_true rfl|exact (rfl:(_:Bool)=true)|omega|(intro _ _;with_reducible apply al_id)))
   all_goals (rename_i b17 b101 bL1 cL1 b117 bS1 cS1;refine ⟨(k+1,([]++[(t,decide ((x:Int)=z.b))],S++[y]),bS1,cS1,some (bL1,cL1)),⟨by simp only;omega,hst',fun h=>(by cases h)⟩,by simp only;omega,?_,?_⟩<;>(try simp only [flS,flH,List.nil_append,List.cons_append,List.length_append,List.length_singleton])<;>(repeat' (first|exact FrSub.nil|(apply FrSub.cons;exact rfl)|exact HpSub.refl _|(apply HpSub.consE;(repeat first|exact P0|apply P1);first|exact rfl|exact cN_snoc _ _|exact fl_snoc _ _ _|(simp [flCells,flS,cI,iv];done)|skip)|apply HpSub.skipX)))
 · simp only [flS,flH,List.nil_append,List.cons_append]
   rcases hx with hx|hx
   all_goals (repeat' (first|((with_reducible apply oq_id);first|(focus ((with_reducible apply (oq_subE (k:=((k:Nat):Int))));exact rfl;exact rfl;omega))|(focus ((with_reducible apply (oq_subE (k:=((y:Nat):Int))));exact rfl;exact rfl;omega))|(focus ((with_reducible apply oq_indexAddrN (i:=k));(iterate 4 exact rfl);omega))|(focus ((with_reducible apply oq_indexAddrN (i:=t));(iterate 4 exact rfl);omega))|((with_reducible apply oq_neqT);exact rfl;exact rfl;omega)|((with_reducible apply oq_neqF);exact rfl;exact rfl;omega)|((with_reducible apply oq_lssT);exact rfl;exact rfl;omega)|(apply oq_fn;exact rfl;first|exact trivial|(constructor<;>omega)|omega|skip)|((with_reducible apply oq_load);exact rfl;exact rfl)|((with_reducible apply oq_loadAgg);exact rfl;exact rfl)|((with_reducible apply oq_build);(iterate 3 exact rfl)))|((with_reducible apply tl_id);first|(with_reducible apply tl_nil)|((with_reducible apply u_q);(iterate 4 exact rfl))|((with_reducible apply u_skip);(iterate 3 exact rfl)))|((with_reducible apply gx_id);first|(with_reducible apply v_nil)|((with_reducible apply v_q);(iterate 3 exact rfl)))|((with_reducible apply os_id);first|((with_reducible apply os_store);(iterate 4 exact rfl))|((with_reducible apply os_storeAgg);(iterate 5 exact rfl))|((with_reducible apply os_append (hk:=app_ok145));exact rfl;exact rfl;(repeat first|exact P0|apply P1))|((with_reducible apply os_append (hk:=app_ok31));exact rfl;exact rfl;(repeat first|exact P0|apply P1)))|((with_reducible apply ox_id);first|((with_reducible apply ox_alloc);exact rfl;intro _)|((with_reducible apply ox_buildSlice1);(iterate 6 exact rfl);intro _)|((with_reducible apply ox_buildSlice2);(iterate 6 exact rfl);intro _))|((with_reducible apply ai_id);first|((with_reducible apply ai_q);(iterate 5 exact rfl))|((with_reducible apply ai_x);(iterate 5 exact rfl))|((with_reducible apply ai_s0);(iterate 4 exact rfl))|((with_reducible apply ai_n0);(iterate 3 exact rfl))|((with_reducible apply ai_s);(iterate 5 exact rfl)))|((with_reducible apply al_keep);focus (repeat (first|exact HpSub.refl _|(apply HpSub.cons;(repeat first|exact P0|apply P1))|apply HpSub.skipX|exact HpSub.nil)))|((with_reducible apply rd_id);first|(apply rd_st hxl;(repeat first|exact P0|apply P1);done)|(apply Rd.own;(repeat first|exact P0|apply P1);exact rfl;done)|(apply Rd.old;(first|(with_reducible assumption)|exact c0|exact c1|exact c2|exact c3|exact c4|exact c5|exact c6|exact c7|exact c8|exact d0|exact d1|exact d2|exact d3|exact d4|exact d5);first|exact List.not_mem_nil|exact m0|exact m1|exact m2|exact m3|exact m4|exact m5|exact m6|exact m7|exact m8|exact m9))|((with_reducible apply t_id);first|(apply t_mix (id:=12) [0,1,2,3,4,5,6,7,8,9,10,11,12,13,14,15,16] 3 #[false,false,false,false,false,false,false,false,false,false,false,false,false,false,false,false,false,false,false,false];kernel_rfl;kernel_rfl;exact rfl)|(apply t_mix (id:=15) [1,2,3,4,5,6,7,8,9,10] 6 #[false,false,false,false,false,false,false,false,false,false,false,false,true,false,false,true];kernel_rfl;kernel_rfl;exact rfl)|(apply t_mix (id:=16) [1,2,3,4,5,6,7,8,9,10,11] 6 #[false,false,false,false,false,false,false,false,false,false,false,false,false,true,false,false,true];kernel_rfl;kernel_rfl;exact rfl)|(with_reducible apply t_seq)|(apply t_region;kernel_rfl)|((with_reducible apply t_condT);exact rfl)|((with_reducible apply t_condF);exact rfl)|(with_reducible apply t_skip)|(with_reducible apply t_block))|with_reducible apply q_thenN|with_reducible apply q_blockN|exact P0|(with_reducible apply P1)|exact Rdn.zero|apply Rdn.succ|((with_reducible apply Norm.nil);exact rfl)|((with_reducible apply Norm.cons);exact rfl)|((with_reducible apply al_id);first|(apply al_done;decide +kernel)|(apply al_one 17;decide +kernel)|(apply al_one 18;decide +kernel)|(apply al_one 19;decide +kernel))|((with_reducible apply al_id);first|(apply al_one 0;decide +kernel)|(apply al_one 11;decide +kernel)|(apply al_one 12;decide +kernel)|(apply al_one 13;decide +kernel)|(apply al_one 14;decide +kernel)|(apply al_one 15;decide +kernel)|(apply al_two 0 11;decide +kernel)|(apply al_two 0 12;decide +kernel))|((with_reducible apply al_id);first|(apply al_one 16;decide +kernel)|(apply al_two 0 13;decide +kernel))|exact flF_len _|exact cI_len1 _|exact Nat.le_of_ble_eq_true rfl|exact (rfl:(_:Bool)=true)|omega|(intro _ _;with_reducible apply al_id)))
   all_goals (rename_i b17 b101 bL1 cL1 b117 bS1 cS1;refine ⟨(k+1,(g++[(t,decide ((x:Int)=z.b))],S++[y]),bS1,cS1,some (bL1,cL1)),⟨by simp only;omega,hst',fun h=>(by cases h)⟩,by simp only;omega,?_,?_⟩<;>(try simp only [flS,flH,List.nil_append,List.cons_append,List.length_append,List.length_singleton])<;>(repeat' (first|exact FrSub.nil|(apply FrSub.cons;exact rfl)|exact HpSub.refl _|(apply HpSub.consE;(repeat first|exact P0|apply P1);first|exact rfl|exact cN_snoc _ _|exact fl_snoc _ _ _|(simp [flCells,flS,cI,iv];done)|skip)|apply HpSub.skipX)))
structure TrpR (w:World) (bT bD bM:Nat) (AS:Option Addr) (cS:Nat) (AG:Option Addr) (cG:Nat) (AP AT:Option Addr) (m cM n cp:Nat) (v q1 q2 q3 q4 g0 g1:Int) (E:List En) (p:Trp):Prop where
 t0:w.cell? ⟨bT,0,none⟩=some (.pointer (some ⟨bD,0,none⟩))
 t1:w.cell? ⟨bT,0+1,none⟩=some (.slice AS p.2.length cS)
 t2:w.cell? ⟨bT,0+2,none⟩=some (.slice AG p.1.length cG)
 rs:RdS w 1 AS p.2.length ((cI p.2).map inCells)
 rg:RdS w 2 AG p.1.length (p.1.map flCells)
 hd:DskR w bD bM AP AT m cM n cp v q1 q2 q3 q4 g0 g1 E
theorem fl_own {w0:World} {M:Ms} {H H':Hp} {w:World} {g:Nat} {l:List (Nat×Bool)} {tg:Tg} (h:Has w0 M H w) (q:Pick H g ((l.map flCells).flatten) tg H'):RdS w 2 (some ⟨g,0,none⟩) l.length (l.map flCells):=
 Blk.rows (h.blk _ q.mem).2 (by simp) (fl_rows_len l)
theorem TrpR.of_has {w0 w:World} {M:Ms} {bT bD bM bS cS:Nat} {E:List En} {AP AT:Option Addr} {m cM n cp:Nat} {v q1 q2 q3 q4 g0 g1:Int} {p:Trp} {o:Option (Nat×Nat)} (h:Has w0 M (TrvH bT bD bM bS cS E AP AT m cM n cp v q1 q2 q3 q4 g0 g1 p o) w) (ho:o=none→p.1=[]) (hn:∀ e∈E,e.o=none→e.l=[]) :
   ∃ AG cG,TrpR w bT bD bM (some ⟨bS,0,none⟩) cS AG cG AP AT m cM n cp v q1 q2 q3 q4 g0 g1 E p:=by
 unfold TrvH at h
 have hb:=(h.blk _ (List.mem_cons_self ..)).2
 have hs:RdS w 1 (some ⟨bS,0,none⟩) p.2.length ((cI p.2).map inCells):=in_rows1 (by simp [cI]) h (.tail (.head _ _ _ _))
 have hd:=DskR.of_has (h.sub (HpSub.skipX (HpSub.skipX (HpSub.skipApp (HpSub.refl _))))) hn
 rcases o with _|⟨bL,cL⟩
 · have e:=ho rfl
   refine ⟨none,0,hb.cell rfl,hb.cell rfl,?_,hs,?_,hd⟩
   · rw [e];exact hb.cell rfl
   · rw [e];exact RdS.nil _ _ _
 · exact ⟨some ⟨bL,0,none⟩,cL,hb.cell rfl,hb.cell rfl,hb.cell rfl,hs,fl_own h (.tail (.tail (.head _ _ _ _))),hd⟩
theorem st_read {w:World} {A:Option Addr} {n:Nat} {S:List Nat} (h:RdS w 1 A n ((cI S).map inCells)) {i s:Nat} (hi:i<n) (hs:S[i]?=some s):∃ b o,A=some ⟨b,o,none⟩∧w.cell? ⟨b,o+i*1,none⟩=some (.int .i64 (s:Nat)):=by
 obtain ⟨b,o,x,h1,_,h2,h3⟩:=in_read h hi
 refine ⟨b,o,h1,?_⟩
 unfold cI at h2
 rw [List.getElem?_map,hs] at h2
 obtain rfl:=Option.some.inj h2
 exact h3
theorem fl_read {w:World} {A:Option Addr} {n:Nat} {g:List (Nat×Bool)} (h:RdS w 2 A n (g.map flCells)) {i:Nat} (hi:i<n):∃ b o t bk,A=some ⟨b,o,none⟩∧g[i]?=some (t,bk)∧w.cell? ⟨b,o+i*2,none⟩=some (.int .i64 (t:Nat))∧w.cell? ⟨b,o+i*2+1,none⟩=some (.bool bk):=by
 obtain ⟨b,o,cs,hA,hb,hx,_,hc⟩:=h.row hi
 simp only [List.getElem?_map,Option.map_eq_some_iff] at hx
 obtain ⟨⟨t,bk⟩,hx,rfl⟩:=hx
 exact ⟨b,o,t,bk,hA,hx,hc 0 _ rfl,hc 1 _ rfl⟩
noncomputable def flC (v q1 q2 q3:Int) (g0 g1:Nat) (C:List Wn) (L:List Lg) (x:Nat×Bool):Int:=match L[x.1]? with
 | none=>-1
 | some z=>legC v q1 q2 q3 g0 g1 C z x.2
def bilV (R:List (Int×Int)) (me g0 g1:Nat):Nat×Nat:=if R=[] then (0,0) else ((hullT me R).2,aH (hullT me R).1 (hullT me R).2 g0 g1 8)
theorem bilV_bound {R:List (Int×Int)} {me g0 g1:Nat} (hR:∀ r∈R,RtOk r) (hm:me≤1000000) (hg:g0≤g1∧g1≤1000000):(bilV R me g0 g1).1≤10000000∧(bilV R me g0 g1).2≤166666666667:=by
 unfold bilV
 split
 · exact ⟨Nat.zero_le _,Nat.zero_le _⟩
 · have hb:=hullT_bound (m:=me) (by omega) R hR
   have:=a_bound (c:=g0) (d:=g1) hb.1 (by omega) hg.1 (by omega) 8
   exact ⟨by have:=hb;omega,by omega⟩
theorem add125_calls (b bT bD t me tm fl cap:Nat) (bk:Bool) (R:List (Int×Int)) (g0 g1:Nat) (w:World) (hB:Blk w b [.int .i64 (tm:Nat),.int .i64 (fl:Nat)] (some (117,2,cap))) (c0:w.cell? ⟨bT,0,none⟩=some (.pointer (some ⟨bD,0,none⟩))) (m0:bT∉[b])
   (HP:∀ w1,ExtM [b] w w1→Calls Tryz.prog 87 #[.pointer (some ⟨bD,0,none⟩),fk t bk,.int .i64 (me:Nat)] w1 fun e w'=>e=.returned (partV R me g0 g1)∧Ext w1 w') (hb:tm+(bilV R me g0 g1).1≤1000000000∧fl+(bilV R me g0 g1).2≤100000000000000) :
   Calls Tryz.prog 125 #[.pointer (some ⟨b,0,none⟩),.pointer (some ⟨bT,0,none⟩),fk t bk,.int .i64 (me:Nat)] w fun e w'=>e=.returned (.tuple #[])∧ExtM [b] w w'∧Blk w' b [.int .i64 ((tm+(bilV R me g0 g1).1:Nat):Int),.int .i64 ((fl+(bilV R me g0 g1).2:Nat):Int)] (some (117,2,cap)):=by
 unfold fk at *
 have hPV:∃ (lo lf:Nat) (op:Bool),partV R me g0 g1=.tuple #[.agg #[.int .i64 (lo:Nat),.int .i64 ((bilV R me g0 g1).1:Nat)],.agg #[.int .i64 (lf:Nat),.int .i64 ((bilV R me g0 g1).2:Nat)],.bool op]:=by
   unfold partV bilV
   by_cases hR:R=[]
   · rw [if_pos hR,if_pos hR]
     exact ⟨0,0,false,rfl⟩
   · rw [if_neg hR,if_neg hR]
     exact ⟨_,_,true,rfl⟩
 obtain ⟨lo,lf,op,hPV⟩:=hPV
 rw [hPV] at HP
 clear hPV
 obtain ⟨ta,hta⟩:∃ ta,(bilV R me g0 g1).1=ta:=⟨_,rfl⟩
 obtain ⟨fa,hfa⟩:∃ fa,(bilV R me g0 g1).2=fa:=⟨_,rfl⟩
 rw [hta,hfa] at HP hb ⊢
 clear hta hfa
 refine enterW (c:=cxM [b] w 42) Tryz.func125 rfl rfl rfl rfl hB ?_
 repeat' (first|((with_reducible apply oq_id);first|(apply oq_fn;exact rfl;first|exact trivial|(and_intros<;>omega)|omega|skip)|((with_reducible apply oq_load);exact rfl;exact rfl)|((with_reducible apply oq_loadAgg);exact rfl;exact rfl)|((with_reducible apply oq_call (hc:=Tryz.call87));exact rfl;exact rfl;exact fun D w1 hw1=>HP w1 hw1.ext))|((with_reducible apply tl_id);first|(with_reducible apply tl_nil)|((with_reducible apply u_s);(iterate 3 exact rfl)))|((with_reducible apply gx_id);first|(with_reducible apply v_nil)|((with_reducible apply v_q);(iterate 3 exact rfl)))|((with_reducible apply os_id);first|((with_reducible apply os_x);exact rfl)|((with_reducible apply os_storeAgg);(iterate 5 exact rfl)))|((with_reducible apply ox_id);first|((with_reducible apply ox_alloc);exact rfl;intro _)|((with_reducible apply ox_boxAgg);exact rfl;intro _))|((with_reducible apply ai_id);first|((with_reducible apply ai_q);(iterate 5 exact rfl))|((with_reducible apply ai_x);(iterate 5 exact rfl))|((with_reducible apply ai_n0);(iterate 3 exact rfl)))|((with_reducible apply al_keep);focus (repeat (first|exact HpSub.refl _|(apply HpSub.cons;(repeat first|exact P0|apply P1))|apply HpSub.skipX|exact HpSub.nil)))|((with_reducible apply rd_id);first|(apply Rd.own;(repeat first|exact P0|apply P1);exact rfl;done)|(apply Rd.old;(first|(with_reducible assumption)|exact c0|exact c1|exact c2|exact c3|exact c4|exact c5|exact c6|exact c7|exact c8|exact d0|exact d1|exact d2|exact d3|exact d4|exact d5);first|exact List.not_mem_nil|exact m0|exact m1|exact m2|exact m3|exact m4|exact m5|exact m6|exact m7|exact m8|exact m9))|((with_reducible apply t_id);first|(with_reducible apply t_cutK (ι:=(Nat×Nat)) (rid:=1) [0] (fun i=>[(8,.pointer (some ⟨i.1,0,none⟩)),(9,.pointer (some ⟨i.2,0,none⟩))]) (fun i=>[(i.1,[.int .i64 (lo:Nat),.int .i64 (ta:Nat)],some (27,2,1)),(i.2,[.int .i64 (lf:Nat),.int .i64 (fa:Nat)],some (27,2,1))]));(repeat (first|exact KeepF.nil|(apply KeepF.cons;exact rfl)|apply KeepF.skip))|(apply t_mix (id:=1) [0,1,2,3,4,5,6,7,8,9,10] 5 #[false,false,false,false,false,false,false,false,false,false,false,false,false,false,false,false];kernel_rfl;kernel_rfl;exact rfl)|(with_reducible apply t_seq)|(apply t_region;kernel_rfl))|with_reducible apply q_thenN|exact P0|(with_reducible apply P1)|exact Rdn.zero|apply Rdn.succ|((with_reducible apply Norm.nil);exact rfl)|((with_reducible apply Norm.cons);exact rfl)|((with_reducible apply cut_in2)<;>(repeat' (first|exact FrSub.nil|(apply FrSub.cons;exact rfl)|exact HpSub.refl _|(apply HpSub.consE;(repeat first|exact P0|apply P1);exact rfl)|apply HpSub.skipX|exact HpSub.nil)))|((with_reducible apply al_id);first|(apply al_done;decide +kernel)|(apply al_one 11;decide +kernel)|(apply al_one 12;decide +kernel)|(apply al_one 13;decide +kernel)|(apply al_one 14;decide +kernel)|(apply al_one 15;decide +kernel)|(apply al_two 11 12;decide +kernel))|exact Nat.le_of_ble_eq_true rfl)
 rintro ⟨b8,b9⟩
 try simp only [List.cons_append,List.nil_append]
 repeat' (first|((with_reducible apply oq_id);first|(focus ((with_reducible apply (oq_addE (k:=((tm+ta:Nat):Int))));exact rfl;exact rfl;omega))|(focus ((with_reducible apply (oq_addE (k:=((fl+fa:Nat):Int))));exact rfl;exact rfl;omega))|(apply oq_fn;exact rfl;first|exact trivial|(and_intros<;>omega)|omega|skip)|((with_reducible apply oq_load);exact rfl;exact rfl))|((with_reducible apply gx_id);first|(with_reducible apply v_nil)|((with_reducible apply v_q);(iterate 3 exact rfl)))|((with_reducible apply os_id);first|((with_reducible apply os_store);(iterate 4 exact rfl)))|((with_reducible apply ai_id);first|((with_reducible apply ai_q);(iterate 5 exact rfl))|((with_reducible apply ai_s0);(iterate 4 exact rfl)))|((with_reducible apply rd_id);first|(apply Rd.own;(repeat first|exact P0|apply P1);exact rfl;done))|((with_reducible apply t_id);first|(apply t_mix (id:=2) [0,2,3,4,5,6,7,8,9,10,11,12,16,17] 8 #[false,false,false,false,false,false,false,false,false,false,false,false,false,false,false,false,false,false,true,false,false,true];kernel_rfl;kernel_rfl;exact rfl))|exact P0|(with_reducible apply P1)|((with_reducible apply Norm.nil);exact rfl)|((with_reducible apply Norm.cons);exact rfl)|(with_reducible apply end_normal)|exact rvs_nil|((with_reducible apply al_id);first|(apply al_done;decide +kernel)|(apply al_one 1;decide +kernel)|(apply al_one 13;decide +kernel)|(apply al_one 14;decide +kernel)|(apply al_one 15;decide +kernel)|(apply al_one 18;decide +kernel)|(apply al_one 19;decide +kernel)|(apply al_one 20;decide +kernel)|(apply al_one 21;decide +kernel)|(apply al_two 1 13;decide +kernel)|(apply al_two 1 14;decide +kernel)|(apply al_two 1 15;decide +kernel)|(apply al_two 1 18;decide +kernel)|(apply al_two 13 18;decide +kernel)|(apply al_two 14 18;decide +kernel)|(apply al_two 15 18;decide +kernel)|(apply al_three 1 13 18;decide +kernel)|(apply al_three 1 14 18;decide +kernel)|(apply al_three 1 15 18;decide +kernel))|exact Nat.le_of_ble_eq_true rfl)
 all_goals (refine ⟨rfl,?_⟩;(repeat' (first|exact HpSub.refl _|(apply HpSub.consE;(repeat first|exact P0|apply P1);exact rfl)|apply HpSub.skipX)))
def atM (ln h me i:Nat):Nat:=if i<h then ln else if h<i then 0 else me
def addP (a b:Nat×Nat):Nat×Nat:=(a.1+b.1,a.2+b.2)
def atF (bil:Nat×Bool→Nat→Nat×Nat) (ln:Nat→Nat) (g:List (Nat×Bool)) (h me:Nat):Nat→(Nat×Nat)×(Nat×Nat)×(Nat×Nat)
 | 0=>((0,0),(0,0),(0,0))
 | k+1=>match g[k]? with
   | none=>atF bil ln g h me k
   | some x=>(addP (atF bil ln g h me k).1 (bil x (atM (ln x.1) h me k)),addP (atF bil ln g h me k).2.1 (bil (x.1,!x.2) (atM (ln x.1) h me k)),addP (atF bil ln g h me k).2.2 (bil x (ln x.1-atM (ln x.1) h me k)))
noncomputable def bilL (v q1 q2 q3:Int) (g0 g1:Nat) (C:List Wn) (L:List Lg) (x:Nat×Bool) (me:Nat):Nat×Nat:=match L[x.1]? with
 | none=>(0,0)
 | some z=>bilV (legRz v q1 q2 q3 z x.2 C) me g0 g1
noncomputable def lnL (L:List Lg) (t:Nat):Nat:=match L[t]? with
 | none=>0
 | some z=>(lenV z.x z.y).toNat
theorem atF_bound {bil:Nat×Bool→Nat→Nat×Nat} {ln:Nat→Nat} {g:List (Nat×Bool)} {h me:Nat} (hb:∀ x m,m≤1000000→(bil x m).1≤10000000∧(bil x m).2≤166666666667) (hl:∀ t,ln t≤1000000) (hme:me≤1000000):∀ k,((atF bil ln g h me k).1.1≤k*10000000∧(atF bil ln g h me k).1.2≤k*166666666667)∧((atF bil ln g h me k).2.1.1≤k*10000000∧(atF bil ln g h me k).2.1.2≤k*166666666667)∧((atF bil ln g h me k).2.2.1≤k*10000000∧(atF bil ln g h me k).2.2.2≤k*166666666667)
 | 0=>by simp [atF]
 | k+1=>by
   obtain ⟨⟨h1,h2⟩,⟨h3,h4⟩,h5,h6⟩:=atF_bound (bil:=bil) (ln:=ln) (g:=g) (h:=h) (me:=me) hb hl hme k
   simp only [atF]
   split
   · omega
   · rename_i x hx
     have hm:atM (ln x.1) h me k≤1000000:=by have:=hl x.1;unfold atM;split<;>(try split)<;>omega
     have hn:ln x.1-atM (ln x.1) h me k≤1000000:=by have:=hl x.1;omega
     have b1:=hb x _ hm
     have b2:=hb (x.1,!x.2) _ hm
     have b3:=hb x _ hn
     simp only [addP]
     omega
theorem add_at (bT bD bM:Nat) (AS:Option Addr) (cS:Nat) (AG:Option Addr) (cG:Nat) (AP AT:Option Addr) (m cM n cp:Nat) (L:List Lg) (v q1 q2 q3 q4:Int) (g0 g1:Nat) (E:List En) (C:List Wn) (p:Trp) (rs:List Int) (w:World) (ht:TrpR w bT bD bM AS cS AG cG AP AT m cM n cp v q1 q2 q3 q4 g0 g1 E p) (hTI:TI L m rs p) (hE:E.map keyOf=deskE v q1 q2 q3 C L n) (hr:RdS w 5 AT n (L.map lgCells)) (hn:n≤40) (hm:m≤12) (h20:rs.length≤20) (hL:∀ z∈L,LegOk m z) (hp:PaceOk v q1 q2 q3 q4 g0 g1) (hcw:∀ x∈C,windB x.l=true) (hC:C.length≤4) {H H':Hp} {D:List Nat} {w1:World} (hw1:Has w ⟨[],D⟩ H w1) {b tm fl cap:Nat} (q:Pick H b [.int .i64 (tm:Nat),.int .i64 (fl:Nat)] (some (117,2,cap)) H') (t:Nat) (bk:Bool) (z:Lg) (hz:L[t]?=some z) (me:Nat) (hme:me≤1000000) (hb:tm≤300000000∧fl≤10000000000000) :
   Calls Tryz.prog 125 #[.pointer (some ⟨b,0,none⟩),.pointer (some ⟨bT,0,none⟩),fk t bk,.int .i64 (me:Nat)] w1 fun e w'=>e=.returned (.tuple #[])∧ExtM [b] w1 w'∧Blk w' b [.int .i64 ((tm+(bilL v q1 q2 q3 g0 g1 C L (t,bk) me).1:Nat):Int),.int .i64 ((fl+(bilL v q1 q2 q3 g0 g1 C L (t,bk) me).2:Nat):Int)] (some (117,2,cap)):=by
 have hl:L.length=n:=by simpa using hr.len
 have hzL:=hL z (List.mem_of_getElem? hz)
 obtain ⟨_,_,_,kx,ky,kz,kh⟩:=id hzL
 obtain ⟨_,_,_,_,_,kg⟩:=id hp
 obtain ⟨hR,hRl⟩:=legRz_ok (z:=z) (bk:=bk) hcw hp kh ⟨kx,ky,kz⟩
 have hx:=hw1.ext.ext
 have hge:w.heap.size≤b:=by
   rcases (hw1.blk _ q.mem).1 with h|h
   · exact h
   · exact (List.not_mem_nil h).elim
 have hbt:=cell_lt ht.t0
 have hbd:=bilV_bound (R:=legRz v q1 q2 q3 z bk C) (me:=me) (g0:=g0) (g1:=g1) hR hme (by omega)
 have h:=add125_calls b bT bD t me tm fl cap bk (legRz v q1 q2 q3 z bk C) g0 g1 w1 (hw1.blk _ q.mem).2 (hx.cell ht.t0) (fun h=>by obtain rfl:=List.mem_singleton.1 h;simp only at hbt;omega) (fun w2 h2=>by
   have hx2:Ext w w2:=ext_over hx h2 (fun b' hb'=>by obtain rfl:=List.mem_singleton.1 hb';exact hge)
   exact part59_calls bD bM AP AT m cM n cp v q1 q2 q3 q4 g0 g1 E C L t n z me bk w2 (ht.hd.ext hx2) hE (by have:=(List.getElem?_eq_some_iff.1 hz).1;omega) hz hR (by omega) (by omega) (by omega)) (by omega)
 unfold bilL
 rw [hz]
 exact h
theorem atF_at {bil:Nat×Bool→Nat→Nat×Nat} {ln:Nat→Nat} {g:List (Nat×Bool)} {h me k:Nat} {x:Nat×Bool} (hx:g[k]?=some x):atF bil ln g h me (k+1)=(addP (atF bil ln g h me k).1 (bil x (atM (ln x.1) h me k)),addP (atF bil ln g h me k).2.1 (bil (x.1,!x.2) (atM (ln x.1) h me k)),addP (atF bil ln g h me k).2.2 (bil x (ln x.1-atM (ln x.1) h me k))):=by
 simp only [atF,hx]
theorem bilL_bound {v q1 q2 q3 q4:Int} {g0 g1 m:Nat} {C:List Wn} {L:List Lg} (hL:∀ z∈L,LegOk m z) (hp:PaceOk v q1 q2 q3 q4 g0 g1) (hcw:∀ x∈C,windB x.l=true) (x:Nat×Bool) (me:Nat) (hme:me≤1000000):(bilL v q1 q2 q3 g0 g1 C L x me).1≤10000000∧(bilL v q1 q2 q3 g0 g1 C L x me).2≤166666666667:=by
 unfold bilL
 split
 · exact ⟨Nat.zero_le _,Nat.zero_le _⟩
 · rename_i z hz
   obtain ⟨_,_,_,kx,ky,kz,kh⟩:=hL z (List.mem_of_getElem? hz)
   obtain ⟨_,_,_,_,_,kg⟩:=id hp
   exact bilV_bound (legRz_ok (z:=z) (bk:=x.2) hcw hp kh ⟨kx,ky,kz⟩).1 hme (by omega)
theorem lnL_le {L:List Lg} {m:Nat} (hL:∀ z∈L,LegOk m z) (t:Nat):lnL L t≤1000000:=by
 unfold lnL
 split
 · exact Nat.zero_le _
 · rename_i z hz
   obtain ⟨_,_,_,kx,ky,kz,kh⟩:=hL z (List.mem_of_getElem? hz)
   have:=lenV_bound kx ky
   omega
theorem at98_calls (bT bD bM:Nat) (AS:Option Addr) (cS:Nat) (AG:Option Addr) (cG:Nat) (AP AT:Option Addr) (m cM n cp:Nat) (L:List Lg) (v q1 q2 q3 q4:Int) (g0 g1:Nat) (E:List En) (C:List Wn) (p:Trp) (rs:List Int) (w:World) (ht:TrpR w bT bD bM AS cS AG cG AP AT m cM n cp v q1 q2 q3 q4 g0 g1 E p) (hTI:TI L m rs p) (hE:E.map keyOf=deskE v q1 q2 q3 C L n) (hr:RdS w 5 AT n (L.map lgCells)) (hn:n≤40) (hm:m≤12) (h20:rs.length≤20) (hL:∀ z∈L,LegOk m z) (hp:PaceOk v q1 q2 q3 q4 g0 g1) (hcw:∀ x∈C,windB x.l=true) (hC:C.length≤4) (h me:Nat) (hh:h≤1000000) (hme:∀ x,p.1[h]?=some x→me≤lnL L x.1) (hme2:me≤1000000):Calls Tryz.prog 98 #[.pointer (some ⟨bT,0,none⟩),.agg #[.int .i64 (h:Nat),.int .i64 (me:Nat)]] w fun e w'=>e=.returned (.tuple #[.agg ⟨[.int .i64 (((atF (bilL v q1 q2 q3 g0 g1 C L) (lnL L) p.1 h me p.1.length).1.1:Nat):Int),.int .i64 (((atF (bilL v q1 q2 q3 g0 g1 C L) (lnL L) p.1 h me p.1.length).1.2:Nat):Int)]⟩,.agg ⟨[.int .i64 (((atF (bilL v q1 q2 q3 g0 g1 C L) (lnL L) p.1 h me p.1.length).2.1.1:Nat):Int),.int .i64 (((atF (bilL v q1 q2 q3 g0 g1 C L) (lnL L) p.1 h me p.1.length).2.1.2:Nat):Int)]⟩,.agg ⟨[.int .i64 (((atF (bilL v q1 q2 q3 g0 g1 C L) (lnL L) p.1 h me p.1.length).2.2.1:Nat):Int),.int .i64 (((atF (bilL v q1 q2 q3 g0 g1 C L) (lnL L) p.1 h me p.1.length).2.2.2:Nat):Int)]⟩])∧Ext w w':=by
 obtain ⟨hg1,hg2,hg3,hg4⟩:=id hTI
 have ht':=ht
 obtain ⟨c0,c1,c2,hs,hg,hd⟩:=ht
 have c3:=hd.c1
 have hl:L.length=n:=by simpa using hr.len
 have hbd:=atF_bound (bil:=(bilL v q1 q2 q3 g0 g1 C L)) (ln:=(lnL L)) (g:=p.1) (h:=h) (me:=me) (bilL_bound hL hp hcw) (lnL_le hL) hme2
 refine enterQ (c:=cx w 70) Tryz.func98 rfl rfl rfl rfl ?_
 repeat' (first|((with_reducible apply oq_id);first|(apply oq_fn;exact rfl;first|exact trivial|(and_intros<;>omega)|omega|skip)|((with_reducible apply oq_load);exact rfl;exact rfl))|((with_reducible apply tl_id);first|(with_reducible apply tl_nil)|((with_reducible apply u_q);(iterate 4 exact rfl))|((with_reducible apply u_s);(iterate 3 exact rfl)))|((with_reducible apply os_id);first|((with_reducible apply os_x);exact rfl))|((with_reducible apply ox_id);first|((with_reducible apply ox_alloc);exact rfl;intro _)|((with_reducible apply ox_boxAgg);exact rfl;intro _))|((with_reducible apply rd_id);first|(apply Rd.old;(first|(with_reducible assumption)|exact c0|exact c1|exact c2|exact c3|exact c4|exact c5|exact c6|exact c7|exact c8|exact d0|exact d1|exact d2|exact d3|exact d4|exact d5);first|exact List.not_mem_nil|exact m0|exact m1|exact m2|exact m3|exact m4|exact m5|exact m6|exact m7|exact m8|exact m9))|((with_reducible apply t_id);first|(with_reducible apply t_seq)|(apply t_region;kernel_rfl)|(with_reducible apply t_block))|with_reducible apply q_thenN)
 rename_i b3 b4 b5 b6
 apply t_loopP (ι:=Nat) [0,3,4,5,6,14,15] (fun k=>[(16,.int .i64 ((k:Nat):Int))]) (fun k=>[(b4,[.int .i64 (((atF (bilL v q1 q2 q3 g0 g1 C L) (lnL L) p.1 h me k).1.1:Nat):Int),.int .i64 (((atF (bilL v q1 q2 q3 g0 g1 C L) (lnL L) p.1 h me k).1.2:Nat):Int)],some (117,2,1)),(b5,[.int .i64 (((atF (bilL v q1 q2 q3 g0 g1 C L) (lnL L) p.1 h me k).2.1.1:Nat):Int),.int .i64 (((atF (bilL v q1 q2 q3 g0 g1 C L) (lnL L) p.1 h me k).2.1.2:Nat):Int)],some (117,2,1)),(b6,[.int .i64 (((atF (bilL v q1 q2 q3 g0 g1 C L) (lnL L) p.1 h me k).2.2.1:Nat):Int),.int .i64 (((atF (bilL v q1 q2 q3 g0 g1 C L) (lnL L) p.1 h me k).2.2.2:Nat):Int)],some (117,2,1)),(b3,[.int .i64 (h:Nat),.int .i64 (me:Nat)],some (34,2,1))]) (fun k=>k≤p.1.length) (fun k=>p.1.length-k) (0)
 (repeat (first|exact KeepF.nil|(apply KeepF.cons;exact rfl)|apply KeepF.skip))
 (repeat first|exact FrSub.nil|(apply FrSub.cons;exact rfl))
 (try simp only [List.cons_append,List.nil_append])
 (repeat' (first|exact HpSub.refl _|(apply HpSub.consE;(repeat first|exact P0|apply P1);first|exact rfl|skip)))
 · exact Nat.zero_le _
 rintro k hk
 try simp only [List.cons_append,List.nil_append]
 by_cases hlt:k<p.1.length
 rotate_left
 · obtain rfl:k=p.1.length:=by omega
   repeat' (first|((with_reducible apply oq_id);first|((with_reducible apply oq_lssF);exact rfl;exact rfl;omega)|((with_reducible apply oq_loadAgg);exact rfl;exact rfl))|((with_reducible apply tl_id);first|(with_reducible apply tl_nil)|((with_reducible apply u_q);(iterate 4 exact rfl))|((with_reducible apply u_s0);exact rfl;exact rfl))|((with_reducible apply os_id);first|((with_reducible apply os_storeAgg);(iterate 5 exact rfl)))|((with_reducible apply rd_id);first|(apply Rd.own;(repeat first|exact P0|apply P1);exact rfl;done))|((with_reducible apply t_id);first|(with_reducible apply t_seq)|(apply t_region;kernel_rfl)|((with_reducible apply t_condF);exact rfl)|(with_reducible apply t_ret)|(with_reducible apply t_exit))|with_reducible apply q_thenN|with_reducible apply q_thenE|((with_reducible apply q_blockE);exact rfl)|exact P0|(with_reducible apply P1)|exact Rdn.zero|apply Rdn.succ|((with_reducible apply Norm.nil);exact rfl)|((with_reducible apply Norm.cons);exact rfl)|(with_reducible apply end_ret)|exact rvs_nil|(with_reducible apply rvs_cons)|((with_reducible apply rv_cellAgg);exact rfl;exact rfl)|exact Nat.le_of_ble_eq_true rfl)
   all_goals rfl
 obtain ⟨bG,oG,t,bk,rfl,hgk,e0,e1⟩:=fl_read hg hlt
 obtain ⟨z,hz⟩:∃ z,L[t]?=some z:=by
   obtain ⟨r',hr'⟩:∃ r',rs[k]?=some r':=⟨_,List.getElem?_eq_getElem (by omega)⟩
   obtain ⟨z,t',bk',_,_,f1,_,f3,_⟩:=hg4 k r' hr'
   rw [hgk] at f1
   obtain ⟨rfl,rfl⟩:=Prod.mk.inj (Option.some.inj f1)
   exact ⟨z,f3⟩
 have htn:t<n:=by have:=(List.getElem?_eq_some_iff.1 hz).1;omega
 obtain ⟨bA,oA,z',rfl,_,hz',d0,d1,d2,d3,d4⟩:=lg_read hr htn
 rw [hz] at hz'
 obtain rfl:=Option.some.inj hz'
 obtain ⟨_,_,_,kx,ky,kz,kh⟩:=hL z (List.mem_of_getElem? hz)
 have HL:=fun w1=>length_calls z.a z.b z.x z.y z.h kx ky w1
 have lb:=lenV_bound kx ky
 obtain ⟨ln,hln⟩:=Int.eq_ofNat_of_zero_le lb.1
 rw [hln] at HL
 have hlnL:lnL L t=ln:=by unfold lnL;rw [hz];show (lenV z.x z.y).toNat=ln;rw [hln];rfl
 have hat:=atF_at (bil:=(bilL v q1 q2 q3 g0 g1 C L)) (ln:=(lnL L)) (h:=h) (me:=me) hgk
 simp only [hlnL] at hat
 obtain ⟨⟨k1,k2⟩,⟨k3,k4⟩,k5,k6⟩:=hbd k
 have hk20:k≤20:=by omega
 have HA:=fun (bk':Bool) (mm:Nat) (hmm:mm≤1000000) (tm fl:Nat) (hb:tm≤300000000∧fl≤10000000000000) D w1 H (hw1:Has w ⟨[],D⟩ H w1) (b:Nat) {H':Hp} (q:Pick H b [.int .i64 (tm:Nat),.int .i64 (fl:Nat)] (some (117,2,1)) H')=>add_at bT bD bM AS cS (some ⟨bG,oG,none⟩) cG AP (some ⟨bA,oA,none⟩) m cM n cp L v q1 q2 q3 q4 g0 g1 E C p rs w ht' hTI hE hr hn hm h20 hL hp hcw hC hw1 q t bk' z hz mm hmm hb
 unfold fk at HA
 generalize (atF (bilL v q1 q2 q3 g0 g1 C L) (lnL L) p.1 h me k)=at0 at *
 obtain ⟨⟨a1,a2⟩,⟨a3,a4⟩,a5,a6⟩:=at0
 simp only [addP] at hat k1 k2 k3 k4 k5 k6
 have HM:atM ln h me k≤ln:=by
   unfold atM
   split
   · exact Nat.le_refl _
   · split
     · exact Nat.zero_le _
     · obtain rfl:k=h:=by omega
       have:=hme _ hgk
       rw [hlnL] at this
       exact this
 rcases Nat.lt_trichotomy k h with hc|hc|hc
 · have hM:atM ln h me k=ln:=if_pos hc
   rw [hM] at hat HM
   have HA4:=HA bk ln (by omega) a1 a2 (by omega)
   have HA5:=HA (!bk) ln (by omega) a3 a4 (by omega)
   have HA6:=HA bk (ln-ln) (by omega) a5 a6 (by omega)
   clear HA
   repeat' (first|((with_reducible apply oq_id);first|(focus ((with_reducible apply (oq_subE (m:=(ln:Int)) (n:=((ln:Nat):Int)) (k:=((ln-ln:Nat):Int))));exact rfl;exact rfl;omega))|(focus ((with_reducible apply oq_indexAddrN (i:=k));(iterate 4 exact rfl);omega))|(focus ((with_reducible apply oq_indexAddrN (i:=t));(iterate 4 exact rfl);omega))|((with_reducible apply oq_lssT);exact rfl;exact rfl;omega)|(apply oq_fn;exact rfl;first|exact trivial|(and_intros<;>omega)|omega|skip)|((with_reducible apply oq_load);exact rfl;exact rfl)|((with_reducible apply oq_loadAgg);exact rfl;exact rfl)|((with_reducible apply oq_call (hc:=Tryz.call86));exact rfl;exact rfl;exact fun D w1 hw1=>HL w1)|((with_reducible apply oq_build);(iterate 3 exact rfl)))|((with_reducible apply tl_id);first|(with_reducible apply tl_nil)|((with_reducible apply u_s);(iterate 3 exact rfl);(with_reducible apply os_callW (b:=b4) (hc:=Tryz.call125));exact rfl;exact rfl;(repeat first|exact P0|apply P1);exact fun D w1 hw1=>HA4 D w1 _ hw1 _ (by (repeat first|exact P0|apply P1)))|((with_reducible apply u_s);(iterate 3 exact rfl);(with_reducible apply os_callW (b:=b5) (hc:=Tryz.call125));exact rfl;exact rfl;(repeat first|exact P0|apply P1);exact fun D w1 hw1=>HA5 D w1 _ hw1 _ (by (repeat first|exact P0|apply P1)))|((with_reducible apply u_s);(iterate 3 exact rfl);(with_reducible apply os_callW (b:=b6) (hc:=Tryz.call125));exact rfl;exact rfl;(repeat first|exact P0|apply P1);exact fun D w1 hw1=>HA6 D w1 _ hw1 _ (by (repeat first|exact P0|apply P1)))|((with_reducible apply u_q);(iterate 4 exact rfl))|((with_reducible apply u_s0);exact rfl;exact rfl)|((with_reducible apply u_s);(iterate 3 exact rfl)))|((with_reducible apply gx_id);first|(with_reducible apply v_nil)|((with_reducible apply v_q);(iterate 3 exact rfl)))|((with_reducible apply os_id);first|((with_reducible apply os_x);exact rfl)|((with_reducible apply os_storeAgg);(iterate 5 exact rfl)))|((with_reducible apply ox_id);first|((with_reducible apply ox_alloc);exact rfl;intro _))|((with_reducible apply rd_id);first|(apply Rd.own;(repeat first|exact P0|apply P1);exact rfl;done)|(apply Rd.old;(first|(with_reducible assumption)|exact c0|exact c1|exact c2|exact c3|exact c4|exact c5|exact c6|exact c7|exact c8|exact d0|exact d1|exact d2|exact d3|exact d4|exact d5);first|exact List.not_mem_nil|exact m0|exact m1|exact m2|exact m3|exact m4|exact m5|exact m6|exact m7|exact m8|exact m9))|((with_reducible apply t_id);first|(with_reducible apply t_seq)|(apply t_region;kernel_rfl)|(apply t_drawn;kernel_rfl;decide +kernel;try simp only [List.append_eq,List.cons_append,List.nil_append])|((with_reducible apply t_condT);exact rfl)|(with_reducible apply t_skip)|(with_reducible apply t_block))|with_reducible apply q_thenN|with_reducible apply q_blockN|exact P0|exact Rdn.zero|apply Rdn.succ|((with_reducible apply Norm.nil);exact rfl)|((with_reducible apply Norm.cons);exact rfl)|exact Nat.le_of_ble_eq_true rfl)
   all_goals (refine ⟨k+1,by omega,by omega,?_,?_⟩<;>(try rw [hat])<;>(repeat' (first|exact FrSub.nil|(apply FrSub.cons;exact rfl)|exact HpSub.refl _|(apply HpSub.consE;(repeat first|exact P0|apply P1);first|exact rfl|skip)|apply HpSub.skipX)))
 · have hM:atM ln h me k=me:=(by unfold atM;rw [if_neg (by omega),if_neg (by omega)])
   rw [hM] at hat HM
   have HA4:=HA bk me (by omega) a1 a2 (by omega)
   have HA5:=HA (!bk) me (by omega) a3 a4 (by omega)
   have HA6:=HA bk (ln-me) (by omega) a5 a6 (by omega)
   clear HA
   repeat' (first|((with_reducible apply oq_id);first|(focus ((with_reducible apply (oq_subE (m:=(ln:Int)) (n:=((me:Nat):Int)) (k:=((ln-me:Nat):Int))));exact rfl;exact rfl;omega))|(focus ((with_reducible apply oq_indexAddrN (i:=k));(iterate 4 exact rfl);omega))|(focus ((with_reducible apply oq_indexAddrN (i:=t));(iterate 4 exact rfl);omega))|((with_reducible apply oq_lssT);exact rfl;exact rfl;omega)|((with_reducible apply oq_lssF);exact rfl;exact rfl;omega)|((with_reducible apply oq_gtrF);exact rfl;exact rfl;omega)|(apply oq_fn;exact rfl;first|exact trivial|(and_intros<;>omega)|omega|skip)|((with_reducible apply oq_load);exact rfl;exact rfl)|((with_reducible apply oq_loadAgg);exact rfl;exact rfl)|((with_reducible apply oq_call (hc:=Tryz.call86));exact rfl;exact rfl;exact fun D w1 hw1=>HL w1)|((with_reducible apply oq_build);(iterate 3 exact rfl)))|((with_reducible apply tl_id);first|(with_reducible apply tl_nil)|((with_reducible apply u_s);(iterate 3 exact rfl);(with_reducible apply os_callW (b:=b4) (hc:=Tryz.call125));exact rfl;exact rfl;(repeat first|exact P0|apply P1);exact fun D w1 hw1=>HA4 D w1 _ hw1 _ (by (repeat first|exact P0|apply P1)))|((with_reducible apply u_s);(iterate 3 exact rfl);(with_reducible apply os_callW (b:=b5) (hc:=Tryz.call125));exact rfl;exact rfl;(repeat first|exact P0|apply P1);exact fun D w1 hw1=>HA5 D w1 _ hw1 _ (by (repeat first|exact P0|apply P1)))|((with_reducible apply u_s);(iterate 3 exact rfl);(with_reducible apply os_callW (b:=b6) (hc:=Tryz.call125));exact rfl;exact rfl;(repeat first|exact P0|apply P1);exact fun D w1 hw1=>HA6 D w1 _ hw1 _ (by (repeat first|exact P0|apply P1)))|((with_reducible apply u_q);(iterate 4 exact rfl))|((with_reducible apply u_s0);exact rfl;exact rfl)|((with_reducible apply u_s);(iterate 3 exact rfl)))|((with_reducible apply gx_id);first|(with_reducible apply v_nil)|((with_reducible apply v_q);(iterate 3 exact rfl)))|((with_reducible apply os_id);first|((with_reducible apply os_x);exact rfl)|((with_reducible apply os_storeAgg);(iterate 5 exact rfl)))|((with_reducible apply ox_id);first|((with_reducible apply ox_alloc);exact rfl;intro _))|((with_reducible apply rd_id);first|(apply Rd.own;(repeat first|exact P0|apply P1);exact rfl;done)|(apply Rd.old;(first|(with_reducible assumption)|exact c0|exact c1|exact c2|exact c3|exact c4|exact c5|exact c6|exact c7|exact c8|exact d0|exact d1|exact d2|exact d3|exact d4|exact d5);first|exact List.not_mem_nil|exact m0|exact m1|exact m2|exact m3|exact m4|exact m5|exact m6|exact m7|exact m8|exact m9))|((with_reducible apply t_id);first|(with_reducible apply t_seq)|(apply t_region;kernel_rfl)|(apply t_drawn;kernel_rfl;decide +kernel;try simp only [List.append_eq,List.cons_append,List.nil_append])|((with_reducible apply t_condT);exact rfl)|((with_reducible apply t_condF);exact rfl)|(with_reducible apply t_skip)|(with_reducible apply t_block))|with_reducible apply q_thenN|with_reducible apply q_blockN|exact P0|exact Rdn.zero|apply Rdn.succ|((with_reducible apply Norm.nil);exact rfl)|((with_reducible apply Norm.cons);exact rfl)|exact Nat.le_of_ble_eq_true rfl)
   all_goals (refine ⟨k+1,by omega,by omega,?_,?_⟩<;>(try rw [hat])<;>(repeat' (first|exact FrSub.nil|(apply FrSub.cons;exact rfl)|exact HpSub.refl _|(apply HpSub.consE;(repeat first|exact P0|apply P1);first|exact rfl|skip)|apply HpSub.skipX)))
 · have hM:atM ln h me k=0:=(by unfold atM;rw [if_neg (by omega),if_pos hc])
   rw [hM] at hat HM
   have HA4:=HA bk 0 (by omega) a1 a2 (by omega)
   have HA5:=HA (!bk) 0 (by omega) a3 a4 (by omega)
   have HA6:=HA bk (ln-0) (by omega) a5 a6 (by omega)
   clear HA
   repeat' (first|((with_reducible apply oq_id);first|(focus ((with_reducible apply (oq_subE (m:=(ln:Int)) (n:=((0:Nat):Int)) (k:=((ln-0:Nat):Int))));exact rfl;exact rfl;omega))|(focus ((with_reducible apply oq_indexAddrN (i:=k));(iterate 4 exact rfl);omega))|(focus ((with_reducible apply oq_indexAddrN (i:=t));(iterate 4 exact rfl);omega))|((with_reducible apply oq_lssT);exact rfl;exact rfl;omega)|((with_reducible apply oq_lssF);exact rfl;exact rfl;omega)|((with_reducible apply oq_gtrT);exact rfl;exact rfl;omega)|(apply oq_fn;exact rfl;first|exact trivial|(and_intros<;>omega)|omega|skip)|((with_reducible apply oq_load);exact rfl;exact rfl)|((with_reducible apply oq_loadAgg);exact rfl;exact rfl)|((with_reducible apply oq_call (hc:=Tryz.call86));exact rfl;exact rfl;exact fun D w1 hw1=>HL w1)|((with_reducible apply oq_build);(iterate 3 exact rfl)))|((with_reducible apply tl_id);first|(with_reducible apply tl_nil)|((with_reducible apply u_s);(iterate 3 exact rfl);(with_reducible apply os_callW (b:=b4) (hc:=Tryz.call125));exact rfl;exact rfl;(repeat first|exact P0|apply P1);exact fun D w1 hw1=>HA4 D w1 _ hw1 _ (by (repeat first|exact P0|apply P1)))|((with_reducible apply u_s);(iterate 3 exact rfl);(with_reducible apply os_callW (b:=b5) (hc:=Tryz.call125));exact rfl;exact rfl;(repeat first|exact P0|apply P1);exact fun D w1 hw1=>HA5 D w1 _ hw1 _ (by (repeat first|exact P0|apply P1)))|((with_reducible apply u_s);(iterate 3 exact rfl);(with_reducible apply os_callW (b:=b6) (hc:=Tryz.call125));exact rfl;exact rfl;(repeat first|exact P0|apply P1);exact fun D w1 hw1=>HA6 D w1 _ hw1 _ (by (repeat first|exact P0|apply P1)))|((with_reducible apply u_q);(iterate 4 exact rfl))|((with_reducible apply u_s0);exact rfl;exact rfl)|((with_reducible apply u_s);(iterate 3 exact rfl)))|((with_reducible apply gx_id);first|(with_reducible apply v_nil)|((with_reducible apply v_q);(iterate 3 exact rfl)))|((with_reducible apply os_id);first|((with_reducible apply os_x);exact rfl)|((with_reducible apply os_storeAgg);(iterate 5 exact rfl)))|((with_reducible apply ox_id);first|((with_reducible apply ox_alloc);exact rfl;intro _))|((with_reducible apply rd_id);first|(apply Rd.own;(repeat first|exact P0|apply P1);exact rfl;done)|(apply Rd.old;(first|(with_reducible assumption)|exact c0|exact c1|exact c2|exact c3|exact c4|exact c5|exact c6|exact c7|exact c8|exact d0|exact d1|exact d2|exact d3|exact d4|exact d5);first|exact List.not_mem_nil|exact m0|exact m1|exact m2|exact m3|exact m4|exact m5|exact m6|exact m7|exact m8|exact m9))|((with_reducible apply t_id);first|(with_reducible apply t_seq)|(apply t_region;kernel_rfl)|(apply t_drawn;kernel_rfl;decide +kernel;try simp only [List.append_eq,List.cons_append,List.nil_append])|((with_reducible apply t_condT);exact rfl)|((with_reducible apply t_condF);exact rfl)|(with_reducible apply t_skip)|(with_reducible apply t_block))|with_reducible apply q_thenN|with_reducible apply q_blockN|exact P0|exact Rdn.zero|apply Rdn.succ|((with_reducible apply Norm.nil);exact rfl)|((with_reducible apply Norm.cons);exact rfl)|exact Nat.le_of_ble_eq_true rfl)
   all_goals (refine ⟨k+1,by omega,by omega,?_,?_⟩<;>(try rw [hat])<;>(repeat' (first|exact FrSub.nil|(apply FrSub.cons;exact rfl)|exact HpSub.refl _|(apply HpSub.consE;(repeat first|exact P0|apply P1);first|exact rfl|skip)|apply HpSub.skipX)))
end Go.Proofs.YtcjkndjjbjoehaaGreat
namespace Go.Proofs.YtcjkndjjbjoehaaGreat
theorem tLo_mono {m m':Nat} {r:Int×Int} (h:m≤m'):tLo m r≤tLo m' r:=Nat.div_le_div_right (by omega)
theorem tHi_mono {m m':Nat} {r:Int×Int} (h:m≤m'):tHi m r≤tHi m' r:=Nat.div_le_div_right (by omega)
theorem hull_fold {m m':Nat} (h:m≤m'):∀ (l:List (Int×Int)) (a b:Nat×Nat),a.1≤b.1→a.2≤b.2→(l.foldl (fun a r=>(min a.1 (tLo m r),max a.2 (tHi m r))) a).1≤(l.foldl (fun a r=>(min a.1 (tLo m' r),max a.2 (tHi m' r))) b).1∧(l.foldl (fun a r=>(min a.1 (tLo m r),max a.2 (tHi m r))) a).2≤(l.foldl (fun a r=>(min a.1 (tLo m' r),max a.2 (tHi m' r))) b).2
 | [],a,b,h1,h2=>⟨h1,h2⟩
 | r::l,a,b,h1,h2=>by
   have t1:=tLo_mono (r:=r) h
   have t2:=tHi_mono (r:=r) h
   exact hull_fold h l _ _ (by simp only;omega) (by simp only;omega)
theorem hullT_mono {m m':Nat} (h:m≤m'):∀ R,(hullT m R).1≤(hullT m' R).1∧(hullT m R).2≤(hullT m' R).2
 | []=>⟨Nat.le_refl _,Nat.le_refl _⟩
 | r::l=>hull_fold h l _ _ (tLo_mono h) (tHi_mono h)
theorem qc_mono {a b:Nat} (h:a≤b):qc a≤qc b:=by
 unfold qc
 split<;>split<;>omega
theorem prN_mono {a a' b b' c d k:Nat} (h1:a≤a') (h2:b≤b'):prN a b c d k≤prN a' b' c d k:=by
 unfold prN
 refine Nat.mul_le_mul_right _ ?_
 split<;>assumption
theorem aH_mono {a a' b b' c d:Nat} (h1:a≤a') (h2:b≤b'):∀ k,aH a b c d k≤aH a' b' c d k
 | 0=>qc_mono (Nat.mul_le_mul_right _ h1)
 | k+1=>by
   have i1:=aH_mono (c:=c) (d:=d) h1 h2 k
   have i2:=qc_mono (prN_mono (c:=c) (d:=d) (k:=k) h1 h2)
   simp only [aH]
   omega
theorem bilV_mono {R:List (Int×Int)} {m m' g0 g1:Nat} (h:m≤m'):(bilV R m g0 g1).1≤(bilV R m' g0 g1).1∧(bilV R m g0 g1).2≤(bilV R m' g0 g1).2:=by
 unfold bilV
 split
 · exact ⟨Nat.le_refl _,Nat.le_refl _⟩
 · have h1:=hullT_mono h R
   exact ⟨h1.2,aH_mono h1.1 h1.2 8⟩
theorem bilL_mono {v q1 q2 q3:Int} {g0 g1 m m':Nat} {C:List Wn} {L:List Lg} {x:Nat×Bool} (h:m≤m'):(bilL v q1 q2 q3 g0 g1 C L x m).1≤(bilL v q1 q2 q3 g0 g1 C L x m').1∧(bilL v q1 q2 q3 g0 g1 C L x m).2≤(bilL v q1 q2 q3 g0 g1 C L x m').2:=by
 unfold bilL
 split
 · exact ⟨Nat.le_refl _,Nat.le_refl _⟩
 · exact bilV_mono h
def lexL (a b:Nat×Nat):Prop:=a.1<b.1∨(a.1=b.1∧a.2≤b.2)
theorem atM_mono {ln h me h' me' i:Nat} (hl:lexL (h,me) (h',me')) (hm:i=h→me≤ln):atM ln h me i≤atM ln h' me' i:=by
 unfold lexL at hl
 simp only at hl
 unfold atM
 (repeat' split)<;>first|omega|(have:=hm (by omega);omega)
def leP (a b:Nat×Nat):Prop:=a.1≤b.1∧a.2≤b.2
theorem atF_mono {bil:Nat×Bool→Nat→Nat×Nat} {ln:Nat→Nat} {g:List (Nat×Bool)} {h me h' me':Nat} (hb:∀ x m m',m≤m'→leP (bil x m) (bil x m')) (hl:lexL (h,me) (h',me')) (hm:∀ x,g[h]?=some x→me≤ln x.1):∀ k,leP (atF bil ln g h me k).1 (atF bil ln g h' me' k).1∧leP (atF bil ln g h me k).2.1 (atF bil ln g h' me' k).2.1∧leP (atF bil ln g h' me' k).2.2 (atF bil ln g h me k).2.2
 | 0=>⟨⟨Nat.le_refl _,Nat.le_refl _⟩,⟨Nat.le_refl _,Nat.le_refl _⟩,⟨Nat.le_refl _,Nat.le_refl _⟩⟩
 | k+1=>by
   obtain ⟨⟨i1,i2⟩,⟨i3,i4⟩,i5,i6⟩:=atF_mono (k:=k) hb hl hm
   simp only [atF]
   split
   · exact ⟨⟨i1,i2⟩,⟨i3,i4⟩,i5,i6⟩
   · rename_i x hx
     have ha:atM (ln x.1) h me k≤atM (ln x.1) h' me' k:=atM_mono hl (fun e=>by subst e;exact hm x hx)
     obtain ⟨b1,b2⟩:=hb x _ _ ha
     obtain ⟨b3,b4⟩:=hb (x.1,!x.2) _ _ ha
     obtain ⟨b5,b6⟩:=hb x (ln x.1-atM (ln x.1) h' me' k) (ln x.1-atM (ln x.1) h me k) (by omega)
     simp only [leP,addP]
     omega
def lastM (f:Nat→Bool):Nat→Nat
 | 0=>0
 | n+1=>if f (n+1) then n+1 else lastM f n
theorem lastM_le (f:Nat→Bool):∀ n,lastM f n≤n
 | 0=>Nat.le_refl _
 | n+1=>by
   have:=lastM_le f n
   simp only [lastM]
   split<;>omega
theorem lastM_eq {f:Nat→Bool} {r:Nat} (hr:f r=true):∀ n,r≤n→(∀ j,r<j→j≤n→f j=false)→lastM f n=r
 | 0,h,_=>by simp only [lastM];omega
 | n+1,h,hj=>by
   simp only [lastM]
   rcases Nat.lt_or_ge r (n+1) with hlt|hge
   · rw [hj (n+1) hlt (Nat.le_refl _),if_neg (by decide)]
     exact lastM_eq hr n (by omega) (fun j h1 h2=>hj j h1 (by omega))
   · obtain rfl:r=n+1:=by omega
     rw [hr,if_pos rfl]
theorem lastM_spec {f:Nat→Bool} (h0:f 0=true):∀ n,f (lastM f n)=true∧∀ j,lastM f n<j→j≤n→f j=false
 | 0=>⟨h0,fun j h1 h2=>by simp only [lastM] at h1;omega⟩
 | n+1=>by
   obtain ⟨i1,i2⟩:=lastM_spec h0 n
   simp only [lastM]
   cases hf:f (n+1) with
   | true=>simp only [if_true];exact ⟨hf,fun j h1 h2=>by omega⟩
   | false=>
     simp only [Bool.false_eq_true,if_false]
     refine ⟨i1,fun j h1 h2=>?_⟩
     rcases Nat.lt_or_ge j (n+1) with h3|h3
     · exact i2 j h1 (by omega)
     · obtain rfl:j=n+1:=by omega
       exact hf
def lstP (hp:Nat→Nat→Bool) (ln:Nat→Nat):Nat→Option (Nat×Nat)
 | 0=>none
 | k+1=>if hp k 0 then some (k,lastM (hp k) (ln k)) else lstP hp ln k
def AntiP (hp:Nat→Nat→Bool) (ln:Nat→Nat) (t:Nat):Prop:=∀ i m i' m',i'<t→m≤ln i→m'≤ln i'→lexL (i,m) (i',m')→hp i' m'=true→hp i m=true
end Go.Proofs.YtcjkndjjbjoehaaGreat
namespace Go.Proofs.YtcjkndjjbjoehaaGreat
open Go.RowKit
attribute [local irreducible] OQ OS OX Rd T TL GX GL AL AI RV wpG SAny Calls
def opB (FC:Nat×Bool→Int) (g:List (Nat×Bool)):Bool:=g.all fun x=>decide (0≤FC (x.1,false)) && decide (0≤FC (x.1,true))
def lasR (g:List (Nat×Bool)) (op:Bool) (hp:Nat→Nat→Bool) (ln:Nat→Nat):(Nat×Nat)×Int:=if g=[] then ((0,0),2) else if op=false then ((0,0),63) else match lstP hp ln g.length with
 | none=>((0,0),64)
 | some x=>(x,0)
theorem noret1_calls (a b c:Nat×Nat) (bF bP:Nat) (fu q4:Int) (w:World) (c0:w.cell? ⟨bF,0,none⟩=some (.int .i64 fu)) (c1:w.cell? ⟨bP,0+4,none⟩=some (.int .i64 q4)) (ha:a.2≤10000000000000) (hb:b.2≤10000000000000) (hq:0≤q4∧q4≤1000000000) (hf:fu≤9223372036854775807):Calls Tryz.prog 59 #[.agg #[.int .i64 (a.1:Nat),.int .i64 (a.2:Nat)],.agg #[.int .i64 (b.1:Nat),.int .i64 (b.2:Nat)],.agg #[.int .i64 (c.1:Nat),.int .i64 (c.2:Nat)],.pointer (some ⟨bF,0,none⟩),.pointer (some ⟨bP,0,none⟩)] w fun e w'=>e=.returned (.bool (decide (0≤fu∧((a.2+b.2:Nat):Int)≤fu-q4)))∧Ext w w':=by
 obtain ⟨a1,a2⟩:=a
 obtain ⟨b1,b2⟩:=b
 obtain ⟨c1',c2'⟩:=c
 simp only at ha hb ⊢
 by_cases h:0≤fu
 rotate_left
 · rw [decide_eq_false (fun e=>h e.1)]
   refine enterQ (c:=cx w 23) Tryz.func59 rfl rfl rfl rfl ?_
   repeat' (first|((with_reducible apply oq_id);first|((with_reducible apply oq_geqF);exact rfl;exact rfl;omega)|(apply oq_fn;exact rfl;first|exact trivial|(and_intros<;>omega)|omega|skip)|((with_reducible apply oq_load);exact rfl;exact rfl))|((with_reducible apply tl_id);first|(with_reducible apply tl_nil)|((with_reducible apply u_q);(iterate 4 exact rfl))|((with_reducible apply u_s);(iterate 3 exact rfl))|((with_reducible apply u_skip);(iterate 3 exact rfl)))|((with_reducible apply os_id);first|((with_reducible apply os_x);exact rfl))|((with_reducible apply ox_id);first|((with_reducible apply ox_boxAgg);exact rfl;intro _))|((with_reducible apply rd_id);first|(apply Rd.old;(first|(with_reducible assumption)|exact c0|exact c1|exact c2|exact c3|exact c4|exact c5|exact c6|exact c7|exact c8|exact d0|exact d1|exact d2|exact d3|exact d4|exact d5);first|exact List.not_mem_nil|exact m0|exact m1|exact m2|exact m3|exact m4|exact m5|exact m6|exact m7|exact m8|exact m9))|((with_reducible apply t_id);first|(with_reducible apply t_seq)|(apply t_region;kernel_rfl)|(with_reducible apply t_ret))|with_reducible apply q_thenN|(with_reducible apply end_ret)|exact rvs_nil|(with_reducible apply rvs_cons)|((with_reducible apply rv_tmp);exact rfl))
   all_goals rfl
 by_cases h2:((a2+b2:Nat):Int)≤fu-q4
 · rw [decide_eq_true ⟨h,h2⟩]
   refine enterQ (c:=cx w 23) Tryz.func59 rfl rfl rfl rfl ?_
   repeat' (first|((with_reducible apply oq_id);first|((with_reducible apply oq_geqT);exact rfl;exact rfl;omega)|((with_reducible apply oq_leqT);exact rfl;exact rfl;omega)|(apply oq_fn;exact rfl;first|exact trivial|(and_intros<;>omega)|omega|skip)|((with_reducible apply oq_load);exact rfl;exact rfl))|((with_reducible apply tl_id);first|(with_reducible apply tl_nil)|((with_reducible apply u_q);(iterate 4 exact rfl))|((with_reducible apply u_s);(iterate 3 exact rfl)))|((with_reducible apply os_id);first|((with_reducible apply os_x);exact rfl))|((with_reducible apply ox_id);first|((with_reducible apply ox_boxAgg);exact rfl;intro _))|((with_reducible apply rd_id);first|(apply Rd.own;(repeat first|exact P0|apply P1);exact rfl;done)|(apply Rd.old;(first|(with_reducible assumption)|exact c0|exact c1|exact c2|exact c3|exact c4|exact c5|exact c6|exact c7|exact c8|exact d0|exact d1|exact d2|exact d3|exact d4|exact d5);first|exact List.not_mem_nil|exact m0|exact m1|exact m2|exact m3|exact m4|exact m5|exact m6|exact m7|exact m8|exact m9))|((with_reducible apply t_id);first|(with_reducible apply t_seq)|(apply t_region;kernel_rfl)|(with_reducible apply t_ret))|with_reducible apply q_thenN|(with_reducible apply end_ret)|exact rvs_nil|(with_reducible apply rvs_cons)|((with_reducible apply rv_tmp);exact rfl))
   all_goals rfl
 · rw [decide_eq_false (fun e=>h2 e.2)]
   refine enterQ (c:=cx w 23) Tryz.func59 rfl rfl rfl rfl ?_
   repeat' (first|((with_reducible apply oq_id);first|((with_reducible apply oq_geqT);exact rfl;exact rfl;omega)|((with_reducible apply oq_leqF);exact rfl;exact rfl;omega)|(apply oq_fn;exact rfl;first|exact trivial|(and_intros<;>omega)|omega|skip)|((with_reducible apply oq_load);exact rfl;exact rfl))|((with_reducible apply tl_id);first|(with_reducible apply tl_nil)|((with_reducible apply u_q);(iterate 4 exact rfl))|((with_reducible apply u_s);(iterate 3 exact rfl)))|((with_reducible apply os_id);first|((with_reducible apply os_x);exact rfl))|((with_reducible apply ox_id);first|((with_reducible apply ox_boxAgg);exact rfl;intro _))|((with_reducible apply rd_id);first|(apply Rd.own;(repeat first|exact P0|apply P1);exact rfl;done)|(apply Rd.old;(first|(with_reducible assumption)|exact c0|exact c1|exact c2|exact c3|exact c4|exact c5|exact c6|exact c7|exact c8|exact d0|exact d1|exact d2|exact d3|exact d4|exact d5);first|exact List.not_mem_nil|exact m0|exact m1|exact m2|exact m3|exact m4|exact m5|exact m6|exact m7|exact m8|exact m9))|((with_reducible apply t_id);first|(with_reducible apply t_seq)|(apply t_region;kernel_rfl)|(with_reducible apply t_ret))|with_reducible apply q_thenN|(with_reducible apply end_ret)|exact rvs_nil|(with_reducible apply rvs_cons)|((with_reducible apply rv_tmp);exact rfl))
   all_goals rfl
theorem last1_calls (i me b3 b2 b12 bT:Nat) (w:World) (kf:Nat) (caps:List Value) (hcf:∀ (a:Array Value) (w:World),(callFunc kf a).run Tryz.prog w=.ok (.enter kf a) w) (Pd:Nat×Nat→Nat×Nat→Nat×Nat→Bool) (a b c:Nat×Nat) (c0:w.cell? ⟨b3,0,none⟩=some (.func (.func kf) #[] ⟨caps⟩)) (c1:w.cell? ⟨b2,0,none⟩=some (.pointer (some ⟨bT,0,none⟩))) (c2:w.cell? ⟨b12,0,none⟩=some (.int .i64 (i:Nat)))
   (H98:∀ w1,Ext w w1→Calls Tryz.prog 98 #[.pointer (some ⟨bT,0,none⟩),.agg #[.int .i64 (i:Nat),.int .i64 (me:Nat)]] w1 fun e w'=>e=.returned (.tuple #[.agg #[.int .i64 (a.1:Nat),.int .i64 (a.2:Nat)],.agg #[.int .i64 (b.1:Nat),.int .i64 (b.2:Nat)],.agg #[.int .i64 (c.1:Nat),.int .i64 (c.2:Nat)]])∧Ext w1 w') (HH:∀ (w1:World),Ext w w1→Calls Tryz.prog kf ⟨[.agg #[.int .i64 (a.1:Nat),.int .i64 (a.2:Nat)],.agg #[.int .i64 (b.1:Nat),.int .i64 (b.2:Nat)],.agg #[.int .i64 (c.1:Nat),.int .i64 (c.2:Nat)]]++caps⟩ w1 fun e w'=>e=.returned (.bool (Pd a b c))∧Ext w1 w'):Calls Tryz.prog 97 #[.int .i64 (me:Nat),.pointer (some ⟨b3,0,none⟩),.pointer (some ⟨b2,0,none⟩),.pointer (some ⟨b12,0,none⟩)] w fun e w'=>e=.returned (.bool (!(Pd a b c)))∧Ext w w':=by
 generalize Pd a b c=q at *
 refine enterQ (c:=cx w 17) Tryz.func97 rfl rfl rfl rfl ?_
 repeat' (first|((with_reducible apply oq_id);first|(apply oq_fn;exact rfl;first|exact trivial|(and_intros<;>omega)|omega|skip)|((with_reducible apply oq_load);exact rfl;exact rfl)|((with_reducible apply oq_call (hc:=Tryz.call98));exact rfl;exact rfl;exact fun D w1 hw1=>H98 w1 hw1.ext.ext)|((with_reducible apply oq_call (k:=kf) (hc:=hcf));exact rfl;exact rfl;exact fun D w1 hw1=>HH w1 hw1.ext.ext)|((with_reducible apply oq_build);(iterate 3 exact rfl)))|((with_reducible apply tl_id);first|(with_reducible apply tl_nil)|((with_reducible apply u_q);(iterate 4 exact rfl)))|((with_reducible apply gx_id);first|(with_reducible apply v_nil)|((with_reducible apply v_q);(iterate 3 exact rfl)))|((with_reducible apply rd_id);first|(apply Rd.old;(first|(with_reducible assumption)|exact c0|exact c1|exact c2|exact c3|exact c4|exact c5|exact c6|exact c7|exact c8|exact d0|exact d1|exact d2|exact d3|exact d4|exact d5);first|exact List.not_mem_nil|exact m0|exact m1|exact m2|exact m3|exact m4|exact m5|exact m6|exact m7|exact m8|exact m9))|((with_reducible apply t_id);first|(with_reducible apply t_seq)|(apply t_region;kernel_rfl)|(apply t_drawn;kernel_rfl;decide +kernel;try simp only [List.append_eq,List.cons_append,List.nil_append])|(with_reducible apply t_ret))|with_reducible apply q_thenN|((with_reducible apply Norm.nil);exact rfl)|((with_reducible apply Norm.cons);exact rfl)|(with_reducible apply end_ret)|exact rvs_nil|(with_reducible apply rvs_cons)|((with_reducible apply rv_tmp);exact rfl))
 all_goals rfl
theorem TrpR.ext {w w':World} {bT bD bM:Nat} {AS:Option Addr} {cS:Nat} {AG:Option Addr} {cG:Nat} {AP AT:Option Addr} {m cM n cp:Nat} {v q1 q2 q3 q4 g0 g1:Int} {E:List En} {p:Trp} (h:TrpR w bT bD bM AS cS AG cG AP AT m cM n cp v q1 q2 q3 q4 g0 g1 E p) (e:Ext w w'):TrpR w' bT bD bM AS cS AG cG AP AT m cM n cp v q1 q2 q3 q4 g0 g1 E p:=⟨e.cell h.t0,e.cell h.t1,e.cell h.t2,h.rs.ext e,h.rg.ext e,h.hd.ext e⟩
def hpL (bil:Nat×Bool→Nat→Nat×Nat) (ln:Nat→Nat) (g:List (Nat×Bool)) (Pd:Nat×Nat→Nat×Nat→Nat×Nat→Bool) (i me:Nat):Bool:=Pd (atF bil ln g i me g.length).1 (atF bil ln g i me g.length).2.1 (atF bil ln g i me g.length).2.2
def lnG (ln:Nat→Nat) (g:List (Nat×Bool)) (i:Nat):Nat:=match g[i]? with
 | none=>0
 | some x=>ln x.1
theorem las_closed {FC:Nat×Bool→Int} {g:List (Nat×Bool)} {hp:Nat→Nat→Bool} {ln:Nat→Nat} {x:Nat×Bool} (hx:x∈g) (h:¬ (0≤FC (x.1,false)∧0≤FC (x.1,true))):lasR g (opB FC g) hp ln=((0,0),63):=by
 unfold lasR
 rw [if_neg (fun e=>by rw [e] at hx;cases hx),if_pos]
 unfold opB
 rw [List.all_eq_false]
 exact ⟨x,hx,by simp only [Bool.and_eq_true,decide_eq_true_eq];exact h⟩
theorem las_open {FC:Nat×Bool→Int} {g:List (Nat×Bool)} {hp:Nat→Nat→Bool} {ln:Nat→Nat} (hg:g≠[]) (h:∀ (j:Nat) (x:Nat×Bool),g[j]?=some x→0≤FC (x.1,false)∧0≤FC (x.1,true)):lasR g (opB FC g) hp ln=match lstP hp ln g.length with|none=>((0,0),64)|some x=>(x,0):=by
 have e:opB FC g=true:=by
   unfold opB
   rw [List.all_eq_true]
   intro x hx
   obtain ⟨j,hj,rfl⟩:=List.getElem_of_mem hx
   have:=h j _ (List.getElem?_eq_getElem hj)
   simp only [Bool.and_eq_true,decide_eq_true_eq]
   exact this
 unfold lasR
 rw [if_neg hg,e,if_neg (by decide)]
 try (cases lstP hp ln g.length<;>rfl)
theorem srch_last {f:Nat→Bool} {n:Nat} (ha:∀ j k,j≤k→k≤n→f k=true→f j=true):(∀ j,j<(if f 0 then lastM f n+1 else 0)→(!f j)=false)∧∀ j,(if f 0 then lastM f n+1 else 0)≤j→j<n+1→(!f j)=true:=by
 cases h0:f 0 with
 | false=>
   simp only [Bool.false_eq_true,if_false]
   refine ⟨fun j h=>absurd h (Nat.not_lt_zero _),fun j _ h=>?_⟩
   cases hj:f j with
   | false=>rfl
   | true=>rw [ha 0 j (Nat.zero_le _) (by omega) hj] at h0;cases h0
 | true=>
   simp only [if_true]
   obtain ⟨h1,h2⟩:=lastM_spec h0 n
   have h3:=lastM_le f n
   refine ⟨fun j h=>?_,fun j h h'=>?_⟩
   · rw [ha j (lastM f n) (by omega) h3 h1];rfl
   · rw [h2 j (by omega) (by omega)];rfl
theorem last58_calls (bT bD bM:Nat) (AS:Option Addr) (cS:Nat) (AG:Option Addr) (cG:Nat) (AP AT:Option Addr) (m cM n cp:Nat) (L:List Lg) (v q1 q2 q3 q4:Int) (g0 g1:Nat) (E:List En) (C:List Wn) (p:Trp) (rs:List Int) (w:World) (ht:TrpR w bT bD bM AS cS AG cG AP AT m cM n cp v q1 q2 q3 q4 g0 g1 E p) (hTI:TI L m rs p) (hE:E.map keyOf=deskE v q1 q2 q3 C L n) (hr:RdS w 5 AT n (L.map lgCells)) (hn:n≤40) (hm:m≤12) (h20:rs.length≤20) (hL:∀ z∈L,LegOk m z) (hp:PaceOk v q1 q2 q3 q4 g0 g1) (hcw:∀ x∈C,windB x.l=true) (hC:C.length≤4) (kf:Nat) (caps:List Value) (hcf:∀ (a:Array Value) (w:World),(callFunc kf a).run Tryz.prog w=.ok (.enter kf a) w) (Pd:Nat×Nat→Nat×Nat→Nat×Nat→Bool) (HH:∀ (a b c:Nat×Nat),(a.2≤10000000000000∧b.2≤10000000000000)→∀ (w1:World),Ext w w1→Calls Tryz.prog kf ⟨[.agg #[.int .i64 (a.1:Nat),.int .i64 (a.2:Nat)],.agg #[.int .i64 (b.1:Nat),.int .i64 (b.2:Nat)],.agg #[.int .i64 (c.1:Nat),.int .i64 (c.2:Nat)]]++caps⟩ w1 fun e w'=>e=.returned (.bool (Pd a b c))∧Ext w1 w') (hanti:AntiP (hpL (bilL v q1 q2 q3 g0 g1 C L) (lnL L) p.1 Pd) (lnG (lnL L) p.1) p.1.length):Calls Tryz.prog 58 #[.pointer (some ⟨bT,0,none⟩),.func (.func kf) #[] ⟨caps⟩] w fun e w'=>e=.returned (.tuple #[.agg #[.int .i64 ((lasR p.1 (opB (flC v q1 q2 q3 g0 g1 C L) p.1) (hpL (bilL v q1 q2 q3 g0 g1 C L) (lnL L) p.1 Pd) (lnG (lnL L) p.1)).1.1:Nat),.int .i64 ((lasR p.1 (opB (flC v q1 q2 q3 g0 g1 C L) p.1) (hpL (bilL v q1 q2 q3 g0 g1 C L) (lnL L) p.1 Pd) (lnG (lnL L) p.1)).1.2:Nat)],.int .i64 (lasR p.1 (opB (flC v q1 q2 q3 g0 g1 C L) p.1) (hpL (bilL v q1 q2 q3 g0 g1 C L) (lnL L) p.1 Pd) (lnG (lnL L) p.1)).2])∧Ext w w':=by
 obtain ⟨hg1,hg2,hg3,hg4⟩:=id hTI
 have ht':=ht
 obtain ⟨c0,c1,c2,hs,hg,hd⟩:=ht
 have c3:=hd.c1
 have hl:L.length=n:=by simpa using hr.len
 have hleg:∀ (i:Nat) (x:Nat×Bool),p.1[i]?=some x→∃ z,L[x.1]?=some z:=fun i x hx=>by
   have hi:=(List.getElem?_eq_some_iff.1 hx).1
   obtain ⟨r',hr'⟩:∃ r',rs[i]?=some r':=⟨_,List.getElem?_eq_getElem (by omega)⟩
   obtain ⟨z,t,bk,_,_,e1,_,e3,_⟩:=hg4 i r' hr'
   rw [hx] at e1
   obtain rfl:=Option.some.inj e1
   exact ⟨z,e3⟩
 have hbnd:∀ i me,me≤1000000→(atF (bilL v q1 q2 q3 g0 g1 C L) (lnL L) p.1 i me p.1.length).1.2≤10000000000000∧(atF (bilL v q1 q2 q3 g0 g1 C L) (lnL L) p.1 i me p.1.length).2.1.2≤10000000000000:=fun i me hme=>by
   have:=atF_bound (bil:=(bilL v q1 q2 q3 g0 g1 C L)) (ln:=(lnL L)) (g:=p.1) (h:=i) (me:=me) (bilL_bound hL hp hcw) (lnL_le hL) hme p.1.length
   have hk:p.1.length≤20:=by omega
   omega
 by_cases hge:p.1=[]
 · have hg0:p.1.length=0:=by rw [hge];rfl
   rw [show lasR p.1 (opB (flC v q1 q2 q3 g0 g1 C L) p.1) (hpL (bilL v q1 q2 q3 g0 g1 C L) (lnL L) p.1 Pd) (lnG (lnL L) p.1)=((0,0),2) from if_pos hge]
   refine enterQ (c:=cx w 95) Tryz.func58 rfl rfl rfl rfl ?_
   repeat' (first|((with_reducible apply oq_id);first|((with_reducible apply oq_eqlT);exact rfl;exact rfl;omega)|(apply oq_fn;exact rfl;first|exact trivial|(and_intros<;>omega)|omega|skip)|((with_reducible apply oq_load);exact rfl;exact rfl)|((with_reducible apply oq_build);(iterate 3 exact rfl)))|((with_reducible apply tl_id);first|(with_reducible apply tl_nil)|((with_reducible apply u_q);(iterate 4 exact rfl))|((with_reducible apply u_s0);exact rfl;exact rfl)|((with_reducible apply u_s);(iterate 3 exact rfl)))|((with_reducible apply os_id);first|((with_reducible apply os_x);exact rfl)|((with_reducible apply os_storeAgg);(iterate 5 exact rfl)))|((with_reducible apply ox_id);first|((with_reducible apply ox_alloc);exact rfl;intro _)|((with_reducible apply ox_box);exact rfl;exact rfl;intro _))|((with_reducible apply rd_id);first|(apply Rd.own;(repeat first|exact P0|apply P1);exact rfl;done)|(apply Rd.old;(first|(with_reducible assumption)|exact c0|exact c1|exact c2|exact c3|exact c4|exact c5|exact c6|exact c7|exact c8|exact d0|exact d1|exact d2|exact d3|exact d4|exact d5);first|exact List.not_mem_nil|exact m0|exact m1|exact m2|exact m3|exact m4|exact m5|exact m6|exact m7|exact m8|exact m9))|((with_reducible apply t_id);first|(with_reducible apply t_seq)|(apply t_region;kernel_rfl)|((with_reducible apply t_condT);exact rfl)|(with_reducible apply t_ret))|with_reducible apply q_thenN|with_reducible apply q_thenR|exact P0|exact Rdn.zero|apply Rdn.succ|((with_reducible apply Norm.nil);exact rfl)|((with_reducible apply Norm.cons);exact rfl)|(with_reducible apply end_ret)|exact rvs_nil|(with_reducible apply rvs_cons)|((with_reducible apply rv_tmp);exact rfl)|((with_reducible apply rv_cellAgg);exact rfl;exact rfl)|exact Nat.le_of_ble_eq_true rfl)
   all_goals rfl
 have hgp:0<p.1.length:=by
   rcases Nat.eq_zero_or_pos p.1.length with h|h
   · exact absurd (List.length_eq_zero_iff.1 h) hge
   · exact h
 refine enterQ (c:=cx w 95) Tryz.func58 rfl rfl rfl rfl ?_
 repeat' (first|((with_reducible apply oq_id);first|((with_reducible apply oq_eqlF);exact rfl;exact rfl;omega)|(apply oq_fn;exact rfl;first|exact trivial|(and_intros<;>omega)|omega|skip)|((with_reducible apply oq_load);exact rfl;exact rfl))|((with_reducible apply tl_id);first|(with_reducible apply tl_nil)|((with_reducible apply u_q);(iterate 4 exact rfl))|((with_reducible apply u_s);(iterate 3 exact rfl)))|((with_reducible apply os_id);first|((with_reducible apply os_x);exact rfl))|((with_reducible apply ox_id);first|((with_reducible apply ox_alloc);exact rfl;intro _)|((with_reducible apply ox_box);exact rfl;exact rfl;intro _))|((with_reducible apply rd_id);first|(apply Rd.own;(repeat first|exact P0|apply P1);exact rfl;done)|(apply Rd.old;(first|(with_reducible assumption)|exact c0|exact c1|exact c2|exact c3|exact c4|exact c5|exact c6|exact c7|exact c8|exact d0|exact d1|exact d2|exact d3|exact d4|exact d5);first|exact List.not_mem_nil|exact m0|exact m1|exact m2|exact m3|exact m4|exact m5|exact m6|exact m7|exact m8|exact m9))|((with_reducible apply t_id);first|(with_reducible apply t_seq)|(apply t_region;kernel_rfl)|((with_reducible apply t_condF);exact rfl)|(with_reducible apply t_skip)|(with_reducible apply t_block))|with_reducible apply q_thenN)
 rename_i b2 b3 b4
 apply t_loopP (ι:=Nat) [2,3,4,25,26] (fun k=>[(27,.int .i64 ((k:Nat):Int))]) (fun _=>[(b2,[.pointer (some ⟨bT,0,none⟩)],some (112,1,1)),(b3,[.func (.func kf) #[] ⟨caps⟩],some (118,1,1)),(b4,[.int .i64 0,.int .i64 0],some (34,2,1))]) (fun k=>k≤p.1.length∧∀ (j:Nat) (x:Nat×Bool),j<k→p.1[j]?=some x→0≤(flC v q1 q2 q3 g0 g1 C L) (x.1,false)∧0≤(flC v q1 q2 q3 g0 g1 C L) (x.1,true)) (fun k=>p.1.length-k) (0)
 (repeat (first|exact KeepF.nil|(apply KeepF.cons;exact rfl)|apply KeepF.skip))
 (repeat first|exact FrSub.nil|(apply FrSub.cons;exact rfl))
 (try simp only [List.cons_append,List.nil_append])
 (repeat' (first|exact HpSub.refl _|(apply HpSub.consE;(repeat first|exact P0|apply P1);first|exact rfl|skip)))
 · exact ⟨Nat.zero_le _,fun j x h=>absurd h (Nat.not_lt_zero _)⟩
 rintro k ⟨hk,hop1⟩
 try simp only [List.cons_append,List.nil_append]
 by_cases hlt:k<p.1.length
 · obtain ⟨bG,oG,t,bk,rfl,hgk,e0,e1⟩:=fl_read hg hlt
   obtain ⟨z,hz⟩:=hleg k (t,bk) hgk
   have hfl:∀ b',(flC v q1 q2 q3 g0 g1 C L) (t,b')=legC v q1 q2 q3 g0 g1 C z b':=fun b'=>by unfold flC;rw [hz]
   have HFu:=fun (b':Bool) w1 (hx:Ext w w1)=>fuel_calls bD bM AP AT m cM n cp v q1 q2 q3 q4 g0 g1 E C L t z b' w1 (hd.ext hx) hE (hr.ext hx) (by omega) (by have:=(List.getElem?_eq_some_iff.1 hz).1;omega) hz (hL z (List.mem_of_getElem? hz)) hp hcw hC
   unfold fuelV fk at HFu
   simp only [← hfl] at HFu
   repeat' (first|((with_reducible apply oq_id);first|(focus ((with_reducible apply oq_indexAddrN (i:=k));(iterate 4 exact rfl);omega))|((with_reducible apply oq_lssT);exact rfl;exact rfl;omega)|(apply oq_fn;exact rfl;first|exact trivial|(and_intros<;>omega)|omega|skip)|((with_reducible apply oq_loadAgg);exact rfl;exact rfl))|((with_reducible apply tl_id);first|(with_reducible apply tl_nil)|((with_reducible apply u_q);(iterate 4 exact rfl))|((with_reducible apply u_s0);exact rfl;exact rfl)|((with_reducible apply u_s);(iterate 3 exact rfl)))|((with_reducible apply os_id);first|((with_reducible apply os_x);exact rfl)|((with_reducible apply os_storeAgg);(iterate 5 exact rfl)))|((with_reducible apply ox_id);first|((with_reducible apply ox_alloc);exact rfl;intro _)|((with_reducible apply ox_buildSlice1);(iterate 6 exact rfl);intro _))|((with_reducible apply rd_id);first|(apply Rd.old;(first|(with_reducible assumption)|exact c0|exact c1|exact c2|exact c3|exact c4|exact c5|exact c6|exact c7|exact c8|exact d0|exact d1|exact d2|exact d3|exact d4|exact d5);first|exact List.not_mem_nil|exact m0|exact m1|exact m2|exact m3|exact m4|exact m5|exact m6|exact m7|exact m8|exact m9))|((with_reducible apply t_id);first|(with_reducible apply t_seq)|(apply t_region;kernel_rfl)|((with_reducible apply t_condT);exact rfl)|(with_reducible apply t_skip)|(with_reducible apply t_block))|with_reducible apply q_thenN|exact P0|exact Rdn.zero|apply Rdn.succ|((with_reducible apply Norm.nil);exact rfl)|((with_reducible apply Norm.cons);exact rfl)|exact Nat.le_of_ble_eq_true rfl)
   rename_i b7 b31
   apply t_loopP (ι:=Nat) [2,3,4,7,25,26,27,31,32] (fun j=>[(33,.int .i64 ((j:Nat):Int))]) (fun _=>[(b31,[.bool false,.bool true],some (4,1,2)),(b7,[.int .i64 (t:Nat),.bool bk],some (153,2,1)),(b2,[.pointer (some ⟨bT,0,none⟩)],some (112,1,1)),(b3,[.func (.func kf) #[] ⟨caps⟩],some (118,1,1)),(b4,[.int .i64 0,.int .i64 0],some (34,2,1))]) (fun j=>j≤2∧(1≤j→0≤(flC v q1 q2 q3 g0 g1 C L) (t,false))∧(2≤j→0≤(flC v q1 q2 q3 g0 g1 C L) (t,true))) (fun j=>2-j) (0)
   (repeat (first|exact KeepF.nil|(apply KeepF.cons;exact rfl)|apply KeepF.skip))
   (repeat first|exact FrSub.nil|(apply FrSub.cons;exact rfl))
   (try simp only [List.cons_append,List.nil_append])
   (repeat' (first|exact HpSub.refl _))
   · exact ⟨Nat.zero_le _,fun h=>(by omega),fun h=>(by omega)⟩
   rintro j ⟨hj,hj1,hj2⟩
   try simp only [List.cons_append,List.nil_append]
   rcases (show j=0∨j=1∨j=2 by omega) with rfl|rfl|rfl
   · by_cases hop:0≤(flC v q1 q2 q3 g0 g1 C L) (t,false)
     · have HFx:=HFu false
       rw [if_pos hop,decide_eq_true hop] at HFx
       repeat' (first|((with_reducible apply oq_id);first|((with_reducible apply oq_lssT);exact rfl;exact rfl;omega)|(focus ((with_reducible apply oq_indexAddrN (i:=0));(iterate 4 exact rfl);omega))|(apply oq_fn;exact rfl;first|exact trivial|(and_intros<;>omega)|omega|skip)|((with_reducible apply oq_load);exact rfl;exact rfl)|((with_reducible apply oq_call (hc:=Tryz.call81));exact rfl;exact rfl;exact fun D w1 hw1=>HFx w1 hw1.ext.ext)|((with_reducible apply oq_build);(iterate 3 exact rfl)))|((with_reducible apply tl_id);first|(with_reducible apply tl_nil)|((with_reducible apply u_q);(iterate 4 exact rfl)))|((with_reducible apply gx_id);first|(with_reducible apply v_nil)|((with_reducible apply v_q);(iterate 3 exact rfl)))|((with_reducible apply rd_id);first|(apply Rd.own;(repeat first|exact P0|apply P1);exact rfl;done)|(apply Rd.old;(first|(with_reducible assumption)|exact c0|exact c1|exact c2|exact c3|exact c4|exact c5|exact c6|exact c7|exact c8|exact d0|exact d1|exact d2|exact d3|exact d4|exact d5);first|exact List.not_mem_nil|exact m0|exact m1|exact m2|exact m3|exact m4|exact m5|exact m6|exact m7|exact m8|exact m9))|((with_reducible apply t_id);first|(with_reducible apply t_seq)|(apply t_region;kernel_rfl)|(apply t_drawn;kernel_rfl;decide +kernel;try simp only [List.append_eq,List.cons_append,List.nil_append])|((with_reducible apply t_condT);exact rfl)|((with_reducible apply t_condF);exact rfl)|(with_reducible apply t_skip)|(with_reducible apply t_block))|with_reducible apply q_thenN|with_reducible apply q_blockN|((with_reducible apply Norm.nil);exact rfl)|((with_reducible apply Norm.cons);exact rfl))
       all_goals (refine ⟨0+1,⟨by omega,fun _=>by first|exact hop|exact hj1 (by omega),fun h=>by first|omega|exact hop⟩,by omega,?_,?_⟩<;>(repeat' (first|exact FrSub.nil|(apply FrSub.cons;exact rfl)|exact HpSub.refl _)))
     · have HFx:=HFu false
       rw [if_neg hop,decide_eq_false hop] at HFx
       repeat' (first|((with_reducible apply oq_id);first|((with_reducible apply oq_lssT);exact rfl;exact rfl;omega)|(focus ((with_reducible apply oq_indexAddrN (i:=0));(iterate 4 exact rfl);omega))|(apply oq_fn;exact rfl;first|exact trivial|(and_intros<;>omega)|omega|skip)|((with_reducible apply oq_load);exact rfl;exact rfl)|((with_reducible apply oq_call (hc:=Tryz.call81));exact rfl;exact rfl;exact fun D w1 hw1=>HFx w1 hw1.ext.ext)|((with_reducible apply oq_build);(iterate 3 exact rfl)))|((with_reducible apply tl_id);first|(with_reducible apply tl_nil)|((with_reducible apply u_q);(iterate 4 exact rfl))|((with_reducible apply u_s0);exact rfl;exact rfl))|((with_reducible apply gx_id);first|(with_reducible apply v_nil)|((with_reducible apply v_q);(iterate 3 exact rfl)))|((with_reducible apply os_id);first|((with_reducible apply os_storeAgg);(iterate 5 exact rfl)))|((with_reducible apply rd_id);first|(apply Rd.own;(repeat first|exact P0|apply P1);exact rfl;done)|(apply Rd.old;(first|(with_reducible assumption)|exact c0|exact c1|exact c2|exact c3|exact c4|exact c5|exact c6|exact c7|exact c8|exact d0|exact d1|exact d2|exact d3|exact d4|exact d5);first|exact List.not_mem_nil|exact m0|exact m1|exact m2|exact m3|exact m4|exact m5|exact m6|exact m7|exact m8|exact m9))|((with_reducible apply t_id);first|(with_reducible apply t_seq)|(apply t_region;kernel_rfl)|(apply t_drawn;kernel_rfl;decide +kernel;try simp only [List.append_eq,List.cons_append,List.nil_append])|((with_reducible apply t_condT);exact rfl)|(with_reducible apply t_ret)|(with_reducible apply t_skip)|(with_reducible apply t_block))|with_reducible apply q_thenN|with_reducible apply q_thenR|with_reducible apply q_blockR|exact P0|(with_reducible apply P1)|exact Rdn.zero|apply Rdn.succ|((with_reducible apply Norm.nil);exact rfl)|((with_reducible apply Norm.cons);exact rfl)|(with_reducible apply end_ret)|exact rvs_nil|(with_reducible apply rvs_cons)|((with_reducible apply rv_tmp);exact rfl)|((with_reducible apply rv_cellAgg);exact rfl;exact rfl)|exact Nat.le_of_ble_eq_true rfl)
       all_goals (rw [las_closed (FC:=(flC v q1 q2 q3 g0 g1 C L)) (x:=(t,bk)) (List.mem_of_getElem? hgk) (fun e=>by first|exact absurd e.1 (by omega)|exact absurd e.2 (by omega))];rfl)
   · by_cases hop:0≤(flC v q1 q2 q3 g0 g1 C L) (t,true)
     · have HFx:=HFu true
       rw [if_pos hop,decide_eq_true hop] at HFx
       repeat' (first|((with_reducible apply oq_id);first|((with_reducible apply oq_lssT);exact rfl;exact rfl;omega)|(focus ((with_reducible apply oq_indexAddrN (i:=1));(iterate 4 exact rfl);omega))|(apply oq_fn;exact rfl;first|exact trivial|(and_intros<;>omega)|omega|skip)|((with_reducible apply oq_load);exact rfl;exact rfl)|((with_reducible apply oq_call (hc:=Tryz.call81));exact rfl;exact rfl;exact fun D w1 hw1=>HFx w1 hw1.ext.ext)|((with_reducible apply oq_build);(iterate 3 exact rfl)))|((with_reducible apply tl_id);first|(with_reducible apply tl_nil)|((with_reducible apply u_q);(iterate 4 exact rfl)))|((with_reducible apply gx_id);first|(with_reducible apply v_nil)|((with_reducible apply v_q);(iterate 3 exact rfl)))|((with_reducible apply rd_id);first|(apply Rd.own;(repeat first|exact P0|apply P1);exact rfl;done)|(apply Rd.old;(first|(with_reducible assumption)|exact c0|exact c1|exact c2|exact c3|exact c4|exact c5|exact c6|exact c7|exact c8|exact d0|exact d1|exact d2|exact d3|exact d4|exact d5);first|exact List.not_mem_nil|exact m0|exact m1|exact m2|exact m3|exact m4|exact m5|exact m6|exact m7|exact m8|exact m9))|((with_reducible apply t_id);first|(with_reducible apply t_seq)|(apply t_region;kernel_rfl)|(apply t_drawn;kernel_rfl;decide +kernel;try simp only [List.append_eq,List.cons_append,List.nil_append])|((with_reducible apply t_condT);exact rfl)|((with_reducible apply t_condF);exact rfl)|(with_reducible apply t_skip)|(with_reducible apply t_block))|with_reducible apply q_thenN|with_reducible apply q_blockN|((with_reducible apply Norm.nil);exact rfl)|((with_reducible apply Norm.cons);exact rfl))
       all_goals (refine ⟨1+1,⟨by omega,fun _=>by first|exact hop|exact hj1 (by omega),fun h=>by first|omega|exact hop⟩,by omega,?_,?_⟩<;>(repeat' (first|exact FrSub.nil|(apply FrSub.cons;exact rfl)|exact HpSub.refl _)))
     · have HFx:=HFu true
       rw [if_neg hop,decide_eq_false hop] at HFx
       repeat' (first|((with_reducible apply oq_id);first|((with_reducible apply oq_lssT);exact rfl;exact rfl;omega)|(focus ((with_reducible apply oq_indexAddrN (i:=1));(iterate 4 exact rfl);omega))|(apply oq_fn;exact rfl;first|exact trivial|(and_intros<;>omega)|omega|skip)|((with_reducible apply oq_load);exact rfl;exact rfl)|((with_reducible apply oq_call (hc:=Tryz.call81));exact rfl;exact rfl;exact fun D w1 hw1=>HFx w1 hw1.ext.ext)|((with_reducible apply oq_build);(iterate 3 exact rfl)))|((with_reducible apply tl_id);first|(with_reducible apply tl_nil)|((with_reducible apply u_q);(iterate 4 exact rfl))|((with_reducible apply u_s0);exact rfl;exact rfl))|((with_reducible apply gx_id);first|(with_reducible apply v_nil)|((with_reducible apply v_q);(iterate 3 exact rfl)))|((with_reducible apply os_id);first|((with_reducible apply os_storeAgg);(iterate 5 exact rfl)))|((with_reducible apply rd_id);first|(apply Rd.own;(repeat first|exact P0|apply P1);exact rfl;done)|(apply Rd.old;(first|(with_reducible assumption)|exact c0|exact c1|exact c2|exact c3|exact c4|exact c5|exact c6|exact c7|exact c8|exact d0|exact d1|exact d2|exact d3|exact d4|exact d5);first|exact List.not_mem_nil|exact m0|exact m1|exact m2|exact m3|exact m4|exact m5|exact m6|exact m7|exact m8|exact m9))|((with_reducible apply t_id);first|(with_reducible apply t_seq)|(apply t_region;kernel_rfl)|(apply t_drawn;kernel_rfl;decide +kernel;try simp only [List.append_eq,List.cons_append,List.nil_append])|((with_reducible apply t_condT);exact rfl)|(with_reducible apply t_ret)|(with_reducible apply t_skip)|(with_reducible apply t_block))|with_reducible apply q_thenN|with_reducible apply q_thenR|with_reducible apply q_blockR|exact P0|(with_reducible apply P1)|exact Rdn.zero|apply Rdn.succ|((with_reducible apply Norm.nil);exact rfl)|((with_reducible apply Norm.cons);exact rfl)|(with_reducible apply end_ret)|exact rvs_nil|(with_reducible apply rvs_cons)|((with_reducible apply rv_tmp);exact rfl)|((with_reducible apply rv_cellAgg);exact rfl;exact rfl)|exact Nat.le_of_ble_eq_true rfl)
       all_goals (rw [las_closed (FC:=(flC v q1 q2 q3 g0 g1 C L)) (x:=(t,bk)) (List.mem_of_getElem? hgk) (fun e=>by first|exact absurd e.1 (by omega)|exact absurd e.2 (by omega))];rfl)
   · have hnew:∀ (j:Nat) (x:Nat×Bool),j<k+1→p.1[j]?=some x→0≤(flC v q1 q2 q3 g0 g1 C L) (x.1,false)∧0≤(flC v q1 q2 q3 g0 g1 C L) (x.1,true):=fun j x h1 h2=>by
       rcases Nat.lt_or_ge j k with h3|h3
       · exact hop1 j x h3 h2
       · have e:j=k:=by omega
         rw [e,hgk] at h2
         obtain rfl:=Option.some.inj h2
         exact ⟨hj1 (by omega),hj2 (by omega)⟩
     repeat' (first|((with_reducible apply oq_id);first|((with_reducible apply oq_lssF);exact rfl;exact rfl;omega)|(apply oq_fn;exact rfl;first|exact trivial|(and_intros<;>omega)|omega|skip))|((with_reducible apply tl_id);first|(with_reducible apply tl_nil)|((with_reducible apply u_q);(iterate 4 exact rfl)))|((with_reducible apply t_id);first|(with_reducible apply t_seq)|(apply t_region;kernel_rfl)|((with_reducible apply t_condF);exact rfl)|(with_reducible apply t_exit))|with_reducible apply q_thenN|with_reducible apply q_blockN|with_reducible apply q_thenE|((with_reducible apply q_blockE);exact rfl))
     all_goals (refine ⟨k+1,⟨by omega,hnew⟩,by omega,?_,?_⟩<;>(repeat' (first|exact FrSub.nil|(apply FrSub.cons;exact rfl)|exact HpSub.refl _|(apply HpSub.consE;(repeat first|exact P0|apply P1);first|exact rfl|skip)|apply HpSub.skipX)))
 obtain rfl:k=p.1.length:=by omega
 rw [las_open hge (fun j x hx=>hop1 j x (List.getElem?_eq_some_iff.1 hx).1 hx)]
 repeat' (first|((with_reducible apply oq_id);first|((with_reducible apply oq_lssF);exact rfl;exact rfl;omega)|(apply oq_fn;exact rfl;first|exact trivial|(and_intros<;>omega)|omega|skip)|((with_reducible apply oq_load);exact rfl;exact rfl))|((with_reducible apply tl_id);first|(with_reducible apply tl_nil)|((with_reducible apply u_q);(iterate 4 exact rfl))|((with_reducible apply u_s0);exact rfl;exact rfl)|((with_reducible apply u_s);(iterate 3 exact rfl)))|((with_reducible apply os_id);first|((with_reducible apply os_x);exact rfl)|((with_reducible apply os_store);(iterate 4 exact rfl)))|((with_reducible apply ox_id);first|((with_reducible apply ox_alloc);exact rfl;intro _))|((with_reducible apply rd_id);first|(apply Rd.own;(repeat first|exact P0|apply P1);exact rfl;done)|(apply Rd.old;(first|(with_reducible assumption)|exact c0|exact c1|exact c2|exact c3|exact c4|exact c5|exact c6|exact c7|exact c8|exact d0|exact d1|exact d2|exact d3|exact d4|exact d5);first|exact List.not_mem_nil|exact m0|exact m1|exact m2|exact m3|exact m4|exact m5|exact m6|exact m7|exact m8|exact m9))|((with_reducible apply t_id);first|(with_reducible apply t_seq)|(apply t_region;kernel_rfl)|((with_reducible apply t_condF);exact rfl)|(with_reducible apply t_exit)|(with_reducible apply t_block))|with_reducible apply q_thenN|with_reducible apply q_thenE|((with_reducible apply q_blockE);exact rfl)|exact P0|((with_reducible apply Norm.nil);exact rfl)|((with_reducible apply Norm.cons);exact rfl)|exact Nat.le_of_ble_eq_true rfl)
 rename_i b12
 apply t_loopP (ι:=Nat×Nat) [2,3,4] (fun z=>[(12,.pointer (some ⟨z.2,0,none⟩))]) (fun z=>[(z.2,[.int .i64 ((z.1:Int)-1)],some (3,1,1)),(b2,[.pointer (some ⟨bT,0,none⟩)],some (112,1,1)),(b3,[.func (.func kf) #[] ⟨caps⟩],some (118,1,1)),(b4,[.int .i64 0,.int .i64 0],some (34,2,1))]) (fun z=>z.1≤p.1.length∧lstP (hpL (bilL v q1 q2 q3 g0 g1 C L) (lnL L) p.1 Pd) (lnG (lnL L) p.1) z.1=lstP (hpL (bilL v q1 q2 q3 g0 g1 C L) (lnL L) p.1 Pd) (lnG (lnL L) p.1) p.1.length) (fun z=>z.1) ((p.1.length,b12))
 (repeat (first|exact KeepF.nil|(apply KeepF.cons;exact rfl)|apply KeepF.skip))
 (repeat first|exact FrSub.nil|(apply FrSub.cons;exact rfl))
 (try simp only [List.cons_append,List.nil_append])
 (repeat' (first|exact HpSub.refl _))
 · exact ⟨Nat.le_refl _,rfl⟩
 rintro ⟨d,b12⟩ ⟨hd1,hd2⟩
 simp only at hd1 hd2
 try simp only [List.cons_append,List.nil_append]
 rcases d with _|d
 · rw [← hd2]
   simp only [lstP]
   repeat' (first|((with_reducible apply oq_id);first|((with_reducible apply oq_geqF);exact rfl;exact rfl;omega)|(apply oq_fn;exact rfl;first|exact trivial|(and_intros<;>omega)|omega|skip)|((with_reducible apply oq_load);exact rfl;exact rfl)|((with_reducible apply oq_build);(iterate 3 exact rfl)))|((with_reducible apply tl_id);first|(with_reducible apply tl_nil)|((with_reducible apply u_q);(iterate 4 exact rfl))|((with_reducible apply u_s0);exact rfl;exact rfl))|((with_reducible apply os_id);first|((with_reducible apply os_storeAgg);(iterate 5 exact rfl)))|((with_reducible apply rd_id);first|(apply Rd.own;(repeat first|exact P0|apply P1);exact rfl;done))|((with_reducible apply t_id);first|(with_reducible apply t_seq)|(apply t_region;kernel_rfl)|((with_reducible apply t_condF);exact rfl)|(with_reducible apply t_ret)|(with_reducible apply t_exit))|with_reducible apply q_thenN|with_reducible apply q_thenE|((with_reducible apply q_blockE);exact rfl)|exact P0|(with_reducible apply P1)|exact Rdn.zero|apply Rdn.succ|((with_reducible apply Norm.nil);exact rfl)|((with_reducible apply Norm.cons);exact rfl)|(with_reducible apply end_ret)|exact rvs_nil|(with_reducible apply rvs_cons)|((with_reducible apply rv_tmp);exact rfl)|((with_reducible apply rv_cellAgg);exact rfl;exact rfl)|exact Nat.le_of_ble_eq_true rfl)
   all_goals rfl
 rw [show (((d+1:Nat)):Int)-1=((d:Nat):Int) by omega]
 obtain ⟨bG,oG,t,bk,rfl,hgk,c4,c5⟩:=fl_read hg (show d<p.1.length by omega)
 obtain ⟨z,hz⟩:=hleg d (t,bk) hgk
 have htn:t<n:=by have:=(List.getElem?_eq_some_iff.1 hz).1;omega
 obtain ⟨bA,oA,z',rfl,_,hz',d0,d1,d2,d3,d4⟩:=lg_read hr htn
 rw [hz] at hz'
 obtain rfl:=Option.some.inj hz'
 obtain ⟨_,_,_,kx,ky,kz,kh⟩:=hL z (List.mem_of_getElem? hz)
 have HL:=fun w1=>length_calls z.a z.b z.x z.y z.h kx ky w1
 have lb:=lenV_bound kx ky
 obtain ⟨ln,hln⟩:=Int.eq_ofNat_of_zero_le lb.1
 rw [hln] at HL
 have hlnL:lnL L t=ln:=by unfold lnL;rw [hz];show (lenV z.x z.y).toNat=ln;rw [hln];rfl
 have hlnG:(lnG (lnL L) p.1) d=ln:=by unfold lnG;rw [hgk];exact hlnL
 have hst:lstP (hpL (bilL v q1 q2 q3 g0 g1 C L) (lnL L) p.1 Pd) (lnG (lnL L) p.1) (d+1)=if (hpL (bilL v q1 q2 q3 g0 g1 C L) (lnL L) p.1 Pd) d 0 then some (d,lastM ((hpL (bilL v q1 q2 q3 g0 g1 C L) (lnL L) p.1 Pd) d) ln) else lstP (hpL (bilL v q1 q2 q3 g0 g1 C L) (lnL L) p.1 Pd) (lnG (lnL L) p.1) d:=by rw [← hlnG];rfl
 have hsr:=srch_last (f:=(hpL (bilL v q1 q2 q3 g0 g1 C L) (lnL L) p.1 Pd) d) (n:=ln) (fun j k' hjk hkn hh=>hanti d j d k' (by omega) (by rw [hlnG];omega) (by rw [hlnG];omega) (.inr ⟨rfl,hjk⟩) hh)
 obtain ⟨r,hrr⟩:∃ r,(if (hpL (bilL v q1 q2 q3 g0 g1 C L) (lnL L) p.1 Pd) d 0 then lastM ((hpL (bilL v q1 q2 q3 g0 g1 C L) (lnL L) p.1 Pd) d) ln+1 else 0)=r:=⟨_,rfl⟩
 rw [hrr] at hsr
 have hrl:r≤ln+1:=by have:=lastM_le ((hpL (bilL v q1 q2 q3 g0 g1 C L) (lnL L) p.1 Pd) d) ln;rw [← hrr];split<;>omega
 have HS:=fun (b2 b3 b12:Nat) w1 (hx:Ext w w1) (k0:w1.cell? ⟨b3,0,none⟩=some (.func (.func kf) #[] ⟨caps⟩)) (k1:w1.cell? ⟨b2,0,none⟩=some (.pointer (some ⟨bT,0,none⟩))) (k2:w1.cell? ⟨b12,0,none⟩=some (.int .i64 (d:Nat)))=>search_calls 97 [.pointer (some ⟨b3,0,none⟩),.pointer (some ⟨b2,0,none⟩),.pointer (some ⟨b12,0,none⟩)] (ln+1) r (fun j=>!(hpL (bilL v q1 q2 q3 g0 g1 C L) (lnL L) p.1 Pd) d j) (by omega) hrl hsr.1 hsr.2 w1 Tryz.call97 (fun j hj w2 h2=>last1_calls d j b3 b2 b12 bT w2 kf caps hcf Pd _ _ _ (h2.cell k0) (h2.cell k1) (h2.cell k2) (fun w3 h3=>at98_calls bT bD bM AS cS _ cG AP _ m cM n cp L v q1 q2 q3 q4 g0 g1 E C p rs w3 (ht'.ext ((hx.trans h2).trans h3)) hTI hE (hr.ext ((hx.trans h2).trans h3)) hn hm h20 hL hp hcw hC d j (by omega) (fun x hx=>by rw [hgk] at hx;obtain rfl:=Option.some.inj hx;rw [hlnL];omega) (by omega)) (fun w3 h3=>HH _ _ _ (hbnd d j (by omega)) w3 ((hx.trans h2).trans h3)))
 rw [hst] at hd2
 rw [← hd2]
 cases hh0:(hpL (bilL v q1 q2 q3 g0 g1 C L) (lnL L) p.1 Pd) d 0 with
 | true=>
   rw [hh0,if_pos rfl] at hrr
   obtain ⟨lm,hlm⟩:∃ lm,lastM ((hpL (bilL v q1 q2 q3 g0 g1 C L) (lnL L) p.1 Pd) d) ln=lm:=⟨_,rfl⟩
   rw [hlm] at hrr
   simp only [if_true,hlm]
   repeat' (first|((with_reducible apply oq_id);first|(focus ((with_reducible apply (oq_addE (k:=((ln+1:Nat):Int))));exact rfl;exact rfl;omega))|(focus ((with_reducible apply (oq_subE (k:=((lm:Nat):Int))));exact rfl;exact rfl;omega))|(focus ((with_reducible apply oq_indexAddrN (i:=t));(iterate 4 exact rfl);omega))|(focus ((with_reducible apply oq_indexAddrN (i:=d));(iterate 4 exact rfl);omega))|((with_reducible apply oq_geqT);exact rfl;exact rfl;omega)|((with_reducible apply oq_gtrT);exact rfl;exact rfl;omega)|(apply oq_fn;exact rfl;first|exact trivial|(and_intros<;>omega)|omega|skip)|((with_reducible apply oq_load);exact rfl;exact rfl)|((with_reducible apply oq_loadAgg);exact rfl;exact rfl)|((with_reducible apply oq_call (hc:=Tryz.call86));exact rfl;exact rfl;exact fun D w1 hw1=>HL w1)|((with_reducible apply oq_call (hc:=Tryz.call90));exact rfl;exact rfl;exact fun D w1 hw1=>HS _ _ _ w1 hw1.ext.ext (hw1.cellAt (by (repeat first|exact P0|apply P1)) rfl) (hw1.cellAt (by (repeat first|exact P0|apply P1)) rfl) (hw1.cellAt (by (repeat first|exact P0|apply P1)) rfl))|((with_reducible apply oq_build);(iterate 3 exact rfl)))|((with_reducible apply tl_id);first|(with_reducible apply tl_nil)|((with_reducible apply u_q);(iterate 4 exact rfl))|((with_reducible apply u_s0);exact rfl;exact rfl))|((with_reducible apply gx_id);first|(with_reducible apply v_nil)|((with_reducible apply v_q);(iterate 3 exact rfl)))|((with_reducible apply os_id);first|((with_reducible apply os_storeAgg);(iterate 5 exact rfl)))|((with_reducible apply rd_id);first|(apply Rd.own;(repeat first|exact P0|apply P1);exact rfl;done)|(apply Rd.old;(first|(with_reducible assumption)|exact c0|exact c1|exact c2|exact c3|exact c4|exact c5|exact c6|exact c7|exact c8|exact d0|exact d1|exact d2|exact d3|exact d4|exact d5);first|exact List.not_mem_nil|exact m0|exact m1|exact m2|exact m3|exact m4|exact m5|exact m6|exact m7|exact m8|exact m9))|((with_reducible apply t_id);first|(apply t_mix (id:=17) [0,1,2,3,4,5,6,7,8,9,10,11,12,13,14,15,16,17,18,19] 0 #[false,false,false,false,false,false,false,false,false,false,false,false,false,false,false,false,false,false,false,false];kernel_rfl;kernel_rfl;exact rfl)|(with_reducible apply t_seq)|(apply t_region;kernel_rfl)|((with_reducible apply t_condT);exact rfl)|(with_reducible apply t_ret)|(with_reducible apply t_skip)|(with_reducible apply t_block))|with_reducible apply q_thenN|with_reducible apply q_thenR|with_reducible apply q_blockR|exact P0|(with_reducible apply P1)|exact Rdn.zero|apply Rdn.succ|((with_reducible apply Norm.nil);exact rfl)|((with_reducible apply Norm.cons);exact rfl)|(with_reducible apply end_ret)|exact rvs_nil|(with_reducible apply rvs_cons)|((with_reducible apply rv_tmp);exact rfl)|((with_reducible apply rv_cellAgg);exact rfl;exact rfl)|((with_reducible apply al_id);first|(apply al_done;decide +kernel))|exact Nat.le_of_ble_eq_true rfl)
   all_goals rfl
 | false=>
   rw [hh0,if_neg (by decide)] at hrr hd2
   simp only [Bool.false_eq_true,if_false]
   repeat' (first|((with_reducible apply oq_id);first|(focus ((with_reducible apply (oq_addE (k:=((ln+1:Nat):Int))));exact rfl;exact rfl;omega))|(focus ((with_reducible apply (oq_subE (k:=((d:Nat):Int)-1)));exact rfl;exact rfl;omega))|(focus ((with_reducible apply oq_indexAddrN (i:=t));(iterate 4 exact rfl);omega))|(focus ((with_reducible apply oq_indexAddrN (i:=d));(iterate 4 exact rfl);omega))|((with_reducible apply oq_geqT);exact rfl;exact rfl;omega)|((with_reducible apply oq_gtrF);exact rfl;exact rfl;omega)|(apply oq_fn;exact rfl;first|exact trivial|(and_intros<;>omega)|omega|skip)|((with_reducible apply oq_load);exact rfl;exact rfl)|((with_reducible apply oq_loadAgg);exact rfl;exact rfl)|((with_reducible apply oq_call (hc:=Tryz.call86));exact rfl;exact rfl;exact fun D w1 hw1=>HL w1)|((with_reducible apply oq_call (hc:=Tryz.call90));exact rfl;exact rfl;exact fun D w1 hw1=>HS _ _ _ w1 hw1.ext.ext (hw1.cellAt (by (repeat first|exact P0|apply P1)) rfl) (hw1.cellAt (by (repeat first|exact P0|apply P1)) rfl) (hw1.cellAt (by (repeat first|exact P0|apply P1)) rfl)))|((with_reducible apply tl_id);first|(with_reducible apply tl_nil)|((with_reducible apply u_q);(iterate 4 exact rfl))|((with_reducible apply u_s0);exact rfl;exact rfl)|((with_reducible apply u_s);(iterate 3 exact rfl)))|((with_reducible apply gx_id);first|(with_reducible apply v_nil)|((with_reducible apply v_q);(iterate 3 exact rfl)))|((with_reducible apply os_id);first|((with_reducible apply os_x);exact rfl)|((with_reducible apply os_store);(iterate 4 exact rfl)))|((with_reducible apply ox_id);first|((with_reducible apply ox_alloc);exact rfl;intro _))|((with_reducible apply rd_id);first|(apply Rd.own;(repeat first|exact P0|apply P1);exact rfl;done)|(apply Rd.old;(first|(with_reducible assumption)|exact c0|exact c1|exact c2|exact c3|exact c4|exact c5|exact c6|exact c7|exact c8|exact d0|exact d1|exact d2|exact d3|exact d4|exact d5);first|exact List.not_mem_nil|exact m0|exact m1|exact m2|exact m3|exact m4|exact m5|exact m6|exact m7|exact m8|exact m9))|((with_reducible apply t_id);first|(apply t_mix (id:=17) [0,1,2,3,4,5,6,7,8,9,10,11,12,13,14,15,16,17,18,19] 0 #[false,false,false,false,false,false,false,false,false,false,false,false,false,false,false,false,false,false,false,false];kernel_rfl;kernel_rfl;exact rfl)|(with_reducible apply t_seq)|(apply t_region;kernel_rfl)|((with_reducible apply t_condT);exact rfl)|((with_reducible apply t_condF);exact rfl)|(with_reducible apply t_skip)|(with_reducible apply t_block))|with_reducible apply q_thenN|with_reducible apply q_blockN|exact P0|exact Rdn.zero|apply Rdn.succ|((with_reducible apply Norm.nil);exact rfl)|((with_reducible apply Norm.cons);exact rfl)|((with_reducible apply al_id);first|(apply al_done;decide +kernel))|exact Nat.le_of_ble_eq_true rfl)
   all_goals (rename_i b12n;refine ⟨(d,b12n),⟨by simp only;omega,(by first|exact hd2|rfl)⟩,by simp only;omega,?_,?_⟩<;>(repeat' (first|exact FrSub.nil|(apply FrSub.cons;exact rfl)|exact HpSub.refl _|(apply HpSub.consE;(repeat first|exact P0|apply P1);first|exact rfl|skip)|apply HpSub.skipX)))
theorem trip_in {m:Nat} {L:List Lg} {s:Int} {rs:List Int} {p:Trp} (hL:∀ z∈L,LegOk m z) (h:tripI m L s rs=some p):TI L m rs p:=by
 unfold tripI at h
 split at h
 · rename_i hs
   exact trip_ti hL (by omega) h
 · cases h
theorem anti_of {bil:Nat×Bool→Nat→Nat×Nat} {ln:Nat→Nat} {g:List (Nat×Bool)} {Pd:Nat×Nat→Nat×Nat→Nat×Nat→Bool} (hb:∀ x m m',m≤m'→leP (bil x m) (bil x m')) (hP:∀ a a' b b' c c',leP a a'→leP b b'→leP c' c→Pd a' b' c'=true→Pd a b c=true):AntiP (hpL bil ln g Pd) (lnG ln g) g.length:=fun i m i' m' hi hm hm' hl h=>by
 obtain ⟨h1,h2,h3⟩:=atF_mono (g:=g) hb hl (fun x hx=>by unfold lnG at hm;rw [hx] at hm;exact hm) g.length
 exact hP _ _ _ _ _ _ h1 h2 h3 h
def noP (fu q4:Int) (a b c:Nat×Nat):Bool:=decide (0≤fu∧((a.2+b.2:Nat):Int)≤fu-q4)
theorem noP_anti {fu q4:Int}:∀ a a' b b' c c',leP a a'→leP b b'→leP c' c→noP fu q4 a' b' c'=true→noP fu q4 a b c=true:=fun a a' b b' c c' h1 h2 h3 h=>by
 unfold noP leP at *
 rw [decide_eq_true_eq] at *
 omega
noncomputable def ptR (v q1 q2 q3:Int) (g0 g1:Nat) (C:List Wn) (L:List Lg) (p:Trp) (Pd:Nat×Nat→Nat×Nat→Nat×Nat→Bool):(Nat×Nat)×Int:=lasR p.1 (opB (flC v q1 q2 q3 g0 g1 C L) p.1) (hpL (bilL v q1 q2 q3 g0 g1 C L) (lnL L) p.1 Pd) (lnG (lnL L) p.1)
theorem noret16_ok (AM A:Option Addr) (m cM n cp:Nat) (L:List Lg) (w:World) (hr:RdS w 5 A n (L.map lgCells)) (hn:n≤1000000) (hm:m≤1000000) (v q1 q2 q3 q4:Int) (g0 g1:Nat) (AC:Option Addr) (nC cC:Nat) (C:List Wn) (hrc:CastR w AC nC C) (hs:∀ z∈C,z.n≤1000000) (s:Int) (AR:Option Addr) (nR cR:Nat) (rs:List Int) (hR:RdS w 1 AR nR (rs.map inCells)) (hnR:nR≤1000000) (hE:askE m L v q1 q2 q3 q4 (g0:Nat) (g1:Nat) C=0) (h20:rs.length≤20) (p:Trp) (htr:tripI m L s rs=some p) (fu:Int) (hfu:fu≤9223372036854775807):Calls Tryz.prog 16 #[.agg #[.slice AM m cM,.slice A n cp],.agg #[.int .i64 v,.int .i64 q1,.int .i64 q2,.int .i64 q3,.int .i64 q4,.int .i64 (g0:Nat),.int .i64 (g1:Nat)],.slice AC nC cC,.int .i64 s,.slice AR nR cR,.int .i64 fu] w fun e w'=>e=.returned (.tuple #[.agg #[.int .i64 ((ptR v q1 q2 q3 g0 g1 C L p (noP fu q4)).1.1:Nat),.int .i64 ((ptR v q1 q2 q3 g0 g1 C L p (noP fu q4)).1.2:Nat)],.int .i64 (ptR v q1 q2 q3 g0 g1 C L p (noP fu q4)).2])∧Ext w w':=by
 have HO:=fun w1 (hx:Ext w w1)=>travel_ok AM A m cM n cp L w1 (hr.ext hx) hn hm v q1 q2 q3 q4 g0 g1 AC nC cC C (hrc.ext hx) hs s AR nR cR rs (hR.ext hx) hnR hE h20
 rw [htr] at HO
 obtain ⟨hch,hpk,hk0⟩:=askE_ok hE
 obtain ⟨hcl,hcw⟩:=castE_zero.1 hk0
 have hlc:=hrc.len
 obtain ⟨hm1,hL40,hLk⟩:=chartB_iff.1 hch
 have hl:L.length=n:=by simpa using hr.len
 have hTI:=trip_in hLk htr
 obtain ⟨_,_,_,_,p5,_⟩:=id hpk
 have HL:=fun bT bD bM bS cS E AG cG w1 (hx:Ext w w1) (ht:TrpR w1 bT bD bM (some ⟨bS,0,none⟩) cS AG cG AM A m cM n cp v q1 q2 q3 q4 g0 g1 E p) hE2 (bF bP:Nat) (k0:w1.cell? ⟨bF,0,none⟩=some (.int .i64 fu)) (k1:w1.cell? ⟨bP,0+4,none⟩=some (.int .i64 q4))=>last58_calls bT bD bM (some ⟨bS,0,none⟩) cS AG cG AM A m cM n cp L v q1 q2 q3 q4 g0 g1 E C p rs w1 ht hTI hE2 (hr.ext hx) (by omega) (by omega) h20 hLk hpk hcw (by omega) 59 [.pointer (some ⟨bF,0,none⟩),.pointer (some ⟨bP,0,none⟩)] Tryz.call59 (noP fu q4) (fun a b c hab w2 h2=>noret1_calls a b c bF bP fu q4 w2 (h2.cell k0) (h2.cell k1) hab.1 hab.2 (by omega) hfu) (anti_of (fun x m m' h=>bilL_mono h) noP_anti)
 unfold ptR
 generalize lasR p.1 (opB (flC v q1 q2 q3 g0 g1 C L) p.1) (hpL (bilL v q1 q2 q3 g0 g1 C L) (lnL L) p.1 (noP fu q4)) (lnG (lnL L) p.1)=res at *
 refine enterQ (c:=cx w 34) Tryz.func16 rfl rfl rfl rfl ?_
 repeat' (first|((with_reducible apply oq_id);first|((with_reducible apply oq_neqF);exact rfl;exact rfl;omega)|(apply oq_fn;exact rfl;first|exact trivial|(and_intros<;>omega)|omega|skip)|((with_reducible apply oq_loadAgg);exact rfl;exact rfl)|((with_reducible apply oq_call (hc:=Tryz.call58));exact rfl;exact rfl;exact fun D w1 hw1=>(by obtain ⟨AG,cG,ht⟩:=TrpR.of_has (hw1.sub (by repeat (first|exact HpSub.refl _|apply HpSub.skipX))) ho hnl;exact HL bT bD bM bS cS E AG cG w1 hw1.ext.ext ht hE2 _ _ (hw1.cellAt (by (repeat first|exact P0|apply P1)) rfl) (hw1.cellAt (by (repeat first|exact P0|apply P1)) rfl))))|((with_reducible apply tl_id);first|(with_reducible apply tl_nil)|((with_reducible apply u_s);(iterate 3 exact rfl);(with_reducible apply os_callS (PV:=TravV AM _ m cM n cp v q1 q2 q3 q4 g0 g1 C L (some p)) (hc:=Tryz.call57));exact rfl;exact rfl;exact fun D w1 hw1=>HO w1 hw1.ext.ext;rintro _ _ ⟨bT,bD,bM,bS,cS,E,o,rfl,ho,rfl,hE2,hnl⟩;simp only [List.cons_append,List.nil_append])|((with_reducible apply u_q);(iterate 4 exact rfl))|((with_reducible apply u_s0);exact rfl;exact rfl)|((with_reducible apply u_s);(iterate 3 exact rfl)))|((with_reducible apply os_id);first|((with_reducible apply os_x);exact rfl)|((with_reducible apply os_storeAgg);(iterate 5 exact rfl)))|((with_reducible apply ox_id);first|((with_reducible apply ox_alloc);exact rfl;intro _)|((with_reducible apply ox_box);exact rfl;exact rfl;intro _)|((with_reducible apply ox_boxAgg);exact rfl;intro _))|((with_reducible apply rd_id);first|(apply Rd.own;(repeat first|exact P0|apply P1);exact rfl;done))|((with_reducible apply t_id);first|(with_reducible apply t_seq)|(apply t_region;kernel_rfl)|((with_reducible apply t_condF);exact rfl)|(with_reducible apply t_ret)|(with_reducible apply t_skip))|with_reducible apply q_thenN|exact P0|exact Rdn.zero|apply Rdn.succ|((with_reducible apply Norm.nil);exact rfl)|((with_reducible apply Norm.cons);exact rfl)|(with_reducible apply end_ret)|exact rvs_nil|(with_reducible apply rvs_cons)|((with_reducible apply rv_tmp);exact rfl)|((with_reducible apply rv_cellAgg);exact rfl;exact rfl)|exact Nat.le_of_ble_eq_true rfl)
 all_goals rfl
end Go.Proofs.YtcjkndjjbjoehaaGreat
namespace Go.Proofs.YtcjkndjjbjoehaaGreat
open Go.RowKit Go.Shelf
attribute [local irreducible] wpG SAny
attribute [local go_sem] Oper.semAt_some
abbrev BK (S:List Nat):={ p:Nat×Nat // S[p.1]?=some p.2 }
def bkS (S:List Nat) (i:Nat):Option (BK S):=
 match h:S[i]? with
 | some s=>some ⟨(i,s),h⟩
 | none=>none
def bkw (S:List Nat) (k:Nat):List (BK S):=(List.range k).filterMap fun j=>bkS S (S.length-1-j)
theorem bkS_some {S:List Nat} {i s:Nat} (h:S[i]?=some s):bkS S i=some ⟨(i,s),h⟩:=by
 unfold bkS
 split
 · rename_i y hy
   obtain rfl:y=s:=by rw [hy] at h;exact Option.some.inj h
   rfl
 · rename_i hy
   rw [hy] at h;cases h
theorem bkw_succ {S:List Nat} {k s:Nat} (h:S[S.length-1-k]?=some s):bkw S (k+1)=bkw S k++[⟨(S.length-1-k,s),h⟩]:=by
 unfold bkw
 rw [List.range_succ,List.filterMap_append]
 simp [bkS_some h]
theorem bkw_len (S:List Nat) (k:Nat):(bkw S k).length≤k:=by
 unfold bkw
 exact Nat.le_trans (List.length_filterMap_le _ _) (by simp)
theorem bkw_pre (S:List Nat) (k n:Nat) (h:k≤n):bkw S k <+: bkw S n:=by
 obtain ⟨d,rfl⟩:=Nat.exists_eq_add_of_le h
 unfold bkw
 rw [List.range_add,List.filterMap_append]
 exact List.prefix_append _ _
set_option maxRecDepth 100000 in
set_option maxHeartbeats 4000000 in
theorem back1_in (F:Fence) (m:Nat) (h115:F.fn 115) (hro:F.round=none) (hm:1≤m) (y B1:Nat) (A:Option Addr) (n c:Nat) (S:List Nat) (hn0:n≤1000000)
   (M:Nat→Prop) (hM1:M B1) (hMA:0<n→∀ b o,A=some ⟨b,o,none⟩→M b)
   (J Jx:List (BK S)→World→Prop)
   (hJR:∀ pre W,J pre W→RdS W 1 A n ((cI S).map inCells)∧Bx W B1 (.slice A n c))
   (hY:∀ pre x W,J pre W→pre.length<S.length→YieldAt F (m-1) Tryz.prog y #[.int .i64 (x.1.1:Nat),.int .i64 (x.1.2:Nat)] W fun e W'=>
     (e=.returned (.bool true)∧J (pre++[x]) W'∧KeepM M W W'∧KeepT 78 W W')∨(e=.returned (.bool false)∧Jx (pre++[x]) W'))
   (W:World) (h0:J [] W) :
   CallsIn F m Tryz.prog 115 #[.func (.yield y) #[] #[],.pointer (some ⟨B1,0,none⟩)] W fun e W'=>(∃ v,e=.returned v) ∧
     ((∃ ys,ys=bkw S S.length∧J ys W')∨(∃ pre,pre <+: bkw S S.length∧Jx pre W')):=by
 have HJR:=Lib.hid hJR
 have HY:=Lib.hid hY
 clear hJR hY
 obtain ⟨hr,b1⟩:=HJR.out _ _ h0
 have hl:S.length=n:=by have:=hr.len;simpa [cI] using this
 have HR:=Lib.hid hr
 clear hr
 unfold Bx at b1
 refine callsIn_of_wp Tryz.func115 rfl h115 ?_ hro
 simp only [Tryz.ntmps115,List.size_toArray,List.length_cons,List.length_nil,Nat.reduceAdd,Nat.reduceSub,Array.replicate_succ,Array.replicate_zero,List.push_toArray,List.append_toArray,List.nil_append,List.cons_append]
 gi_wp2
 gi_loopw [3] (fun i wr=>∃ k:Nat,k≤n∧i=.int .i64 ((n:Int)-1-k)∧J (bkw S k) wr)
   (fun i wr=>(intOf i+1).toNat)
 case atStart=>
   exact ⟨0,by omega,by simp,h0⟩
 case round=>
   obtain ⟨k,hk,rfl,hJ⟩:=hrel
   clear b1
   by_cases hlt:k<n
   · obtain ⟨hr,b1⟩:=HJR.out _ _ hJ
     unfold Bx at b1
     obtain ⟨s,hs⟩:∃ s,S[S.length-1-k]?=some s:=⟨_,List.getElem?_eq_getElem (by omega)⟩
     obtain ⟨b,o,rfl,c0⟩:=st_read hr (i:=S.length-1-k) (by omega) hs
     have HJ:=Lib.hid hJ
     clear hr hJ
     have hlen:=bkw_len S k
     obtain ⟨i,hi⟩:∃ i:Nat,S.length-1-k=i:=⟨_,rfl⟩
     have HF:=bkw_succ hs
     have e1:(n:Int)-1-k=(i:Nat):=by omega
     rw [e1]
     obtain ⟨fn,tmps,assign,body,hy,hR⟩:=HY.out (bkw S k) ⟨(S.length-1-k,s),hs⟩ _ HJ.out (by omega)
     dsimp only at hy
     rw [hi] at hy c0
     rw [Nat.mul_one] at c0
     gi_wp2
     refine hR.mono ?_
     rintro e W3 (⟨rfl,hJ3,hk3,hT3⟩|⟨rfl,hJx3⟩)
     · have HJ3:=Lib.hid hJ3
       clear hJ3 hk3 hT3 b1 c0
       gi_wp2
       go_roundw
       case rel=>exact ⟨k+1,by omega,by go_num,by rw [HF];exact HJ3.out⟩
       case measure=>first|(simp [intOf];done)|(simp [intOf];omega)
     · clear b1 c0
       gi_wp2
       refine bodyPost_ret (results_none rfl _ _ _) rfl ?_
       exact ⟨⟨_,rfl⟩,.inr ⟨_,by rw [← HF];exact bkw_pre _ _ _ (by omega),hJx3⟩⟩
   · obtain rfl:k=n:=by omega
     have e1:(k:Int)-1-k=-1:=by omega
     rw [e1]
     gi_wp2
     go_end0
     exact ⟨⟨_,rfl⟩,.inl ⟨_,by rw [hl],hJ⟩⟩
theorem bx_ext {W W':World} {b:Nat} {v:Value} (h:Bx W b v) (e:Ext W W'):Bx W' b v:=e.cell h
theorem back_stops (F:Fence) (m:Nat) (h115:F.fn 115) (hro:F.round=none) (hm:1≤m) (B1:Nat) (A:Option Addr) (n c:Nat) (S:List Nat) (hn0:n≤1000000)
   (M:Nat→Prop) (hM1:M B1) (hMA:0<n→∀ b o,A=some ⟨b,o,none⟩→M b) (w:World) (h:RdS w 1 A n ((cI S).map inCells)∧Bx w B1 (.slice A n c)) :
   SeqStopsK F m Tryz.prog 115 #[.pointer (some ⟨B1,0,none⟩)] (fun x:BK S=>#[.int .i64 (x.1.1:Nat),.int .i64 (x.1.2:Nat)])
     (fun U V=>KeepM M U V∧KeepT 78 U V) (fun ys=>ys=bkw S S.length) (fun pre=>pre <+: bkw S S.length) S.length w:=fun y J Jx W hW hJ hJx hY h0=>by
 refine (back1_in F m h115 hro hm y B1 A n c S hn0 M hM1 hMA (fun pre W=>J pre W∧RdS W 1 A n ((cI S).map inCells)∧Bx W B1 (.slice A n c)) Jx (fun pre W h=>h.2) ?_ W ⟨h0,h.1.ext hW,bx_ext h.2 hW⟩).mono ?_
 · intro pre x W1 hj hlen
   obtain ⟨fn,tmps,assign,body,hy,hR⟩:=hY pre x W1 hj.1 hlen
   refine ⟨fn,tmps,assign,body,hy,hR.mono ?_⟩
   rintro e W' (⟨he,hj',hk⟩|h)
   · exact .inl ⟨he,⟨hj',hj.2.1.keep hk.1 hMA,(hk.1.cell hM1).trans hj.2.2⟩,hk⟩
   · exact .inr h
 · rintro e W' ⟨hv,⟨ys,hys,hj⟩|h⟩
   · exact ⟨hv,.inl ⟨ys,hys,hj.1⟩⟩
   · exact ⟨hv,.inr h⟩
end Go.Proofs.YtcjkndjjbjoehaaGreat
namespace Go.Proofs.YtcjkndjjbjoehaaGreat
open Go.RowKit
theorem Has.grownM {w0:World} {M:Ms} {H:Hp} {W W':World} {row:Option Nat} (n0:Nat) (nm:∀ x∈H,(∀ t L,x.2.2≠mapTg t L)∨x.1<n0) (h:Has w0 M H W) (hg:W.grownBy W' row) (hr:∀ r,row=some r→w0.heap.size≤r∧n0≤r∧r∉M.dk∧∃ o:Obj,W.heap[r]?=some o∧o.isCells=false):Has w0 M H W':=by
 refine ⟨⟨hg.os.trans h.ext.os,hg.tape.trans h.ext.tape,hg.output.trans h.ext.output,Nat.le_trans h.ext.size hg.size,fun b hb hm=>?_⟩,fun x hx=>⟨(h.blk x hx).1,(h.blk x hx).2.same (hg.block _ (h.blk x hx).2.lt fun e=>?_)⟩,h.nodup,h.marks.1,fun k hk=>⟨(h.marks.2 k hk).1,?_⟩⟩
 · rw [hg.block b (Nat.lt_of_lt_of_le hb h.ext.size) (fun e=>by have:=(hr b e.symm).1;omega)]
   exact h.ext.block b hb hm
 · obtain ⟨_,h0,_,o,ho,hc⟩:=hr _ e.symm
   rcases nm x hx with h1|h1
   · rcases (h.blk x hx).2 with ⟨c,t,h2,_⟩|⟨_,t,L,e2,_⟩
     · rw [h2] at ho;cases ho;cases hc
     · exact h1 t L e2
   · omega
 · rw [hg.block k (mark_lt (h.marks.2 k hk).2) (fun e=>(hr k e.symm).2.2.1 hk)]
   exact (h.marks.2 k hk).2
section
variable {c:Cx} {F:Fr} {H:Hp} {g:Operand} {ps:Array Tmp} {assign body:Code} {α ι κ β:Type} {Q:QS}
structure RangeOkM (c:Cx) (F:Fr) (ns:List Nat) (hk:Hp) (ps:Array Tmp) (assign body:Code) (m:Nat) (encs:α→List Value) (N:Nat)
   (hp:ι→Hp) (Pi:List α→ι→Prop) (bx:α→β→Hp) (fx:α→β→Fr) (hl:κ→Hp) (Pl:Code→List α→κ→Prop):Prop where
 size:∀ x,(encs x).length=ps.size
 slots:(ps.toList.all fun p=>Nat.blt p c.N)=true
 assign_:∀ (x:α) (W:World),SL0 { c with w0:=W,M:=[] } assign (fun F' H'=>∃ bs,FrSub F' (fx x bs)∧HpSub H' (bx x bs)) (parF (ps.toList.zip (encs x)) F) []
 disj:∀ x bs i n W D,Blks n (bx x bs) W→Has c.w0 ⟨c.M,D⟩ (hp i++hk) W→(∀ b∈ns,b<n)→∀ y∈bx x bs,∀ z∈hp i++hk,y.1≠z.1
 body_:∀ (l:Nat) (pre:List α) (x:α) (i:ι) (bs:β) (W:World) (D:List Nat),Pi pre i→Has c.w0 ⟨c.M,D⟩ (bx x bs++hp i++hk) W→pre.length<N→(∃ r,W.heap[l]?=some (.loop r)) →
   T { c with w0:=W,M:=(bx x bs++hp i).map Prod.fst } (WS.round c.P l m) body (QB hp Pi hl Pl (pre++[x])) (fx x bs) (bx x bs++hp i)
 nob:∀ x bs,NoM (bx x bs)
 nop:∀ i,NoM (hp i)
 nol:∀ j,NoM (hl j)
theorem range_assignM {m N:Nat} {ns:List Nat} {hk:Hp} {encs:α→List Value} {hp:ι→Hp} {Pi:List α→ι→Prop} {bx:α→β→Hp} {fx:α→β→Fr} {hl:κ→Hp} {Pl:Code→List α→κ→Prop}
   (R:RangeOkM c F ns hk ps assign body m encs N hp Pi bx fx hl Pl) {D:List Nat} {a:Act} (ha:Frm D c.N F a) (l:Nat) (x:α) (W:World) (n0:Nat) (hn0:n0≤W.heap.size) (K:Act→World→Prop)
   (hK:∀ a' W' bs,Ext W W'→Frm [] c.N (fx x bs) a'→Blks n0 (bx x bs) W'→K a' W') :
   assign.wpIn (Fence.wide.inRound l) m c.P (Exit.then K (fun _ _ _=>False)) { tmps:=(ps.zip ⟨encs x⟩).foldl (fun t (p,v)=>t.setIfInBounds p v) a.tmps,defers:=[] } W:=by
 have hF:Frm [] c.N (parF (ps.toList.zip (encs x)) F) { tmps:=(ps.zip ⟨encs x⟩).foldl (fun t (p,v)=>t.setIfInBounds p v) a.tmps,defers:=[] }:=by
   have h1:Frm D c.N F ⟨a.tmps,D.map dmark⟩:=⟨ha.size,rfl,ha.at_⟩
   have:=Frm.par (ps.toList.zip (encs x)) (fun p hp=>by
     have h2:=List.all_eq_true.1 R.slots
     exact h2 p.1 (List.of_mem_zip hp).1) h1
   have e:(ps.zip ⟨encs x⟩).foldl (fun t (p,v)=>t.setIfInBounds p v) a.tmps=(ps.toList.zip (encs x)).foldl (fun t p=>t.setIfInBounds p.1 p.2) a.tmps:=by
     rw [← Array.foldl_toList,Array.toList_zip]
   rw [e];exact this
 have h0:Has W ⟨[],[]⟩ [] W:=Has.start W
 refine wpIn_mono (SL0.wpIn assign (R.assign_ x W) [] _ W hF h0) fun e a' W' he=>?_
 obtain ⟨rfl,F',H',⟨bs,h1,h2⟩,h3,h4⟩:=he
 have h5:=h4.sub h2
 refine hK a' W' bs h4.ext.ext (h3.sub h1) ⟨fun y hy=>⟨?_,(h5.blk y hy).2⟩,h5.nodup⟩
 rcases (h5.blk y hy).1 with h6|h6
 · exact Nat.le_trans hn0 h6
 · exact (List.not_mem_nil h6).elim
theorem range_bodyM (e0:TypeId) {m N:Nat} {ns:List Nat} {hk:Hp} {encs:α→List Value} {hp:ι→Hp} {Pi:List α→ι→Prop} {bx:α→β→Hp} {fx:α→β→Fr} {hl:κ→Hp} {Pl:Code→List α→κ→Prop}
   (R:RangeOkM c F ns hk ps assign body m encs N hp Pi bx fx hl Pl) {D:List Nat} (n0:Nat) (l:Nat) (pre:List α) (x:α) (i:ι) (bs:β) (a':Act) (W:World) (hnt:∀ x bs i,NoT e0 (bx x bs++hp i)) (hi:Pi pre i) (hw:Has c.w0 ⟨c.M,D⟩ (bx x bs++hp i++hk) W) (hlen:pre.length<N) (hr:∃ r,W.heap[l]?=some (.loop r)) (hmi:∀ b,MiOf c hk b→b<n0)
   (ha:Frm [] c.N (fx x bs) a') (hn:n0≤W.heap.size) :
   body.wpIn (Fence.wide.inRound l) m c.P (ownPostG n0 (fun A B=>KeepB (MiOf c hk) A B∧KeepT e0 A B) (fun xs W'=>∃ j,Pi xs j∧Has c.w0 ⟨c.M,D⟩ (hp j++hk) W'∧n0≤W'.heap.size) (fun k xs W'=>∃ j,Pl k xs j∧Has c.w0 ⟨c.M,D⟩ (hl j++hk) W') (pre++[x]) W) a' W:=by
 have hself:Has W ⟨(bx x bs++hp i).map Prod.fst,[]⟩ (bx x bs++hp i) W:=by
   refine ⟨ExtM.refl _ _,fun y hy=>⟨.inr (List.mem_map.2 ⟨y,hy,rfl⟩),(hw.blk y (List.mem_append_left _ hy)).2⟩,?_,List.nodup_nil,fun k hk=>(List.not_mem_nil hk).elim⟩
   have:=hw.nodup
   rw [List.map_append,List.nodup_append] at this
   exact this.1
 have h:=R.body_ l pre x i bs W D hi hw hlen hr [] a' W ha hself
 refine wpIn_mono h fun e a2 W' he=>?_
 obtain ⟨D',F',H',h1,h2,h3⟩:=he
 have hk0:KeepsFrom n0 W W':=h3.ext.keeps (fun b hb=>by
   obtain ⟨x0,hx0,rfl⟩:=List.mem_map.1 hb
   exact ((R.nob x bs).app (R.nop i)).cells hx0 (hw.blk x0 (List.mem_append_left _ hx0)).2)
 have hB:KeepB (MiOf c hk) W W':=fun b hb=>h3.ext.block b (Nat.lt_of_lt_of_le (hmi b hb) hn) (fun hm=>by
   rcases hb with hb|hb
   · obtain ⟨y,hy,rfl⟩:=List.mem_map.1 hm
     rcases (hw.blk y (List.mem_append_left _ hy)).1 with h4|h4
     · omega
     · exact hb.2 h4
   · have:=hw.nodup
     rw [List.map_append,List.nodup_append] at this
     exact this.2.2 _ hm _ hb rfl)
 have hT:KeepT e0 W W':=fun b cs fr hb=>h3.ext.block b (Array.getElem?_eq_some_iff.1 hb).1 (fun hm=>by
   obtain ⟨y,hy,rfl⟩:=List.mem_map.1 hm
   exact (hnt x bs i).cells ((R.nob x bs).app (R.nop i)) hy (hw.blk y (List.mem_append_left _ hy)).2 hb)
 have h3':Has W ⟨(bx x bs++hp i).map Prod.fst,[]⟩ H' W':=⟨h3.ext,h3.blk,h3.nodup,List.nodup_nil,fun k hk=>(List.not_mem_nil hk).elim⟩
 cases e with
 | normal=>
   obtain ⟨j,hj,hs⟩:=h1
   exact ⟨hk0,⟨hB,hT⟩,j,hj,hw.comp2 (h3'.sub hs),Nat.le_trans hn h3.ext.size⟩
 | ret=>
   obtain ⟨j,hj,hs⟩:=h1
   exact ⟨hk0,j,hj,hw.comp2 (h3'.sub hs)⟩
 | exit id=>
   obtain ⟨j,hj,hs⟩:=h1
   exact ⟨hk0,j,hj,hw.comp2 (h3'.sub hs)⟩
 | goto _=>exact h1.elim
 | panic _=>exact h1.elim
 | outgrown=>exact h1.elim
theorem t_rangeM (e0:TypeId) {N m gf:Nat} {lb:List Value} {encs:α→List Value} {S Sp:List α→Prop} {hk:Hp} (hp:ι→Hp) (Pi:List α→ι→Prop) (bx:α→β→Hp) (fx:α→β→Fr) (hl:κ→Hp) (Pl:Code→List α→κ→Prop) (i0:ι)
   (hev:ev F g=some (.func (.func gf) #[] ⟨lb⟩)) (eg:∀ (args:Array Value) (w:World),(callFunc gf args).run c.P w=.ok (.enter gf args) w)
   (hseq:∀ D w,Has c.w0 ⟨c.M,D⟩ H w→SeqStopsK Fence.wide (m+1) c.P gf ⟨lb⟩ (fun x=>⟨encs x⟩) (fun A B=>KeepB (MiOf c hk) A B∧KeepT e0 A B) S Sp N w)
   (h0:Pi [] i0) (hH:HpSub H (hp i0++hk)) (R:RangeOkM c F (H.map Prod.fst) hk ps assign body m encs N hp Pi bx fx hl Pl)
   (hnt:∀ x bs i,NoT e0 (bx x bs++hp i)) (hdone:∀ xs i,S xs→Pi xs i→Q .normal F (hp i++hk)) (hstop:∀ k pre j,Sp pre→Pl k pre j→T c (WS.own c.P) k Q F (hl j++hk)):T c (WS.own c.P) (.rangeFunc g ps assign body) Q F H:=by
 intro D a w ha hw
 refine (wpIn_wide (n:=m+2)).1 ?_
 have hD:∀ k∈D,k<w.heap.size:=fun k hk=>mark_lt (hw.marks.2 k hk).2
 have hkl:∀ x∈hk,x.1<w.heap.size:=fun x hx=>((hw.sub hH).blk x (List.mem_append_right _ hx)).2.lt
 have stab:∀ (X:Hp) (A B:World) (row:Option Nat),NoM X→Has c.w0 ⟨c.M,D⟩ (X++hk) A→A.grownBy B row→(∀ r,row=some r→w.heap.size≤r∧∃ o:Obj,A.heap[r]?=some o∧o.isCells=false)→Has c.w0 ⟨c.M,D⟩ (X++hk) B:=fun X A B row nm h hg hr=>
   Has.grownM w.heap.size (fun x hx=>(List.mem_append.1 hx).imp (fun h t L=>nm x h t L) (fun h=>hkl x h)) h hg fun r e=>⟨Nat.le_trans hw.ext.size (hr r e).1,(hr r e).1,fun hm=>by have:=hD r hm;have:=(hr r e).1;omega,(hr r e).2⟩
 refine wpIn_rangeFunc_ownH (F:=Fence.wide) (encs:=fun x=>⟨encs x⟩) (Kp:=fun A B=>KeepB (MiOf c hk) A B∧KeepT e0 A B) (S:=S) (Sp:=Sp) (N:=N) (w0:=w) rfl (by omega) (gf:=gf) (lb:=⟨lb⟩) (ha.ev hev) trivial eg (hseq D w hw) (fun h k=>⟨fun b hb=>(k.1 b hb).trans (h.1 b hb),h.2.trans k.2⟩)
   (fun W l o o' hl ho hc hwk=>⟨fun b hb=>by have:=mi_lt hw hH b hb;exact World.putObj_heap_other (by omega),KeepT.put ho hc⟩) (Below.refl _ _) (fun x=>by simpa using R.size x)
   (fun xs W'=>∃ j,Pi xs j∧Has c.w0 ⟨c.M,D⟩ (hp j++hk) W'∧w.heap.size≤W'.heap.size) (fun k xs W'=>∃ j,Pl k xs j∧Has c.w0 ⟨c.M,D⟩ (hl j++hk) W')
   (fun s A B row ⟨j,h1,h2,h3⟩ hg hr=>⟨j,h1,stab _ A B row (R.nop j) h2 hg hr,Nat.le_trans h3 hg.size⟩) (fun k s A B row ⟨j,h1,h2⟩ hg hr=>⟨j,h1,stab _ A B row (R.nol j) h2 hg hr⟩) ⟨i0,h0,hw.sub hH,Nat.le_refl _⟩
   (fun x a' W=>∃ bs,Frm [] c.N (fx x bs) a'∧Blks w.heap.size (bx x bs) W) (fun x a' _ A B row ⟨bs,h1,h2⟩ hg hr=>⟨bs,h1,Blks.grown (R.nob x bs) h2 hg fun r e=>(hr r e).2⟩) ?_ ?_ ?_ ?_
 · intro l pre x W K ⟨j,h1,h2,h3⟩ hK
   refine range_assignM R ha l x W w.heap.size h3 K fun a' W' bs he hf hb=>hK a' W' ?_ ?_ ⟨j,h1,h2.grow he,Nat.le_trans h3 he.size⟩ ⟨bs,hf,hb⟩
   · exact (he.toM []).keeps (fun b hb=>(List.not_mem_nil hb).elim)
   · exact ⟨fun b hb=>he.block b (Nat.lt_of_lt_of_le (mi_lt hw hH b hb) h3),fun b cs fr hb=>he.block b (Array.getElem?_eq_some_iff.1 hb).1⟩
 · intro l pre x a' W hl' hr ⟨j,h1,h2,h3⟩ ⟨bs,h4,h5⟩ hlen
   have hj:=h2.join h5 hw.ext.size (R.disj x bs j _ W D h5 h2 (fun b hb=>by obtain ⟨y,hy,rfl⟩:=List.mem_map.1 hb;exact (hw.blk y hy).2.lt))
   rw [← List.append_assoc] at hj
   exact range_bodyM e0 R w.heap.size l pre x j bs a' W hnt h1 hj hlen hr (fun b hb=>mi_lt hw hH b hb) h4 h3
 · intro D' xs W hD' hS ⟨j,h1,h2,h3⟩ hm
   refine ⟨D'::D,F,hp j++hk,hdone xs j hS h1,⟨ha.size,by simp [ha.defers,dmark],ha.at_⟩,h2.ext,h2.blk,h2.nodup,List.nodup_cons.2 ⟨fun hmem=>by have:=hD _ hmem;omega,h2.marks.1⟩,fun k hk=>?_⟩
   rcases List.mem_cons.1 hk with rfl|hk
   · exact ⟨Nat.le_trans hw.ext.size hD',hm⟩
   · exact h2.marks.2 k hk
 · intro D' k pre W hD' hS ⟨j,h1,h2⟩ hm
   refine wpIn_wide.2 (hstop k pre j hS h1 (D'::D) _ W ⟨ha.size,by simp [ha.defers,dmark],ha.at_⟩ ⟨h2.ext,h2.blk,h2.nodup,List.nodup_cons.2 ⟨fun hmem=>by have:=hD _ hmem;omega,h2.marks.1⟩,fun k hk=>?_⟩)
   rcases List.mem_cons.1 hk with rfl|hk
   · exact ⟨Nat.le_trans hw.ext.size hD',hm⟩
   · exact h2.marks.2 k hk
end
end Go.Proofs.YtcjkndjjbjoehaaGreat
