/- A part of the proof: rules for walks, and contracts of functions (1). -/
import Derived.Test.YtcjkndjjbjoehaaGreatXBA
import Derived.Test.YtcjkndjjbjoehaaGreatXBB
import Derived.Test.YtcjkndjjbjoehaaGreatXBC
import Derived.Test.YtcjkndjjbjoehaaGreatXBD
import Derived.Test.YtcjkndjjbjoehaaGreatXBE
import Derived.Test.YtcjkndjjbjoehaaGreatXBF
import Derived.Test.YtcjkndjjbjoehaaGreatXBG
import Derived.Test.YtcjkndjjbjoehaaGreatXBH
import Derived.Test.YtcjkndjjbjoehaaGreatXBI
import Derived.Test.YtcjkndjjbjoehaaGreatXBJ
import Derived.Test.YtcjkndjjbjoehaaGreatXBK
import Derived.Test.YtcjkndjjbjoehaaGreatXBL
import Derived.Test.YtcjkndjjbjoehaaGreatXBM
import Derived.Test.YtcjkndjjbjoehaaGreatXBN
import Derived.Test.YtcjkndjjbjoehaaGreatXBO
import Derived.Test.YtcjkndjjbjoehaaGreatXBP
import Derived.Test.YtcjkndjjbjoehaaGreatChecked
import Derived.LoopIn
import Derived.RangeFuncLeaves
import Derived.RangeFuncRecord
import Derived.Maps.AppendAt
import Derived.IntWalk
import Derived.Orders
import Derived.Still
import Derived.WalkKit
import Derived.Lib.Hide
import Derived.OrdersIn
import Derived.TacticsIn
import Derived.RangeFuncCalls
import Derived.Laws.StructEq
import Derived.RangeFuncNested
import Derived.Laws.MakeOwn
import Derived.ProofKit
import Derived.Lib.SmallJoins
import Derived.Carry
import Derived.MapKept
import Derived.Laws.IdiomCopy
import Derived.RangeFuncBound
import Derived.Shelf.Abstract
import Derived.Shelf.RegionOpen
import Derived.OwnWalkIn
import Derived.TacticsInMore
import Derived.LoopNIn
set_option linter.unusedVariables false
set_option linter.unusedSimpArgs false
set_option maxRecDepth 100000
set_option maxHeartbeats 2000000
namespace Go.Proofs.YtcjkndjjbjoehaaGreat
theorem gqT6e {G A1 A2 A3 A4 A5 A6 A7 A8 A9 A10 A11 A12 A13 A14 A15 A16:Prop} (p:GoP A1 A2 A3 A4 A5 A6 A7 A8 A9 A10 A11 A12 A13 A14 A15 A16) (h:GoL A1→GoL A2→GoL A3→GoL A4→GoL A5→GoL A6→GoL A7→GoL A8→GoL A9→GoL A10→GoL A11→GoL A12→GoL A13→GoL A14→GoL A15→GoL A16→GoM→G:=by intro m1 m2 m3 m4 m5 m6 m7 m8 m9 m10 m11 m12 m13 m14 m15 m16 _;(repeat' (first|((with_reducible apply oq_id);first|((with_reducible apply oq_call (hc:=Tryz.call67));exact rfl;exact rfl;(intro D w1 hw1;refine rfrom1_f ?_ hw1 (by (repeat first|exact P0|apply P1));omega))|((with_reducible apply oq_call (hc:=Tryz.call71));exact rfl;exact rfl;(intro D w1 hw1;refine within6_f _ _ _ ?_ w1;omega))|((with_reducible apply oq_call (hc:=Tryz.call71));exact rfl;exact rfl;(intro D w1 hw1;refine within6_t _ _ _ ?_ w1;omega))|((with_reducible apply oq_eqNilT);(iterate 3 exact rfl))|(focus ((with_reducible apply (oq_subE (k:=(m:Int)-1)));exact rfl;exact rfl;omega))|(apply oq_fn;exact rfl;first|exact trivial|(constructor<;>omega)|omega|skip)|((with_reducible apply oq_load);exact rfl;exact rfl))|((with_reducible apply tl_id);first|(with_reducible apply tl_nil)|((with_reducible apply u_q);(iterate 4 exact rfl))|((with_reducible apply u_s);(iterate 3 exact rfl)))|((with_reducible apply os_id);first|((with_reducible apply os_x);exact rfl))|((with_reducible apply ox_id);first|((with_reducible apply ox_boxAgg);exact rfl;intro _)|((with_reducible apply ox_buildSlice1);(iterate 6 exact rfl);intro _))|((with_reducible apply rd_id);first|(apply Rd.own;(repeat first|exact P0|apply P1);exact rfl;done))|((with_reducible apply t_id);first|(with_reducible apply t_seq)|(apply t_region;kernel_rfl)|((with_reducible apply t_condT);exact rfl)|(with_reducible apply t_ret)|((with_reducible apply t_condF);exact rfl)|(with_reducible apply t_skip)|(with_reducible apply t_block))|with_reducible apply q_thenN|with_reducible apply q_thenR|(with_reducible apply end_ret)|exact rvs_nil|(with_reducible apply rvs_cons)|((with_reducible apply rv_tmp);exact rfl)));(try focus (repeat (rename_i x;first|exact goD x m1.p|revert x)));(try focus (repeat (rename_i x;first|exact goD x m2.p|revert x)));(try focus (repeat (rename_i x;first|exact goD x m3.p|revert x)));(try focus (repeat (rename_i x;first|exact goD x m4.p|revert x)));(try focus (repeat (rename_i x;first|exact goD x m5.p|revert x)));(try focus (repeat (rename_i x;first|exact goD x m6.p|revert x)));(try focus (repeat (rename_i x;first|exact goD x m7.p|revert x)));(try focus (repeat (rename_i x;first|exact goD x m8.p|revert x)));(try focus (repeat (rename_i x;first|exact goD x m9.p|revert x)));(try focus (repeat (rename_i x;first|exact goD x m10.p|revert x)));(try focus (repeat (rename_i x;first|exact goD x m11.p|revert x)));(try focus (repeat (rename_i x;first|exact goD x m12.p|revert x)));(try focus (repeat (rename_i x;first|exact goD x m13.p|revert x)));(try focus (repeat (rename_i x;first|exact goD x m14.p|revert x)));(try focus (repeat (rename_i x;first|exact goD x m15.p|revert x)));(try focus (repeat (rename_i x;first|exact goD x m16.p|revert x)))) (e:GoTs A1 A2 A3 A4 A5 A6 A7 A8 A9 A10 A11 A12 A13 A14 A15 A16:=by constructor<;>first|(with_reducible exact GoT.t)|exact GoT.u):G:=p.run h
open Go.RowKit
theorem app_ok57:AppOk Tryz.prog 57 31 1 24:=⟨Tryz.underlying57,⟨Tryz.t31,_,(by kernel_rfl),rfl,rfl,rfl,rfl⟩,by decide⟩
end Go.Proofs.YtcjkndjjbjoehaaGreat
namespace Go.Proofs.YtcjkndjjbjoehaaGreat
open Go.RowKit
attribute [local irreducible] OQ OS OX Rd T TL GX GL AL AI RV wpG SAny Calls
noncomputable def needR (m:Nat) (L:List Lg) (T:List Bool) (v q1 q2 q3 q4:Int) (g0 g1:Nat) (C:List Wn) (i:Int):Int×Int:=
 if askE m L v q1 q2 q3 q4 g0 g1 C=0 then (if 0≤i∧i≤(m:Int)-1 then (match routedF (arcs (legC v q1 q2 q3 g0 g1 C) L) (lfG (legC v q1 q2 q3 g0 g1 C) L m T) m i.toNat with
   | none=>(0,6)
   | some a=>(a.1+q4,0)) else (0,2)) else (0,askE m L v q1 q2 q3 q4 g0 g1 C)
def chkF (need:Nat→Pl) (cst:Nat×Bool→Int) (q:Int):Nat→List Nat→List (Nat×Bool)→Int→Int×Int
 | _,[],_,_=>(0,0)
 | i,s::ss,g,fu=>match need s with
   | none=>((i:Int),64)
   | some a=>if fu<a.1+q then ((i:Int),64) else match g with
     | []=>((i:Int),0)
     | x::g=>if cst x<0 then ((i:Int),63) else chkF need cst q (i+1) ss g (fu-cst x)
theorem need23_no (AM A:Option Addr) (m cM n cp:Nat) (L:List Lg) (w:World) (hr:RdS w 5 A n (L.map lgCells)) (hn:n≤1000000) (hm:m≤1000000) (v q1 q2 q3 q4 g0 g1:Int) (AC:Option Addr) (nC cC:Nat) (C:List Wn) (hrc:CastR w AC nC C) (hs:∀ z∈C,z.n≤1000000) (hE:askE m L v q1 q2 q3 q4 g0 g1 C≠0) (i:Int):Calls Tryz.prog 23 #[.agg #[.slice AM m cM,.slice A n cp],.agg #[.int .i64 v,.int .i64 q1,.int .i64 q2,.int .i64 q3,.int .i64 q4,.int .i64 g0,.int .i64 g1],.slice AC nC cC,.int .i64 i] w fun e w'=>e=.returned (.tuple #[.int .i64 0,.int .i64 (askE m L v q1 q2 q3 q4 g0 g1 C)])∧Ext w w':=by
 have HN:=fun w1 (hx:Ext w w1)=>open_no AM A m cM n cp L w1 (hr.ext hx) hn hm v q1 q2 q3 q4 g0 g1 AC nC cC C (hrc.ext hx) hs hE
 generalize askE m L v q1 q2 q3 q4 g0 g1 C=e at *
 refine enterQ (c:=cx w 43) Tryz.func23 rfl rfl rfl rfl ?_
 ((all_goals refine goT0d ?_);(all_goals constructor);(any_goals exact trivial);all_goals intros)
 all_goals rfl
theorem need23_calls (AM A:Option Addr) (m cM n cp:Nat) (L:List Lg) (T:List Bool) (w:World) (hT:RdS w 1 AM m (T.map blCells)) (hr:RdS w 5 A n (L.map lgCells)) (hn:n≤1000000) (hm:m≤1000000) (v q1 q2 q3 q4:Int) (g0 g1:Nat) (AC:Option Addr) (nC cC:Nat) (C:List Wn) (hrc:CastR w AC nC C) (hs:∀ z∈C,z.n≤1000000) (i:Int):Calls Tryz.prog 23 #[.agg #[.slice AM m cM,.slice A n cp],.agg #[.int .i64 v,.int .i64 q1,.int .i64 q2,.int .i64 q3,.int .i64 q4,.int .i64 (g0:Nat),.int .i64 (g1:Nat)],.slice AC nC cC,.int .i64 i] w fun e w'=>e=.returned (.tuple #[.int .i64 (needR m L T v q1 q2 q3 q4 g0 g1 C i).1,.int .i64 (needR m L T v q1 q2 q3 q4 g0 g1 C i).2])∧Ext w w':=by
 have hl:L.length=n:=by simpa using hr.len
 unfold needR
 by_cases hE:askE m L v q1 q2 q3 q4 g0 g1 C=0
 rotate_left
 · rw [if_neg hE]
   exact need23_no AM A m cM n cp L w hr hn hm v q1 q2 q3 q4 g0 g1 AC nC cC C hrc hs hE i
 rw [if_pos hE]
 have HO:=fun w1 (hx:Ext w w1)=>open_ok AM A m cM n cp L w1 (hr.ext hx) hn hm v q1 q2 q3 q4 g0 g1 AC nC cC C (hrc.ext hx) hs hE
 obtain ⟨hch,hpk,hk0⟩:=askE_ok hE
 obtain ⟨hcl,hcw⟩:=castE_zero.1 hk0
 have hlc:=hrc.len
 clear hE
 obtain ⟨hm1,hL40,hLk⟩:=chartB_iff.1 hch
 by_cases hi:0≤i∧i≤(m:Int)-1
 rotate_left
 · rw [if_neg hi]
   refine enterQ (c:=cx w 43) Tryz.func23 rfl rfl rfl rfl ?_
   ((all_goals refine goT0d ?_);(all_goals constructor);(any_goals exact trivial);all_goals intros)
   all_goals rfl
 rw [if_pos hi]
 obtain ⟨i,rfl⟩:=Int.eq_ofNat_of_zero_le hi.1
 rw [Int.toNat_natCast]
 have HB:(plansF (arcs (legC v q1 q2 q3 g0 g1 C) L) m (fun s=>T.getD s false) m).getD i none=routedF (arcs (legC v q1 q2 q3 g0 g1 C) L) (lfG (legC v q1 q2 q3 g0 g1 C) L m T) m i:=best_same (arcs_net hLk) (arcs_sorted _ _) (by omega)
 have HP:=fun bd bM E w1 (hx:Ext w w1) hd hE2=>alternates_calls bd bM AM A m cM n cp L v q1 q2 q3 q4 g0 g1 E C w1 hd hE2 (hr.ext hx) (by omega) (by omega) hLk hpk hcw (by omega) T (hT.ext hx)
 have hbd:=fun a (h:(plansF (arcs (legC v q1 q2 q3 g0 g1 C) L) m (fun s=>T.getD s false) m).getD i none=some a)=>need_bound hpk hcw hLk (by omega) h
 obtain ⟨rp,hrp⟩:∃ p,routedF (arcs (legC v q1 q2 q3 g0 g1 C) L) (lfG (legC v q1 q2 q3 g0 g1 C) L m T) m i=p:=⟨_,rfl⟩
 rw [hrp] at HB ⊢
 rw [HB] at hbd
 clear hrp
 obtain ⟨_,_,_,_,p5,_⟩:=id hpk
 rcases rp with _|a
 · simp only
   refine enterQ (c:=cx w 43) Tryz.func23 rfl rfl rfl rfl ?_
   ((all_goals refine goT0d ?_);(all_goals constructor);(any_goals exact trivial);all_goals intros)
   all_goals rfl
 · obtain ⟨ha0,ha1,_⟩:=hbd a rfl
   simp only
   refine enterQ (c:=cx w 43) Tryz.func23 rfl rfl rfl rfl ?_
   ((all_goals refine goT0d ?_);(all_goals constructor);(any_goals exact trivial);all_goals intros)
   all_goals rfl
theorem travel_no (AM A:Option Addr) (m cM n cp:Nat) (L:List Lg) (w:World) (hr:RdS w 5 A n (L.map lgCells)) (hn:n≤1000000) (hm:m≤1000000) (v q1 q2 q3 q4 g0 g1:Int) (AC:Option Addr) (nC cC:Nat) (C:List Wn) (hrc:CastR w AC nC C) (hs:∀ z∈C,z.n≤1000000) (s:Int) (AR:Option Addr) (nR cR:Nat) (rs:List Int) (hR:RdS w 1 AR nR (rs.map inCells)) (hnR:nR≤1000000) (hE:askE m L v q1 q2 q3 q4 g0 g1 C≠0):Calls Tryz.prog 57 #[.agg #[.slice AM m cM,.slice A n cp],.agg #[.int .i64 v,.int .i64 q1,.int .i64 q2,.int .i64 q3,.int .i64 q4,.int .i64 g0,.int .i64 g1],.slice AC nC cC,.int .i64 s,.slice AR nR cR] w fun e w'=>e=.returned (.tuple #[.pointer none,.int .i64 (askE m L v q1 q2 q3 q4 g0 g1 C)])∧Ext w w':=by
 have HN:=fun w1 (hx:Ext w w1)=>open_no AM A m cM n cp L w1 (hr.ext hx) hn hm v q1 q2 q3 q4 g0 g1 AC nC cC C (hrc.ext hx) hs hE
 generalize askE m L v q1 q2 q3 q4 g0 g1 C=e at *
 refine enterQ (c:=cx w 123) Tryz.func57 rfl rfl rfl rfl ?_
 ((all_goals refine gqT0e ?_);(all_goals constructor);(any_goals exact trivial);all_goals intros)
 all_goals rfl
theorem travel_many (AM A:Option Addr) (m cM n cp:Nat) (L:List Lg) (w:World) (hr:RdS w 5 A n (L.map lgCells)) (hn:n≤1000000) (hm:m≤1000000) (v q1 q2 q3 q4 g0 g1:Int) (AC:Option Addr) (nC cC:Nat) (C:List Wn) (hrc:CastR w AC nC C) (hs:∀ z∈C,z.n≤1000000) (s:Int) (AR:Option Addr) (nR cR:Nat) (rs:List Int) (hR:RdS w 1 AR nR (rs.map inCells)) (hnR:nR≤1000000) (hE:askE m L v q1 q2 q3 q4 g0 g1 C=0) (h20:20<rs.length):Calls Tryz.prog 57 #[.agg #[.slice AM m cM,.slice A n cp],.agg #[.int .i64 v,.int .i64 q1,.int .i64 q2,.int .i64 q3,.int .i64 q4,.int .i64 g0,.int .i64 g1],.slice AC nC cC,.int .i64 s,.slice AR nR cR] w fun e w'=>e=.returned (.tuple #[.pointer none,.int .i64 4])∧Ext w w':=by
 have hl:rs.length=nR:=by simpa using hR.len
 have HO:=fun w1 (hx:Ext w w1)=>open_ok AM A m cM n cp L w1 (hr.ext hx) hn hm v q1 q2 q3 q4 g0 g1 AC nC cC C (hrc.ext hx) hs hE
 refine enterQ (c:=cx w 123) Tryz.func57 rfl rfl rfl rfl ?_
 ((all_goals refine gqT0e ?_);(all_goals constructor);(any_goals exact trivial);all_goals intros)
 all_goals rfl
def pnS (l:List Pn):Option (Nat×Nat)→Value
 | none=>.slice none 0 0
 | some (g,c)=>.slice (some ⟨g,0,none⟩) l.length c
def pnH (l:List Pn):Option (Nat×Nat)→Hp
 | none=>[]
 | some (g,c)=>[(g,(l.map pnCells).flatten,some (131,3,c))]
def ChkV (need:Nat→Pl) (S:List Nat) (r:Int×Int) (u:Value) (H:Hp):Prop:=∃ l P o,u=.tuple #[.int .i64 r.1,pnS l o,.int .i64 r.2]∧(r.2=0→l.map (·.p)=S.map need)∧(r.2≠0→l=[])∧(∀ x∈l,InP P x)∧(o=none→l=[])∧H=pnH l o++poolH P
theorem pn_snoc1 (l:List Pn) (p:Pl) (A:Option Addr) (n c:Nat):(l.map pnCells).flatten++[.int .i64 (plF p),.slice A n c,.bool p.isNone]=((l++[(⟨p,A,n,c⟩:Pn)]).map pnCells).flatten:=by simp [pnCells]
theorem check76_calls (bT bD bM:Nat) (AS:Option Addr) (cS:Nat) (AG:Option Addr) (cG:Nat) (AP AT:Option Addr) (m cM n cp:Nat) (L:List Lg) (v q1 q2 q3 q4:Int) (g0 g1:Nat) (E:List En) (C:List Wn) (T:List Bool) (p:Trp) (rs:List Int) (w:World) (ht:TrpR w bT bD bM AS cS AG cG AP AT m cM n cp v q1 q2 q3 q4 g0 g1 E p) (hTI:TI L m rs p) (hE:E.map keyOf=deskE v q1 q2 q3 C L n) (hr:RdS w 5 AT n (L.map lgCells)) (hT:RdS w 1 AP m (T.map blCells)) (hn:n≤40) (hm:m≤12) (h20:rs.length≤20) (hL:∀ z∈L,LegOk m z) (hp:PaceOk v q1 q2 q3 q4 g0 g1) (hcw:∀ x∈C,windB x.l=true) (hC:C.length≤4) (fu:Int) (hfu:0≤fu∧fu≤1099511627776) (r:Int×Int) (hck0:chkF (fun s=>(plansF (arcs (legC v q1 q2 q3 g0 g1 C) L) m (fun s=>T.getD s false) m).getD s none) (flC v q1 q2 q3 g0 g1 C L) q4 0 p.2 p.1 fu=r):Calls Tryz.prog 76 #[.pointer (some ⟨bT,0,none⟩),.int .i64 fu] w fun e w'=>∃ u H',e=.returned u∧ChkV (fun s=>(plansF (arcs (legC v q1 q2 q3 g0 g1 C) L) m (fun s=>T.getD s false) m).getD s none) p.2 r u H'∧Has w ⟨[],[]⟩ H' w':=by
 obtain ⟨c0,c1,c2,hs,hg,hd⟩:=ht
 obtain ⟨hg1,hg2,hg3,hg4⟩:=hTI
 have d0:=hd.c6
 have hl:L.length=n:=by simpa using hr.len
 obtain ⟨_,_,_,_,p5,_⟩:=id hp
 have hleg:∀ (i:Nat) (x:Nat×Bool),p.1[i]?=some x→∃ z,L[x.1]?=some z:=fun i x hx=>by
   have hi:=(List.getElem?_eq_some_iff.1 hx).1
   obtain ⟨r',hr'⟩:∃ r',rs[i]?=some r':=⟨_,List.getElem?_eq_getElem (by omega)⟩
   obtain ⟨z,t,bk,_,_,e1,_,e3,_⟩:=hg4 i r' hr'
   rw [hx] at e1
   obtain rfl:=Option.some.inj e1
   exact ⟨z,e3⟩
 have hbd:=fun s a (h:(plansF (arcs (legC v q1 q2 q3 g0 g1 C) L) m (fun s=>T.getD s false) m).getD s none=some a)=>need_bound hp hcw hL hm h
 have HA:=fun w1 (hx:Ext w w1)=>alternates_calls bD bM AP AT m cM n cp L v q1 q2 q3 q4 g0 g1 E C w1 (hd.ext hx) hE (hr.ext hx) hn hm hL hp hcw hC T (hT.ext hx)
 refine enterF (c:=cx w 94) Tryz.func76 rfl rfl rfl rfl ?_
 repeat' (first|((with_reducible apply oq_id);first|(apply oq_fn;exact rfl;first|exact trivial|(constructor<;>omega)|omega|skip)|((with_reducible apply oq_load);exact rfl;exact rfl)|((with_reducible apply oq_call (hc:=Tryz.call67));exact rfl;exact rfl;(intro D w1 hw1;refine rfrom1_t ?_ hw1 (by (repeat first|exact P0|apply P1));omega)))|((with_reducible apply tl_id);first|(with_reducible apply tl_nil)|((with_reducible apply u_s);(iterate 3 exact rfl);(with_reducible apply os_callF (PV:=PlansV _ m) (hc:=Tryz.call74));exact rfl;exact rfl;exact fun D w1 hw1=>HA w1 hw1.ext.ext;rintro _ _ ⟨l,P,g0',c,hlp,hlP,rfl,rfl⟩;simp only [List.cons_append,List.nil_append])|((with_reducible apply u_q);(iterate 4 exact rfl))|((with_reducible apply u_s);(iterate 3 exact rfl)))|((with_reducible apply os_id);first|((with_reducible apply os_x);exact rfl))|((with_reducible apply ox_id);first|((with_reducible apply ox_buildSlice1);(iterate 6 exact rfl);intro _))|((with_reducible apply rd_id);first|(apply Rd.old;(first|(with_reducible assumption)|exact c0|exact c1|exact c2|exact c3|exact c4|exact c5|exact c6|exact c7|exact c8|exact d0|exact d1|exact d2|exact d3|exact d4|exact d5);first|exact List.not_mem_nil|exact m0|exact m1|exact m2|exact m3|exact m4|exact m5|exact m6|exact m7|exact m8|exact m9))|((with_reducible apply t_id);first|(with_reducible apply t_seq)|(apply t_region;kernel_rfl)|((with_reducible apply t_condF);exact rfl)|(with_reducible apply t_skip)|(with_reducible apply t_block))|with_reducible apply q_thenN)
 apply t_loopP (ι:=Nat×Int×List Pn×Option (Nat×Nat)) [0,8,26,27] (fun z=>[(28,.int .i64 ((z.1:Nat):Int)),(1,.int .i64 z.2.1),(7,pnS z.2.2.1 z.2.2.2)]) (fun z=>pnH z.2.2.1 z.2.2.2++((g0',(l.map pnCells).flatten,some (131,3,c))::poolH P)) (fun z=>z.1≤p.1.length∧z.2.2.1.map (·.p)=(p.2.take z.1).map ((fun s=>(plansF (arcs (legC v q1 q2 q3 g0 g1 C) L) m (fun s=>T.getD s false) m).getD s none))∧chkF (fun s=>(plansF (arcs (legC v q1 q2 q3 g0 g1 C) L) m (fun s=>T.getD s false) m).getD s none) (flC v q1 q2 q3 g0 g1 C L) q4 z.1 (p.2.drop z.1) (p.1.drop z.1) z.2.1=r∧(∀ x∈z.2.2.1,InP P x)∧(z.2.2.2=none→z.2.2.1=[])∧-166666666667≤z.2.1∧z.2.1≤1099511627776) (fun z=>p.2.length-z.1) (0,fu,[],none)
 (repeat (first|exact KeepF.nil|(apply KeepF.cons;exact rfl)|apply KeepF.skip))
 (repeat first|exact FrSub.nil|(apply FrSub.cons;exact rfl))
 (try simp only [List.cons_append,List.nil_append])
 (repeat' (first|exact HpSub.appLeft|(apply HpSub.consE;(repeat first|exact P0|apply P1);first|exact rfl|exact pn_snoc _ _|exact pn_snoc1 _ _ _ _ _|(simp [pnCells,pnS];done)|skip)))
 · refine ⟨Nat.zero_le _,rfl,by simpa using hck0,fun x hx=>(by cases hx),fun _=>rfl,by simp only;omega,by simp only;omega⟩
 rintro ⟨i,fu,lo,o⟩ ⟨hi,hlo,hck,hlI,ho,hf0,hf1⟩
 simp only at hi hlo hck hlI ho hf0 hf1
 try simp only [List.cons_append,List.nil_append]
 have hll:l.length=m:=by have:=congrArg List.length hlp;simpa [plansF_len] using this
 obtain ⟨s,hsi⟩:∃ s,p.2[i]?=some s:=⟨_,List.getElem?_eq_getElem (by omega)⟩
 have hsm:=hg3 s (List.mem_of_getElem? hsi)
 obtain ⟨bS',oS',rfl,c3⟩:=st_read hs (show i<p.2.length by omega) hsi
 obtain ⟨x,hx⟩:∃ x,l[s]?=some x:=⟨_,List.getElem?_eq_getElem (by omega)⟩
 have hxp:x.p=(plansF (arcs (legC v q1 q2 q3 g0 g1 C) L) m (fun s=>T.getD s false) m).getD s none:=(getD_map hlp hx).symm
 have hls:(lo++[x]).map (·.p)=(p.2.take (i+1)).map (fun s=>(plansF (arcs (legC v q1 q2 q3 g0 g1 C) L) m (fun s=>T.getD s false) m).getD s none):=by
   rw [List.take_add_one,hsi,List.map_append,List.map_append,hlo]
   simp [hxp]
 have hlI:∀ y∈lo++[x],InP P y:=fun y hy=>by
   rcases List.mem_append.1 hy with hy|hy
   · exact hlI y hy
   · obtain rfl:=List.mem_singleton.1 hy
     exact hlP _ (List.mem_of_getElem? hx)
 have hlen:lo.length=i:=by have:=congrArg List.length hlo;simpa [List.length_take,Nat.min_eq_left (show i≤p.2.length by omega)] using this
 rw [List.drop_eq_getElem_cons (show i<p.2.length by omega),(List.getElem?_eq_some_iff.1 hsi).2] at hck
 simp only [chkF] at hck
 rcases o with _|⟨gO,cO⟩
 · obtain rfl:=ho rfl
   simp only [pnS,pnH,List.nil_append,List.cons_append]
   obtain ⟨xp,xA,xn,xc⟩:=x
   simp only at hxp
   rcases xp with _|a
   · rw [← hxp] at hck
     simp only at hck
     subst hck
     repeat' (first|((with_reducible apply oq_id);first|(focus ((with_reducible apply oq_indexAddrN (i:=i));(iterate 4 exact rfl);omega))|(focus ((with_reducible apply oq_indexAddrN (i:=s));(iterate 4 exact rfl);omega))|((with_reducible apply oq_lssT);exact rfl;exact rfl;omega)|(apply oq_fn;exact rfl;first|exact trivial|(constructor<;>omega)|omega|skip)|((with_reducible apply oq_load);exact rfl;exact rfl)|((with_reducible apply oq_loadAgg);exact rfl;exact rfl))|((with_reducible apply tl_id);first|(with_reducible apply tl_nil)|((with_reducible apply u_q);(iterate 4 exact rfl))|((with_reducible apply u_s0);exact rfl;exact rfl)|((with_reducible apply u_s);(iterate 3 exact rfl)))|((with_reducible apply gx_id);first|(with_reducible apply v_nil)|((with_reducible apply v_q);(iterate 3 exact rfl))|((with_reducible apply v_skip);(iterate 3 exact rfl)))|((with_reducible apply os_id);first|((with_reducible apply os_x);exact rfl)|((with_reducible apply os_storeAgg);(iterate 5 exact rfl))|((with_reducible apply os_appendNil (hk:=app_ok132));exact rfl;exact rfl))|((with_reducible apply ox_id);first|((with_reducible apply ox_alloc);exact rfl;intro _)|((with_reducible apply ox_buildSlice);(iterate 4 exact rfl)))|((with_reducible apply rd_id);first|(apply rd_pn0 hx;(repeat first|exact P0|apply P1);done)|(apply rd_pn1 hx;(repeat first|exact P0|apply P1);done)|(apply rd_pn2 hx;(repeat first|exact P0|apply P1);done)|(apply Rd.own;(repeat first|exact P0|apply P1);exact rfl;done)|(apply Rd.old;(first|(with_reducible assumption)|exact c0|exact c1|exact c2|exact c3|exact c4|exact c5|exact c6|exact c7|exact c8|exact d0|exact d1|exact d2|exact d3|exact d4|exact d5);first|exact List.not_mem_nil|exact m0|exact m1|exact m2|exact m3|exact m4|exact m5|exact m6|exact m7|exact m8|exact m9))|((with_reducible apply t_id);first|(with_reducible apply t_seq)|(apply t_region;kernel_rfl)|(apply t_drawn;kernel_rfl;decide +kernel;try simp only [List.append_eq,List.cons_append,List.nil_append])|((with_reducible apply t_condT);exact rfl)|(with_reducible apply t_ret)|(with_reducible apply t_skip)|(with_reducible apply t_block))|with_reducible apply q_thenN|with_reducible apply q_thenR|with_reducible apply q_blockR|exact P0|exact Rdn.zero|apply Rdn.succ|((with_reducible apply Norm.nil);exact rfl)|((with_reducible apply Norm.cons);exact rfl)|(with_reducible apply end_ret)|exact rvs_nil|(with_reducible apply rvs_cons)|((with_reducible apply rv_tmp);exact rfl)|exact Nat.le_of_ble_eq_true rfl|exact (rfl:(_:Bool)=true)|(intro _ _;with_reducible apply tl_id)|(intro _;with_reducible apply tl_id))
     all_goals exact ⟨_,⟨[],[],none,rfl,fun h=>(by cases h),fun _=>rfl,fun x hx=>(by cases hx),fun _=>rfl,rfl⟩,HpSub.nil⟩
   obtain ⟨ha0,ha1,_⟩:=hbd s a hxp.symm
   rw [← hxp] at hck
   simp only at hck
   by_cases hlow:fu<a.1+q4
   · rw [if_pos hlow] at hck
     subst hck
     repeat' (first|((with_reducible apply oq_id);first|(focus ((with_reducible apply oq_indexAddrN (i:=i));(iterate 4 exact rfl);omega))|(focus ((with_reducible apply oq_indexAddrN (i:=s));(iterate 4 exact rfl);omega))|(focus ((with_reducible apply (oq_subE (m:=fu) (n:=a.1) (k:=fu-a.1)));exact rfl;exact rfl;omega))|((with_reducible apply oq_lssT);exact rfl;exact rfl;omega)|(apply oq_fn;exact rfl;first|exact trivial|(constructor<;>omega)|omega|skip)|((with_reducible apply oq_load);exact rfl;exact rfl)|((with_reducible apply oq_loadAgg);exact rfl;exact rfl))|((with_reducible apply tl_id);first|(with_reducible apply tl_nil)|((with_reducible apply u_q);(iterate 4 exact rfl))|((with_reducible apply u_s0);exact rfl;exact rfl)|((with_reducible apply u_s);(iterate 3 exact rfl)))|((with_reducible apply gx_id);first|(with_reducible apply v_nil)|((with_reducible apply v_q);(iterate 3 exact rfl)))|((with_reducible apply os_id);first|((with_reducible apply os_x);exact rfl)|((with_reducible apply os_storeAgg);(iterate 5 exact rfl))|((with_reducible apply os_appendNil (hk:=app_ok132));exact rfl;exact rfl))|((with_reducible apply ox_id);first|((with_reducible apply ox_alloc);exact rfl;intro _)|((with_reducible apply ox_buildSlice);(iterate 4 exact rfl)))|((with_reducible apply rd_id);first|(apply rd_pn0 hx;(repeat first|exact P0|apply P1);done)|(apply rd_pn1 hx;(repeat first|exact P0|apply P1);done)|(apply rd_pn2 hx;(repeat first|exact P0|apply P1);done)|(apply Rd.own;(repeat first|exact P0|apply P1);exact rfl;done)|(apply Rd.old;(first|(with_reducible assumption)|exact c0|exact c1|exact c2|exact c3|exact c4|exact c5|exact c6|exact c7|exact c8|exact d0|exact d1|exact d2|exact d3|exact d4|exact d5);first|exact List.not_mem_nil|exact m0|exact m1|exact m2|exact m3|exact m4|exact m5|exact m6|exact m7|exact m8|exact m9))|((with_reducible apply t_id);first|(with_reducible apply t_seq)|(apply t_region;kernel_rfl)|(apply t_drawn;kernel_rfl;decide +kernel;try simp only [List.append_eq,List.cons_append,List.nil_append])|((with_reducible apply t_condT);exact rfl)|(with_reducible apply t_ret)|(with_reducible apply t_skip)|(with_reducible apply t_block))|with_reducible apply q_thenN|with_reducible apply q_thenR|with_reducible apply q_blockR|exact P0|exact Rdn.zero|apply Rdn.succ|((with_reducible apply Norm.nil);exact rfl)|((with_reducible apply Norm.cons);exact rfl)|(with_reducible apply end_ret)|exact rvs_nil|(with_reducible apply rvs_cons)|((with_reducible apply rv_tmp);exact rfl)|exact Nat.le_of_ble_eq_true rfl|exact (rfl:(_:Bool)=true)|(intro _ _;with_reducible apply tl_id)|(intro _;with_reducible apply tl_id))
     all_goals exact ⟨_,⟨[],[],none,rfl,fun h=>(by cases h),fun _=>rfl,fun x hx=>(by cases hx),fun _=>rfl,rfl⟩,HpSub.nil⟩
   rw [if_neg hlow] at hck
   by_cases hig:i=p.1.length
   · rw [List.drop_of_length_le (by omega)] at hck
     simp only at hck
     subst hck
     have hfin:List.map (fun y:Pn=>y.p) ([]++[⟨some a,xA,xn,xc⟩])=p.2.map (fun s=>(plansF (arcs (legC v q1 q2 q3 g0 g1 C) L) m (fun s=>T.getD s false) m).getD s none):=by
       rw [hls,List.take_of_length_le (by omega)]
     repeat' (first|((with_reducible apply oq_id);first|(focus ((with_reducible apply oq_indexAddrN (i:=i));(iterate 4 exact rfl);omega))|(focus ((with_reducible apply oq_indexAddrN (i:=s));(iterate 4 exact rfl);omega))|(focus ((with_reducible apply (oq_subE (m:=fu) (n:=a.1) (k:=fu-a.1)));exact rfl;exact rfl;omega))|((with_reducible apply oq_lssT);exact rfl;exact rfl;omega)|((with_reducible apply oq_lssF);exact rfl;exact rfl;omega)|((with_reducible apply oq_eqlT);exact rfl;exact rfl;omega)|(apply oq_fn;exact rfl;first|exact trivial|(constructor<;>omega)|omega|skip)|((with_reducible apply oq_load);exact rfl;exact rfl)|((with_reducible apply oq_loadAgg);exact rfl;exact rfl))|((with_reducible apply tl_id);first|(with_reducible apply tl_nil)|((with_reducible apply u_q);(iterate 4 exact rfl))|((with_reducible apply u_s0);exact rfl;exact rfl)|((with_reducible apply u_s);(iterate 3 exact rfl)))|((with_reducible apply gx_id);first|(with_reducible apply v_nil)|((with_reducible apply v_q);(iterate 3 exact rfl)))|((with_reducible apply os_id);first|((with_reducible apply os_x);exact rfl)|((with_reducible apply os_storeAgg);(iterate 5 exact rfl))|((with_reducible apply os_appendNil (hk:=app_ok132));exact rfl;exact rfl))|((with_reducible apply ox_id);first|((with_reducible apply ox_alloc);exact rfl;intro _)|((with_reducible apply ox_buildSlice);(iterate 4 exact rfl)))|((with_reducible apply rd_id);first|(apply rd_pn0 hx;(repeat first|exact P0|apply P1);done)|(apply rd_pn1 hx;(repeat first|exact P0|apply P1);done)|(apply rd_pn2 hx;(repeat first|exact P0|apply P1);done)|(apply Rd.own;(repeat first|exact P0|apply P1);exact rfl;done)|(apply Rd.old;(first|(with_reducible assumption)|exact c0|exact c1|exact c2|exact c3|exact c4|exact c5|exact c6|exact c7|exact c8|exact d0|exact d1|exact d2|exact d3|exact d4|exact d5);first|exact List.not_mem_nil|exact m0|exact m1|exact m2|exact m3|exact m4|exact m5|exact m6|exact m7|exact m8|exact m9))|((with_reducible apply t_id);first|(with_reducible apply t_seq)|(apply t_region;kernel_rfl)|(apply t_drawn;kernel_rfl;decide +kernel;try simp only [List.append_eq,List.cons_append,List.nil_append])|((with_reducible apply t_condT);exact rfl)|((with_reducible apply t_condF);exact rfl)|(with_reducible apply t_ret)|(with_reducible apply t_skip)|(with_reducible apply t_exit)|(with_reducible apply t_block))|with_reducible apply q_thenN|with_reducible apply q_thenE|((with_reducible apply q_blockE);exact rfl)|((with_reducible apply q_blockO);exact rfl)|exact P0|exact Rdn.zero|apply Rdn.succ|((with_reducible apply Norm.nil);exact rfl)|((with_reducible apply Norm.cons);exact rfl)|(with_reducible apply end_ret)|exact rvs_nil|(with_reducible apply rvs_cons)|((with_reducible apply rv_tmp);exact rfl)|exact Nat.le_of_ble_eq_true rfl|exact (rfl:(_:Bool)=true)|(intro _ _;with_reducible apply tl_id)|(intro _;with_reducible apply tl_id))
     all_goals (rename_i b11 b39 gN cN;refine ⟨_,⟨[]++[⟨some a,xA,xn,xc⟩],P,some (gN,cN),?_,fun _=>hfin,fun h=>absurd rfl h,hlI,fun h=>(by cases h),rfl⟩,?_⟩)
     all_goals first|(simp only [pnS,List.length_append,List.length_singleton,List.length_nil,List.nil_append,hig];rfl)|(simp only [pnH,List.cons_append,List.nil_append];(repeat' (first|exact HpSub.refl _|(apply HpSub.consE;(repeat first|exact P0|apply P1);first|exact rfl|exact pn_snoc _ _|exact pn_snoc1 _ _ _ _ _|(simp [pnCells,pnS];done)|skip)|apply HpSub.skipX)))
   obtain ⟨bG,oG,t,bk,rfl,hgi,e0,e1⟩:=fl_read hg (show i<p.1.length by omega)
   obtain ⟨z,hz⟩:=hleg i (t,bk) hgi
   rw [List.drop_eq_getElem_cons (show i<p.1.length by omega),(List.getElem?_eq_some_iff.1 hgi).2] at hck
   simp only at hck
   have hfl:flC v q1 q2 q3 g0 g1 C L (t,bk)=legC v q1 q2 q3 g0 g1 C z bk:=by unfold flC;rw [hz]
   rw [hfl] at hck
   have HFu:=fun w1 (hx:Ext w w1)=>fuel_calls bD bM AP AT m cM n cp v q1 q2 q3 q4 g0 g1 E C L t z bk w1 (hd.ext hx) hE (hr.ext hx) (by omega) (by have:=(List.getElem?_eq_some_iff.1 hz).1;omega) hz (hL z (List.mem_of_getElem? hz)) hp hcw hC
   unfold fuelV at HFu
   have hcb:=(legC_le hcw hp (hL z (List.mem_of_getElem? hz)) bk).1
   by_cases hop:legC v q1 q2 q3 g0 g1 C z bk<0
   · rw [if_pos hop] at hck
     subst hck
     simp only [if_neg (show ¬ 0≤legC v q1 q2 q3 g0 g1 C z bk by omega),decide_eq_false (show ¬ 0≤legC v q1 q2 q3 g0 g1 C z bk by omega)] at HFu
     repeat' (first|((with_reducible apply oq_id);first|(focus ((with_reducible apply oq_indexAddrN (i:=i));(iterate 4 exact rfl);omega))|(focus ((with_reducible apply oq_indexAddrN (i:=s));(iterate 4 exact rfl);omega))|(focus ((with_reducible apply (oq_subE (m:=fu) (n:=a.1) (k:=fu-a.1)));exact rfl;exact rfl;omega))|((with_reducible apply oq_lssT);exact rfl;exact rfl;omega)|((with_reducible apply oq_lssF);exact rfl;exact rfl;omega)|((with_reducible apply oq_eqlF);exact rfl;exact rfl;omega)|(apply oq_fn;exact rfl;first|exact trivial|(constructor<;>omega)|omega|skip)|((with_reducible apply oq_load);exact rfl;exact rfl)|((with_reducible apply oq_loadAgg);exact rfl;exact rfl)|((with_reducible apply oq_call (hc:=Tryz.call81));exact rfl;exact rfl;exact fun D w1 hw1=>HFu w1 hw1.ext.ext))|((with_reducible apply tl_id);first|(with_reducible apply tl_nil)|((with_reducible apply u_q);(iterate 4 exact rfl))|((with_reducible apply u_s0);exact rfl;exact rfl)|((with_reducible apply u_s);(iterate 3 exact rfl)))|((with_reducible apply gx_id);first|(with_reducible apply v_nil)|((with_reducible apply v_q);(iterate 3 exact rfl)))|((with_reducible apply os_id);first|((with_reducible apply os_x);exact rfl)|((with_reducible apply os_storeAgg);(iterate 5 exact rfl))|((with_reducible apply os_appendNil (hk:=app_ok132));exact rfl;exact rfl))|((with_reducible apply ox_id);first|((with_reducible apply ox_alloc);exact rfl;intro _)|((with_reducible apply ox_buildSlice);(iterate 4 exact rfl)))|((with_reducible apply rd_id);first|(apply rd_pn0 hx;(repeat first|exact P0|apply P1);done)|(apply rd_pn1 hx;(repeat first|exact P0|apply P1);done)|(apply rd_pn2 hx;(repeat first|exact P0|apply P1);done)|(apply Rd.own;(repeat first|exact P0|apply P1);exact rfl;done)|(apply Rd.old;(first|(with_reducible assumption)|exact c0|exact c1|exact c2|exact c3|exact c4|exact c5|exact c6|exact c7|exact c8|exact d0|exact d1|exact d2|exact d3|exact d4|exact d5);first|exact List.not_mem_nil|exact m0|exact m1|exact m2|exact m3|exact m4|exact m5|exact m6|exact m7|exact m8|exact m9))|((with_reducible apply t_id);first|(with_reducible apply t_seq)|(apply t_region;kernel_rfl)|(apply t_drawn;kernel_rfl;decide +kernel;try simp only [List.append_eq,List.cons_append,List.nil_append])|((with_reducible apply t_condT);exact rfl)|((with_reducible apply t_condF);exact rfl)|(with_reducible apply t_ret)|(with_reducible apply t_skip)|(with_reducible apply t_block))|with_reducible apply q_thenN|with_reducible apply q_thenR|with_reducible apply q_blockR|exact P0|exact Rdn.zero|apply Rdn.succ|((with_reducible apply Norm.nil);exact rfl)|((with_reducible apply Norm.cons);exact rfl)|(with_reducible apply end_ret)|exact rvs_nil|(with_reducible apply rvs_cons)|((with_reducible apply rv_tmp);exact rfl)|exact Nat.le_of_ble_eq_true rfl|exact (rfl:(_:Bool)=true)|(intro _ _;with_reducible apply tl_id)|(intro _;with_reducible apply tl_id))
     all_goals exact ⟨_,⟨[],[],none,rfl,fun h=>(by cases h),fun _=>rfl,fun x hx=>(by cases hx),fun _=>rfl,rfl⟩,HpSub.nil⟩
   rw [if_neg hop] at hck
   simp only [if_pos (show 0≤legC v q1 q2 q3 g0 g1 C z bk by omega),decide_eq_true (show 0≤legC v q1 q2 q3 g0 g1 C z bk by omega)] at HFu
   repeat' (first|((with_reducible apply oq_id);first|(focus ((with_reducible apply oq_indexAddrN (i:=i));(iterate 4 exact rfl);omega))|(focus ((with_reducible apply oq_indexAddrN (i:=s));(iterate 4 exact rfl);omega))|(focus ((with_reducible apply (oq_subE (m:=fu) (n:=a.1) (k:=fu-a.1)));exact rfl;exact rfl;omega))|((with_reducible apply oq_lssT);exact rfl;exact rfl;omega)|((with_reducible apply oq_lssF);exact rfl;exact rfl;omega)|((with_reducible apply oq_eqlF);exact rfl;exact rfl;omega)|(apply oq_fn;exact rfl;first|exact trivial|(constructor<;>omega)|omega|skip)|((with_reducible apply oq_load);exact rfl;exact rfl)|((with_reducible apply oq_loadAgg);exact rfl;exact rfl)|((with_reducible apply oq_call (hc:=Tryz.call81));exact rfl;exact rfl;exact fun D w1 hw1=>HFu w1 hw1.ext.ext))|((with_reducible apply tl_id);first|(with_reducible apply tl_nil)|((with_reducible apply u_q);(iterate 4 exact rfl))|((with_reducible apply u_s0);exact rfl;exact rfl)|((with_reducible apply u_s);(iterate 3 exact rfl)))|((with_reducible apply gx_id);first|(with_reducible apply v_nil)|((with_reducible apply v_q);(iterate 3 exact rfl)))|((with_reducible apply os_id);first|((with_reducible apply os_x);exact rfl)|((with_reducible apply os_storeAgg);(iterate 5 exact rfl))|((with_reducible apply os_appendNil (hk:=app_ok132));exact rfl;exact rfl))|((with_reducible apply ox_id);first|((with_reducible apply ox_alloc);exact rfl;intro _)|((with_reducible apply ox_buildSlice);(iterate 4 exact rfl)))|((with_reducible apply rd_id);first|(apply rd_pn0 hx;(repeat first|exact P0|apply P1);done)|(apply rd_pn1 hx;(repeat first|exact P0|apply P1);done)|(apply rd_pn2 hx;(repeat first|exact P0|apply P1);done)|(apply Rd.own;(repeat first|exact P0|apply P1);exact rfl;done)|(apply Rd.old;(first|(with_reducible assumption)|exact c0|exact c1|exact c2|exact c3|exact c4|exact c5|exact c6|exact c7|exact c8|exact d0|exact d1|exact d2|exact d3|exact d4|exact d5);first|exact List.not_mem_nil|exact m0|exact m1|exact m2|exact m3|exact m4|exact m5|exact m6|exact m7|exact m8|exact m9))|((with_reducible apply t_id);first|(with_reducible apply t_seq)|(apply t_region;kernel_rfl)|(apply t_drawn;kernel_rfl;decide +kernel;try simp only [List.append_eq,List.cons_append,List.nil_append])|((with_reducible apply t_condT);exact rfl)|((with_reducible apply t_condF);exact rfl)|(with_reducible apply t_skip)|(with_reducible apply t_block))|with_reducible apply q_thenN|with_reducible apply q_blockN|exact P0|exact Rdn.zero|apply Rdn.succ|((with_reducible apply Norm.nil);exact rfl)|((with_reducible apply Norm.cons);exact rfl)|exact Nat.le_of_ble_eq_true rfl|exact (rfl:(_:Bool)=true)|(intro _ _;with_reducible apply tl_id)|(intro _;with_reducible apply tl_id))
   all_goals (rename_i b11 b39 gN cN;refine ⟨(i+1,fu-legC v q1 q2 q3 g0 g1 C z bk,[]++[⟨some a,xA,xn,xc⟩],some (gN,cN)),⟨by simp only;omega,hls,hck,hlI,fun h=>(by cases h),by simp only;omega,by simp only;omega⟩,by simp only;omega,?_,?_⟩<;>(try simp only [pnS,pnH,List.nil_append,List.cons_append,List.length_append,List.length_singleton,List.length_nil])<;>(repeat' (first|exact FrSub.nil|(apply FrSub.cons;exact rfl)|exact HpSub.refl _|(apply HpSub.consE;(repeat first|exact P0|apply P1);first|exact rfl|exact pn_snoc _ _|exact pn_snoc1 _ _ _ _ _|(simp [pnCells,pnS];done)|skip)|apply HpSub.skipX)))
 · simp only [pnS,pnH,List.nil_append,List.cons_append]
   obtain ⟨xp,xA,xn,xc⟩:=x
   simp only at hxp
   rcases xp with _|a
   · rw [← hxp] at hck
     simp only at hck
     subst hck
     repeat' (first|((with_reducible apply oq_id);first|(focus ((with_reducible apply oq_indexAddrN (i:=i));(iterate 4 exact rfl);omega))|(focus ((with_reducible apply oq_indexAddrN (i:=s));(iterate 4 exact rfl);omega))|((with_reducible apply oq_lssT);exact rfl;exact rfl;omega)|(apply oq_fn;exact rfl;first|exact trivial|(constructor<;>omega)|omega|skip)|((with_reducible apply oq_load);exact rfl;exact rfl)|((with_reducible apply oq_loadAgg);exact rfl;exact rfl))|((with_reducible apply tl_id);first|(with_reducible apply tl_nil)|((with_reducible apply u_q);(iterate 4 exact rfl))|((with_reducible apply u_s0);exact rfl;exact rfl)|((with_reducible apply u_s);(iterate 3 exact rfl)))|((with_reducible apply gx_id);first|(with_reducible apply v_nil)|((with_reducible apply v_q);(iterate 3 exact rfl))|((with_reducible apply v_skip);(iterate 3 exact rfl)))|((with_reducible apply os_id);first|((with_reducible apply os_x);exact rfl)|((with_reducible apply os_storeAgg);(iterate 5 exact rfl))|((with_reducible apply os_append (hk:=app_ok132));exact rfl;exact rfl;(repeat first|exact P0|apply P1)))|((with_reducible apply ox_id);first|((with_reducible apply ox_alloc);exact rfl;intro _)|((with_reducible apply ox_buildSlice);(iterate 4 exact rfl)))|((with_reducible apply rd_id);first|(apply rd_pn0 hx;(repeat first|exact P0|apply P1);done)|(apply rd_pn1 hx;(repeat first|exact P0|apply P1);done)|(apply rd_pn2 hx;(repeat first|exact P0|apply P1);done)|(apply Rd.own;(repeat first|exact P0|apply P1);exact rfl;done)|(apply Rd.old;(first|(with_reducible assumption)|exact c0|exact c1|exact c2|exact c3|exact c4|exact c5|exact c6|exact c7|exact c8|exact d0|exact d1|exact d2|exact d3|exact d4|exact d5);first|exact List.not_mem_nil|exact m0|exact m1|exact m2|exact m3|exact m4|exact m5|exact m6|exact m7|exact m8|exact m9))|((with_reducible apply t_id);first|(with_reducible apply t_seq)|(apply t_region;kernel_rfl)|(apply t_drawn;kernel_rfl;decide +kernel;try simp only [List.append_eq,List.cons_append,List.nil_append])|((with_reducible apply t_condT);exact rfl)|(with_reducible apply t_ret)|(with_reducible apply t_skip)|(with_reducible apply t_block))|with_reducible apply q_thenN|with_reducible apply q_thenR|with_reducible apply q_blockR|exact P0|exact Rdn.zero|apply Rdn.succ|((with_reducible apply Norm.nil);exact rfl)|((with_reducible apply Norm.cons);exact rfl)|(with_reducible apply end_ret)|exact rvs_nil|(with_reducible apply rvs_cons)|((with_reducible apply rv_tmp);exact rfl)|exact pnF_len _|exact Nat.le_of_ble_eq_true rfl|exact (rfl:(_:Bool)=true)|omega|(intro _ _;with_reducible apply tl_id)|(intro _;with_reducible apply tl_id))
     all_goals exact ⟨_,⟨[],[],none,rfl,fun h=>(by cases h),fun _=>rfl,fun x hx=>(by cases hx),fun _=>rfl,rfl⟩,HpSub.nil⟩
   obtain ⟨ha0,ha1,_⟩:=hbd s a hxp.symm
   rw [← hxp] at hck
   simp only at hck
   by_cases hlow:fu<a.1+q4
   · rw [if_pos hlow] at hck
     subst hck
     repeat' (first|((with_reducible apply oq_id);first|(focus ((with_reducible apply oq_indexAddrN (i:=i));(iterate 4 exact rfl);omega))|(focus ((with_reducible apply oq_indexAddrN (i:=s));(iterate 4 exact rfl);omega))|(focus ((with_reducible apply (oq_subE (m:=fu) (n:=a.1) (k:=fu-a.1)));exact rfl;exact rfl;omega))|((with_reducible apply oq_lssT);exact rfl;exact rfl;omega)|(apply oq_fn;exact rfl;first|exact trivial|(constructor<;>omega)|omega|skip)|((with_reducible apply oq_load);exact rfl;exact rfl)|((with_reducible apply oq_loadAgg);exact rfl;exact rfl))|((with_reducible apply tl_id);first|(with_reducible apply tl_nil)|((with_reducible apply u_q);(iterate 4 exact rfl))|((with_reducible apply u_s0);exact rfl;exact rfl)|((with_reducible apply u_s);(iterate 3 exact rfl)))|((with_reducible apply gx_id);first|(with_reducible apply v_nil)|((with_reducible apply v_q);(iterate 3 exact rfl)))|((with_reducible apply os_id);first|((with_reducible apply os_x);exact rfl)|((with_reducible apply os_storeAgg);(iterate 5 exact rfl))|((with_reducible apply os_append (hk:=app_ok132));exact rfl;exact rfl;(repeat first|exact P0|apply P1)))|((with_reducible apply ox_id);first|((with_reducible apply ox_alloc);exact rfl;intro _)|((with_reducible apply ox_buildSlice);(iterate 4 exact rfl)))|((with_reducible apply rd_id);first|(apply rd_pn0 hx;(repeat first|exact P0|apply P1);done)|(apply rd_pn1 hx;(repeat first|exact P0|apply P1);done)|(apply rd_pn2 hx;(repeat first|exact P0|apply P1);done)|(apply Rd.own;(repeat first|exact P0|apply P1);exact rfl;done)|(apply Rd.old;(first|(with_reducible assumption)|exact c0|exact c1|exact c2|exact c3|exact c4|exact c5|exact c6|exact c7|exact c8|exact d0|exact d1|exact d2|exact d3|exact d4|exact d5);first|exact List.not_mem_nil|exact m0|exact m1|exact m2|exact m3|exact m4|exact m5|exact m6|exact m7|exact m8|exact m9))|((with_reducible apply t_id);first|(with_reducible apply t_seq)|(apply t_region;kernel_rfl)|(apply t_drawn;kernel_rfl;decide +kernel;try simp only [List.append_eq,List.cons_append,List.nil_append])|((with_reducible apply t_condT);exact rfl)|(with_reducible apply t_ret)|(with_reducible apply t_skip)|(with_reducible apply t_block))|with_reducible apply q_thenN|with_reducible apply q_thenR|with_reducible apply q_blockR|exact P0|exact Rdn.zero|apply Rdn.succ|((with_reducible apply Norm.nil);exact rfl)|((with_reducible apply Norm.cons);exact rfl)|(with_reducible apply end_ret)|exact rvs_nil|(with_reducible apply rvs_cons)|((with_reducible apply rv_tmp);exact rfl)|exact pnF_len _|exact Nat.le_of_ble_eq_true rfl|exact (rfl:(_:Bool)=true)|omega|(intro _ _;with_reducible apply tl_id)|(intro _;with_reducible apply tl_id))
     all_goals exact ⟨_,⟨[],[],none,rfl,fun h=>(by cases h),fun _=>rfl,fun x hx=>(by cases hx),fun _=>rfl,rfl⟩,HpSub.nil⟩
   rw [if_neg hlow] at hck
   by_cases hig:i=p.1.length
   · rw [List.drop_of_length_le (by omega)] at hck
     simp only at hck
     subst hck
     have hfin:List.map (fun y:Pn=>y.p) (lo++[⟨some a,xA,xn,xc⟩])=p.2.map (fun s=>(plansF (arcs (legC v q1 q2 q3 g0 g1 C) L) m (fun s=>T.getD s false) m).getD s none):=by
       rw [hls,List.take_of_length_le (by omega)]
     repeat' (first|((with_reducible apply oq_id);first|(focus ((with_reducible apply oq_indexAddrN (i:=i));(iterate 4 exact rfl);omega))|(focus ((with_reducible apply oq_indexAddrN (i:=s));(iterate 4 exact rfl);omega))|(focus ((with_reducible apply (oq_subE (m:=fu) (n:=a.1) (k:=fu-a.1)));exact rfl;exact rfl;omega))|((with_reducible apply oq_lssT);exact rfl;exact rfl;omega)|((with_reducible apply oq_lssF);exact rfl;exact rfl;omega)|((with_reducible apply oq_eqlT);exact rfl;exact rfl;omega)|(apply oq_fn;exact rfl;first|exact trivial|(constructor<;>omega)|omega|skip)|((with_reducible apply oq_load);exact rfl;exact rfl)|((with_reducible apply oq_loadAgg);exact rfl;exact rfl))|((with_reducible apply tl_id);first|(with_reducible apply tl_nil)|((with_reducible apply u_q);(iterate 4 exact rfl))|((with_reducible apply u_s0);exact rfl;exact rfl)|((with_reducible apply u_s);(iterate 3 exact rfl)))|((with_reducible apply gx_id);first|(with_reducible apply v_nil)|((with_reducible apply v_q);(iterate 3 exact rfl)))|((with_reducible apply os_id);first|((with_reducible apply os_x);exact rfl)|((with_reducible apply os_storeAgg);(iterate 5 exact rfl))|((with_reducible apply os_append (hk:=app_ok132));exact rfl;exact rfl;(repeat first|exact P0|apply P1)))|((with_reducible apply ox_id);first|((with_reducible apply ox_alloc);exact rfl;intro _)|((with_reducible apply ox_buildSlice);(iterate 4 exact rfl)))|((with_reducible apply rd_id);first|(apply rd_pn0 hx;(repeat first|exact P0|apply P1);done)|(apply rd_pn1 hx;(repeat first|exact P0|apply P1);done)|(apply rd_pn2 hx;(repeat first|exact P0|apply P1);done)|(apply Rd.own;(repeat first|exact P0|apply P1);exact rfl;done)|(apply Rd.old;(first|(with_reducible assumption)|exact c0|exact c1|exact c2|exact c3|exact c4|exact c5|exact c6|exact c7|exact c8|exact d0|exact d1|exact d2|exact d3|exact d4|exact d5);first|exact List.not_mem_nil|exact m0|exact m1|exact m2|exact m3|exact m4|exact m5|exact m6|exact m7|exact m8|exact m9))|((with_reducible apply t_id);first|(with_reducible apply t_seq)|(apply t_region;kernel_rfl)|(apply t_drawn;kernel_rfl;decide +kernel;try simp only [List.append_eq,List.cons_append,List.nil_append])|((with_reducible apply t_condT);exact rfl)|((with_reducible apply t_condF);exact rfl)|(with_reducible apply t_ret)|(with_reducible apply t_skip)|(with_reducible apply t_exit)|(with_reducible apply t_block))|with_reducible apply q_thenN|with_reducible apply q_thenE|((with_reducible apply q_blockE);exact rfl)|((with_reducible apply q_blockO);exact rfl)|exact P0|exact Rdn.zero|apply Rdn.succ|((with_reducible apply Norm.nil);exact rfl)|((with_reducible apply Norm.cons);exact rfl)|(with_reducible apply end_ret)|exact rvs_nil|(with_reducible apply rvs_cons)|((with_reducible apply rv_tmp);exact rfl)|exact pnF_len _|exact Nat.le_of_ble_eq_true rfl|exact (rfl:(_:Bool)=true)|omega|(intro _ _;with_reducible apply tl_id)|(intro _;with_reducible apply tl_id))
     all_goals (rename_i b11 b39 gN cN;refine ⟨_,⟨lo++[⟨some a,xA,xn,xc⟩],P,some (gN,cN),?_,fun _=>hfin,fun h=>absurd rfl h,hlI,fun h=>(by cases h),rfl⟩,?_⟩)
     all_goals first|(simp only [pnS,List.length_append,List.length_singleton,List.length_nil,List.nil_append,hig];rfl)|(simp only [pnH,List.cons_append,List.nil_append];(repeat' (first|exact HpSub.refl _|(apply HpSub.consE;(repeat first|exact P0|apply P1);first|exact rfl|exact pn_snoc _ _|exact pn_snoc1 _ _ _ _ _|(simp [pnCells,pnS];done)|skip)|apply HpSub.skipX)))
   obtain ⟨bG,oG,t,bk,rfl,hgi,e0,e1⟩:=fl_read hg (show i<p.1.length by omega)
   obtain ⟨z,hz⟩:=hleg i (t,bk) hgi
   rw [List.drop_eq_getElem_cons (show i<p.1.length by omega),(List.getElem?_eq_some_iff.1 hgi).2] at hck
   simp only at hck
   have hfl:flC v q1 q2 q3 g0 g1 C L (t,bk)=legC v q1 q2 q3 g0 g1 C z bk:=by unfold flC;rw [hz]
   rw [hfl] at hck
   have HFu:=fun w1 (hx:Ext w w1)=>fuel_calls bD bM AP AT m cM n cp v q1 q2 q3 q4 g0 g1 E C L t z bk w1 (hd.ext hx) hE (hr.ext hx) (by omega) (by have:=(List.getElem?_eq_some_iff.1 hz).1;omega) hz (hL z (List.mem_of_getElem? hz)) hp hcw hC
   unfold fuelV at HFu
   have hcb:=(legC_le hcw hp (hL z (List.mem_of_getElem? hz)) bk).1
   by_cases hop:legC v q1 q2 q3 g0 g1 C z bk<0
   · rw [if_pos hop] at hck
     subst hck
     simp only [if_neg (show ¬ 0≤legC v q1 q2 q3 g0 g1 C z bk by omega),decide_eq_false (show ¬ 0≤legC v q1 q2 q3 g0 g1 C z bk by omega)] at HFu
     repeat' (first|((with_reducible apply oq_id);first|(focus ((with_reducible apply oq_indexAddrN (i:=i));(iterate 4 exact rfl);omega))|(focus ((with_reducible apply oq_indexAddrN (i:=s));(iterate 4 exact rfl);omega))|(focus ((with_reducible apply (oq_subE (m:=fu) (n:=a.1) (k:=fu-a.1)));exact rfl;exact rfl;omega))|((with_reducible apply oq_lssT);exact rfl;exact rfl;omega)|((with_reducible apply oq_lssF);exact rfl;exact rfl;omega)|((with_reducible apply oq_eqlF);exact rfl;exact rfl;omega)|(apply oq_fn;exact rfl;first|exact trivial|(constructor<;>omega)|omega|skip)|((with_reducible apply oq_load);exact rfl;exact rfl)|((with_reducible apply oq_loadAgg);exact rfl;exact rfl)|((with_reducible apply oq_call (hc:=Tryz.call81));exact rfl;exact rfl;exact fun D w1 hw1=>HFu w1 hw1.ext.ext))|((with_reducible apply tl_id);first|(with_reducible apply tl_nil)|((with_reducible apply u_q);(iterate 4 exact rfl))|((with_reducible apply u_s0);exact rfl;exact rfl)|((with_reducible apply u_s);(iterate 3 exact rfl)))|((with_reducible apply gx_id);first|(with_reducible apply v_nil)|((with_reducible apply v_q);(iterate 3 exact rfl)))|((with_reducible apply os_id);first|((with_reducible apply os_x);exact rfl)|((with_reducible apply os_storeAgg);(iterate 5 exact rfl))|((with_reducible apply os_append (hk:=app_ok132));exact rfl;exact rfl;(repeat first|exact P0|apply P1)))|((with_reducible apply ox_id);first|((with_reducible apply ox_alloc);exact rfl;intro _)|((with_reducible apply ox_buildSlice);(iterate 4 exact rfl)))|((with_reducible apply rd_id);first|(apply rd_pn0 hx;(repeat first|exact P0|apply P1);done)|(apply rd_pn1 hx;(repeat first|exact P0|apply P1);done)|(apply rd_pn2 hx;(repeat first|exact P0|apply P1);done)|(apply Rd.own;(repeat first|exact P0|apply P1);exact rfl;done)|(apply Rd.old;(first|(with_reducible assumption)|exact c0|exact c1|exact c2|exact c3|exact c4|exact c5|exact c6|exact c7|exact c8|exact d0|exact d1|exact d2|exact d3|exact d4|exact d5);first|exact List.not_mem_nil|exact m0|exact m1|exact m2|exact m3|exact m4|exact m5|exact m6|exact m7|exact m8|exact m9))|((with_reducible apply t_id);first|(with_reducible apply t_seq)|(apply t_region;kernel_rfl)|(apply t_drawn;kernel_rfl;decide +kernel;try simp only [List.append_eq,List.cons_append,List.nil_append])|((with_reducible apply t_condT);exact rfl)|((with_reducible apply t_condF);exact rfl)|(with_reducible apply t_ret)|(with_reducible apply t_skip)|(with_reducible apply t_block))|with_reducible apply q_thenN|with_reducible apply q_thenR|with_reducible apply q_blockR|exact P0|exact Rdn.zero|apply Rdn.succ|((with_reducible apply Norm.nil);exact rfl)|((with_reducible apply Norm.cons);exact rfl)|(with_reducible apply end_ret)|exact rvs_nil|(with_reducible apply rvs_cons)|((with_reducible apply rv_tmp);exact rfl)|exact pnF_len _|exact Nat.le_of_ble_eq_true rfl|exact (rfl:(_:Bool)=true)|omega|(intro _ _;with_reducible apply tl_id)|(intro _;with_reducible apply tl_id))
     all_goals exact ⟨_,⟨[],[],none,rfl,fun h=>(by cases h),fun _=>rfl,fun x hx=>(by cases hx),fun _=>rfl,rfl⟩,HpSub.nil⟩
   rw [if_neg hop] at hck
   simp only [if_pos (show 0≤legC v q1 q2 q3 g0 g1 C z bk by omega),decide_eq_true (show 0≤legC v q1 q2 q3 g0 g1 C z bk by omega)] at HFu
   repeat' (first|((with_reducible apply oq_id);first|(focus ((with_reducible apply oq_indexAddrN (i:=i));(iterate 4 exact rfl);omega))|(focus ((with_reducible apply oq_indexAddrN (i:=s));(iterate 4 exact rfl);omega))|(focus ((with_reducible apply (oq_subE (m:=fu) (n:=a.1) (k:=fu-a.1)));exact rfl;exact rfl;omega))|((with_reducible apply oq_lssT);exact rfl;exact rfl;omega)|((with_reducible apply oq_lssF);exact rfl;exact rfl;omega)|((with_reducible apply oq_eqlF);exact rfl;exact rfl;omega)|(apply oq_fn;exact rfl;first|exact trivial|(constructor<;>omega)|omega|skip)|((with_reducible apply oq_load);exact rfl;exact rfl)|((with_reducible apply oq_loadAgg);exact rfl;exact rfl)|((with_reducible apply oq_call (hc:=Tryz.call81));exact rfl;exact rfl;exact fun D w1 hw1=>HFu w1 hw1.ext.ext))|((with_reducible apply tl_id);first|(with_reducible apply tl_nil)|((with_reducible apply u_q);(iterate 4 exact rfl))|((with_reducible apply u_s0);exact rfl;exact rfl)|((with_reducible apply u_s);(iterate 3 exact rfl)))|((with_reducible apply gx_id);first|(with_reducible apply v_nil)|((with_reducible apply v_q);(iterate 3 exact rfl)))|((with_reducible apply os_id);first|((with_reducible apply os_x);exact rfl)|((with_reducible apply os_storeAgg);(iterate 5 exact rfl))|((with_reducible apply os_append (hk:=app_ok132));exact rfl;exact rfl;(repeat first|exact P0|apply P1)))|((with_reducible apply ox_id);first|((with_reducible apply ox_alloc);exact rfl;intro _)|((with_reducible apply ox_buildSlice);(iterate 4 exact rfl)))|((with_reducible apply rd_id);first|(apply rd_pn0 hx;(repeat first|exact P0|apply P1);done)|(apply rd_pn1 hx;(repeat first|exact P0|apply P1);done)|(apply rd_pn2 hx;(repeat first|exact P0|apply P1);done)|(apply Rd.own;(repeat first|exact P0|apply P1);exact rfl;done)|(apply Rd.old;(first|(with_reducible assumption)|exact c0|exact c1|exact c2|exact c3|exact c4|exact c5|exact c6|exact c7|exact c8|exact d0|exact d1|exact d2|exact d3|exact d4|exact d5);first|exact List.not_mem_nil|exact m0|exact m1|exact m2|exact m3|exact m4|exact m5|exact m6|exact m7|exact m8|exact m9))|((with_reducible apply t_id);first|(with_reducible apply t_seq)|(apply t_region;kernel_rfl)|(apply t_drawn;kernel_rfl;decide +kernel;try simp only [List.append_eq,List.cons_append,List.nil_append])|((with_reducible apply t_condT);exact rfl)|((with_reducible apply t_condF);exact rfl)|(with_reducible apply t_skip)|(with_reducible apply t_block))|with_reducible apply q_thenN|with_reducible apply q_blockN|exact P0|exact Rdn.zero|apply Rdn.succ|((with_reducible apply Norm.nil);exact rfl)|((with_reducible apply Norm.cons);exact rfl)|exact pnF_len _|exact Nat.le_of_ble_eq_true rfl|exact (rfl:(_:Bool)=true)|omega|(intro _ _;with_reducible apply tl_id)|(intro _;with_reducible apply tl_id))
   all_goals (rename_i b11 b39 gN cN;refine ⟨(i+1,fu-legC v q1 q2 q3 g0 g1 C z bk,lo++[⟨some a,xA,xn,xc⟩],some (gN,cN)),⟨by simp only;omega,hls,hck,hlI,fun h=>(by cases h),by simp only;omega,by simp only;omega⟩,by simp only;omega,?_,?_⟩<;>(try simp only [pnS,pnH,List.nil_append,List.cons_append,List.length_append,List.length_singleton,List.length_nil])<;>(repeat' (first|exact FrSub.nil|(apply FrSub.cons;exact rfl)|exact HpSub.refl _|(apply HpSub.consE;(repeat first|exact P0|apply P1);first|exact rfl|exact pn_snoc _ _|exact pn_snoc1 _ _ _ _ _|(simp [pnCells,pnS];done)|skip)|apply HpSub.skipX)))
theorem check76_no (bT bD bM:Nat) (AS:Option Addr) (cS:Nat) (AG:Option Addr) (cG:Nat) (AP AT:Option Addr) (m cM n cp:Nat) (L:List Lg) (v q1 q2 q3 q4:Int) (g0 g1:Nat) (E:List En) (C:List Wn) (T:List Bool) (p:Trp) (rs:List Int) (w:World) (ht:TrpR w bT bD bM AS cS AG cG AP AT m cM n cp v q1 q2 q3 q4 g0 g1 E p) (hTI:TI L m rs p) (hE:E.map keyOf=deskE v q1 q2 q3 C L n) (hr:RdS w 5 AT n (L.map lgCells)) (hT:RdS w 1 AP m (T.map blCells)) (hn:n≤40) (hm:m≤12) (h20:rs.length≤20) (hL:∀ z∈L,LegOk m z) (hp:PaceOk v q1 q2 q3 q4 g0 g1) (hcw:∀ x∈C,windB x.l=true) (hC:C.length≤4) (fu:Int) (hfu:¬ (0≤fu∧fu≤1099511627776)):Calls Tryz.prog 76 #[.pointer (some ⟨bT,0,none⟩),.int .i64 fu] w fun e w'=>∃ u H',e=.returned u∧ChkV (fun s=>(plansF (arcs (legC v q1 q2 q3 g0 g1 C) L) m (fun s=>T.getD s false) m).getD s none) p.2 (0,2) u H'∧Has w ⟨[],[]⟩ H' w':=by
 refine enterF (c:=cx w 94) Tryz.func76 rfl rfl rfl rfl ?_
 ((all_goals refine gqT6e ?_);(all_goals constructor);(any_goals exact trivial);all_goals intros)
 all_goals exact ⟨_,⟨[],[],none,rfl,fun h=>(by cases h),fun _=>rfl,fun x hx=>(by cases hx),fun _=>rfl,rfl⟩,HpSub.nil⟩
theorem equal1_calls (a b c:Nat×Nat) (w:World):Calls Tryz.prog 65 #[.agg #[.int .i64 (a.1:Nat),.int .i64 (a.2:Nat)],.agg #[.int .i64 (b.1:Nat),.int .i64 (b.2:Nat)],.agg #[.int .i64 (c.1:Nat),.int .i64 (c.2:Nat)]] w fun e w'=>e=.returned (.bool (decide (b.1≤c.1)))∧Ext w w':=by
 obtain ⟨a1,a2⟩:=a
 obtain ⟨b1,b2⟩:=b
 obtain ⟨c1',c2'⟩:=c
 simp only
 by_cases h:b1≤c1'
 · rw [decide_eq_true h]
   refine enterQ (c:=cx w 12) Tryz.func65 rfl rfl rfl rfl ?_
   repeat' (first|((with_reducible apply oq_id);first|((with_reducible apply oq_leqT);exact rfl;exact rfl;omega)|(apply oq_fn;exact rfl;first|exact trivial|(and_intros<;>omega)|omega|skip)|((with_reducible apply oq_load);exact rfl;exact rfl))|((with_reducible apply tl_id);first|(with_reducible apply tl_nil)|((with_reducible apply u_q);(iterate 4 exact rfl))|((with_reducible apply u_s);(iterate 3 exact rfl)))|((with_reducible apply os_id);first|((with_reducible apply os_x);exact rfl))|((with_reducible apply ox_id);first|((with_reducible apply ox_boxAgg);exact rfl;intro _))|((with_reducible apply rd_id);first|(apply Rd.own;(repeat first|exact P0|apply P1);exact rfl;done))|((with_reducible apply t_id);first|(with_reducible apply t_seq)|(apply t_region;kernel_rfl)|(with_reducible apply t_ret))|with_reducible apply q_thenN|(with_reducible apply end_ret)|exact rvs_nil|(with_reducible apply rvs_cons)|((with_reducible apply rv_tmp);exact rfl))
   all_goals rfl
 · rw [decide_eq_false h]
   refine enterQ (c:=cx w 12) Tryz.func65 rfl rfl rfl rfl ?_
   repeat' (first|((with_reducible apply oq_id);first|((with_reducible apply oq_leqF);exact rfl;exact rfl;omega)|(apply oq_fn;exact rfl;first|exact trivial|(and_intros<;>omega)|omega|skip)|((with_reducible apply oq_load);exact rfl;exact rfl))|((with_reducible apply tl_id);first|(with_reducible apply tl_nil)|((with_reducible apply u_q);(iterate 4 exact rfl))|((with_reducible apply u_s);(iterate 3 exact rfl)))|((with_reducible apply os_id);first|((with_reducible apply os_x);exact rfl))|((with_reducible apply ox_id);first|((with_reducible apply ox_boxAgg);exact rfl;intro _))|((with_reducible apply rd_id);first|(apply Rd.own;(repeat first|exact P0|apply P1);exact rfl;done))|((with_reducible apply t_id);first|(with_reducible apply t_seq)|(apply t_region;kernel_rfl)|(with_reducible apply t_ret))|with_reducible apply q_thenN|(with_reducible apply end_ret)|exact rvs_nil|(with_reducible apply rvs_cons)|((with_reducible apply rv_tmp);exact rfl))
   all_goals rfl
def ledE (m:Nat) (L:List Lg) (v q1 q2 q3 q4 g0 g1:Int) (C:List Wn) (s:Int) (rs:List Int):Int:=
 if askE m L v q1 q2 q3 q4 g0 g1 C=0 then (if rs.length≤20 then (match tripI m L s rs with|none=>2|some _=>0) else 4) else askE m L v q1 q2 q3 q4 g0 g1 C
theorem travel_err (AM A:Option Addr) (m cM n cp:Nat) (L:List Lg) (w:World) (hr:RdS w 5 A n (L.map lgCells)) (hn:n≤1000000) (hm:m≤1000000) (v q1 q2 q3 q4 g0 g1:Int) (AC:Option Addr) (nC cC:Nat) (C:List Wn) (hrc:CastR w AC nC C) (hs:∀ z∈C,z.n≤1000000) (s:Int) (AR:Option Addr) (nR cR:Nat) (rs:List Int) (hR:RdS w 1 AR nR (rs.map inCells)) (hnR:nR≤1000000) (he:ledE m L v q1 q2 q3 q4 g0 g1 C s rs≠0):Calls Tryz.prog 57 #[.agg #[.slice AM m cM,.slice A n cp],.agg #[.int .i64 v,.int .i64 q1,.int .i64 q2,.int .i64 q3,.int .i64 q4,.int .i64 g0,.int .i64 g1],.slice AC nC cC,.int .i64 s,.slice AR nR cR] w fun e w'=>e=.returned (.tuple #[.pointer none,.int .i64 (ledE m L v q1 q2 q3 q4 g0 g1 C s rs)])∧Ext w w':=by
 by_cases hE:askE m L v q1 q2 q3 q4 g0 g1 C=0
 rotate_left
 · rw [show ledE m L v q1 q2 q3 q4 g0 g1 C s rs=askE m L v q1 q2 q3 q4 g0 g1 C from if_neg hE]
   exact travel_no AM A m cM n cp L w hr hn hm v q1 q2 q3 q4 g0 g1 AC nC cC C hrc hs s AR nR cR rs hR hnR hE
 by_cases h20:rs.length≤20
 rotate_left
 · rw [show ledE m L v q1 q2 q3 q4 g0 g1 C s rs=4 by unfold ledE;rw [if_pos hE,if_neg h20]]
   exact travel_many AM A m cM n cp L w hr hn hm v q1 q2 q3 q4 g0 g1 AC nC cC C hrc hs s AR nR cR rs hR hnR hE (by omega)
 cases hp:tripI m L s rs with
 | some p=>exact absurd (by unfold ledE;rw [if_pos hE,if_pos h20,hp]) he
 | none=>
   rw [show ledE m L v q1 q2 q3 q4 g0 g1 C s rs=2 by unfold ledE;rw [if_pos hE,if_pos h20,hp]]
   have h:=travel_ok AM A m cM n cp L w hr hn hm v q1 q2 q3 q4 g0 g1 AC nC cC C hrc hs s AR nR cR rs hR hnR hE h20
   rw [hp] at h
   exact h.mono fun e w' ⟨u,H',h1,⟨h2,h3⟩,h4⟩=>⟨by rw [h1,h2],h4.ext.ext⟩
noncomputable def chkE (m:Nat) (L:List Lg) (T:List Bool) (v q1 q2 q3 q4:Int) (g0 g1:Nat) (C:List Wn) (p:Trp) (fu:Int):Int×Int:=if 0≤fu∧fu≤1099511627776 then chkF (fun s=>(plansF (arcs (legC v q1 q2 q3 g0 g1 C) L) m (fun s=>T.getD s false) m).getD s none) (flC v q1 q2 q3 g0 g1 C L) q4 0 p.2 p.1 fu else (0,2)
theorem check27_err (AM A:Option Addr) (m cM n cp:Nat) (L:List Lg) (w:World) (hr:RdS w 5 A n (L.map lgCells)) (hn:n≤1000000) (hm:m≤1000000) (v q1 q2 q3 q4 g0 g1:Int) (AC:Option Addr) (nC cC:Nat) (C:List Wn) (hrc:CastR w AC nC C) (hs:∀ z∈C,z.n≤1000000) (s:Int) (AR:Option Addr) (nR cR:Nat) (rs:List Int) (hR:RdS w 1 AR nR (rs.map inCells)) (hnR:nR≤1000000) (he:ledE m L v q1 q2 q3 q4 g0 g1 C s rs≠0) (fu:Int):Calls Tryz.prog 27 #[.agg #[.slice AM m cM,.slice A n cp],.agg #[.int .i64 v,.int .i64 q1,.int .i64 q2,.int .i64 q3,.int .i64 q4,.int .i64 g0,.int .i64 g1],.slice AC nC cC,.int .i64 s,.slice AR nR cR,.int .i64 fu] w fun e w'=>e=.returned (.tuple #[.int .i64 0,.int .i64 (ledE m L v q1 q2 q3 q4 g0 g1 C s rs)])∧Ext w w':=by
 have HN:=fun w1 (hx:Ext w w1)=>travel_err AM A m cM n cp L w1 (hr.ext hx) hn hm v q1 q2 q3 q4 g0 g1 AC nC cC C (hrc.ext hx) hs s AR nR cR rs (hR.ext hx) hnR he
 generalize ledE m L v q1 q2 q3 q4 g0 g1 C s rs=e0 at *
 refine enterQ (c:=cx w 36) Tryz.func27 rfl rfl rfl rfl ?_
 ((all_goals refine gqT0e ?_);(all_goals constructor);(any_goals exact trivial);all_goals intros)
 all_goals rfl
theorem check27_ok (AM A:Option Addr) (m cM n cp:Nat) (L:List Lg) (w:World) (hr:RdS w 5 A n (L.map lgCells)) (hn:n≤1000000) (hm:m≤1000000) (v q1 q2 q3 q4:Int) (g0 g1:Nat) (AC:Option Addr) (nC cC:Nat) (C:List Wn) (hrc:CastR w AC nC C) (hs:∀ z∈C,z.n≤1000000) (s:Int) (AR:Option Addr) (nR cR:Nat) (rs:List Int) (hR:RdS w 1 AR nR (rs.map inCells)) (hnR:nR≤1000000) (hE:askE m L v q1 q2 q3 q4 (g0:Nat) (g1:Nat) C=0) (h20:rs.length≤20) (p:Trp) (htr:tripI m L s rs=some p) (T:List Bool) (hT:RdS w 1 AM m (T.map blCells)) (fu:Int):Calls Tryz.prog 27 #[.agg #[.slice AM m cM,.slice A n cp],.agg #[.int .i64 v,.int .i64 q1,.int .i64 q2,.int .i64 q3,.int .i64 q4,.int .i64 (g0:Nat),.int .i64 (g1:Nat)],.slice AC nC cC,.int .i64 s,.slice AR nR cR,.int .i64 fu] w fun e w'=>e=.returned (.tuple #[.int .i64 (chkE m L T v q1 q2 q3 q4 g0 g1 C p fu).1,.int .i64 (chkE m L T v q1 q2 q3 q4 g0 g1 C p fu).2])∧Ext w w':=by
 have HO:=fun w1 (hx:Ext w w1)=>travel_ok AM A m cM n cp L w1 (hr.ext hx) hn hm v q1 q2 q3 q4 g0 g1 AC nC cC C (hrc.ext hx) hs s AR nR cR rs (hR.ext hx) hnR hE h20
 rw [htr] at HO
 obtain ⟨hch,hpk,hk0⟩:=askE_ok hE
 obtain ⟨hcl,hcw⟩:=castE_zero.1 hk0
 have hlc:=hrc.len
 obtain ⟨hm1,hL40,hLk⟩:=chartB_iff.1 hch
 have hl:L.length=n:=by simpa using hr.len
 have hTI:=trip_in hLk htr
 have HK:=fun bT bD bM bS cS E AG cG w1 (hx:Ext w w1) (ht:TrpR w1 bT bD bM (some ⟨bS,0,none⟩) cS AG cG AM A m cM n cp v q1 q2 q3 q4 g0 g1 E p) hE2=>(by
   unfold chkE
   split
   · rename_i hfu
     exact check76_calls bT bD bM (some ⟨bS,0,none⟩) cS AG cG AM A m cM n cp L v q1 q2 q3 q4 g0 g1 E C T p rs w1 ht hTI hE2 (hr.ext hx) (hT.ext hx) (by omega) (by omega) h20 hLk hpk hcw (by omega) fu hfu _ rfl
   · rename_i hfu
     exact check76_no bT bD bM (some ⟨bS,0,none⟩) cS AG cG AM A m cM n cp L v q1 q2 q3 q4 g0 g1 E C T p rs w1 ht hTI hE2 (hr.ext hx) (hT.ext hx) (by omega) (by omega) h20 hLk hpk hcw (by omega) fu hfu:Calls Tryz.prog 76 #[.pointer (some ⟨bT,0,none⟩),.int .i64 fu] w1 fun e w'=>∃ u H',e=.returned u∧ChkV (fun s=>(plansF (arcs (legC v q1 q2 q3 g0 g1 C) L) m (fun s=>T.getD s false) m).getD s none) p.2 (chkE m L T v q1 q2 q3 q4 g0 g1 C p fu) u H'∧Has w1 ⟨[],[]⟩ H' w')
 obtain ⟨ce,hce⟩:∃ ce,chkE m L T v q1 q2 q3 q4 g0 g1 C p fu=ce:=⟨_,rfl⟩
 rw [hce] at HK ⊢
 refine enterQ (c:=cx w 36) Tryz.func27 rfl rfl rfl rfl ?_
 repeat' (first|((with_reducible apply oq_id);first|((with_reducible apply oq_neqF);exact rfl;exact rfl;omega)|(apply oq_fn;exact rfl;first|exact trivial|(constructor<;>omega)|omega|skip)|((with_reducible apply oq_loadAgg);exact rfl;exact rfl))|((with_reducible apply tl_id);first|(with_reducible apply tl_nil)|((with_reducible apply u_s);(iterate 3 exact rfl);(with_reducible apply os_callS (PV:=TravV AM _ m cM n cp v q1 q2 q3 q4 g0 g1 C L (some p)) (hc:=Tryz.call57));exact rfl;exact rfl;exact fun D w1 hw1=>HO w1 hw1.ext.ext;rintro _ _ ⟨bT,bD,bM,bS,cS,E,o,rfl,ho,rfl,hE2,hnl⟩;simp only [List.cons_append,List.nil_append])|((with_reducible apply u_s);(iterate 3 exact rfl);(with_reducible apply os_callS (PV:=ChkV _ p.2 ce) (hc:=Tryz.call76));exact rfl;exact rfl;exact fun D w1 hw1=>(by obtain ⟨AG,cG,ht⟩:=TrpR.of_has (hw1.sub (by repeat (first|exact HpSub.refl _|apply HpSub.skipX))) ho hnl;exact HK bT bD bM bS cS E AG cG w1 hw1.ext.ext ht hE2);rintro _ _ ⟨l,P,o2,rfl,hl1,hl2,hlI,ho2,rfl⟩;simp only [List.cons_append,List.nil_append])|((with_reducible apply u_q);(iterate 4 exact rfl))|((with_reducible apply u_s);(iterate 3 exact rfl)))|((with_reducible apply os_id);first|((with_reducible apply os_x);exact rfl))|((with_reducible apply ox_id);first|((with_reducible apply ox_boxAgg);exact rfl;intro _))|((with_reducible apply rd_id);first|(apply Rd.own;(repeat first|exact P0|apply P1);exact rfl;done))|((with_reducible apply t_id);first|(with_reducible apply t_seq)|(apply t_region;kernel_rfl)|((with_reducible apply t_condF);exact rfl)|(with_reducible apply t_ret)|(with_reducible apply t_skip))|with_reducible apply q_thenN|exact Rdn.zero|apply Rdn.succ|(with_reducible apply end_ret)|exact rvs_nil|(with_reducible apply rvs_cons)|((with_reducible apply rv_tmp);exact rfl))
 all_goals rfl
abbrev Rz:=List Nat×Option (Nat×Nat)
def rzV (r:Rz):Value:=sN r.1 r.2
def rzK (a:Hp) (r:Rz):Hp:=hN r.1 r.2++a
def rzB (R:List Rz):Hp:=R.foldl rzK []
theorem rzB_snoc (R:List Rz) (r:Rz):rzB (R++[r])=hN r.1 r.2++rzB R:=by simp [rzB,rzK,List.foldl_append]
def lzS (R:List Rz):Option (Nat×Nat)→Value
 | none=>.slice none 0 0
 | some (b,cap)=>.slice (some ⟨b,0,none⟩) R.length cap
def lzH (R:List Rz):Option (Nat×Nat)→Hp
 | none=>[]
 | some (b,cap)=>(b,R.map rzV,some (31,1,cap))::rzB R
theorem lzM_len (R:List Rz):(R.map rzV).length=R.length*1:=by simp
def AltV (a:List (List Nat)×Int) (u:Value) (H:Hp):Prop:=∃ R o,u=.tuple #[lzS R o,.int .i64 a.2]∧R.map Prod.fst=a.1∧(∀ r∈R,r.2=none→r.1=[])∧(o=none→R=[])∧H=lzH R o
noncomputable def altE (m:Nat) (L:List Lg) (T:List Bool) (v q1 q2 q3 q4:Int) (g0 g1:Nat) (C:List Wn) (p:Trp) (fu:Int):List (List Nat)×Int:=(if (chkE m L T v q1 q2 q3 q4 g0 g1 C p fu).2=0 then p.2.map (fun s=>plL ((fun s=>(plansF (arcs (legC v q1 q2 q3 g0 g1 C) L) m (fun s=>T.getD s false) m).getD s none) s)) else [],(chkE m L T v q1 q2 q3 q4 g0 g1 C p fu).2)
theorem oq_eqNilT {c:Cx} {F:Fr} {H:Hp} {d:Option Tmp} {ty t t':TypeId} {pos:String} {af:Array Edge} {g:Option (Nat×Bool)} {x y:Operand} {e s0:Nat} {a0:Bool} {z0:List Value} (ht:tyAt c.tys t=some ⟨a0,s0,z0,.slice e⟩)
   (hx:ev F x=some (.slice none 0 0)) (hy:ev F y=some (.slice none 0 0)):OQ c ⟨d,.binOp .eql t x y t',ty,pos,af,g⟩ F H (.bool true):=.of fun D a w ha _=>by
 have hk:=(c.ty ht).kind w
 have e0:(Op.equalIn 10000 t (.slice none 0 0) (.slice none 0 0)).run c.P w=.ok true w:=by
   have key:∀ d:Nat,(Op.equalIn (d+1) t (.slice none 0 0) (.slice none 0 0)).run c.P w=.ok true w:=fun d=>by
     simp only [Op.equalIn,Sem.run_bind,hk,Result.andThen,Sem.run_pure,Option.isNone]
   exact key 9999
 have e:(binOp .eql t (.slice none 0 0) (.slice none 0 0)).run c.P w=.ok (.bool true) w:=by
   simp only [binOp,Op.equal,Op.maxDepth,Sem.run_bind,e0,Result.andThen,Sem.run_pure]
 have e1:(eqGuard .eql t x y (.slice none 0 0) (.slice none 0 0)).run c.P w=.ok () w:=by simp [eqGuard,go_sem]
 simp only [execOp,ha.ev hx,ha.ev hy,Sem.run_bind,e,e1,Result.andThen,Sem.run_pure]
theorem clone78_nil (w:World):Calls Tryz.prog 78 #[.slice none 0 0] w fun e w'=>e=.returned (.slice none 0 0)∧Ext w w':=by
 refine enterQ (c:=cx w 8) Tryz.func78 rfl rfl rfl rfl ?_
 ((all_goals refine gqT6e ?_);(all_goals constructor);(any_goals exact trivial);all_goals intros)
 all_goals rfl
theorem clone78_calls (g n c:Nat) (l:List Nat) (w:World) (hr:RdS w 1 (some ⟨g,0,none⟩) n ((cI l).map inCells)) (hn:n≤1000000):Calls Tryz.prog 78 #[.slice (some ⟨g,0,none⟩) n c] w fun e w'=>∃ u H',e=.returned u∧(∃ b cap,u=.slice (some ⟨b,0,none⟩) n cap∧H'=[(b,(cI l).map iv,some (3,1,cap))])∧Has w ⟨[],[]⟩ H' w':=by
 refine enterF (c:=cx w 8) Tryz.func78 rfl rfl rfl rfl ?_
 repeat' (first|((with_reducible apply oq_id);first|((with_reducible apply oq_eqNil);(iterate 3 exact rfl))|(apply oq_fn;exact rfl;first|exact trivial|(constructor<;>omega)|omega|skip))|((with_reducible apply tl_id);first|(with_reducible apply tl_nil)|((with_reducible apply u_s);(iterate 3 exact rfl);((with_reducible apply (os_appendU (hk:=app_ok31) (rows:=(cI l).map inCells)));exact rfl;exact rfl;(repeat first|exact P0|apply P1);exact fun D w1 hw1=>hr.ext hw1.ext.ext;exact in_rows_len;exact rfl;exact in_rows_one;omega;omega;intro bN cN))|((with_reducible apply u_q);(iterate 4 exact rfl))|((with_reducible apply u_s);(iterate 3 exact rfl)))|((with_reducible apply os_id);first|((with_reducible apply os_x);exact rfl))|((with_reducible apply ox_id);first|((with_reducible apply ox_buildSlice1);(iterate 6 exact rfl);intro _))|((with_reducible apply t_id);first|(with_reducible apply t_seq)|(apply t_region;kernel_rfl)|((with_reducible apply t_condF);exact rfl)|(with_reducible apply t_ret)|(with_reducible apply t_skip))|with_reducible apply q_thenN|(with_reducible apply end_ret)|exact rvs_nil|(with_reducible apply rvs_cons)|((with_reducible apply rv_tmp);exact rfl))
 all_goals (refine ⟨_,⟨bN,cN,(by first|rfl|(rw [Nat.zero_add];rfl)),rfl⟩,?_⟩;(try simp only [List.append_nil,List.nil_append,in_flat]);exact HpSub.refl _)
def eqP (a b c:Nat×Nat):Bool:=decide (b.1≤c.1)
theorem eqP_anti:∀ a a' b b' c c',leP a a'→leP b b'→leP c' c→eqP a' b' c'=true→eqP a b c=true:=fun a a' b b' c c' h1 h2 h3 h=>by
 unfold eqP leP at *
 rw [decide_eq_true_eq] at *
 omega
theorem equal18_ok (AM A:Option Addr) (m cM n cp:Nat) (L:List Lg) (w:World) (hr:RdS w 5 A n (L.map lgCells)) (hn:n≤1000000) (hm:m≤1000000) (v q1 q2 q3 q4:Int) (g0 g1:Nat) (AC:Option Addr) (nC cC:Nat) (C:List Wn) (hrc:CastR w AC nC C) (hs:∀ z∈C,z.n≤1000000) (s:Int) (AR:Option Addr) (nR cR:Nat) (rs:List Int) (hR:RdS w 1 AR nR (rs.map inCells)) (hnR:nR≤1000000) (hE:askE m L v q1 q2 q3 q4 (g0:Nat) (g1:Nat) C=0) (h20:rs.length≤20) (p:Trp) (htr:tripI m L s rs=some p):Calls Tryz.prog 18 #[.agg #[.slice AM m cM,.slice A n cp],.agg #[.int .i64 v,.int .i64 q1,.int .i64 q2,.int .i64 q3,.int .i64 q4,.int .i64 (g0:Nat),.int .i64 (g1:Nat)],.slice AC nC cC,.int .i64 s,.slice AR nR cR] w fun e w'=>e=.returned (.tuple #[.agg #[.int .i64 ((ptR v q1 q2 q3 g0 g1 C L p eqP).1.1:Nat),.int .i64 ((ptR v q1 q2 q3 g0 g1 C L p eqP).1.2:Nat)],.int .i64 (ptR v q1 q2 q3 g0 g1 C L p eqP).2])∧Ext w w':=by
 have HO:=fun w1 (hx:Ext w w1)=>travel_ok AM A m cM n cp L w1 (hr.ext hx) hn hm v q1 q2 q3 q4 g0 g1 AC nC cC C (hrc.ext hx) hs s AR nR cR rs (hR.ext hx) hnR hE h20
 rw [htr] at HO
 obtain ⟨hch,hpk,hk0⟩:=askE_ok hE
 obtain ⟨hcl,hcw⟩:=castE_zero.1 hk0
 have hlc:=hrc.len
 obtain ⟨hm1,hL40,hLk⟩:=chartB_iff.1 hch
 have hl:L.length=n:=by simpa using hr.len
 have hTI:=trip_in hLk htr
 have HL:=fun bT bD bM bS cS E AG cG w1 (hx:Ext w w1) (ht:TrpR w1 bT bD bM (some ⟨bS,0,none⟩) cS AG cG AM A m cM n cp v q1 q2 q3 q4 g0 g1 E p) hE2=>last58_calls bT bD bM (some ⟨bS,0,none⟩) cS AG cG AM A m cM n cp L v q1 q2 q3 q4 g0 g1 E C p rs w1 ht hTI hE2 (hr.ext hx) (by omega) (by omega) h20 hLk hpk hcw (by omega) 65 [] Tryz.call65 eqP (fun a b c hab w2 h2=>equal1_calls a b c w2) (anti_of (fun x m m' h=>bilL_mono h) eqP_anti)
 unfold ptR
 generalize lasR p.1 (opB (flC v q1 q2 q3 g0 g1 C L) p.1) (hpL (bilL v q1 q2 q3 g0 g1 C L) (lnL L) p.1 eqP) (lnG (lnL L) p.1)=res at *
 refine enterQ (c:=cx w 31) Tryz.func18 rfl rfl rfl rfl ?_
 repeat' (first|((with_reducible apply oq_id);first|((with_reducible apply oq_neqF);exact rfl;exact rfl;omega)|(apply oq_fn;exact rfl;first|exact trivial|(and_intros<;>omega)|omega|skip)|((with_reducible apply oq_loadAgg);exact rfl;exact rfl)|((with_reducible apply oq_call (hc:=Tryz.call58));exact rfl;exact rfl;exact fun D w1 hw1=>(by obtain ⟨AG,cG,ht⟩:=TrpR.of_has (hw1.sub (by repeat (first|exact HpSub.refl _|apply HpSub.skipX))) ho hnl;exact HL bT bD bM bS cS E AG cG w1 hw1.ext.ext ht hE2 )))|((with_reducible apply tl_id);first|(with_reducible apply tl_nil)|((with_reducible apply u_s);(iterate 3 exact rfl);(with_reducible apply os_callS (PV:=TravV AM _ m cM n cp v q1 q2 q3 q4 g0 g1 C L (some p)) (hc:=Tryz.call57));exact rfl;exact rfl;exact fun D w1 hw1=>HO w1 hw1.ext.ext;rintro _ _ ⟨bT,bD,bM,bS,cS,E,o,rfl,ho,rfl,hE2,hnl⟩;simp only [List.cons_append,List.nil_append])|((with_reducible apply u_q);(iterate 4 exact rfl))|((with_reducible apply u_s0);exact rfl;exact rfl)|((with_reducible apply u_s);(iterate 3 exact rfl)))|((with_reducible apply os_id);first|((with_reducible apply os_x);exact rfl)|((with_reducible apply os_storeAgg);(iterate 5 exact rfl)))|((with_reducible apply ox_id);first|((with_reducible apply ox_alloc);exact rfl;intro _)|((with_reducible apply ox_boxAgg);exact rfl;intro _))|((with_reducible apply rd_id);first|(apply Rd.own;(repeat first|exact P0|apply P1);exact rfl;done))|((with_reducible apply t_id);first|(with_reducible apply t_seq)|(apply t_region;kernel_rfl)|((with_reducible apply t_condF);exact rfl)|(with_reducible apply t_ret)|(with_reducible apply t_skip))|with_reducible apply q_thenN|exact P0|exact Rdn.zero|apply Rdn.succ|((with_reducible apply Norm.nil);exact rfl)|((with_reducible apply Norm.cons);exact rfl)|(with_reducible apply end_ret)|exact rvs_nil|(with_reducible apply rvs_cons)|((with_reducible apply rv_tmp);exact rfl)|((with_reducible apply rv_cellAgg);exact rfl;exact rfl)|exact Nat.le_of_ble_eq_true rfl)
 all_goals rfl
theorem pnS_form {l:List Pn} {o:Option (Nat×Nat)} (h:o=none→l=[]):∃ A c,pnS l o=.slice A l.length c∧∀ i,i<l.length→∃ g,A=some ⟨g,0,none⟩∧o=some (g,c):=by
 rcases o with _|⟨g,c⟩
 · rw [h rfl]
   exact ⟨none,0,rfl,fun i hi=>absurd hi (Nat.not_lt_zero _)⟩
 · exact ⟨some ⟨g,0,none⟩,c,rfl,fun i _=>⟨g,rfl,rfl⟩⟩
theorem alt29_ok (AM A:Option Addr) (m cM n cp:Nat) (L:List Lg) (w:World) (hr:RdS w 5 A n (L.map lgCells)) (hn:n≤1000000) (hm:m≤1000000) (v q1 q2 q3 q4:Int) (g0 g1:Nat) (AC:Option Addr) (nC cC:Nat) (C:List Wn) (hrc:CastR w AC nC C) (hs:∀ z∈C,z.n≤1000000) (s:Int) (AR:Option Addr) (nR cR:Nat) (rs:List Int) (hR:RdS w 1 AR nR (rs.map inCells)) (hnR:nR≤1000000) (hE:askE m L v q1 q2 q3 q4 (g0:Nat) (g1:Nat) C=0) (h20:rs.length≤20) (p:Trp) (htr:tripI m L s rs=some p) (T:List Bool) (hT:RdS w 1 AM m (T.map blCells)) (fu:Int):Calls Tryz.prog 29 #[.agg #[.slice AM m cM,.slice A n cp],.agg #[.int .i64 v,.int .i64 q1,.int .i64 q2,.int .i64 q3,.int .i64 q4,.int .i64 (g0:Nat),.int .i64 (g1:Nat)],.slice AC nC cC,.int .i64 s,.slice AR nR cR,.int .i64 fu] w fun e w'=>∃ u H',e=.returned u∧AltV (altE m L T v q1 q2 q3 q4 g0 g1 C p fu) u H'∧Has w ⟨[],[]⟩ H' w':=by
 have HO:=fun w1 (hx:Ext w w1)=>travel_ok AM A m cM n cp L w1 (hr.ext hx) hn hm v q1 q2 q3 q4 g0 g1 AC nC cC C (hrc.ext hx) hs s AR nR cR rs (hR.ext hx) hnR hE h20
 rw [htr] at HO
 obtain ⟨hch,hpk,hk0⟩:=askE_ok hE
 obtain ⟨hcl,hcw⟩:=castE_zero.1 hk0
 have hlc:=hrc.len
 obtain ⟨hm1,hL40,hLk⟩:=chartB_iff.1 hch
 have hl:L.length=n:=by simpa using hr.len
 have hTI:=trip_in hLk htr
 have HK:=fun bT bD bM bS cS E AG cG w1 (hx:Ext w w1) (ht:TrpR w1 bT bD bM (some ⟨bS,0,none⟩) cS AG cG AM A m cM n cp v q1 q2 q3 q4 g0 g1 E p) hE2=>(by
   unfold chkE
   split
   · rename_i hfu
     exact check76_calls bT bD bM (some ⟨bS,0,none⟩) cS AG cG AM A m cM n cp L v q1 q2 q3 q4 g0 g1 E C T p rs w1 ht hTI hE2 (hr.ext hx) (hT.ext hx) (by omega) (by omega) h20 hLk hpk hcw (by omega) fu hfu _ rfl
   · rename_i hfu
     exact check76_no bT bD bM (some ⟨bS,0,none⟩) cS AG cG AM A m cM n cp L v q1 q2 q3 q4 g0 g1 E C T p rs w1 ht hTI hE2 (hr.ext hx) (hT.ext hx) (by omega) (by omega) h20 hLk hpk hcw (by omega) fu hfu:Calls Tryz.prog 76 #[.pointer (some ⟨bT,0,none⟩),.int .i64 fu] w1 fun e w'=>∃ u H',e=.returned u∧ChkV (fun s=>(plansF (arcs (legC v q1 q2 q3 g0 g1 C) L) m (fun s=>T.getD s false) m).getD s none) p.2 (chkE m L T v q1 q2 q3 q4 g0 g1 C p fu) u H'∧Has w1 ⟨[],[]⟩ H' w')
 unfold altE
 obtain ⟨ce,hce⟩:∃ ce,chkE m L T v q1 q2 q3 q4 g0 g1 C p fu=ce:=⟨_,rfl⟩
 rw [hce] at HK ⊢
 refine enterF (c:=cx w 55) Tryz.func29 rfl rfl rfl rfl ?_
 repeat' (first|((with_reducible apply oq_id);first|((with_reducible apply oq_neqF);exact rfl;exact rfl;omega)|(apply oq_fn;exact rfl;first|exact trivial|(constructor<;>omega)|omega|skip)|((with_reducible apply oq_loadAgg);exact rfl;exact rfl))|((with_reducible apply tl_id);first|(with_reducible apply tl_nil)|((with_reducible apply u_s);(iterate 3 exact rfl);(with_reducible apply os_callS (PV:=TravV AM _ m cM n cp v q1 q2 q3 q4 g0 g1 C L (some p)) (hc:=Tryz.call57));exact rfl;exact rfl;exact fun D w1 hw1=>HO w1 hw1.ext.ext;rintro _ _ ⟨bT,bD,bM,bS,cS,E,o,rfl,ho,rfl,hE2,hnl⟩;simp only [List.cons_append,List.nil_append])|((with_reducible apply u_s);(iterate 3 exact rfl);(with_reducible apply os_callS (PV:=ChkV _ p.2 ce) (hc:=Tryz.call76));exact rfl;exact rfl;exact fun D w1 hw1=>(by obtain ⟨AG,cG,ht⟩:=TrpR.of_has (hw1.sub (by repeat (first|exact HpSub.refl _|apply HpSub.skipX))) ho hnl;exact HK bT bD bM bS cS E AG cG w1 hw1.ext.ext ht hE2);rintro _ _ ⟨l,P,o2,rfl,hl1,hl2,hlI,ho2,rfl⟩;obtain ⟨AL,cL,hAL,hAL2⟩:=pnS_form ho2;rw [hAL];simp only [List.cons_append,List.nil_append])|((with_reducible apply u_q);(iterate 4 exact rfl))|((with_reducible apply u_s);(iterate 3 exact rfl)))|((with_reducible apply os_id);first|((with_reducible apply os_x);exact rfl))|((with_reducible apply ox_id);first|((with_reducible apply ox_boxAgg);exact rfl;intro _))|((with_reducible apply rd_id);first|(apply Rd.own;(repeat first|exact P0|apply P1);exact rfl;done))|((with_reducible apply t_id);first|(with_reducible apply t_seq)|(apply t_region;kernel_rfl)|((with_reducible apply t_condF);exact rfl)|(with_reducible apply t_skip)|(with_reducible apply t_block))|with_reducible apply q_thenN|exact Rdn.zero|apply Rdn.succ)
 have hl30:l.length≤30:=by
   by_cases h:ce.2=0
   · have h1:=congrArg List.length (hl1 h)
     have h2:=hTI.2.1
     simp only [List.length_map] at h1
     omega
   · rw [hl2 h];simp
 apply t_loopP (ι:=Nat×List Rz×Option (Nat×Nat)) [40,41,15] (fun z=>[(42,.int .i64 ((z.1:Nat):Int)),(18,lzS z.2.1 z.2.2)]) (fun z=>pnH l o2++(lzH z.2.1 z.2.2++poolH P)) (fun z=>z.1≤l.length∧z.2.1.map Prod.fst=(l.take z.1).map (fun y=>plL y.p)∧(∀ r∈z.2.1,r.2=none→r.1=[])∧(z.2.2=none→z.2.1=[])) (fun z=>l.length-z.1) (0,[],none)
 (repeat (first|exact KeepF.nil|(apply KeepF.cons;exact rfl)|apply KeepF.skip))
 (repeat first|exact FrSub.nil|(apply FrSub.cons;exact rfl))
 (try simp only [List.cons_append,List.nil_append])
 (repeat' (first|exact HpSub.refl _|apply HpSub.skipX|apply HpSub.skipApp))
 · exact ⟨Nat.zero_le _,rfl,fun r hr=>(by cases hr),fun _=>rfl⟩
 rintro ⟨i,R,o⟩ ⟨hi,hR1,hR2,hR3⟩
 simp only at hi hR1 hR2 hR3
 try simp only [List.cons_append,List.nil_append]
 by_cases hlt:i<l.length
 rotate_left
 · obtain rfl:i=l.length:=by omega
   rw [List.take_of_length_le (by omega)] at hR1
   ((all_goals refine gqU0e ?_);(all_goals constructor);(any_goals exact trivial);all_goals intros)
   all_goals (refine ⟨_,⟨R,o,rfl,?_,hR2,hR3,rfl⟩,HpSub.skipApp HpSub.appLeft⟩)
   rw [hR1]
   by_cases h:ce.2=0
   · have h1:=congrArg (List.map plL) (hl1 h)
     rw [List.map_map,List.map_map] at h1
     simp only [if_pos h]
     exact h1
   · simp only [if_neg h,hl2 h,List.map_nil]
 obtain ⟨gO,rfl,rfl⟩:=hAL2 i hlt
 obtain ⟨x,hx⟩:∃ x,l[i]?=some x:=⟨_,List.getElem?_eq_getElem hlt⟩
 have hin:=hlI x (List.mem_of_getElem? hx)
 have hRl:R.length=i:=by have:=congrArg List.length hR1;simpa [List.length_take,Nat.min_eq_left (show i≤l.length by omega)] using this
 have hxl:(plL x.p).length≤1000000:=by
   by_cases h:ce.2=0
   · have hm':x.p∈p.2.map (fun s=>(plansF (arcs (legC v q1 q2 q3 g0 g1 C) L) m (fun s=>T.getD s false) m).getD s none):=by rw [← hl1 h];exact List.mem_map.2 ⟨x,List.mem_of_getElem? hx,rfl⟩
     obtain ⟨s',_,hs'⟩:=List.mem_map.1 hm'
     cases hxp:x.p with
     | none=>exact Nat.zero_le _
     | some a=>
       rw [hxp] at hs'
       have h12:=(need_bound hpk hcw hLk (by omega) hs').2.2
       show a.2.length≤_
       omega
   · rw [hl2 h] at hlt
     exact absurd hlt (Nat.not_lt_zero _)
 have hst:∀ r:Rz,r.1=plL x.p→(R++[r]).map Prod.fst=(l.take (i+1)).map (fun y=>plL y.p):=fun r hr=>by
   rw [List.take_add_one,hx,List.map_append,List.map_append,hR1]
   simp [hr]
 have hrw:∀ (r q:Rz),q∈R++[r]→(r.2=none→r.1=[])→q.2=none→q.1=[]:=fun r q hq hr=>by
   rcases List.mem_append.1 hq with hq|hq
   · exact hR2 q hq
   · obtain rfl:=List.mem_singleton.1 hq
     exact hr
 obtain ⟨xp,xA,xn,xc⟩:=x
 rcases hin with ⟨h1,h2,h3,h4⟩|⟨rb,hrb,h1,h2,h3,h4⟩
 · simp only at h1 h2 h3 h4
   subst h2 h3 h4
   simp only [h1] at hst
   rcases o with _|⟨bO,cO'⟩
   · obtain rfl:=hR3 rfl
     simp only [lzS,lzH,pnH,List.nil_append,List.cons_append]
     ((all_goals refine gqU0e ?_);(all_goals constructor);(any_goals exact trivial);all_goals intros)
     all_goals (rename_i b20 b50 bN cN;refine ⟨(i+1,[]++[(([]:List Nat),(none:Option (Nat×Nat)))],some (bN,cN)),⟨by simp only;omega,?_,?_,fun h=>(by cases h)⟩,by simp only;omega,?_,?_⟩)
     all_goals first|(simp only;exact hst _ rfl)|(intro q hq;exact hrw _ q hq (fun _=>rfl))|(simp only [lzS,lzH,rzB_snoc,hN,List.map_append,List.map_cons,List.map_nil,List.nil_append,List.cons_append,List.append_nil,List.length_append,List.length_singleton,List.length_nil];(repeat' (first|exact FrSub.nil|(apply FrSub.cons;exact rfl)|exact HpSub.refl _|(apply HpSub.consE;(repeat first|exact P0|apply P1);first|exact rfl|(simp [rzV,sN];done)|skip)|apply HpSub.skipX)))
   · simp only [lzS,lzH,pnH,List.nil_append,List.cons_append]
     ((all_goals refine gqU0e ?_);(all_goals constructor);(any_goals exact trivial);all_goals intros)
     all_goals (rename_i b20 b50 bN cN;refine ⟨(i+1,R++[(([]:List Nat),(none:Option (Nat×Nat)))],some (bN,cN)),⟨by simp only;omega,?_,?_,fun h=>(by cases h)⟩,by simp only;omega,?_,?_⟩)
     all_goals first|(simp only;exact hst _ rfl)|(intro q hq;exact hrw _ q hq (fun _=>rfl))|(simp only [lzS,lzH,rzB_snoc,hN,List.map_append,List.map_cons,List.map_nil,List.nil_append,List.cons_append,List.append_nil,List.length_append,List.length_singleton,List.length_nil];(repeat' (first|exact FrSub.nil|(apply FrSub.cons;exact rfl)|exact HpSub.refl _|(apply HpSub.consE;(repeat first|exact P0|apply P1);first|exact rfl|(simp [rzV,sN];done)|skip)|apply HpSub.skipX)))
 · simp only at h1 h2 h3 h4
   subst h2 h3 h4
   simp only [← h1] at hst
   have hrl:rb.2.1=rb.2.1:=rfl
   have HRb:=fun D w1 H1 (hw1:Has w ⟨[],D⟩ H1 w1) (hs:HpSub H1 (poolH P))=>Blk.rows (rows:=(cI rb.2.1).map inCells) (n:=rb.2.1.length) (k:=1) (by rw [in_flat];exact pool_blk (hw1.sub hs) rb hrb) (by simp [cI]) in_rows_len
   have hrn:rb.2.1.length≤1000000:=by rw [h1];exact hxl
   rcases o with _|⟨bO,cO'⟩
   · obtain rfl:=hR3 rfl
     simp only [lzS,lzH,pnH,List.nil_append,List.cons_append]
     repeat' (first|((with_reducible apply oq_id);first|(focus ((with_reducible apply oq_indexAddrN (i:=i));(iterate 4 exact rfl);omega))|((with_reducible apply oq_lssT);exact rfl;exact rfl;omega)|(apply oq_fn;exact rfl;first|exact trivial|(constructor<;>omega)|omega|skip)|((with_reducible apply oq_load);exact rfl;exact rfl)|((with_reducible apply oq_loadAgg);exact rfl;exact rfl))|((with_reducible apply tl_id);first|(with_reducible apply tl_nil)|((with_reducible apply u_s);(iterate 3 exact rfl);(with_reducible apply os_callF (PV:=fun u H'=>∃ b cap,u=Value.slice (some ⟨b,0,none⟩) rb.2.1.length cap∧H'=[(b,(cI rb.2.1).map iv,some (3,1,cap))]) (hc:=Tryz.call78));exact rfl;exact rfl;exact fun D w1 hw1=>clone78_calls _ _ _ rb.2.1 w1 (HRb D w1 _ hw1 (by repeat (first|exact HpSub.refl _|apply HpSub.skipX|apply HpSub.skipApp))) (by omega);rintro _ _ ⟨bC,cC',rfl,rfl⟩;simp only [List.cons_append,List.nil_append])|((with_reducible apply u_q);(iterate 4 exact rfl))|((with_reducible apply u_s0);exact rfl;exact rfl)|((with_reducible apply u_s);(iterate 3 exact rfl)))|((with_reducible apply os_id);first|((with_reducible apply os_x);exact rfl)|((with_reducible apply os_storeAgg);(iterate 5 exact rfl))|((with_reducible apply os_appendNil (hk:=app_ok57));exact rfl;exact rfl))|((with_reducible apply ox_id);first|((with_reducible apply ox_alloc);exact rfl;intro _)|((with_reducible apply ox_buildSlice1);(iterate 6 exact rfl);intro _))|((with_reducible apply rd_id);first|(apply rd_pn0 hx;(repeat first|exact P0|apply P1);done)|(apply rd_pn1 hx;(repeat first|exact P0|apply P1);done)|(apply rd_pn2 hx;(repeat first|exact P0|apply P1);done)|(apply Rd.own;(repeat first|exact P0|apply P1);exact rfl;done))|((with_reducible apply t_id);first|(with_reducible apply t_seq)|(apply t_region;kernel_rfl)|((with_reducible apply t_condT);exact rfl)|(with_reducible apply t_skip)|(with_reducible apply t_block))|with_reducible apply q_thenN|with_reducible apply q_blockN|exact P0|exact Rdn.zero|apply Rdn.succ|((with_reducible apply Norm.nil);exact rfl)|((with_reducible apply Norm.cons);exact rfl)|exact Nat.le_of_ble_eq_true rfl|exact (rfl:(_:Bool)=true)|(intro _ _;with_reducible apply tl_id))
     all_goals (rename_i b20 b50 bN cN;refine ⟨(i+1,[]++[(rb.2.1,some (bC,cC'))],some (bN,cN)),⟨by simp only;omega,?_,?_,fun h=>(by cases h)⟩,by simp only;omega,?_,?_⟩)
     all_goals first|(simp only;exact hst _ (by first|rfl|exact hrl))|(intro q hq;exact hrw _ q hq (fun h=>(by cases h)))|(simp only [lzS,lzH,rzB_snoc,hN,List.map_append,List.map_cons,List.map_nil,List.nil_append,List.cons_append,List.append_nil,List.length_append,List.length_singleton,List.length_nil];(repeat' (first|exact FrSub.nil|(apply FrSub.cons;exact rfl)|exact HpSub.refl _|(apply HpSub.consE;(repeat first|exact P0|apply P1);first|exact rfl|(simp [rzV,sN];done)|skip)|apply HpSub.skipX)))
   · simp only [lzS,lzH,pnH,List.nil_append,List.cons_append]
     repeat' (first|((with_reducible apply oq_id);first|(focus ((with_reducible apply oq_indexAddrN (i:=i));(iterate 4 exact rfl);omega))|((with_reducible apply oq_lssT);exact rfl;exact rfl;omega)|(apply oq_fn;exact rfl;first|exact trivial|(constructor<;>omega)|omega|skip)|((with_reducible apply oq_load);exact rfl;exact rfl)|((with_reducible apply oq_loadAgg);exact rfl;exact rfl))|((with_reducible apply tl_id);first|(with_reducible apply tl_nil)|((with_reducible apply u_s);(iterate 3 exact rfl);(with_reducible apply os_callF (PV:=fun u H'=>∃ b cap,u=Value.slice (some ⟨b,0,none⟩) rb.2.1.length cap∧H'=[(b,(cI rb.2.1).map iv,some (3,1,cap))]) (hc:=Tryz.call78));exact rfl;exact rfl;exact fun D w1 hw1=>clone78_calls _ _ _ rb.2.1 w1 (HRb D w1 _ hw1 (by repeat (first|exact HpSub.refl _|apply HpSub.skipX|apply HpSub.skipApp))) (by omega);rintro _ _ ⟨bC,cC',rfl,rfl⟩;simp only [List.cons_append,List.nil_append])|((with_reducible apply u_q);(iterate 4 exact rfl))|((with_reducible apply u_s0);exact rfl;exact rfl)|((with_reducible apply u_s);(iterate 3 exact rfl)))|((with_reducible apply os_id);first|((with_reducible apply os_x);exact rfl)|((with_reducible apply os_storeAgg);(iterate 5 exact rfl))|((with_reducible apply os_append (hk:=app_ok57));exact rfl;exact rfl;(repeat first|exact P0|apply P1)))|((with_reducible apply ox_id);first|((with_reducible apply ox_alloc);exact rfl;intro _)|((with_reducible apply ox_buildSlice1);(iterate 6 exact rfl);intro _))|((with_reducible apply rd_id);first|(apply rd_pn0 hx;(repeat first|exact P0|apply P1);done)|(apply rd_pn1 hx;(repeat first|exact P0|apply P1);done)|(apply rd_pn2 hx;(repeat first|exact P0|apply P1);done)|(apply Rd.own;(repeat first|exact P0|apply P1);exact rfl;done))|((with_reducible apply t_id);first|(with_reducible apply t_seq)|(apply t_region;kernel_rfl)|((with_reducible apply t_condT);exact rfl)|(with_reducible apply t_skip)|(with_reducible apply t_block))|with_reducible apply q_thenN|with_reducible apply q_blockN|exact P0|exact Rdn.zero|apply Rdn.succ|((with_reducible apply Norm.nil);exact rfl)|((with_reducible apply Norm.cons);exact rfl)|exact lzM_len _|exact Nat.le_of_ble_eq_true rfl|exact (rfl:(_:Bool)=true)|omega|(intro _ _;with_reducible apply tl_id))
     all_goals (rename_i b20 b50 bN cN;refine ⟨(i+1,R++[(rb.2.1,some (bC,cC'))],some (bN,cN)),⟨by simp only;omega,?_,?_,fun h=>(by cases h)⟩,by simp only;omega,?_,?_⟩)
     all_goals first|(simp only;exact hst _ (by first|rfl|exact hrl))|(intro q hq;exact hrw _ q hq (fun h=>(by cases h)))|(simp only [lzS,lzH,rzB_snoc,hN,List.map_append,List.map_cons,List.map_nil,List.nil_append,List.cons_append,List.append_nil,List.length_append,List.length_singleton,List.length_nil];(repeat' (first|exact FrSub.nil|(apply FrSub.cons;exact rfl)|exact HpSub.refl _|(apply HpSub.consE;(repeat first|exact P0|apply P1);first|exact rfl|(simp [rzV,sN];done)|skip)|apply HpSub.skipX)))
def no3' (a b c d:Int):Value:=.tuple #[.agg #[.int .i64 a,.int .i64 b],.agg #[.int .i64 c,.int .i64 d],.int .i64 0]
section
variable {z:Wn} (hz:z.l=exG)
include hz
theorem exPartA:partR 3 exL 200 600 200 800 100 6 12 [z] 0 true 50000=no3' 4237 5103 423 1021:=by
 unfold partR
 rw [if_pos (exE hz),if_pos (by decide)]
 show (if 0≤(50000:Int)∧(50000:Int)≤lenV 300 400 then fullV (legRz 200 600 200 800 ⟨0,1,300,400,500⟩ true [z]) 50000 6 12 else no3 2)=_
 rw [len_a,if_pos (by decide),exR_eq hz 0 _ true rfl]
 unfold fullV
 rw [if_neg (by decide)]
 rfl
theorem exPartB:partR 3 exL 200 600 200 800 100 6 12 [z] 1 false 30000=no3' 1229 1409 122 282:=by
 unfold partR
 rw [if_pos (exE hz),if_pos (by decide)]
 show (if 0≤(30000:Int)∧(30000:Int)≤lenV 300 0 then fullV (legRz 200 600 200 800 ⟨1,2,300,0,200⟩ false [z]) 30000 6 12 else no3 2)=_
 rw [len_b,if_pos (by decide),exR_eq hz 1 _ false rfl]
 unfold fullV
 rw [if_neg (by decide)]
 rfl
theorem exPartC:partR 3 exL 200 600 200 800 100 6 12 [z] 1 true 30000=no3' 1948 2440 194 488:=by
 unfold partR
 rw [if_pos (exE hz),if_pos (by decide)]
 show (if 0≤(30000:Int)∧(30000:Int)≤lenV 300 0 then fullV (legRz 200 600 200 800 ⟨1,2,300,0,200⟩ true [z]) 30000 6 12 else no3 2)=_
 rw [len_b,if_pos (by decide),exR_eq hz 1 _ true rfl]
 unfold fullV
 rw [if_neg (by decide)]
 rfl
theorem exNeed:needR 3 exL exT 200 600 200 800 100 6 12 [z] 1=(382,0):=by
 unfold needR lfG
 rw [if_pos (by exact exE hz),if_pos (by decide),exA hz]
 decide +kernel
theorem exChkA:chkE 3 exL exT 200 600 200 800 100 6 12 [z] exP 739=(1,64):=by
 unfold chkE
 rw [if_pos (by decide),exA hz,exF hz]
 decide +kernel
theorem exChkB:chkE 3 exL exT 200 600 200 800 100 6 12 [z] exP 740=(2,0):=by
 unfold chkE
 rw [if_pos (by decide),exA hz,exF hz]
 decide +kernel
theorem exAlt:altE 3 exL exT 200 600 200 800 100 6 12 [z] exP 740=([[],[1],[]],0):=by
 unfold altE
 rw [exChkB hz,exA hz]
 decide +kernel
theorem exEqu:ptR 200 600 200 800 6 12 [z] exL exP eqP=((0,23196),0):=by
 unfold ptR
 rw [exF hz,exBil hz,exN_eq]
 exact las_val rfl (by decide +kernel) (by decide +kernel) (by decide +kernel) (by decide +kernel) (by decide +kernel) (by decide +kernel) (anti_of (fun x m m' h=>bilV_mono h) eqP_anti)
theorem exE9:askE 3 exL 200 600 200 699 100 6 12 [z]=0:=by
 have hw:windB z.l=true:=hz ▸ (by decide +kernel:windB exG=true)
 unfold askE
 rw [if_pos (by decide +kernel),if_pos (by decide +kernel)]
 simp [castE,hw]
theorem exR9:∀ (t:Nat) (y:Lg) (bk:Bool),exL[t]?=some y→legRz 200 600 200 699 y bk [z]=if t=1 then exR (t,bk) else []:=by
 intro t y bk hy
 have h2:windV z.l 600 600=((30,60),(80,80),0):=hz ▸ exW2
 match t,hy with
 | 0,hy=>
   obtain rfl:=Option.some.inj hy
   unfold legRz legR
   rw [if_pos (by decide),if_neg (by decide)]
 | 1,hy=>
   obtain rfl:=Option.some.inj hy
   rw [if_pos rfl]
   cases bk with
   | false=>exact legR_one (by decide) (wrate_val h2 al_e al_f (rate_val (x:=33600) (y:=33600) (r:=183) (s:=183) (by decide +kernel) (by decide +kernel) (by decide +kernel) ⟨by decide,by decide,by decide⟩ ⟨by decide,by decide,by decide⟩ (by decide) (by decide) (by decide)))
   | true=>exact legR_one (by decide) (wrate_val h2 al_g al_h (rate_val (x:=33600) (y:=33600) (r:=183) (s:=183) (by decide +kernel) (by decide +kernel) (by decide +kernel) ⟨by decide,by decide,by decide⟩ ⟨by decide,by decide,by decide⟩ (by decide) (by decide) (by decide)))
 | t+2,hy=>cases hy
theorem exPart9:partR 3 exL 200 600 200 699 100 6 12 [z] 0 false 0=no3 63:=by
 unfold partR
 rw [if_pos (exE9 hz),if_pos (by decide)]
 show (if 0≤(0:Int)∧(0:Int)≤lenV 300 400 then fullV (legRz 200 600 200 699 ⟨0,1,300,400,500⟩ false [z]) 0 6 12 else no3 2)=_
 rw [len_a,if_pos (by decide),exR9 hz 0 _ false rfl]
 rfl
def exC9 (y:Lg) (bk:Bool):Int:=if y.h=500 then -1 else (if bk then 488 else 282)
theorem exC9_eq:∀ y∈exL,∀ bk,legC 200 600 200 699 6 12 [z] y bk=exC9 y bk:=by
 intro y hy bk
 obtain ⟨t,ht⟩:=List.getElem?_of_mem hy
 have h:=exR9 hz t y bk ht
 unfold legC
 rw [h]
 match t,ht with
 | 0,ht=>
   obtain rfl:=Option.some.inj ht
   rfl
 | 1,ht=>
   obtain rfl:=Option.some.inj ht
   show (if exR (1,bk)=[] then (-1:Int) else ((aH (hullT (lenV 300 0).toNat (exR (1,bk))).1 (hullT (lenV 300 0).toNat (exR (1,bk))).2 6 12 8:Nat):Int))=_
   rw [len_b]
   cases bk<;>decide +kernel
 | t+2,ht=>cases ht
theorem exBest9:(bestR 3 exL 200 600 200 699 100 6 12 [z] 0 2)=([],0,6):=by
 unfold bestR lfG
 rw [if_pos (by exact exE9 hz),if_pos (by decide),arcs_congr (exC9_eq hz)]
 decide +kernel
omit hz in
theorem exNoA:ptR 200 600 200 800 6 12 [z] exL ([],[0]) (noP 740 100)=((0,0),2):=by
 unfold ptR lasR
 exact if_pos rfl
theorem exNoB:ptR 200 600 200 800 6 12 [z] exL ([(0,false)],[0,1]) (noP 99 100)=((0,0),64):=by
 unfold ptR
 rw [exF hz,exBil hz,exN_eq]
 unfold lasR
 rw [if_neg (by decide),if_neg (by decide +kernel)]
 have:lstP (hpL (fun x me=>bilV (exR x) me 6 12) exN [(0,false)] (noP 99 100)) (lnG exN [(0,false)]) ([(0,false)]:List (Nat×Bool)).length=none:=by decide +kernel
 rw [this]
theorem exLedA:ledE 3 exL 200 600 200 800 100 6 12 [z] 0 [1]=2:=by
 unfold ledE
 rw [if_pos (exE hz)]
 decide +kernel
theorem exLedB:ledE 3 exL 200 600 200 800 100 6 12 [z] 0 (List.replicate 21 0)=4:=by
 unfold ledE
 rw [if_pos (exE hz)]
 decide +kernel
end
theorem exIsP9 {e h:Int} {P:List Nat} (hP:IsP 3 3 exH 0 9 e h P):e=2∧h=0∧P=[]:=by
 cases hP with
 | ground h=>exact absurd h (by decide)
 | arg h ha=>exact ⟨rfl,rfl,rfl⟩
 | @ok w n x y k h L P hT hw hn hx hy xn yn hh hB hD hP=>
   obtain rfl:n=9:=by rw [← hn];rfl
   omega
structure LisZ (w:World) (A:Option Addr) (n:Nat) (L:List (List Nat)):Prop where
 len:L.length=n
 ex:∃ R:List (List Nat×Option Addr×Nat),RdS w 1 A n (R.map fun r=>[Value.slice r.2.1 r.1.length r.2.2])∧R.map Prod.fst=L∧∀ r∈R,RdS w 1 r.2.1 r.1.length ((cI r.1).map inCells)
theorem mem_rzB:∀ {R:List Rz} (a:Hp) {x:Nat×List Value×Tg},(x∈a∨∃ r∈R,∃ b c,r.2=some (b,c)∧x=(b,(cI r.1).map iv,some (3,1,c)))→x∈R.foldl rzK a
 | [],a,x,h=>by
   rcases h with h|⟨r,hr,_⟩
   · exact h
   · cases hr
 | q::R,a,x,h=>by
   refine mem_rzB (rzK a q) ?_
   rcases h with h|⟨r,hr,b,c,e,e2⟩
   · exact .inl (List.mem_append_right _ h)
   · rcases List.mem_cons.1 hr with rfl|hr
     · refine .inl (List.mem_append_left _ ?_)
       rw [e,e2]
       exact List.mem_singleton.2 rfl
     · exact .inr ⟨r,hr,b,c,e,e2⟩
def rzA (r:Rz):Option Addr:=match r.2 with
 | none=>none
 | some (b,_)=>some ⟨b,0,none⟩
def rzC (r:Rz):Nat:=match r.2 with
 | none=>0
 | some (_,c)=>c
theorem rzV_form {r:Rz} (h:r.2=none→r.1=[]):rzV r=.slice (rzA r) r.1.length (rzC r):=by
 obtain ⟨l,o⟩:=r
 rcases o with _|⟨b,c⟩
 · obtain rfl:l=[]:=h rfl
   rfl
 · rfl
theorem lzS_form {R:List Rz} {o:Option (Nat×Nat)} (h:o=none→R=[]):∃ A c,lzS R o=.slice A R.length c∧(0<R.length→∃ b,A=some ⟨b,0,none⟩∧o=some (b,c))∧∀ (w0:World) (M:Ms) (w:World),Has w0 M (lzH R o) w→(∀ r∈R,r.2=none→r.1=[])→LisZ w A R.length (R.map Prod.fst):=by
 rcases o with _|⟨b,c⟩
 · rw [h rfl]
   exact ⟨none,0,rfl,fun h=>absurd h (Nat.lt_irrefl _),fun w0 M w _ _=>⟨rfl,[],RdS.nil _ _ _,rfl,fun r hr=>(by cases hr)⟩⟩
 · refine ⟨some ⟨b,0,none⟩,c,rfl,fun _=>⟨b,rfl,rfl⟩,fun w0 M w hw hr=>⟨by simp,R.map fun r=>(r.1,rzA r,rzC r),?_,by rw [List.map_map];rfl,fun q hq=>?_⟩⟩
   · have hb:=(hw.blk (b,R.map rzV,some (31,1,c)) (List.mem_cons_self ..)).2
     have e:(R.map fun r=>(r.1,rzA r,rzC r)).map (fun r=>[Value.slice r.2.1 r.1.length r.2.2])=R.map fun r=>[rzV r]:=by
       rw [List.map_map]
       refine List.map_congr_left fun r hm=>?_
       rw [rzV_form (hr r hm)]
       rfl
     rw [e]
     have e2:(R.map fun r=>[rzV r]).flatten=R.map rzV:=by
       clear hb e h hr hw
       induction R with
       | nil=>rfl
       | cons a R ih=>simp only [List.map_cons,List.flatten_cons,ih];rfl
     exact Blk.rows (g:=some (31,1,c)) (by rw [e2];exact hb) (by simp) (by simp only [List.mem_map];rintro r ⟨x,_,rfl⟩;rfl)
   · obtain ⟨r,hm,rfl⟩:=List.mem_map.1 hq
     simp only
     cases ho:r.2 with
     | none=>
       rw [hr r hm ho]
       exact RdS.nil _ _ _
     | some bc=>
       obtain ⟨b',c'⟩:=bc
       have hb:=(hw.blk (b',(cI r.1).map iv,some (3,1,c')) (List.mem_cons_of_mem _ (mem_rzB [] (.inr ⟨r,hm,b',c',ho,rfl⟩)))).2
       rw [show rzA r=some ⟨b',0,none⟩ by unfold rzA;rw [ho]]
       exact Blk.rows (g:=some (3,1,c')) (by rw [in_flat];exact hb) (by simp [cI]) in_rows_len
theorem lisz_read {w:World} {A:Option Addr} {n:Nat} {L:List (List Nat)} (h:LisZ w A n L) {i:Nat} (hi:i<n) :
   ∃ b o l A' c',A=some ⟨b,o,none⟩∧L[i]?=some l∧w.cell? ⟨b,o+i*1,none⟩=some (.slice A' l.length c')∧RdS w 1 A' l.length ((cI l).map inCells):=by
 obtain ⟨h0,R,h1,h2,h3⟩:=h
 obtain ⟨b,o,cs,hA,hb,hx,_,hc⟩:=h1.row hi
 simp only [List.getElem?_map,Option.map_eq_some_iff] at hx
 obtain ⟨r,hx,rfl⟩:=hx
 exact ⟨b,o,r.1,r.2.1,r.2.2,hA,by rw [← h2,List.getElem?_map,hx];rfl,hc 0 _ rfl,h3 r (List.mem_of_getElem? hx)⟩
theorem sameListsZ_calls (A B:Option Addr) (n c c':Nat) (L:List (List Nat)) (w:World) (hA:LisZ w A n L) (hB:LisZ w B n L) (hn:n≤1000000) (hL:∀ x∈L,x.length≤1000000):Calls Tryz.prog 33 #[.slice A n c,.slice B n c'] w fun e w'=>e=.returned (.bool true)∧Ext w w':=by
 refine enterQ (c:=cx w 27) Tryz.func33 rfl rfl rfl rfl ?_
 ((all_goals refine gqT0e ?_);(all_goals constructor);(any_goals exact trivial);all_goals intros)
 apply t_loopK (ι:=Nat) [0,1] (fun k=>[(5,.int .i64 ((k:Nat):Int))]) (fun _=>[]) (fun k=>k≤n) (fun k=>n-k) (0)
 (repeat (first|exact KeepF.nil|(apply KeepF.cons;exact rfl)|apply KeepF.skip))
 (repeat first|exact FrSub.nil|(apply FrSub.cons;exact rfl))
 (repeat (first|exact HpSub.refl _|(apply HpSub.consE;(repeat first|exact P0|apply P1);exact rfl)|exact HpSub.nil))
 · exact Nat.zero_le _
 rintro k hk
 try simp only [List.cons_append,List.nil_append]
 by_cases hlt:k<n
 · obtain ⟨bA,oA,l,A1,c1,rfl,hl1,c0,hq⟩:=lisz_read hA hlt
   obtain ⟨bB,oB,l',A2,c2,rfl,hl2,d0,hq'⟩:=lisz_read hB hlt
   rw [hl1] at hl2
   obtain rfl:=Option.some.inj hl2
   have hln:=hL l (List.mem_of_getElem? hl1)
   ((all_goals refine gqT0e ?_);(all_goals constructor);(any_goals exact trivial);all_goals intros)
   all_goals (refine ⟨k+1,by omega,by omega,?_,?_⟩<;>(repeat' (first|exact FrSub.nil|(apply FrSub.cons;exact rfl)|exact HpSub.refl _)))
 · ((all_goals refine gqT0e ?_);(all_goals constructor);(any_goals exact trivial);all_goals intros)
   all_goals rfl
theorem ex_partA {b1 b2 b g:Nat} {w:World} (hT:RdS w 1 (some ⟨b1,0,none⟩) 3 (exT.map blCells)) (hr:RdS w 5 (some ⟨b2,0,none⟩) 2 (exL.map lgCells)) (hc:CastR w (some ⟨b,0,none⟩) 1 [exW g]):Calls Tryz.prog 37 #[.agg #[.slice (some ⟨b1,0,none⟩) 3 3,.slice (some ⟨b2,0,none⟩) 2 2],.agg #[.int .i64 200,.int .i64 600,.int .i64 200,.int .i64 800,.int .i64 100,.int .i64 6,.int .i64 12],.slice (some ⟨b,0,none⟩) 1 1,.int .i64 0,.bool true,.int .i64 50000] w fun e w'=>e=.returned (.tuple #[.agg #[.int .i64 4237,.int .i64 5103],.agg #[.int .i64 423,.int .i64 1021],.int .i64 0])∧Ext w w':=by
 have h:=part16_calls (some ⟨b1,0,none⟩) _ 3 3 2 2 exL w hr (by decide) (by decide) 200 600 200 800 100 6 12 _ 1 1 [exW g] hc (fun z hz=>by obtain rfl:=List.mem_singleton.1 hz;exact (by decide:1≤1000000)) 0 true 50000
 rw [exPartA (z:=exW g) rfl] at h
 exact h
theorem ex_partB {b1 b2 b g:Nat} {w:World} (hT:RdS w 1 (some ⟨b1,0,none⟩) 3 (exT.map blCells)) (hr:RdS w 5 (some ⟨b2,0,none⟩) 2 (exL.map lgCells)) (hc:CastR w (some ⟨b,0,none⟩) 1 [exW g]):Calls Tryz.prog 37 #[.agg #[.slice (some ⟨b1,0,none⟩) 3 3,.slice (some ⟨b2,0,none⟩) 2 2],.agg #[.int .i64 200,.int .i64 600,.int .i64 200,.int .i64 800,.int .i64 100,.int .i64 6,.int .i64 12],.slice (some ⟨b,0,none⟩) 1 1,.int .i64 1,.bool false,.int .i64 30000] w fun e w'=>e=.returned (.tuple #[.agg #[.int .i64 1229,.int .i64 1409],.agg #[.int .i64 122,.int .i64 282],.int .i64 0])∧Ext w w':=by
 have h:=part16_calls (some ⟨b1,0,none⟩) _ 3 3 2 2 exL w hr (by decide) (by decide) 200 600 200 800 100 6 12 _ 1 1 [exW g] hc (fun z hz=>by obtain rfl:=List.mem_singleton.1 hz;exact (by decide:1≤1000000)) 1 false 30000
 rw [exPartB (z:=exW g) rfl] at h
 exact h
theorem ex_partC {b1 b2 b g:Nat} {w:World} (hT:RdS w 1 (some ⟨b1,0,none⟩) 3 (exT.map blCells)) (hr:RdS w 5 (some ⟨b2,0,none⟩) 2 (exL.map lgCells)) (hc:CastR w (some ⟨b,0,none⟩) 1 [exW g]):Calls Tryz.prog 37 #[.agg #[.slice (some ⟨b1,0,none⟩) 3 3,.slice (some ⟨b2,0,none⟩) 2 2],.agg #[.int .i64 200,.int .i64 600,.int .i64 200,.int .i64 800,.int .i64 100,.int .i64 6,.int .i64 12],.slice (some ⟨b,0,none⟩) 1 1,.int .i64 1,.bool true,.int .i64 30000] w fun e w'=>e=.returned (.tuple #[.agg #[.int .i64 1948,.int .i64 2440],.agg #[.int .i64 194,.int .i64 488],.int .i64 0])∧Ext w w':=by
 have h:=part16_calls (some ⟨b1,0,none⟩) _ 3 3 2 2 exL w hr (by decide) (by decide) 200 600 200 800 100 6 12 _ 1 1 [exW g] hc (fun z hz=>by obtain rfl:=List.mem_singleton.1 hz;exact (by decide:1≤1000000)) 1 true 30000
 rw [exPartC (z:=exW g) rfl] at h
 exact h
theorem ex_part9 {b1 b2 b g:Nat} {w:World} (hT:RdS w 1 (some ⟨b1,0,none⟩) 3 (exT.map blCells)) (hr:RdS w 5 (some ⟨b2,0,none⟩) 2 (exL.map lgCells)) (hc:CastR w (some ⟨b,0,none⟩) 1 [exW g]):Calls Tryz.prog 37 #[.agg #[.slice (some ⟨b1,0,none⟩) 3 3,.slice (some ⟨b2,0,none⟩) 2 2],.agg #[.int .i64 200,.int .i64 600,.int .i64 200,.int .i64 699,.int .i64 100,.int .i64 6,.int .i64 12],.slice (some ⟨b,0,none⟩) 1 1,.int .i64 0,.bool false,.int .i64 0] w fun e w'=>e=.returned (.tuple #[.agg #[.int .i64 0,.int .i64 0],.agg #[.int .i64 0,.int .i64 0],.int .i64 63])∧Ext w w':=by
 have h:=part16_calls (some ⟨b1,0,none⟩) _ 3 3 2 2 exL w hr (by decide) (by decide) 200 600 200 699 100 6 12 _ 1 1 [exW g] hc (fun z hz=>by obtain rfl:=List.mem_singleton.1 hz;exact (by decide:1≤1000000)) 0 false 0
 rw [exPart9 (z:=exW g) rfl] at h
 exact h
theorem ex_len (b1 b2:Nat) (w:World) (hr:RdS w 5 (some ⟨b2,0,none⟩) 2 (exL.map lgCells)) (i n:Int) (h:lengthR 3 exL i=(n,0)):Calls Tryz.prog 44 #[.agg #[.slice (some ⟨b1,0,none⟩) 3 3,.slice (some ⟨b2,0,none⟩) 2 2],.int .i64 i] w fun e w'=>e=.returned (.tuple #[.int .i64 n,.int .i64 0])∧Ext w w':=by
 have h':=routeLength_calls (some ⟨b1,0,none⟩) _ 3 3 2 2 exL w hr (by decide) (by decide) i
 rw [h] at h'
 exact h'
theorem ex_len0:lengthR 3 exL 0=(50000,0):=by
 have hc:chartB 3 exL=true:=by decide +kernel
 unfold lengthR;rw [if_pos hc];simp [exL,len_a]
theorem ex_len1:lengthR 3 exL 1=(30000,0):=by
 have hc:chartB 3 exL=true:=by decide +kernel
 unfold lengthR;rw [if_pos hc];simp [exL,len_b]
theorem ex_need {b1 b2 b g:Nat} {w:World} (hT:RdS w 1 (some ⟨b1,0,none⟩) 3 (exT.map blCells)) (hr:RdS w 5 (some ⟨b2,0,none⟩) 2 (exL.map lgCells)) (hc:CastR w (some ⟨b,0,none⟩) 1 [exW g]):Calls Tryz.prog 23 #[.agg #[.slice (some ⟨b1,0,none⟩) 3 3,.slice (some ⟨b2,0,none⟩) 2 2],.agg #[.int .i64 200,.int .i64 600,.int .i64 200,.int .i64 800,.int .i64 100,.int .i64 6,.int .i64 12],.slice (some ⟨b,0,none⟩) 1 1,.int .i64 1] w fun e w'=>e=.returned (.tuple #[.int .i64 382,.int .i64 0])∧Ext w w':=by
 have h:=need23_calls (some ⟨b1,0,none⟩) _ 3 3 2 2 exL exT w hT hr (by decide) (by decide) 200 600 200 800 100 6 12 _ 1 1 [exW g] hc (fun z hz=>by obtain rfl:=List.mem_singleton.1 hz;exact (by decide:1≤1000000)) 1
 rw [exNeed (z:=exW g) rfl] at h
 exact h
theorem ex_chkA {b1 b2 b g:Nat} {w:World} (hT:RdS w 1 (some ⟨b1,0,none⟩) 3 (exT.map blCells)) (hr:RdS w 5 (some ⟨b2,0,none⟩) 2 (exL.map lgCells)) (hc:CastR w (some ⟨b,0,none⟩) 1 [exW g]) (A:Option Addr) (cp:Nat) (hR:RdS w 1 A 2 (([0,1]:List Int).map inCells)):Calls Tryz.prog 27 #[.agg #[.slice (some ⟨b1,0,none⟩) 3 3,.slice (some ⟨b2,0,none⟩) 2 2],.agg #[.int .i64 200,.int .i64 600,.int .i64 200,.int .i64 800,.int .i64 100,.int .i64 6,.int .i64 12],.slice (some ⟨b,0,none⟩) 1 1,.int .i64 0,.slice A 2 cp,.int .i64 739] w fun e w'=>e=.returned (.tuple #[.int .i64 1,.int .i64 64])∧Ext w w':=by
 have h:=check27_ok (some ⟨b1,0,none⟩) _ 3 3 2 2 exL w hr (by decide) (by decide) 200 600 200 800 100 6 12 _ 1 1 [exW g] hc (fun z hz=>by obtain rfl:=List.mem_singleton.1 hz;exact (by decide:1≤1000000)) 0 A 2 cp [0,1] hR (by decide) (exE rfl) (by decide) exP exTrip exT hT 739
 rw [exChkA (z:=exW g) rfl] at h
 exact h
theorem ex_chkB {b1 b2 b g:Nat} {w:World} (hT:RdS w 1 (some ⟨b1,0,none⟩) 3 (exT.map blCells)) (hr:RdS w 5 (some ⟨b2,0,none⟩) 2 (exL.map lgCells)) (hc:CastR w (some ⟨b,0,none⟩) 1 [exW g]) (A:Option Addr) (cp:Nat) (hR:RdS w 1 A 2 (([0,1]:List Int).map inCells)):Calls Tryz.prog 27 #[.agg #[.slice (some ⟨b1,0,none⟩) 3 3,.slice (some ⟨b2,0,none⟩) 2 2],.agg #[.int .i64 200,.int .i64 600,.int .i64 200,.int .i64 800,.int .i64 100,.int .i64 6,.int .i64 12],.slice (some ⟨b,0,none⟩) 1 1,.int .i64 0,.slice A 2 cp,.int .i64 740] w fun e w'=>e=.returned (.tuple #[.int .i64 2,.int .i64 0])∧Ext w w':=by
 have h:=check27_ok (some ⟨b1,0,none⟩) _ 3 3 2 2 exL w hr (by decide) (by decide) 200 600 200 800 100 6 12 _ 1 1 [exW g] hc (fun z hz=>by obtain rfl:=List.mem_singleton.1 hz;exact (by decide:1≤1000000)) 0 A 2 cp [0,1] hR (by decide) (exE rfl) (by decide) exP exTrip exT hT 740
 rw [exChkB (z:=exW g) rfl] at h
 exact h
theorem ex_alt {b1 b2 b g:Nat} {w:World} (hT:RdS w 1 (some ⟨b1,0,none⟩) 3 (exT.map blCells)) (hr:RdS w 5 (some ⟨b2,0,none⟩) 2 (exL.map lgCells)) (hc:CastR w (some ⟨b,0,none⟩) 1 [exW g]) (A:Option Addr) (cp:Nat) (hR:RdS w 1 A 2 (([0,1]:List Int).map inCells)):Calls Tryz.prog 29 #[.agg #[.slice (some ⟨b1,0,none⟩) 3 3,.slice (some ⟨b2,0,none⟩) 2 2],.agg #[.int .i64 200,.int .i64 600,.int .i64 200,.int .i64 800,.int .i64 100,.int .i64 6,.int .i64 12],.slice (some ⟨b,0,none⟩) 1 1,.int .i64 0,.slice A 2 cp,.int .i64 740] w fun e w'=>∃ u H',e=.returned u∧AltV ([[],[1],[]],0) u H'∧Has w ⟨[],[]⟩ H' w':=by
 have h:=alt29_ok (some ⟨b1,0,none⟩) _ 3 3 2 2 exL w hr (by decide) (by decide) 200 600 200 800 100 6 12 _ 1 1 [exW g] hc (fun z hz=>by obtain rfl:=List.mem_singleton.1 hz;exact (by decide:1≤1000000)) 0 A 2 cp [0,1] hR (by decide) (exE rfl) (by decide) exP exTrip exT hT 740
 rw [exAlt (z:=exW g) rfl] at h
 exact h
theorem ex_equ {b1 b2 b g:Nat} {w:World} (hT:RdS w 1 (some ⟨b1,0,none⟩) 3 (exT.map blCells)) (hr:RdS w 5 (some ⟨b2,0,none⟩) 2 (exL.map lgCells)) (hc:CastR w (some ⟨b,0,none⟩) 1 [exW g]) (A:Option Addr) (cp:Nat) (hR:RdS w 1 A 2 (([0,1]:List Int).map inCells)):Calls Tryz.prog 18 #[.agg #[.slice (some ⟨b1,0,none⟩) 3 3,.slice (some ⟨b2,0,none⟩) 2 2],.agg #[.int .i64 200,.int .i64 600,.int .i64 200,.int .i64 800,.int .i64 100,.int .i64 6,.int .i64 12],.slice (some ⟨b,0,none⟩) 1 1,.int .i64 0,.slice A 2 cp] w fun e w'=>e=.returned (.tuple #[.agg #[.int .i64 0,.int .i64 23196],.int .i64 0])∧Ext w w':=by
 have h:=equal18_ok (some ⟨b1,0,none⟩) _ 3 3 2 2 exL w hr (by decide) (by decide) 200 600 200 800 100 6 12 _ 1 1 [exW g] hc (fun z hz=>by obtain rfl:=List.mem_singleton.1 hz;exact (by decide:1≤1000000)) 0 A 2 cp [0,1] hR (by decide) (exE rfl) (by decide) exP exTrip
 rw [exEqu (z:=exW g) rfl] at h
 exact h
theorem ex_best9 {b1 b2 b g:Nat} {w:World} (hT:RdS w 1 (some ⟨b1,0,none⟩) 3 (exT.map blCells)) (hr:RdS w 5 (some ⟨b2,0,none⟩) 2 (exL.map lgCells)) (hc:CastR w (some ⟨b,0,none⟩) 1 [exW g]):Calls Tryz.prog 21 #[.agg #[.slice (some ⟨b1,0,none⟩) 3 3,.slice (some ⟨b2,0,none⟩) 2 2],.agg #[.int .i64 200,.int .i64 600,.int .i64 200,.int .i64 699,.int .i64 100,.int .i64 6,.int .i64 12],.slice (some ⟨b,0,none⟩) 1 1,.int .i64 0,.int .i64 2] w fun e w'=>∃ u H',e=.returned u∧BestV ([],0,6) u H'∧Has w ⟨[],[]⟩ H' w':=by
 have h:=best21_calls (some ⟨b1,0,none⟩) _ 3 3 2 2 exL w hr (by decide) (by decide) 200 600 200 699 100 6 12 _ 1 1 [exW g] hc (fun z hz=>by obtain rfl:=List.mem_singleton.1 hz;exact (by decide:1≤1000000)) 0 2
 rw [exBest9 (z:=exW g) rfl] at h
 exact h
theorem ex_noA {b1 b2 b g:Nat} {w:World} (hT:RdS w 1 (some ⟨b1,0,none⟩) 3 (exT.map blCells)) (hr:RdS w 5 (some ⟨b2,0,none⟩) 2 (exL.map lgCells)) (hc:CastR w (some ⟨b,0,none⟩) 1 [exW g]):Calls Tryz.prog 16 #[.agg #[.slice (some ⟨b1,0,none⟩) 3 3,.slice (some ⟨b2,0,none⟩) 2 2],.agg #[.int .i64 200,.int .i64 600,.int .i64 200,.int .i64 800,.int .i64 100,.int .i64 6,.int .i64 12],.slice (some ⟨b,0,none⟩) 1 1,.int .i64 0,.slice none 0 0,.int .i64 740] w fun e w'=>e=.returned (.tuple #[.agg #[.int .i64 0,.int .i64 0],.int .i64 2])∧Ext w w':=by
 have h:=noret16_ok (some ⟨b1,0,none⟩) _ 3 3 2 2 exL w hr (by decide) (by decide) 200 600 200 800 100 6 12 _ 1 1 [exW g] hc (fun z hz=>by obtain rfl:=List.mem_singleton.1 hz;exact (by decide:1≤1000000)) 0 none 0 0 [] (RdS.nil _ _ _) (by decide) (exE rfl) (by decide) ([],[0]) (by decide +kernel) 740 (by decide)
 rw [exNoA] at h
 exact h
theorem ex_noB {b1 b2 b g:Nat} {w:World} (hT:RdS w 1 (some ⟨b1,0,none⟩) 3 (exT.map blCells)) (hr:RdS w 5 (some ⟨b2,0,none⟩) 2 (exL.map lgCells)) (hc:CastR w (some ⟨b,0,none⟩) 1 [exW g]) (A:Option Addr) (cp:Nat) (hR:RdS w 1 A 1 (([0]:List Int).map inCells)):Calls Tryz.prog 16 #[.agg #[.slice (some ⟨b1,0,none⟩) 3 3,.slice (some ⟨b2,0,none⟩) 2 2],.agg #[.int .i64 200,.int .i64 600,.int .i64 200,.int .i64 800,.int .i64 100,.int .i64 6,.int .i64 12],.slice (some ⟨b,0,none⟩) 1 1,.int .i64 0,.slice A 1 cp,.int .i64 99] w fun e w'=>e=.returned (.tuple #[.agg #[.int .i64 0,.int .i64 0],.int .i64 64])∧Ext w w':=by
 have h:=noret16_ok (some ⟨b1,0,none⟩) _ 3 3 2 2 exL w hr (by decide) (by decide) 200 600 200 800 100 6 12 _ 1 1 [exW g] hc (fun z hz=>by obtain rfl:=List.mem_singleton.1 hz;exact (by decide:1≤1000000)) 0 A 1 cp [0] hR (by decide) (exE rfl) (by decide) ([(0,false)],[0,1]) (by decide +kernel) 99 (by decide)
 rw [exNoB (z:=exW g) rfl] at h
 exact h
theorem ex_led2 {b1 b2 b g:Nat} {w:World} (hT:RdS w 1 (some ⟨b1,0,none⟩) 3 (exT.map blCells)) (hr:RdS w 5 (some ⟨b2,0,none⟩) 2 (exL.map lgCells)) (hc:CastR w (some ⟨b,0,none⟩) 1 [exW g]) (A:Option Addr) (cp:Nat) (hR:RdS w 1 A 1 (([1]:List Int).map inCells)):Calls Tryz.prog 27 #[.agg #[.slice (some ⟨b1,0,none⟩) 3 3,.slice (some ⟨b2,0,none⟩) 2 2],.agg #[.int .i64 200,.int .i64 600,.int .i64 200,.int .i64 800,.int .i64 100,.int .i64 6,.int .i64 12],.slice (some ⟨b,0,none⟩) 1 1,.int .i64 0,.slice A 1 cp,.int .i64 740] w fun e w'=>e=.returned (.tuple #[.int .i64 0,.int .i64 2])∧Ext w w':=by
 have h:=check27_err (some ⟨b1,0,none⟩) _ 3 3 2 2 exL w hr (by decide) (by decide) 200 600 200 800 100 6 12 _ 1 1 [exW g] hc (fun z hz=>by obtain rfl:=List.mem_singleton.1 hz;exact (by decide:1≤1000000)) 0 A 1 cp [1] hR (by decide) (by rw [exLedA rfl];decide) 740
 rw [exLedA (z:=exW g) rfl] at h
 exact h
theorem ex_led4 {b1 b2 b g:Nat} {w:World} (hT:RdS w 1 (some ⟨b1,0,none⟩) 3 (exT.map blCells)) (hr:RdS w 5 (some ⟨b2,0,none⟩) 2 (exL.map lgCells)) (hc:CastR w (some ⟨b,0,none⟩) 1 [exW g]) (A:Option Addr) (cp:Nat) (hR:RdS w 1 A 21 ((List.replicate 21 0:List Int).map inCells)):Calls Tryz.prog 27 #[.agg #[.slice (some ⟨b1,0,none⟩) 3 3,.slice (some ⟨b2,0,none⟩) 2 2],.agg #[.int .i64 200,.int .i64 600,.int .i64 200,.int .i64 800,.int .i64 100,.int .i64 6,.int .i64 12],.slice (some ⟨b,0,none⟩) 1 1,.int .i64 0,.slice A 21 cp,.int .i64 740] w fun e w'=>e=.returned (.tuple #[.int .i64 0,.int .i64 4])∧Ext w w':=by
 have h:=check27_err (some ⟨b1,0,none⟩) _ 3 3 2 2 exL w hr (by decide) (by decide) 200 600 200 800 100 6 12 _ 1 1 [exW g] hc (fun z hz=>by obtain rfl:=List.mem_singleton.1 hz;exact (by decide:1≤1000000)) 0 A 21 cp (List.replicate 21 0) hR (by decide) (by rw [exLedB rfl];decide) 740
 rw [exLedB (z:=exW g) rfl] at h
 exact h
theorem ex_pass9 {g cp:Nat} {w:World} (hr:RdS w 1 (some ⟨g,0,none⟩) 9 (exH.map inCells)):Calls Tryz.prog 35 #[.agg #[.int .i64 3,.int .i64 3,.slice (some ⟨g,0,none⟩) 9 cp],.int .i64 0,.int .i64 9] w fun e w'=>∃ v H',e=.returned v∧PasV 2 0 [] v H'∧Has w ⟨[],[]⟩ H' w':=by
 obtain ⟨e,h,P,hP⟩:=isP_ex 3 3 exH 0 9
 obtain ⟨rfl,rfl,rfl⟩:=exIsP9 hP
 exact pass_calls _ 9 cp 3 3 0 9 2 0 exH _ w hP hr (by decide)
theorem ex_ck53 (w:World):Calls Tryz.prog 53 #[.agg #[.int .i64 0,.int .i64 0,.slice none 0 0]] w fun e w'=>e=.returned (.int .i64 60)∧Ext w w':=
 checkTerrain_calls none 0 0 0 0 [] w (RdS.nil _ _ _) (by decide)
theorem ex_ck54 (w:World):Calls Tryz.prog 54 #[.agg #[.slice none 0 0,.slice none 0 0]] w fun e w'=>e=.returned (.int .i64 61)∧Ext w w':=
 checkChart_calls none none 0 0 0 0 [] w (RdS.nil _ _ _) (by decide) (by decide)
theorem ex_ck55 (w:World):Calls Tryz.prog 55 #[.agg #[.int .i64 0,.int .i64 0,.int .i64 0,.int .i64 0,.int .i64 0,.int .i64 0,.int .i64 0]] w fun e w'=>e=.returned (.int .i64 62)∧Ext w w':=by
 have h:=checkPace_calls 0 0 0 0 0 0 0 w
 rw [if_neg (by decide)] at h
 exact h
theorem ex_ck56 (w:World):Calls Tryz.prog 56 #[.slice none 0 0] w fun e w'=>e=.returned (.int .i64 4)∧Ext w w':=
 checkCast_calls none 0 0 [] w ⟨RdS.nil _ _ _,fun x hx=>(by cases hx)⟩ (fun x hx=>(by cases hx))
theorem ex_ck56b {H H':Hp} {w0 w:World} {M:Ms} {b:Nat} {tg:Tg} (h:Has w0 M H w) (q:Pick H b [.slice none 0 0] tg H') (cp:Nat):Calls Tryz.prog 56 #[.slice (some ⟨b,0,none⟩) 1 cp] w fun e w'=>e=.returned (.int .i64 22)∧Ext w w':=by
 have hc:CastR w (some ⟨b,0,none⟩) 1 [⟨none,0,0,[]⟩]:=⟨rows_own (rows:=[(⟨none,0,0,[]⟩:Wn)].map wnCells) rfl (by intro r hr;obtain rfl:=List.mem_singleton.1 hr;rfl) h q,fun x hx=>by
   obtain rfl:=List.mem_singleton.1 hx
   exact ⟨RdS.nil _ _ _,Nat.le_refl _⟩⟩
 exact checkCast_calls _ 1 cp _ w hc (fun x hx=>by obtain rfl:=List.mem_singleton.1 hx;exact (by decide:0≤1000000))
end Go.Proofs.YtcjkndjjbjoehaaGreat
