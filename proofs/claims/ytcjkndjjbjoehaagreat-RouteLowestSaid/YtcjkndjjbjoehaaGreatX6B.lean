/- A part of the proof: rules for walks, and contracts of functions (2). -/
import Derived.Test.YtcjkndjjbjoehaaGreatXBA
import Derived.Test.YtcjkndjjbjoehaaGreatXBB
import Derived.Test.YtcjkndjjbjoehaaGreatXBC
import Derived.Test.YtcjkndjjbjoehaaGreatXBD
import Derived.Test.YtcjkndjjbjoehaaGreatXBE
import Derived.Test.YtcjkndjjbjoehaaGreatXBF
import Derived.Test.YtcjkndjjbjoehaaGreatXBG
import Derived.Test.YtcjkndjjbjoehaaGreatXBH
import Derived.Test.YtcjkndjjbjoehaaGreatXBI
import Derived.Test.YtcjkndjjbjoehaaGreatXBJ
import Derived.Test.YtcjkndjjbjoehaaGreatXBK
import Derived.Test.YtcjkndjjbjoehaaGreatXBL
import Derived.Test.YtcjkndjjbjoehaaGreatXBM
import Derived.Test.YtcjkndjjbjoehaaGreatXBN
import Derived.Test.YtcjkndjjbjoehaaGreatXBO
import Derived.Test.YtcjkndjjbjoehaaGreatXBP
import Derived.Test.YtcjkndjjbjoehaaGreatX6A
import Derived.WalkKit
import Derived.Lib.Hide
import Derived.Test.YtcjkndjjbjoehaaGreatChecked
import Derived.Orders
import Derived.Still
import Derived.Laws.StructEq
import Derived.RangeFuncNested
import Derived.RangeFuncCalls
import Derived.LoopIn
import Derived.RangeFuncLeaves
import Derived.RangeFuncRecord
import Derived.Maps.AppendAt
import Derived.IntWalk
import Derived.OrdersIn
import Derived.TacticsIn
import Derived.Laws.MakeOwn
import Derived.ProofKit
import Derived.Lib.SmallJoins
import Derived.Carry
import Derived.MapKept
import Derived.Laws.IdiomCopy
import Derived.RangeFuncBound
import Derived.Shelf.Abstract
import Derived.Shelf.RegionOpen
import Derived.OwnWalkIn
import Derived.TacticsInMore
import Derived.LoopNIn
import Derived.Test.YtcjkndjjbjoehaaGreatRows
set_option linter.unusedVariables false
set_option linter.unusedSimpArgs false
set_option maxRecDepth 100000
set_option maxHeartbeats 2000000
namespace Go.Proofs.YtcjkndjjbjoehaaGreat
open Go.RowKit
attribute [local irreducible] OQ OS OX Rd T TL GX GL AL AI RV wpG SAny Calls
theorem oq_remU8 {c:Cx} {F:Fr} {H:Hp} {d:Option Tmp} {ty t t':TypeId} {pos:String} {af:Array Edge} {g:Option (Nat×Bool)} {x y:Operand} {m n k:Int} (hx:ev F x=some (.int .u8 m)) (hy:ev F y=some (.int .u8 n)) (e:m.tmod n=k∧n≠0):OQ c ⟨d,.binOp .rem t x y t',ty,pos,af,g⟩ F H (.int .u8 k):=.of fun D a w ha _=>by
 simp [execOp,ha.ev hx,ha.ev hy,eqGuard,binOp,Op.intDiv,go_sem,e.2,e.1]
def u8Cells (x:Int):List Value:=[.int .u8 x]
theorem u8_read {w:World} {A:Option Addr} {n:Nat} {l:List Int} (h:RdS w 1 A n (l.map u8Cells)) {i:Nat} (hi:i<n) :
   ∃ b o x,A=some ⟨b,o,none⟩∧b<w.heap.size∧l[i]?=some x∧w.cell? ⟨b,o+i*1,none⟩=some (.int .u8 x):=by
 obtain ⟨b,o,cs,hA,hb,hx,_,hc⟩:=h.row hi
 simp only [List.getElem?_map,Option.map_eq_some_iff] at hx
 obtain ⟨x,hx,rfl⟩:=hx
 exact ⟨b,o,x,hA,hb,hx,hc 0 _ rfl⟩
theorem routeLowest_T (A:Option Addr) (n cp:Nat) (W Hh:Int) (g:List Int) (w:World) (hg:RdS w 1 A n (g.map inCells)) (a b:Int) (AT:Option Addr) (nT cT:Nat) (ts:List Int) (hT:RdS w 1 AT nT (ts.map u8Cells)) (hu:∀ x∈ts,0≤x∧x≤255):Calls Tryz.prog 6 #[.agg #[.int .i64 W,.int .i64 Hh,.slice A n cp],.int .i64 a,.int .i64 b,.slice AT nT cT] w fun e w'=>e=.returned (.bool true)∧Ext w w':=by
 have hgl:g.length=n:=by simpa using hg.len
 have htl:ts.length=nT:=by simpa using hT.len
 refine enterQ (c:=cx w 332) Tryz.func6 rfl rfl rfl rfl ?_
 refine t_cut (ι:=Nat) (fun z=>[(1,.int .i64 a),(2,.int .i64 b),(3,.slice AT nT cT),(4,.pointer (some ⟨z,0,none⟩))]) (fun z=>(z,[.int .i64 W,.int .i64 Hh,.slice A n cp],some (66,3,1))::[]) (fun _=>True) ?_ ?_
 · repeat' (first|((with_reducible apply oq_id);first|(apply oq_fn;exact rfl;first|exact trivial|(and_intros<;>omega)|omega|skip))|((with_reducible apply tl_id);first|(with_reducible apply tl_nil)|((with_reducible apply u_q);(iterate 4 exact rfl))|((with_reducible apply u_s);(iterate 3 exact rfl)))|((with_reducible apply os_id);first|((with_reducible apply os_x);exact rfl))|((with_reducible apply ox_id);first|((with_reducible apply ox_boxAgg);exact rfl;intro _))|((with_reducible apply t_id);first|(apply t_region;kernel_rfl)))
   all_goals exact ⟨by trivial,_,trivial,by (repeat first|exact FrSub.nil|(apply FrSub.cons;exact rfl)),by (repeat' (first|exact HpSub.refl _))⟩
 rintro b4 -
 try simp only
 refine t_cut (ι:=Unit) (fun _=>[(1,.int .i64 a),(2,.int .i64 b),(3,.slice AT nT cT),(4,.pointer (some ⟨b4,0,none⟩)),(9,.bool true)]) (fun _=>(b4,[.int .i64 W,.int .i64 Hh,.slice A n cp],some (66,3,1))::[]) (fun _=>True) ?_ ?_
 · repeat' (first|((with_reducible apply oq_id);first|(apply oq_fn;exact rfl;first|exact trivial|(and_intros<;>omega)|omega|skip)|((with_reducible apply oq_call (hc:=Tryz.call34));exact rfl;exact rfl;exact fun D w1 hw1=>alive_calls w1))|((with_reducible apply tl_id);first|(with_reducible apply tl_nil)|((with_reducible apply u_q);(iterate 4 exact rfl)))|((with_reducible apply t_id);first|(apply t_region;kernel_rfl)))
   all_goals exact ⟨by trivial,(),trivial,by (repeat first|exact FrSub.nil|(apply FrSub.cons;exact rfl)),by (repeat' (first|exact HpSub.refl _))⟩
 rintro ⟨⟩ -
 by_cases hbig:700<n∨600<nT
 · by_cases h1:700<n
   · repeat' (first|((with_reducible apply oq_id);first|((with_reducible apply oq_gtrT);exact rfl;exact rfl;omega)|(apply oq_fn;exact rfl;first|exact trivial|(and_intros<;>omega)|omega|skip)|((with_reducible apply oq_load);exact rfl;exact rfl))|((with_reducible apply tl_id);first|(with_reducible apply tl_nil)|((with_reducible apply u_q);(iterate 4 exact rfl))|((with_reducible apply u_skip);(iterate 3 exact rfl)))|((with_reducible apply rd_id);first|(apply Rd.own;(repeat first|exact P0|apply P1);exact rfl;done))|((with_reducible apply t_id);first|(with_reducible apply t_seq)|(apply t_region;kernel_rfl)|((with_reducible apply t_condT);exact rfl)|(with_reducible apply t_ret))|with_reducible apply q_thenN|with_reducible apply q_thenR|(with_reducible apply end_ret)|exact rvs_nil|(with_reducible apply rvs_cons)|((with_reducible apply rv_tmp);exact rfl))
     all_goals rfl
   · repeat' (first|((with_reducible apply oq_id);first|((with_reducible apply oq_gtrT);exact rfl;exact rfl;omega)|((with_reducible apply oq_gtrF);exact rfl;exact rfl;omega)|(apply oq_fn;exact rfl;first|exact trivial|(and_intros<;>omega)|omega|skip)|((with_reducible apply oq_load);exact rfl;exact rfl))|((with_reducible apply tl_id);first|(with_reducible apply tl_nil)|((with_reducible apply u_q);(iterate 4 exact rfl))|((with_reducible apply u_skip);(iterate 3 exact rfl)))|((with_reducible apply rd_id);first|(apply Rd.own;(repeat first|exact P0|apply P1);exact rfl;done))|((with_reducible apply t_id);first|(with_reducible apply t_seq)|(apply t_region;kernel_rfl)|((with_reducible apply t_condT);exact rfl)|(with_reducible apply t_ret))|with_reducible apply q_thenN|with_reducible apply q_thenR|(with_reducible apply end_ret)|exact rvs_nil|(with_reducible apply rvs_cons)|((with_reducible apply rv_tmp);exact rfl))
     all_goals rfl
 obtain ⟨hn7,hT6⟩:n≤700∧nT≤600:=by omega
 clear hbig
 refine t_cut (ι:=Unit) (fun _=>[(1,.int .i64 a),(2,.int .i64 b),(3,.slice AT nT cT),(4,.pointer (some ⟨b4,0,none⟩)),(9,.bool true)]) (fun _=>(b4,[.int .i64 W,.int .i64 Hh,.slice A n cp],some (66,3,1))::[]) (fun _=>True) ?_ ?_
 · repeat' (first|((with_reducible apply oq_id);first|((with_reducible apply oq_gtrF);exact rfl;exact rfl;omega)|(apply oq_fn;exact rfl;first|exact trivial|(and_intros<;>omega)|omega|skip)|((with_reducible apply oq_load);exact rfl;exact rfl))|((with_reducible apply tl_id);first|(with_reducible apply tl_nil)|((with_reducible apply u_q);(iterate 4 exact rfl)))|((with_reducible apply rd_id);first|(apply Rd.own;(repeat first|exact P0|apply P1);exact rfl;done))|((with_reducible apply t_id);first|(with_reducible apply t_seq)|(apply t_region;kernel_rfl)|((with_reducible apply t_condF);exact rfl)|(with_reducible apply t_skip))|with_reducible apply q_thenN)
   all_goals exact ⟨by trivial,(),trivial,by (repeat first|exact FrSub.nil|(apply FrSub.cons;exact rfl)),by (repeat' (first|exact HpSub.refl _))⟩
 rintro ⟨⟩ -
 obtain ⟨e,h,P,hP⟩:=isP_ex W Hh g a b
 obtain ⟨e',h',P',hP'⟩:=isP_ex W Hh g b a
 have HP:=fun w1 (hx:Ext w w1)=>pass_calls A n cp W Hh a b e h g P w1 hP (hg.ext hx) (by omega)
 have HP':=fun w1 (hx:Ext w w1)=>pass_calls A n cp W Hh b a e' h' g P' w1 hP' (hg.ext hx) (by omega)
 rcases isP_both hP hP' with ⟨he,rfl⟩|⟨rfl,x,hh,p,q,L,hB⟩
 · repeat' (first|((with_reducible apply oq_id);first|((with_reducible apply oq_neqT);exact rfl;exact rfl;omega)|((with_reducible apply oq_eqlT);exact rfl;exact rfl;omega)|(apply oq_fn;exact rfl;first|exact trivial|(and_intros<;>omega)|omega|skip)|((with_reducible apply oq_loadAgg);exact rfl;exact rfl))|((with_reducible apply tl_id);first|(with_reducible apply tl_nil)|((with_reducible apply u_s);(iterate 3 exact rfl);(with_reducible apply os_callF (PV:=PasV e h []) (hc:=Tryz.call35));exact rfl;exact rfl;exact fun D w1 hw1=>HP w1 hw1.ext.ext;rintro _ _ ⟨o,ho,rfl,rfl⟩;(rcases o with _|⟨go,co⟩)<;>simp only [sI,hI,List.cons_append,List.nil_append,List.length_nil])|((with_reducible apply u_q);(iterate 4 exact rfl)))|((with_reducible apply rd_id);first|(apply Rd.own;(repeat first|exact P0|apply P1);exact rfl;done))|((with_reducible apply t_id);first|(with_reducible apply t_seq)|(apply t_region;kernel_rfl)|((with_reducible apply t_condT);exact rfl)|(with_reducible apply t_ret))|with_reducible apply q_thenN|with_reducible apply q_thenR|exact Rdn.zero|apply Rdn.succ|(with_reducible apply end_ret)|exact rvs_nil|(with_reducible apply rvs_cons)|((with_reducible apply rv_tmp);exact rfl))
   all_goals rfl
 obtain ⟨rfl,rfl,rfl,rfl,rfl,t,pn,qn,hpass,hd,rfl,hel,hne,hlen,hle,hgo,hgr⟩:=id hB
 subst hgl
 have tn:=t.n576
 have hgb:∀ z∈g,-500≤z∧z≤9000:=fun z hz=>by
   obtain ⟨i,hi,rfl⟩:=List.getElem_of_mem hz
   have:=hgr i hi
   rw [gr_of (List.getElem?_eq_getElem hi)] at this
   exact this
 have HGO:=fun w1 (hx:Ext w w1)=>goes_calls A cp x hh g.length g w1 t (hg.ext hx) hgb
 have hcl:∀ l:List Nat,(cI l).length=l.length:=fun l=>by simp [cI]
 have hP6:P.length≤1000000:=by omega
 have HG1:=fun w1 (hx:Ext w w1) (gO cO:Nat) (hl:RdS w1 1 (some ⟨gO,0,none⟩) P.length ((cI P).map inCells))=>HGO w1 hx _ P.length cO (cI P) hl hP6 ((p:Nat):Int) ((q:Nat):Int)
 rw [hgo] at HG1
 refine t_cut (ι:=Nat×Nat) (fun z=>[(1,.int .i64 ((p:Nat):Int)),(2,.int .i64 ((q:Nat):Int)),(3,.slice AT nT cT),(4,.pointer (some ⟨b4,0,none⟩)),(9,.bool true),(10,.int .i64 h'),(11,.slice (some ⟨z.1,0,none⟩) P.length z.2),(12,.int .i64 0)]) (fun z=>(z.1,(cI P).map iv,some (3,1,z.2))::(b4,[.int .i64 ((x:Nat):Int),.int .i64 ((hh:Nat):Int),.slice A g.length cp],some (66,3,1))::[]) (fun _=>True) ?_ ?_
 · repeat' (first|((with_reducible apply oq_id);first|(apply oq_fn;exact rfl;first|exact trivial|(and_intros<;>omega)|omega|skip)|((with_reducible apply oq_loadAgg);exact rfl;exact rfl))|((with_reducible apply tl_id);first|(with_reducible apply tl_nil)|((with_reducible apply u_s);(iterate 3 exact rfl);(with_reducible apply os_callF (PV:=PasV 0 h' P) (hc:=Tryz.call35));exact rfl;exact rfl;exact fun D w1 hw1=>HP w1 hw1.ext.ext;rintro _ _ ⟨o,ho,rfl,rfl⟩;(rcases o with _|⟨go,co⟩);(exact absurd (ho rfl) (by first|exact hne|exact fun e=>hne (List.eq_nil_of_length_eq_zero (by rw [← hel,e];rfl))));simp only [sI,hI,List.cons_append,List.nil_append,hcl])|((with_reducible apply u_q);(iterate 4 exact rfl)))|((with_reducible apply rd_id);first|(apply Rd.own;(repeat first|exact P0|apply P1);exact rfl;done))|((with_reducible apply t_id);first|(apply t_region;kernel_rfl))|exact Rdn.zero|apply Rdn.succ)
   all_goals exact ⟨by trivial,(_,_),trivial,by (repeat first|exact FrSub.nil|(apply FrSub.cons;exact rfl)),by (repeat' (first|exact HpSub.refl _))⟩
 rintro ⟨gO,cO⟩ -
 try simp only
 refine t_cut (ι:=Unit) (fun _=>[(1,.int .i64 ((p:Nat):Int)),(2,.int .i64 ((q:Nat):Int)),(3,.slice AT nT cT),(4,.pointer (some ⟨b4,0,none⟩)),(9,.bool true),(10,.int .i64 h'),(11,.slice (some ⟨gO,0,none⟩) P.length cO),(12,.int .i64 0)]) (fun _=>(gO,(cI P).map iv,some (3,1,cO))::(b4,[.int .i64 ((x:Nat):Int),.int .i64 ((hh:Nat):Int),.slice A g.length cp],some (66,3,1))::[]) (fun _=>True) ?_ ?_
 · repeat' (first|((with_reducible apply oq_id);first|((with_reducible apply oq_neqF);exact rfl;exact rfl;omega)|(apply oq_fn;exact rfl;first|exact trivial|(and_intros<;>omega)|omega|skip))|((with_reducible apply tl_id);first|(with_reducible apply tl_nil)|((with_reducible apply u_q);(iterate 4 exact rfl)))|((with_reducible apply t_id);first|(with_reducible apply t_seq)|(apply t_region;kernel_rfl)|((with_reducible apply t_condF);exact rfl)|(with_reducible apply t_skip))|with_reducible apply q_thenN)
   all_goals exact ⟨by trivial,(),trivial,by (repeat first|exact FrSub.nil|(apply FrSub.cons;exact rfl)),by (repeat' (first|exact HpSub.refl _))⟩
 rintro ⟨⟩ -
 refine t_cut (ι:=Unit) (fun _=>[(1,.int .i64 ((p:Nat):Int)),(2,.int .i64 ((q:Nat):Int)),(3,.slice AT nT cT),(4,.pointer (some ⟨b4,0,none⟩)),(9,.bool true),(10,.int .i64 h'),(11,.slice (some ⟨gO,0,none⟩) P.length cO),(12,.int .i64 0),(13,.int .i64 h'),(14,.bool true)]) (fun _=>(gO,(cI P).map iv,some (3,1,cO))::(b4,[.int .i64 ((x:Nat):Int),.int .i64 ((hh:Nat):Int),.slice A g.length cp],some (66,3,1))::[]) (fun _=>True) ?_ ?_
 · repeat' (first|((with_reducible apply oq_id);first|(apply oq_fn;exact rfl;first|exact trivial|(and_intros<;>omega)|omega|skip)|((with_reducible apply oq_loadAgg);exact rfl;exact rfl)|((with_reducible apply oq_call (hc:=Tryz.call36));exact rfl;exact rfl;exact fun D w1 hw1=>HG1 w1 hw1.ext.ext _ _ (in_rows1 (hcl P) hw1 (by (repeat first|exact P0|apply P1)))))|((with_reducible apply tl_id);first|(with_reducible apply tl_nil)|((with_reducible apply u_q);(iterate 4 exact rfl)))|((with_reducible apply rd_id);first|(apply Rd.own;(repeat first|exact P0|apply P1);exact rfl;done))|((with_reducible apply t_id);first|(apply t_region;kernel_rfl))|exact Rdn.zero|apply Rdn.succ)
   all_goals exact ⟨by trivial,(),trivial,by (repeat first|exact FrSub.nil|(apply FrSub.cons;exact rfl)),by (repeat' (first|exact HpSub.refl _))⟩
 rintro ⟨⟩ -
 refine t_cut (ι:=Nat×Nat) (fun z=>[(1,.int .i64 ((p:Nat):Int)),(2,.int .i64 ((q:Nat):Int)),(3,.slice AT nT cT),(4,.pointer (some ⟨b4,0,none⟩)),(9,.bool true),(10,.int .i64 h'),(11,.slice (some ⟨gO,0,none⟩) P.length cO),(12,.int .i64 0),(13,.int .i64 h'),(14,.bool true),(15,.int .i64 h'),(16,.slice (some ⟨z.1,0,none⟩) P'.length z.2),(17,.int .i64 0)]) (fun z=>(z.1,(cI P').map iv,some (3,1,z.2))::(gO,(cI P).map iv,some (3,1,cO))::(b4,[.int .i64 ((x:Nat):Int),.int .i64 ((hh:Nat):Int),.slice A g.length cp],some (66,3,1))::[]) (fun _=>True) ?_ ?_
 · repeat' (first|((with_reducible apply oq_id);first|(apply oq_fn;exact rfl;first|exact trivial|(and_intros<;>omega)|omega|skip)|((with_reducible apply oq_loadAgg);exact rfl;exact rfl))|((with_reducible apply tl_id);first|(with_reducible apply tl_nil)|((with_reducible apply u_s);(iterate 3 exact rfl);(with_reducible apply os_callF (PV:=PasV 0 h' P') (hc:=Tryz.call35));exact rfl;exact rfl;exact fun D w1 hw1=>HP' w1 hw1.ext.ext;rintro _ _ ⟨o,ho,rfl,rfl⟩;(rcases o with _|⟨go,co⟩);(exact absurd (ho rfl) (by first|exact hne|exact fun e=>hne (List.eq_nil_of_length_eq_zero (by rw [← hel,e];rfl))));simp only [sI,hI,List.cons_append,List.nil_append,hcl])|((with_reducible apply u_q);(iterate 4 exact rfl)))|((with_reducible apply rd_id);first|(apply Rd.own;(repeat first|exact P0|apply P1);exact rfl;done))|((with_reducible apply t_id);first|(apply t_region;kernel_rfl))|exact Rdn.zero|apply Rdn.succ)
   all_goals exact ⟨by trivial,(_,_),trivial,by (repeat first|exact FrSub.nil|(apply FrSub.cons;exact rfl)),by (repeat' (first|exact HpSub.refl _))⟩
 rintro ⟨gQ,cQ⟩ -
 try simp only
 refine t_cut (ι:=Unit) (fun _=>[(1,.int .i64 ((p:Nat):Int)),(2,.int .i64 ((q:Nat):Int)),(3,.slice AT nT cT),(4,.pointer (some ⟨b4,0,none⟩)),(9,.bool true),(10,.int .i64 h'),(11,.slice (some ⟨gO,0,none⟩) P.length cO)]) (fun _=>(b4,[.int .i64 ((x:Nat):Int),.int .i64 ((hh:Nat):Int),.slice A g.length cp],some (66,3,1))::[]) (fun _=>True) ?_ ?_
 · repeat' (first|((with_reducible apply oq_id);first|((with_reducible apply oq_neqF);exact rfl;exact rfl;omega)|(apply oq_fn;exact rfl;first|exact trivial|(and_intros<;>omega)|omega|skip))|((with_reducible apply tl_id);first|(with_reducible apply tl_nil)|((with_reducible apply u_q);(iterate 4 exact rfl)))|((with_reducible apply t_id);first|(with_reducible apply t_seq)|(apply t_region;kernel_rfl)|((with_reducible apply t_condF);exact rfl)|(with_reducible apply t_skip))|with_reducible apply q_thenN)
   all_goals exact ⟨by trivial,(),trivial,by (repeat first|exact FrSub.nil|(apply FrSub.cons;exact rfl)),by (repeat' (first|exact HpSub.refl _|(apply HpSub.consE;(repeat first|exact P0|apply P1);first|exact rfl|(simp;done))|apply HpSub.skipX))⟩
 rintro ⟨⟩ -
 refine t_cut (ι:=Nat×Nat) (fun z=>[(1,.int .i64 ((p:Nat):Int)),(2,.int .i64 ((q:Nat):Int)),(3,.slice AT nT cT),(4,.pointer (some ⟨b4,0,none⟩)),(9,.bool true),(10,.int .i64 h'),(11,.slice (some ⟨gO,0,none⟩) P.length cO),(18,.slice (some ⟨z.1,0,none⟩) 1 z.2)]) (fun z=>(z.1,(cI [p]).map iv,some (3,1,z.2))::(b4,[.int .i64 ((x:Nat):Int),.int .i64 ((hh:Nat):Int),.slice A g.length cp],some (66,3,1))::[]) (fun _=>True) ?_ ?_
 · repeat' (first|((with_reducible apply oq_id);first|(apply oq_fn;exact rfl;first|exact trivial|(and_intros<;>omega)|omega|skip))|((with_reducible apply tl_id);first|(with_reducible apply tl_nil)|((with_reducible apply u_q);(iterate 4 exact rfl))|((with_reducible apply u_s);(iterate 3 exact rfl)))|((with_reducible apply os_id);first|((with_reducible apply os_x);exact rfl))|((with_reducible apply ox_id);first|((with_reducible apply ox_buildSlice1);(iterate 6 exact rfl);intro _))|((with_reducible apply t_id);first|(apply t_region;kernel_rfl)))
   all_goals exact ⟨by trivial,(_,_),trivial,by (repeat first|exact FrSub.nil|(apply FrSub.cons;exact rfl)),by (repeat' (first|exact HpSub.refl _))⟩
 rintro ⟨bO,kO⟩ -
 try simp only
 refine t_cut (ι:=List Nat×Nat×Nat) (fun z=>[(1,.int .i64 ((p:Nat):Int)),(2,.int .i64 ((q:Nat):Int)),(3,.slice AT nT cT),(4,.pointer (some ⟨b4,0,none⟩)),(9,.bool true),(10,.int .i64 h'),(11,.slice (some ⟨gO,0,none⟩) P.length cO),(18,.slice (some ⟨z.2.1,0,none⟩) z.1.length z.2.2)]) (fun z=>(z.2.1,(cI z.1).map iv,some (3,1,z.2.2))::(b4,[.int .i64 ((x:Nat):Int),.int .i64 ((hh:Nat):Int),.slice A g.length cp],some (66,3,1))::[]) (fun z=>z.1.length≤601) ?_ ?_
 rotate_left
 · rintro ⟨O,bO,kO⟩ hO
   simp only at hO
   try simp only
   obtain ⟨⟨v,is⟩,hgv⟩:∃ z,goR ((x:Nat):Int) g (cI O) ((p:Nat):Int) ((q:Nat):Int)=z:=⟨_,rfl⟩
   have HG2:=fun w1 (hx:Ext w w1) (hl:RdS w1 1 (some ⟨bO,0,none⟩) O.length ((cI O).map inCells))=>HGO w1 hx _ O.length kO (cI O) hl (by omega) ((p:Nat):Int) ((q:Nat):Int)
   rw [hgv] at HG2
   refine t_cut (ι:=Unit) (fun _=>[(1,.int .i64 ((p:Nat):Int)),(2,.int .i64 ((q:Nat):Int)),(3,.slice AT nT cT),(4,.pointer (some ⟨b4,0,none⟩)),(9,.bool true),(10,.int .i64 h'),(11,.slice (some ⟨gO,0,none⟩) P.length cO)]) (fun _=>(b4,[.int .i64 ((x:Nat):Int),.int .i64 ((hh:Nat):Int),.slice A g.length cp],some (66,3,1))::[]) (fun _=>True) ?_ ?_
   · refine t_cut (ι:=Unit) (fun _=>[(1,.int .i64 ((p:Nat):Int)),(2,.int .i64 ((q:Nat):Int)),(3,.slice AT nT cT),(4,.pointer (some ⟨b4,0,none⟩)),(9,.bool true),(10,.int .i64 h'),(11,.slice (some ⟨gO,0,none⟩) P.length cO),(18,.slice (some ⟨bO,0,none⟩) O.length kO),(25,.int .i64 v),(26,.bool is)]) (fun _=>(bO,(cI O).map iv,some (3,1,kO))::(b4,[.int .i64 ((x:Nat):Int),.int .i64 ((hh:Nat):Int),.slice A g.length cp],some (66,3,1))::[]) (fun _=>True) ?_ ?_
     · repeat' (first|((with_reducible apply oq_id);first|(apply oq_fn;exact rfl;first|exact trivial|(and_intros<;>omega)|omega|skip)|((with_reducible apply oq_loadAgg);exact rfl;exact rfl)|((with_reducible apply oq_call (hc:=Tryz.call36));exact rfl;exact rfl;exact fun D w1 hw1=>HG2 w1 hw1.ext.ext (in_rows1 (hcl O) hw1 (by (repeat first|exact P0|apply P1)))))|((with_reducible apply tl_id);first|(with_reducible apply tl_nil)|((with_reducible apply u_q);(iterate 4 exact rfl)))|((with_reducible apply rd_id);first|(apply Rd.own;(repeat first|exact P0|apply P1);exact rfl;done))|((with_reducible apply t_id);first|(apply t_region;kernel_rfl))|exact Rdn.zero|apply Rdn.succ)
       all_goals exact ⟨by trivial,(),trivial,by (repeat first|exact FrSub.nil|(apply FrSub.cons;exact rfl)),by (repeat' (first|exact HpSub.refl _))⟩
     rintro ⟨⟩ -
     cases is with
     | false=>
       repeat' (first|((with_reducible apply oq_id);first|(apply oq_fn;exact rfl;first|exact trivial|(and_intros<;>omega)|omega|skip))|((with_reducible apply tl_id);first|(with_reducible apply tl_nil)|((with_reducible apply u_q);(iterate 4 exact rfl))|((with_reducible apply u_skip);(iterate 3 exact rfl)))|((with_reducible apply t_id);first|(with_reducible apply t_seq)|(apply t_region;kernel_rfl)|((with_reducible apply t_condF);exact rfl)|(with_reducible apply t_skip))|with_reducible apply q_thenN)
       all_goals exact ⟨by trivial,(),trivial,by (repeat first|exact FrSub.nil|(apply FrSub.cons;exact rfl)),by (repeat' (first|exact HpSub.refl _|(apply HpSub.consE;(repeat first|exact P0|apply P1);first|exact rfl|(simp;done))|apply HpSub.skipX))⟩
     | true=>
       obtain ⟨k1,k2⟩:=hB.other hgv
       by_cases hvh:v=h'
       · have k3:P.length≤O.length:=hcl O ▸ k2 hvh
         repeat' (first|((with_reducible apply oq_id);first|((with_reducible apply oq_eqlT);exact rfl;exact rfl;omega)|((with_reducible apply oq_lssF);exact rfl;exact rfl;omega)|(apply oq_fn;exact rfl;first|exact trivial|(and_intros<;>omega)|omega|skip))|((with_reducible apply tl_id);first|(with_reducible apply tl_nil)|((with_reducible apply u_q);(iterate 4 exact rfl)))|((with_reducible apply t_id);first|(with_reducible apply t_seq)|(apply t_region;kernel_rfl)|((with_reducible apply t_condF);exact rfl)|(with_reducible apply t_skip))|with_reducible apply q_thenN)
         all_goals exact ⟨by trivial,(),trivial,by (repeat first|exact FrSub.nil|(apply FrSub.cons;exact rfl)),by (repeat' (first|exact HpSub.refl _|(apply HpSub.consE;(repeat first|exact P0|apply P1);first|exact rfl|(simp;done))|apply HpSub.skipX))⟩
       · repeat' (first|((with_reducible apply oq_id);first|((with_reducible apply oq_eqlF);exact rfl;exact rfl;omega)|((with_reducible apply oq_lssF);exact rfl;exact rfl;omega)|(apply oq_fn;exact rfl;first|exact trivial|(and_intros<;>omega)|omega|skip))|((with_reducible apply tl_id);first|(with_reducible apply tl_nil)|((with_reducible apply u_q);(iterate 4 exact rfl))|((with_reducible apply u_skip);(iterate 3 exact rfl)))|((with_reducible apply t_id);first|(with_reducible apply t_seq)|(apply t_region;kernel_rfl)|((with_reducible apply t_condF);exact rfl)|(with_reducible apply t_skip))|with_reducible apply q_thenN)
         all_goals exact ⟨by trivial,(),trivial,by (repeat first|exact FrSub.nil|(apply FrSub.cons;exact rfl)),by (repeat' (first|exact HpSub.refl _|(apply HpSub.consE;(repeat first|exact P0|apply P1);first|exact rfl|(simp;done))|apply HpSub.skipX))⟩
   rintro ⟨⟩ -
   refine t_cut (ι:=Nat) (fun z=>[(1,.int .i64 ((p:Nat):Int)),(2,.int .i64 ((q:Nat):Int)),(3,.slice AT nT cT),(4,.pointer (some ⟨b4,0,none⟩)),(9,.bool true),(10,.int .i64 h'),(11,.slice (some ⟨gO,0,none⟩) P.length cO),(27,.map (some z))]) (fun z=>(z,[],mapTg 73 (sM []))::(b4,[.int .i64 ((x:Nat):Int),.int .i64 ((hh:Nat):Int),.slice A g.length cp],some (66,3,1))::[]) (fun _=>True) ?_ ?_
   · repeat' (first|((with_reducible apply oq_id);first|(apply oq_fn;exact rfl;first|exact trivial|(and_intros<;>omega)|omega|skip))|((with_reducible apply tl_id);first|(with_reducible apply tl_nil)|((with_reducible apply u_s);(iterate 3 exact rfl);((with_reducible apply os_mkM);intro _))|((with_reducible apply u_q);(iterate 4 exact rfl)))|((with_reducible apply t_id);first|(apply t_region;kernel_rfl)))
     all_goals exact ⟨by trivial,_,trivial,by (repeat first|exact FrSub.nil|(apply FrSub.cons;exact rfl)),by (repeat' (first|exact HpSub.refl _))⟩
   rintro bm -
   try simp only
   obtain ⟨bA,oA,_,rfl,_⟩:=in_read hg pn
   have hgr2:∀ i,i<g.length→w.cell? ⟨bA,oA+i*1,none⟩=some (.int .i64 (gr g i)):=fun i hi=>by
     obtain ⟨b',o',y,hA,_,hy,hc⟩:=in_read hg hi
     obtain ⟨rfl,rfl⟩:bA=b'∧oA=o':=by simpa using hA
     rw [gr_of hy];exact hc
   refine t_cut (ι:=Qm) (fun z=>[(1,.int .i64 ((p:Nat):Int)),(2,.int .i64 ((q:Nat):Int)),(3,.slice AT nT cT),(4,.pointer (some ⟨b4,0,none⟩)),(9,.bool true),(10,.int .i64 h'),(11,.slice (some ⟨gO,0,none⟩) P.length cO),(27,.map (some bm)),(28,qS (cI []) z)]) (fun z=>(bm,[],mapTg 73 (sM []))::(z.b,z.C,some (3,1,z.c0))::(b4,[.int .i64 ((x:Nat):Int),.int .i64 ((hh:Nat):Int),.slice (some ⟨bA,oA,none⟩) g.length cp],some (66,3,1))::[]) (fun z=>Qok (cI []) z) ?_ ?_
   · repeat' (first|((with_reducible apply oq_id);first|(apply oq_fn;exact rfl;first|exact trivial|(and_intros<;>omega)|omega|skip))|((with_reducible apply tl_id);first|(with_reducible apply tl_nil)|((with_reducible apply u_q);(iterate 4 exact rfl))|((with_reducible apply u_s);(iterate 3 exact rfl)))|((with_reducible apply os_id);first|((with_reducible apply os_x);exact rfl))|((with_reducible apply ox_id);first|((with_reducible apply ox_buildSlice1);(iterate 6 exact rfl);intro _))|((with_reducible apply t_id);first|(apply t_region;kernel_rfl)))
     all_goals (rename_i bN;exact ⟨by trivial,⟨bN,0,0,0,[]⟩,.inl ⟨rfl,rfl⟩,by (repeat' (first|exact FrSub.nil|(apply FrSub.cons;exact rfl))),by (repeat' (first|exact HpSub.refl _|(apply HpSub.consE;(repeat first|exact P0|apply P1);first|exact rfl|(focus (simp [iv,cI];done))|(focus (simp [sM];done)))))⟩)
   rintro m0 hq0
   try dsimp only
   have hp0:=hgr2 p pn
   have hgp:=hgr p pn
   refine t_cut (ι:=List Nat×Qm) (fun z=>[(1,.int .i64 ((p:Nat):Int)),(2,.int .i64 ((q:Nat):Int)),(3,.slice AT nT cT),(4,.pointer (some ⟨b4,0,none⟩)),(9,.bool true),(10,.int .i64 h'),(11,.slice (some ⟨gO,0,none⟩) P.length cO),(27,.map (some bm)),(28,qS (cI z.1) z.2)]) (fun z=>(bm,[],mapTg 73 (sM z.1))::(z.2.b,z.2.C,some (3,1,z.2.c0))::(b4,[.int .i64 ((x:Nat):Int),.int .i64 ((hh:Nat):Int),.slice (some ⟨bA,oA,none⟩) g.length cp],some (66,3,1))::[]) (fun z=>Srch x g.length g (h'-1) p z.1 z.1∧Qok (cI z.1) z.2) ?_ ?_
   · by_cases hlow:gr g p<h'
     · repeat' (first|((with_reducible apply oq_id);first|(focus ((with_reducible apply oq_indexAddrN (i:=p));(iterate 4 exact rfl);omega))|((with_reducible apply oq_lssT);exact rfl;exact rfl;omega)|(apply oq_fn;exact rfl;first|exact trivial|(and_intros<;>omega)|omega|skip)|((with_reducible apply oq_load);exact rfl;exact rfl))|((with_reducible apply tl_id);first|(with_reducible apply tl_nil)|((with_reducible apply u_s);(iterate 3 exact rfl);((with_reducible apply (os_appQ (hk:=app_ok31) (m:=m0) (q:=cI []) (z:=((p:Nat):Int))));exact rfl;exact rfl;exact hq0;(focus (first|omega|(simp [cI];done)));(repeat first|exact P0|apply P1);(apply Rd.own;(repeat first|exact P0|apply P1);exact rfl);intro m3 hq3))|((with_reducible apply u_q);(iterate 4 exact rfl))|((with_reducible apply u_s0);exact rfl;exact rfl)|((with_reducible apply u_s);(iterate 3 exact rfl)))|((with_reducible apply os_id);first|((with_reducible apply (os_mark (hnew:=(List.not_mem_nil))));(iterate 3 exact rfl);(repeat first|exact P0|apply P1))|((with_reducible apply os_x);exact rfl))|((with_reducible apply ox_id);first|((with_reducible apply ox_buildSlice1);(iterate 6 exact rfl);intro _))|((with_reducible apply rd_id);first|(apply Rd.old;exact hp0;exact List.not_mem_nil)|(apply Rd.own;(repeat first|exact P0|apply P1);exact rfl;done))|((with_reducible apply t_id);first|(with_reducible apply t_seq)|(apply t_region;kernel_rfl)|((with_reducible apply t_condT);exact rfl))|with_reducible apply q_thenN)
       all_goals exact ⟨by trivial,([p],m3),⟨.one pn (by omega),hq3⟩,by (repeat' (first|exact FrSub.nil|(apply FrSub.cons;exact rfl))),by (repeat' (first|exact HpSub.refl _|(apply HpSub.consE;(repeat first|exact P0|apply P1);first|exact rfl|(focus (simp [iv,cI];done))|(focus (simp [sM];done)))|apply HpSub.skipX))⟩
     · repeat' (first|((with_reducible apply oq_id);first|(focus ((with_reducible apply oq_indexAddrN (i:=p));(iterate 4 exact rfl);omega))|((with_reducible apply oq_lssF);exact rfl;exact rfl;omega)|(apply oq_fn;exact rfl;first|exact trivial|(and_intros<;>omega)|omega|skip)|((with_reducible apply oq_load);exact rfl;exact rfl))|((with_reducible apply tl_id);first|(with_reducible apply tl_nil)|((with_reducible apply u_q);(iterate 4 exact rfl)))|((with_reducible apply rd_id);first|(apply Rd.old;exact hp0;exact List.not_mem_nil)|(apply Rd.own;(repeat first|exact P0|apply P1);exact rfl;done))|((with_reducible apply t_id);first|(with_reducible apply t_seq)|(apply t_region;kernel_rfl)|((with_reducible apply t_condF);exact rfl)|(with_reducible apply t_skip))|with_reducible apply q_thenN)
       all_goals exact ⟨by trivial,([],m0),⟨.nil,hq0⟩,by (repeat' (first|exact FrSub.nil|(apply FrSub.cons;exact rfl))),by (repeat' (first|exact HpSub.refl _))⟩
   rintro ⟨S,m⟩ ⟨hS,hq⟩
   simp only at hS hq
   try dsimp only
   obtain ⟨u,hu2⟩:∃ u,u=S:=⟨_,rfl⟩
   refine t_cut (ι:=List Nat) (fun z=>[(1,.int .i64 ((p:Nat):Int)),(2,.int .i64 ((q:Nat):Int)),(3,.slice AT nT cT),(4,.pointer (some ⟨b4,0,none⟩)),(9,.bool true),(10,.int .i64 h'),(11,.slice (some ⟨gO,0,none⟩) P.length cO),(27,.map (some bm))]) (fun z=>(bm,[],mapTg 73 (sM z))::(b4,[.int .i64 ((x:Nat):Int),.int .i64 ((hh:Nat):Int),.slice (some ⟨bA,oA,none⟩) g.length cp],some (66,3,1))::[]) (fun z=>∀ c∈z,Rch x g.length g (h'-1) p c) ?_ ?_
   rotate_left
   · rintro S hS
     try dsimp only
     have hqS:=hB.cut hS
     repeat' (first|((with_reducible apply oq_id);first|((with_reducible apply (oq_seenF (h:=hqS)));exact rfl;exact rfl;(repeat first|exact P0|apply P1))|(apply oq_fn;exact rfl;first|exact trivial|(and_intros<;>omega)|omega|skip))|((with_reducible apply tl_id);first|(with_reducible apply tl_nil)|((with_reducible apply u_q);(iterate 4 exact rfl)))|((with_reducible apply t_id);first|(with_reducible apply t_seq)|(apply t_region;kernel_rfl)|(with_reducible apply t_ret))|with_reducible apply q_thenN|(with_reducible apply end_ret)|exact rvs_nil|(with_reducible apply rvs_cons)|((with_reducible apply rv_tmp);exact rfl))
     all_goals rfl
   have hS1:Srch x g.length g (h'-1) p S u:=by rw [hu2];exact hS
   have hq1:Qok (cI u) m:=by rw [hu2];exact hq
   have e28:(28,qS (cI S) m)=((28,qS (cI u) m):Nat×Value):=by rw [hu2]
   rw [e28]
   clear hS hq hu2 e28
   repeat' (first|((with_reducible apply t_id);first|(with_reducible apply t_block)))
   apply t_loopP (ι:=List Nat×List Nat×Qm) [1,2,3,4,9,10,11,27] (fun z=>[(28,qS (cI z.2.1) z.2.2)]) (fun z=>(bm,[],mapTg 73 (sM z.1))::(z.2.2.b,z.2.2.C,some (3,1,z.2.2.c0))::(b4,[.int .i64 ((x:Nat):Int),.int .i64 ((hh:Nat):Int),.slice (some ⟨bA,oA,none⟩) g.length cp],some (66,3,1))::[]) (fun z=>Srch x g.length g (h'-1) p z.1 z.2.1∧Qok (cI z.2.1) z.2.2) (fun z=>g.length+z.2.1.length-z.1.length) (S,u,m)
   (repeat (first|exact KeepF.nil|(apply KeepF.cons;exact rfl)|apply KeepF.skip))
   (repeat first|exact FrSub.nil|(apply FrSub.cons;exact rfl))
   (try simp only [List.cons_append,List.nil_append])
   (repeat' (first|exact HpSub.refl _))
   · exact ⟨hS1,hq1⟩
   clear hS1 hq1 S u m
   rintro ⟨S,u,m⟩ ⟨hS,hq⟩
   simp only at hS hq
   try simp only [List.cons_append,List.nil_append]
   have hln:=hS.len
   have hqln:=cI_len u
   cases u with
   | nil=>
     repeat' (first|((with_reducible apply oq_id);first|(apply oq_fn;exact rfl;first|exact trivial|(and_intros<;>omega)|omega|skip))|((with_reducible apply tl_id);first|(with_reducible apply tl_nil)|((with_reducible apply u_q);(iterate 4 exact rfl)))|((with_reducible apply t_id);first|(with_reducible apply t_seq)|(apply t_region;kernel_rfl)|((with_reducible apply t_condF);exact rfl)|(with_reducible apply t_exit))|with_reducible apply q_thenN|with_reducible apply q_thenE|((with_reducible apply q_blockE);exact rfl))
     all_goals exact ⟨by trivial,S,hS.rch,by (repeat' (first|exact FrSub.nil|(apply FrSub.cons;exact rfl))),by (repeat' (first|exact HpSub.refl _|(apply HpSub.consE;(repeat first|exact P0|apply P1);first|exact rfl|(focus (simp [iv,cI];done))|(focus (simp [sM];done)))|apply HpSub.skipX))⟩
   | cons a u=>
   have han:a<g.length:=hS.lt a hS.hd
   have haS:=hS.hd
   have hxb:=t.w24
   have hx1:=t.w1
   have hq0:=hq.at_ (i:=0) (z:=((a:Nat):Int)) rfl
   simp only [List.length_cons] at hqln hln
   refine t_cut (ι:=Unit) (fun _=>[(1,.int .i64 ((p:Nat):Int)),(2,.int .i64 ((q:Nat):Int)),(3,.slice AT nT cT),(4,.pointer (some ⟨b4,0,none⟩)),(9,.bool true),(10,.int .i64 h'),(11,.slice (some ⟨gO,0,none⟩) P.length cO),(27,.map (some bm)),(28,qS (cI (a::u)) m)]) (fun _=>(bm,[],mapTg 73 (sM S))::(m.b,m.C,some (3,1,m.c0))::(b4,[.int .i64 ((x:Nat):Int),.int .i64 ((hh:Nat):Int),.slice (some ⟨bA,oA,none⟩) g.length cp],some (66,3,1))::[]) (fun _=>True) ?_ ?_
   · repeat' (first|((with_reducible apply oq_id);first|((with_reducible apply oq_gtrT);exact rfl;exact rfl;omega)|(apply oq_fn;exact rfl;first|exact trivial|(and_intros<;>omega)|omega|skip))|((with_reducible apply tl_id);first|(with_reducible apply tl_nil)|((with_reducible apply u_q);(iterate 4 exact rfl)))|((with_reducible apply t_id);first|(with_reducible apply t_seq)|(apply t_region;kernel_rfl)|((with_reducible apply t_condT);exact rfl)|(with_reducible apply t_skip))|with_reducible apply q_thenN)
     all_goals exact ⟨by trivial,(),trivial,by (repeat' (first|exact FrSub.nil|(apply FrSub.cons;exact rfl))),by (repeat' (first|exact HpSub.refl _))⟩
   rintro ⟨⟩ -
   try dsimp only
   with_reducible apply t_block
   refine t_cut (ι:=Unit) (fun _=>[(1,.int .i64 ((p:Nat):Int)),(2,.int .i64 ((q:Nat):Int)),(3,.slice AT nT cT),(4,.pointer (some ⟨b4,0,none⟩)),(9,.bool true),(10,.int .i64 h'),(11,.slice (some ⟨gO,0,none⟩) P.length cO),(27,.map (some bm)),(28,qS (cI (a::u)) m),(29,.int .i64 ((a:Nat):Int))]) (fun _=>(bm,[],mapTg 73 (sM S))::(m.b,m.C,some (3,1,m.c0))::(b4,[.int .i64 ((x:Nat):Int),.int .i64 ((hh:Nat):Int),.slice (some ⟨bA,oA,none⟩) g.length cp],some (66,3,1))::[]) (fun _=>True) ?_ ?_
   · repeat' (first|((with_reducible apply oq_id);first|(apply oq_fn;exact rfl;first|exact trivial|(and_intros<;>omega)|omega|skip)|((with_reducible apply oq_load);exact rfl;exact rfl))|((with_reducible apply tl_id);first|(with_reducible apply tl_nil)|((with_reducible apply u_q);(iterate 4 exact rfl)))|((with_reducible apply rd_id);first|(apply Rd.own;(repeat first|exact P0|apply P1);exact hq0;done))|((with_reducible apply t_id);first|(apply t_region;kernel_rfl)))
     all_goals exact ⟨by trivial,(),trivial,by (repeat' (first|exact FrSub.nil|(apply FrSub.cons;exact rfl))),by (repeat' (first|exact HpSub.refl _))⟩
   rintro ⟨⟩ -
   try dsimp only
   refine t_fact (P:=(cI (a::u)).length≤m.cap) (fun M w2 hw2=>hq.room (hw2.blkP (by (repeat first|exact P0|apply P1)))) fun hroom=>?_
   have hqt:Qok (cI u) m.tail:=hq.tail hroom
   obtain ⟨tb1,tb2,tb3,tb4⟩:=m.tail_b
   refine t_cut (ι:=Qm) (fun z=>[(1,.int .i64 ((p:Nat):Int)),(2,.int .i64 ((q:Nat):Int)),(3,.slice AT nT cT),(4,.pointer (some ⟨b4,0,none⟩)),(9,.bool true),(10,.int .i64 h'),(11,.slice (some ⟨gO,0,none⟩) P.length cO),(27,.map (some bm)),(28,qS (cI u) z),(29,.int .i64 ((a:Nat):Int))]) (fun z=>(bm,[],mapTg 73 (sM S))::(z.b,z.C,some (3,1,z.c0))::(b4,[.int .i64 ((x:Nat):Int),.int .i64 ((hh:Nat):Int),.slice (some ⟨bA,oA,none⟩) g.length cp],some (66,3,1))::[]) (fun z=>Qok (cI u) z) ?_ ?_
   · repeat' (first|((with_reducible apply oq_id);first|((with_reducible apply (oq_sliceQ (q:=cI u) (m:=m) (z:=((a:Nat):Int))));(iterate 4 exact rfl))|(apply oq_fn;exact rfl;first|exact trivial|(and_intros<;>omega)|omega|skip))|((with_reducible apply tl_id);first|(with_reducible apply tl_nil)|((with_reducible apply u_q);(iterate 4 exact rfl)))|((with_reducible apply t_id);first|(apply t_region;kernel_rfl)))
     all_goals (refine ⟨by trivial,m.tail,hqt,?_,?_⟩<;>(try simp only [tb1,tb2,tb3])<;>(repeat' (first|exact FrSub.nil|(apply FrSub.cons;exact rfl)|exact HpSub.refl _)))
   rintro mT hqT
   try dsimp only
   clear hqt tb1 tb2 tb3 tb4 hroom hq0 hq
   have hSt:=hS.tl
   clear hS
   clear m
   rename Qm=>m
   obtain ⟨L4,hL4⟩:∃ l,l=[((a:Nat):Int)-((x:Nat):Int),((a:Nat):Int)+((x:Nat):Int),((a:Nat):Int)-1,((a:Nat):Int)+1]:=⟨_,rfl⟩
   refine t_cut (ι:=Nat) (fun bl=>[(1,.int .i64 ((p:Nat):Int)),(2,.int .i64 ((q:Nat):Int)),(3,.slice AT nT cT),(4,.pointer (some ⟨b4,0,none⟩)),(9,.bool true),(10,.int .i64 h'),(11,.slice (some ⟨gO,0,none⟩) P.length cO),(27,.map (some bm)),(28,qS (cI u) m),(29,.int .i64 ((a:Nat):Int)),(258,.slice (some ⟨bl,0,none⟩) 4 4),(259,.int .i64 4),(260,.int .i64 ((0:Nat):Int))]) (fun bl=>(bl,L4.map iv,some (3,1,4))::(bm,[],mapTg 73 (sM S))::(m.b,m.C,some (3,1,m.c0))::(b4,[.int .i64 ((x:Nat):Int),.int .i64 ((hh:Nat):Int),.slice (some ⟨bA,oA,none⟩) g.length cp],some (66,3,1))::[]) (fun _=>True) ?_ ?_
   · repeat' (first|((with_reducible apply oq_id);first|(focus ((with_reducible apply (oq_subE (k:=((a:Nat):Int)-((x:Nat):Int))));exact rfl;exact rfl;omega))|(focus ((with_reducible apply (oq_addE (k:=((a:Nat):Int)+((x:Nat):Int))));exact rfl;exact rfl;omega))|(focus ((with_reducible apply (oq_subE (k:=((a:Nat):Int)-1)));exact rfl;exact rfl;omega))|(focus ((with_reducible apply (oq_addE (k:=((a:Nat):Int)+1)));exact rfl;exact rfl;omega))|(apply oq_fn;exact rfl;first|exact trivial|(and_intros<;>omega)|omega|skip)|((with_reducible apply oq_load);exact rfl;exact rfl))|((with_reducible apply tl_id);first|(with_reducible apply tl_nil)|((with_reducible apply u_q);(iterate 4 exact rfl))|((with_reducible apply u_s);(iterate 3 exact rfl)))|((with_reducible apply os_id);first|((with_reducible apply os_x);exact rfl))|((with_reducible apply ox_id);first|((with_reducible apply ox_buildSlice1);(iterate 6 exact rfl);intro _))|((with_reducible apply rd_id);first|(apply Rd.own;(repeat first|exact P0|apply P1);exact rfl;done))|((with_reducible apply t_id);first|(apply t_region;kernel_rfl)))
     all_goals (rename_i bN;rw [hL4];exact ⟨by trivial,bN,trivial,by (repeat' (first|exact FrSub.nil|(apply FrSub.cons;exact rfl))),by (repeat' (first|exact HpSub.refl _))⟩)
   rintro bl -
   try dsimp only
   have hl4:L4.length=4:=by rw [hL4];rfl
   have hm4:∀ z∈L4,z=((a:Nat):Int)-((x:Nat):Int)∨z=((a:Nat):Int)+((x:Nat):Int)∨z=((a:Nat):Int)-1∨z=((a:Nat):Int)+1:=fun z hz=>by rw [hL4] at hz;simpa using hz
   clear hL4
   repeat' (first|((with_reducible apply t_id);first|(with_reducible apply t_block)))
   apply t_loopP (ι:=Nat×List Nat×List Nat×Qm) [1,2,3,4,9,10,11,27,29,258,259] (fun z=>[(28,qS (cI z.2.2.1) z.2.2.2),(260,.int .i64 ((z.1:Nat):Int))]) (fun z=>(bm,[],mapTg 73 (sM z.2.1))::(z.2.2.2.b,z.2.2.2.C,some (3,1,z.2.2.2.c0))::(bl,L4.map iv,some (3,1,4))::(b4,[.int .i64 ((x:Nat):Int),.int .i64 ((hh:Nat):Int),.slice (some ⟨bA,oA,none⟩) g.length cp],some (66,3,1))::[]) (fun z=>z.1≤4∧Srch x g.length g (h'-1) p z.2.1 z.2.2.1∧Qok (cI z.2.2.1) z.2.2.2∧a∈z.2.1∧z.2.2.1.length+S.length=u.length+z.2.1.length) (fun z=>4-z.1) (0,S,u,m)
   (repeat (first|exact KeepF.nil|(apply KeepF.cons;exact rfl)|apply KeepF.skip))
   (repeat first|exact FrSub.nil|(apply FrSub.cons;exact rfl))
   (try simp only [List.cons_append,List.nil_append])
   (repeat' (first|exact HpSub.refl _|(apply HpSub.consE;(repeat first|exact P0|apply P1);exact rfl)))
   · exact ⟨Nat.zero_le _,hSt,hqT,haS,rfl⟩
   rintro ⟨i,S2,v2,m2⟩ ⟨hi,hS2,hq2,haS2,hsz⟩
   simp only at hi hS2 hq2 haS2 hsz
   try simp only [List.cons_append,List.nil_append]
   have hln2:=hS2.len
   have hq2l:=cI_len v2
   by_cases hi4:i<4
   rotate_left
   · repeat' (first|((with_reducible apply oq_id);first|((with_reducible apply oq_lssF);exact rfl;exact rfl;omega))|((with_reducible apply tl_id);first|(with_reducible apply tl_nil)|((with_reducible apply u_q);(iterate 4 exact rfl)))|((with_reducible apply t_id);first|(with_reducible apply t_seq)|(apply t_region;kernel_rfl)|((with_reducible apply t_condF);exact rfl)|(with_reducible apply t_exit))|with_reducible apply q_thenN|with_reducible apply q_blockN|with_reducible apply q_thenE|((with_reducible apply q_blockE);exact rfl))
     all_goals (refine ⟨(S2,v2,m2),⟨hS2,hq2⟩,(by simp only [List.length_cons];omega),?_,?_⟩<;>(repeat' (first|exact FrSub.nil|(apply FrSub.cons;exact rfl)|exact HpSub.refl _|(apply HpSub.consE;(repeat first|exact P0|apply P1);first|exact rfl|(focus (simp [iv,cI];done))|(focus (simp [sM];done)))|apply HpSub.skipX)))
   obtain ⟨v,hck⟩:∃ v,L4[i]?=some v:=⟨_,List.getElem?_eq_getElem (by omega)⟩
   have hv:=hm4 v (List.mem_of_getElem? hck)
   refine t_cut (ι:=Unit) (fun _=>[(1,.int .i64 ((p:Nat):Int)),(2,.int .i64 ((q:Nat):Int)),(3,.slice AT nT cT),(4,.pointer (some ⟨b4,0,none⟩)),(9,.bool true),(10,.int .i64 h'),(11,.slice (some ⟨gO,0,none⟩) P.length cO),(27,.map (some bm)),(29,.int .i64 ((a:Nat):Int)),(258,.slice (some ⟨bl,0,none⟩) 4 4),(259,.int .i64 4),(260,.int .i64 ((i:Nat):Int)),(28,qS (cI v2) m2),(261,.bool true)]) (fun _=>(bm,[],mapTg 73 (sM S2))::(m2.b,m2.C,some (3,1,m2.c0))::(bl,L4.map iv,some (3,1,4))::(b4,[.int .i64 ((x:Nat):Int),.int .i64 ((hh:Nat):Int),.slice (some ⟨bA,oA,none⟩) g.length cp],some (66,3,1))::[]) (fun _=>True) ?_ ?_
   · repeat' (first|((with_reducible apply oq_id);first|((with_reducible apply oq_lssT);exact rfl;exact rfl;omega))|((with_reducible apply tl_id);first|(with_reducible apply tl_nil)|((with_reducible apply u_q);(iterate 4 exact rfl)))|((with_reducible apply t_id);first|(apply t_region;kernel_rfl)))
     all_goals exact ⟨by trivial,(),trivial,by (repeat' (first|exact FrSub.nil|(apply FrSub.cons;exact rfl))),by (repeat' (first|exact HpSub.refl _))⟩
   rintro ⟨⟩ -
   try dsimp only
   refine t_cut (ι:=Unit) (fun _=>[(1,.int .i64 ((p:Nat):Int)),(2,.int .i64 ((q:Nat):Int)),(3,.slice AT nT cT),(4,.pointer (some ⟨b4,0,none⟩)),(9,.bool true),(10,.int .i64 h'),(11,.slice (some ⟨gO,0,none⟩) P.length cO),(27,.map (some bm)),(29,.int .i64 ((a:Nat):Int)),(258,.slice (some ⟨bl,0,none⟩) 4 4),(259,.int .i64 4),(260,.int .i64 ((i:Nat):Int)),(28,qS (cI v2) m2)]) (fun _=>(bm,[],mapTg 73 (sM S2))::(m2.b,m2.C,some (3,1,m2.c0))::(bl,L4.map iv,some (3,1,4))::(b4,[.int .i64 ((x:Nat):Int),.int .i64 ((hh:Nat):Int),.slice (some ⟨bA,oA,none⟩) g.length cp],some (66,3,1))::[]) (fun _=>True) ?_ ?_
   · repeat' (first|((with_reducible apply t_id);first|((with_reducible apply t_condT);exact rfl)|(with_reducible apply t_skip)))
     all_goals exact ⟨by trivial,(),trivial,by (repeat' (first|exact FrSub.nil|(apply FrSub.cons;exact rfl))),by (repeat' (first|exact HpSub.refl _))⟩
   rintro ⟨⟩ -
   try dsimp only
   refine t_cut (ι:=List Nat×List Nat×Qm) (fun z=>[(1,.int .i64 ((p:Nat):Int)),(2,.int .i64 ((q:Nat):Int)),(3,.slice AT nT cT),(4,.pointer (some ⟨b4,0,none⟩)),(9,.bool true),(10,.int .i64 h'),(11,.slice (some ⟨gO,0,none⟩) P.length cO),(27,.map (some bm)),(29,.int .i64 ((a:Nat):Int)),(258,.slice (some ⟨bl,0,none⟩) 4 4),(259,.int .i64 4),(260,.int .i64 ((i:Nat):Int)),(28,qS (cI z.2.1) z.2.2)]) (fun z=>(bm,[],mapTg 73 (sM z.1))::(z.2.2.b,z.2.2.C,some (3,1,z.2.2.c0))::(bl,L4.map iv,some (3,1,4))::(b4,[.int .i64 ((x:Nat):Int),.int .i64 ((hh:Nat):Int),.slice (some ⟨bA,oA,none⟩) g.length cp],some (66,3,1))::[]) (fun z=>Srch x g.length g (h'-1) p z.1 z.2.1∧Qok (cI z.2.1) z.2.2∧a∈z.1∧z.2.1.length+S.length=u.length+z.1.length) ?_ ?_
   rotate_left
   · rintro ⟨S3,v3,m3⟩ ⟨hS3,hq3,haS3,hsz3⟩
     simp only at hS3 hq3 haS3 hsz3
     try dsimp only
     repeat' (first|((with_reducible apply oq_id);first|(focus ((with_reducible apply (oq_addE (k:=((i+1:Nat):Int))));exact rfl;exact rfl;omega))|(apply oq_fn;exact rfl;first|exact trivial|(and_intros<;>omega)|omega|skip))|((with_reducible apply tl_id);first|(with_reducible apply tl_nil)|((with_reducible apply u_q);(iterate 4 exact rfl)))|((with_reducible apply t_id);first|(apply t_region;kernel_rfl))|with_reducible apply q_thenN)
     all_goals (refine ⟨(i+1,S3,v3,m3),⟨(by simp only;omega),hS3,hq3,haS3,hsz3⟩,(by simp only;omega),?_,?_⟩<;>(repeat' (first|exact FrSub.nil|(apply FrSub.cons;exact rfl)|exact HpSub.refl _)))
   with_reducible apply t_block
   refine t_cut (ι:=Unit) (fun _=>[(1,.int .i64 ((p:Nat):Int)),(2,.int .i64 ((q:Nat):Int)),(3,.slice AT nT cT),(4,.pointer (some ⟨b4,0,none⟩)),(9,.bool true),(10,.int .i64 h'),(11,.slice (some ⟨gO,0,none⟩) P.length cO),(27,.map (some bm)),(29,.int .i64 ((a:Nat):Int)),(258,.slice (some ⟨bl,0,none⟩) 4 4),(259,.int .i64 4),(260,.int .i64 ((i:Nat):Int)),(28,qS (cI v2) m2),(31,.int .i64 v)]) (fun _=>(bm,[],mapTg 73 (sM S2))::(m2.b,m2.C,some (3,1,m2.c0))::(bl,L4.map iv,some (3,1,4))::(b4,[.int .i64 ((x:Nat):Int),.int .i64 ((hh:Nat):Int),.slice (some ⟨bA,oA,none⟩) g.length cp],some (66,3,1))::[]) (fun _=>True) ?_ ?_
   · repeat' (first|((with_reducible apply oq_id);first|(focus ((with_reducible apply oq_indexAddrN (i:=i));(iterate 4 exact rfl);omega))|(apply oq_fn;exact rfl;first|exact trivial|(and_intros<;>omega)|omega|skip)|((with_reducible apply oq_load);exact rfl;exact rfl))|((with_reducible apply tl_id);first|(with_reducible apply tl_nil)|((with_reducible apply u_q);(iterate 4 exact rfl)))|((with_reducible apply rd_id);first|(apply rdI hck;(repeat first|exact P0|apply P1);done))|((with_reducible apply t_id);first|(apply t_region;kernel_rfl)))
     all_goals exact ⟨by trivial,(),trivial,by (repeat' (first|exact FrSub.nil|(apply FrSub.cons;exact rfl))),by (repeat' (first|exact HpSub.refl _))⟩
   rintro ⟨⟩ -
   try dsimp only
   have m1:((a:Nat):Int).tmod ((x:Nat):Int)=((a % x:Nat):Int):=rfl
   obtain ⟨am,ham⟩:∃ z,a % x=z:=⟨_,rfl⟩
   have haml:am<x:=by rw [← ham];exact Nat.mod_lt _ (by omega)
   rw [ham] at m1
   with_reducible apply t_seq
   refine t_cut (ι:=Bool) (fun z=>[(1,.int .i64 ((p:Nat):Int)),(2,.int .i64 ((q:Nat):Int)),(3,.slice AT nT cT),(4,.pointer (some ⟨b4,0,none⟩)),(9,.bool true),(10,.int .i64 h'),(11,.slice (some ⟨gO,0,none⟩) P.length cO),(27,.map (some bm)),(29,.int .i64 ((a:Nat):Int)),(258,.slice (some ⟨bl,0,none⟩) 4 4),(259,.int .i64 4),(260,.int .i64 ((i:Nat):Int)),(28,qS (cI v2) m2),(31,.int .i64 v),(317,.bool z)]) (fun _=>(bm,[],mapTg 73 (sM S2))::(m2.b,m2.C,some (3,1,m2.c0))::(bl,L4.map iv,some (3,1,4))::(b4,[.int .i64 ((x:Nat):Int),.int .i64 ((hh:Nat):Int),.slice (some ⟨bA,oA,none⟩) g.length cp],some (66,3,1))::[]) (fun z=>z=false→∃ c:Nat,v=((c:Nat):Int)∧c<g.length∧c∈nb x g.length a∧c∉S2∧gr g c<h') ?_ ?_
   · have hk:v<0∨(g.length:Int)≤v∨∃ c:Nat,v=((c:Nat):Int)∧c<g.length:=by
       rcases Int.lt_or_le v 0 with h|h
       · exact .inl h
       · obtain ⟨c,rfl⟩:=Int.eq_ofNat_of_zero_le h
         rcases Nat.lt_or_ge c g.length with h|h
         · exact .inr (.inr ⟨c,rfl,h⟩)
         · exact .inr (.inl (by omega))
     rcases hk with hk|hk|⟨c,rfl,hcn⟩
     · repeat' (first|((with_reducible apply oq_id);first|((with_reducible apply oq_lssT);exact rfl;exact rfl;omega)|(apply oq_fn;exact rfl;first|exact trivial|(and_intros<;>omega)|omega|skip))|((with_reducible apply tl_id);first|(with_reducible apply tl_nil)|((with_reducible apply u_q);(iterate 4 exact rfl))|((with_reducible apply u_skip);(iterate 3 exact rfl)))|((with_reducible apply t_id);first|(apply t_region;kernel_rfl)))
       all_goals exact ⟨by trivial,true,(fun e=>nomatch e),by (repeat' (first|exact FrSub.nil|(apply FrSub.cons;exact rfl))),by (repeat' (first|exact HpSub.refl _))⟩
     · repeat' (first|((with_reducible apply oq_id);first|((with_reducible apply oq_lssF);exact rfl;exact rfl;omega)|((with_reducible apply oq_geqT);exact rfl;exact rfl;omega)|(apply oq_fn;exact rfl;first|exact trivial|(and_intros<;>omega)|omega|skip)|((with_reducible apply oq_load);exact rfl;exact rfl))|((with_reducible apply tl_id);first|(with_reducible apply tl_nil)|((with_reducible apply u_q);(iterate 4 exact rfl))|((with_reducible apply u_skip);(iterate 3 exact rfl)))|((with_reducible apply rd_id);first|(apply Rd.own;(repeat first|exact P0|apply P1);exact rfl;done))|((with_reducible apply t_id);first|(apply t_region;kernel_rfl)))
       all_goals exact ⟨by trivial,true,(fun e=>nomatch e),by (repeat' (first|exact FrSub.nil|(apply FrSub.cons;exact rfl))),by (repeat' (first|exact HpSub.refl _))⟩
     have m2':((c:Nat):Int).tmod ((x:Nat):Int)=((c % x:Nat):Int):=rfl
     have hnb:=nb_of t han hcn hv
     obtain ⟨cm,hcm⟩:∃ z,c % x=z:=⟨_,rfl⟩
     have hcml:cm<x:=by rw [← hcm];exact Nat.mod_lt _ (by omega)
     rw [hcm] at m2' hnb
     rw [ham] at hnb
     have hcg:=hgr2 c hcn
     have hgc:=hgr c hcn
     have h5:(1<x∧((c:Nat):Int)=((a:Nat):Int)-1∧am=0)∨(1<x∧((c:Nat):Int)=((a:Nat):Int)+1∧cm=0)∨¬ 1<x∨(1<x∧((c:Nat):Int)=((a:Nat):Int)-1∧am≠0)∨(1<x∧((c:Nat):Int)=((a:Nat):Int)+1∧cm≠0)∨(1<x∧((c:Nat):Int)≠((a:Nat):Int)-1∧((c:Nat):Int)≠((a:Nat):Int)+1):=by omega
     rcases h5 with h5|h5|h5
     · repeat' (first|((with_reducible apply oq_id);first|(focus ((with_reducible apply (oq_remY (k:=((am:Nat):Int))));exact rfl;exact rfl;exact ⟨by first|assumption|rfl,by omega⟩))|(focus ((with_reducible apply (oq_subE (k:=((a:Nat):Int)-1)));exact rfl;exact rfl;omega))|((with_reducible apply oq_gtrT);exact rfl;exact rfl;omega)|((with_reducible apply oq_eqlT);exact rfl;exact rfl;omega)|((with_reducible apply oq_lssF);exact rfl;exact rfl;omega)|((with_reducible apply oq_geqF);exact rfl;exact rfl;omega)|(apply oq_fn;exact rfl;first|exact trivial|(and_intros<;>omega)|omega|skip)|((with_reducible apply oq_load);exact rfl;exact rfl))|((with_reducible apply tl_id);first|(with_reducible apply tl_nil)|((with_reducible apply u_q);(iterate 4 exact rfl))|((with_reducible apply u_skip);(iterate 3 exact rfl)))|((with_reducible apply rd_id);first|(apply Rd.own;(repeat first|exact P0|apply P1);exact rfl;done))|((with_reducible apply t_id);first|(apply t_region;kernel_rfl)))
       all_goals exact ⟨by trivial,true,(fun e=>nomatch e),by (repeat' (first|exact FrSub.nil|(apply FrSub.cons;exact rfl))),by (repeat' (first|exact HpSub.refl _))⟩
     · repeat' (first|((with_reducible apply oq_id);first|(focus ((with_reducible apply (oq_remY (k:=((cm:Nat):Int))));exact rfl;exact rfl;exact ⟨by first|assumption|rfl,by omega⟩))|(focus ((with_reducible apply (oq_subE (k:=((a:Nat):Int)-1)));exact rfl;exact rfl;omega))|(focus ((with_reducible apply (oq_addE (k:=((a:Nat):Int)+1)));exact rfl;exact rfl;omega))|((with_reducible apply oq_gtrT);exact rfl;exact rfl;omega)|((with_reducible apply oq_eqlT);exact rfl;exact rfl;omega)|((with_reducible apply oq_eqlF);exact rfl;exact rfl;omega)|((with_reducible apply oq_lssF);exact rfl;exact rfl;omega)|((with_reducible apply oq_geqF);exact rfl;exact rfl;omega)|(apply oq_fn;exact rfl;first|exact trivial|(and_intros<;>omega)|omega|skip)|((with_reducible apply oq_load);exact rfl;exact rfl))|((with_reducible apply tl_id);first|(with_reducible apply tl_nil)|((with_reducible apply u_q);(iterate 4 exact rfl))|((with_reducible apply u_skip);(iterate 3 exact rfl)))|((with_reducible apply rd_id);first|(apply Rd.own;(repeat first|exact P0|apply P1);exact rfl;done))|((with_reducible apply t_id);first|(apply t_region;kernel_rfl)))
       all_goals exact ⟨by trivial,true,(fun e=>nomatch e),by (repeat' (first|exact FrSub.nil|(apply FrSub.cons;exact rfl))),by (repeat' (first|exact HpSub.refl _))⟩
     by_cases hcS:c∈S2
     · rcases h5 with h5|h5|h5|h5
       all_goals clear hnb
       repeat' (first|((with_reducible apply oq_id);first|(focus ((with_reducible apply (oq_remY (k:=((am:Nat):Int))));exact rfl;exact rfl;exact ⟨by first|assumption|rfl,by omega⟩))|(focus ((with_reducible apply (oq_remY (k:=((cm:Nat):Int))));exact rfl;exact rfl;exact ⟨by first|assumption|rfl,by omega⟩))|(focus ((with_reducible apply (oq_subE (k:=((a:Nat):Int)-1)));exact rfl;exact rfl;omega))|(focus ((with_reducible apply (oq_addE (k:=((a:Nat):Int)+1)));exact rfl;exact rfl;omega))|((with_reducible apply (oq_seenT (h:=hcS)));exact rfl;exact rfl;(repeat first|exact P0|apply P1))|((with_reducible apply oq_gtrT);exact rfl;exact rfl;omega)|((with_reducible apply oq_gtrF);exact rfl;exact rfl;omega)|((with_reducible apply oq_eqlT);exact rfl;exact rfl;omega)|((with_reducible apply oq_eqlF);exact rfl;exact rfl;omega)|((with_reducible apply oq_lssF);exact rfl;exact rfl;omega)|((with_reducible apply oq_geqF);exact rfl;exact rfl;omega)|(apply oq_fn;exact rfl;first|exact trivial|(and_intros<;>omega)|omega|skip)|((with_reducible apply oq_load);exact rfl;exact rfl))|((with_reducible apply tl_id);first|(with_reducible apply tl_nil)|((with_reducible apply u_q);(iterate 4 exact rfl))|((with_reducible apply u_skip);(iterate 3 exact rfl)))|((with_reducible apply rd_id);first|(apply Rd.own;(repeat first|exact P0|apply P1);exact rfl;done))|((with_reducible apply t_id);first|(apply t_region;kernel_rfl)))
       all_goals exact ⟨by trivial,true,(fun e=>nomatch e),by (repeat' (first|exact FrSub.nil|(apply FrSub.cons;exact rfl))),by (repeat' (first|exact HpSub.refl _))⟩
     have hnb2:c∈nb x g.length a:=hnb (by omega)
     clear hnb
     by_cases hlow:gr g c<h'
     · rcases h5 with h5|h5|h5|h5
       repeat' (first|((with_reducible apply oq_id);first|(focus ((with_reducible apply (oq_remY (k:=((am:Nat):Int))));exact rfl;exact rfl;exact ⟨by first|assumption|rfl,by omega⟩))|(focus ((with_reducible apply (oq_remY (k:=((cm:Nat):Int))));exact rfl;exact rfl;exact ⟨by first|assumption|rfl,by omega⟩))|(focus ((with_reducible apply (oq_subE (k:=((a:Nat):Int)-1)));exact rfl;exact rfl;omega))|(focus ((with_reducible apply (oq_addE (k:=((a:Nat):Int)+1)));exact rfl;exact rfl;omega))|((with_reducible apply (oq_seenF (h:=hcS)));exact rfl;exact rfl;(repeat first|exact P0|apply P1))|(focus ((with_reducible apply oq_indexAddrN (i:=c));(iterate 4 exact rfl);omega))|((with_reducible apply oq_gtrT);exact rfl;exact rfl;omega)|((with_reducible apply oq_gtrF);exact rfl;exact rfl;omega)|((with_reducible apply oq_eqlT);exact rfl;exact rfl;omega)|((with_reducible apply oq_eqlF);exact rfl;exact rfl;omega)|((with_reducible apply oq_lssF);exact rfl;exact rfl;omega)|((with_reducible apply oq_geqF);exact rfl;exact rfl;omega)|(apply oq_fn;exact rfl;first|exact trivial|(and_intros<;>omega)|omega|skip)|((with_reducible apply oq_load);exact rfl;exact rfl))|((with_reducible apply tl_id);first|(with_reducible apply tl_nil)|((with_reducible apply u_q);(iterate 4 exact rfl))|((with_reducible apply u_skip);(iterate 3 exact rfl)))|((with_reducible apply rd_id);first|(apply Rd.old;exact hcg;exact List.not_mem_nil)|(apply Rd.own;(repeat first|exact P0|apply P1);exact rfl;done))|((with_reducible apply t_id);first|(apply t_region;kernel_rfl)))
       all_goals exact ⟨by trivial,false,(fun _=>⟨c,rfl,hcn,hnb2,hcS,hlow⟩),by (repeat' (first|exact FrSub.nil|(apply FrSub.cons;exact rfl))),by (repeat' (first|exact HpSub.refl _))⟩
     · rcases h5 with h5|h5|h5|h5
       repeat' (first|((with_reducible apply oq_id);first|(focus ((with_reducible apply (oq_remY (k:=((am:Nat):Int))));exact rfl;exact rfl;exact ⟨by first|assumption|rfl,by omega⟩))|(focus ((with_reducible apply (oq_remY (k:=((cm:Nat):Int))));exact rfl;exact rfl;exact ⟨by first|assumption|rfl,by omega⟩))|(focus ((with_reducible apply (oq_subE (k:=((a:Nat):Int)-1)));exact rfl;exact rfl;omega))|(focus ((with_reducible apply (oq_addE (k:=((a:Nat):Int)+1)));exact rfl;exact rfl;omega))|((with_reducible apply (oq_seenF (h:=hcS)));exact rfl;exact rfl;(repeat first|exact P0|apply P1))|(focus ((with_reducible apply oq_indexAddrN (i:=c));(iterate 4 exact rfl);omega))|((with_reducible apply oq_gtrT);exact rfl;exact rfl;omega)|((with_reducible apply oq_gtrF);exact rfl;exact rfl;omega)|((with_reducible apply oq_eqlT);exact rfl;exact rfl;omega)|((with_reducible apply oq_eqlF);exact rfl;exact rfl;omega)|((with_reducible apply oq_lssF);exact rfl;exact rfl;omega)|((with_reducible apply oq_geqT);exact rfl;exact rfl;omega)|((with_reducible apply oq_geqF);exact rfl;exact rfl;omega)|(apply oq_fn;exact rfl;first|exact trivial|(and_intros<;>omega)|omega|skip)|((with_reducible apply oq_load);exact rfl;exact rfl))|((with_reducible apply tl_id);first|(with_reducible apply tl_nil)|((with_reducible apply u_q);(iterate 4 exact rfl))|((with_reducible apply u_skip);(iterate 3 exact rfl)))|((with_reducible apply rd_id);first|(apply Rd.old;exact hcg;exact List.not_mem_nil)|(apply Rd.own;(repeat first|exact P0|apply P1);exact rfl;done))|((with_reducible apply t_id);first|(apply t_region;kernel_rfl)))
       all_goals exact ⟨by trivial,true,(fun e=>nomatch e),by (repeat' (first|exact FrSub.nil|(apply FrSub.cons;exact rfl))),by (repeat' (first|exact HpSub.refl _))⟩
   rintro r hr
   try dsimp only
   cases r with
   | true=>
     repeat' (first|((with_reducible apply t_id);first|((with_reducible apply t_condT);exact rfl)|(with_reducible apply t_exit))|with_reducible apply q_thenE|((with_reducible apply q_blockE);exact rfl))
     all_goals exact ⟨by trivial,(S2,v2,m2),⟨hS2,hq2,haS2,hsz⟩,by (repeat' (first|exact FrSub.nil|(apply FrSub.cons;exact rfl))),by (repeat' (first|exact HpSub.refl _))⟩
   | false=>
   obtain ⟨c,rfl,hcn,hnb,hcS,hlow⟩:=hr rfl
   have hS3:=hS2.add haS2 hcn hnb (by omega) hcS
   repeat' (first|((with_reducible apply oq_id);first|(apply oq_fn;exact rfl;first|exact trivial|(and_intros<;>omega)|omega|skip))|((with_reducible apply tl_id);first|(with_reducible apply tl_nil)|((with_reducible apply u_s);(iterate 3 exact rfl);((with_reducible apply (os_appQ (hk:=app_ok31) (m:=m2) (q:=cI v2) (z:=((c:Nat):Int))));exact rfl;exact rfl;exact hq2;(focus (first|omega|(simp [cI];done)));(repeat first|exact P0|apply P1);(apply Rd.own;(repeat first|exact P0|apply P1);exact rfl);intro m3 hq3))|((with_reducible apply u_q);(iterate 4 exact rfl))|((with_reducible apply u_s0);exact rfl;exact rfl)|((with_reducible apply u_s);(iterate 3 exact rfl)))|((with_reducible apply os_id);first|((with_reducible apply (os_mark (hnew:=hcS)));(iterate 3 exact rfl);(repeat first|exact P0|apply P1))|((with_reducible apply os_x);exact rfl))|((with_reducible apply ox_id);first|((with_reducible apply ox_buildSlice1);(iterate 6 exact rfl);intro _))|((with_reducible apply t_id);first|(with_reducible apply t_seq)|(apply t_region;kernel_rfl)|((with_reducible apply t_condF);exact rfl)|(with_reducible apply t_skip))|with_reducible apply q_thenN|with_reducible apply q_blockN)
   all_goals exact ⟨by trivial,(S2++[c],v2++[c],m3),⟨hS3,(by rw [cI_snoc];exact hq3),List.mem_append_left _ haS2,(by simp only [List.length_append,List.length_singleton];omega)⟩,by (repeat' (first|exact FrSub.nil|(apply FrSub.cons;exact rfl)|(apply FrSub.consE;exact rfl;first|(focus (simp [sI,cI,qS];done))|skip))),by (repeat' (first|exact HpSub.refl _|(apply HpSub.consE;(repeat first|exact P0|apply P1);first|exact rfl|(focus (simp [iv,cI];done))|(focus (simp [sM];done)))|apply HpSub.skipX))⟩
 repeat' (first|((with_reducible apply oq_id);first|(apply oq_fn;exact rfl;first|exact trivial|(and_intros<;>omega)|omega|skip))|((with_reducible apply tl_id);first|(with_reducible apply tl_nil)|((with_reducible apply u_q);(iterate 4 exact rfl)))|((with_reducible apply t_id);first|(with_reducible apply t_seq)|(apply t_region;kernel_rfl)|(with_reducible apply t_block))|with_reducible apply q_thenN)
 apply t_loopP (ι:=Nat×List Nat×Nat×Nat) [1,2,3,4,9,10,11,104,105] (fun z=>[(18,.slice (some ⟨z.2.2.1,0,none⟩) z.2.1.length z.2.2.2),(106,.int .i64 ((z.1:Nat):Int))]) (fun z=>(z.2.2.1,(cI z.2.1).map iv,some (3,1,z.2.2.2))::(b4,[.int .i64 ((x:Nat):Int),.int .i64 ((hh:Nat):Int),.slice A g.length cp],some (66,3,1))::[]) (fun z=>z.1≤nT∧z.2.1≠[]∧(∀ c∈z.2.1,c<g.length)∧z.2.1.length≤z.1+1) (fun z=>nT-z.1) (0,[p],bO,kO)
 (repeat (first|exact KeepF.nil|(apply KeepF.cons;exact rfl)|apply KeepF.skip))
 (repeat first|exact FrSub.nil|(apply FrSub.cons;exact rfl))
 (try simp only [List.cons_append,List.nil_append])
 (repeat' (first|exact HpSub.refl _))
 · exact ⟨Nat.zero_le _,by simp,fun c hc=>by obtain rfl:=List.mem_singleton.1 hc;exact pn,Nat.le_refl _⟩
 rintro ⟨i,O,bO,kO⟩ ⟨hi,hO1,hO2,hO3⟩
 simp only at hi hO1 hO2 hO3
 try simp only [List.cons_append,List.nil_append]
 by_cases hin:i<nT
 rotate_left
 · repeat' (first|((with_reducible apply oq_id);first|((with_reducible apply oq_lssF);exact rfl;exact rfl;omega))|((with_reducible apply tl_id);first|(with_reducible apply tl_nil)|((with_reducible apply u_q);(iterate 4 exact rfl)))|((with_reducible apply t_id);first|(with_reducible apply t_seq)|(apply t_region;kernel_rfl)|((with_reducible apply t_condF);exact rfl)|(with_reducible apply t_exit))|with_reducible apply q_thenN|with_reducible apply q_thenE|((with_reducible apply q_blockE);exact rfl))
   all_goals exact ⟨by trivial,(O,bO,kO),(by simp only;omega),by (repeat first|exact FrSub.nil|(apply FrSub.cons;exact rfl)),by (repeat' (first|exact HpSub.refl _))⟩
 obtain ⟨bT,oT,sb,rfl,_,hsb,c0⟩:=u8_read hT hin
 obtain ⟨hs0,hs1⟩:=hu sb (List.mem_of_getElem? hsb)
 have hOl:0<O.length:=List.length_pos_iff.2 hO1
 obtain ⟨at',hat⟩:∃ x,O[O.length-1]?=some x:=⟨_,List.getElem?_eq_getElem (by omega)⟩
 have hatn:=hO2 at' (List.mem_of_getElem? hat)
 refine t_cut (ι:=Unit) (fun _=>[(1,.int .i64 ((p:Nat):Int)),(2,.int .i64 ((q:Nat):Int)),(3,.slice (some ⟨bT,oT,none⟩) nT cT),(4,.pointer (some ⟨b4,0,none⟩)),(9,.bool true),(10,.int .i64 h'),(11,.slice (some ⟨gO,0,none⟩) P.length cO),(18,.slice (some ⟨bO,0,none⟩) O.length kO),(104,.slice (some ⟨bT,oT,none⟩) nT cT),(105,.int .i64 ((nT:Nat):Int)),(106,.int .i64 ((i:Nat):Int)),(107,.bool true)]) (fun _=>(bO,(cI O).map iv,some (3,1,kO))::(b4,[.int .i64 ((x:Nat):Int),.int .i64 ((hh:Nat):Int),.slice A g.length cp],some (66,3,1))::[]) (fun _=>True) ?_ ?_
 · repeat' (first|((with_reducible apply oq_id);first|((with_reducible apply oq_lssT);exact rfl;exact rfl;omega))|((with_reducible apply tl_id);first|(with_reducible apply tl_nil)|((with_reducible apply u_q);(iterate 4 exact rfl)))|((with_reducible apply t_id);first|(apply t_region;kernel_rfl)))
   all_goals exact ⟨by trivial,(),trivial,by (repeat first|exact FrSub.nil|(apply FrSub.cons;exact rfl)),by (repeat' (first|exact HpSub.refl _))⟩
 rintro ⟨⟩ -
 refine t_cut (ι:=Unit) (fun _=>[(1,.int .i64 ((p:Nat):Int)),(2,.int .i64 ((q:Nat):Int)),(3,.slice (some ⟨bT,oT,none⟩) nT cT),(4,.pointer (some ⟨b4,0,none⟩)),(9,.bool true),(10,.int .i64 h'),(11,.slice (some ⟨gO,0,none⟩) P.length cO),(18,.slice (some ⟨bO,0,none⟩) O.length kO),(104,.slice (some ⟨bT,oT,none⟩) nT cT),(105,.int .i64 ((nT:Nat):Int)),(106,.int .i64 ((i:Nat):Int))]) (fun _=>(bO,(cI O).map iv,some (3,1,kO))::(b4,[.int .i64 ((x:Nat):Int),.int .i64 ((hh:Nat):Int),.slice A g.length cp],some (66,3,1))::[]) (fun _=>True) ?_ ?_
 · repeat' (first|((with_reducible apply t_id);first|((with_reducible apply t_condT);exact rfl)|(with_reducible apply t_skip)))
   all_goals exact ⟨by trivial,(),trivial,by (repeat first|exact FrSub.nil|(apply FrSub.cons;exact rfl)),by (repeat' (first|exact HpSub.refl _))⟩
 rintro ⟨⟩ -
 with_reducible apply t_seq
 with_reducible apply t_block
 refine t_cut (ι:=Unit) (fun _=>[(1,.int .i64 ((p:Nat):Int)),(2,.int .i64 ((q:Nat):Int)),(3,.slice (some ⟨bT,oT,none⟩) nT cT),(4,.pointer (some ⟨b4,0,none⟩)),(9,.bool true),(10,.int .i64 h'),(11,.slice (some ⟨gO,0,none⟩) P.length cO),(18,.slice (some ⟨bO,0,none⟩) O.length kO),(104,.slice (some ⟨bT,oT,none⟩) nT cT),(105,.int .i64 ((nT:Nat):Int)),(106,.int .i64 ((i:Nat):Int)),(20,.int .u8 sb)]) (fun _=>(bO,(cI O).map iv,some (3,1,kO))::(b4,[.int .i64 ((x:Nat):Int),.int .i64 ((hh:Nat):Int),.slice A g.length cp],some (66,3,1))::[]) (fun _=>True) ?_ ?_
 · repeat' (first|((with_reducible apply oq_id);first|(focus ((with_reducible apply oq_indexAddrN (i:=i));(iterate 4 exact rfl);omega))|(apply oq_fn;exact rfl;first|exact trivial|(and_intros<;>omega)|omega|skip)|((with_reducible apply oq_load);exact rfl;exact rfl))|((with_reducible apply tl_id);first|(with_reducible apply tl_nil)|((with_reducible apply u_q);(iterate 4 exact rfl)))|((with_reducible apply rd_id);first|(apply Rd.old;(first|(with_reducible assumption)|exact c0|exact c1|exact c2|exact c3|exact c4|exact c5|exact c6|exact c7|exact c8|exact d0|exact d1|exact d2|exact d3|exact d4|exact d5);first|exact List.not_mem_nil|exact m0|exact m1|exact m2|exact m3|exact m4|exact m5|exact m6|exact m7|exact m8|exact m9))|((with_reducible apply t_id);first|(apply t_region;kernel_rfl)))
   all_goals exact ⟨by trivial,(),trivial,by (repeat first|exact FrSub.nil|(apply FrSub.cons;exact rfl)),by (repeat' (first|exact HpSub.refl _))⟩
 rintro ⟨⟩ -
 refine t_cut (ι:=Unit) (fun _=>[(1,.int .i64 ((p:Nat):Int)),(2,.int .i64 ((q:Nat):Int)),(3,.slice (some ⟨bT,oT,none⟩) nT cT),(4,.pointer (some ⟨b4,0,none⟩)),(9,.bool true),(10,.int .i64 h'),(11,.slice (some ⟨gO,0,none⟩) P.length cO),(18,.slice (some ⟨bO,0,none⟩) O.length kO),(104,.slice (some ⟨bT,oT,none⟩) nT cT),(105,.int .i64 ((nT:Nat):Int)),(106,.int .i64 ((i:Nat):Int)),(20,.int .u8 sb),(21,.int .i64 ((at':Nat):Int))]) (fun _=>(bO,(cI O).map iv,some (3,1,kO))::(b4,[.int .i64 ((x:Nat):Int),.int .i64 ((hh:Nat):Int),.slice A g.length cp],some (66,3,1))::[]) (fun _=>True) ?_ ?_
 · repeat' (first|((with_reducible apply oq_id);first|(focus ((with_reducible apply oq_indexAddrN (i:=(O.length-1)));(iterate 4 exact rfl);omega))|(focus ((with_reducible apply (oq_subE (k:=((O.length-1:Nat):Int))));exact rfl;exact rfl;omega))|(apply oq_fn;exact rfl;first|exact trivial|(and_intros<;>omega)|omega|skip)|((with_reducible apply oq_load);exact rfl;exact rfl))|((with_reducible apply tl_id);first|(with_reducible apply tl_nil)|((with_reducible apply u_q);(iterate 4 exact rfl)))|((with_reducible apply rd_id);first|((with_reducible apply (rd_st (h:=hat)));(repeat first|exact P0|apply P1)))|((with_reducible apply t_id);first|(apply t_region;kernel_rfl)))
   all_goals exact ⟨by trivial,(),trivial,by (repeat first|exact FrSub.nil|(apply FrSub.cons;exact rfl)),by (repeat' (first|exact HpSub.refl _))⟩
 rintro ⟨⟩ -
 refine t_cut (ι:=Unit) (fun _=>[(1,.int .i64 ((p:Nat):Int)),(2,.int .i64 ((q:Nat):Int)),(3,.slice (some ⟨bT,oT,none⟩) nT cT),(4,.pointer (some ⟨b4,0,none⟩)),(9,.bool true),(10,.int .i64 h'),(11,.slice (some ⟨gO,0,none⟩) P.length cO),(18,.slice (some ⟨bO,0,none⟩) O.length kO),(104,.slice (some ⟨bT,oT,none⟩) nT cT),(105,.int .i64 ((nT:Nat):Int)),(106,.int .i64 ((i:Nat):Int)),(20,.int .u8 sb),(21,.int .i64 ((at':Nat):Int)),(22,.int .i64 ((at':Nat):Int))]) (fun _=>(bO,(cI O).map iv,some (3,1,kO))::(b4,[.int .i64 ((x:Nat):Int),.int .i64 ((hh:Nat):Int),.slice A g.length cp],some (66,3,1))::[]) (fun _=>True) ?_ ?_
 · repeat' (first|((with_reducible apply oq_id);first|(apply oq_fn;exact rfl;first|exact trivial|(and_intros<;>omega)|omega|skip))|((with_reducible apply tl_id);first|(with_reducible apply tl_nil)|((with_reducible apply u_q);(iterate 4 exact rfl)))|((with_reducible apply t_id);first|(apply t_region;kernel_rfl)))
   all_goals exact ⟨by trivial,(),trivial,by (repeat first|exact FrSub.nil|(apply FrSub.cons;exact rfl)),by (repeat' (first|exact HpSub.refl _))⟩
 rintro ⟨⟩ -
 have tw:=t.w1
 have tw2:=t.w24
 have hmod:∃ m,at' % x=m:=⟨_,rfl⟩
 obtain ⟨am,ham⟩:=hmod
 have haml:am<x:=by rw [← ham];exact Nat.mod_lt _ (by omega)
 have hright:am+1<x→at'+1<g.length:=fun h1=>by
   have h2:at' / x<hh:=row_lt (by rw [← t.hn];exact hatn) tw
   have h3:=Nat.div_add_mod at' x
   have h4:x*(at' / x+1)≤x*hh:=Nat.mul_le_mul_left _ h2
   rw [Nat.mul_add] at h4
   have h5:=t.hn
   omega
 have hrem:((at':Nat):Int).tmod ((x:Nat):Int)=((am:Nat):Int):=by rw [← ham];rfl
 refine t_cut (ι:=Nat) (fun z=>[(1,.int .i64 ((p:Nat):Int)),(2,.int .i64 ((q:Nat):Int)),(3,.slice (some ⟨bT,oT,none⟩) nT cT),(4,.pointer (some ⟨b4,0,none⟩)),(9,.bool true),(10,.int .i64 h'),(11,.slice (some ⟨gO,0,none⟩) P.length cO),(18,.slice (some ⟨bO,0,none⟩) O.length kO),(104,.slice (some ⟨bT,oT,none⟩) nT cT),(105,.int .i64 ((nT:Nat):Int)),(106,.int .i64 ((i:Nat):Int)),(20,.int .u8 sb),(21,.int .i64 ((at':Nat):Int)),(22,.int .i64 ((z:Nat):Int))]) (fun _=>(bO,(cI O).map iv,some (3,1,kO))::(b4,[.int .i64 ((x:Nat):Int),.int .i64 ((hh:Nat):Int),.slice A g.length cp],some (66,3,1))::[]) (fun z=>z<g.length) ?_ ?_
 · obtain ⟨sm,hsm⟩:∃ m,sb.tmod 4=m:=⟨_,rfl⟩
   have hsb':sb.tmod 4=sb % 4:=Int.tmod_eq_emod_of_nonneg hs0
   have hsr:0≤sm∧sm≤3:=by omega
   clear hsb'
   obtain rfl|rfl|rfl|rfl:sm=0∨sm=1∨sm=2∨sm=3:=by omega
   · by_cases h1:x≤at'
     · repeat' (first|((with_reducible apply oq_id);first|(focus ((with_reducible apply (oq_remU8 (k:=_)));exact rfl;exact rfl;exact ⟨hsm,by decide⟩))|(focus ((with_reducible apply (oq_subE (k:=((at'-x:Nat):Int))));exact rfl;exact rfl;omega))|((with_reducible apply oq_eqlT);exact rfl;exact rfl;omega)|((with_reducible apply oq_geqT);exact rfl;exact rfl;omega)|(apply oq_fn;exact rfl;first|exact trivial|(and_intros<;>omega)|omega|skip)|((with_reducible apply oq_load);exact rfl;exact rfl))|((with_reducible apply tl_id);first|(with_reducible apply tl_nil)|((with_reducible apply u_q);(iterate 4 exact rfl)))|((with_reducible apply rd_id);first|(apply Rd.own;(repeat first|exact P0|apply P1);exact rfl;done))|((with_reducible apply t_id);first|(with_reducible apply t_seq)|(apply t_region;kernel_rfl)|((with_reducible apply t_condT);exact rfl)|(with_reducible apply t_block))|with_reducible apply q_thenN|with_reducible apply q_blockN)
       all_goals exact ⟨by trivial,at'-x,(by omega),by (repeat first|exact FrSub.nil|(apply FrSub.cons;exact rfl)),by (repeat' (first|exact HpSub.refl _))⟩
     · repeat' (first|((with_reducible apply oq_id);first|(focus ((with_reducible apply (oq_remU8 (k:=_)));exact rfl;exact rfl;exact ⟨hsm,by decide⟩))|((with_reducible apply oq_eqlT);exact rfl;exact rfl;omega)|((with_reducible apply oq_eqlF);exact rfl;exact rfl;omega)|((with_reducible apply oq_geqF);exact rfl;exact rfl;omega)|(apply oq_fn;exact rfl;first|exact trivial|(and_intros<;>omega)|omega|skip)|((with_reducible apply oq_load);exact rfl;exact rfl))|((with_reducible apply tl_id);first|(with_reducible apply tl_nil)|((with_reducible apply u_q);(iterate 4 exact rfl))|((with_reducible apply u_skip);(iterate 3 exact rfl)))|((with_reducible apply gx_id);first|(with_reducible apply v_nil)|((with_reducible apply v_q);(iterate 3 exact rfl))|((with_reducible apply v_skip);(iterate 3 exact rfl)))|((with_reducible apply rd_id);first|(apply Rd.own;(repeat first|exact P0|apply P1);exact rfl;done))|((with_reducible apply t_id);first|(with_reducible apply t_seq)|(apply t_region;kernel_rfl)|(apply t_drawn;kernel_rfl;decide +kernel;try simp only [List.append_eq,List.cons_append,List.nil_append])|((with_reducible apply t_condF);exact rfl)|(with_reducible apply t_skip)|(with_reducible apply t_block))|with_reducible apply q_thenN|with_reducible apply q_blockN)
       all_goals exact ⟨by trivial,at',hatn,by (repeat first|exact FrSub.nil|(apply FrSub.cons;exact rfl)),by (repeat' (first|exact HpSub.refl _))⟩
   · by_cases h1:0<am
     · have:am≤at':=by rw [← ham];exact Nat.mod_le _ _
       repeat' (first|((with_reducible apply oq_id);first|(focus ((with_reducible apply (oq_remU8 (k:=_)));exact rfl;exact rfl;exact ⟨hsm,by decide⟩))|(focus ((with_reducible apply (oq_remY (k:=((am:Nat):Int))));exact rfl;exact rfl;exact ⟨hrem,by omega⟩))|(focus ((with_reducible apply (oq_subE (k:=((at'-1:Nat):Int))));exact rfl;exact rfl;omega))|((with_reducible apply oq_eqlT);exact rfl;exact rfl;omega)|((with_reducible apply oq_eqlF);exact rfl;exact rfl;omega)|((with_reducible apply oq_gtrT);exact rfl;exact rfl;omega)|(apply oq_fn;exact rfl;first|exact trivial|(and_intros<;>omega)|omega|skip)|((with_reducible apply oq_load);exact rfl;exact rfl))|((with_reducible apply tl_id);first|(with_reducible apply tl_nil)|((with_reducible apply u_q);(iterate 4 exact rfl))|((with_reducible apply u_skip);(iterate 3 exact rfl)))|((with_reducible apply rd_id);first|(apply Rd.own;(repeat first|exact P0|apply P1);exact rfl;done))|((with_reducible apply t_id);first|(with_reducible apply t_seq)|(apply t_region;kernel_rfl)|((with_reducible apply t_condT);exact rfl)|((with_reducible apply t_condF);exact rfl)|(with_reducible apply t_block))|with_reducible apply q_thenN|with_reducible apply q_blockN)
       all_goals exact ⟨by trivial,at'-1,(by omega),by (repeat first|exact FrSub.nil|(apply FrSub.cons;exact rfl)),by (repeat' (first|exact HpSub.refl _))⟩
     · repeat' (first|((with_reducible apply oq_id);first|(focus ((with_reducible apply (oq_remU8 (k:=_)));exact rfl;exact rfl;exact ⟨hsm,by decide⟩))|(focus ((with_reducible apply (oq_remY (k:=((am:Nat):Int))));exact rfl;exact rfl;exact ⟨hrem,by omega⟩))|((with_reducible apply oq_eqlT);exact rfl;exact rfl;omega)|((with_reducible apply oq_eqlF);exact rfl;exact rfl;omega)|((with_reducible apply oq_gtrF);exact rfl;exact rfl;omega)|(apply oq_fn;exact rfl;first|exact trivial|(and_intros<;>omega)|omega|skip)|((with_reducible apply oq_load);exact rfl;exact rfl))|((with_reducible apply tl_id);first|(with_reducible apply tl_nil)|((with_reducible apply u_q);(iterate 4 exact rfl))|((with_reducible apply u_skip);(iterate 3 exact rfl)))|((with_reducible apply gx_id);first|(with_reducible apply v_nil)|((with_reducible apply v_q);(iterate 3 exact rfl))|((with_reducible apply v_skip);(iterate 3 exact rfl)))|((with_reducible apply rd_id);first|(apply Rd.own;(repeat first|exact P0|apply P1);exact rfl;done))|((with_reducible apply t_id);first|(with_reducible apply t_seq)|(apply t_region;kernel_rfl)|(apply t_drawn;kernel_rfl;decide +kernel;try simp only [List.append_eq,List.cons_append,List.nil_append])|((with_reducible apply t_condF);exact rfl)|(with_reducible apply t_skip)|(with_reducible apply t_block))|with_reducible apply q_thenN|with_reducible apply q_blockN)
       all_goals exact ⟨by trivial,at',hatn,by (repeat first|exact FrSub.nil|(apply FrSub.cons;exact rfl)),by (repeat' (first|exact HpSub.refl _))⟩
   · by_cases h1:am+1<x
     · repeat' (first|((with_reducible apply oq_id);first|(focus ((with_reducible apply (oq_remU8 (k:=_)));exact rfl;exact rfl;exact ⟨hsm,by decide⟩))|(focus ((with_reducible apply (oq_remY (k:=((am:Nat):Int))));exact rfl;exact rfl;exact ⟨hrem,by omega⟩))|(focus ((with_reducible apply (oq_addE (k:=((at'+1:Nat):Int))));exact rfl;exact rfl;omega))|(focus ((with_reducible apply (oq_subE (k:=((x-1:Nat):Int))));exact rfl;exact rfl;omega))|((with_reducible apply oq_eqlT);exact rfl;exact rfl;omega)|((with_reducible apply oq_eqlF);exact rfl;exact rfl;omega)|((with_reducible apply oq_lssT);exact rfl;exact rfl;omega)|(apply oq_fn;exact rfl;first|exact trivial|(and_intros<;>omega)|omega|skip)|((with_reducible apply oq_load);exact rfl;exact rfl))|((with_reducible apply tl_id);first|(with_reducible apply tl_nil)|((with_reducible apply u_q);(iterate 4 exact rfl))|((with_reducible apply u_skip);(iterate 3 exact rfl)))|((with_reducible apply gx_id);first|(with_reducible apply v_nil)|((with_reducible apply v_q);(iterate 3 exact rfl)))|((with_reducible apply rd_id);first|(apply Rd.own;(repeat first|exact P0|apply P1);exact rfl;done))|((with_reducible apply t_id);first|(with_reducible apply t_seq)|(apply t_region;kernel_rfl)|(apply t_drawn;kernel_rfl;decide +kernel;try simp only [List.append_eq,List.cons_append,List.nil_append])|((with_reducible apply t_condT);exact rfl)|((with_reducible apply t_condF);exact rfl)|(with_reducible apply t_block))|with_reducible apply q_thenN|with_reducible apply q_blockN)
       all_goals exact ⟨by trivial,at'+1,hright h1,by (repeat first|exact FrSub.nil|(apply FrSub.cons;exact rfl)),by (repeat' (first|exact HpSub.refl _))⟩
     · repeat' (first|((with_reducible apply oq_id);first|(focus ((with_reducible apply (oq_remU8 (k:=_)));exact rfl;exact rfl;exact ⟨hsm,by decide⟩))|(focus ((with_reducible apply (oq_remY (k:=((am:Nat):Int))));exact rfl;exact rfl;exact ⟨hrem,by omega⟩))|(focus ((with_reducible apply (oq_subE (k:=((x-1:Nat):Int))));exact rfl;exact rfl;omega))|((with_reducible apply oq_eqlT);exact rfl;exact rfl;omega)|((with_reducible apply oq_eqlF);exact rfl;exact rfl;omega)|((with_reducible apply oq_lssF);exact rfl;exact rfl;omega)|(apply oq_fn;exact rfl;first|exact trivial|(and_intros<;>omega)|omega|skip)|((with_reducible apply oq_load);exact rfl;exact rfl))|((with_reducible apply tl_id);first|(with_reducible apply tl_nil)|((with_reducible apply u_q);(iterate 4 exact rfl))|((with_reducible apply u_skip);(iterate 3 exact rfl)))|((with_reducible apply gx_id);first|(with_reducible apply v_nil)|((with_reducible apply v_q);(iterate 3 exact rfl)))|((with_reducible apply rd_id);first|(apply Rd.own;(repeat first|exact P0|apply P1);exact rfl;done))|((with_reducible apply t_id);first|(with_reducible apply t_seq)|(apply t_region;kernel_rfl)|(apply t_drawn;kernel_rfl;decide +kernel;try simp only [List.append_eq,List.cons_append,List.nil_append])|((with_reducible apply t_condF);exact rfl)|(with_reducible apply t_skip)|(with_reducible apply t_block))|with_reducible apply q_thenN|with_reducible apply q_blockN)
       all_goals exact ⟨by trivial,at',hatn,by (repeat first|exact FrSub.nil|(apply FrSub.cons;exact rfl)),by (repeat' (first|exact HpSub.refl _))⟩
   · by_cases h1:at'+x<g.length
     · repeat' (first|((with_reducible apply oq_id);first|(focus ((with_reducible apply (oq_remU8 (k:=_)));exact rfl;exact rfl;exact ⟨hsm,by decide⟩))|(focus ((with_reducible apply (oq_addE (k:=((at'+x:Nat):Int))));exact rfl;exact rfl;omega))|((with_reducible apply oq_eqlT);exact rfl;exact rfl;omega)|((with_reducible apply oq_eqlF);exact rfl;exact rfl;omega)|((with_reducible apply oq_lssT);exact rfl;exact rfl;omega)|(apply oq_fn;exact rfl;first|exact trivial|(and_intros<;>omega)|omega|skip)|((with_reducible apply oq_load);exact rfl;exact rfl))|((with_reducible apply tl_id);first|(with_reducible apply tl_nil)|((with_reducible apply u_q);(iterate 4 exact rfl))|((with_reducible apply u_skip);(iterate 3 exact rfl)))|((with_reducible apply gx_id);first|(with_reducible apply v_nil)|((with_reducible apply v_q);(iterate 3 exact rfl))|((with_reducible apply v_skip);(iterate 3 exact rfl)))|((with_reducible apply rd_id);first|(apply Rd.own;(repeat first|exact P0|apply P1);exact rfl;done))|((with_reducible apply t_id);first|(with_reducible apply t_seq)|(apply t_region;kernel_rfl)|(apply t_drawn;kernel_rfl;decide +kernel;try simp only [List.append_eq,List.cons_append,List.nil_append])|((with_reducible apply t_condT);exact rfl)|((with_reducible apply t_condF);exact rfl)|(with_reducible apply t_block))|with_reducible apply q_thenN|with_reducible apply q_blockN)
       all_goals exact ⟨by trivial,at'+x,h1,by (repeat first|exact FrSub.nil|(apply FrSub.cons;exact rfl)),by (repeat' (first|exact HpSub.refl _))⟩
     · repeat' (first|((with_reducible apply oq_id);first|(focus ((with_reducible apply (oq_remU8 (k:=_)));exact rfl;exact rfl;exact ⟨hsm,by decide⟩))|(focus ((with_reducible apply (oq_addE (k:=((at'+x:Nat):Int))));exact rfl;exact rfl;omega))|((with_reducible apply oq_eqlT);exact rfl;exact rfl;omega)|((with_reducible apply oq_eqlF);exact rfl;exact rfl;omega)|((with_reducible apply oq_lssF);exact rfl;exact rfl;omega)|(apply oq_fn;exact rfl;first|exact trivial|(and_intros<;>omega)|omega|skip)|((with_reducible apply oq_load);exact rfl;exact rfl))|((with_reducible apply tl_id);first|(with_reducible apply tl_nil)|((with_reducible apply u_q);(iterate 4 exact rfl))|((with_reducible apply u_skip);(iterate 3 exact rfl)))|((with_reducible apply gx_id);first|(with_reducible apply v_nil)|((with_reducible apply v_q);(iterate 3 exact rfl))|((with_reducible apply v_skip);(iterate 3 exact rfl)))|((with_reducible apply rd_id);first|(apply Rd.own;(repeat first|exact P0|apply P1);exact rfl;done))|((with_reducible apply t_id);first|(with_reducible apply t_seq)|(apply t_region;kernel_rfl)|(apply t_drawn;kernel_rfl;decide +kernel;try simp only [List.append_eq,List.cons_append,List.nil_append])|((with_reducible apply t_condF);exact rfl)|(with_reducible apply t_skip)|(with_reducible apply t_block))|with_reducible apply q_thenN|with_reducible apply q_blockN)
       all_goals exact ⟨by trivial,at',hatn,by (repeat first|exact FrSub.nil|(apply FrSub.cons;exact rfl)),by (repeat' (first|exact HpSub.refl _))⟩
 rintro nx hnx
 try simp only
 refine t_cut (ι:=Nat) (fun z=>[(1,.int .i64 ((p:Nat):Int)),(2,.int .i64 ((q:Nat):Int)),(3,.slice (some ⟨bT,oT,none⟩) nT cT),(4,.pointer (some ⟨b4,0,none⟩)),(9,.bool true),(10,.int .i64 h'),(11,.slice (some ⟨gO,0,none⟩) P.length cO),(18,.slice (some ⟨bO,0,none⟩) z kO),(104,.slice (some ⟨bT,oT,none⟩) nT cT),(105,.int .i64 ((nT:Nat):Int)),(106,.int .i64 ((i:Nat):Int)),(20,.int .u8 sb),(21,.int .i64 ((at':Nat):Int)),(22,.int .i64 ((nx:Nat):Int))]) (fun _=>(bO,(cI O).map iv,some (3,1,kO))::(b4,[.int .i64 ((x:Nat):Int),.int .i64 ((hh:Nat):Int),.slice A g.length cp],some (66,3,1))::[]) (fun z=>z≤O.length) ?_ ?_
 · repeat' (first|((with_reducible apply oq_id);first|(apply oq_fn;exact rfl;first|exact trivial|(and_intros<;>omega)|omega|skip))|((with_reducible apply tl_id);first|(with_reducible apply tl_nil)|((with_reducible apply u_q);(iterate 4 exact rfl)))|((with_reducible apply t_id);first|(with_reducible apply t_seq)|(apply t_region;kernel_rfl)|(with_reducible apply t_block))|with_reducible apply q_thenN)
   apply t_loopP (ι:=Nat) [1,2,3,4,9,10,11,104,105,106,18,20,21,22,178,179] (fun j=>[(180,.int .i64 ((j:Nat):Int))]) (fun _=>(bO,(cI O).map iv,some (3,1,kO))::(b4,[.int .i64 ((x:Nat):Int),.int .i64 ((hh:Nat):Int),.slice A g.length cp],some (66,3,1))::[]) (fun j=>j≤O.length) (fun j=>O.length-j) 0
   (repeat (first|exact KeepF.nil|(apply KeepF.cons;exact rfl)|apply KeepF.skip))
   (repeat first|exact FrSub.nil|(apply FrSub.cons;exact rfl))
   (try simp only [List.cons_append,List.nil_append])
   (repeat' (first|exact HpSub.refl _))
   · exact Nat.zero_le _
   rintro j hj
   try simp only [List.cons_append,List.nil_append]
   by_cases hjo:j<O.length
   rotate_left
   · repeat' (first|((with_reducible apply oq_id);first|((with_reducible apply oq_lssF);exact rfl;exact rfl;omega))|((with_reducible apply tl_id);first|(with_reducible apply tl_nil)|((with_reducible apply u_q);(iterate 4 exact rfl)))|((with_reducible apply t_id);first|(with_reducible apply t_seq)|(apply t_region;kernel_rfl)|((with_reducible apply t_condF);exact rfl)|(with_reducible apply t_exit))|with_reducible apply q_thenN|with_reducible apply q_thenE|((with_reducible apply q_blockE);exact rfl))
     all_goals exact ⟨by trivial,O.length,Nat.le_refl _,by (repeat first|exact FrSub.nil|(apply FrSub.cons;exact rfl)),by (repeat' (first|exact HpSub.refl _))⟩
   obtain ⟨oc,hoc⟩:∃ y,O[j]?=some y:=⟨_,List.getElem?_eq_getElem hjo⟩
   by_cases hon:oc=nx
   · refine t_fact (P:=O.length≤kO) (fun M w2 hw2=>by
       have hb:Blk w2 bO ((cI O).map iv) (some (3,1,kO)):=hw2.blkP (by (repeat first|exact P0|apply P1))
       have:=blk_cap hb
       simpa [cI] using this) fun hcap=>?_
     repeat' (first|((with_reducible apply oq_id);first|(focus ((with_reducible apply oq_indexAddrN (i:=j));(iterate 4 exact rfl);omega))|((with_reducible apply (oq_sliceH (h:=j)));(iterate 4 exact rfl);omega;omega)|((with_reducible apply oq_eqlT);exact rfl;exact rfl;omega)|((with_reducible apply oq_lssT);exact rfl;exact rfl;omega)|(apply oq_fn;exact rfl;first|exact trivial|(and_intros<;>omega)|omega|skip)|((with_reducible apply oq_load);exact rfl;exact rfl))|((with_reducible apply tl_id);first|(with_reducible apply tl_nil)|((with_reducible apply u_q);(iterate 4 exact rfl)))|((with_reducible apply rd_id);first|((with_reducible apply (rd_st (h:=hoc)));(repeat first|exact P0|apply P1)))|((with_reducible apply t_id);first|(with_reducible apply t_seq)|(apply t_region;kernel_rfl)|((with_reducible apply t_condT);exact rfl)|(with_reducible apply t_skip)|(with_reducible apply t_exit)|(with_reducible apply t_block))|with_reducible apply q_thenN|with_reducible apply q_thenE|((with_reducible apply q_blockE);exact rfl)|((with_reducible apply q_blockO);exact rfl))
     all_goals exact ⟨by trivial,j,(by omega),by (repeat first|exact FrSub.nil|(apply FrSub.cons;exact rfl)),by (repeat' (first|exact HpSub.refl _))⟩
   · repeat' (first|((with_reducible apply oq_id);first|(focus ((with_reducible apply oq_indexAddrN (i:=j));(iterate 4 exact rfl);omega))|(focus ((with_reducible apply (oq_addE (k:=((j+1:Nat):Int))));exact rfl;exact rfl;omega))|((with_reducible apply oq_eqlF);exact rfl;exact rfl;omega)|((with_reducible apply oq_lssT);exact rfl;exact rfl;omega)|(apply oq_fn;exact rfl;first|exact trivial|(and_intros<;>omega)|omega|skip)|((with_reducible apply oq_load);exact rfl;exact rfl))|((with_reducible apply tl_id);first|(with_reducible apply tl_nil)|((with_reducible apply u_q);(iterate 4 exact rfl)))|((with_reducible apply rd_id);first|((with_reducible apply (rd_st (h:=hoc)));(repeat first|exact P0|apply P1)))|((with_reducible apply t_id);first|(with_reducible apply t_seq)|(apply t_region;kernel_rfl)|((with_reducible apply t_condT);exact rfl)|((with_reducible apply t_condF);exact rfl)|(with_reducible apply t_skip)|(with_reducible apply t_block))|with_reducible apply q_thenN|with_reducible apply q_blockN)
     all_goals (refine ⟨j+1,(by omega),(by omega),?_,?_⟩<;>(repeat' (first|exact FrSub.nil|(apply FrSub.cons;exact rfl)|exact HpSub.refl _)))
 rintro k hk
 have e18:(cI O).map iv=(cI (O.take k)).map iv++(cI (O.drop k)).map iv:=by rw [← List.map_append,cI,cI,cI,← List.map_append,List.take_append_drop]
 rw [e18]
 refine t_subW HpW.pre ?_
 obtain ⟨O2,hO2e⟩:∃ x,O.take k=x:=⟨_,rfl⟩
 have hl2:O2.length=k:=by rw [← hO2e,List.length_take];omega
 have hn2:∀ c∈O2,c<g.length:=fun c hc=>hO2 c (List.mem_of_mem_take (hO2e ▸ hc))
 rw [hO2e]
 have hOC:((cI O2).map iv).length=k*1:=by simp [cI,hl2]
 have hsn:(cI O2).map iv++[Value.int .i64 ((nx:Nat):Int)]=(cI (O2++[nx])).map iv:=by simp [cI,iv]
 repeat' (first|((with_reducible apply oq_id);first|(focus ((with_reducible apply (oq_addE (k:=((i+1:Nat):Int))));exact rfl;exact rfl;omega))|(apply oq_fn;exact rfl;first|exact trivial|(and_intros<;>omega)|omega|skip))|((with_reducible apply tl_id);first|(with_reducible apply tl_nil)|((with_reducible apply u_q);(iterate 4 exact rfl))|((with_reducible apply u_s);(iterate 3 exact rfl)))|((with_reducible apply os_id);first|((with_reducible apply os_x);exact rfl)|((with_reducible apply os_append (hk:=app_ok31));exact rfl;exact rfl;(repeat first|exact P0|apply P1)))|((with_reducible apply ox_id);first|((with_reducible apply ox_buildSlice1);(iterate 6 exact rfl);intro _))|((with_reducible apply rd_id);first|(apply Rd.own;(repeat first|exact P0|apply P1);exact rfl;done))|((with_reducible apply t_id);first|(apply t_region;kernel_rfl))|with_reducible apply q_thenN|with_reducible apply q_blockN|exact Rdn.zero|apply Rdn.succ|exact hOC|exact Nat.le_of_ble_eq_true rfl|exact (rfl:(_:Bool)=true)|omega|(intro _ _;with_reducible apply tl_id))
 all_goals (rename_i bN cN;refine ⟨(i+1,O2++[nx],bN,cN),⟨(by simp only;omega),(by simp),(fun c hc=>by
   rcases List.mem_append.1 hc with hc|hc
   · exact hn2 c hc
   · obtain rfl:=List.mem_singleton.1 hc
     exact hnx),(by simp only [List.length_append,List.length_singleton];omega)⟩,(by simp only;omega),?_,?_⟩<;>(try simp only [List.length_append,List.length_singleton,hl2])<;>(repeat' (first|exact FrSub.nil|(apply FrSub.cons;exact rfl)|exact HpSub.refl _|(apply HpSub.consE;(repeat first|exact P0|apply P1);first|exact hsn|exact rfl)|apply HpSub.skipX)))
end Go.Proofs.YtcjkndjjbjoehaaGreat
namespace Go.Proofs.YtcjkndjjbjoehaaGreat
open Go.ChangeShapes Go.WideShapes Go.ChangeAt Go.RowKit
theorem u8_openO {x:List Value} (h:LfsOk [.int .u8] x):∃ y:Int,x=u8Cells y∧(0≤y∧y≤255):=by
 obtain ⟨z0,u0,rfl,w0,h⟩:=h.int
 obtain rfl:=h.nil
 exact ⟨z0,rfl,by simp only [Lit.wf,Bool.and_eq_true,decide_eq_true_eq] at w0;exact w0⟩
theorem Tryz.own:ownKnob Tryz.prog.godebug=none:=by kernel_rfl
theorem Tryz.laidOut:laidOutB Tryz.prog=true:=by kernel_rfl
section
variable {H:Type} {enc:TypeId×Value→H} {P:Program}
theorem trodAll_ext (hl:laidOutB P=true) {W W':World} (hb:Ext W W'):∀ {ts:List TypeId} {vs:List Value} {ds:List (DataW H)} {p:List MemPlace},(ts.all fun t=>P.readableRec t && decide (t<P.types.size))=true →
   DataW.TrodAll enc P W 0 (fun _=>true) true ts vs ds p→(∀ x∈p,x.block<W.heap.size)→DataW.TrodAll enc P W' 0 (fun b=>decide (b<W.heap.size)) true ts vs ds p
 | [],vs,ds,p,_,h,_=>by
   obtain ⟨rfl,rfl,rfl⟩:=trodAll_nil h
   exact trodAll_mk0
 | t::ts,vs,ds,p,ht,h,hlt=>by
   obtain ⟨v,vs',d,ds',p0,q0,rfl,rfl,rfl,h1,h2⟩:=trodAll_cons h
   simp only [List.all_cons,Bool.and_eq_true,decide_eq_true_eq] at ht
   exact ⟨p0,q0,Below.trod hl ht.1.1 ht.1.2 h1 hb (fun x hx=>hlt x (List.mem_append_left _ hx)),trodAll_ext hl hb ht.2 h2 (fun x hx=>hlt x (List.mem_append_right _ hx)),rfl⟩
end
end Go.Proofs.YtcjkndjjbjoehaaGreat
