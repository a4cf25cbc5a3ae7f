/- A part of the proof: rules for walks, and contracts of functions (2). -/
import Derived.Test.YtcjkndjjbjoehaaGreatXBA
import Derived.Test.YtcjkndjjbjoehaaGreatXBB
import Derived.Test.YtcjkndjjbjoehaaGreatXBC
import Derived.Test.YtcjkndjjbjoehaaGreatXBD
import Derived.Test.YtcjkndjjbjoehaaGreatXBE
import Derived.Test.YtcjkndjjbjoehaaGreatXBF
import Derived.Test.YtcjkndjjbjoehaaGreatXBG
import Derived.Test.YtcjkndjjbjoehaaGreatXBH
import Derived.Test.YtcjkndjjbjoehaaGreatXBI
import Derived.Test.YtcjkndjjbjoehaaGreatXBJ
import Derived.Test.YtcjkndjjbjoehaaGreatXBK
import Derived.Test.YtcjkndjjbjoehaaGreatXBL
import Derived.Test.YtcjkndjjbjoehaaGreatXBM
import Derived.Test.YtcjkndjjbjoehaaGreatXBN
import Derived.Test.YtcjkndjjbjoehaaGreatXBO
import Derived.Test.YtcjkndjjbjoehaaGreatXBP
import Derived.Test.YtcjkndjjbjoehaaGreatX13A
import Derived.Laws.StructEq
import Derived.RangeFuncNested
import Derived.RangeFuncCalls
import Derived.LoopIn
import Derived.RangeFuncLeaves
import Derived.RangeFuncRecord
import Derived.Maps.AppendAt
import Derived.IntWalk
import Derived.Orders
import Derived.Still
import Derived.WalkKit
import Derived.Lib.Hide
import Derived.OrdersIn
import Derived.TacticsIn
import Derived.Test.YtcjkndjjbjoehaaGreatChecked
import Derived.Laws.IdiomCopy
import Derived.Laws.MakeOwn
import Derived.RangeFuncBound
import Derived.Shelf.Abstract
import Derived.Shelf.RegionOpen
import Derived.OwnWalkIn
import Derived.TacticsInMore
import Derived.LoopNIn
import Derived.ProofKit
import Derived.Lib.SmallJoins
import Derived.Carry
import Derived.MapKept
import Derived.Test.YtcjkndjjbjoehaaGreatRows
set_option linter.unusedVariables false
set_option linter.unusedSimpArgs false
set_option maxRecDepth 100000
set_option maxHeartbeats 2000000
namespace Go.Proofs.YtcjkndjjbjoehaaGreat
open Go.RowKit
attribute [local irreducible] OQ OS OX Rd T TL GX GL AL AI RV wpG SAny Calls
theorem open_sh {H:Type} {enc:TypeId×Value→H} {P:Program} {W:World} {held:Bool} {t e:TypeId} {A:Option Addr} {m c:Nat} {d:DataW H} {p:List MemPlace} (hs:P.underlying t=some (.slice e)) (hc:P.cellsOf e=1)
   (h:DataW.Trod enc P W 0 (fun _=>true) held t (.slice A m c) d p):m≤c∧(c=0∨∃ b o,A=some ⟨b,o,none⟩):=by
 obtain ⟨fuel,hf⟩:=h
 rcases Go.Deep.open_slice hs hf with ⟨h1,_⟩|⟨a,len,cap,m',k,D,Pl,h1,_,hlc,_,hm,_,hi⟩
 · simp only [Value.cells,List.cons.injEq,Value.slice.injEq,and_true] at h1
   exact ⟨by omega,.inl (by omega)⟩
 · simp only [Value.cells,List.cons.injEq,Value.slice.injEq,and_true] at h1
   obtain ⟨rfl,rfl,rfl⟩:=h1
   simp only [if_true] at hm
   subst hm
   refine ⟨hlc,?_⟩
   by_cases h0:m'=0
   · exact .inl h0
   · obtain ⟨cs,h2,ht⟩:=hi 0 (by omega)
     obtain ⟨_,hlc2,hat⟩:=World.cells?_some h2
     rw [hc] at hlc2
     have c0:=hat 0 (by omega)
     obtain ⟨u,hu⟩:∃ u,cs[0]?=some u:=⟨_,List.getElem?_eq_getElem (by omega)⟩
     rw [hu] at c0
     obtain ⟨b,o,sp⟩:=a
     have hsp:sp=none:=by simpa [Addr.add] using World.cell?_spot c0
     subst hsp
     exact .inr ⟨b,o,rfl⟩
theorem oq_sliceZ {c:Cx} {F:Fr} {H:Hp} {d:Option Tmp} {ty t:TypeId} {pos:String} {af:Array Edge} {g:Option (Nat×Bool)} {x y:Operand} {a0 a1:Bool} {s0 s1 e:Nat} {z0 z1:List Value} {k1:TyK} {k:IntKind} {hi:Int} {a:Addr} (ht:tyAt c.tys t=some ⟨a0,s0,z0,.slice e⟩) (he:tyAt c.tys e=some ⟨a1,s1,z1,k1⟩)
   (hx:ev F x=some (.slice (some a) 0 0)) (hy:ev F y=some (.int k hi)) (h0:hi=0) :
   OQ c ⟨d,.slice t x none (some y) none,ty,pos,af,g⟩ F H (.slice (some a) 0 0):=.of fun D a' w ha _=>by
 subst h0
 have hk:=(c.ty ht).kind w
 have hs:=(c.ty he).size w
 simp only [execOp,Option.map,ha.ev hx,ha.ev hy]
 simp [Instr.sliceAt,Instr.slice,Instr.sliceBounds,Instr.sliceBound,asIntOf,Sem.run_bind,hk,hs,Result.andThen,go_sem,add_eq]
theorem cut_rows {w:World} {AR:Option Addr} {nR cR:Nat} {rs:List Int} (hR:RdS w 1 AR nR (rs.map inCells)) (hc:nR≤cR) (hA:cR=0∨∃ b o,AR=some ⟨b,o,none⟩) {k:Nat} (hk:k≤nR):∃ (A':Option Addr) (c':Nat),RdS w 1 A' k ((rs.take k).map inCells)∧∀ (N:Nat) (F:Fr) (H:Hp) (d:Option Tmp) (ty:TypeId) (pos:String) (af:Array Edge) (g:Option (Nat×Bool)) (x y:Operand),ev F x=some (.slice AR nR cR)→ev F y=some (.int .i64 (k:Nat))→OQ (cx w N) ⟨d,.slice 31 x none (some y) none,ty,pos,af,g⟩ F H (.slice A' k c'):=by
 by_cases h0:cR=0
 · subst h0
   obtain rfl:nR=0:=by omega
   obtain rfl:k=0:=by omega
   refine ⟨AR,0,by rw [List.take_zero];exact RdS.nil _ _ _,fun N F H d ty pos af g x y hx hy=>?_⟩
   rcases AR with _|a
   · exact oq_sliceNil rfl rfl hx hy rfl
   · exact oq_sliceZ rfl rfl hx hy rfl
 · obtain ⟨b,o,rfl⟩:=hA.resolve_left h0
   refine ⟨some ⟨b,o,none⟩,cR,?_,fun N F H d ty pos af g x y hx hy=>oq_sliceH rfl rfl hx hy rfl (by omega)⟩
   refine ⟨by rw [List.length_map,List.length_take];have:=hR.len;rw [List.length_map] at this;omega,fun hp=>?_⟩
   obtain ⟨b',o',e,h1,h2⟩:=hR.at_ (by omega)
   refine ⟨b',o',e,h1,fun i x hx=>h2 i x ?_⟩
   rw [List.map_take,List.getElem?_take] at hx
   split at hx
   · exact hx
   · cases hx
theorem lz_row {w0:World} {M:Ms} {w:World} {R:List Rz} {o:Option (Nat×Nat)} {r:Rz} (h:Has w0 M (lzH R o) w) (ho:o=none→R=[]) (hr:r∈R) (hn:r.2=none→r.1=[]):RdS w 1 (rzA r) r.1.length ((cI r.1).map inCells):=by
 obtain ⟨l,x⟩:=r
 rcases x with _|⟨b,c⟩
 · have e:l=[]:=hn rfl
   subst e
   exact RdS.nil _ _ _
 · rcases o with _|⟨b',c'⟩
   · rw [ho rfl] at hr;cases hr
   · have hm:(b,(cI l).map iv,some (3,1,c))∈lzH R (some (b',c')):=List.mem_cons_of_mem _ (mem_rzB [] (.inr ⟨_,hr,b,c,rfl,rfl⟩))
     exact Blk.rows (by rw [in_flat];exact (h.blk _ hm).2) (by simp [cI]) in_rows_len
theorem rd_rzx {c:Cx} {H H':Hp} {g k:Nat} {R:List Rz} {r:Rz} {v:Value} {tg:Tg} (h:R[k]?=some r) (e:rzV r=v) (p:Pick H g (R.map rzV) tg H'):Rd c H ⟨g,0+k*1,none⟩ v:=
 Rd.own p (by rw [Nat.zero_add,Nat.mul_one,List.getElem?_map,h,← e];rfl)
theorem oq_eqlBo {w:World} {N:Nat} {F:Fr} {H:Hp} {M:List Nat} {d:Option Tmp} {ty t':TypeId} {pos:String} {af:Array Edge} {g:Option (Nat×Bool)} {x y:Operand} {a b q:Bool}
   (hx:ev F x=some (.bool a)) (hy:ev F y=some (.bool b)) (hq:(a == b)=q):OQ (cxM M w N) ⟨d,.binOp .eql 4 x y t',ty,pos,af,g⟩ F H (.bool q):=by
 subst hq
 exact .of fun D act w ha _=>by
   have u4:=Tryz.underlying4
   have e:∀ w,(binOp .eql 4 (.bool a) (.bool b)).run Tryz.prog w=.ok (.bool (a == b)) w:=fun w=>by
     have e0:(Op.equalIn 10000 4 (.bool a) (.bool b)).run Tryz.prog w=.ok (a == b) w:=run_equalIn_bool' (P:=Tryz.prog) w 9999 4 a b u4
     simp only [binOp,Op.equal,Op.maxDepth,Sem.run_bind,e0,Result.andThen,Sem.run_pure]
   have e1:∀ w,(eqGuard .eql 4 x y (.bool a) (.bool b)).run Tryz.prog w=.ok () w:=fun w=>by simp [eqGuard,go_sem]
   simp only [execOp,ha.ev hx,ha.ev hy,Sem.run_bind,e1,e,Result.andThen,Sem.run_pure]
theorem smC_in {fc:Nat×Bool→Int} {B:Int} (hB:∀ x,fc x≤B) (hB0:0≤B) {g:List (Nat×Bool)}:∀ k:Nat,(∀ i x,i<k→g[i]?=some x→0≤fc x)→0≤smC fc g k∧smC fc g k≤k*B
 | 0,_=>by simp [smC]
 | k+1,h=>by
   obtain ⟨h1,h2⟩:=smC_in hB hB0 k (fun i x hi=>h i x (by omega))
   simp only [smC]
   have e:((k+1:Nat):Int)*B=(k:Int)*B+B:=by rw [Int.natCast_add,Int.add_mul];simp
   split
   · omega
   · rename_i x hx
     have:=h k x (by omega) hx
     have:=hB x
     omega
theorem flC_le {m:Nat} {L:List Lg} {v q1 q2 q3 q4:Int} {g0 g1:Nat} {C:List Wn} (hE:askE m L v q1 q2 q3 q4 (g0:Nat) (g1:Nat) C=0) (x:Nat×Bool):(flC v q1 q2 q3 g0 g1 C L) x≤166666666667:=by
 unfold flC
 split
 · omega
 · rename_i z hz
   have:=kst_le (m:=m) (L:=L) (v:=v) (q1:=q1) (q2:=q2) (q3:=q3) (q4:=q4) (g0:=(g0:Nat)) (g1:=(g1:Nat)) (C:=C) z (List.mem_of_getElem? hz) x.2
   rw [kst_ok hE] at this
   exact this
theorem routeReached_T (AM A:Option Addr) (m cM n cp:Nat) (L:List Lg) (w:World) (hr:RdS w 5 A n (L.map lgCells)) (v q1 q2 q3 q4 g0 g1:Int) (AC:Option Addr) (nC cC:Nat) (C:List Wn) (hrc:CastR w AC nC C) (T:List Bool) (hT:RdS w 1 AM m (T.map blCells)) (s:Int) (AR:Option Addr) (nR cR:Nat) (rs:List Int) (hR:RdS w 1 AR nR (rs.map inCells)) (hcap:nR≤cR) (hsh:cR=0∨∃ b o,AR=some ⟨b,o,none⟩) (fu:Int):Calls Tryz.prog 13 #[.agg #[.slice AM m cM,.slice A n cp],.agg #[.int .i64 v,.int .i64 q1,.int .i64 q2,.int .i64 q3,.int .i64 q4,.int .i64 g0,.int .i64 g1],.slice AC nC cC,.int .i64 s,.slice AR nR cR,.int .i64 fu] w fun e w'=>e=.returned (.bool true)∧Ext w w':=by
 have hlr:rs.length=nR:=by simpa using hR.len
 have hln:L.length=n:=by simpa using hr.len
 have HG:=fun w1 (hx:Ext w w1)=>great_calls AM A m cM n cp AC nC cC C w1 (hrc.ext hx)
 refine enterQ (c:=cx w 247) Tryz.func13 rfl rfl rfl rfl ?_
 refine t_cut (ι:=Nat×Nat) (fun z=>[(2,.slice AC nC cC),(3,.int .i64 s),(4,.slice AR nR cR),(5,.int .i64 fu),(6,.pointer (some ⟨z.1,0,none⟩)),(7,.pointer (some ⟨z.2,0,none⟩))]) (fun z=>(z.1,[.slice AM m cM,.slice A n cp],some (25,2,1))::(z.2,[.int .i64 v,.int .i64 q1,.int .i64 q2,.int .i64 q3,.int .i64 q4,.int .i64 g0,.int .i64 g1],some (29,7,1))::[]) (fun _=>True) ?_ ?_
 · repeat' (first|((with_reducible apply oq_id);first|(apply oq_fn;exact rfl;first|exact trivial|(and_intros<;>omega)|omega|skip))|((with_reducible apply tl_id);first|(with_reducible apply tl_nil)|((with_reducible apply u_q);(iterate 4 exact rfl))|((with_reducible apply u_s);(iterate 3 exact rfl)))|((with_reducible apply os_id);first|((with_reducible apply os_x);exact rfl))|((with_reducible apply ox_id);first|((with_reducible apply ox_boxAgg);exact rfl;intro _))|((with_reducible apply t_id);first|(apply t_region;kernel_rfl)))
   all_goals exact ⟨rfl,(_,_),trivial,by (repeat first|exact FrSub.nil|(apply FrSub.cons;exact rfl)),by (repeat' (first|exact HpSub.refl _|(apply HpSub.consE;(repeat first|exact P0|apply P1);first|exact rfl|(simp;done))))⟩
 rintro ⟨b1,b2⟩ -
 try simp only
 refine t_cut (ι:=Unit) (fun _=>[(2,.slice AC nC cC),(3,.int .i64 s),(4,.slice AR nR cR),(5,.int .i64 fu),(6,.pointer (some ⟨b1,0,none⟩)),(7,.pointer (some ⟨b2,0,none⟩)),(13,.bool true)]) (fun _=>(b1,[.slice AM m cM,.slice A n cp],some (25,2,1))::(b2,[.int .i64 v,.int .i64 q1,.int .i64 q2,.int .i64 q3,.int .i64 q4,.int .i64 g0,.int .i64 g1],some (29,7,1))::[]) (fun _=>True) ?_ ?_
 · repeat' (first|((with_reducible apply oq_id);first|(apply oq_fn;exact rfl;first|exact trivial|(and_intros<;>omega)|omega|skip)|((with_reducible apply oq_call (hc:=Tryz.call34));exact rfl;exact rfl;exact fun D w1 hw1=>alive_calls w1))|((with_reducible apply tl_id);first|(with_reducible apply tl_nil)|((with_reducible apply u_q);(iterate 4 exact rfl)))|((with_reducible apply t_id);first|(apply t_region;kernel_rfl)))
   all_goals exact ⟨by trivial,(),trivial,by (repeat first|exact FrSub.nil|(apply FrSub.cons;exact rfl)),by (repeat' (first|exact HpSub.refl _))⟩
 rintro ⟨⟩ -
 by_cases hbig:¬ Small m n C∨20<nR
 · by_cases hS:Small m n C
   · rw [decide_eq_true hS] at HG
     by_cases g1:20<nR
     · repeat' (first|((with_reducible apply oq_id);first|((with_reducible apply oq_gtrT);exact rfl;exact rfl;omega)|(apply oq_fn;exact rfl;first|exact trivial|(and_intros<;>omega)|omega|skip)|((with_reducible apply oq_loadAgg);exact rfl;exact rfl)|((with_reducible apply oq_call (hc:=Tryz.call15));exact rfl;exact rfl;exact fun D w1 hw1=>HG w1 hw1.ext.ext))|((with_reducible apply tl_id);first|(with_reducible apply tl_nil)|((with_reducible apply u_q);(iterate 4 exact rfl))|((with_reducible apply u_skip);(iterate 3 exact rfl)))|((with_reducible apply rd_id);first|(apply Rd.own;(repeat first|exact P0|apply P1);exact rfl;done))|((with_reducible apply t_id);first|(with_reducible apply t_seq)|(apply t_region;kernel_rfl)|((with_reducible apply t_condT);exact rfl)|(with_reducible apply t_ret))|with_reducible apply q_thenN|with_reducible apply q_thenR|exact Rdn.zero|apply Rdn.succ|(with_reducible apply end_ret)|exact rvs_nil|(with_reducible apply rvs_cons)|((with_reducible apply rv_tmp);exact rfl))
       all_goals rfl
     exact absurd (hbig.resolve_left (fun h=>h hS)) (by omega)
   · rw [decide_eq_false hS] at HG
     repeat' (first|((with_reducible apply oq_id);first|(apply oq_fn;exact rfl;first|exact trivial|(and_intros<;>omega)|omega|skip)|((with_reducible apply oq_loadAgg);exact rfl;exact rfl)|((with_reducible apply oq_call (hc:=Tryz.call15));exact rfl;exact rfl;exact fun D w1 hw1=>HG w1 hw1.ext.ext))|((with_reducible apply tl_id);first|(with_reducible apply tl_nil)|((with_reducible apply u_q);(iterate 4 exact rfl))|((with_reducible apply u_skip);(iterate 3 exact rfl)))|((with_reducible apply rd_id);first|(apply Rd.own;(repeat first|exact P0|apply P1);exact rfl;done))|((with_reducible apply t_id);first|(with_reducible apply t_seq)|(apply t_region;kernel_rfl)|((with_reducible apply t_condT);exact rfl)|(with_reducible apply t_ret))|with_reducible apply q_thenN|with_reducible apply q_thenR|exact Rdn.zero|apply Rdn.succ|(with_reducible apply end_ret)|exact rvs_nil|(with_reducible apply rvs_cons)|((with_reducible apply rv_tmp);exact rfl))
     all_goals rfl
 obtain ⟨hS,gg0⟩:Small m n C∧¬ (20<nR):=⟨Classical.byContradiction fun h=>hbig (.inl h),fun h=>hbig (.inr (h))⟩
 rw [decide_eq_true hS] at HG
 obtain ⟨hm,hn,hc8,hs24⟩:=hS
 have hs:∀ z∈C,z.n≤1000000:=fun z hz=>by have:=hs24 z hz;omega
 have hm6:m≤1000000:=by omega
 have hn6:n≤1000000:=by omega
 refine t_cut (ι:=Unit) (fun _=>[(2,.slice AC nC cC),(3,.int .i64 s),(4,.slice AR nR cR),(5,.int .i64 fu),(6,.pointer (some ⟨b1,0,none⟩)),(7,.pointer (some ⟨b2,0,none⟩)),(13,.bool true)]) (fun _=>(b1,[.slice AM m cM,.slice A n cp],some (25,2,1))::(b2,[.int .i64 v,.int .i64 q1,.int .i64 q2,.int .i64 q3,.int .i64 q4,.int .i64 g0,.int .i64 g1],some (29,7,1))::[]) (fun _=>True) ?_ ?_
 · repeat' (first|((with_reducible apply oq_id);first|((with_reducible apply oq_gtrF);exact rfl;exact rfl;omega)|(apply oq_fn;exact rfl;first|exact trivial|(and_intros<;>omega)|omega|skip)|((with_reducible apply oq_loadAgg);exact rfl;exact rfl)|((with_reducible apply oq_call (hc:=Tryz.call15));exact rfl;exact rfl;exact fun D w1 hw1=>HG w1 hw1.ext.ext))|((with_reducible apply tl_id);first|(with_reducible apply tl_nil)|((with_reducible apply u_q);(iterate 4 exact rfl)))|((with_reducible apply rd_id);first|(apply Rd.own;(repeat first|exact P0|apply P1);exact rfl;done))|((with_reducible apply t_id);first|(with_reducible apply t_seq)|(apply t_region;kernel_rfl)|((with_reducible apply t_condF);exact rfl)|(with_reducible apply t_skip))|with_reducible apply q_thenN|exact Rdn.zero|apply Rdn.succ)
   all_goals exact ⟨by trivial,(),trivial,by (repeat first|exact FrSub.nil|(apply FrSub.cons;exact rfl)),by (repeat' (first|exact HpSub.refl _))⟩
 rintro ⟨⟩ -
 clear hbig HG
 have hnR:nR≤1000000:=by omega
 by_cases he:ledE m L v q1 q2 q3 q4 g0 g1 C s rs=0
 rotate_left
 · have H27:=fun w1 (hx:Ext w w1)=>check27_err AM A m cM n cp L w1 (hr.ext hx) hn6 hm6 v q1 q2 q3 q4 g0 g1 AC nC cC C (hrc.ext hx) hs s AR nR cR rs (hR.ext hx) hnR he fu
   have H29:=fun w1 (hx:Ext w w1)=>alt29_err AM A m cM n cp L w1 (hr.ext hx) hn6 hm6 v q1 q2 q3 q4 g0 g1 AC nC cC C (hrc.ext hx) hs s AR nR cR rs (hR.ext hx) hnR he fu
   have hb:=led_bad he
   generalize ledE m L v q1 q2 q3 q4 g0 g1 C s rs=E at *
   repeat' (first|((with_reducible apply oq_id);first|((with_reducible apply oq_eqlT);exact rfl;exact rfl;omega)|((with_reducible apply oq_neqT);exact rfl;exact rfl;omega)|((with_reducible apply oq_neqF);exact rfl;exact rfl;omega)|(apply oq_fn;exact rfl;first|exact trivial|(and_intros<;>omega)|omega|skip)|((with_reducible apply oq_loadAgg);exact rfl;exact rfl)|((with_reducible apply oq_call (hc:=Tryz.call27));exact rfl;exact rfl;exact fun D w1 hw1=>H27 w1 hw1.ext.ext)|((with_reducible apply oq_call (hc:=Tryz.call29));exact rfl;exact rfl;exact fun D w1 hw1=>H29 w1 hw1.ext.ext))|((with_reducible apply tl_id);first|(with_reducible apply tl_nil)|((with_reducible apply u_q);(iterate 4 exact rfl)))|((with_reducible apply rd_id);first|(apply Rd.own;(repeat first|exact P0|apply P1);exact rfl;done))|((with_reducible apply t_id);first|(with_reducible apply t_seq)|(apply t_region;kernel_rfl)|((with_reducible apply t_condT);exact rfl)|((with_reducible apply t_condF);exact rfl)|(with_reducible apply t_ret)|(with_reducible apply t_skip))|with_reducible apply q_thenN|with_reducible apply q_thenR|exact Rdn.zero|apply Rdn.succ|(with_reducible apply end_ret)|exact rvs_nil|(with_reducible apply rvs_cons)|((with_reducible apply rv_tmp);exact rfl))
   all_goals rfl
 obtain ⟨hE,h20,p,htr⟩:=led_zero he
 obtain ⟨hch,hpk,hk0⟩:=askE_ok hE
 obtain ⟨hcl,hcw⟩:=castE_zero.1 hk0
 obtain ⟨hm1,hL40,hLk⟩:=chartB_iff.1 hch
 have hti:=trip_in hLk htr
 obtain ⟨_,_,_,_,p5,kg⟩:=id hpk
 obtain ⟨g0,rfl⟩:=Int.eq_ofNat_of_zero_le kg.1
 obtain ⟨g1,rfl⟩:=Int.eq_ofNat_of_zero_le (show 0≤g1 by omega)
 obtain ⟨s,hs0',rfl⟩:∃ s':Nat,p.2[0]?=some s'∧s=(s':Int):=by
   have h:=htr
   unfold tripI at h
   split at h
   · rename_i hss
     obtain ⟨s',rfl⟩:=Int.eq_ofNat_of_zero_le hss.1
     rw [Int.toNat_natCast] at h
     exact ⟨s',tripF_head h,rfl⟩
   · cases h
 obtain ⟨t1,t2,t3,t4⟩:=id hti
 have H27:=fun w1 (hx:Ext w w1)=>check27_ok AM A m cM n cp L w1 (hr.ext hx) hn6 hm6 v q1 q2 q3 q4 g0 g1 AC nC cC C (hrc.ext hx) hs (s:Nat) AR nR cR rs (hR.ext hx) hnR hE h20 p htr T (hT.ext hx) fu
 have H29:=fun w1 (hx:Ext w w1)=>alt29_ok AM A m cM n cp L w1 (hr.ext hx) hn6 hm6 v q1 q2 q3 q4 g0 g1 AC nC cC C (hrc.ext hx) hs (s:Nat) AR nR cR rs (hR.ext hx) hnR hE h20 p htr T (hT.ext hx) fu
 unfold altE at H29
 by_cases hfu:0≤fu∧fu≤1099511627776
 rotate_left
 · have hc:chkE m L T v q1 q2 q3 q4 g0 g1 C p fu=(0,2):=by unfold chkE;rw [if_neg hfu]
   rw [hc] at H27 H29
   rw [if_neg (by decide)] at H29
   simp only at H27 H29
   repeat' (first|((with_reducible apply oq_id);first|((with_reducible apply oq_eqlT);exact rfl;exact rfl;omega)|((with_reducible apply oq_neqT);exact rfl;exact rfl;omega)|((with_reducible apply oq_neqF);exact rfl;exact rfl;omega)|(apply oq_fn;exact rfl;first|exact trivial|(and_intros<;>omega)|omega|skip)|((with_reducible apply oq_loadAgg);exact rfl;exact rfl)|((with_reducible apply oq_call (hc:=Tryz.call27));exact rfl;exact rfl;exact fun D w1 hw1=>H27 w1 hw1.ext.ext))|((with_reducible apply tl_id);first|(with_reducible apply tl_nil)|((with_reducible apply u_s);(iterate 3 exact rfl);(with_reducible apply os_callS (PV:=AltV ([],2)) (hc:=Tryz.call29));exact rfl;exact rfl;exact fun D w1 hw1=>H29 w1 hw1.ext.ext;rintro _ _ ⟨R,o,rfl,hR1,hR2,hR3,rfl⟩;(obtain ⟨AL,cL,hAL,_,_⟩:=lzS_form hR3);rw [hAL];(obtain rfl:R=[]:=List.map_eq_nil_iff.1 hR1);simp only [List.cons_append,List.nil_append])|((with_reducible apply u_q);(iterate 4 exact rfl)))|((with_reducible apply rd_id);first|(apply Rd.own;(repeat first|exact P0|apply P1);exact rfl;done))|((with_reducible apply t_id);first|(with_reducible apply t_seq)|(apply t_region;kernel_rfl)|((with_reducible apply t_condT);exact rfl)|((with_reducible apply t_condF);exact rfl)|(with_reducible apply t_ret)|(with_reducible apply t_skip))|with_reducible apply q_thenN|with_reducible apply q_thenR|exact Rdn.zero|apply Rdn.succ|(with_reducible apply end_ret)|exact rvs_nil|(with_reducible apply rvs_cons)|((with_reducible apply rv_tmp);exact rfl))
   all_goals rfl
 obtain ⟨j,hj1,hIs⟩:=chk_is (need:=(fun s=>(plansF (arcs (legC v q1 q2 q3 g0 g1 C) L) m (fun s=>T.getD s false) m).getD s none)) (cst:=(flC v q1 q2 q3 g0 g1 C L)) (q:=q4) p.1 p.2 0 fu (by omega)
 obtain ⟨e,hce⟩:∃ e,(chkF (fun s=>(plansF (arcs (legC v q1 q2 q3 g0 g1 C) L) m (fun s=>T.getD s false) m).getD s none) (flC v q1 q2 q3 g0 g1 C L) q4 0 p.2 p.1 fu).2=e:=⟨_,rfl⟩
 have hc:chkE m L T v q1 q2 q3 q4 g0 g1 C p fu=(((j:Nat):Int),e):=by
   unfold chkE
   rw [if_pos hfu]
   refine Prod.ext ?_ hce
   rw [hj1,Nat.zero_add]
 rw [hce] at hIs
 rw [hc] at H27 H29
 simp only at H27 H29
 clear hj1 hce hc
 obtain ⟨hjl,hjo,hje⟩:=hIs
 have he3:e=0∨e=63∨e=64:=by rcases hje with ⟨h,_⟩|⟨h,_⟩|⟨h,_⟩<;>omega
 have hfl:=fun (t:Nat) (bk:Bool) (z:Lg) (hz:L[t]?=some z)=>(show (flC v q1 q2 q3 g0 g1 C L) (t,bk)=(legC v q1 q2 q3 g0 g1 C) z bk by unfold flC;rw [hz])
 have hle:=flC_le hE
 have hpre:=fun (i:Nat) (hi:i≤j)=>fu_trip hLk hti hs0' hfl i (by omega) (fun k x hk hx=>by
   obtain ⟨_,x',hx',hc'⟩:=hjo k (by omega)
   rw [hx] at hx'
   obtain rfl:=Option.some.inj hx'
   exact hc')
 have hsb:=fun (i:Nat) (hi:i≤j)=>smC_in (fc:=(flC v q1 q2 q3 g0 g1 C L)) (B:=166666666667) hle (by decide) (g:=p.1) i (fun k x hk hx=>by
   obtain ⟨_,x',hx',hc'⟩:=hjo k (by omega)
   rw [hx] at hx'
   obtain rfl:=Option.some.inj hx'
   exact hc')
 have HFP:=fun (A':Option Addr) (c' i:Nat) (hi:i≤nR) w1 (hx:Ext w w1) (hB:RdS w1 1 A' i ((rs.take i).map inCells))=>fuels_calls AM A m cM n cp L w1 (hr.ext hx) hn6 hm6 v q1 q2 q3 q4 (g0:Nat) (g1:Nat) AC nC cC C (hrc.ext hx) hs (s:Nat) A' i c' (by omega) (rs.take i) hB
 have HFO:=fun (y:Nat) (AB:Option Addr) (nB cB:Nat) (l:List Nat) (hnB:nB≤1000000) w1 (hx:Ext w w1) (hB:RdS w1 1 AB nB ((cI l).map inCells))=>fuels_calls AM A m cM n cp L w1 (hr.ext hx) hn6 hm6 v q1 q2 q3 q4 (g0:Nat) (g1:Nat) AC nC cC C (hrc.ext hx) hs (y:Nat) AB nB cB hnB (cI l) hB
 rw [kst_ok hE] at HFP HFO
 have HND:=fun (i:Int) w1 (hx:Ext w w1)=>need23_calls AM A m cM n cp L T w1 (hT.ext hx) (hr.ext hx) hn6 hm6 v q1 q2 q3 q4 g0 g1 AC nC cC C (hrc.ext hx) hs i
 have hneed:∀ y,y<m→needR m L T v q1 q2 q3 q4 g0 g1 C (y:Nat)=(match (fun s=>(plansF (arcs (legC v q1 q2 q3 g0 g1 C) L) m (fun s=>T.getD s false) m).getD s none) y with|none=>(0,6)|some a=>(a.1+q4,0)):=fun y hy=>by
   have HB:(plansF (arcs (legC v q1 q2 q3 g0 g1 C) L) m (fun s=>T.getD s false) m).getD y none=routedF (arcs (legC v q1 q2 q3 g0 g1 C) L) (lfG (legC v q1 q2 q3 g0 g1 C) L m T) m y:=best_same (arcs_net hLk) (arcs_sorted _ _) hy
   unfold needR
   rw [if_pos hE,if_pos (by omega),Int.toNat_natCast]
   simp only
   rw [HB]
   rfl
 have hplan:∀ y a,y<m→(fun s=>(plansF (arcs (legC v q1 q2 q3 g0 g1 C) L) m (fun s=>T.getD s false) m).getD s none) y=some a→a.2.length<m∧0≤a.1∧∃ j',T.getD j' false=true∧j'<m∧fuF L (legC v q1 q2 q3 g0 g1 C) (y:Nat) (cI a.2)=some (a.1,((j':Nat):Int)):=fun y a hy ha=>by
   have HB:(plansF (arcs (legC v q1 q2 q3 g0 g1 C) L) m (fun s=>T.getD s false) m).getD y none=routedF (arcs (legC v q1 q2 q3 g0 g1 C) L) (lfG (legC v q1 q2 q3 g0 g1 C) L m T) m y:=best_same (arcs_net hLk) (arcs_sorted _ _) hy
   simp only at ha
   rw [HB] at ha
   obtain ⟨h1,h2,j',h3,h4⟩:=routed_is hLk hy ha
   exact ⟨h1,h2,j',h3,rte_lt hLk hy h4,fuF_rte hLk h4⟩
 have hbnd:=fun y a (h:(fun s=>(plansF (arcs (legC v q1 q2 q3 g0 g1 C) L) m (fun s=>T.getD s false) m).getD s none) y=some a)=>need_bound hpk hcw hLk (by omega) h
 obtain ⟨al,hal,H29⟩:∃ al,(if e=0 then p.2.map (fun s=>plL ((fun s=>(plansF (arcs (legC v q1 q2 q3 g0 g1 C) L) m (fun s=>T.getD s false) m).getD s none) s)) else [])=al∧∀ w1,Ext w w1→Calls Tryz.prog 29 #[.agg #[.slice AM m cM,.slice A n cp],.agg #[.int .i64 v,.int .i64 q1,.int .i64 q2,.int .i64 q3,.int .i64 q4,.int .i64 g0,.int .i64 g1],.slice AC nC cC,.int .i64 (s:Nat),.slice AR nR cR,.int .i64 fu] w1 fun e' w'=>∃ u H',e'=.returned u∧AltV (al,e) u H'∧Has w1 ⟨[],[]⟩ H' w':=⟨_,rfl,H29⟩
 generalize hND:(fun s=>(plansF (arcs (legC v q1 q2 q3 g0 g1 C) L) m (fun s=>T.getD s false) m).getD s none)=need at *
 clear hND
 refine t_cut (ι:=Unit) (fun _=>[(2,.slice AC nC cC),(3,.int .i64 (s:Nat)),(4,.slice AR nR cR),(5,.int .i64 fu),(6,.pointer (some ⟨b1,0,none⟩)),(7,.pointer (some ⟨b2,0,none⟩)),(13,.bool true),(14,.int .i64 ((j:Nat):Int)),(15,.int .i64 e)]) (fun _=>(b1,[.slice AM m cM,.slice A n cp],some (25,2,1))::(b2,[.int .i64 v,.int .i64 q1,.int .i64 q2,.int .i64 q3,.int .i64 q4,.int .i64 (g0:Nat),.int .i64 (g1:Nat)],some (29,7,1))::[]) (fun _=>True) ?_ ?_
 · repeat' (first|((with_reducible apply oq_id);first|(apply oq_fn;exact rfl;first|exact trivial|(and_intros<;>omega)|omega|skip)|((with_reducible apply oq_loadAgg);exact rfl;exact rfl)|((with_reducible apply oq_call (hc:=Tryz.call27));exact rfl;exact rfl;exact fun D w1 hw1=>H27 w1 hw1.ext.ext))|((with_reducible apply tl_id);first|(with_reducible apply tl_nil)|((with_reducible apply u_q);(iterate 4 exact rfl)))|((with_reducible apply rd_id);first|(apply Rd.own;(repeat first|exact P0|apply P1);exact rfl;done))|((with_reducible apply t_id);first|(apply t_region;kernel_rfl))|exact Rdn.zero|apply Rdn.succ)
   all_goals exact ⟨by trivial,(),trivial,by (repeat first|exact FrSub.nil|(apply FrSub.cons;exact rfl)),by (repeat' (first|exact HpSub.refl _))⟩
 rintro ⟨⟩ -
 refine t_cut (ι:=(List Rz×Option (Nat×Nat))×Option Addr×Nat) (fun z'=>[(2,.slice AC nC cC),(3,.int .i64 (s:Nat)),(4,.slice AR nR cR),(5,.int .i64 fu),(6,.pointer (some ⟨b1,0,none⟩)),(7,.pointer (some ⟨b2,0,none⟩)),(13,.bool true),(14,.int .i64 ((j:Nat):Int)),(15,.int .i64 e),(16,.slice z'.2.1 z'.1.1.length z'.2.2),(17,.int .i64 e)]) (fun z'=>(b1,[.slice AM m cM,.slice A n cp],some (25,2,1))::(b2,[.int .i64 v,.int .i64 q1,.int .i64 q2,.int .i64 q3,.int .i64 q4,.int .i64 (g0:Nat),.int .i64 (g1:Nat)],some (29,7,1))::lzH z'.1.1 z'.1.2) (fun z'=>z'.1.1.map Prod.fst=al∧(∀ r∈z'.1.1,r.2=none→r.1=[])∧(z'.1.2=none→z'.1.1=[])∧(0<z'.1.1.length→∃ b,z'.2.1=some ⟨b,0,none⟩∧z'.1.2=some (b,z'.2.2))) ?_ ?_
 · repeat' (first|((with_reducible apply oq_id);first|(apply oq_fn;exact rfl;first|exact trivial|(and_intros<;>omega)|omega|skip)|((with_reducible apply oq_loadAgg);exact rfl;exact rfl))|((with_reducible apply tl_id);first|(with_reducible apply tl_nil)|((with_reducible apply u_s);(iterate 3 exact rfl);(with_reducible apply os_callS (PV:=AltV (al,e)) (hc:=Tryz.call29));exact rfl;exact rfl;exact fun D w1 hw1=>H29 w1 hw1.ext.ext;rintro _ _ ⟨R,o,rfl,hR1,hR2,hR3,rfl⟩;(obtain ⟨AL,cL,hAL,hAL2,_⟩:=lzS_form hR3);rw [hAL];simp only [List.cons_append,List.nil_append])|((with_reducible apply u_q);(iterate 4 exact rfl)))|((with_reducible apply rd_id);first|(apply Rd.own;(repeat first|exact P0|apply P1);exact rfl;done))|((with_reducible apply t_id);first|(apply t_region;kernel_rfl))|exact Rdn.zero|apply Rdn.succ)
   all_goals exact ⟨by trivial,((R,o),AL,cL),⟨hR1,hR2,hR3,hAL2⟩,by (repeat first|exact FrSub.nil|(apply FrSub.cons;exact rfl)),by (repeat' (first|exact HpSub.refl _))⟩
 rintro ⟨⟨R,o⟩,AL,cL⟩ ⟨hR1,hR2,hR3,hAL2⟩
 try simp only at hR1 hR2 hR3 hAL2 ⊢
 have hRl:R.length=al.length:=by rw [← hR1];simp
 have hal0:e≠0→R.length=0:=fun h=>by rw [hRl,← hal,if_neg h];rfl
 have hal1:e=0→R.length=nR+1∧j=nR:=fun h=>by
   refine ⟨by rw [hRl,← hal,if_pos h,List.length_map];omega,?_⟩
   rcases hje with ⟨h',_⟩|⟨h',_⟩|⟨_,_,h'⟩<;>omega
 refine t_cut (ι:=Unit) (fun _=>[(2,.slice AC nC cC),(3,.int .i64 (s:Nat)),(4,.slice AR nR cR),(5,.int .i64 fu),(6,.pointer (some ⟨b1,0,none⟩)),(7,.pointer (some ⟨b2,0,none⟩)),(13,.bool true),(14,.int .i64 ((j:Nat):Int)),(15,.int .i64 e),(16,.slice AL R.length cL)]) (fun _=>(b1,[.slice AM m cM,.slice A n cp],some (25,2,1))::(b2,[.int .i64 v,.int .i64 q1,.int .i64 q2,.int .i64 q3,.int .i64 q4,.int .i64 (g0:Nat),.int .i64 (g1:Nat)],some (29,7,1))::lzH R o) (fun _=>True) ?_ ?_
 · by_cases e0:e=0
   · repeat' (first|((with_reducible apply oq_id);first|((with_reducible apply oq_neqF);exact rfl;exact rfl;omega)|(apply oq_fn;exact rfl;first|exact trivial|(and_intros<;>omega)|omega|skip))|((with_reducible apply tl_id);first|(with_reducible apply tl_nil)|((with_reducible apply u_q);(iterate 4 exact rfl))|((with_reducible apply u_skip);(iterate 3 exact rfl)))|((with_reducible apply t_id);first|(with_reducible apply t_seq)|(apply t_region;kernel_rfl)|((with_reducible apply t_condF);exact rfl)|(with_reducible apply t_skip))|with_reducible apply q_thenN)
     all_goals exact ⟨by trivial,(),trivial,by (repeat first|exact FrSub.nil|(apply FrSub.cons;exact rfl)),by (repeat' (first|exact HpSub.refl _))⟩
   · have:=hal0 e0
     repeat' (first|((with_reducible apply oq_id);first|((with_reducible apply oq_neqT);exact rfl;exact rfl;omega)|((with_reducible apply oq_neqF);exact rfl;exact rfl;omega)|(apply oq_fn;exact rfl;first|exact trivial|(and_intros<;>omega)|omega|skip))|((with_reducible apply tl_id);first|(with_reducible apply tl_nil)|((with_reducible apply u_q);(iterate 4 exact rfl)))|((with_reducible apply t_id);first|(with_reducible apply t_seq)|(apply t_region;kernel_rfl)|((with_reducible apply t_condF);exact rfl)|(with_reducible apply t_skip))|with_reducible apply q_thenN)
     all_goals exact ⟨by trivial,(),trivial,by (repeat first|exact FrSub.nil|(apply FrSub.cons;exact rfl)),by (repeat' (first|exact HpSub.refl _))⟩
 rintro ⟨⟩ -
 refine t_cut (ι:=Unit) (fun _=>[(2,.slice AC nC cC),(3,.int .i64 (s:Nat)),(4,.slice AR nR cR),(5,.int .i64 fu),(6,.pointer (some ⟨b1,0,none⟩)),(7,.pointer (some ⟨b2,0,none⟩)),(13,.bool true),(14,.int .i64 ((j:Nat):Int)),(15,.int .i64 e),(16,.slice AL R.length cL)]) (fun _=>(b1,[.slice AM m cM,.slice A n cp],some (25,2,1))::(b2,[.int .i64 v,.int .i64 q1,.int .i64 q2,.int .i64 q3,.int .i64 q4,.int .i64 (g0:Nat),.int .i64 (g1:Nat)],some (29,7,1))::lzH R o) (fun _=>True) ?_ ?_
 · rcases he3 with rfl|rfl|rfl
   · repeat' (first|((with_reducible apply oq_id);first|((with_reducible apply oq_neqF);exact rfl;exact rfl;omega)|(apply oq_fn;exact rfl;first|exact trivial|(and_intros<;>omega)|omega|skip))|((with_reducible apply tl_id);first|(with_reducible apply tl_nil)|((with_reducible apply u_q);(iterate 4 exact rfl))|((with_reducible apply u_skip);(iterate 3 exact rfl)))|((with_reducible apply t_id);first|(with_reducible apply t_seq)|(apply t_region;kernel_rfl)|((with_reducible apply t_condF);exact rfl)|(with_reducible apply t_skip))|with_reducible apply q_thenN)
     all_goals exact ⟨by trivial,(),trivial,by (repeat first|exact FrSub.nil|(apply FrSub.cons;exact rfl)),by (repeat' (first|exact HpSub.refl _))⟩
   · repeat' (first|((with_reducible apply oq_id);first|((with_reducible apply oq_neqT);exact rfl;exact rfl;omega)|((with_reducible apply oq_neqF);exact rfl;exact rfl;omega)|(apply oq_fn;exact rfl;first|exact trivial|(and_intros<;>omega)|omega|skip))|((with_reducible apply tl_id);first|(with_reducible apply tl_nil)|((with_reducible apply u_q);(iterate 4 exact rfl)))|((with_reducible apply t_id);first|(with_reducible apply t_seq)|(apply t_region;kernel_rfl)|((with_reducible apply t_condF);exact rfl)|(with_reducible apply t_skip))|with_reducible apply q_thenN)
     all_goals exact ⟨by trivial,(),trivial,by (repeat first|exact FrSub.nil|(apply FrSub.cons;exact rfl)),by (repeat' (first|exact HpSub.refl _))⟩
   · repeat' (first|((with_reducible apply oq_id);first|((with_reducible apply oq_neqT);exact rfl;exact rfl;omega)|((with_reducible apply oq_neqF);exact rfl;exact rfl;omega)|(apply oq_fn;exact rfl;first|exact trivial|(and_intros<;>omega)|omega|skip))|((with_reducible apply tl_id);first|(with_reducible apply tl_nil)|((with_reducible apply u_q);(iterate 4 exact rfl))|((with_reducible apply u_skip);(iterate 3 exact rfl)))|((with_reducible apply t_id);first|(with_reducible apply t_seq)|(apply t_region;kernel_rfl)|((with_reducible apply t_condF);exact rfl)|(with_reducible apply t_skip))|with_reducible apply q_thenN)
     all_goals exact ⟨by trivial,(),trivial,by (repeat first|exact FrSub.nil|(apply FrSub.cons;exact rfl)),by (repeat' (first|exact HpSub.refl _))⟩
 rintro ⟨⟩ -
 refine t_cut (ι:=Unit) (fun _=>[(2,.slice AC nC cC),(3,.int .i64 (s:Nat)),(4,.slice AR nR cR),(5,.int .i64 fu),(6,.pointer (some ⟨b1,0,none⟩)),(7,.pointer (some ⟨b2,0,none⟩)),(13,.bool true),(14,.int .i64 ((j:Nat):Int)),(15,.int .i64 e),(16,.slice AL R.length cL)]) (fun _=>(b1,[.slice AM m cM,.slice A n cp],some (25,2,1))::(b2,[.int .i64 v,.int .i64 q1,.int .i64 q2,.int .i64 q3,.int .i64 q4,.int .i64 (g0:Nat),.int .i64 (g1:Nat)],some (29,7,1))::lzH R o) (fun _=>True) ?_ ?_
 · by_cases e0:e=0
   · have:=hal1 e0
     repeat' (first|((with_reducible apply oq_id);first|(focus ((with_reducible apply (oq_addE (k:=((nR+1:Nat):Int))));exact rfl;exact rfl;omega))|((with_reducible apply oq_eqlT);exact rfl;exact rfl;omega)|((with_reducible apply oq_neqF);exact rfl;exact rfl;omega)|((with_reducible apply oq_lssF);exact rfl;exact rfl;omega)|((with_reducible apply oq_gtrF);exact rfl;exact rfl;omega)|(apply oq_fn;exact rfl;first|exact trivial|(and_intros<;>omega)|omega|skip))|((with_reducible apply tl_id);first|(with_reducible apply tl_nil)|((with_reducible apply u_q);(iterate 4 exact rfl)))|((with_reducible apply t_id);first|(with_reducible apply t_seq)|(apply t_region;kernel_rfl)|((with_reducible apply t_condF);exact rfl)|(with_reducible apply t_skip))|with_reducible apply q_thenN)
     all_goals exact ⟨by trivial,(),trivial,by (repeat first|exact FrSub.nil|(apply FrSub.cons;exact rfl)),by (repeat' (first|exact HpSub.refl _))⟩
   · repeat' (first|((with_reducible apply oq_id);first|((with_reducible apply oq_eqlF);exact rfl;exact rfl;omega)|((with_reducible apply oq_lssF);exact rfl;exact rfl;omega)|((with_reducible apply oq_gtrF);exact rfl;exact rfl;omega)|(apply oq_fn;exact rfl;first|exact trivial|(and_intros<;>omega)|omega|skip))|((with_reducible apply tl_id);first|(with_reducible apply tl_nil)|((with_reducible apply u_q);(iterate 4 exact rfl))|((with_reducible apply u_skip);(iterate 3 exact rfl)))|((with_reducible apply t_id);first|(with_reducible apply t_seq)|(apply t_region;kernel_rfl)|((with_reducible apply t_condF);exact rfl)|(with_reducible apply t_skip))|with_reducible apply q_thenN)
     all_goals exact ⟨by trivial,(),trivial,by (repeat first|exact FrSub.nil|(apply FrSub.cons;exact rfl)),by (repeat' (first|exact HpSub.refl _))⟩
 rintro ⟨⟩ -
 refine t_cut (ι:=Unit) (fun _=>[(2,.slice AC nC cC),(3,.int .i64 (s:Nat)),(4,.slice AR nR cR),(5,.int .i64 fu),(6,.pointer (some ⟨b1,0,none⟩)),(7,.pointer (some ⟨b2,0,none⟩)),(13,.bool true),(14,.int .i64 ((j:Nat):Int)),(15,.int .i64 e),(16,.slice AL R.length cL)]) (fun _=>(b1,[.slice AM m cM,.slice A n cp],some (25,2,1))::(b2,[.int .i64 v,.int .i64 q1,.int .i64 q2,.int .i64 q3,.int .i64 q4,.int .i64 (g0:Nat),.int .i64 (g1:Nat)],some (29,7,1))::lzH R o) (fun _=>True) ?_ ?_
 · repeat' (first|((with_reducible apply oq_id);first|(apply oq_fn;exact rfl;first|exact trivial|(and_intros<;>omega)|omega|skip))|((with_reducible apply tl_id);first|(with_reducible apply tl_nil)|((with_reducible apply u_q);(iterate 4 exact rfl)))|((with_reducible apply t_id);first|(with_reducible apply t_seq)|(apply t_region;kernel_rfl)|(with_reducible apply t_block))|with_reducible apply q_thenN)
   apply t_loopP (ι:=Nat) [2,3,4,5,6,7,13,14,15,16] (fun k=>[(18,.int .i64 ((k:Nat):Int))]) (fun _=>(b1,[.slice AM m cM,.slice A n cp],some (25,2,1))::(b2,[.int .i64 v,.int .i64 q1,.int .i64 q2,.int .i64 q3,.int .i64 q4,.int .i64 (g0:Nat),.int .i64 (g1:Nat)],some (29,7,1))::lzH R o) (fun k=>k≤j+1) (fun k=>j+1-k) (0)
   (repeat (first|exact KeepF.nil|(apply KeepF.cons;exact rfl)|apply KeepF.skip))
   (repeat first|exact FrSub.nil|(apply FrSub.cons;exact rfl))
   (try simp only [List.cons_append,List.nil_append])
   (repeat' (first|exact HpSub.refl _))
   · exact Nat.zero_le _
   rintro i hi
   try simp only [List.cons_append,List.nil_append]
   by_cases hij:i≤j
   rotate_left
   · repeat' (first|((with_reducible apply oq_id);first|((with_reducible apply oq_leqF);exact rfl;exact rfl;omega)|(apply oq_fn;exact rfl;first|exact trivial|(and_intros<;>omega)|omega|skip))|((with_reducible apply tl_id);first|(with_reducible apply tl_nil)|((with_reducible apply u_q);(iterate 4 exact rfl)))|((with_reducible apply t_id);first|(with_reducible apply t_seq)|(apply t_region;kernel_rfl)|((with_reducible apply t_condF);exact rfl)|(with_reducible apply t_exit))|with_reducible apply q_thenN|with_reducible apply q_thenE|((with_reducible apply q_blockE);exact rfl))
     all_goals exact ⟨by trivial,(),trivial,by (repeat first|exact FrSub.nil|(apply FrSub.cons;exact rfl)),by (repeat' (first|exact HpSub.refl _))⟩
   refine t_cut (ι:=Unit) (fun _=>[(2,.slice AC nC cC),(3,.int .i64 (s:Nat)),(4,.slice AR nR cR),(5,.int .i64 fu),(6,.pointer (some ⟨b1,0,none⟩)),(7,.pointer (some ⟨b2,0,none⟩)),(13,.bool true),(14,.int .i64 ((j:Nat):Int)),(15,.int .i64 e),(16,.slice AL R.length cL),(18,.int .i64 ((i:Nat):Int))]) (fun _=>(b1,[.slice AM m cM,.slice A n cp],some (25,2,1))::(b2,[.int .i64 v,.int .i64 q1,.int .i64 q2,.int .i64 q3,.int .i64 q4,.int .i64 (g0:Nat),.int .i64 (g1:Nat)],some (29,7,1))::lzH R o) (fun _=>True) ?_ ?_
   · repeat' (first|((with_reducible apply oq_id);first|((with_reducible apply oq_leqT);exact rfl;exact rfl;omega)|(apply oq_fn;exact rfl;first|exact trivial|(and_intros<;>omega)|omega|skip))|((with_reducible apply tl_id);first|(with_reducible apply tl_nil)|((with_reducible apply u_q);(iterate 4 exact rfl)))|((with_reducible apply t_id);first|(with_reducible apply t_seq)|(apply t_region;kernel_rfl)|((with_reducible apply t_condT);exact rfl)|(with_reducible apply t_skip))|with_reducible apply q_thenN)
     all_goals exact ⟨by trivial,(),trivial,by (repeat first|exact FrSub.nil|(apply FrSub.cons;exact rfl)),by (repeat' (first|exact HpSub.refl _))⟩
   rintro ⟨⟩ -
   obtain ⟨y,hy,hfi⟩:=hpre i hij
   have hym:y<m:=t3 y (List.mem_of_getElem? hy)
   have hS:=hsb i hij
   obtain ⟨A',c',hRi,hcO⟩:=cut_rows hR hcap hsh (k:=i) (by omega)
   have HFi:=fun w1 (hx:Ext w w1)=>HFP A' c' i (by omega) w1 hx (hRi.ext hx)
   rw [hfi] at HFi
   simp only [fuO] at HFi
   obtain ⟨S0,hS0⟩:∃ S,smC (flC v q1 q2 q3 g0 g1 C L) p.1 i=S:=⟨_,rfl⟩
   rw [hS0] at HFi hS
   have HNy:=HND ((y:Nat):Int)
   rw [hneed y hym] at HNy
   -- is the site reached?
   have hsite:(∃ a,need y=some a∧a.1+q4≤fu-S0∧¬ (e=64∧i=j))∨((∀ a,need y=some a→fu-S0<a.1+q4)∧e=64∧i=j):=by
     have ok:SiteOk need (flC v q1 q2 q3 g0 g1 C L) q4 p.2 p.1 fu i→∃ a,need y=some a∧a.1+q4≤fu-S0:=fun ⟨s',a,h1,h2,h3⟩=>by
       rw [hy] at h1
       obtain rfl:=Option.some.inj h1
       rw [hS0] at h3
       exact ⟨a,h2,h3⟩
     by_cases hlt:i<j
     · obtain ⟨a,h1,h2⟩:=ok (hjo i hlt).1
       exact .inl ⟨a,h1,h2,by omega⟩
     · obtain rfl:i=j:=by omega
       rcases hje with ⟨h64,s',h1,h2⟩|⟨h63,h1,_⟩|⟨h0,h1,_⟩
       · rw [hy] at h1
         obtain rfl:=Option.some.inj h1
         rw [hS0] at h2
         exact .inr ⟨h2,h64,rfl⟩
       · obtain ⟨a,h1,h2⟩:=ok h1
         exact .inl ⟨a,h1,h2,by omega⟩
       · obtain ⟨a,h1,h2⟩:=ok h1
         exact .inl ⟨a,h1,h2,by omega⟩
   refine t_cut (ι:=Unit) (fun _=>[(2,.slice AC nC cC),(3,.int .i64 (s:Nat)),(4,.slice AR nR cR),(5,.int .i64 fu),(6,.pointer (some ⟨b1,0,none⟩)),(7,.pointer (some ⟨b2,0,none⟩)),(13,.bool true),(14,.int .i64 ((j:Nat):Int)),(15,.int .i64 e),(16,.slice AL R.length cL),(18,.int .i64 ((i:Nat):Int))]) (fun _=>(b1,[.slice AM m cM,.slice A n cp],some (25,2,1))::(b2,[.int .i64 v,.int .i64 q1,.int .i64 q2,.int .i64 q3,.int .i64 q4,.int .i64 (g0:Nat),.int .i64 (g1:Nat)],some (29,7,1))::lzH R o) (fun _=>True) ?_ ?_
   · with_reducible apply t_block
     refine t_cut (ι:=Unit) (fun _=>[(2,.slice AC nC cC),(3,.int .i64 (s:Nat)),(4,.slice AR nR cR),(5,.int .i64 fu),(6,.pointer (some ⟨b1,0,none⟩)),(7,.pointer (some ⟨b2,0,none⟩)),(13,.bool true),(14,.int .i64 ((j:Nat):Int)),(15,.int .i64 e),(16,.slice AL R.length cL),(18,.int .i64 ((i:Nat):Int)),(19,.int .i64 S0),(20,.int .i64 ((y:Nat):Int)),(21,.bool true)]) (fun _=>(b1,[.slice AM m cM,.slice A n cp],some (25,2,1))::(b2,[.int .i64 v,.int .i64 q1,.int .i64 q2,.int .i64 q3,.int .i64 q4,.int .i64 (g0:Nat),.int .i64 (g1:Nat)],some (29,7,1))::lzH R o) (fun _=>True) ?_ ?_
     · repeat' (first|((with_reducible apply oq_id);first|((with_reducible apply hcO);exact rfl;exact rfl)|(apply oq_fn;exact rfl;first|exact trivial|(and_intros<;>omega)|omega|skip)|((with_reducible apply oq_loadAgg);exact rfl;exact rfl)|((with_reducible apply oq_call (hc:=Tryz.call48));exact rfl;exact rfl;exact fun D w1 hw1=>HFi w1 hw1.ext.ext))|((with_reducible apply gx_id);first|(with_reducible apply v_nil)|((with_reducible apply v_q);(iterate 3 exact rfl)))|((with_reducible apply rd_id);first|(apply Rd.own;(repeat first|exact P0|apply P1);exact rfl;done))|((with_reducible apply t_id);first|(apply t_drawn;kernel_rfl;decide +kernel;try simp only [List.append_eq,List.cons_append,List.nil_append]))|exact Rdn.zero|apply Rdn.succ)
       all_goals exact ⟨by trivial,(),trivial,by (repeat first|exact FrSub.nil|(apply FrSub.cons;exact rfl)),by (repeat' (first|exact HpSub.refl _))⟩
     rintro ⟨⟩ -
     refine t_cut (ι:=Unit) (fun _=>[(2,.slice AC nC cC),(3,.int .i64 (s:Nat)),(4,.slice AR nR cR),(5,.int .i64 fu),(6,.pointer (some ⟨b1,0,none⟩)),(7,.pointer (some ⟨b2,0,none⟩)),(13,.bool true),(14,.int .i64 ((j:Nat):Int)),(15,.int .i64 e),(16,.slice AL R.length cL),(18,.int .i64 ((i:Nat):Int)),(19,.int .i64 S0),(20,.int .i64 ((y:Nat):Int))]) (fun _=>(b1,[.slice AM m cM,.slice A n cp],some (25,2,1))::(b2,[.int .i64 v,.int .i64 q1,.int .i64 q2,.int .i64 q3,.int .i64 q4,.int .i64 (g0:Nat),.int .i64 (g1:Nat)],some (29,7,1))::lzH R o) (fun _=>True) ?_ ?_
     · repeat' (first|((with_reducible apply oq_id);first|(apply oq_fn;exact rfl;first|exact trivial|(and_intros<;>omega)|omega|skip))|((with_reducible apply tl_id);first|(with_reducible apply tl_nil)|((with_reducible apply u_q);(iterate 4 exact rfl)))|((with_reducible apply t_id);first|(with_reducible apply t_seq)|(apply t_region;kernel_rfl)|((with_reducible apply t_condF);exact rfl)|(with_reducible apply t_skip))|with_reducible apply q_thenN)
       all_goals exact ⟨by trivial,(),trivial,by (repeat first|exact FrSub.nil|(apply FrSub.cons;exact rfl)),by (repeat' (first|exact HpSub.refl _))⟩
     rintro ⟨⟩ -
     rcases hsite with ⟨a,ha,hage,hne⟩|⟨hno,rfl,rfl⟩
     · rw [ha] at HNy
       simp only at HNy
       obtain ⟨b1',b2',b3'⟩:=hbnd y a ha
       refine t_cut (ι:=Unit) (fun _=>[(2,.slice AC nC cC),(3,.int .i64 (s:Nat)),(4,.slice AR nR cR),(5,.int .i64 fu),(6,.pointer (some ⟨b1,0,none⟩)),(7,.pointer (some ⟨b2,0,none⟩)),(13,.bool true),(14,.int .i64 ((j:Nat):Int)),(15,.int .i64 e),(16,.slice AL R.length cL),(18,.int .i64 ((i:Nat):Int)),(19,.int .i64 S0),(20,.int .i64 ((y:Nat):Int)),(22,.int .i64 (a.1+q4)),(23,.int .i64 0)]) (fun _=>(b1,[.slice AM m cM,.slice A n cp],some (25,2,1))::(b2,[.int .i64 v,.int .i64 q1,.int .i64 q2,.int .i64 q3,.int .i64 q4,.int .i64 (g0:Nat),.int .i64 (g1:Nat)],some (29,7,1))::lzH R o) (fun _=>True) ?_ ?_
       · repeat' (first|((with_reducible apply oq_id);first|(apply oq_fn;exact rfl;first|exact trivial|(and_intros<;>omega)|omega|skip)|((with_reducible apply oq_loadAgg);exact rfl;exact rfl)|((with_reducible apply oq_call (hc:=Tryz.call23));exact rfl;exact rfl;exact fun D w1 hw1=>HNy w1 hw1.ext.ext))|((with_reducible apply tl_id);first|(with_reducible apply tl_nil)|((with_reducible apply u_q);(iterate 4 exact rfl)))|((with_reducible apply rd_id);first|(apply Rd.own;(repeat first|exact P0|apply P1);exact rfl;done))|((with_reducible apply t_id);first|(apply t_region;kernel_rfl))|exact Rdn.zero|apply Rdn.succ)
         all_goals exact ⟨by trivial,(),trivial,by (repeat first|exact FrSub.nil|(apply FrSub.cons;exact rfl)),by (repeat' (first|exact HpSub.refl _))⟩
       rintro ⟨⟩ -
       refine t_cut (ι:=Unit) (fun _=>[(2,.slice AC nC cC),(3,.int .i64 (s:Nat)),(4,.slice AR nR cR),(5,.int .i64 fu),(6,.pointer (some ⟨b1,0,none⟩)),(7,.pointer (some ⟨b2,0,none⟩)),(13,.bool true),(14,.int .i64 ((j:Nat):Int)),(15,.int .i64 e),(16,.slice AL R.length cL),(18,.int .i64 ((i:Nat):Int)),(19,.int .i64 S0),(20,.int .i64 ((y:Nat):Int)),(22,(.int .i64 (a.1+q4))),(24,.bool true)]) (fun _=>(b1,[.slice AM m cM,.slice A n cp],some (25,2,1))::(b2,[.int .i64 v,.int .i64 q1,.int .i64 q2,.int .i64 q3,.int .i64 q4,.int .i64 (g0:Nat),.int .i64 (g1:Nat)],some (29,7,1))::lzH R o) (fun _=>True) ?_ ?_
       · repeat' (first|((with_reducible apply oq_id);first|(focus ((with_reducible apply (oq_subE (k:=fu-S0)));exact rfl;exact rfl;omega))|((with_reducible apply oq_eqlT);exact rfl;exact rfl;omega)|((with_reducible apply oq_geqT);exact rfl;exact rfl;omega)|(apply oq_fn;exact rfl;first|exact trivial|(and_intros<;>omega)|omega|skip))|((with_reducible apply tl_id);first|(with_reducible apply tl_nil)|((with_reducible apply u_q);(iterate 4 exact rfl)))|((with_reducible apply t_id);first|(apply t_region;kernel_rfl)))
         all_goals exact ⟨by trivial,(),trivial,by (repeat first|exact FrSub.nil|(apply FrSub.cons;exact rfl)),by (repeat' (first|exact HpSub.refl _))⟩
       rintro ⟨⟩ -
       refine t_cut (ι:=Unit) (fun _=>[(2,.slice AC nC cC),(3,.int .i64 (s:Nat)),(4,.slice AR nR cR),(5,.int .i64 fu),(6,.pointer (some ⟨b1,0,none⟩)),(7,.pointer (some ⟨b2,0,none⟩)),(13,.bool true),(14,.int .i64 ((j:Nat):Int)),(15,.int .i64 e),(16,.slice AL R.length cL),(18,.int .i64 ((i:Nat):Int)),(19,.int .i64 S0),(20,.int .i64 ((y:Nat):Int)),(22,(.int .i64 (a.1+q4)))]) (fun _=>(b1,[.slice AM m cM,.slice A n cp],some (25,2,1))::(b2,[.int .i64 v,.int .i64 q1,.int .i64 q2,.int .i64 q3,.int .i64 q4,.int .i64 (g0:Nat),.int .i64 (g1:Nat)],some (29,7,1))::lzH R o) (fun _=>True) ?_ ?_
       · by_cases h64:e=64
         · repeat' (first|((with_reducible apply oq_id);first|((with_reducible apply oq_eqlBo);(iterate 3 exact rfl))|((with_reducible apply oq_eqlT);exact rfl;exact rfl;omega)|((with_reducible apply oq_eqlF);exact rfl;exact rfl;omega)|(apply oq_fn;exact rfl;first|exact trivial|(and_intros<;>omega)|omega|skip))|((with_reducible apply tl_id);first|(with_reducible apply tl_nil)|((with_reducible apply u_q);(iterate 4 exact rfl)))|((with_reducible apply t_id);first|(with_reducible apply t_seq)|(apply t_region;kernel_rfl)|((with_reducible apply t_condF);exact rfl)|(with_reducible apply t_skip))|with_reducible apply q_thenN)
           all_goals exact ⟨by trivial,(),trivial,by (repeat first|exact FrSub.nil|(apply FrSub.cons;exact rfl)),by (repeat' (first|exact HpSub.refl _))⟩
         · repeat' (first|((with_reducible apply oq_id);first|((with_reducible apply oq_eqlBo);(iterate 3 exact rfl))|((with_reducible apply oq_eqlF);exact rfl;exact rfl;omega)|(apply oq_fn;exact rfl;first|exact trivial|(and_intros<;>omega)|omega|skip))|((with_reducible apply tl_id);first|(with_reducible apply tl_nil)|((with_reducible apply u_q);(iterate 4 exact rfl))|((with_reducible apply u_skip);(iterate 3 exact rfl)))|((with_reducible apply t_id);first|(with_reducible apply t_seq)|(apply t_region;kernel_rfl)|((with_reducible apply t_condF);exact rfl)|(with_reducible apply t_skip))|with_reducible apply q_thenN)
           all_goals exact ⟨by trivial,(),trivial,by (repeat first|exact FrSub.nil|(apply FrSub.cons;exact rfl)),by (repeat' (first|exact HpSub.refl _))⟩
       rintro ⟨⟩ -
       by_cases e0:e=0
       rotate_left
       · repeat' (first|((with_reducible apply oq_id);first|((with_reducible apply oq_eqlF);exact rfl;exact rfl;omega)|(apply oq_fn;exact rfl;first|exact trivial|(and_intros<;>omega)|omega|skip))|((with_reducible apply tl_id);first|(with_reducible apply tl_nil)|((with_reducible apply u_q);(iterate 4 exact rfl)))|((with_reducible apply t_id);first|(with_reducible apply t_seq)|(apply t_region;kernel_rfl)|((with_reducible apply t_condF);exact rfl)|(with_reducible apply t_skip))|with_reducible apply q_thenN|with_reducible apply q_blockN)
         all_goals exact ⟨by trivial,(),trivial,by (repeat first|exact FrSub.nil|(apply FrSub.cons;exact rfl)),by (repeat' (first|exact HpSub.refl _))⟩
       obtain ⟨hRl1,hjn⟩:=hal1 e0
       obtain ⟨r,hri⟩:∃ r,R[i]?=some r:=⟨_,List.getElem?_eq_getElem (by omega)⟩
       have hrm:=List.mem_of_getElem? hri
       have hrv:=rzV_form (hR2 r hrm)
       have hr1:r.1=a.2:=by
         have h1:(R.map Prod.fst)[i]?=some r.1:=by rw [List.getElem?_map,hri];rfl
         rw [hR1,← hal,if_pos e0,List.getElem?_map,hy] at h1
         have h2:plL (need y)=r.1:=Option.some.inj h1
         rw [← h2,ha];rfl
       obtain ⟨bL,rfl,rfl⟩:=hAL2 (by omega)
       obtain ⟨p1',p2',j',p3',p4',p5'⟩:=hplan y a hym ha
       have HOo:=fun w1 (hx:Ext w w1) (hB:RdS w1 1 (rzA r) r.1.length ((cI r.1).map inCells))=>HFO y (rzA r) r.1.length (rzC r) r.1 (by rw [hr1];omega) w1 hx hB
       rw [← hr1] at p5'
       rw [p5'] at HOo
       simp only [fuO] at HOo
       obtain ⟨bT,oT,tb,rfl,_,htb,c8⟩:=bl_read hT (show j'<m by omega)
       have htt:tb=true:=by rw [List.getD_eq_getElem?_getD,htb] at p3';exact p3'
       subst htt
       simp only [lzH]
       repeat' (first|((with_reducible apply oq_id);first|(focus ((with_reducible apply oq_indexAddrN (i:=i));(iterate 4 exact rfl);omega))|(focus ((with_reducible apply oq_indexAddrN (i:=j'));(iterate 4 exact rfl);omega))|(focus ((with_reducible apply (oq_subE (k:=fu-S0)));exact rfl;exact rfl;omega))|(focus ((with_reducible apply (oq_subE (k:=fu-S0-a.1)));exact rfl;exact rfl;omega))|(focus ((with_reducible apply (oq_addE (k:=a.1+q4)));exact rfl;exact rfl;omega))|((with_reducible apply oq_eqlT);exact rfl;exact rfl;omega)|((with_reducible apply oq_lssF);exact rfl;exact rfl;omega)|((with_reducible apply oq_geqF);exact rfl;exact rfl;omega)|((with_reducible apply oq_neqF);exact rfl;exact rfl;omega)|(apply oq_fn;exact rfl;first|exact trivial|(and_intros<;>omega)|omega|skip)|((with_reducible apply oq_load);exact rfl;exact rfl)|((with_reducible apply oq_loadAgg);exact rfl;exact rfl)|((with_reducible apply oq_call (hc:=Tryz.call48));exact rfl;exact rfl;exact fun D w1 hw1=>HOo w1 hw1.ext.ext (lz_row (R:=R) (o:=some (bL,cL)) (r:=r) (hw1.sub (HpSub.skipX (HpSub.skipX (HpSub.refl _)))) (fun h=>by cases h) hrm (hR2 r hrm))))|((with_reducible apply tl_id);first|(with_reducible apply tl_nil)|((with_reducible apply u_q);(iterate 4 exact rfl)))|((with_reducible apply gx_id);first|(with_reducible apply v_nil)|((with_reducible apply v_q);(iterate 3 exact rfl)))|((with_reducible apply rd_id);first|(apply rd_rzx hri hrv;(repeat first|exact P0|apply P1);done)|(apply Rd.own;(repeat first|exact P0|apply P1);exact rfl;done)|(apply Rd.old;(first|(with_reducible assumption)|exact c0|exact c1|exact c2|exact c3|exact c4|exact c5|exact c6|exact c7|exact c8|exact d0|exact d1|exact d2|exact d3|exact d4|exact d5);first|exact List.not_mem_nil|exact m0|exact m1|exact m2|exact m3|exact m4|exact m5|exact m6|exact m7|exact m8|exact m9))|((with_reducible apply t_id);first|(with_reducible apply t_seq)|(apply t_region;kernel_rfl)|(apply t_drawn;kernel_rfl;decide +kernel;try simp only [List.append_eq,List.cons_append,List.nil_append])|((with_reducible apply t_condT);exact rfl)|((with_reducible apply t_condF);exact rfl)|(with_reducible apply t_skip))|with_reducible apply q_thenN|with_reducible apply q_blockN|exact Rdn.zero|apply Rdn.succ)
       all_goals exact ⟨by trivial,(),trivial,by (repeat first|exact FrSub.nil|(apply FrSub.cons;exact rfl)),by (repeat' (first|exact HpSub.refl _))⟩
     · rcases hny:need y with _|a
       · rw [hny] at HNy
         simp only at HNy
         repeat' (first|((with_reducible apply oq_id);first|((with_reducible apply oq_eqlBo);(iterate 3 exact rfl))|((with_reducible apply oq_eqlT);exact rfl;exact rfl;omega)|((with_reducible apply oq_eqlF);exact rfl;exact rfl;omega)|(apply oq_fn;exact rfl;first|exact trivial|(and_intros<;>omega)|omega|skip)|((with_reducible apply oq_loadAgg);exact rfl;exact rfl)|((with_reducible apply oq_call (hc:=Tryz.call23));exact rfl;exact rfl;exact fun D w1 hw1=>HNy w1 hw1.ext.ext))|((with_reducible apply tl_id);first|(with_reducible apply tl_nil)|((with_reducible apply u_q);(iterate 4 exact rfl))|((with_reducible apply u_skip);(iterate 3 exact rfl)))|((with_reducible apply rd_id);first|(apply Rd.own;(repeat first|exact P0|apply P1);exact rfl;done))|((with_reducible apply t_id);first|(with_reducible apply t_seq)|(apply t_region;kernel_rfl)|((with_reducible apply t_condF);exact rfl)|(with_reducible apply t_skip))|with_reducible apply q_thenN|with_reducible apply q_blockN|exact Rdn.zero|apply Rdn.succ)
         all_goals exact ⟨by trivial,(),trivial,by (repeat first|exact FrSub.nil|(apply FrSub.cons;exact rfl)),by (repeat' (first|exact HpSub.refl _))⟩
       · rw [hny] at HNy
         simp only at HNy
         obtain ⟨b1',b2',b3'⟩:=hbnd y a hny
         have:=hno a hny
         repeat' (first|((with_reducible apply oq_id);first|((with_reducible apply oq_eqlBo);(iterate 3 exact rfl))|(focus ((with_reducible apply (oq_subE (k:=fu-S0)));exact rfl;exact rfl;omega))|((with_reducible apply oq_eqlT);exact rfl;exact rfl;omega)|((with_reducible apply oq_eqlF);exact rfl;exact rfl;omega)|((with_reducible apply oq_geqF);exact rfl;exact rfl;omega)|(apply oq_fn;exact rfl;first|exact trivial|(and_intros<;>omega)|omega|skip)|((with_reducible apply oq_loadAgg);exact rfl;exact rfl)|((with_reducible apply oq_call (hc:=Tryz.call23));exact rfl;exact rfl;exact fun D w1 hw1=>HNy w1 hw1.ext.ext))|((with_reducible apply tl_id);first|(with_reducible apply tl_nil)|((with_reducible apply u_q);(iterate 4 exact rfl)))|((with_reducible apply rd_id);first|(apply Rd.own;(repeat first|exact P0|apply P1);exact rfl;done))|((with_reducible apply t_id);first|(with_reducible apply t_seq)|(apply t_region;kernel_rfl)|((with_reducible apply t_condF);exact rfl)|(with_reducible apply t_skip))|with_reducible apply q_thenN|with_reducible apply q_blockN|exact Rdn.zero|apply Rdn.succ)
         all_goals exact ⟨by trivial,(),trivial,by (repeat first|exact FrSub.nil|(apply FrSub.cons;exact rfl)),by (repeat' (first|exact HpSub.refl _))⟩
   rintro ⟨⟩ -
   repeat' (first|((with_reducible apply oq_id);first|(focus ((with_reducible apply (oq_addE (k:=((i+1:Nat):Int))));exact rfl;exact rfl;omega))|(apply oq_fn;exact rfl;first|exact trivial|(and_intros<;>omega)|omega|skip))|((with_reducible apply tl_id);first|(with_reducible apply tl_nil)|((with_reducible apply u_q);(iterate 4 exact rfl)))|((with_reducible apply t_id);first|(apply t_region;kernel_rfl))|with_reducible apply q_thenN)
   all_goals (refine ⟨i+1,by omega,by omega,?_,?_⟩<;>first|((repeat first|exact FrSub.nil|(apply FrSub.cons;exact rfl));done)|(repeat' (first|exact HpSub.refl _)))
 rintro ⟨⟩ -
 by_cases h63:e=63
 rotate_left
 · repeat' (first|((with_reducible apply oq_id);first|((with_reducible apply oq_neqT);exact rfl;exact rfl;omega)|(apply oq_fn;exact rfl;first|exact trivial|(and_intros<;>omega)|omega|skip))|((with_reducible apply tl_id);first|(with_reducible apply tl_nil)|((with_reducible apply u_q);(iterate 4 exact rfl)))|((with_reducible apply t_id);first|(with_reducible apply t_seq)|(apply t_region;kernel_rfl)|((with_reducible apply t_condT);exact rfl)|(with_reducible apply t_ret))|with_reducible apply q_thenN|with_reducible apply q_thenR|(with_reducible apply end_ret)|exact rvs_nil|(with_reducible apply rvs_cons)|((with_reducible apply rv_tmp);exact rfl))
   all_goals rfl
 subst h63
 have hcl:∃ x,p.1[j]?=some x∧(flC v q1 q2 q3 g0 g1 C L) x<0:=by
   rcases hje with ⟨h,_⟩|⟨_,_,h⟩|⟨h,_⟩
   · omega
   · exact h
   · omega
 obtain ⟨x,hxj,hxc⟩:=hcl
 have hjlt:=(List.getElem?_eq_some_iff.1 hxj).1
 have hnone:=fu_closed hLk hti hs0' hfl (k:=j) (by omega) (fun k x hk hx=>by
   obtain ⟨_,x',hx',hc'⟩:=hjo k (by omega)
   rw [hx] at hx'
   obtain rfl:=Option.some.inj hx'
   exact hc') hxj hxc
 obtain ⟨A',c',hRi,hcO⟩:=cut_rows hR hcap hsh (k:=j+1) (by omega)
 have HFi:=fun w1 (hx:Ext w w1)=>HFP A' c' (j+1) (by omega) w1 hx (hRi.ext hx)
 rw [hnone] at HFi
 simp only [fuO] at HFi
 repeat' (first|((with_reducible apply oq_id);first|((with_reducible apply hcO);exact rfl;exact rfl)|(focus ((with_reducible apply (oq_addE (k:=((j+1:Nat):Int))));exact rfl;exact rfl;omega))|(focus ((with_reducible apply (oq_min2E (k:=((j+1:Nat):Int))));exact rfl;exact rfl;omega))|((with_reducible apply oq_neqF);exact rfl;exact rfl;omega)|((with_reducible apply oq_lssT);exact rfl;exact rfl;omega)|(apply oq_fn;exact rfl;first|exact trivial|(and_intros<;>omega)|omega|skip)|((with_reducible apply oq_loadAgg);exact rfl;exact rfl)|((with_reducible apply oq_call (hc:=Tryz.call48));exact rfl;exact rfl;exact fun D w1 hw1=>HFi w1 hw1.ext.ext))|((with_reducible apply tl_id);first|(with_reducible apply tl_nil)|((with_reducible apply u_q);(iterate 4 exact rfl)))|((with_reducible apply gx_id);first|(with_reducible apply v_nil)|((with_reducible apply v_q);(iterate 3 exact rfl)))|((with_reducible apply rd_id);first|(apply Rd.own;(repeat first|exact P0|apply P1);exact rfl;done))|((with_reducible apply t_id);first|(with_reducible apply t_seq)|(apply t_region;kernel_rfl)|(apply t_drawn;kernel_rfl;decide +kernel;try simp only [List.append_eq,List.cons_append,List.nil_append])|((with_reducible apply t_condF);exact rfl)|(with_reducible apply t_ret)|(with_reducible apply t_skip))|with_reducible apply q_thenN|exact Rdn.zero|apply Rdn.succ|(with_reducible apply end_ret)|exact rvs_nil|(with_reducible apply rvs_cons)|((with_reducible apply rv_tmp);exact rfl))
 all_goals rfl
end Go.Proofs.YtcjkndjjbjoehaaGreat
namespace Go.Proofs.YtcjkndjjbjoehaaGreat
open Go.ChangeShapes Go.WideShapes Go.ChangeAt Go.RowKit
theorem Tryz.own:ownKnob Tryz.prog.godebug=none:=by kernel_rfl
theorem Tryz.laidOut:laidOutB Tryz.prog=true:=by kernel_rfl
section
variable {H:Type} {enc:TypeId×Value→H} {P:Program}
theorem trodAll_ext (hl:laidOutB P=true) {W W':World} (hb:Ext W W'):∀ {ts:List TypeId} {vs:List Value} {ds:List (DataW H)} {p:List MemPlace},(ts.all fun t=>P.readableRec t && decide (t<P.types.size))=true →
   DataW.TrodAll enc P W 0 (fun _=>true) true ts vs ds p→(∀ x∈p,x.block<W.heap.size)→DataW.TrodAll enc P W' 0 (fun b=>decide (b<W.heap.size)) true ts vs ds p
 | [],vs,ds,p,_,h,_=>by
   obtain ⟨rfl,rfl,rfl⟩:=trodAll_nil h
   exact trodAll_mk0
 | t::ts,vs,ds,p,ht,h,hlt=>by
   obtain ⟨v,vs',d,ds',p0,q0,rfl,rfl,rfl,h1,h2⟩:=trodAll_cons h
   simp only [List.all_cons,Bool.and_eq_true,decide_eq_true_eq] at ht
   exact ⟨p0,q0,Below.trod hl ht.1.1 ht.1.2 h1 hb (fun x hx=>hlt x (List.mem_append_left _ hx)),trodAll_ext hl hb ht.2 h2 (fun x hx=>hlt x (List.mem_append_right _ hx)),rfl⟩
end
end Go.Proofs.YtcjkndjjbjoehaaGreat
