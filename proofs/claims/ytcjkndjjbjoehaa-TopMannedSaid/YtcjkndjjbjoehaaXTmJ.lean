/- A part of the proof: rules for walks, and contracts of functions (10). -/
import Derived.Test.YtcjkndjjbjoehaaXTmI
import Derived.Test.YtcjkndjjbjoehaaXTmB
import Derived.Test.YtcjkndjjbjoehaaXTmC
import Derived.Test.YtcjkndjjbjoehaaXTmE
import Derived.Test.YtcjkndjjbjoehaaXTmA
import Derived.Test.YtcjkndjjbjoehaaChecked
import Derived.Test.YtcjkndjjbjoehaaRows
import Derived.ProofKit
import Derived.Lib.SmallJoins
import Derived.Carry
set_option linter.unusedVariables false
set_option linter.unusedSimpArgs false
set_option maxRecDepth 100000
set_option maxHeartbeats 2000000
namespace Go.Proofs.Ytcjkndjjbjoehaa
open Go.RowKit
attribute [local irreducible] OQ OS OX Rd T TL GX GL AL AI RV wpG SAny Calls
theorem am_lasts (bp bt bc bg bl:Nat) (w1:World) (hr:RdS w1 5 (some ⟨bt,0,none⟩) 1 (amL.map lgCells)) (hc:CastR w1 (some ⟨bc,0,none⟩) 1 [amW bg]) (hl:RdS w1 1 (some ⟨bl,0,none⟩) 1 ([(0:Int)].map inCells)):Calls Try.prog 35 #[.agg #[.slice (some ⟨bp,0,none⟩) 2 2,.slice (some ⟨bt,0,none⟩) 1 1],.agg #[.int .i64 100,.int .i64 0,.int .i64 0,.int .i64 1000,.int .i64 0,.int .i64 0,.int .i64 0],.slice (some ⟨bc,0,none⟩) 1 1,.int .i64 0,.slice (some ⟨bl,0,none⟩) 1 1] w1 fun e w'=>e=.returned (.tuple #[.int .i64 17,.bool true])∧Ext w1 w':=by
 have h:=lasts_calls (some ⟨bp,0,none⟩) (some ⟨bt,0,none⟩) 2 2 1 1 amL w1 hr (by decide) (by decide) 100 0 0 1000 0 0 0 (some ⟨bc,0,none⟩) 1 1 [amW bg] hc (fun z hz=>by rw [List.mem_singleton.1 hz];exact (by decide:(1:Nat)≤1000000)) 0 (some ⟨bl,0,none⟩) 1 1 [0] hl (by decide)
 rw [am_las rfl] at h
 exact h
theorem am_as1 (b:Nat) (w1:World) (h:RdS w1 3 (some ⟨b,0,none⟩) 1 ([(⟨5,22,2⟩:Tr)].map trCells)):Calls Try.prog 36 #[.agg #[.int .i64 17,.int .i64 0,.int .i64 100,.int .i64 17],.slice none 0 0,.int .i64 3,.slice (some ⟨b,0,none⟩) 1 1] w1 fun e w'=>∃ v H',e=.returned v∧AsgV 0 [[0,1]] v H'∧Has w1 ⟨[],[]⟩ H' w':=by
 have k:=assign_T amD none 0 0 [] 3 (some ⟨b,0,none⟩) 1 1 [⟨5,22,2⟩] w1 (RdS.nil _ _ _) (fun _=>⟨rfl,rfl⟩) h (by decide) (by decide)
 rw [am_e1,am_l1] at k
 exact k
theorem am_as2 (b:Nat) (w1:World) (h:RdS w1 3 (some ⟨b,0,none⟩) 1 ([(⟨5,23,2⟩:Tr)].map trCells)):Calls Try.prog 36 #[.agg #[.int .i64 17,.int .i64 0,.int .i64 100,.int .i64 17],.slice none 0 0,.int .i64 3,.slice (some ⟨b,0,none⟩) 1 1] w1 fun e w'=>∃ v H',e=.returned v∧AsgV 6 [] v H'∧Has w1 ⟨[],[]⟩ H' w':=by
 have k:=assign_T amD none 0 0 [] 3 (some ⟨b,0,none⟩) 1 1 [⟨5,23,2⟩] w1 (RdS.nil _ _ _) (fun _=>⟨rfl,rfl⟩) h (by decide) (by decide)
 rw [am_e2,am_l2] at k
 exact k
theorem asg_one {R:List Row} {r:List Int} (h1:∀ x∈R,LrOk x) (h2:R.map Prod.fst=[r]):∃ o,R=[(r,o)]∧(o=none→r.length=0)∧r.length≤clC o:=by
 match R,h2 with
 | [(r',o)],h2=>
   obtain rfl:r'=r:=by simpa using h2
   obtain ⟨k1,k2⟩:=h1 _ (List.mem_singleton.2 rfl)
   exact ⟨o,rfl,k1,k2⟩
theorem alive08_calls (w:World):Calls Try.prog 34 #[] w fun e w'=>e=.returned (.bool true)∧Ext w w':=by
 refine enterQ (c:=cx w 83) Try.func34 rfl rfl rfl rfl ?_
 refine t_cut (ι:=Unit) (fun _=>[]) (fun _=>[]) (fun _=>True) ?_ ?_
 · repeat' (first|((with_reducible apply oq_id);first|(apply oq_fn;exact rfl;first|exact trivial|(and_intros<;>omega)|omega|skip))|((with_reducible apply tl_id);first|(with_reducible apply tl_nil)|((with_reducible apply u_q);(iterate 4 exact rfl)))|((with_reducible apply t_id);first|(apply t_region;kernel_rfl)))
   all_goals exact ⟨by trivial,(),trivial,by (repeat' (first|exact FrSub.nil)),by (repeat' (first|exact HpSub.refl _))⟩
 rintro ⟨⟩ -
 try dsimp only
 refine t_cut (ι:=Nat×Nat×Nat) (fun z=>[(1,.pointer (some ⟨z.1,0,none⟩))]) (fun z=>(z.1,[.slice (some ⟨z.2.1,0,none⟩) 2 2,.slice (some ⟨z.2.2,0,none⟩) 1 1],some (37,2,1))::(z.2.1,[.bool true,.bool true],some (4,1,2))::(z.2.2,[.int .i64 0,.int .i64 1,.int .i64 100,.int .i64 0,.int .i64 0],some (126,5,1))::[]) (fun z=>True) ?_ ?_
 · repeat' (first|((with_reducible apply oq_id);first|((with_reducible apply oq_build);(iterate 3 exact rfl)))|((with_reducible apply tl_id);first|(with_reducible apply tl_nil)|((with_reducible apply u_q);(iterate 4 exact rfl))|((with_reducible apply u_s0);exact rfl;exact rfl)|((with_reducible apply u_s);(iterate 3 exact rfl)))|((with_reducible apply os_id);first|((with_reducible apply os_x);exact rfl)|((with_reducible apply os_storeAgg);(iterate 5 exact rfl)))|((with_reducible apply ox_id);first|((with_reducible apply ox_alloc);exact rfl;intro _)|((with_reducible apply ox_buildSlice1);(iterate 6 exact rfl);intro _)|((with_reducible apply ox_buildSlice);(iterate 4 exact rfl)))|((with_reducible apply t_id);first|(apply t_region;kernel_rfl))|exact P0|((with_reducible apply Norm.nil);exact rfl)|((with_reducible apply Norm.cons);exact rfl)|exact Nat.le_of_ble_eq_true rfl|exact (rfl:(_:Bool)=true)|(intro _;with_reducible apply tl_id))
   all_goals exact ⟨by trivial,(_,_,_),trivial,by (repeat' (first|exact FrSub.nil|(apply FrSub.cons;exact rfl))),by (repeat' (first|exact HpSub.refl _|(apply HpSub.consE;(repeat first|exact P0|apply P1);first|exact rfl|(simp;done))))⟩
 rintro ⟨b1,bp,bt⟩ -
 try dsimp only
 refine t_cut (ι:=Unit) (fun _=>[(2,.int .i64 17),(3,.bool true)]) (fun _=>[]) (fun _=>True) ?_ ?_
 · repeat' (first|((with_reducible apply oq_id);first|(apply oq_fn;exact rfl;first|exact trivial|(and_intros<;>omega)|omega|skip)|((with_reducible apply oq_loadAgg);exact rfl;exact rfl)|((with_reducible apply oq_call (hc:=Try.call35));exact rfl;exact rfl;exact fun D w1 hw1=>am_lasts _ _ _ _ _ w1 (rows_own (rows:=amL.map lgCells) rfl (by decide +kernel) hw1 (by (repeat first|exact P0|apply P1))) (amW_cast hw1 (by (repeat first|exact P0|apply P1)) (by (repeat first|exact P0|apply P1))) (rows_own (rows:=[(0:Int)].map inCells) rfl (by decide +kernel) hw1 (by (repeat first|exact P0|apply P1))))|((with_reducible apply oq_build);(iterate 3 exact rfl)))|((with_reducible apply tl_id);first|(with_reducible apply tl_nil)|((with_reducible apply u_q);(iterate 4 exact rfl))|((with_reducible apply u_s);(iterate 3 exact rfl)))|((with_reducible apply os_id);first|((with_reducible apply os_x);exact rfl))|((with_reducible apply ox_id);first|((with_reducible apply ox_buildSlice1);(iterate 6 exact rfl);intro _)|((with_reducible apply ox_buildSlice);(iterate 4 exact rfl)))|((with_reducible apply rd_id);first|(apply Rd.own;(repeat first|exact P0|apply P1);exact rfl;done))|((with_reducible apply t_id);first|(apply t_region;kernel_rfl))|exact Rdn.zero|apply Rdn.succ|((with_reducible apply Norm.nil);exact rfl)|((with_reducible apply Norm.cons);exact rfl)|exact (rfl:(_:Bool)=true)|(intro _;with_reducible apply tl_id))
   all_goals exact ⟨by trivial,(),trivial,by (repeat' (first|exact FrSub.nil|(apply FrSub.cons;exact rfl))),by (repeat' (first|exact HpSub.refl _|apply HpSub.skipX))⟩
 rintro ⟨⟩ -
 try dsimp only
 refine t_cut (ι:=Nat) (fun z=>[(2,.int .i64 17),(3,.bool true),(4,.pointer (some ⟨z,0,none⟩))]) (fun z=>(z,[.int .i64 17,.int .i64 0,.int .i64 100,.int .i64 17],some (80,4,1))::[]) (fun z=>True) ?_ ?_
 · repeat' (first|((with_reducible apply oq_id);first|((with_reducible apply oq_build);(iterate 3 exact rfl)))|((with_reducible apply tl_id);first|(with_reducible apply tl_nil)|((with_reducible apply u_q);(iterate 4 exact rfl))|((with_reducible apply u_s0);exact rfl;exact rfl)|((with_reducible apply u_s);(iterate 3 exact rfl)))|((with_reducible apply os_id);first|((with_reducible apply os_x);exact rfl)|((with_reducible apply os_storeAgg);(iterate 5 exact rfl)))|((with_reducible apply ox_id);first|((with_reducible apply ox_alloc);exact rfl;intro _))|((with_reducible apply t_id);first|(apply t_region;kernel_rfl))|exact P0|((with_reducible apply Norm.nil);exact rfl)|((with_reducible apply Norm.cons);exact rfl)|exact Nat.le_of_ble_eq_true rfl)
   all_goals exact ⟨by trivial,_,trivial,by (repeat' (first|exact FrSub.nil|(apply FrSub.cons;exact rfl))),by (repeat' (first|exact HpSub.refl _))⟩
 rintro b4 -
 try dsimp only
 refine t_cut (ι:=Nat×Nat×Nat) (fun z=>[(2,.int .i64 17),(3,.bool true),(4,.pointer (some ⟨b4,0,none⟩)),(5,.slice (some ⟨z.1,0,none⟩) 1 1),(6,.int .i64 0)]) (fun z=>(z.1,[.slice (some ⟨z.2.1,0,none⟩) 2 z.2.2],some (22,1,1))::(z.2.1,[.int .i64 0,.int .i64 1],some (3,1,z.2.2))::(b4,[.int .i64 17,.int .i64 0,.int .i64 100,.int .i64 17],some (80,4,1))::[]) (fun z=>True) ?_ ?_
 · repeat' (first|((with_reducible apply oq_id);first|(focus ((with_reducible apply (oq_addE (k:=22)));exact rfl;exact rfl;omega))|(apply oq_fn;exact rfl;first|exact trivial|(and_intros<;>omega)|omega|skip)|((with_reducible apply oq_loadAgg);exact rfl;exact rfl)|((with_reducible apply oq_build);(iterate 3 exact rfl)))|((with_reducible apply tl_id);first|(with_reducible apply tl_nil)|((with_reducible apply u_s);(iterate 3 exact rfl);(with_reducible apply os_callF (PV:=AsgV 0 [[0,1]]) (hc:=Try.call36));exact rfl;exact rfl;exact fun D w1 hw1=>am_as1 _ w1 (rows_own (rows:=[(⟨5,22,2⟩:Tr)].map trCells) rfl (by decide +kernel) hw1 (by (repeat first|exact P0|apply P1)));rintro v H' hV;obtain ⟨g,R,hRR,rfl,rfl⟩:=asgV_ok rfl hV;obtain ⟨o,rfl,ho,_⟩:=asg_one hRR.1 hRR.2;(rcases o with _|⟨g',c'⟩);(exact absurd (ho rfl) (by decide));(try simp only [outH,rwsH,rowH,rwV,clA,clC,clH,List.map_cons,List.map_nil,List.append_nil,List.cons_append,List.nil_append,List.length_cons,List.length_nil]))|((with_reducible apply u_q);(iterate 4 exact rfl))|((with_reducible apply u_s);(iterate 3 exact rfl)))|((with_reducible apply os_id);first|((with_reducible apply os_x);exact rfl))|((with_reducible apply ox_id);first|((with_reducible apply ox_buildSlice);(iterate 4 exact rfl)))|((with_reducible apply rd_id);first|(apply Rd.own;(repeat first|exact P0|apply P1);exact rfl;done))|((with_reducible apply t_id);first|(apply t_region;kernel_rfl))|exact Rdn.zero|apply Rdn.succ|((with_reducible apply Norm.nil);exact rfl)|((with_reducible apply Norm.cons);exact rfl)|exact (rfl:(_:Bool)=true)|(intro _;with_reducible apply tl_id))
   all_goals exact ⟨by trivial,(g,g',c'),trivial,by (repeat' (first|exact FrSub.nil|(apply FrSub.cons;exact rfl))),by (repeat' (first|exact HpSub.refl _|(apply HpSub.consE;(repeat first|exact P0|apply P1);first|exact rfl|(simp;done))|apply HpSub.skipX))⟩
 rintro ⟨g,g',c'⟩ -
 try dsimp only
 refine t_cut (ι:=Unit) (fun _=>[(2,.int .i64 17),(3,.bool true),(4,.pointer (some ⟨b4,0,none⟩)),(5,.slice (some ⟨g,0,none⟩) 1 1),(6,.int .i64 0),(7,.slice none 0 0),(8,.int .i64 6)]) (fun _=>(g,[.slice (some ⟨g',0,none⟩) 2 c'],some (22,1,1))::(g',[.int .i64 0,.int .i64 1],some (3,1,c'))::[]) (fun _=>True) ?_ ?_
 · repeat' (first|((with_reducible apply oq_id);first|(focus ((with_reducible apply (oq_addE (k:=23)));exact rfl;exact rfl;omega))|(apply oq_fn;exact rfl;first|exact trivial|(and_intros<;>omega)|omega|skip)|((with_reducible apply oq_loadAgg);exact rfl;exact rfl)|((with_reducible apply oq_build);(iterate 3 exact rfl)))|((with_reducible apply tl_id);first|(with_reducible apply tl_nil)|((with_reducible apply u_s);(iterate 3 exact rfl);(with_reducible apply os_callF (PV:=AsgV 6 []) (hc:=Try.call36));exact rfl;exact rfl;exact fun D w1 hw1=>am_as2 _ w1 (rows_own (rows:=[(⟨5,23,2⟩:Tr)].map trCells) rfl (by decide +kernel) hw1 (by (repeat first|exact P0|apply P1)));rintro v H' hV;obtain ⟨rfl,rfl⟩:=asgV_err (by decide) hV;(try simp only [List.nil_append]))|((with_reducible apply u_q);(iterate 4 exact rfl))|((with_reducible apply u_s);(iterate 3 exact rfl)))|((with_reducible apply os_id);first|((with_reducible apply os_x);exact rfl))|((with_reducible apply ox_id);first|((with_reducible apply ox_buildSlice);(iterate 4 exact rfl)))|((with_reducible apply rd_id);first|(apply Rd.own;(repeat first|exact P0|apply P1);exact rfl;done))|((with_reducible apply t_id);first|(apply t_region;kernel_rfl))|exact Rdn.zero|apply Rdn.succ|((with_reducible apply Norm.nil);exact rfl)|((with_reducible apply Norm.cons);exact rfl)|exact (rfl:(_:Bool)=true)|(intro _;with_reducible apply tl_id))
   all_goals exact ⟨by trivial,(),trivial,by (repeat' (first|exact FrSub.nil|(apply FrSub.cons;exact rfl))),by (repeat' (first|exact HpSub.refl _|(apply HpSub.consE;(repeat first|exact P0|apply P1);first|exact rfl|(simp;done))|apply HpSub.skipX))⟩
 rintro ⟨⟩ -
 try dsimp only
 repeat' (first|((with_reducible apply oq_id);first|(focus ((with_reducible apply oq_indexAddrN (i:=0));(iterate 4 exact rfl);omega))|(focus ((with_reducible apply oq_indexAddrN (i:=1));(iterate 4 exact rfl);omega))|((with_reducible apply oq_eqlT);exact rfl;exact rfl;omega)|(apply oq_fn;exact rfl;first|exact trivial|(and_intros<;>omega)|omega|skip)|((with_reducible apply oq_load);exact rfl;exact rfl))|((with_reducible apply tl_id);first|(with_reducible apply tl_nil)|((with_reducible apply u_q);(iterate 4 exact rfl)))|((with_reducible apply rd_id);first|(apply Rd.own;(repeat first|exact P0|apply P1);exact rfl;done))|((with_reducible apply t_id);first|(with_reducible apply t_seq)|(apply t_region;kernel_rfl)|(with_reducible apply t_ret))|with_reducible apply q_thenN|(with_reducible apply end_ret)|exact rvs_nil|(with_reducible apply rvs_cons)|((with_reducible apply rv_tmp);exact rfl))
 all_goals rfl
theorem oq_remL {c:Cx} {F:Fr} {H:Hp} {d:Option Tmp} {ty t t':TypeId} {pos:String} {af:Array Edge} {g:Option (Nat×Bool)} {x y:Operand} {m n k:Int} (hx:ev F x=some (.int .i64 m)) (hy:ev F y=some (.int .i64 n)) (e:m.tmod n=k∧n≠0):OQ c ⟨d,.binOp .rem t x y t',ty,pos,af,g⟩ F H (.int .i64 k):=
 (oq_rem hx hy e.2).as (by rw [e.1])
theorem topManned_T (AM A:Option Addr) (m cM n cp:Nat) (L:List Lg) (w:World) (hr:RdS w 5 A n (L.map lgCells)) (v q1 q2 q3 q4 g0 g1:Int) (AC:Option Addr) (nC cC:Nat) (C:List Wn) (hrc:CastR w AC nC C) (s:Int) (AL:Option Addr) (nl cl:Nat) (l:List Int) (hl:RdS w 1 AL nl (l.map inCells)) (d:Du) (AR:Option Addr) (nR cR:Nat) (ro:List Sh) (hR:RdS w 3 AR nR (ro.map shCells)) (hA:AR=none→nR=0∧cR=0) (mem need st less:Int) (hless:0≤less∧less≤65535):Calls Try.prog 6 #[.agg #[.slice AM m cM,.slice A n cp],.agg #[.int .i64 v,.int .i64 q1,.int .i64 q2,.int .i64 q3,.int .i64 q4,.int .i64 g0,.int .i64 g1],.slice AC nC cC,.int .i64 s,.slice AL nl cl,.agg #[.int .i64 d.most,.int .i64 d.rest,.int .i64 d.win,.int .i64 d.sum],.slice AR nR cR,.int .i64 mem,.int .i64 need,.int .i64 st,.int .u16 less] w fun e w'=>e=.returned (.bool true)∧Ext w w':=by
 have hLl:L.length=n:=by simpa using hr.len
 have hll:l.length=nl:=by simpa using hl.len
 have hRl:ro.length=nR:=by simpa using hR.len
 refine enterQ (c:=cx w 153) Try.func6 rfl rfl rfl rfl ?_
 refine t_cut (ι:=Nat×Nat×Nat) (fun z=>[(2,.slice AC nC cC),(3,.int .i64 s),(4,.slice AL nl cl),(6,.slice AR nR cR),(7,.int .i64 mem),(8,.int .i64 need),(9,.int .i64 st),(10,.int .u16 less),(11,.pointer (some ⟨z.1,0,none⟩)),(12,.pointer (some ⟨z.2.1,0,none⟩)),(16,.pointer (some ⟨z.2.2,0,none⟩))]) (fun z=>(z.1,[.slice AM m cM,.slice A n cp],some (37,2,1))::(z.2.1,[.int .i64 v,.int .i64 q1,.int .i64 q2,.int .i64 q3,.int .i64 q4,.int .i64 g0,.int .i64 g1],some (41,7,1))::(z.2.2,[.int .i64 d.most,.int .i64 d.rest,.int .i64 d.win,.int .i64 d.sum],some (80,4,1))::[]) (fun _=>True) ?_ ?_
 · repeat' (first|((with_reducible apply oq_id);first|(apply oq_fn;exact rfl;first|exact trivial|(and_intros<;>omega)|omega|skip))|((with_reducible apply tl_id);first|(with_reducible apply tl_nil)|((with_reducible apply u_q);(iterate 4 exact rfl))|((with_reducible apply u_s);(iterate 3 exact rfl)))|((with_reducible apply os_id);first|((with_reducible apply os_x);exact rfl))|((with_reducible apply ox_id);first|((with_reducible apply ox_boxAgg);exact rfl;intro _))|((with_reducible apply t_id);first|(apply t_region;kernel_rfl)))
   all_goals exact ⟨by trivial,(_,_,_),trivial,by (repeat' (first|exact FrSub.nil|(apply FrSub.cons;exact rfl))),by (repeat' (first|exact HpSub.refl _|(apply HpSub.consE;(repeat first|exact P0|apply P1);first|exact rfl|(simp;done))))⟩
 rintro ⟨b11,b12,b16⟩ -
 try dsimp only
 refine t_cut (ι:=Unit) (fun _=>[(2,.slice AC nC cC),(3,.int .i64 s),(4,.slice AL nl cl),(6,.slice AR nR cR),(7,.int .i64 mem),(8,.int .i64 need),(9,.int .i64 st),(10,.int .u16 less),(11,.pointer (some ⟨b11,0,none⟩)),(12,.pointer (some ⟨b12,0,none⟩)),(16,.pointer (some ⟨b16,0,none⟩)),(23,.bool true)]) (fun _=>(b11,[.slice AM m cM,.slice A n cp],some (37,2,1))::(b12,[.int .i64 v,.int .i64 q1,.int .i64 q2,.int .i64 q3,.int .i64 q4,.int .i64 g0,.int .i64 g1],some (41,7,1))::(b16,[.int .i64 d.most,.int .i64 d.rest,.int .i64 d.win,.int .i64 d.sum],some (80,4,1))::[]) (fun _=>True) ?_ ?_
 · repeat' (first|((with_reducible apply oq_id);first|(apply oq_fn;exact rfl;first|exact trivial|(and_intros<;>omega)|omega|skip)|((with_reducible apply oq_call (hc:=Try.call34));exact rfl;exact rfl;exact fun D w1 hw1=>alive08_calls w1))|((with_reducible apply tl_id);first|(with_reducible apply tl_nil)|((with_reducible apply u_q);(iterate 4 exact rfl)))|((with_reducible apply t_id);first|(apply t_region;kernel_rfl)))
   all_goals exact ⟨by trivial,(),trivial,by (repeat' (first|exact FrSub.nil|(apply FrSub.cons;exact rfl))),by (repeat' (first|exact HpSub.refl _))⟩
 rintro ⟨⟩ -
 try dsimp only
 have HG:=fun w1 (hx:Ext w w1)=>great_calls AM A m cM n cp AC nC cC C w1 (hrc.ext hx)
 by_cases hS:Small m n C
 rotate_left
 · rw [decide_eq_false hS] at HG
   repeat' (first|((with_reducible apply oq_id);first|(apply oq_fn;exact rfl;first|exact trivial|(and_intros<;>omega)|omega|skip)|((with_reducible apply oq_loadAgg);exact rfl;exact rfl)|((with_reducible apply oq_call (hc:=Try.call13));exact rfl;exact rfl;exact fun D w1 hw1=>HG w1 hw1.ext.ext))|((with_reducible apply tl_id);first|(with_reducible apply tl_nil)|((with_reducible apply u_q);(iterate 4 exact rfl))|((with_reducible apply u_skip);(iterate 3 exact rfl)))|((with_reducible apply rd_id);first|(apply Rd.own;(repeat first|exact P0|apply P1);exact rfl;done))|((with_reducible apply t_id);first|(with_reducible apply t_seq)|(apply t_region;kernel_rfl)|((with_reducible apply t_condT);exact rfl)|(with_reducible apply t_ret))|with_reducible apply q_thenN|with_reducible apply q_thenR|exact Rdn.zero|apply Rdn.succ|(with_reducible apply end_ret)|exact rvs_nil|(with_reducible apply rvs_cons)|((with_reducible apply rv_tmp);exact rfl))
   all_goals rfl
 rw [decide_eq_true hS] at HG
 obtain ⟨hm,hn,hc8,hs24⟩:=hS
 have hs:∀ z∈C,z.n≤1000000:=fun z hz=>by have:=hs24 z hz;omega
 by_cases hb:20<nl∨36<nR∨st<0∨1000000<st
 · rcases (show 20<nl∨(¬ 20<nl∧36<nR)∨(¬ 20<nl∧¬ 36<nR∧st<0)∨(¬ 20<nl∧¬ 36<nR∧¬ st<0∧1000000<st) by omega) with hb|hb|hb|hb
   repeat' (first|((with_reducible apply oq_id);first|((with_reducible apply oq_gtrT);exact rfl;exact rfl;omega)|((with_reducible apply oq_gtrF);exact rfl;exact rfl;omega)|((with_reducible apply oq_lssT);exact rfl;exact rfl;omega)|((with_reducible apply oq_lssF);exact rfl;exact rfl;omega)|(apply oq_fn;exact rfl;first|exact trivial|(and_intros<;>omega)|omega|skip)|((with_reducible apply oq_loadAgg);exact rfl;exact rfl)|((with_reducible apply oq_call (hc:=Try.call13));exact rfl;exact rfl;exact fun D w1 hw1=>HG w1 hw1.ext.ext))|((with_reducible apply tl_id);first|(with_reducible apply tl_nil)|((with_reducible apply u_q);(iterate 4 exact rfl))|((with_reducible apply u_skip);(iterate 3 exact rfl)))|((with_reducible apply rd_id);first|(apply Rd.own;(repeat first|exact P0|apply P1);exact rfl;done))|((with_reducible apply t_id);first|(with_reducible apply t_seq)|(apply t_region;kernel_rfl)|((with_reducible apply t_condT);exact rfl)|(with_reducible apply t_ret))|with_reducible apply q_thenN|with_reducible apply q_thenR|exact Rdn.zero|apply Rdn.succ|(with_reducible apply end_ret)|exact rvs_nil|(with_reducible apply rvs_cons)|((with_reducible apply rv_tmp);exact rfl))
   all_goals rfl
 have HLs:=fun w1 (hx:Ext w w1)=>lasts_calls AM A m cM n cp L w1 (hr.ext hx) (by omega) (by omega) v q1 q2 q3 q4 g0 g1 AC nC cC C (hrc.ext hx) hs s AL nl cl l (hl.ext hx) (by omega)
 have hdb:=lasV_bound (m:=m) (L:=L) (v:=v) (q1:=q1) (q2:=q2) (q3:=q3) (q4:=q4) (g0:=g0) (g1:=g1) (C:=C) (s:=s) (l:=l) (by omega)
 obtain ⟨⟨dur,is⟩,hv⟩:∃ x,lasV m L v q1 q2 q3 q4 g0 g1 C s l=x:=⟨_,rfl⟩
 rw [hv] at HLs hdb
 simp only at HLs hdb
 refine t_cut (ι:=Unit) (fun _=>[(2,.slice AC nC cC),(3,.int .i64 s),(4,.slice AL nl cl),(6,.slice AR nR cR),(7,.int .i64 mem),(8,.int .i64 need),(9,.int .i64 st),(10,.int .u16 less),(11,.pointer (some ⟨b11,0,none⟩)),(12,.pointer (some ⟨b12,0,none⟩)),(16,.pointer (some ⟨b16,0,none⟩)),(23,.bool true)]) (fun _=>(b11,[.slice AM m cM,.slice A n cp],some (37,2,1))::(b12,[.int .i64 v,.int .i64 q1,.int .i64 q2,.int .i64 q3,.int .i64 q4,.int .i64 g0,.int .i64 g1],some (41,7,1))::(b16,[.int .i64 d.most,.int .i64 d.rest,.int .i64 d.win,.int .i64 d.sum],some (80,4,1))::[]) (fun _=>True) ?_ ?_
 · repeat' (first|((with_reducible apply oq_id);first|((with_reducible apply oq_gtrF);exact rfl;exact rfl;omega)|((with_reducible apply oq_lssF);exact rfl;exact rfl;omega)|(apply oq_fn;exact rfl;first|exact trivial|(and_intros<;>omega)|omega|skip)|((with_reducible apply oq_loadAgg);exact rfl;exact rfl)|((with_reducible apply oq_call (hc:=Try.call13));exact rfl;exact rfl;exact fun D w1 hw1=>HG w1 hw1.ext.ext))|((with_reducible apply tl_id);first|(with_reducible apply tl_nil)|((with_reducible apply u_q);(iterate 4 exact rfl)))|((with_reducible apply rd_id);first|(apply Rd.own;(repeat first|exact P0|apply P1);exact rfl;done))|((with_reducible apply t_id);first|(with_reducible apply t_seq)|(apply t_region;kernel_rfl)|((with_reducible apply t_condF);exact rfl)|(with_reducible apply t_skip))|with_reducible apply q_thenN|exact Rdn.zero|apply Rdn.succ)
   all_goals exact ⟨by trivial,(),trivial,by (repeat' (first|exact FrSub.nil|(apply FrSub.cons;exact rfl))),by (repeat' (first|exact HpSub.refl _))⟩
 rintro ⟨⟩ -
 try dsimp only
 refine t_cut (ι:=Unit) (fun _=>[(6,.slice AR nR cR),(7,.int .i64 mem),(8,.int .i64 need),(9,.int .i64 st),(10,.int .u16 less),(16,.pointer (some ⟨b16,0,none⟩)),(23,.bool true),(24,.int .i64 dur),(25,.bool is)]) (fun _=>(b16,[.int .i64 d.most,.int .i64 d.rest,.int .i64 d.win,.int .i64 d.sum],some (80,4,1))::[]) (fun _=>True) ?_ ?_
 · repeat' (first|((with_reducible apply oq_id);first|(apply oq_fn;exact rfl;first|exact trivial|(and_intros<;>omega)|omega|skip)|((with_reducible apply oq_loadAgg);exact rfl;exact rfl)|((with_reducible apply oq_call (hc:=Try.call35));exact rfl;exact rfl;exact fun D w1 hw1=>HLs w1 hw1.ext.ext))|((with_reducible apply tl_id);first|(with_reducible apply tl_nil)|((with_reducible apply u_q);(iterate 4 exact rfl)))|((with_reducible apply rd_id);first|(apply Rd.own;(repeat first|exact P0|apply P1);exact rfl;done))|((with_reducible apply t_id);first|(apply t_region;kernel_rfl))|exact Rdn.zero|apply Rdn.succ)
   all_goals exact ⟨by trivial,(),trivial,by (repeat' (first|exact FrSub.nil|(apply FrSub.cons;exact rfl))),by (repeat' (first|exact HpSub.refl _|(apply HpSub.consE;(repeat first|exact P0|apply P1);first|exact rfl|(simp;done))|apply HpSub.skipX))⟩
 rintro ⟨⟩ -
 try dsimp only
 by_cases hgo:is=true∧1≤dur
 rotate_left
 · cases is with
   | false=>
     repeat' (first|((with_reducible apply oq_id);first|(apply oq_fn;exact rfl;first|exact trivial|(and_intros<;>omega)|omega|skip))|((with_reducible apply tl_id);first|(with_reducible apply tl_nil)|((with_reducible apply u_q);(iterate 4 exact rfl))|((with_reducible apply u_skip);(iterate 3 exact rfl)))|((with_reducible apply t_id);first|(with_reducible apply t_seq)|(apply t_region;kernel_rfl)|((with_reducible apply t_condT);exact rfl)|(with_reducible apply t_ret))|with_reducible apply q_thenN|with_reducible apply q_thenR|(with_reducible apply end_ret)|exact rvs_nil|(with_reducible apply rvs_cons)|((with_reducible apply rv_tmp);exact rfl))
     all_goals rfl
   | true=>
     have hd1:dur<1:=by
       by_cases h:dur<1
       · exact h
       · exact absurd ⟨rfl,by omega⟩ hgo
     repeat' (first|((with_reducible apply oq_id);first|((with_reducible apply oq_lssT);exact rfl;exact rfl;omega)|(apply oq_fn;exact rfl;first|exact trivial|(and_intros<;>omega)|omega|skip))|((with_reducible apply tl_id);first|(with_reducible apply tl_nil)|((with_reducible apply u_q);(iterate 4 exact rfl)))|((with_reducible apply t_id);first|(with_reducible apply t_seq)|(apply t_region;kernel_rfl)|((with_reducible apply t_condT);exact rfl)|(with_reducible apply t_ret))|with_reducible apply q_thenN|with_reducible apply q_thenR|(with_reducible apply end_ret)|exact rvs_nil|(with_reducible apply rvs_cons)|((with_reducible apply rv_tmp);exact rfl))
     all_goals rfl
 obtain ⟨rfl,hd1⟩:=hgo
 refine t_cut (ι:=Unit) (fun _=>[(6,.slice AR nR cR),(7,.int .i64 mem),(8,.int .i64 need),(9,.int .i64 st),(10,.int .u16 less),(16,.pointer (some ⟨b16,0,none⟩)),(23,.bool true),(24,.int .i64 dur)]) (fun _=>(b16,[.int .i64 d.most,.int .i64 d.rest,.int .i64 d.win,.int .i64 d.sum],some (80,4,1))::[]) (fun _=>True) ?_ ?_
 · repeat' (first|((with_reducible apply oq_id);first|((with_reducible apply oq_lssF);exact rfl;exact rfl;omega)|(apply oq_fn;exact rfl;first|exact trivial|(and_intros<;>omega)|omega|skip))|((with_reducible apply tl_id);first|(with_reducible apply tl_nil)|((with_reducible apply u_q);(iterate 4 exact rfl)))|((with_reducible apply t_id);first|(with_reducible apply t_seq)|(apply t_region;kernel_rfl)|((with_reducible apply t_condF);exact rfl)|(with_reducible apply t_skip))|with_reducible apply q_thenN)
   all_goals exact ⟨by trivial,(),trivial,by (repeat' (first|exact FrSub.nil|(apply FrSub.cons;exact rfl))),by (repeat' (first|exact HpSub.refl _))⟩
 rintro ⟨⟩ -
 try dsimp only
 obtain ⟨E,hE⟩:∃ E,asgE d ro mem [(⟨st,st+dur,need⟩:Tr)]=E:=⟨_,rfl⟩
 obtain ⟨Lr,hL⟩:∃ x,asgL d ro mem [(⟨st,st+dur,need⟩:Tr)]=x:=⟨_,rfl⟩
 have HAs:=fun (b:Nat) w1 (hx:Ext w w1) (ht:RdS w1 3 (some ⟨b,0,none⟩) 1 ([(⟨st,st+dur,need⟩:Tr)].map trCells))=>assign_T d AR nR cR ro mem (some ⟨b,0,none⟩) 1 1 [(⟨st,st+dur,need⟩:Tr)] w1 (hR.ext hx) hA ht (by omega) (by decide)
 rw [hE,hL] at HAs
 by_cases h0:E=0
 rotate_left
 · repeat' (first|((with_reducible apply oq_id);first|(focus ((with_reducible apply (oq_addE (k:=st+dur)));exact rfl;exact rfl;omega))|((with_reducible apply oq_neqT);exact rfl;exact rfl;omega)|((with_reducible apply oq_eqlT);exact rfl;exact rfl;omega)|(apply oq_fn;exact rfl;first|exact trivial|(and_intros<;>omega)|omega|skip)|((with_reducible apply oq_loadAgg);exact rfl;exact rfl)|((with_reducible apply oq_build);(iterate 3 exact rfl)))|((with_reducible apply tl_id);first|(with_reducible apply tl_nil)|((with_reducible apply u_s);(iterate 3 exact rfl);(with_reducible apply os_callF (PV:=AsgV E Lr) (hc:=Try.call36));exact rfl;exact rfl;exact fun D w1 hw1=>HAs _ w1 hw1.ext.ext (rows_own (rows:=[(⟨st,st+dur,need⟩:Tr)].map trCells) rfl (by intro r hr;obtain rfl:=List.mem_singleton.1 hr;rfl) hw1 (by (repeat first|exact P0|apply P1)));rintro v H' hV;obtain ⟨rfl,rfl⟩:=asgV_err h0 hV;(try simp only [List.nil_append]))|((with_reducible apply u_q);(iterate 4 exact rfl))|((with_reducible apply u_s);(iterate 3 exact rfl)))|((with_reducible apply os_id);first|((with_reducible apply os_x);exact rfl))|((with_reducible apply ox_id);first|((with_reducible apply ox_buildSlice);(iterate 4 exact rfl)))|((with_reducible apply rd_id);first|(apply Rd.own;(repeat first|exact P0|apply P1);exact rfl;done))|((with_reducible apply t_id);first|(with_reducible apply t_seq)|(apply t_region;kernel_rfl)|((with_reducible apply t_condT);exact rfl)|(with_reducible apply t_ret))|with_reducible apply q_thenN|with_reducible apply q_thenR|exact Rdn.zero|apply Rdn.succ|((with_reducible apply Norm.nil);exact rfl)|((with_reducible apply Norm.cons);exact rfl)|(with_reducible apply end_ret)|exact rvs_nil|(with_reducible apply rvs_cons)|((with_reducible apply rv_tmp);exact rfl)|exact (rfl:(_:Bool)=true)|(intro _;with_reducible apply tl_id))
   all_goals rfl
 obtain ⟨lm,hlm⟩:∃ x,less.tmod dur=x:=⟨_,rfl⟩
 have hlm2:less.tmod dur=less % dur:=Int.tmod_eq_emod_of_nonneg hless.1
 have hlm3:=Int.emod_nonneg less (show dur≠0 by omega)
 have hlm4:=Int.emod_lt_of_pos less (show 0<dur by omega)
 obtain ⟨to',hto⟩:∃ x,st+dur-lm=x:=⟨_,rfl⟩
 obtain ⟨r,hr1,hr2,hr3,c2,c3⟩:=man_law (t:=to') (by omega) (hE.trans h0) (show st<to' by omega) (show to'≤st+dur by omega)
 simp only at hr2 c2 c3
 rw [hL] at hr1
 subst hr1
 refine t_cut (ι:=Nat×Option (Nat×Nat)) (fun z=>[(6,.slice AR nR cR),(7,.int .i64 mem),(8,.int .i64 need),(9,.int .i64 st),(10,.int .u16 less),(16,.pointer (some ⟨b16,0,none⟩)),(23,.bool true),(24,.int .i64 dur),(26,.slice (some ⟨z.1,0,none⟩) 1 1),(27,.int .i64 0)]) (fun z=>(z.1,[.slice (clA z.2) r.length (clC z.2)],some (22,1,1))::(clH 3 1 (r.map iv) z.2++(b16,[.int .i64 d.most,.int .i64 d.rest,.int .i64 d.win,.int .i64 d.sum],some (80,4,1))::[])) (fun z=>z.2=none→r.length=0) ?_ ?_
 · repeat' (first|((with_reducible apply oq_id);first|(focus ((with_reducible apply (oq_addE (k:=st+dur)));exact rfl;exact rfl;omega))|(apply oq_fn;exact rfl;first|exact trivial|(and_intros<;>omega)|omega|skip)|((with_reducible apply oq_loadAgg);exact rfl;exact rfl)|((with_reducible apply oq_build);(iterate 3 exact rfl)))|((with_reducible apply tl_id);first|(with_reducible apply tl_nil)|((with_reducible apply u_s);(iterate 3 exact rfl);(with_reducible apply os_callF (PV:=AsgV E [r]) (hc:=Try.call36));exact rfl;exact rfl;exact fun D w1 hw1=>HAs _ w1 hw1.ext.ext (rows_own (rows:=[(⟨st,st+dur,need⟩:Tr)].map trCells) rfl (by intro r hr;obtain rfl:=List.mem_singleton.1 hr;rfl) hw1 (by (repeat first|exact P0|apply P1)));rintro v H' hV;obtain ⟨g,R,hRR,rfl,rfl⟩:=asgV_ok h0 hV;obtain ⟨o,rfl,ho,_⟩:=asg_one hRR.1 hRR.2;(rcases o with _|⟨g',c'⟩)<;>(try simp only [outH,rwsH,rowH,rwV,clA,clC,clH,List.map_cons,List.map_nil,List.append_nil,List.cons_append,List.nil_append,List.length_cons,List.length_nil]))|((with_reducible apply u_q);(iterate 4 exact rfl))|((with_reducible apply u_s);(iterate 3 exact rfl)))|((with_reducible apply os_id);first|((with_reducible apply os_x);exact rfl))|((with_reducible apply ox_id);first|((with_reducible apply ox_buildSlice);(iterate 4 exact rfl)))|((with_reducible apply rd_id);first|(apply Rd.own;(repeat first|exact P0|apply P1);exact rfl;done))|((with_reducible apply t_id);first|(apply t_region;kernel_rfl))|exact Rdn.zero|apply Rdn.succ|((with_reducible apply Norm.nil);exact rfl)|((with_reducible apply Norm.cons);exact rfl)|exact (rfl:(_:Bool)=true)|(intro _;with_reducible apply tl_id))
   · refine ⟨by trivial,(g,none),ho,by (repeat' (first|exact FrSub.nil|(apply FrSub.cons;exact rfl))),?_⟩
     (try simp only [outH,rwsH,rowH,rwV,clA,clC,clH,List.map_cons,List.map_nil,List.append_nil,List.cons_append,List.nil_append,List.length_cons,List.length_nil])
     (repeat' (first|exact HpSub.refl _|(apply HpSub.consE;(repeat first|exact P0|apply P1);first|exact rfl|(simp;done))|apply HpSub.skipX))
   · refine ⟨by trivial,(g,some (g',c')),ho,by (repeat' (first|exact FrSub.nil|(apply FrSub.cons;exact rfl))),?_⟩
     (try simp only [outH,rwsH,rowH,rwV,clA,clC,clH,List.map_cons,List.map_nil,List.append_nil,List.cons_append,List.nil_append,List.length_cons,List.length_nil])
     (repeat' (first|exact HpSub.refl _|(apply HpSub.consE;(repeat first|exact P0|apply P1);first|exact rfl|(simp;done))|apply HpSub.skipX))
 rintro ⟨g,o⟩ ho
 simp only at ho
 rcases o with _|⟨g',c'⟩
 · have hr0:=ho rfl
   simp only [clA,clC,clH,List.nil_append]
   refine t_cut (ι:=Unit) (fun _=>[(6,.slice AR nR cR),(7,.int .i64 mem),(8,.int .i64 need),(9,.int .i64 st),(10,.int .u16 less),(16,.pointer (some ⟨b16,0,none⟩)),(23,.bool true),(24,.int .i64 dur),(26,.slice (some ⟨g,0,none⟩) 1 1)]) (fun _=>(g,[.slice none r.length 0],some (22,1,1))::(b16,[.int .i64 d.most,.int .i64 d.rest,.int .i64 d.win,.int .i64 d.sum],some (80,4,1))::[]) (fun _=>True) ?_ ?_
   · repeat' (first|((with_reducible apply oq_id);first|((with_reducible apply oq_neqF);exact rfl;exact rfl;omega)|(apply oq_fn;exact rfl;first|exact trivial|(and_intros<;>omega)|omega|skip))|((with_reducible apply tl_id);first|(with_reducible apply tl_nil)|((with_reducible apply u_q);(iterate 4 exact rfl)))|((with_reducible apply t_id);first|(with_reducible apply t_seq)|(apply t_region;kernel_rfl)|((with_reducible apply t_condF);exact rfl)|(with_reducible apply t_skip))|with_reducible apply q_thenN)
     all_goals exact ⟨by trivial,(),trivial,by (repeat' (first|exact FrSub.nil|(apply FrSub.cons;exact rfl))),by (repeat' (first|exact HpSub.refl _))⟩
   rintro ⟨⟩ -
   try dsimp only
   refine t_cut (ι:=Unit) (fun _=>[(6,.slice AR nR cR),(7,.int .i64 mem),(8,.int .i64 need),(9,.int .i64 st),(10,.int .u16 less),(16,.pointer (some ⟨b16,0,none⟩)),(23,.bool true),(24,.int .i64 dur),(26,.slice (some ⟨g,0,none⟩) 1 1)]) (fun _=>(g,[.slice none r.length 0],some (22,1,1))::(b16,[.int .i64 d.most,.int .i64 d.rest,.int .i64 d.win,.int .i64 d.sum],some (80,4,1))::[]) (fun _=>True) ?_ ?_
   · repeat' (first|((with_reducible apply oq_id);first|(focus ((with_reducible apply oq_indexAddrN (i:=0));(iterate 4 exact rfl);omega))|((with_reducible apply oq_neqF);exact rfl;exact rfl;omega)|(apply oq_fn;exact rfl;first|exact trivial|(and_intros<;>omega)|omega|skip)|((with_reducible apply oq_load);exact rfl;exact rfl))|((with_reducible apply tl_id);first|(with_reducible apply tl_nil)|((with_reducible apply u_q);(iterate 4 exact rfl)))|((with_reducible apply rd_id);first|(apply Rd.own;(repeat first|exact P0|apply P1);exact rfl;done))|((with_reducible apply t_id);first|(with_reducible apply t_seq)|(apply t_region;kernel_rfl)|((with_reducible apply t_condF);exact rfl)|(with_reducible apply t_skip))|with_reducible apply q_thenN)
     all_goals exact ⟨by trivial,(),trivial,by (repeat' (first|exact FrSub.nil|(apply FrSub.cons;exact rfl))),by (repeat' (first|exact HpSub.refl _))⟩
   rintro ⟨⟩ -
   try dsimp only
   refine t_cut (ι:=Unit) (fun _=>[(6,.slice AR nR cR),(9,.int .i64 st),(16,.pointer (some ⟨b16,0,none⟩)),(23,.bool true),(26,.slice (some ⟨g,0,none⟩) 1 1),(28,.int .i64 to')]) (fun _=>(g,[.slice none r.length 0],some (22,1,1))::(b16,[.int .i64 d.most,.int .i64 d.rest,.int .i64 d.win,.int .i64 d.sum],some (80,4,1))::[]) (fun _=>True) ?_ ?_
   · repeat' (first|((with_reducible apply oq_id);first|(focus ((with_reducible apply (oq_addE (k:=st+dur)));exact rfl;exact rfl;omega))|(focus ((with_reducible apply (oq_remL (k:=lm)));exact rfl;exact rfl;exact ⟨hlm,by omega⟩))|(focus ((with_reducible apply (oq_subE (k:=to')));exact rfl;exact rfl;omega))|(apply oq_fn;exact rfl;first|exact trivial|(and_intros<;>omega)|omega|skip))|((with_reducible apply tl_id);first|(with_reducible apply tl_nil)|((with_reducible apply u_q);(iterate 4 exact rfl)))|((with_reducible apply t_id);first|(apply t_region;kernel_rfl)))
     all_goals exact ⟨by trivial,(),trivial,by (repeat' (first|exact FrSub.nil|(apply FrSub.cons;exact rfl))),by (repeat' (first|exact HpSub.refl _))⟩
   rintro ⟨⟩ -
   try dsimp only
   refine t_cut (ι:=Nat×Nat) (fun z=>[(6,.slice AR nR cR),(9,.int .i64 st),(16,.pointer (some ⟨b16,0,none⟩)),(23,.bool true),(26,.slice (some ⟨g,0,none⟩) 1 1),(28,.int .i64 to'),(29,.slice (some ⟨z.1,0,none⟩) (ro++shR (⟨st,to',need⟩:Tr) (r.take 0)).length z.2)]) (fun z=>(z.1,shB (ro++shR (⟨st,to',need⟩:Tr) (r.take 0)),some (91,3,z.2))::(g,[.slice none r.length 0],some (22,1,1))::(b16,[.int .i64 d.most,.int .i64 d.rest,.int .i64 d.win,.int .i64 d.sum],some (80,4,1))::[]) (fun z=>True) ?_ ?_
   · repeat' (first|((with_reducible apply oq_id);first|(apply oq_fn;exact rfl;first|exact trivial|(and_intros<;>omega)|omega|skip))|((with_reducible apply tl_id);first|(with_reducible apply tl_nil)|((with_reducible apply u_s);(iterate 3 exact rfl);(with_reducible apply os_appendRows (hk:=app_ok81) (rows:=ro.map shCells) (hr:=fun D w1 hw1=>hR.ext hw1.ext.ext));exact rfl;exact rfl;(repeat first|exact P0|apply P1);exact sh_len ro;exact rfl;exact sh_oneK ro;exact Nat.le_refl _;omega;omega;intro gN cN;(simp only [Nat.zero_add,List.nil_append]))|((with_reducible apply u_q);(iterate 4 exact rfl))|((with_reducible apply u_s);(iterate 3 exact rfl)))|((with_reducible apply os_id);first|((with_reducible apply os_x);exact rfl))|((with_reducible apply ox_id);first|((with_reducible apply ox_buildSlice);(iterate 4 exact rfl)))|((with_reducible apply t_id);first|(apply t_region;kernel_rfl))|((with_reducible apply Norm.nil);exact rfl)|exact (rfl:(_:Bool)=true)|(intro _;with_reducible apply tl_id))
     all_goals exact ⟨by trivial,(gN,cN),trivial,by (repeat' (first|exact FrSub.nil|(apply FrSub.cons;exact rfl)|(apply FrSub.consE;exact rfl;(focus (simp [shR,hRl];done))))),by (repeat' (first|exact HpSub.refl _|(apply HpSub.consE;(repeat first|exact P0|apply P1);first|exact rfl|(focus (simp [shB,shR,shCells];done)))))⟩
   rintro ⟨gB,cB⟩ -
   try dsimp only
   refine t_cut (ι:=Nat×Nat) (fun z=>[(16,.pointer (some ⟨b16,0,none⟩)),(23,.bool true),(29,.slice (some ⟨z.1,0,none⟩) (ro++shR (⟨st,to',need⟩:Tr) r).length z.2)]) (fun z=>(z.1,shB (ro++shR (⟨st,to',need⟩:Tr) r),some (91,3,z.2))::(b16,[.int .i64 d.most,.int .i64 d.rest,.int .i64 d.win,.int .i64 d.sum],some (80,4,1))::[]) (fun _=>True) ?_ ?_
   · repeat' (first|((with_reducible apply oq_id);first|(focus ((with_reducible apply oq_indexAddrN (i:=0));(iterate 4 exact rfl);omega))|(apply oq_fn;exact rfl;first|exact trivial|(and_intros<;>omega)|omega|skip)|((with_reducible apply oq_load);exact rfl;exact rfl))|((with_reducible apply tl_id);first|(with_reducible apply tl_nil)|((with_reducible apply u_q);(iterate 4 exact rfl)))|((with_reducible apply rd_id);first|(apply Rd.own;(repeat first|exact P0|apply P1);exact rfl;done))|((with_reducible apply t_id);first|(with_reducible apply t_seq)|(apply t_region;kernel_rfl)|(with_reducible apply t_block))|with_reducible apply q_thenN)
     apply t_loopP (ι:=Nat×Nat×Nat) [9,16,23,28,123,124] (fun z=>[(29,.slice (some ⟨z.2.1,0,none⟩) (ro++shR (⟨st,to',need⟩:Tr) (r.take z.1)).length z.2.2),(125,.int .i64 ((z.1:Nat):Int))]) (fun z=>(z.2.1,shB (ro++shR (⟨st,to',need⟩:Tr) (r.take z.1)),some (91,3,z.2.2))::(g,[.slice none r.length 0],some (22,1,1))::(b16,[.int .i64 d.most,.int .i64 d.rest,.int .i64 d.win,.int .i64 d.sum],some (80,4,1))::[]) (fun z=>z.1≤r.length) (fun z=>r.length-z.1) (0,gB,cB)
     (repeat (first|exact KeepF.nil|(apply KeepF.cons;exact rfl)|apply KeepF.skip))
     (repeat first|exact FrSub.nil|(apply FrSub.cons;exact rfl))
     (try simp only [List.cons_append,List.nil_append])
     (repeat' (first|exact HpSub.refl _))
     · exact Nat.zero_le _
     rintro ⟨j,gC,cC⟩ hj
     simp only at hj
     try simp only [List.cons_append,List.nil_append]
     by_cases hjl:j<r.length
     rotate_left
     · obtain rfl:j=r.length:=by omega
       rw [List.take_length]
       repeat' (first|((with_reducible apply oq_id);first|((with_reducible apply oq_lssF);exact rfl;exact rfl;omega))|((with_reducible apply tl_id);first|(with_reducible apply tl_nil)|((with_reducible apply u_q);(iterate 4 exact rfl)))|((with_reducible apply t_id);first|(with_reducible apply t_seq)|(apply t_region;kernel_rfl)|((with_reducible apply t_condF);exact rfl)|(with_reducible apply t_exit))|with_reducible apply q_thenN|with_reducible apply q_thenE|((with_reducible apply q_blockE);exact rfl))
       all_goals exact ⟨by trivial,(gC,cC),trivial,by (repeat' (first|exact FrSub.nil|(apply FrSub.cons;exact rfl))),by (repeat' (first|exact HpSub.refl _|(apply HpSub.consE;(repeat first|exact P0|apply P1);first|exact rfl|(simp;done))|apply HpSub.skipX))⟩
     exact absurd hjl (by omega)
   rintro ⟨gB,cB⟩ -
   try dsimp only
   have hQ2:(ro++shR (⟨st,to',need⟩:Tr) r).length≤60:=by rw [List.length_append,shR_len];omega
   repeat' (first|((with_reducible apply oq_id);first|((with_reducible apply oq_eqlT);exact rfl;exact rfl;omega)|(apply oq_fn;exact rfl;first|exact trivial|(and_intros<;>omega)|omega|skip)|((with_reducible apply oq_loadAgg);exact rfl;exact rfl))|((with_reducible apply tl_id);first|(with_reducible apply tl_nil)|((with_reducible apply u_s);(iterate 3 exact rfl);(with_reducible apply os_callF (PV:=TiE 0 []) (hc:=Try.call37));exact rfl;exact rfl;exact fun D w1 hw1=>(by have k:=tiredE_T d (some ⟨gB,0,none⟩) (ro++shR (⟨st,to',need⟩:Tr) r).length cB (ro++shR (⟨st,to',need⟩:Tr) r) w1 (Blk.rows (rows:=(ro++shR (⟨st,to',need⟩:Tr) r).map shCells) (hw1.blk _ (Pick.mem (by (repeat first|exact P0|apply P1)))).2 (by simp) (sh_len _)) (fun h=>by cases h) (by omega);rw [c2,c3] at k;exact k);rintro v H' ⟨x0,hx0,rfl,rfl⟩;(try simp only [List.append_nil]))|((with_reducible apply u_q);(iterate 4 exact rfl)))|((with_reducible apply rd_id);first|(apply Rd.own;(repeat first|exact P0|apply P1);exact rfl;done))|((with_reducible apply t_id);first|(with_reducible apply t_seq)|(apply t_region;kernel_rfl)|(with_reducible apply t_ret))|with_reducible apply q_thenN|exact Rdn.zero|apply Rdn.succ|(with_reducible apply end_ret)|exact rvs_nil|(with_reducible apply rvs_cons)|((with_reducible apply rv_tmp);exact rfl))
   all_goals rfl
 · simp only [clA,clC,clH,List.cons_append,List.nil_append]
   refine t_cut (ι:=Unit) (fun _=>[(6,.slice AR nR cR),(7,.int .i64 mem),(8,.int .i64 need),(9,.int .i64 st),(10,.int .u16 less),(16,.pointer (some ⟨b16,0,none⟩)),(23,.bool true),(24,.int .i64 dur),(26,.slice (some ⟨g,0,none⟩) 1 1)]) (fun _=>(g,[.slice (some ⟨g',0,none⟩) r.length c'],some (22,1,1))::(g',r.map iv,some (3,1,c'))::(b16,[.int .i64 d.most,.int .i64 d.rest,.int .i64 d.win,.int .i64 d.sum],some (80,4,1))::[]) (fun _=>True) ?_ ?_
   · repeat' (first|((with_reducible apply oq_id);first|((with_reducible apply oq_neqF);exact rfl;exact rfl;omega)|(apply oq_fn;exact rfl;first|exact trivial|(and_intros<;>omega)|omega|skip))|((with_reducible apply tl_id);first|(with_reducible apply tl_nil)|((with_reducible apply u_q);(iterate 4 exact rfl)))|((with_reducible apply t_id);first|(with_reducible apply t_seq)|(apply t_region;kernel_rfl)|((with_reducible apply t_condF);exact rfl)|(with_reducible apply t_skip))|with_reducible apply q_thenN)
     all_goals exact ⟨by trivial,(),trivial,by (repeat' (first|exact FrSub.nil|(apply FrSub.cons;exact rfl))),by (repeat' (first|exact HpSub.refl _))⟩
   rintro ⟨⟩ -
   try dsimp only
   refine t_cut (ι:=Unit) (fun _=>[(6,.slice AR nR cR),(7,.int .i64 mem),(8,.int .i64 need),(9,.int .i64 st),(10,.int .u16 less),(16,.pointer (some ⟨b16,0,none⟩)),(23,.bool true),(24,.int .i64 dur),(26,.slice (some ⟨g,0,none⟩) 1 1)]) (fun _=>(g,[.slice (some ⟨g',0,none⟩) r.length c'],some (22,1,1))::(g',r.map iv,some (3,1,c'))::(b16,[.int .i64 d.most,.int .i64 d.rest,.int .i64 d.win,.int .i64 d.sum],some (80,4,1))::[]) (fun _=>True) ?_ ?_
   · repeat' (first|((with_reducible apply oq_id);first|(focus ((with_reducible apply oq_indexAddrN (i:=0));(iterate 4 exact rfl);omega))|((with_reducible apply oq_neqF);exact rfl;exact rfl;omega)|(apply oq_fn;exact rfl;first|exact trivial|(and_intros<;>omega)|omega|skip)|((with_reducible apply oq_load);exact rfl;exact rfl))|((with_reducible apply tl_id);first|(with_reducible apply tl_nil)|((with_reducible apply u_q);(iterate 4 exact rfl)))|((with_reducible apply rd_id);first|(apply Rd.own;(repeat first|exact P0|apply P1);exact rfl;done))|((with_reducible apply t_id);first|(with_reducible apply t_seq)|(apply t_region;kernel_rfl)|((with_reducible apply t_condF);exact rfl)|(with_reducible apply t_skip))|with_reducible apply q_thenN)
     all_goals exact ⟨by trivial,(),trivial,by (repeat' (first|exact FrSub.nil|(apply FrSub.cons;exact rfl))),by (repeat' (first|exact HpSub.refl _))⟩
   rintro ⟨⟩ -
   try dsimp only
   refine t_cut (ι:=Unit) (fun _=>[(6,.slice AR nR cR),(9,.int .i64 st),(16,.pointer (some ⟨b16,0,none⟩)),(23,.bool true),(26,.slice (some ⟨g,0,none⟩) 1 1),(28,.int .i64 to')]) (fun _=>(g,[.slice (some ⟨g',0,none⟩) r.length c'],some (22,1,1))::(g',r.map iv,some (3,1,c'))::(b16,[.int .i64 d.most,.int .i64 d.rest,.int .i64 d.win,.int .i64 d.sum],some (80,4,1))::[]) (fun _=>True) ?_ ?_
   · repeat' (first|((with_reducible apply oq_id);first|(focus ((with_reducible apply (oq_addE (k:=st+dur)));exact rfl;exact rfl;omega))|(focus ((with_reducible apply (oq_remL (k:=lm)));exact rfl;exact rfl;exact ⟨hlm,by omega⟩))|(focus ((with_reducible apply (oq_subE (k:=to')));exact rfl;exact rfl;omega))|(apply oq_fn;exact rfl;first|exact trivial|(and_intros<;>omega)|omega|skip))|((with_reducible apply tl_id);first|(with_reducible apply tl_nil)|((with_reducible apply u_q);(iterate 4 exact rfl)))|((with_reducible apply t_id);first|(apply t_region;kernel_rfl)))
     all_goals exact ⟨by trivial,(),trivial,by (repeat' (first|exact FrSub.nil|(apply FrSub.cons;exact rfl))),by (repeat' (first|exact HpSub.refl _))⟩
   rintro ⟨⟩ -
   try dsimp only
   refine t_cut (ι:=Nat×Nat) (fun z=>[(6,.slice AR nR cR),(9,.int .i64 st),(16,.pointer (some ⟨b16,0,none⟩)),(23,.bool true),(26,.slice (some ⟨g,0,none⟩) 1 1),(28,.int .i64 to'),(29,.slice (some ⟨z.1,0,none⟩) (ro++shR (⟨st,to',need⟩:Tr) (r.take 0)).length z.2)]) (fun z=>(z.1,shB (ro++shR (⟨st,to',need⟩:Tr) (r.take 0)),some (91,3,z.2))::(g,[.slice (some ⟨g',0,none⟩) r.length c'],some (22,1,1))::(g',r.map iv,some (3,1,c'))::(b16,[.int .i64 d.most,.int .i64 d.rest,.int .i64 d.win,.int .i64 d.sum],some (80,4,1))::[]) (fun z=>True) ?_ ?_
   · repeat' (first|((with_reducible apply oq_id);first|(apply oq_fn;exact rfl;first|exact trivial|(and_intros<;>omega)|omega|skip))|((with_reducible apply tl_id);first|(with_reducible apply tl_nil)|((with_reducible apply u_s);(iterate 3 exact rfl);(with_reducible apply os_appendRows (hk:=app_ok81) (rows:=ro.map shCells) (hr:=fun D w1 hw1=>hR.ext hw1.ext.ext));exact rfl;exact rfl;(repeat first|exact P0|apply P1);exact sh_len ro;exact rfl;exact sh_oneK ro;exact Nat.le_refl _;omega;omega;intro gN cN;(simp only [Nat.zero_add,List.nil_append]))|((with_reducible apply u_q);(iterate 4 exact rfl))|((with_reducible apply u_s);(iterate 3 exact rfl)))|((with_reducible apply os_id);first|((with_reducible apply os_x);exact rfl))|((with_reducible apply ox_id);first|((with_reducible apply ox_buildSlice);(iterate 4 exact rfl)))|((with_reducible apply t_id);first|(apply t_region;kernel_rfl))|((with_reducible apply Norm.nil);exact rfl)|exact (rfl:(_:Bool)=true)|(intro _;with_reducible apply tl_id))
     all_goals exact ⟨by trivial,(gN,cN),trivial,by (repeat' (first|exact FrSub.nil|(apply FrSub.cons;exact rfl)|(apply FrSub.consE;exact rfl;(focus (simp [shR,hRl];done))))),by (repeat' (first|exact HpSub.refl _|(apply HpSub.consE;(repeat first|exact P0|apply P1);first|exact rfl|(focus (simp [shB,shR,shCells];done)))))⟩
   rintro ⟨gB,cB⟩ -
   try dsimp only
   refine t_cut (ι:=Nat×Nat) (fun z=>[(16,.pointer (some ⟨b16,0,none⟩)),(23,.bool true),(29,.slice (some ⟨z.1,0,none⟩) (ro++shR (⟨st,to',need⟩:Tr) r).length z.2)]) (fun z=>(z.1,shB (ro++shR (⟨st,to',need⟩:Tr) r),some (91,3,z.2))::(b16,[.int .i64 d.most,.int .i64 d.rest,.int .i64 d.win,.int .i64 d.sum],some (80,4,1))::[]) (fun _=>True) ?_ ?_
   · repeat' (first|((with_reducible apply oq_id);first|(focus ((with_reducible apply oq_indexAddrN (i:=0));(iterate 4 exact rfl);omega))|(apply oq_fn;exact rfl;first|exact trivial|(and_intros<;>omega)|omega|skip)|((with_reducible apply oq_load);exact rfl;exact rfl))|((with_reducible apply tl_id);first|(with_reducible apply tl_nil)|((with_reducible apply u_q);(iterate 4 exact rfl)))|((with_reducible apply rd_id);first|(apply Rd.own;(repeat first|exact P0|apply P1);exact rfl;done))|((with_reducible apply t_id);first|(with_reducible apply t_seq)|(apply t_region;kernel_rfl)|(with_reducible apply t_block))|with_reducible apply q_thenN)
     apply t_loopP (ι:=Nat×Nat×Nat) [9,16,23,28,123,124] (fun z=>[(29,.slice (some ⟨z.2.1,0,none⟩) (ro++shR (⟨st,to',need⟩:Tr) (r.take z.1)).length z.2.2),(125,.int .i64 ((z.1:Nat):Int))]) (fun z=>(z.2.1,shB (ro++shR (⟨st,to',need⟩:Tr) (r.take z.1)),some (91,3,z.2.2))::(g,[.slice (some ⟨g',0,none⟩) r.length c'],some (22,1,1))::(g',r.map iv,some (3,1,c'))::(b16,[.int .i64 d.most,.int .i64 d.rest,.int .i64 d.win,.int .i64 d.sum],some (80,4,1))::[]) (fun z=>z.1≤r.length) (fun z=>r.length-z.1) (0,gB,cB)
     (repeat (first|exact KeepF.nil|(apply KeepF.cons;exact rfl)|apply KeepF.skip))
     (repeat first|exact FrSub.nil|(apply FrSub.cons;exact rfl))
     (try simp only [List.cons_append,List.nil_append])
     (repeat' (first|exact HpSub.refl _))
     · exact Nat.zero_le _
     rintro ⟨j,gC,cC⟩ hj
     simp only at hj
     try simp only [List.cons_append,List.nil_append]
     by_cases hjl:j<r.length
     rotate_left
     · obtain rfl:j=r.length:=by omega
       rw [List.take_length]
       repeat' (first|((with_reducible apply oq_id);first|((with_reducible apply oq_lssF);exact rfl;exact rfl;omega))|((with_reducible apply tl_id);first|(with_reducible apply tl_nil)|((with_reducible apply u_q);(iterate 4 exact rfl)))|((with_reducible apply t_id);first|(with_reducible apply t_seq)|(apply t_region;kernel_rfl)|((with_reducible apply t_condF);exact rfl)|(with_reducible apply t_exit))|with_reducible apply q_thenN|with_reducible apply q_thenE|((with_reducible apply q_blockE);exact rfl))
       all_goals exact ⟨by trivial,(gC,cC),trivial,by (repeat' (first|exact FrSub.nil|(apply FrSub.cons;exact rfl))),by (repeat' (first|exact HpSub.refl _|(apply HpSub.consE;(repeat first|exact P0|apply P1);first|exact rfl|(simp;done))|apply HpSub.skipX))⟩
     
     obtain ⟨p,hp⟩:∃ p,r[j]?=some p:=⟨_,List.getElem?_eq_getElem hjl⟩
     have hst:ro++shR (⟨st,to',need⟩:Tr) (r.take (j+1))=(ro++shR (⟨st,to',need⟩:Tr) (r.take j))++[⟨p,st,to'⟩]:=by rw [List.take_add_one,hp];simp [shR]
     have hQl:(ro++shR (⟨st,to',need⟩:Tr) (r.take j)).length≤60:=by rw [List.length_append,shR_len,List.length_take];omega
     obtain ⟨Q,hQ⟩:∃ Q,ro++shR (⟨st,to',need⟩:Tr) (r.take j)=Q:=⟨_,rfl⟩
     rw [hQ] at hst hQl ⊢
     have hfl:(shB Q).length=Q.length*3:=sh_flat_len Q
     repeat' (first|((with_reducible apply oq_id);first|(focus ((with_reducible apply oq_indexAddrN (i:=j));(iterate 4 exact rfl);omega))|(focus ((with_reducible apply (oq_addE (k:=((j+1:Nat):Int))));exact rfl;exact rfl;omega))|((with_reducible apply oq_lssT);exact rfl;exact rfl;omega)|(apply oq_fn;exact rfl;first|exact trivial|(and_intros<;>omega)|omega|skip)|((with_reducible apply oq_load);exact rfl;exact rfl)|((with_reducible apply oq_build);(iterate 3 exact rfl)))|((with_reducible apply tl_id);first|(with_reducible apply tl_nil)|((with_reducible apply u_q);(iterate 4 exact rfl))|((with_reducible apply u_s);(iterate 3 exact rfl)))|((with_reducible apply os_id);first|((with_reducible apply os_x);exact rfl)|((with_reducible apply os_append (hk:=app_ok81));exact rfl;exact rfl;(repeat first|exact P0|apply P1)))|((with_reducible apply ox_id);first|((with_reducible apply ox_buildSlice);(iterate 4 exact rfl)))|((with_reducible apply rd_id);first|(apply rdI hp;(repeat first|exact P0|apply P1);done)|(apply Rd.own;(repeat first|exact P0|apply P1);exact rfl;done))|((with_reducible apply t_id);first|(with_reducible apply t_seq)|(apply t_region;kernel_rfl)|((with_reducible apply t_condT);exact rfl)|(with_reducible apply t_skip)|(with_reducible apply t_block))|with_reducible apply q_thenN|with_reducible apply q_blockN|exact Rdn.zero|apply Rdn.succ|((with_reducible apply Norm.nil);exact rfl)|((with_reducible apply Norm.cons);exact rfl)|exact hfl|(intro gN cN;with_reducible apply tl_id)|exact Nat.le_of_ble_eq_true rfl|exact (rfl:(_:Bool)=true)|omega|(intro _;with_reducible apply tl_id))
     all_goals (refine ⟨(j+1,gN,cN),(by simp only;omega),(by simp only;omega),?_,?_⟩<;>(simp only [hst])<;>(try simp only [List.cons_append,List.nil_append])<;>(repeat' (first|exact FrSub.nil|(apply FrSub.cons;exact rfl)|(apply FrSub.consE;exact rfl;(focus (simp [shR,hRl];done)))|exact HpSub.refl _|(apply HpSub.consE;(repeat first|exact P0|apply P1);first|exact rfl|(focus (simp [shB,shR,shCells];done)))|apply HpSub.skipX)))
   rintro ⟨gB,cB⟩ -
   try dsimp only
   have hQ2:(ro++shR (⟨st,to',need⟩:Tr) r).length≤60:=by rw [List.length_append,shR_len];omega
   repeat' (first|((with_reducible apply oq_id);first|((with_reducible apply oq_eqlT);exact rfl;exact rfl;omega)|(apply oq_fn;exact rfl;first|exact trivial|(and_intros<;>omega)|omega|skip)|((with_reducible apply oq_loadAgg);exact rfl;exact rfl))|((with_reducible apply tl_id);first|(with_reducible apply tl_nil)|((with_reducible apply u_s);(iterate 3 exact rfl);(with_reducible apply os_callF (PV:=TiE 0 []) (hc:=Try.call37));exact rfl;exact rfl;exact fun D w1 hw1=>(by have k:=tiredE_T d (some ⟨gB,0,none⟩) (ro++shR (⟨st,to',need⟩:Tr) r).length cB (ro++shR (⟨st,to',need⟩:Tr) r) w1 (Blk.rows (rows:=(ro++shR (⟨st,to',need⟩:Tr) r).map shCells) (hw1.blk _ (Pick.mem (by (repeat first|exact P0|apply P1)))).2 (by simp) (sh_len _)) (fun h=>by cases h) (by omega);rw [c2,c3] at k;exact k);rintro v H' ⟨x0,hx0,rfl,rfl⟩;(try simp only [List.append_nil]))|((with_reducible apply u_q);(iterate 4 exact rfl)))|((with_reducible apply rd_id);first|(apply Rd.own;(repeat first|exact P0|apply P1);exact rfl;done))|((with_reducible apply t_id);first|(with_reducible apply t_seq)|(apply t_region;kernel_rfl)|(with_reducible apply t_ret))|with_reducible apply q_thenN|exact Rdn.zero|apply Rdn.succ|(with_reducible apply end_ret)|exact rvs_nil|(with_reducible apply rvs_cons)|((with_reducible apply rv_tmp);exact rfl))
   all_goals rfl
end Go.Proofs.Ytcjkndjjbjoehaa
namespace Go.Proofs.Ytcjkndjjbjoehaa
open Go.ChangeShapes Go.WideShapes Go.ChangeAt Go.RowKit
theorem gl_open {x:List Value} (h:LfsOk [.int .i64,.int .i64,.int .i64,.int .i64,.int .i64,.int .i64] x):∃ y:Gl,x=glCells y∧True:=by
 obtain ⟨z0,u0,rfl,_,h⟩:=h.int
 obtain ⟨z1,u1,rfl,_,h⟩:=h.int
 obtain ⟨z2,u2,rfl,_,h⟩:=h.int
 obtain ⟨z3,u3,rfl,_,h⟩:=h.int
 obtain ⟨z4,u4,rfl,_,h⟩:=h.int
 obtain ⟨z5,u5,rfl,_,h⟩:=h.int
 obtain rfl:=h.nil
 exact ⟨⟨z0,z1,z2,z3,z4,z5⟩,rfl,trivial⟩
section
variable {H:Type} {enc:TypeId×Value→H} {P:Program} {W:World} {held:Bool}
theorem open_rowsT {t e:TypeId} {n fuel:Nat} {ks:List Lf} {cs:List Value} {x:DataW H×List MemPlace} (hs:P.underlying t=some (.slice e)) (hk:ksOf P n e=some ks) (hc:P.cellsOf e=ks.length) (hpos:0<ks.length)
   (hf:DataW.trod enc P W 0 (fun _=>true) held fuel t cs=some x) :
   ∃ (A:Option Addr) (m c:Nat) (rows:List (List Value)),cs=[.slice A m c]∧RdS W ks.length A m rows∧(A=none→m=0∧c=0)∧∀ x∈rows,LfsOk ks x:=by
 rcases Go.Deep.open_slice hs hf with ⟨h1,_⟩|⟨a,m,c,m',k,D,Pl,h1,_,hlc,_,hm,_,hi⟩
 · exact ⟨none,0,0,[],h1,RdS.nil _ _ _,fun _=>⟨rfl,rfl⟩,fun x hx=>(List.not_mem_nil hx).elim⟩
 · simp only [if_true] at hm
   subst hm
   rw [hc] at hi
   have key:∀ i,i<m→∃ y:List Value,LfsOk ks y∧∀ j u,y[j]?=some u→W.cell? ((a.add (i*ks.length)).add j)=some u:=fun i hin=>by
     obtain ⟨cs,hc,ht⟩:=hi i (by omega)
     obtain ⟨_,hlc,hat⟩:=World.cells?_some hc
     exact ⟨cs,ksOf_ok hk ht,fun j u hu=>by rw [hat j (by rw [← hlc];exact (List.getElem?_eq_some_iff.1 hu).1)];exact hu⟩
   let f:Nat→List Value:=fun i=>if h:i<m then Classical.choose (key i h) else []
   have hfk:∀ i,i<m→LfsOk ks (f i)∧∀ j u,(f i)[j]?=some u→W.cell? ((a.add (i*ks.length)).add j)=some u:=fun i hin=>by
     simp only [f,dif_pos hin]
     exact Classical.choose_spec (key i hin)
   have hmem:∀ x∈(List.range m).map f,LfsOk ks x:=fun x hx=>by
     obtain ⟨i,hi,rfl⟩:=List.mem_map.1 hx
     exact (hfk i (List.mem_range.1 hi)).1
   refine ⟨some a,m,_,(List.range m).map f,h1,⟨by simp,fun h0=>?_⟩,fun h=>(by cases h),hmem⟩
   have l0:=(hfk 0 h0).1.len
   have c0:=(hfk 0 h0).2 0 _ (List.getElem?_eq_getElem (by omega))
   obtain ⟨b,o,sp⟩:=a
   have hsp:sp=none:=by simpa [Addr.add] using World.cell?_spot c0
   subst hsp
   refine ⟨b,o,rfl,by simpa [Addr.add] using cell_lt c0,fun i x hx=>⟨(hmem x (List.mem_of_getElem? hx)).len,fun j u hu=>?_⟩⟩
   rw [List.getElem?_map,Option.map_eq_some_iff] at hx
   obtain ⟨i',h2,rfl⟩:=hx
   obtain ⟨h3,h4⟩:=List.getElem?_eq_some_iff.1 h2
   simp only [List.getElem_range,List.length_range] at h3 h4
   subst h4
   have:=(hfk i h3).2 j u hu
   rw [add_eq,add_eq] at this
   exact this
theorem sing {a b:Value} (h:[a]=[b]):a=b:=by simpa using h
theorem in_openO {x:List Value} (h:LfsOk [.int .i64] x):∃ y:Int,x=inCells y∧True:=by
 obtain ⟨z0,u0,rfl,_,h⟩:=h.int
 obtain rfl:=h.nil
 exact ⟨z0,rfl,trivial⟩
end
def blCells (x:Bool):List Value:=[.bool x]
theorem list2 {l:List Value} (h:l.length=2):∃ a b,l=[a,b]:=by
 match l,h with
 | [a,b],_=>exact ⟨a,b,rfl⟩
theorem bl_openC {x:List Value} (h:LfsOk [.bool] x):∃ y:Bool,x=blCells y∧True:=by
 obtain ⟨z0,u0,rfl,h2⟩:=h.bool
 obtain rfl:=h2.nil
 exact ⟨z0,rfl,trivial⟩
theorem lg_openC {x:List Value} (h:LfsOk [.int .i64,.int .i64,.int .i64,.int .i64,.int .i64] x):∃ y:Lg,x=lgCells y∧True:=by
 obtain ⟨z0,u0,rfl,_,h⟩:=h.int
 obtain ⟨z1,u1,rfl,_,h⟩:=h.int
 obtain ⟨z2,u2,rfl,_,h⟩:=h.int
 obtain ⟨z3,u3,rfl,_,h⟩:=h.int
 obtain ⟨z4,u4,rfl,_,h⟩:=h.int
 obtain rfl:=h.nil
 exact ⟨⟨z0,z1,z2,z3,z4⟩,rfl,trivial⟩
section
variable {H:Type} {enc:TypeId×Value→H} {P:Program} {W:World} {held:Bool}
theorem open_chart {r:Reach} {b0:Nat} {v:Value} {d:DataW H} {p:List MemPlace} (hv:Value.okWide Try.prog W r b0 37 v) (h:DataW.Trod enc Try.prog W 0 (fun _=>true) held 37 v d p) :
   ∃ (B:List Bool) (L:List Lg) (A1:Option Addr) (n1 c1:Nat) (A2:Option Addr) (n2 c2:Nat),v=.agg ⟨[.slice A1 n1 c1,.slice A2 n2 c2]⟩∧RdS W 1 A1 n1 (B.map blCells)∧RdS W 5 A2 n2 (L.map lgCells):=by
 obtain ⟨cs,rfl,_⟩:=okWide_struct Try.underlying37 hv
 obtain ⟨fuel,hf⟩:=h
 obtain ⟨cs⟩:=cs
 have hf':DataW.trod enc Try.prog W 0 (fun _=>true) held fuel 37 cs=some (d,p):=hf
 obtain ⟨xs,k,_,_,hl,hlen,hx⟩:=DataW.trod_struct Try.underlying37 hf'
 have c37:Try.prog.cellsOf 37=2:=by kernel_rfl
 have c34:Try.prog.cellsOf 34=1:=by kernel_rfl
 have c35:Try.prog.cellsOf 35=1:=by kernel_rfl
 rw [c37] at hl
 obtain ⟨v0,v1,rfl⟩:=list2 hl
 have h3:xs.length=2:=hlen
 have g0:=hx 0 _ rfl
 have g1:=hx 1 _ rfl
 rw [List.getElem?_eq_getElem (by omega)] at g0 g1
 obtain ⟨A1,n1,cf1,rows1,e1,hr1,hn1,hm1⟩:=open_rowsT Try.underlying34 (show ksOf Try.prog 6 4=some [.bool] by kernel_rfl) (by kernel_rfl) (by decide) g0
 obtain ⟨A2,n2,cf2,rows2,e2,hr2,hn2,hm2⟩:=open_rowsT Try.underlying35 (show ksOf Try.prog 6 126=some [.int .i64,.int .i64,.int .i64,.int .i64,.int .i64] by kernel_rfl) (by kernel_rfl) (by decide) g1
 obtain ⟨l1,rfl,hp1⟩:=rows_ofP (f:=blCells) (p:=fun _=>True) (fun x hx=>bl_openC (hm1 x hx))
 obtain ⟨l2,rfl,hp2⟩:=rows_ofP (f:=lgCells) (p:=fun _=>True) (fun x hx=>lg_openC (hm2 x hx))
 have e1':[v0]=[.slice A1 n1 cf1]:=e1
 have e2':[v1]=[.slice A2 n2 cf2]:=e2
 clear e1 e2 g0 g1
 obtain rfl:=sing e1'
 obtain rfl:=sing e2'
 exact ⟨l1,l2,A1,n1,cf1,A2,n2,cf2,rfl,hr1,hr2⟩
theorem open_capT {t e:TypeId} {fuel:Nat} {A:Option Addr} {m c:Nat} {x:DataW H×List MemPlace} (hs:P.underlying t=some (.slice e))
   (hf:DataW.trod enc P W 0 (fun _=>true) held fuel t [.slice A m c]=some x):m≤c:=by
 rcases Go.Deep.open_slice hs hf with ⟨h1,_⟩|⟨a,len,cap,m',k,D,Pl,h1,_,hlc,_⟩
 · simp only [List.cons.injEq,Value.slice.injEq,and_true] at h1
   omega
 · simp only [List.cons.injEq,Value.slice.injEq,and_true] at h1
   omega
theorem open_cast {r:Reach} {b0:Nat} {v:Value} {d:DataW H} {p:List MemPlace} (hv:Value.okWide Try.prog W r b0 42 v) (h:DataW.Trod enc Try.prog W 0 (fun _=>true) held 42 v d p) :
   ∃ (A:Option Addr) (m c:Nat) (L:List Wn),v=.slice A m c∧CastR W A m L:=by
 obtain ⟨A,m,c,rfl⟩:=okWide_slice Try.underlying42 hv
 obtain ⟨fuel,hf⟩:=h
 refine ⟨A,m,c,?_⟩
 rcases Go.Deep.open_slice Try.underlying42 hf with ⟨h1,_⟩|⟨a,len,cap,m',k,D,Pl,h1,_,hlc,_,hm,_,hi⟩
 · simp only [Value.cells,List.cons.injEq,Value.slice.injEq,and_true] at h1
   obtain ⟨rfl,rfl,rfl⟩:=h1
   exact ⟨[],rfl,⟨RdS.nil _ _ _,fun x hx=>(List.not_mem_nil hx).elim⟩⟩
 · simp only [Value.cells,List.cons.injEq,Value.slice.injEq,and_true] at h1
   obtain ⟨rfl,rfl,rfl⟩:=h1
   simp only [if_true] at hm
   subst hm
   have c59:Try.prog.cellsOf 59=1:=by kernel_rfl
   rw [c59] at hi
   have key:∀ i,i<m→∃ y:Wn,(RdS W 6 y.A y.n (y.l.map glCells)∧y.n≤y.c)∧W.cell? (a.add (i*1))=some (.slice y.A y.n y.c):=fun i hin=>by
     obtain ⟨cs,hc,ht⟩:=hi i (by omega)
     obtain ⟨_,hlc,hat⟩:=World.cells?_some hc
     obtain ⟨A1,n1,cf1,rows1,e1,hr1,hn1,hm1⟩:=open_rowsT Try.underlying59 (show ksOf Try.prog 6 142=some [.int .i64,.int .i64,.int .i64,.int .i64,.int .i64,.int .i64] by kernel_rfl) (by kernel_rfl) (by decide) ht
     obtain ⟨l1,rfl,hp1⟩:=rows_ofP (f:=glCells) (p:=fun _=>True) (fun x hx=>gl_open (hm1 x hx))
     subst e1
     have hcap:=open_capT Try.underlying59 ht
     refine ⟨⟨A1,n1,cf1,l1⟩,⟨hr1,hcap⟩,?_⟩
     have:=hat 0 (by omega)
     simpa [Addr.add] using this
   let f:Nat→Wn:=fun i=>if h:i<m then Classical.choose (key i h) else ⟨none,0,0,[]⟩
   have hfk:∀ i,i<m→(RdS W 6 (f i).A (f i).n ((f i).l.map glCells)∧(f i).n≤(f i).c)∧W.cell? (a.add (i*1))=some (.slice (f i).A (f i).n (f i).c):=fun i hin=>by
     simp only [f,dif_pos hin]
     exact Classical.choose_spec (key i hin)
   refine ⟨(List.range m).map f,rfl,⟨⟨by simp,fun h0=>?_⟩,fun x hx=>?_⟩⟩
   · have c0:=(hfk 0 h0).2
     obtain ⟨b,o,sp⟩:=a
     have hsp:sp=none:=by simpa [Addr.add] using World.cell?_spot c0
     subst hsp
     refine ⟨b,o,rfl,by simpa [Addr.add] using cell_lt c0,fun i x hx=>?_⟩
     rw [List.getElem?_map,List.getElem?_map] at hx
     by_cases him:i<m
     · have e1:(List.range m)[i]?=some i:=by rw [List.getElem?_eq_getElem (by simpa using him),List.getElem_range]
       rw [e1] at hx
       simp only [Option.map_some,Option.some.injEq] at hx
       subst hx
       refine ⟨rfl,fun j u hu=>?_⟩
       have hw:=(hfk i him).2
       rw [add_eq] at hw
       cases j with
       | zero=>
         simp only [wnCells,List.getElem?_cons_zero,Option.some.injEq] at hu
         subst hu
         exact hw
       | succ j=>simp [wnCells] at hu
     · have e1:(List.range m)[i]?=none:=by rw [List.getElem?_eq_none_iff];simpa using him
       rw [e1] at hx
       cases hx
   · obtain ⟨i,hi2,rfl⟩:=List.mem_map.1 hx
     exact (hfk i (List.mem_range.1 hi2)).1
end
theorem Try.own:ownKnob Try.prog.godebug=none:=by kernel_rfl
theorem Try.laidOut:laidOutB Try.prog=true:=by kernel_rfl
section
variable {H:Type} {enc:TypeId×Value→H} {P:Program}
theorem trodAll_ext (hl:laidOutB P=true) {W W':World} (hb:Ext W W'):∀ {ts:List TypeId} {vs:List Value} {ds:List (DataW H)} {p:List MemPlace},(ts.all fun t=>P.readableRec t && decide (t<P.types.size))=true →
   DataW.TrodAll enc P W 0 (fun _=>true) true ts vs ds p→(∀ x∈p,x.block<W.heap.size)→DataW.TrodAll enc P W' 0 (fun b=>decide (b<W.heap.size)) true ts vs ds p
 | [],vs,ds,p,_,h,_=>by
   obtain ⟨rfl,rfl,rfl⟩:=trodAll_nil h
   exact trodAll_mk0
 | t::ts,vs,ds,p,ht,h,hlt=>by
   obtain ⟨v,vs',d,ds',p0,q0,rfl,rfl,rfl,h1,h2⟩:=trodAll_cons h
   simp only [List.all_cons,Bool.and_eq_true,decide_eq_true_eq] at ht
   exact ⟨p0,q0,Below.trod hl ht.1.1 ht.1.2 h1 hb (fun x hx=>hlt x (List.mem_append_left _ hx)),trodAll_ext hl hb ht.2 h2 (fun x hx=>hlt x (List.mem_append_right _ hx)),rfl⟩
end
end Go.Proofs.Ytcjkndjjbjoehaa
