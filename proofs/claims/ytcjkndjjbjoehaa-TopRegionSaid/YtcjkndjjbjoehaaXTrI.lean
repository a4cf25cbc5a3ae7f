/- A part of the proof: rules for walks, and contracts of functions (9). -/
import Derived.Test.YtcjkndjjbjoehaaXTrH
import Derived.Test.YtcjkndjjbjoehaaXTrB
import Derived.Test.YtcjkndjjbjoehaaXTrC
import Derived.Test.YtcjkndjjbjoehaaXTrE
import Derived.ProofKit
import Derived.Lib.SmallJoins
import Derived.Test.YtcjkndjjbjoehaaXTrA
import Derived.Test.YtcjkndjjbjoehaaChecked
import Derived.Test.YtcjkndjjbjoehaaRows
import Derived.Carry
set_option linter.unusedVariables false
set_option linter.unusedSimpArgs false
set_option maxRecDepth 100000
set_option maxHeartbeats 2000000
namespace Go.Proofs.Ytcjkndjjbjoehaa
open Go.RowKit
attribute [local irreducible] OQ OS OX Rd T TL GX GL AL AI RV wpG SAny Calls
def L04:List Ld:=[⟨-10,-10,100,100⟩,⟨10,10,-120,-90⟩]
theorem far04:¬ Far L04:=by
 rintro ⟨k,x,hx,h⟩
 have hk:k<2:=(List.getElem?_eq_some_iff.1 hx).1
 rcases (show k=0∨k=1 by omega) with rfl|rfl
 · obtain rfl:(⟨-10,-10,100,100⟩:Ld)=x:=by simpa [L04] using hx
   revert h;decide +kernel
 · obtain rfl:(⟨10,10,-120,-90⟩:Ld)=x:=by simpa [L04] using hx
   revert h;decide +kernel
theorem reg04 {R:List Pv} (h:Reg L04 R):R.length=2:=by
 obtain ⟨a,E,F,rg⟩:=h.rg
 have hm:∀ v∈msum L04,v∈([⟨-20,-2200⟩,⟨10,-1900⟩]:List Pv):=by decide +kernel
 have h1:=nodup_sub (m:=([⟨-20,-2200⟩,⟨10,-1900⟩]:List Pv)) rg.nodup fun v hv=>hm v (h.ms v hv)
 have h2:R.length≤2:=h1
 obtain ⟨u,hu,e1⟩:=h.at_ ⟨1,0⟩
 obtain ⟨v,hv,e2⟩:=h.at_ ⟨-1,0⟩
 have k1:hS ⟨1,0⟩ L04=10:=by decide +kernel
 have k2:hS ⟨-1,0⟩ L04=20:=by decide +kernel
 rw [dot_x,k1] at e1
 rw [dot_xn,k2] at e2
 match R,hu,hv,h2 with
 | [],hu,_,_=>cases hu
 | [x],hu,hv,_=>
   rw [List.mem_singleton.1 hu] at e1
   rw [List.mem_singleton.1 hv] at e2
   omega
 | [_,_],_,_,_=>rfl
theorem reg_reach {l:List Ld} {R:List Pv} (h:Reg l R) (hl:l.length≤12) (g cp:Nat) (dx dy:Int) (hdx : -1073741824≤dx∧dx≤1073741824) (hdy : -1073741824≤dy∧dy≤1073741824) (w:World) (hr:RdS w 2 (some ⟨g,0,none⟩) R.length (R.map (coC Pv.x Pv.y))) :
   Calls Try.prog 42 #[.slice (some ⟨g,0,none⟩) R.length cp,.int .i64 dx,.int .i64 dy] w fun e w'=>e=.returned (.tuple #[.int .i64 (hS ⟨dx,dy⟩ l),.int .i64 0])∧Ext w w':=by
 have k:=reach_calls ⟨g,0,none⟩ R.length cp R rfl (h.rok hl) dx dy hdx hdy w hr
 rw [reach_eq h] at k
 exact k
theorem one_calls (n:Int) (w:World):Calls Try.prog 28 #[.int .i64 n] w fun e w'=>e=.returned (.agg #[.int .i64 n,.int .i64 n])∧Ext w w':=by
 refine enterQ (c:=cx w 6) Try.func28 rfl rfl rfl rfl ?_
 repeat' (first|((with_reducible apply oq_id);first|(apply oq_fn;exact rfl;first|exact trivial|(and_intros<;>omega)|omega|skip)|((with_reducible apply oq_build);(iterate 3 exact rfl)))|((with_reducible apply tl_id);first|(with_reducible apply tl_nil)|((with_reducible apply u_q);(iterate 4 exact rfl))|((with_reducible apply u_s0);exact rfl;exact rfl)|((with_reducible apply u_s);(iterate 3 exact rfl)))|((with_reducible apply os_id);first|((with_reducible apply os_x);exact rfl)|((with_reducible apply os_storeAgg);(iterate 5 exact rfl)))|((with_reducible apply ox_id);first|((with_reducible apply ox_alloc);exact rfl;intro _))|((with_reducible apply rd_id);first|(apply Rd.own;(repeat first|exact P0|apply P1);exact rfl;done))|((with_reducible apply t_id);first|(with_reducible apply t_seq)|(apply t_region;kernel_rfl)|(with_reducible apply t_ret))|with_reducible apply q_thenN|exact P0|exact Rdn.zero|apply Rdn.succ|((with_reducible apply Norm.nil);exact rfl)|((with_reducible apply Norm.cons);exact rfl)|(with_reducible apply end_ret)|exact rvs_nil|(with_reducible apply rvs_cons)|((with_reducible apply rv_cellAgg);exact rfl;exact rfl)|exact Nat.le_of_ble_eq_true rfl)
 all_goals rfl
theorem ld04 {w0:World} {M:Ms} {H H':Hp} {w:World} {g:Nat} {tg:Tg} (h:Has w0 M H w) (q:Pick H g [.int .i64 (-10),.int .i64 (-10),.int .i64 100,.int .i64 100,.int .i64 10,.int .i64 10,.int .i64 (-120),.int .i64 (-90)] tg H'):RdS w 4 (some ⟨g,0,none⟩) 2 (L04.map ldCells):=
 Blk.rows (rows:=L04.map ldCells) (h.blk _ q.mem).2 rfl (by intro r hr;obtain ⟨x,_,rfl⟩:=List.mem_map.1 hr;rfl)
theorem alive04d_calls (w:World):Calls Try.prog 38 #[] w fun e w'=>e=.returned (.bool true)∧Ext w w':=by
 have HR:∀ {b:Nat} (w1:World),RdS w1 4 (some ⟨b,0,none⟩) 2 (L04.map ldCells)→Calls Try.prog 40 #[.slice (some ⟨b,0,none⟩) 2 2] w1 fun e w'=>∃ v H',e=.returned v∧(∃ g cp R,Reg L04 R∧v=.tuple #[.slice (some ⟨g,0,none⟩) (R).length cp,.bool true]∧H'=[(g,coB Pv.x Pv.y (R),some (111,2,cp))])∧Has w1 ⟨[],[]⟩ H' w':=fun {b} w1 h=>by
   refine (reached_P (some ⟨b,0,none⟩) 2 2 L04 (by omega) (fun x hx=>okB_iff.1 (List.all_eq_true.1 (show L04.all Ld.okB=true by decide +kernel) x hx)) w1 h).mono ?_
   rintro e w' ⟨v,H',h1,h2|⟨h2,_⟩,h3⟩
   · exact ⟨v,H',h1,h2,h3⟩
   · exact (far04 h2).elim
 have HW:∀ {b:Nat} (w1:World),RdS w1 4 (some ⟨b,0,none⟩) 2 (L04.map ldCells)→Calls Try.prog 43 #[.slice (some ⟨b,0,none⟩) 2 2,.agg #[.int .i64 1,.int .i64 0,.int .i64 5]] w1 fun e w'=>∃ v H',e=.returned v∧(∃ u,v=.tuple #[.int .i64 10,u,.int .i64 0]∧H'=[])∧Has w1 ⟨[],[]⟩ H' w':=fun {b} w1 h=>by
   refine (worstN_P (some ⟨b,0,none⟩) 2 2 L04 (by decide +kernel) (1,0,5) w1 h).mono ?_
   rintro e w' ⟨v,H',h1,⟨s,u,h2,h3,h4⟩,h5⟩
   have k1:worE (1,0,5)=0:=by decide +kernel
   have k2:hS ⟨1,0⟩ L04=10:=by decide +kernel
   have h6:=h3 k1
   simp only [k1,h6,k2] at h2
   exact ⟨v,H',h1,⟨u,h2,h4⟩,h5⟩
 refine enterQ (c:=cx w 70) Try.func38 rfl rfl rfl rfl ?_
 refine t_cut (ι:=Unit) (fun _=>[]) (fun _=>([]:Hp)) (fun _=>True) ?_ ?_
 · repeat' (first|((with_reducible apply oq_id);first|(apply oq_fn;exact rfl;first|exact trivial|(and_intros<;>omega)|omega|skip))|((with_reducible apply tl_id);first|(with_reducible apply tl_nil)|((with_reducible apply u_q);(iterate 4 exact rfl)))|((with_reducible apply t_id);first|(apply t_region;kernel_rfl)))
   all_goals exact ⟨by trivial,(),trivial,by (repeat' (first|exact FrSub.nil)),by (repeat' (first|exact HpSub.refl _))⟩
 rintro ⟨⟩ -
 try dsimp only
 refine t_cut (ι:=Nat) (fun b=>[(1,.slice (some ⟨b,0,none⟩) 2 2)]) (fun b=>[(b,[.int .i64 (-10),.int .i64 (-10),.int .i64 100,.int .i64 100,.int .i64 10,.int .i64 10,.int .i64 (-120),.int .i64 (-90)],some (113,4,2))]) (fun _=>True) ?_ ?_
 · repeat' (first|((with_reducible apply oq_id);first|(apply oq_fn;exact rfl;first|exact trivial|(and_intros<;>omega)|omega|skip)|((with_reducible apply oq_call (hc:=Try.call28));exact rfl;exact rfl;exact fun D w1 hw1=>one_calls _ w1)|((with_reducible apply oq_build);(iterate 3 exact rfl)))|((with_reducible apply tl_id);first|(with_reducible apply tl_nil)|((with_reducible apply u_q);(iterate 4 exact rfl))|((with_reducible apply u_s);(iterate 3 exact rfl)))|((with_reducible apply os_id);first|((with_reducible apply os_x);exact rfl))|((with_reducible apply ox_id);first|((with_reducible apply ox_buildSlice);(iterate 4 exact rfl)))|((with_reducible apply t_id);first|(apply t_region;kernel_rfl))|((with_reducible apply Norm.nil);exact rfl)|((with_reducible apply Norm.cons);exact rfl)|exact (rfl:(_:Bool)=true)|(intro _;with_reducible apply tl_id))
   all_goals exact ⟨by trivial,_,trivial,by (repeat' (first|exact FrSub.nil|(apply FrSub.cons;exact rfl))),by (repeat' (first|exact HpSub.refl _))⟩
 rintro b -
 try dsimp only
 refine t_cut (ι:=Nat×Nat×List Pv) (fun z=>[(1,.slice (some ⟨b,0,none⟩) 2 2),(2,.slice (some ⟨z.1,0,none⟩) (z.2.2).length z.2.1),(3,.bool true)]) (fun z=>[(z.1,coB Pv.x Pv.y (z.2.2),some (111,2,z.2.1)),(b,[.int .i64 (-10),.int .i64 (-10),.int .i64 100,.int .i64 100,.int .i64 10,.int .i64 10,.int .i64 (-120),.int .i64 (-90)],some (113,4,2))]) (fun z=>Reg L04 z.2.2) ?_ ?_
 · repeat' (first|((with_reducible apply oq_id);first|(apply oq_fn;exact rfl;first|exact trivial|(and_intros<;>omega)|omega|skip))|((with_reducible apply tl_id);first|(with_reducible apply tl_nil)|((with_reducible apply u_s);(iterate 3 exact rfl);(with_reducible apply os_callF (PV:=fun v H'=>∃ g cp R,Reg L04 R∧v=.tuple #[.slice (some ⟨g,0,none⟩) (R).length cp,.bool true]∧H'=[(g,coB Pv.x Pv.y (R),some (111,2,cp))]) (hc:=Try.call40));exact rfl;exact rfl;exact fun D w1 hw1=>HR w1 (ld04 hw1 (by (repeat first|exact P0|apply P1)));rintro _ _ ⟨g,cp,R,hR,rfl,rfl⟩;simp only [List.cons_append,List.nil_append])|((with_reducible apply u_q);(iterate 4 exact rfl)))|((with_reducible apply t_id);first|(apply t_region;kernel_rfl)))
   all_goals exact ⟨by trivial,(g,cp,R),hR,by (repeat' (first|exact FrSub.nil|(apply FrSub.cons;exact rfl))),by (repeat' (first|exact HpSub.refl _))⟩
 rintro ⟨g,cp,R⟩ hR
 simp only at hR
 try dsimp only
 have hR2:=reg04 hR
 have H1:=fun w1 h=>reg_reach hR (by decide) g cp 1 0 (by omega) (by omega) w1 h
 have H2:=fun w1 h=>reg_reach hR (by decide) g cp 0 (-1) (by omega) (by omega) w1 h
 rw [show hS ⟨1,0⟩ L04=10 by decide +kernel] at H1
 rw [show hS ⟨0,-1⟩ L04=2200 by decide +kernel] at H2
 refine t_cut (ι:=Unit) (fun _=>[(1,.slice (some ⟨b,0,none⟩) 2 2),(2,.slice (some ⟨g,0,none⟩) (R).length cp),(3,.bool true),(4,.int .i64 10),(5,.int .i64 0)]) (fun _=>[(g,coB Pv.x Pv.y (R),some (111,2,cp)),(b,[.int .i64 (-10),.int .i64 (-10),.int .i64 100,.int .i64 100,.int .i64 10,.int .i64 10,.int .i64 (-120),.int .i64 (-90)],some (113,4,2))]) (fun _=>True) ?_ ?_
 · repeat' (first|((with_reducible apply oq_id);first|(apply oq_fn;exact rfl;first|exact trivial|(and_intros<;>omega)|omega|skip)|((with_reducible apply oq_call (hc:=Try.call42));exact rfl;exact rfl;exact fun D w1 hw1=>H1 w1 (Blk.rows (hw1.blkP (by (repeat first|exact P0|apply P1))) (by rw [List.length_map]) (co_rl _))))|((with_reducible apply tl_id);first|(with_reducible apply tl_nil)|((with_reducible apply u_q);(iterate 4 exact rfl)))|((with_reducible apply t_id);first|(apply t_region;kernel_rfl)))
   all_goals exact ⟨by trivial,(),trivial,by (repeat' (first|exact FrSub.nil|(apply FrSub.cons;exact rfl))),by (repeat' (first|exact HpSub.refl _))⟩
 rintro ⟨⟩ -
 try dsimp only
 refine t_cut (ι:=Unit) (fun _=>[(2,.slice (some ⟨g,0,none⟩) (R).length cp),(3,.bool true),(4,.int .i64 10),(5,.int .i64 0),(6,.int .i64 10),(8,.int .i64 0)]) (fun _=>[(g,coB Pv.x Pv.y (R),some (111,2,cp)),(b,[.int .i64 (-10),.int .i64 (-10),.int .i64 100,.int .i64 100,.int .i64 10,.int .i64 10,.int .i64 (-120),.int .i64 (-90)],some (113,4,2))]) (fun _=>True) ?_ ?_
 · repeat' (first|((with_reducible apply oq_id);first|(apply oq_fn;exact rfl;first|exact trivial|(and_intros<;>omega)|omega|skip)|((with_reducible apply oq_build);(iterate 3 exact rfl)))|((with_reducible apply tl_id);first|(with_reducible apply tl_nil)|((with_reducible apply u_s);(iterate 3 exact rfl);(with_reducible apply os_callF (PV:=fun v H'=>∃ u,v=.tuple #[.int .i64 10,u,.int .i64 0]∧H'=[]) (hc:=Try.call43));exact rfl;exact rfl;exact fun D w1 hw1=>HW w1 (ld04 hw1 (by (repeat first|exact P0|apply P1)));rintro _ _ ⟨u,rfl,rfl⟩;simp only [List.cons_append,List.nil_append])|((with_reducible apply u_q);(iterate 4 exact rfl)))|((with_reducible apply t_id);first|(apply t_region;kernel_rfl))|((with_reducible apply Norm.nil);exact rfl)|((with_reducible apply Norm.cons);exact rfl))
   all_goals exact ⟨by trivial,(),trivial,by (repeat' (first|exact FrSub.nil|(apply FrSub.cons;exact rfl))),by (repeat' (first|exact HpSub.refl _))⟩
 rintro ⟨⟩ -
 try dsimp only
 repeat' (first|((with_reducible apply oq_id);first|((with_reducible apply oq_eqlT);exact rfl;exact rfl;omega)|(apply oq_fn;exact rfl;first|exact trivial|(and_intros<;>omega)|omega|skip)|((with_reducible apply oq_call (hc:=Try.call42));exact rfl;exact rfl;exact fun D w1 hw1=>H2 w1 (Blk.rows (hw1.blkP (by (repeat first|exact P0|apply P1))) (by rw [List.length_map]) (co_rl _))))|((with_reducible apply tl_id);first|(with_reducible apply tl_nil)|((with_reducible apply u_q);(iterate 4 exact rfl)))|((with_reducible apply t_id);first|(with_reducible apply t_seq)|(apply t_region;kernel_rfl)|(with_reducible apply t_ret))|with_reducible apply q_thenN|(with_reducible apply end_ret)|exact rvs_nil|(with_reducible apply rvs_cons)|((with_reducible apply rv_tmp);exact rfl))
 all_goals rfl
theorem sel_bd {r D:Int} (h1:0≤r) (h2:r≤15) (hD:0≤D):0≤r*D∧r*D≤15*D∧0≤(r*D).tdiv 15∧(r*D).tdiv 15≤D:=by
 have k1:=Int.mul_nonneg h1 hD
 have k2:=Int.mul_le_mul_of_nonneg_right h2 hD
 have k3:(r*D).tdiv 15=r*D / 15:=Int.tdiv_eq_ediv_of_nonneg k1
 refine ⟨k1,k2,?_,?_⟩<;>rw [k3]<;>omega
theorem byte_bd {y:Int} (h:0≤y∧y≤255):(0≤y.tmod 16∧y.tmod 16≤15)∧(0≤y.tdiv 16∧y.tdiv 16≤15):=by
 rw [Int.tmod_eq_emod_of_nonneg h.1,Int.tdiv_eq_ediv_of_nonneg h.1]
 omega
theorem by_cell {w:World} {AY:Option Addr} {ny:Nat} {ys:List Int} (hr:RdS w 1 AY ny (ys.map u8Cells)) {i:Nat} (hi:i<ny):∃ B O y,AY=some ⟨B,O,none⟩∧y∈ys∧w.cell? ⟨B,O+i*1,none⟩=some (.int .u8 y):=by
 have hl:=hr.len
 rw [List.length_map] at hl
 obtain ⟨B,O,e,_,hc⟩:=hr.at_ (by omega)
 obtain ⟨y,hy⟩:∃ y,ys[i]?=some y:=⟨_,List.getElem?_eq_getElem (by omega)⟩
 have hrow:(ys.map u8Cells)[i]?=some (u8Cells y):=by rw [List.getElem?_map,hy];rfl
 exact ⟨B,O,y,e,List.mem_of_getElem? hy,(hc i _ hrow).2 0 _ rfl⟩
theorem topRegion_T (A:Option Addr) (n c:Nat) (l:List Ld) (w:World) (hr:RdS w 4 A n (l.map ldCells)) (q1 q2 q3:Int) (AY:Option Addr) (ny cy:Nat) (ys:List Int) (hy:RdS w 1 AY ny (ys.map u8Cells)) (hyb:∀ y∈ys,0≤y∧y≤255):Calls Try.prog 7 #[.slice A n c,.agg #[.int .i64 q1,.int .i64 q2,.int .i64 q3],.slice AY ny cy] w fun e w'=>e=.returned (.bool true)∧Ext w w':=by
 have hl:l.length=n:=by have:=hr.len;rwa [List.length_map] at this
 refine enterQ (c:=cx w 197) Try.func7 rfl rfl rfl rfl ?_
 refine t_cut (ι:=Nat) (fun b4=>[(0,.slice A n c),(2,.slice AY ny cy),(4,.pointer (some ⟨b4,0,none⟩))]) (fun b4=>[(b4,[.int .i64 q1,.int .i64 q2,.int .i64 q3],some (98,3,1))]) (fun _=>True) ?_ ?_
 · repeat' (first|((with_reducible apply oq_id);first|(apply oq_fn;exact rfl;first|exact trivial|(and_intros<;>omega)|omega|skip))|((with_reducible apply tl_id);first|(with_reducible apply tl_nil)|((with_reducible apply u_q);(iterate 4 exact rfl))|((with_reducible apply u_s);(iterate 3 exact rfl)))|((with_reducible apply os_id);first|((with_reducible apply os_x);exact rfl))|((with_reducible apply ox_id);first|((with_reducible apply ox_boxAgg);exact rfl;intro _))|((with_reducible apply t_id);first|(apply t_region;kernel_rfl)))
   all_goals exact ⟨by trivial,_,trivial,by (repeat' (first|exact FrSub.nil|(apply FrSub.cons;exact rfl))),by (repeat' (first|exact HpSub.refl _))⟩
 rintro b4 -
 try dsimp only
 refine t_cut (ι:=Unit) (fun _=>[(0,.slice A n c),(2,.slice AY ny cy),(4,.pointer (some ⟨b4,0,none⟩)),(7,.bool true)]) (fun _=>[(b4,[.int .i64 q1,.int .i64 q2,.int .i64 q3],some (98,3,1))]) (fun _=>True) ?_ ?_
 · repeat' (first|((with_reducible apply oq_id);first|(apply oq_fn;exact rfl;first|exact trivial|(and_intros<;>omega)|omega|skip)|((with_reducible apply oq_call (hc:=Try.call38));exact rfl;exact rfl;exact fun D w1 hw1=>alive04d_calls w1))|((with_reducible apply tl_id);first|(with_reducible apply tl_nil)|((with_reducible apply u_q);(iterate 4 exact rfl)))|((with_reducible apply t_id);first|(apply t_region;kernel_rfl)))
   all_goals exact ⟨by trivial,(),trivial,by (repeat' (first|exact FrSub.nil|(apply FrSub.cons;exact rfl))),by (repeat' (first|exact HpSub.refl _))⟩
 rintro ⟨⟩ -
 try dsimp only
 by_cases hn:12<n
 · repeat' (first|((with_reducible apply oq_id);first|((with_reducible apply oq_gtrT);exact rfl;exact rfl;omega)|(apply oq_fn;exact rfl;first|exact trivial|(and_intros<;>omega)|omega|skip))|((with_reducible apply tl_id);first|(with_reducible apply tl_nil)|((with_reducible apply u_q);(iterate 4 exact rfl))|((with_reducible apply u_skip);(iterate 3 exact rfl)))|((with_reducible apply t_id);first|(with_reducible apply t_seq)|(apply t_region;kernel_rfl)|((with_reducible apply t_condT);exact rfl)|(with_reducible apply t_ret))|with_reducible apply q_thenN|with_reducible apply q_thenR|(with_reducible apply end_ret)|exact rvs_nil|(with_reducible apply rvs_cons)|((with_reducible apply rv_tmp);exact rfl))
   all_goals rfl
 have HC:=fun w1 (e:Ext w w1)=>checkLoads_calls A n c l (by omega) w1 (hr.ext e)
 by_cases h0:chkE l=0
 rotate_left
 · repeat' (first|((with_reducible apply oq_id);first|((with_reducible apply oq_gtrF);exact rfl;exact rfl;omega)|((with_reducible apply oq_neqT);exact rfl;exact rfl;omega)|(apply oq_fn;exact rfl;first|exact trivial|(and_intros<;>omega)|omega|skip)|((with_reducible apply oq_call (hc:=Try.call39));exact rfl;exact rfl;exact fun D w1 hw1=>HC w1 hw1.ext.ext))|((with_reducible apply tl_id);first|(with_reducible apply tl_nil)|((with_reducible apply u_q);(iterate 4 exact rfl))|((with_reducible apply u_skip);(iterate 3 exact rfl)))|((with_reducible apply t_id);first|(with_reducible apply t_seq)|(apply t_region;kernel_rfl)|((with_reducible apply t_condT);exact rfl)|(with_reducible apply t_ret))|with_reducible apply q_thenN|with_reducible apply q_thenR|(with_reducible apply end_ret)|exact rvs_nil|(with_reducible apply rvs_cons)|((with_reducible apply rv_tmp);exact rfl))
   all_goals rfl
 rw [h0] at HC
 obtain ⟨_,hok⟩:=chkE_0 h0
 refine t_cut (ι:=Unit) (fun _=>[(0,.slice A n c),(2,.slice AY ny cy),(4,.pointer (some ⟨b4,0,none⟩)),(7,.bool true)]) (fun _=>[(b4,[.int .i64 q1,.int .i64 q2,.int .i64 q3],some (98,3,1))]) (fun _=>True) ?_ ?_
 · repeat' (first|((with_reducible apply oq_id);first|((with_reducible apply oq_gtrF);exact rfl;exact rfl;omega)|((with_reducible apply oq_neqF);exact rfl;exact rfl;omega)|(apply oq_fn;exact rfl;first|exact trivial|(and_intros<;>omega)|omega|skip)|((with_reducible apply oq_call (hc:=Try.call39));exact rfl;exact rfl;exact fun D w1 hw1=>HC w1 hw1.ext.ext))|((with_reducible apply tl_id);first|(with_reducible apply tl_nil)|((with_reducible apply u_q);(iterate 4 exact rfl)))|((with_reducible apply t_id);first|(with_reducible apply t_seq)|(apply t_region;kernel_rfl)|((with_reducible apply t_condF);exact rfl)|(with_reducible apply t_skip))|with_reducible apply q_thenN)
   all_goals exact ⟨by trivial,(),trivial,by (repeat' (first|exact FrSub.nil|(apply FrSub.cons;exact rfl))),by (repeat' (first|exact HpSub.refl _))⟩
 rintro ⟨⟩ -
 try dsimp only
 refine t_cut (ι:=Option (Nat×Nat×List Pv)) (fun z=>match z with|some (g,cp,R)=>[(0,.slice A n c),(2,.slice AY ny cy),(4,.pointer (some ⟨b4,0,none⟩)),(7,.bool true),(8,.slice (some ⟨g,0,none⟩) (R).length cp),(9,.bool true)]|none=>[(0,.slice A n c),(2,.slice AY ny cy),(4,.pointer (some ⟨b4,0,none⟩)),(7,.bool true),(9,.bool false)]) (fun z=>match z with|some (g,cp,R)=>[(g,coB Pv.x Pv.y (R),some (111,2,cp)),(b4,[.int .i64 q1,.int .i64 q2,.int .i64 q3],some (98,3,1))]|none=>[(b4,[.int .i64 q1,.int .i64 q2,.int .i64 q3],some (98,3,1))]) (fun z=>match z with|some (_,_,R)=>Reg l R|none=>True) ?_ ?_
 · repeat' (first|((with_reducible apply oq_id);first|(apply oq_fn;exact rfl;first|exact trivial|(and_intros<;>omega)|omega|skip))|((with_reducible apply tl_id);first|(with_reducible apply tl_nil)|((with_reducible apply u_s);(iterate 3 exact rfl);(with_reducible apply os_callF (PV:=fun v H'=>(∃ g cp R,Reg l R∧v=.tuple #[.slice (some ⟨g,0,none⟩) (R).length cp,.bool true]∧H'=[(g,coB Pv.x Pv.y (R),some (111,2,cp))])∨(Far l∧v=.tuple #[.slice none 0 0,.bool false]∧H'=[])) (hc:=Try.call40));exact rfl;exact rfl;exact fun D w1 hw1=>reached_P A n c l (by omega) hok w1 (hr.ext hw1.ext.ext);rintro _ _ (⟨g,cp,R,hR,rfl,rfl⟩|⟨_,rfl,rfl⟩);simp only [List.cons_append,List.nil_append])|((with_reducible apply u_q);(iterate 4 exact rfl)))|((with_reducible apply t_id);first|(apply t_region;kernel_rfl)))
   · exact ⟨by trivial,some (g,cp,R),hR,by (repeat' (first|exact FrSub.nil|(apply FrSub.cons;exact rfl))),by (repeat' (first|exact HpSub.refl _))⟩
   · exact ⟨by trivial,none,trivial,by (repeat' (first|exact FrSub.nil|(apply FrSub.cons;exact rfl))),by (repeat' (first|exact HpSub.refl _))⟩
 rintro z hz
 rcases z with _|⟨g,cp,R⟩
 · try dsimp only
   repeat' (first|((with_reducible apply oq_id);first|(apply oq_fn;exact rfl;first|exact trivial|(and_intros<;>omega)|omega|skip))|((with_reducible apply tl_id);first|(with_reducible apply tl_nil)|((with_reducible apply u_q);(iterate 4 exact rfl)))|((with_reducible apply t_id);first|(with_reducible apply t_seq)|(apply t_region;kernel_rfl)|((with_reducible apply t_condT);exact rfl)|(with_reducible apply t_ret))|with_reducible apply q_thenN|with_reducible apply q_thenR|(with_reducible apply end_ret)|exact rvs_nil|(with_reducible apply rvs_cons)|((with_reducible apply rv_tmp);exact rfl))
   all_goals rfl
 have hR:Reg l R:=hz
 clear hz
 try dsimp only
 have hl12:l.length≤12:=by omega
 refine t_cut (ι:=Unit) (fun _=>[(0,.slice A n c),(2,.slice AY ny cy),(4,.pointer (some ⟨b4,0,none⟩)),(7,.bool true),(8,.slice (some ⟨g,0,none⟩) (R).length cp)]) (fun _=>[(g,coB Pv.x Pv.y (R),some (111,2,cp)),(b4,[.int .i64 q1,.int .i64 q2,.int .i64 q3],some (98,3,1))]) (fun _=>True) ?_ ?_
 · repeat' (first|((with_reducible apply oq_id);first|(apply oq_fn;exact rfl;first|exact trivial|(and_intros<;>omega)|omega|skip))|((with_reducible apply tl_id);first|(with_reducible apply tl_nil)|((with_reducible apply u_q);(iterate 4 exact rfl)))|((with_reducible apply t_id);first|(with_reducible apply t_seq)|(apply t_region;kernel_rfl)|((with_reducible apply t_condF);exact rfl)|(with_reducible apply t_skip))|with_reducible apply q_thenN)
   all_goals exact ⟨by trivial,(),trivial,by (repeat' (first|exact FrSub.nil|(apply FrSub.cons;exact rfl))),by (repeat' (first|exact HpSub.refl _))⟩
 rintro ⟨⟩ -
 try dsimp only
 have HB:=fun w1 (e:Ext w w1)=>balance_calls A n c l h0 w1 (hr.ext e)
 refine t_cut (ι:=Nat×Nat) (fun z=>[(0,.slice A n c),(2,.slice AY ny cy),(4,.pointer (some ⟨b4,0,none⟩)),(7,.bool true),(8,.slice (some ⟨g,0,none⟩) (R).length cp),(10,.pointer (some ⟨z.1,0,none⟩)),(11,.pointer (some ⟨z.2,0,none⟩)),(12,.int .i64 0)]) (fun z=>[(z.1,[.int .i64 (l.map Ld.wl).sum,.int .i64 (l.map Ld.wh).sum],some (39,2,1)),(z.2,[.int .i64 (l.map mLo).sum,.int .i64 (l.map mHi).sum],some (39,2,1)),(g,coB Pv.x Pv.y (R),some (111,2,cp)),(b4,[.int .i64 q1,.int .i64 q2,.int .i64 q3],some (98,3,1))]) (fun _=>True) ?_ ?_
 · repeat' (first|((with_reducible apply oq_id);first|(apply oq_fn;exact rfl;first|exact trivial|(and_intros<;>omega)|omega|skip)|((with_reducible apply oq_call (hc:=Try.call41));exact rfl;exact rfl;exact fun D w1 hw1=>HB w1 hw1.ext.ext))|((with_reducible apply tl_id);first|(with_reducible apply tl_nil)|((with_reducible apply u_q);(iterate 4 exact rfl))|((with_reducible apply u_s0);exact rfl;exact rfl)|((with_reducible apply u_s);(iterate 3 exact rfl)))|((with_reducible apply os_id);first|((with_reducible apply os_x);exact rfl)|((with_reducible apply os_storeAgg);(iterate 5 exact rfl)))|((with_reducible apply ox_id);first|((with_reducible apply ox_alloc);exact rfl;intro _))|((with_reducible apply t_id);first|(apply t_region;kernel_rfl))|exact P0|(with_reducible apply P1)|((with_reducible apply Norm.nil);exact rfl)|((with_reducible apply Norm.cons);exact rfl)|exact Nat.le_of_ble_eq_true rfl)
   all_goals exact ⟨by trivial,(_,_),trivial,by (repeat' (first|exact FrSub.nil|(apply FrSub.cons;exact rfl))),by (repeat' (first|exact HpSub.refl _|(apply HpSub.consE;(repeat first|exact P0|apply P1);first|exact rfl|(simp;done))))⟩
 rintro ⟨b10,b11⟩ -
 try dsimp only
 refine t_cut (ι:=Unit) (fun _=>[(0,.slice A n c),(2,.slice AY ny cy),(4,.pointer (some ⟨b4,0,none⟩)),(7,.bool true),(8,.slice (some ⟨g,0,none⟩) (R).length cp),(10,.pointer (some ⟨b10,0,none⟩)),(11,.pointer (some ⟨b11,0,none⟩))]) (fun _=>[(b10,[.int .i64 (l.map Ld.wl).sum,.int .i64 (l.map Ld.wh).sum],some (39,2,1)),(b11,[.int .i64 (l.map mLo).sum,.int .i64 (l.map mHi).sum],some (39,2,1)),(g,coB Pv.x Pv.y (R),some (111,2,cp)),(b4,[.int .i64 q1,.int .i64 q2,.int .i64 q3],some (98,3,1))]) (fun _=>True) ?_ ?_
 · repeat' (first|((with_reducible apply oq_id);first|((with_reducible apply oq_neqF);exact rfl;exact rfl;omega)|(apply oq_fn;exact rfl;first|exact trivial|(and_intros<;>omega)|omega|skip))|((with_reducible apply tl_id);first|(with_reducible apply tl_nil)|((with_reducible apply u_q);(iterate 4 exact rfl)))|((with_reducible apply t_id);first|(with_reducible apply t_seq)|(apply t_region;kernel_rfl)|((with_reducible apply t_condF);exact rfl)|(with_reducible apply t_skip))|with_reducible apply q_thenN)
   all_goals exact ⟨by trivial,(),trivial,by (repeat' (first|exact FrSub.nil|(apply FrSub.cons;exact rfl))),by (repeat' (first|exact HpSub.refl _))⟩
 rintro ⟨⟩ -
 try dsimp only
 have e1:hS ⟨1,0⟩ l=(l.map Ld.wh).sum:=hL_0 _ _ _ fun x hx=>hL_x (hok x hx)
 have e2:hS ⟨-1,0⟩ l=-(l.map Ld.wl).sum:=by rw [← sum_neg];exact hL_0 _ _ _ fun x hx=>hL_xn (hok x hx)
 have e3:hS ⟨0,1⟩ l=(l.map mHi).sum:=hL_0 _ _ _ fun x hx=>hL_y x
 have e4:hS ⟨0,-1⟩ l=-(l.map mLo).sum:=by rw [← sum_neg];exact hL_0 _ _ _ fun x hx=>hL_yn x
 have s1:=sumI_small (f:=Ld.wl) (l:=l) (fun x hx=>by have h1:=(hok x hx).w0;have h2:=(hok x hx).w1;have h3:=(hok x hx).w2;omega) (by omega) l.length (Nat.le_refl _)
 have s2:=sumI_small (f:=mLo) (l:=l) (fun x hx=>(mLo_bd (hok x hx)).1) (by omega) l.length (Nat.le_refl _)
 rw [List.take_length] at s1 s2
 have R1:=fun w1 h=>reg_reach hR hl12 g cp 1 0 (by omega) (by omega) w1 h
 have R2:=fun w1 h=>reg_reach hR hl12 g cp (-1) 0 (by omega) (by omega) w1 h
 have R3:=fun w1 h=>reg_reach hR hl12 g cp 0 1 (by omega) (by omega) w1 h
 have R4:=fun w1 h=>reg_reach hR hl12 g cp 0 (-1) (by omega) (by omega) w1 h
 obtain ⟨h1,hh1⟩:∃ v,hS ⟨1,0⟩ l=v:=⟨_,rfl⟩
 obtain ⟨h2,hh2⟩:∃ v,hS ⟨-1,0⟩ l=v:=⟨_,rfl⟩
 obtain ⟨h3,hh3⟩:∃ v,hS ⟨0,1⟩ l=v:=⟨_,rfl⟩
 obtain ⟨h4,hh4⟩:∃ v,hS ⟨0,-1⟩ l=v:=⟨_,rfl⟩
 rw [hh1] at R1 e1
 rw [hh2] at R2 e2
 rw [hh3] at R3 e3
 rw [hh4] at R4 e4
 refine t_cut (ι:=Unit) (fun _=>[(0,.slice A n c),(2,.slice AY ny cy),(4,.pointer (some ⟨b4,0,none⟩)),(7,.bool true),(8,.slice (some ⟨g,0,none⟩) (R).length cp)]) (fun _=>[(g,coB Pv.x Pv.y (R),some (111,2,cp)),(b4,[.int .i64 q1,.int .i64 q2,.int .i64 q3],some (98,3,1))]) (fun _=>True) ?_ ?_
 · refine t_cut (ι:=Nat) (fun b74=>[(0,.slice A n c),(2,.slice AY ny cy),(4,.pointer (some ⟨b4,0,none⟩)),(7,.bool true),(8,.slice (some ⟨g,0,none⟩) (R).length cp),(74,.slice (some ⟨b74,0,none⟩) 4 4),(75,.int .i64 ((4:Nat):Int)),(76,.int .i64 ((0:Nat):Int))]) (fun b74=>[(b74,[.int .i64 1,.int .i64 0,.int .i64 h1,.int .i64 (-1),.int .i64 0,.int .i64 h2,.int .i64 0,.int .i64 1,.int .i64 h3,.int .i64 0,.int .i64 (-1),.int .i64 h4],some (105,3,4)),(g,coB Pv.x Pv.y (R),some (111,2,cp)),(b4,[.int .i64 q1,.int .i64 q2,.int .i64 q3],some (98,3,1))]) (fun _=>True) ?_ ?_
   · rw [e1,e2,e3,e4]
     repeat' (first|((with_reducible apply oq_id);first|(apply oq_fn;exact rfl;first|exact trivial|(and_intros<;>omega)|omega|skip)|((with_reducible apply oq_load);exact rfl;exact rfl)|((with_reducible apply oq_build);(iterate 3 exact rfl)))|((with_reducible apply tl_id);first|(with_reducible apply tl_nil)|((with_reducible apply u_q);(iterate 4 exact rfl))|((with_reducible apply u_s);(iterate 3 exact rfl)))|((with_reducible apply os_id);first|((with_reducible apply os_x);exact rfl))|((with_reducible apply ox_id);first|((with_reducible apply ox_buildSlice);(iterate 4 exact rfl)))|((with_reducible apply rd_id);first|(apply Rd.own;(repeat first|exact P0|apply P1);exact rfl;done))|((with_reducible apply t_id);first|(apply t_region;kernel_rfl))|((with_reducible apply Norm.nil);exact rfl)|((with_reducible apply Norm.cons);exact rfl)|exact (rfl:(_:Bool)=true)|(intro _;with_reducible apply tl_id))
     all_goals exact ⟨by trivial,_,trivial,by (repeat' (first|exact FrSub.nil|(apply FrSub.cons;exact rfl))),by (repeat' (first|exact HpSub.refl _|(apply HpSub.consE;(repeat first|exact P0|apply P1);first|exact rfl|(simp;done))|apply HpSub.skipX))⟩
   rintro b74 -
   try dsimp only
   (with_reducible apply t_block)
   apply t_loopP (ι:=Nat) [0,2,4,7,8,74,75] (fun i=>[(76,.int .i64 ((i:Nat):Int))]) (fun i=>[(b74,[.int .i64 1,.int .i64 0,.int .i64 h1,.int .i64 (-1),.int .i64 0,.int .i64 h2,.int .i64 0,.int .i64 1,.int .i64 h3,.int .i64 0,.int .i64 (-1),.int .i64 h4],some (105,3,4)),(g,coB Pv.x Pv.y (R),some (111,2,cp)),(b4,[.int .i64 q1,.int .i64 q2,.int .i64 q3],some (98,3,1))]) (fun i=>i≤4) (fun i=>4-i) (0)
   (repeat (first|exact KeepF.nil|(apply KeepF.cons;exact rfl)|apply KeepF.skip))
   (repeat first|exact FrSub.nil|(apply FrSub.cons;exact rfl))
   (try simp only [List.cons_append,List.nil_append])
   (repeat' (first|exact HpSub.refl _))
   · exact Nat.zero_le _
   rintro i hi
   try simp only [List.cons_append,List.nil_append]
   rcases (show i=4∨i=0∨i=1∨i=2∨i=3 by omega) with rfl|rfl|rfl|rfl|rfl
   · repeat' (first|((with_reducible apply oq_id);first|((with_reducible apply oq_lssF);exact rfl;exact rfl;omega))|((with_reducible apply tl_id);first|(with_reducible apply tl_nil)|((with_reducible apply u_q);(iterate 4 exact rfl)))|((with_reducible apply t_id);first|(with_reducible apply t_seq)|(apply t_region;kernel_rfl)|((with_reducible apply t_condF);exact rfl)|(with_reducible apply t_exit))|with_reducible apply q_thenN|with_reducible apply q_thenE|((with_reducible apply q_blockE);exact rfl))
     all_goals exact ⟨by trivial,(),trivial,by (repeat' (first|exact FrSub.nil|(apply FrSub.cons;exact rfl))),by (repeat' (first|exact HpSub.refl _|(apply HpSub.consE;(repeat first|exact P0|apply P1);first|exact rfl|(simp;done))|apply HpSub.skipX))⟩
   · repeat' (first|((with_reducible apply oq_id);first|(focus ((with_reducible apply oq_indexAddrN (i:=0));(iterate 4 exact rfl);omega))|(focus ((with_reducible apply (oq_addE (k:=((1:Nat):Int))));exact rfl;exact rfl;omega))|((with_reducible apply oq_lssT);exact rfl;exact rfl;omega)|((with_reducible apply oq_neqF);exact rfl;exact rfl;omega)|(apply oq_fn;exact rfl;first|exact trivial|(and_intros<;>omega)|omega|skip)|((with_reducible apply oq_load);exact rfl;exact rfl)|((with_reducible apply oq_loadAgg);exact rfl;exact rfl)|((with_reducible apply oq_call (hc:=Try.call42));exact rfl;exact rfl;exact fun D w1 hw1=>R1 w1 (Blk.rows (hw1.blkP (by (repeat first|exact P0|apply P1))) (by rw [List.length_map]) (co_rl _))))|((with_reducible apply tl_id);first|(with_reducible apply tl_nil)|((with_reducible apply u_q);(iterate 4 exact rfl))|((with_reducible apply u_s0);exact rfl;exact rfl)|((with_reducible apply u_s);(iterate 3 exact rfl)))|((with_reducible apply os_id);first|((with_reducible apply os_x);exact rfl)|((with_reducible apply os_storeAgg);(iterate 5 exact rfl)))|((with_reducible apply ox_id);first|((with_reducible apply ox_alloc);exact rfl;intro _))|((with_reducible apply rd_id);first|(apply Rd.own;(repeat first|exact P0|apply P1);exact rfl;done))|((with_reducible apply t_id);first|(with_reducible apply t_seq)|(apply t_region;kernel_rfl)|((with_reducible apply t_condT);exact rfl)|((with_reducible apply t_condF);exact rfl)|(with_reducible apply t_skip)|(with_reducible apply t_block))|with_reducible apply q_thenN|with_reducible apply q_blockN|exact P0|exact Rdn.zero|apply Rdn.succ|((with_reducible apply Norm.nil);exact rfl)|((with_reducible apply Norm.cons);exact rfl)|exact Nat.le_of_ble_eq_true rfl)
     all_goals (refine ⟨1,by omega,by omega,?_,?_⟩<;>(repeat' (first|exact FrSub.nil|(apply FrSub.cons;exact rfl)|exact HpSub.refl _|(apply HpSub.consE;(repeat first|exact P0|apply P1);first|exact rfl|(simp;done))|apply HpSub.skipX)))
   · repeat' (first|((with_reducible apply oq_id);first|(focus ((with_reducible apply oq_indexAddrN (i:=1));(iterate 4 exact rfl);omega))|(focus ((with_reducible apply (oq_addE (k:=((2:Nat):Int))));exact rfl;exact rfl;omega))|((with_reducible apply oq_lssT);exact rfl;exact rfl;omega)|((with_reducible apply oq_neqF);exact rfl;exact rfl;omega)|(apply oq_fn;exact rfl;first|exact trivial|(and_intros<;>omega)|omega|skip)|((with_reducible apply oq_load);exact rfl;exact rfl)|((with_reducible apply oq_loadAgg);exact rfl;exact rfl)|((with_reducible apply oq_call (hc:=Try.call42));exact rfl;exact rfl;exact fun D w1 hw1=>R2 w1 (Blk.rows (hw1.blkP (by (repeat first|exact P0|apply P1))) (by rw [List.length_map]) (co_rl _))))|((with_reducible apply tl_id);first|(with_reducible apply tl_nil)|((with_reducible apply u_q);(iterate 4 exact rfl))|((with_reducible apply u_s0);exact rfl;exact rfl)|((with_reducible apply u_s);(iterate 3 exact rfl)))|((with_reducible apply os_id);first|((with_reducible apply os_x);exact rfl)|((with_reducible apply os_storeAgg);(iterate 5 exact rfl)))|((with_reducible apply ox_id);first|((with_reducible apply ox_alloc);exact rfl;intro _))|((with_reducible apply rd_id);first|(apply Rd.own;(repeat first|exact P0|apply P1);exact rfl;done))|((with_reducible apply t_id);first|(with_reducible apply t_seq)|(apply t_region;kernel_rfl)|((with_reducible apply t_condT);exact rfl)|((with_reducible apply t_condF);exact rfl)|(with_reducible apply t_skip)|(with_reducible apply t_block))|with_reducible apply q_thenN|with_reducible apply q_blockN|exact P0|exact Rdn.zero|apply Rdn.succ|((with_reducible apply Norm.nil);exact rfl)|((with_reducible apply Norm.cons);exact rfl)|exact Nat.le_of_ble_eq_true rfl)
     all_goals (refine ⟨2,by omega,by omega,?_,?_⟩<;>(repeat' (first|exact FrSub.nil|(apply FrSub.cons;exact rfl)|exact HpSub.refl _|(apply HpSub.consE;(repeat first|exact P0|apply P1);first|exact rfl|(simp;done))|apply HpSub.skipX)))
   · repeat' (first|((with_reducible apply oq_id);first|(focus ((with_reducible apply oq_indexAddrN (i:=2));(iterate 4 exact rfl);omega))|(focus ((with_reducible apply (oq_addE (k:=((3:Nat):Int))));exact rfl;exact rfl;omega))|((with_reducible apply oq_lssT);exact rfl;exact rfl;omega)|((with_reducible apply oq_neqF);exact rfl;exact rfl;omega)|(apply oq_fn;exact rfl;first|exact trivial|(and_intros<;>omega)|omega|skip)|((with_reducible apply oq_load);exact rfl;exact rfl)|((with_reducible apply oq_loadAgg);exact rfl;exact rfl)|((with_reducible apply oq_call (hc:=Try.call42));exact rfl;exact rfl;exact fun D w1 hw1=>R3 w1 (Blk.rows (hw1.blkP (by (repeat first|exact P0|apply P1))) (by rw [List.length_map]) (co_rl _))))|((with_reducible apply tl_id);first|(with_reducible apply tl_nil)|((with_reducible apply u_q);(iterate 4 exact rfl))|((with_reducible apply u_s0);exact rfl;exact rfl)|((with_reducible apply u_s);(iterate 3 exact rfl)))|((with_reducible apply os_id);first|((with_reducible apply os_x);exact rfl)|((with_reducible apply os_storeAgg);(iterate 5 exact rfl)))|((with_reducible apply ox_id);first|((with_reducible apply ox_alloc);exact rfl;intro _))|((with_reducible apply rd_id);first|(apply Rd.own;(repeat first|exact P0|apply P1);exact rfl;done))|((with_reducible apply t_id);first|(with_reducible apply t_seq)|(apply t_region;kernel_rfl)|((with_reducible apply t_condT);exact rfl)|((with_reducible apply t_condF);exact rfl)|(with_reducible apply t_skip)|(with_reducible apply t_block))|with_reducible apply q_thenN|with_reducible apply q_blockN|exact P0|exact Rdn.zero|apply Rdn.succ|((with_reducible apply Norm.nil);exact rfl)|((with_reducible apply Norm.cons);exact rfl)|exact Nat.le_of_ble_eq_true rfl)
     all_goals (refine ⟨3,by omega,by omega,?_,?_⟩<;>(repeat' (first|exact FrSub.nil|(apply FrSub.cons;exact rfl)|exact HpSub.refl _|(apply HpSub.consE;(repeat first|exact P0|apply P1);first|exact rfl|(simp;done))|apply HpSub.skipX)))
   · repeat' (first|((with_reducible apply oq_id);first|(focus ((with_reducible apply oq_indexAddrN (i:=3));(iterate 4 exact rfl);omega))|(focus ((with_reducible apply (oq_addE (k:=((4:Nat):Int))));exact rfl;exact rfl;omega))|((with_reducible apply oq_lssT);exact rfl;exact rfl;omega)|((with_reducible apply oq_neqF);exact rfl;exact rfl;omega)|(apply oq_fn;exact rfl;first|exact trivial|(and_intros<;>omega)|omega|skip)|((with_reducible apply oq_load);exact rfl;exact rfl)|((with_reducible apply oq_loadAgg);exact rfl;exact rfl)|((with_reducible apply oq_call (hc:=Try.call42));exact rfl;exact rfl;exact fun D w1 hw1=>R4 w1 (Blk.rows (hw1.blkP (by (repeat first|exact P0|apply P1))) (by rw [List.length_map]) (co_rl _))))|((with_reducible apply tl_id);first|(with_reducible apply tl_nil)|((with_reducible apply u_q);(iterate 4 exact rfl))|((with_reducible apply u_s0);exact rfl;exact rfl)|((with_reducible apply u_s);(iterate 3 exact rfl)))|((with_reducible apply os_id);first|((with_reducible apply os_x);exact rfl)|((with_reducible apply os_storeAgg);(iterate 5 exact rfl)))|((with_reducible apply ox_id);first|((with_reducible apply ox_alloc);exact rfl;intro _))|((with_reducible apply rd_id);first|(apply Rd.own;(repeat first|exact P0|apply P1);exact rfl;done))|((with_reducible apply t_id);first|(with_reducible apply t_seq)|(apply t_region;kernel_rfl)|((with_reducible apply t_condT);exact rfl)|((with_reducible apply t_condF);exact rfl)|(with_reducible apply t_skip)|(with_reducible apply t_block))|with_reducible apply q_thenN|with_reducible apply q_blockN|exact P0|exact Rdn.zero|apply Rdn.succ|((with_reducible apply Norm.nil);exact rfl)|((with_reducible apply Norm.cons);exact rfl)|exact Nat.le_of_ble_eq_true rfl)
     all_goals (refine ⟨4,by omega,by omega,?_,?_⟩<;>(repeat' (first|exact FrSub.nil|(apply FrSub.cons;exact rfl)|exact HpSub.refl _|(apply HpSub.consE;(repeat first|exact P0|apply P1);first|exact rfl|(simp;done))|apply HpSub.skipX)))
 rintro ⟨⟩ -
 try dsimp only
 clear R1 R2 R3 R4 e1 e2 e3 e4 hh1 hh2 hh3 hh4 s1 s2 HB HC
 have HW:=fun w1 (e:Ext w w1)=>worstN_P A n c l h0 (q1,q2,q3) w1 (hr.ext e)
 obtain ⟨ev,hev⟩:∃ e,worE (q1,q2,q3)=e:=⟨_,rfl⟩
 rw [hev] at HW
 refine t_cut (ι:=Unit) (fun _=>[(0,.slice A n c),(2,.slice AY ny cy),(7,.bool true),(8,.slice (some ⟨g,0,none⟩) (R).length cp)]) (fun _=>[(g,coB Pv.x Pv.y (R),some (111,2,cp))]) (fun _=>True) ?_ ?_
 · by_cases he:ev=0
   · subst he
     have hq:LimOk (q1,q2,q3):=limB_ok (by
       unfold worE at hev
       split at hev
       · assumption
       · cases hev)
     have qa:=hq.a0
     have qb:=hq.a1
     have qc:=hq.b0
     have qd:=hq.b1
     simp only at qa qb qc qd
     have RW:=fun w1 h=>reg_reach hR hl12 g cp q1 q2 (by omega) (by omega) w1 h
     repeat' (first|((with_reducible apply oq_id);first|((with_reducible apply oq_neqF);exact rfl;exact rfl;omega)|((with_reducible apply oq_eqlT);exact rfl;exact rfl;omega)|(apply oq_fn;exact rfl;first|exact trivial|(and_intros<;>omega)|omega|skip)|((with_reducible apply oq_load);exact rfl;exact rfl)|((with_reducible apply oq_loadAgg);exact rfl;exact rfl)|((with_reducible apply oq_call (hc:=Try.call42));exact rfl;exact rfl;exact fun D w1 hw1=>RW w1 (Blk.rows (hw1.blkP (by (repeat first|exact P0|apply P1))) (by rw [List.length_map]) (co_rl _))))|((with_reducible apply tl_id);first|(with_reducible apply tl_nil)|((with_reducible apply u_s);(iterate 3 exact rfl);(with_reducible apply os_callF (PV:=fun v H'=>∃ s u,v=.tuple #[.int .i64 s,u,.int .i64 (0)]∧((0:Int)=0→s=hS ⟨q1,q2⟩ l)∧H'=[]) (hc:=Try.call43));exact rfl;exact rfl;exact fun D w1 hw1=>HW w1 hw1.ext.ext;rintro _ _ ⟨s,u,rfl,hs,rfl⟩;obtain rfl:=hs rfl;simp only [List.cons_append,List.nil_append])|((with_reducible apply u_q);(iterate 4 exact rfl)))|((with_reducible apply rd_id);first|(apply Rd.own;(repeat first|exact P0|apply P1);exact rfl;done))|((with_reducible apply t_id);first|(with_reducible apply t_seq)|(apply t_region;kernel_rfl)|((with_reducible apply t_condT);exact rfl)|((with_reducible apply t_condF);exact rfl)|(with_reducible apply t_skip))|with_reducible apply q_thenN|exact Rdn.zero|apply Rdn.succ)
     all_goals exact ⟨by trivial,(),trivial,by (repeat' (first|exact FrSub.nil|(apply FrSub.cons;exact rfl))),by (repeat' (first|exact HpSub.refl _|(apply HpSub.consE;(repeat first|exact P0|apply P1);first|exact rfl|(simp;done))|apply HpSub.skipX))⟩
   · repeat' (first|((with_reducible apply oq_id);first|((with_reducible apply oq_eqlF);exact rfl;exact rfl;omega)|(apply oq_fn;exact rfl;first|exact trivial|(and_intros<;>omega)|omega|skip)|((with_reducible apply oq_loadAgg);exact rfl;exact rfl))|((with_reducible apply tl_id);first|(with_reducible apply tl_nil)|((with_reducible apply u_s);(iterate 3 exact rfl);(with_reducible apply os_callF (PV:=fun v H'=>∃ s u,v=.tuple #[.int .i64 s,u,.int .i64 (ev)]∧((ev:Int)=0→s=hS ⟨q1,q2⟩ l)∧H'=[]) (hc:=Try.call43));exact rfl;exact rfl;exact fun D w1 hw1=>HW w1 hw1.ext.ext;rintro _ _ ⟨s,u,rfl,hs,rfl⟩;skip;simp only [List.cons_append,List.nil_append])|((with_reducible apply u_q);(iterate 4 exact rfl)))|((with_reducible apply rd_id);first|(apply Rd.own;(repeat first|exact P0|apply P1);exact rfl;done))|((with_reducible apply t_id);first|(with_reducible apply t_seq)|(apply t_region;kernel_rfl)|((with_reducible apply t_condF);exact rfl)|(with_reducible apply t_skip))|with_reducible apply q_thenN|exact Rdn.zero|apply Rdn.succ)
     all_goals exact ⟨by trivial,(),trivial,by (repeat' (first|exact FrSub.nil|(apply FrSub.cons;exact rfl))),by (repeat' (first|exact HpSub.refl _|(apply HpSub.consE;(repeat first|exact P0|apply P1);first|exact rfl|(simp;done))|apply HpSub.skipX))⟩
 rintro ⟨⟩ -
 try dsimp only
 clear HW hev
 refine t_cut (ι:=Nat) (fun b22=>[(0,.slice A n c),(2,.slice AY ny cy),(7,.bool true),(8,.slice (some ⟨g,0,none⟩) (R).length cp),(22,.pointer (some ⟨b22,0,none⟩))]) (fun b22=>[(b22,[.int .i64 ((⟨0,0⟩:Pv)).x,.int .i64 ((⟨0,0⟩:Pv)).y],some (111,2,1)),(g,coB Pv.x Pv.y (R),some (111,2,cp))]) (fun _=>True) ?_ ?_
 · repeat' (first|((with_reducible apply tl_id);first|(with_reducible apply tl_nil)|((with_reducible apply u_s);(iterate 3 exact rfl)))|((with_reducible apply os_id);first|((with_reducible apply os_x);exact rfl))|((with_reducible apply ox_id);first|((with_reducible apply ox_alloc);exact rfl;intro _))|((with_reducible apply t_id);first|(apply t_region;kernel_rfl)))
   all_goals exact ⟨by trivial,_,trivial,by (repeat' (first|exact FrSub.nil|(apply FrSub.cons;exact rfl))),by (repeat' (first|exact HpSub.refl _))⟩
 rintro b22 -
 try dsimp only
 (with_reducible apply t_seq)
 refine t_cut (ι:=Unit) (fun _=>[(2,.slice AY ny cy),(7,.bool true),(8,.slice (some ⟨g,0,none⟩) (R).length cp),(22,.pointer (some ⟨b22,0,none⟩)),(123,.slice A n c),(124,.int .i64 ((n:Nat):Int)),(125,.int .i64 ((0:Nat):Int))]) (fun _=>[(b22,[.int .i64 ((⟨0,0⟩:Pv)).x,.int .i64 ((⟨0,0⟩:Pv)).y],some (111,2,1)),(g,coB Pv.x Pv.y (R),some (111,2,cp))]) (fun _=>True) ?_ ?_
 · repeat' (first|((with_reducible apply oq_id);first|(apply oq_fn;exact rfl;first|exact trivial|(and_intros<;>omega)|omega|skip))|((with_reducible apply tl_id);first|(with_reducible apply tl_nil)|((with_reducible apply u_q);(iterate 4 exact rfl)))|((with_reducible apply t_id);first|(apply t_region;kernel_rfl)))
   all_goals exact ⟨by trivial,(),trivial,by (repeat' (first|exact FrSub.nil|(apply FrSub.cons;exact rfl))),by (repeat' (first|exact HpSub.refl _))⟩
 rintro ⟨⟩ -
 try dsimp only
 (with_reducible apply t_block)
 apply t_loopP (ι:=Nat×Pv) [2,7,8,22,123,124] (fun z=>[(125,.int .i64 ((z.1:Nat):Int))]) (fun z=>[(b22,[.int .i64 (z.2).x,.int .i64 (z.2).y],some (111,2,1)),(g,coB Pv.x Pv.y (R),some (111,2,cp))]) (fun z=>z.1≤n∧(∀ d:Pv,Pv.dot d z.2≤hS d (l.take z.1))∧(-((z.1:Int)*1073741824)≤z.2.x∧z.2.x≤(z.1:Int)*1073741824)∧(-((z.1:Int)*21474836480000)≤z.2.y∧z.2.y≤(z.1:Int)*21474836480000)) (fun z=>n-z.1) ((0,⟨0,0⟩))
 (repeat (first|exact KeepF.nil|(apply KeepF.cons;exact rfl)|apply KeepF.skip))
 (repeat first|exact FrSub.nil|(apply FrSub.cons;exact rfl))
 (try simp only [List.cons_append,List.nil_append])
 (repeat' (first|exact HpSub.refl _))
 · refine ⟨Nat.zero_le _,fun d=>?_,?_,?_⟩
   · unfold hS Pv.dot;simp
   · simp only;omega
   · simp only;omega
 rintro ⟨i,p⟩ ⟨hi,hd,hx1,hy1⟩
 simp only at hi hd hx1 hy1
 try simp only [List.cons_append,List.nil_append]
 by_cases hlt:i<n
 rotate_left
 · obtain rfl:i=n:=by omega
   rw [← hl,List.take_length] at hd
   obtain ⟨hpd,hpb⟩:=reg_bd hR hd
   have HI:=fun w1 h=>insideR_calls g 0 R.length cp R rfl (hR.rok hl12) p hpb hpd w1 h
   repeat' (first|((with_reducible apply oq_id);first|((with_reducible apply oq_lssF);exact rfl;exact rfl;omega)|((with_reducible apply oq_eqlT);exact rfl;exact rfl;omega)|(apply oq_fn;exact rfl;first|exact trivial|(and_intros<;>omega)|omega|skip)|((with_reducible apply oq_loadAgg);exact rfl;exact rfl)|((with_reducible apply oq_call (hc:=Try.call44));exact rfl;exact rfl;exact fun D w1 hw1=>HI w1 (Blk.rows (hw1.blkP (by (repeat first|exact P0|apply P1))) (by rw [List.length_map]) (co_rl _))))|((with_reducible apply tl_id);first|(with_reducible apply tl_nil)|((with_reducible apply u_q);(iterate 4 exact rfl)))|((with_reducible apply rd_id);first|(apply Rd.own;(repeat first|exact P0|apply P1);exact rfl;done))|((with_reducible apply t_id);first|(with_reducible apply t_seq)|(apply t_region;kernel_rfl)|((with_reducible apply t_condF);exact rfl)|(with_reducible apply t_ret)|(with_reducible apply t_exit))|with_reducible apply q_thenN|with_reducible apply q_thenE|((with_reducible apply q_blockE);exact rfl)|exact Rdn.zero|apply Rdn.succ|(with_reducible apply end_ret)|exact rvs_nil|(with_reducible apply rvs_cons)|((with_reducible apply rv_tmp);exact rfl))
   all_goals rfl
 obtain ⟨B,O,x,rfl,hx,c0,c1,c2,c3⟩:=ld_row hr hlt
 have hxo:=hok x (List.mem_of_getElem? hx)
 have htk:l.take (i+1)=l.take i++[x]:=by rw [List.take_add_one,hx];rfl
 refine t_cut (ι:=Unit) (fun _=>[(2,.slice AY ny cy),(7,.bool true),(8,.slice (some ⟨g,0,none⟩) (R).length cp),(22,.pointer (some ⟨b22,0,none⟩)),(123,.slice (some ⟨B,O,none⟩) n c),(124,.int .i64 ((n:Nat):Int)),(125,.int .i64 ((i:Nat):Int)),(126,.bool true)]) (fun _=>[(b22,[.int .i64 (p).x,.int .i64 (p).y],some (111,2,1)),(g,coB Pv.x Pv.y (R),some (111,2,cp))]) (fun _=>True) ?_ ?_
 · repeat' (first|((with_reducible apply oq_id);first|((with_reducible apply oq_lssT);exact rfl;exact rfl;omega))|((with_reducible apply tl_id);first|(with_reducible apply tl_nil)|((with_reducible apply u_q);(iterate 4 exact rfl)))|((with_reducible apply t_id);first|(apply t_region;kernel_rfl)))
   all_goals exact ⟨by trivial,(),trivial,by (repeat' (first|exact FrSub.nil|(apply FrSub.cons;exact rfl))),by (repeat' (first|exact HpSub.refl _))⟩
 rintro ⟨⟩ -
 try dsimp only
 refine t_cut (ι:=Unit) (fun _=>[(2,.slice AY ny cy),(7,.bool true),(8,.slice (some ⟨g,0,none⟩) (R).length cp),(22,.pointer (some ⟨b22,0,none⟩)),(123,.slice (some ⟨B,O,none⟩) n c),(124,.int .i64 ((n:Nat):Int)),(125,.int .i64 ((i:Nat):Int))]) (fun _=>[(b22,[.int .i64 (p).x,.int .i64 (p).y],some (111,2,1)),(g,coB Pv.x Pv.y (R),some (111,2,cp))]) (fun _=>True) ?_ ?_
 · repeat' (first|((with_reducible apply t_id);first|((with_reducible apply t_condT);exact rfl)|(with_reducible apply t_skip)))
   all_goals exact ⟨by trivial,(),trivial,by (repeat' (first|exact FrSub.nil|(apply FrSub.cons;exact rfl))),by (repeat' (first|exact HpSub.refl _))⟩
 rintro ⟨⟩ -
 try dsimp only
 (with_reducible apply t_seq)
 (with_reducible apply t_block)
 refine t_cut (ι:=Nat) (fun b24=>[(2,.slice AY ny cy),(7,.bool true),(8,.slice (some ⟨g,0,none⟩) (R).length cp),(22,.pointer (some ⟨b22,0,none⟩)),(23,.int .i64 ((i:Nat):Int)),(24,.pointer (some ⟨b24,0,none⟩)),(123,.slice (some ⟨B,O,none⟩) n c),(124,.int .i64 ((n:Nat):Int)),(125,.int .i64 ((i:Nat):Int))]) (fun b24=>[(b24,[.int .i64 x.al,.int .i64 x.ah,.int .i64 x.wl,.int .i64 x.wh],some (113,4,1)),(b22,[.int .i64 (p).x,.int .i64 (p).y],some (111,2,1)),(g,coB Pv.x Pv.y (R),some (111,2,cp))]) (fun _=>True) ?_ ?_
 · repeat' (first|((with_reducible apply oq_id);first|(focus ((with_reducible apply oq_indexAddrN (i:=i));(iterate 4 exact rfl);omega))|(apply oq_fn;exact rfl;first|exact trivial|(and_intros<;>omega)|omega|skip)|((with_reducible apply oq_loadAgg);exact rfl;exact rfl))|((with_reducible apply tl_id);first|(with_reducible apply tl_nil)|((with_reducible apply u_q);(iterate 4 exact rfl))|((with_reducible apply u_s0);exact rfl;exact rfl)|((with_reducible apply u_s);(iterate 3 exact rfl)))|((with_reducible apply os_id);first|((with_reducible apply os_x);exact rfl)|((with_reducible apply os_storeAgg);(iterate 5 exact rfl)))|((with_reducible apply ox_id);first|((with_reducible apply ox_alloc);exact rfl;intro _))|((with_reducible apply rd_id);first|(apply Rd.old;(first|(with_reducible assumption)|exact c0|exact c1|exact c2|exact c3|exact c4|exact c5|exact c6|exact c7|exact c8|exact d0|exact d1|exact d2|exact d3|exact d4|exact d5);first|exact List.not_mem_nil|exact m0|exact m1|exact m2|exact m3|exact m4|exact m5|exact m6|exact m7|exact m8|exact m9))|((with_reducible apply t_id);first|(apply t_region;kernel_rfl))|exact P0|exact Rdn.zero|apply Rdn.succ|((with_reducible apply Norm.nil);exact rfl)|((with_reducible apply Norm.cons);exact rfl)|exact Nat.le_of_ble_eq_true rfl)
   all_goals exact ⟨by trivial,_,trivial,by (repeat' (first|exact FrSub.nil|(apply FrSub.cons;exact rfl))),by (repeat' (first|exact HpSub.refl _))⟩
 rintro b24 -
 try dsimp only
 refine t_cut (ι:=Unit) (fun _=>[(2,.slice AY ny cy),(7,.bool true),(8,.slice (some ⟨g,0,none⟩) (R).length cp),(22,.pointer (some ⟨b22,0,none⟩)),(23,.int .i64 ((i:Nat):Int)),(24,.pointer (some ⟨b24,0,none⟩)),(123,.slice (some ⟨B,O,none⟩) n c),(124,.int .i64 ((n:Nat):Int)),(125,.int .i64 ((i:Nat):Int)),(25,.int .i64 0)]) (fun _=>[(b24,[.int .i64 x.al,.int .i64 x.ah,.int .i64 x.wl,.int .i64 x.wh],some (113,4,1)),(b22,[.int .i64 (p).x,.int .i64 (p).y],some (111,2,1)),(g,coB Pv.x Pv.y (R),some (111,2,cp))]) (fun _=>True) ?_ ?_
 · repeat' (first|((with_reducible apply oq_id);first|(apply oq_fn;exact rfl;first|exact trivial|(and_intros<;>omega)|omega|skip))|((with_reducible apply tl_id);first|(with_reducible apply tl_nil)|((with_reducible apply u_q);(iterate 4 exact rfl)))|((with_reducible apply t_id);first|(apply t_region;kernel_rfl)))
   all_goals exact ⟨by trivial,(),trivial,by (repeat' (first|exact FrSub.nil|(apply FrSub.cons;exact rfl))),by (repeat' (first|exact HpSub.refl _))⟩
 rintro ⟨⟩ -
 try dsimp only
 refine t_cut (ι:=Int) (fun y=>[(2,.slice AY ny cy),(7,.bool true),(8,.slice (some ⟨g,0,none⟩) (R).length cp),(22,.pointer (some ⟨b22,0,none⟩)),(23,.int .i64 ((i:Nat):Int)),(24,.pointer (some ⟨b24,0,none⟩)),(123,.slice (some ⟨B,O,none⟩) n c),(124,.int .i64 ((n:Nat):Int)),(125,.int .i64 ((i:Nat):Int)),(25,.int .i64 y)]) (fun _=>[(b24,[.int .i64 x.al,.int .i64 x.ah,.int .i64 x.wl,.int .i64 x.wh],some (113,4,1)),(b22,[.int .i64 (p).x,.int .i64 (p).y],some (111,2,1)),(g,coB Pv.x Pv.y (R),some (111,2,cp))]) (fun y=>0≤y∧y≤255) ?_ ?_
 · by_cases hny:0<ny
   · have hm:i % ny<ny:=Nat.mod_lt _ hny
     obtain ⟨BY0,OY,y,rfl,hym,c4⟩:=by_cell hy hm
     have hyy:=hyb y hym
     have hrem:((i:Nat):Int).tmod ((ny:Nat):Int)=((i % ny:Nat):Int):=by
       rw [Int.tmod_eq_emod_of_nonneg (by omega)];rfl
     repeat' (first|((with_reducible apply oq_id);first|(focus ((with_reducible apply (oq_remL (k:=((i % ny:Nat):Int))));exact rfl;exact rfl;exact ⟨hrem,by omega⟩))|(focus ((with_reducible apply oq_indexAddrN (i:=i % ny));(iterate 4 exact rfl);omega))|((with_reducible apply oq_conv64);(iterate 3 exact rfl);exact ⟨by omega,by omega⟩)|((with_reducible apply oq_gtrT);exact rfl;exact rfl;omega)|(apply oq_fn;exact rfl;first|exact trivial|(and_intros<;>omega)|omega|skip)|((with_reducible apply oq_load);exact rfl;exact rfl))|((with_reducible apply tl_id);first|(with_reducible apply tl_nil)|((with_reducible apply u_q);(iterate 4 exact rfl)))|((with_reducible apply rd_id);first|(apply Rd.old;(first|(with_reducible assumption)|exact c0|exact c1|exact c2|exact c3|exact c4|exact c5|exact c6|exact c7|exact c8|exact d0|exact d1|exact d2|exact d3|exact d4|exact d5);first|exact List.not_mem_nil|exact m0|exact m1|exact m2|exact m3|exact m4|exact m5|exact m6|exact m7|exact m8|exact m9))|((with_reducible apply t_id);first|(with_reducible apply t_seq)|(apply t_region;kernel_rfl)|((with_reducible apply t_condT);exact rfl))|with_reducible apply q_thenN)
     all_goals exact ⟨by trivial,y,hyy,by (repeat' (first|exact FrSub.nil|(apply FrSub.cons;exact rfl))),by (repeat' (first|exact HpSub.refl _))⟩
   · repeat' (first|((with_reducible apply oq_id);first|((with_reducible apply oq_gtrF);exact rfl;exact rfl;omega)|(apply oq_fn;exact rfl;first|exact trivial|(and_intros<;>omega)|omega|skip))|((with_reducible apply tl_id);first|(with_reducible apply tl_nil)|((with_reducible apply u_q);(iterate 4 exact rfl)))|((with_reducible apply t_id);first|(with_reducible apply t_seq)|(apply t_region;kernel_rfl)|((with_reducible apply t_condF);exact rfl)|(with_reducible apply t_skip))|with_reducible apply q_thenN)
     all_goals exact ⟨by trivial,0,⟨by omega,by omega⟩,by (repeat' (first|exact FrSub.nil|(apply FrSub.cons;exact rfl))),by (repeat' (first|exact HpSub.refl _))⟩
 rintro y hyy
 try dsimp only
 obtain ⟨⟨r1,r2⟩,⟨d1,d2⟩⟩:=byte_bd hyy
 obtain ⟨r,hr0⟩:∃ v,y.tmod 16=v:=⟨_,rfl⟩
 obtain ⟨dv,hd0⟩:∃ v,y.tdiv 16=v:=⟨_,rfl⟩
 rw [hr0] at r1 r2
 rw [hd0] at d1 d2
 have a0:=hxo.a0
 have a1:=hxo.a1
 have a2:=hxo.a2
 have w0:=hxo.w0
 have w1:=hxo.w1
 have w2:=hxo.w2
 obtain ⟨D1,hD1⟩:∃ v,x.wh-x.wl=v:=⟨_,rfl⟩
 obtain ⟨D2,hD2⟩:∃ v,x.ah-x.al=v:=⟨_,rfl⟩
 obtain ⟨m1,m2,t1,t2⟩:=sel_bd (D:=D1) r1 r2 (by omega)
 obtain ⟨m3,m4,t3,t4⟩:=sel_bd (D:=D2) d1 d2 (by omega)
 have g1:InR (r*D1):=⟨by omega,by omega⟩
 have g2:InR (dv*D2):=⟨by omega,by omega⟩
 obtain ⟨s1,hs1⟩:∃ v,(r*D1).tdiv 15=v:=⟨_,rfl⟩
 obtain ⟨s2,hs2⟩:∃ v,(dv*D2).tdiv 15=v:=⟨_,rfl⟩
 rw [hs1] at t1 t2
 rw [hs2] at t3 t4
 obtain ⟨w',hw'⟩:∃ v,x.wl+s1=v:=⟨_,rfl⟩
 obtain ⟨a',ha'⟩:∃ v,x.al+s2=v:=⟨_,rfl⟩
 have k1:=in_mul2 (a:=a') (b:=w') (by omega) (by omega)
 have g3:InR (w'*a'):=⟨by omega,by omega⟩
 have hcast:((i+1:Nat):Int)=(i:Int)+1:=by omega
 have hin:=fun d:Pv=>hL_in (d:=d) (x:=x) (w:=w') (a:=a') (by omega) (by omega) (by omega) (by omega)
 obtain ⟨pn,hpn⟩:∃ v,Pv.add p (pt w' a')=v:=⟨_,rfl⟩
 have hpx:p.x+w'=pn.x:=by rw [← hpn];rfl
 have hpy:p.y+w'*a'=pn.y:=by rw [← hpn];rfl
 have hdn:∀ d:Pv,Pv.dot d pn≤hS d (l.take (i+1)):=fun d=>by
   rw [htk,hS_snoc,← hpn,dot_add]
   have:=hd d
   have:=hin d
   omega
 refine t_cut (ι:=Unit) (fun _=>[(2,.slice AY ny cy),(7,.bool true),(8,.slice (some ⟨g,0,none⟩) (R).length cp),(22,.pointer (some ⟨b22,0,none⟩)),(23,.int .i64 ((i:Nat):Int)),(24,.pointer (some ⟨b24,0,none⟩)),(123,.slice (some ⟨B,O,none⟩) n c),(124,.int .i64 ((n:Nat):Int)),(125,.int .i64 ((i:Nat):Int)),(25,.int .i64 y),(26,.int .i64 w')]) (fun _=>[(b24,[.int .i64 x.al,.int .i64 x.ah,.int .i64 x.wl,.int .i64 x.wh],some (113,4,1)),(b22,[.int .i64 (p).x,.int .i64 (p).y],some (111,2,1)),(g,coB Pv.x Pv.y (R),some (111,2,cp))]) (fun _=>True) ?_ ?_
 · repeat' (first|((with_reducible apply oq_id);first|(focus ((with_reducible apply (oq_remL (k:=r)));exact rfl;exact rfl;exact ⟨hr0,by omega⟩))|((with_reducible apply (oq_subE (k:=D1)));exact rfl;exact rfl;omega)|((with_reducible apply oq_mul);exact rfl;exact rfl;(first|exact g1|exact g2|exact g3))|(focus ((with_reducible apply (oq_quoL (k:=s1)));exact rfl;exact rfl;exact ⟨hs1,by omega,by omega,by omega⟩))|(focus ((with_reducible apply (oq_addE (k:=w')));exact rfl;exact rfl;omega))|(apply oq_fn;exact rfl;first|exact trivial|(and_intros<;>omega)|omega|skip)|((with_reducible apply oq_load);exact rfl;exact rfl))|((with_reducible apply tl_id);first|(with_reducible apply tl_nil)|((with_reducible apply u_q);(iterate 4 exact rfl)))|((with_reducible apply rd_id);first|(apply Rd.own;(repeat first|exact P0|apply P1);exact rfl;done))|((with_reducible apply t_id);first|(apply t_region;kernel_rfl)))
   all_goals exact ⟨by trivial,(),trivial,by (repeat' (first|exact FrSub.nil|(apply FrSub.cons;exact rfl))),by (repeat' (first|exact HpSub.refl _))⟩
 rintro ⟨⟩ -
 try dsimp only
 refine t_cut (ι:=Unit) (fun _=>[(2,.slice AY ny cy),(7,.bool true),(8,.slice (some ⟨g,0,none⟩) (R).length cp),(22,.pointer (some ⟨b22,0,none⟩)),(23,.int .i64 ((i:Nat):Int)),(24,.pointer (some ⟨b24,0,none⟩)),(123,.slice (some ⟨B,O,none⟩) n c),(124,.int .i64 ((n:Nat):Int)),(125,.int .i64 ((i:Nat):Int)),(26,.int .i64 w'),(27,.int .i64 a')]) (fun _=>[(b24,[.int .i64 x.al,.int .i64 x.ah,.int .i64 x.wl,.int .i64 x.wh],some (113,4,1)),(b22,[.int .i64 (p).x,.int .i64 (p).y],some (111,2,1)),(g,coB Pv.x Pv.y (R),some (111,2,cp))]) (fun _=>True) ?_ ?_
 · repeat' (first|((with_reducible apply oq_id);first|(focus ((with_reducible apply (oq_quoL (k:=dv)));exact rfl;exact rfl;exact ⟨hd0,by omega,by omega,by omega⟩))|((with_reducible apply (oq_subE (k:=D2)));exact rfl;exact rfl;omega)|((with_reducible apply oq_mul);exact rfl;exact rfl;(first|exact g1|exact g2|exact g3))|(focus ((with_reducible apply (oq_quoL (k:=s2)));exact rfl;exact rfl;exact ⟨hs2,by omega,by omega,by omega⟩))|(focus ((with_reducible apply (oq_addE (k:=a')));exact rfl;exact rfl;omega))|(apply oq_fn;exact rfl;first|exact trivial|(and_intros<;>omega)|omega|skip)|((with_reducible apply oq_load);exact rfl;exact rfl))|((with_reducible apply tl_id);first|(with_reducible apply tl_nil)|((with_reducible apply u_q);(iterate 4 exact rfl)))|((with_reducible apply rd_id);first|(apply Rd.own;(repeat first|exact P0|apply P1);exact rfl;done))|((with_reducible apply t_id);first|(apply t_region;kernel_rfl)))
   all_goals exact ⟨by trivial,(),trivial,by (repeat' (first|exact FrSub.nil|(apply FrSub.cons;exact rfl))),by (repeat' (first|exact HpSub.refl _))⟩
 rintro ⟨⟩ -
 try dsimp only
 repeat' (first|((with_reducible apply oq_id);first|((with_reducible apply oq_mul);exact rfl;exact rfl;(first|exact g1|exact g2|exact g3))|(focus ((with_reducible apply (oq_addE (k:=pn.x)));exact rfl;exact rfl;omega))|(focus ((with_reducible apply (oq_addE (k:=pn.y)));exact rfl;exact rfl;omega))|(focus ((with_reducible apply (oq_addE (k:=((i+1:Nat):Int))));exact rfl;exact rfl;omega))|(apply oq_fn;exact rfl;first|exact trivial|(and_intros<;>omega)|omega|skip)|((with_reducible apply oq_load);exact rfl;exact rfl)|((with_reducible apply oq_build);(iterate 3 exact rfl)))|((with_reducible apply tl_id);first|(with_reducible apply tl_nil)|((with_reducible apply u_q);(iterate 4 exact rfl))|((with_reducible apply u_s0);exact rfl;exact rfl))|((with_reducible apply os_id);first|((with_reducible apply os_storeAgg);(iterate 5 exact rfl)))|((with_reducible apply rd_id);first|(apply Rd.own;(repeat first|exact P0|apply P1);exact rfl;done))|((with_reducible apply t_id);first|(apply t_region;kernel_rfl))|with_reducible apply q_thenN|with_reducible apply q_blockN|exact P0|(with_reducible apply P1)|((with_reducible apply Norm.nil);exact rfl)|((with_reducible apply Norm.cons);exact rfl)|exact Nat.le_of_ble_eq_true rfl)
 all_goals exact ⟨(i+1,pn),⟨by simp only;omega,hdn,by simp only;omega,by simp only;omega⟩,by simp only;omega,by (repeat' (first|exact FrSub.nil|(apply FrSub.cons;exact rfl))),by (repeat' (first|exact HpSub.refl _|(apply HpSub.consE;(repeat first|exact P0|apply P1);first|exact rfl|(simp;done))|apply HpSub.skipX))⟩
end Go.Proofs.Ytcjkndjjbjoehaa
namespace Go.Proofs.Ytcjkndjjbjoehaa
open Go.ChangeShapes Go.WideShapes Go.ChangeAt Go.RowKit
inductive Lf where
 | int (k:IntKind)
 | bool
def LfOk:Lf→Value→Prop
 | .int k,v=>∃ z,v=.int k z∧(Lit.int k z).wf=true
 | .bool,v=>∃ b,v=.bool b
def LfsOk:List Lf→List Value→Prop
 | [],[]=>True
 | k::ks,v::vs=>LfOk k v∧LfsOk ks vs
 | _,_=>False
theorem LfsOk.len:∀ {ks:List Lf} {vs:List Value},LfsOk ks vs→vs.length=ks.length
 | [],[],_=>rfl
 | k::ks,v::vs,h=>by simp [LfsOk.len h.2]
 | [],_::_,h=>h.elim
 | _::_,[],h=>h.elim
theorem LfsOk.nil {vs:List Value} (h:LfsOk [] vs):vs=[]:=by cases vs with|nil=>rfl|cons _ _=>exact h.elim
theorem LfsOk.int {k:IntKind} {ks:List Lf} {vs:List Value} (h:LfsOk (.int k::ks) vs):∃ z us,vs=.int k z::us∧(Lit.int k z).wf=true∧LfsOk ks us:=by
 cases vs with
 | nil=>exact h.elim
 | cons v vs=>obtain ⟨⟨z,rfl,hw⟩,h2⟩:=h;exact ⟨z,vs,rfl,hw,h2⟩
theorem LfsOk.append:∀ {ks ls:List Lf} {vs us:List Value},LfsOk ks vs→LfsOk ls us→LfsOk (ks++ls) (vs++us)
 | [],_,[],_,_,h=>h
 | _::_,_,_::_,_,h,k=>⟨h.1,LfsOk.append h.2 k⟩
 | [],_,_::_,_,h,_=>h.elim
 | _::_,_,[],_,h,_=>h.elim
def ksFs (P:Program) (rec_:TypeId→Option (List Lf)):List Field→Nat→Option (List Lf)
 | [],_=>some []
 | f::fs,o=>match Nat.beq f.offset o,rec_ f.type,ksFs P rec_ fs (o+P.cellsOf f.type) with
   | true,some ks,some ls=>match Nat.beq (P.cellsOf f.type) ks.length with
     | true=>some (ks++ls)
     | false=>none
   | _,_,_=>none
def ksOf (P:Program):Nat→TypeId→Option (List Lf)
 | 0,_=>none
 | n+1,t=>match P.underlying t with
   | some (.int k)=>some [.int k]
   | some .bool=>some [.bool]
   | some (.struct fs)=>match ksFs P (ksOf P n) fs.toList 0 with
     | some ks=>match Nat.beq (P.cellsOf t) ks.length with
       | true=>some ks
       | false=>none
     | none=>none
   | _=>none
section
variable {H:Type} {enc:TypeId×Value→H} {P:Program} {W:World} {base:Nat} {spare:Nat→Bool} {held:Bool}
theorem ksFs_ok {rec_:TypeId→Option (List Lf)} {m:Nat} (hr:∀ {t:TypeId} {ks:List Lf} {cs:List Value} {x:DataW H×List MemPlace},rec_ t=some ks→DataW.trod enc P W base spare held m t cs=some x→LfsOk ks cs) {cs:List Value} :
   ∀ {fs:List Field} {o:Nat} {ks:List Lf},ksFs P rec_ fs o=some ks→(∀ f∈fs,∃ y,DataW.trod enc P W base spare held m f.type ((cs.drop f.offset).take (P.cellsOf f.type))=some y)→o+ks.length≤cs.length→LfsOk ks ((cs.drop o).take ks.length)
 | [],o,ks,h,_,_=>by
   obtain rfl:=Option.some.inj h
   simp [LfsOk]
 | f::fs,o,ks,h,hy,hl=>by
   unfold ksFs at h
   split at h
   · rename_i k1 l1 h1 h2 h3
     split at h
     · rename_i h4
       obtain rfl:=Option.some.inj h
       have ho:=Nat.eq_of_beq_eq_true h1
       have hc:=Nat.eq_of_beq_eq_true h4
       obtain ⟨y,hy0⟩:=hy f (List.mem_cons_self ..)
       rw [ho,hc] at hy0
       have a1:=hr h2 hy0
       rw [hc] at h3
       simp only [List.length_append] at hl
       have a2:=ksFs_ok hr h3 (fun g hg=>hy g (List.mem_cons_of_mem _ hg)) (by omega)
       have e:(cs.drop o).take (k1++l1).length=(cs.drop o).take k1.length++(cs.drop (o+k1.length)).take l1.length:=by
         rw [List.length_append,List.take_add,List.drop_drop]
       rw [e]
       exact a1.append a2
     · cases h
   · cases h
theorem ksOf_ok:∀ {n:Nat} {t:TypeId} {ks:List Lf} {m:Nat} {cs:List Value} {x:DataW H×List MemPlace},ksOf P n t=some ks→DataW.trod enc P W base spare held m t cs=some x→LfsOk ks cs
 | 0,_,_,_,_,_,h,_=>by cases h
 | n+1,t,ks,m,cs,x,h,hx=>by
   unfold ksOf at h
   split at h
   · rename_i k hu
     obtain rfl:=Option.some.inj h
     obtain ⟨z,rfl,_,hw⟩:=DataW.trod_int hu hx
     exact ⟨⟨z,rfl,hw⟩,trivial⟩
   · rename_i hu
     obtain rfl:=Option.some.inj h
     obtain ⟨b,rfl,_⟩:=DataW.trod_bool hu hx
     exact ⟨⟨b,rfl⟩,trivial⟩
   · rename_i fs hu
     split at h
     · rename_i ks' hk
       split at h
       · rename_i hc
         obtain rfl:=Option.some.inj h
         have hc:=Nat.eq_of_beq_eq_true hc
         obtain ⟨xs,k,_,_,hl,hlen,hf⟩:=DataW.trod_struct hu hx
         have:=ksFs_ok (m:=k) (cs:=cs) (fun h1 h2=>ksOf_ok h1 h2) hk (fun f hfm=>by
           obtain ⟨i,hi,hif⟩:=List.getElem_of_mem hfm
           have hi':i<fs.size:=by simpa using hi
           have e:=hf i f (by rw [Array.getElem?_eq_getElem hi'];simpa using hif)
           rw [List.getElem?_eq_getElem (by omega)] at e
           exact ⟨_,e⟩) (by omega)
         rw [List.drop_zero,List.take_of_length_le (by omega)] at this
         exact this
       · cases h
     · cases h
   · cases h
theorem open_struct {r:Reach} {b0:Nat} {t:TypeId} {fs:Array Field} {n:Nat} {ks:List Lf} {v:Value} {d:DataW H} {p:List MemPlace} (hs:P.underlying t=some (.struct fs)) (hk:ksOf P n t=some ks)
   (hv:Value.okWide P W r b0 t v) (h:DataW.Trod enc P W base spare held t v d p):∃ cs,v=.agg ⟨cs⟩∧LfsOk ks cs:=by
 obtain ⟨cs,rfl,_⟩:=okWide_struct hs hv
 obtain ⟨fuel,hf⟩:=h
 obtain ⟨cs⟩:=cs
 exact ⟨cs,rfl,ksOf_ok hk hf⟩
theorem open_rows {r:Reach} {b0:Nat} {t e:TypeId} {n:Nat} {ks:List Lf} {v:Value} {d:DataW H} {p:List MemPlace} (hs:P.underlying t=some (.slice e)) (hk:ksOf P n e=some ks) (hc:P.cellsOf e=ks.length) (hpos:0<ks.length)
   (hv:Value.okWide P W r b0 t v) (h:DataW.Trod enc P W 0 (fun _=>true) held t v d p) :
   ∃ (A:Option Addr) (m c:Nat) (rows:List (List Value)),v=.slice A m c∧RdS W ks.length A m rows∧∀ x∈rows,LfsOk ks x:=by
 obtain ⟨A,m,c,rfl⟩:=okWide_slice hs hv
 obtain ⟨fuel,hf⟩:=h
 refine ⟨A,m,c,?_⟩
 rcases Go.Deep.open_slice hs hf with ⟨h1,_⟩|⟨a,len,cap,m',k,D,Pl,h1,_,hlc,_,hm,_,hi⟩
 · simp only [Value.cells,List.cons.injEq,Value.slice.injEq,and_true] at h1
   obtain ⟨rfl,rfl,rfl⟩:=h1
   exact ⟨[],rfl,RdS.nil _ _ _,fun x hx=>(List.not_mem_nil hx).elim⟩
 · simp only [Value.cells,List.cons.injEq,Value.slice.injEq,and_true] at h1
   obtain ⟨rfl,rfl,rfl⟩:=h1
   simp only [if_true] at hm
   subst hm
   rw [hc] at hi
   have key:∀ i,i<m→∃ y:List Value,LfsOk ks y∧∀ j u,y[j]?=some u→W.cell? ((a.add (i*ks.length)).add j)=some u:=fun i hin=>by
     obtain ⟨cs,hc,ht⟩:=hi i (by omega)
     obtain ⟨_,hlc,hat⟩:=World.cells?_some hc
     exact ⟨cs,ksOf_ok hk ht,fun j u hu=>by rw [hat j (by rw [← hlc];exact (List.getElem?_eq_some_iff.1 hu).1)];exact hu⟩
   let f:Nat→List Value:=fun i=>if h:i<m then Classical.choose (key i h) else []
   have hfk:∀ i,i<m→LfsOk ks (f i)∧∀ j u,(f i)[j]?=some u→W.cell? ((a.add (i*ks.length)).add j)=some u:=fun i hin=>by
     simp only [f,dif_pos hin]
     exact Classical.choose_spec (key i hin)
   have hmem:∀ x∈(List.range m).map f,LfsOk ks x:=fun x hx=>by
     obtain ⟨i,hi,rfl⟩:=List.mem_map.1 hx
     exact (hfk i (List.mem_range.1 hi)).1
   refine ⟨(List.range m).map f,rfl,⟨by simp,fun h0=>?_⟩,hmem⟩
   have l0:=(hfk 0 h0).1.len
   have c0:=(hfk 0 h0).2 0 _ (List.getElem?_eq_getElem (by omega))
   obtain ⟨b,o,sp⟩:=a
   have hsp:sp=none:=by simpa [Addr.add] using World.cell?_spot c0
   subst hsp
   refine ⟨b,o,rfl,by simpa [Addr.add] using cell_lt c0,fun i x hx=>⟨(hmem x (List.mem_of_getElem? hx)).len,fun j u hu=>?_⟩⟩
   rw [List.getElem?_map,Option.map_eq_some_iff] at hx
   obtain ⟨i',h2,rfl⟩:=hx
   obtain ⟨h3,h4⟩:=List.getElem?_eq_some_iff.1 h2
   simp only [List.getElem_range,List.length_range] at h3 h4
   subst h4
   have:=(hfk i h3).2 j u hu
   rw [add_eq,add_eq] at this
   exact this
end
theorem rows_ofP {α:Type} {f:α→List Value} {p:α→Prop}:∀ {rows:List (List Value)},(∀ x∈rows,∃ y,x=f y∧p y)→∃ l:List α,rows=l.map f∧∀ y∈l,p y
 | [],_=>⟨[],rfl,fun y hy=>(List.not_mem_nil hy).elim⟩
 | x::rows,h=>by
   obtain ⟨y,rfl,hy⟩:=h x (List.mem_cons_self ..)
   obtain ⟨l,rfl,hl⟩:=rows_ofP (fun z hz=>h z (List.mem_cons_of_mem _ hz))
   exact ⟨y::l,rfl,fun z hz=>by rcases List.mem_cons.1 hz with rfl|hz;exact hy;exact hl z hz⟩
theorem Try.own:ownKnob Try.prog.godebug=none:=by kernel_rfl
theorem Try.laidOut:laidOutB Try.prog=true:=by kernel_rfl
section
variable {H:Type} {enc:TypeId×Value→H} {P:Program}
theorem trodAll_ext (hl:laidOutB P=true) {W W':World} (hb:Ext W W'):∀ {ts:List TypeId} {vs:List Value} {ds:List (DataW H)} {p:List MemPlace},(ts.all fun t=>P.readableRec t && decide (t<P.types.size))=true →
   DataW.TrodAll enc P W 0 (fun _=>true) true ts vs ds p→(∀ x∈p,x.block<W.heap.size)→DataW.TrodAll enc P W' 0 (fun b=>decide (b<W.heap.size)) true ts vs ds p
 | [],vs,ds,p,_,h,_=>by
   obtain ⟨rfl,rfl,rfl⟩:=trodAll_nil h
   exact trodAll_mk0
 | t::ts,vs,ds,p,ht,h,hlt=>by
   obtain ⟨v,vs',d,ds',p0,q0,rfl,rfl,rfl,h1,h2⟩:=trodAll_cons h
   simp only [List.all_cons,Bool.and_eq_true,decide_eq_true_eq] at ht
   exact ⟨p0,q0,Below.trod hl ht.1.1 ht.1.2 h1 hb (fun x hx=>hlt x (List.mem_append_left _ hx)),trodAll_ext hl hb ht.2 h2 (fun x hx=>hlt x (List.mem_append_right _ hx)),rfl⟩
end
end Go.Proofs.Ytcjkndjjbjoehaa
