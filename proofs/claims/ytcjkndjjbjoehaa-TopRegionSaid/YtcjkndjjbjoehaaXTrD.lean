/- A part of the proof: rules for walks, and contracts of functions (4). -/
import Derived.Test.YtcjkndjjbjoehaaXTrC
import Derived.Test.YtcjkndjjbjoehaaXTrB
set_option linter.unusedVariables false
set_option linter.unusedSimpArgs false
set_option maxRecDepth 100000
set_option maxHeartbeats 2000000
namespace Go.Proofs.Ytcjkndjjbjoehaa
open Go.RowKit
attribute [local irreducible] OQ OS OX Rd T TL GX GL AL AI RV wpG SAny Calls
theorem part_M {α:Type} {fx fy:α→Int} {lt:α→α→Bool} {kf:Nat} (hw:Wo lt) (HK:CmpOk fx fy lt kf) (g cp n a b pv:Nat) (Z:List α) (p:α) (w:World) (hH:Has w ⟨[g],[]⟩ [(g,coB fx fy (Z),some (111,2,cp))] w) (hn:Z.length=n) (hn1:n≤1000000) (hab:a<b) (hb:b≤n) (hpv:a≤pv∧pv<b) (hp:Z[pv]?=some p) :
   Calls Try.prog 203 #[.slice (some ⟨g,0,none⟩) n cp,.int .i64 ((a:Nat):Int),.int .i64 ((b:Nat):Int),.int .i64 ((pv:Nat):Int),.func (.func kf) #[] #[]] w fun e w'=>∃ v H1,e=.returned v∧(∃ (m:Nat) (f:Bool) (W:List α),v=.tuple #[.int .i64 ((m:Nat):Int),.bool f]∧PF lt p a m b W∧Sg a b Z W∧H1=[(g,coB fx fy (W),some (111,2,cp))])∧Has w ⟨[g],[]⟩ H1 w':=by
 obtain ⟨z,hz⟩:∃ x,Z[a]?=some x:=⟨_,List.getElem?_eq_getElem (by omega)⟩
 have hz2:=swp_get hz hp
 obtain ⟨q0,q1⟩:=co_at (fx:=fx) (fy:=fy) hz
 obtain ⟨r0,r1⟩:=co_at (fx:=fx) (fy:=fy) hp
 have hs:Sg a b Z ((Z.set a p).set pv z):=(Sg.refl (by omega) (by omega)).swap hz hp (by omega) (by omega)
 obtain ⟨Y,hY0⟩:∃ Y,(Z.set a p).set pv z=Y:=⟨_,rfl⟩
 have hd0:Y[a]?=some p:=by
   rw [← hY0]
   by_cases e:a=pv
   · subst e
     rw [hz] at hp
     obtain rfl:=Option.some.inj hp
     rw [List.set_set,List.getElem?_set_self (List.getElem?_eq_some_iff.1 hz).1]
   · rw [List.getElem?_set_ne (Ne.symm e),List.getElem?_set_self (List.getElem?_eq_some_iff.1 hz).1]
 rw [hY0] at hs
 refine enterM (c:=cxM [g] w 178) Try.func203 rfl rfl rfl hH ?_
 refine t_cut (ι:=Unit) (fun _=>[(0,.slice (some ⟨g,0,none⟩) n cp),(1,.int .i64 ((a:Nat):Int)),(2,.int .i64 ((b:Nat):Int)),(3,.int .i64 ((pv:Nat):Int)),(4,.func (.func kf) #[] #[])]) (fun _=>[(g,coB fx fy (Z),some (111,2,cp))]) (fun _=>True) ?_ ?_
 · repeat' (first|((with_reducible apply oq_id);first|(apply oq_fn;exact rfl;first|exact trivial|(and_intros<;>omega)|omega|skip))|((with_reducible apply tl_id);first|(with_reducible apply tl_nil)|((with_reducible apply u_q);(iterate 4 exact rfl)))|((with_reducible apply t_id);first|(apply t_region;kernel_rfl)))
   all_goals exact ⟨by trivial,(),trivial,by (repeat' (first|exact FrSub.nil|(apply FrSub.cons;exact rfl))),by (repeat' (first|exact HpSub.refl _))⟩
 rintro ⟨⟩ -
 try dsimp only
 refine t_cut (ι:=Unit) (fun _=>[(0,.slice (some ⟨g,0,none⟩) n cp),(1,.int .i64 ((a:Nat):Int)),(2,.int .i64 ((b:Nat):Int)),(3,.int .i64 ((pv:Nat):Int)),(4,.func (.func kf) #[] #[])]) (fun _=>[(g,coB fx fy (Y),some (111,2,cp))]) (fun _=>True) ?_ ?_
 · repeat' (first|((with_reducible apply oq_id);first|(focus ((with_reducible apply oq_indexAddrN);(iterate 4 exact rfl);omega))|(apply oq_fn;exact rfl;first|exact trivial|(and_intros<;>omega)|omega|skip)|((with_reducible apply oq_loadAgg);exact rfl;exact rfl))|((with_reducible apply gx_id);first|(with_reducible apply v_nil)|((with_reducible apply v_q);(iterate 3 exact rfl)))|((with_reducible apply os_id);first|((with_reducible apply (os_storeCo (fx:=fx) (fy:=fy) p hz rfl));(iterate 3 exact rfl);(repeat first|exact P0|apply P1))|((with_reducible apply (os_storeCo (fx:=fx) (fy:=fy) z hz2 hY0));(iterate 3 exact rfl);(repeat first|exact P0|apply P1)))|((with_reducible apply ai_id);first|((with_reducible apply ai_q);(iterate 5 exact rfl))|((with_reducible apply ai_n0);(iterate 3 exact rfl)))|((with_reducible apply al_keep);focus (repeat (first|exact HpSub.refl _|(apply HpSub.cons;(repeat first|exact P0|apply P1))|apply HpSub.skipX|exact HpSub.nil)))|((with_reducible apply rd_id);first|(apply Rd.own;(repeat first|exact P0|apply P1);with_reducible (first|exact q0|exact q1|exact r0|exact r1|exact s0|exact s1);done))|((with_reducible apply t_id);first|(apply t_mixZ (id:=1) [0,1,2,3,4,5,6,8,9,10] 6;kernel_rfl;kernel_rfl;exact rfl))|exact Rdn.zero|apply Rdn.succ|((with_reducible apply al_id);first|(apply al_done;decide +kernel)|(apply al_one 7;decide +kernel)|(apply al_one 11;decide +kernel)|(apply al_one 12;decide +kernel)|(apply al_one 13;decide +kernel)|(apply al_one 14;decide +kernel)|(apply al_one 15;decide +kernel)|(apply al_two 7 11;decide +kernel)))
   all_goals exact ⟨by trivial,(),trivial,by (repeat' (first|exact FrSub.nil|(apply FrSub.cons;exact rfl))),by (repeat' (first|exact HpSub.refl _))⟩
 rintro ⟨⟩ -
 try dsimp only
 clear q0 q1 r0 r1
 refine t_cut (ι:=Unit) (fun _=>[(0,.slice (some ⟨g,0,none⟩) n cp),(1,.int .i64 ((a:Nat):Int)),(2,.int .i64 ((b:Nat):Int)),(4,.func (.func kf) #[] #[]),(12,.int .i64 (((a+1):Nat):Int)),(13,.int .i64 (((b-1):Nat):Int))]) (fun _=>[(g,coB fx fy (Y),some (111,2,cp))]) (fun _=>True) ?_ ?_
 · repeat' (first|((with_reducible apply oq_id);first|(focus ((with_reducible apply (oq_addE (k:=((a+1:Nat):Int))));exact rfl;exact rfl;omega))|(focus ((with_reducible apply (oq_subE (k:=((b-1:Nat):Int))));exact rfl;exact rfl;omega))|(apply oq_fn;exact rfl;first|exact trivial|(and_intros<;>omega)|omega|skip))|((with_reducible apply tl_id);first|(with_reducible apply tl_nil)|((with_reducible apply u_q);(iterate 4 exact rfl)))|((with_reducible apply t_id);first|(apply t_region;kernel_rfl)))
   all_goals exact ⟨by trivial,(),trivial,by (repeat' (first|exact FrSub.nil|(apply FrSub.cons;exact rfl))),by (repeat' (first|exact HpSub.refl _))⟩
 rintro ⟨⟩ -
 try dsimp only
 have hq:PI lt p a (a+1) (b-1) b Y:=⟨hd0,fun k x h1 h2=>absurd h2 (by omega),fun k x h1 h2=>absurd h2 (by omega),Nat.le_refl _,by omega,by omega⟩
 clear hd0 hY0 hz2
 have hYl:=hs.len
 obtain ⟨i,hi⟩:∃ i,a+1=i:=⟨_,rfl⟩
 obtain ⟨j,hj⟩:∃ j,b-1=j:=⟨_,rfl⟩
 rw [hi,hj] at hq
 rw [hi,hj]
 refine t_cut (ι:=Nat) (fun i'=>[(0,.slice (some ⟨g,0,none⟩) n cp),(1,.int .i64 ((a:Nat):Int)),(2,.int .i64 ((b:Nat):Int)),(4,.func (.func kf) #[] #[]),(12,.int .i64 ((i':Nat):Int)),(13,.int .i64 ((j:Nat):Int))]) (fun _=>[(g,coB fx fy (Y),some (111,2,cp))]) (fun i'=>i≤i'∧PI lt p a i' j b Y∧(i'≤j→∃ x,Y[i']?=some x∧lt x p=false)) ?_ ?_
 · repeat' (first|((with_reducible apply t_id);first|(with_reducible apply t_block)))
   apply t_loopP (ι:=Nat) [0,1,2,4,13] (fun i'=>[(12,.int .i64 ((i':Nat):Int))]) (fun _=>[(g,coB fx fy (Y),some (111,2,cp))]) (fun i'=>i≤i'∧PI lt p a i' j b Y) (fun i'=>j+1-i') (i)
   (repeat (first|exact KeepF.nil|(apply KeepF.cons;exact rfl)|apply KeepF.skip))
   (repeat first|exact FrSub.nil|(apply FrSub.cons;exact rfl))
   (try simp only [List.cons_append,List.nil_append])
   (repeat' (first|exact HpSub.refl _))
   · exact ⟨Nat.le_refl _,hq⟩
   rintro i' ⟨hv,hq⟩
   try simp only [List.cons_append,List.nil_append]
   have i1:=hq.i1
   have ij:=hq.ij
   have jb:=hq.jb
   by_cases hle:i'≤j
   rotate_left
   · repeat' (first|((with_reducible apply oq_id);first|((with_reducible apply oq_leqF);exact rfl;exact rfl;omega)|(apply oq_fn;exact rfl;first|exact trivial|(and_intros<;>omega)|omega|skip))|((with_reducible apply gx_id);first|(with_reducible apply v_nil)|((with_reducible apply v_q);(iterate 3 exact rfl))|((with_reducible apply v_skip);(iterate 3 exact rfl)))|((with_reducible apply t_id);first|(apply t_mix (id:=3) [0,1,2,3,4,5,6,7,8,9,10,11,12,13,14,15] 0 #[false,false,false,false,false,false,false,false,false,false,false,false,false,false,false,false];kernel_rfl;kernel_rfl;exact rfl)|(with_reducible apply t_seq)|((with_reducible apply t_condF);exact rfl)|(with_reducible apply t_exit))|with_reducible apply q_thenN|with_reducible apply q_thenE|((with_reducible apply q_blockE);exact rfl)|((with_reducible apply al_id);first|(apply al_done;decide +kernel)))
     all_goals exact ⟨by trivial,i',⟨hv,hq,fun h=>absurd h hle⟩,by (repeat' (first|exact FrSub.nil|(apply FrSub.cons;exact rfl))),by (repeat' (first|exact HpSub.refl _))⟩
   obtain ⟨x,hx⟩:∃ x,Y[i']?=some x:=⟨_,List.getElem?_eq_getElem (by omega)⟩
   obtain ⟨q0,q1⟩:=co_at (fx:=fx) (fy:=fy) hx
   obtain ⟨r0,r1⟩:=co_at (fx:=fx) (fy:=fy) hq.hd
   obtain ⟨o,HC,ho⟩:=HK.cmp x p
   by_cases HN:o<0
   · have hl:lt x p=true:=ho.1 HN
     repeat' (first|((with_reducible apply oq_id);first|((with_reducible apply oq_lssT);exact rfl;exact rfl;exact HN)|(focus ((with_reducible apply oq_indexAddrN);(iterate 4 exact rfl);omega))|(focus ((with_reducible apply (oq_addE (k:=((i'+1:Nat):Int))));exact rfl;exact rfl;omega))|((with_reducible apply oq_leqT);exact rfl;exact rfl;omega)|(apply oq_fn;exact rfl;first|exact trivial|(and_intros<;>omega)|omega|skip)|((with_reducible apply oq_loadAgg);exact rfl;exact rfl)|((with_reducible apply oq_call (k:=kf) (hc:=HK.call));exact rfl;exact rfl;exact fun D w1 hw1=>HC w1))|((with_reducible apply tl_id);first|(with_reducible apply tl_nil)|((with_reducible apply u_q);(iterate 4 exact rfl)))|((with_reducible apply gx_id);first|(with_reducible apply v_nil)|((with_reducible apply v_q);(iterate 3 exact rfl)))|((with_reducible apply rd_id);first|(apply Rd.own;(repeat first|exact P0|apply P1);with_reducible (first|exact q0|exact q1|exact r0|exact r1|exact s0|exact s1);done))|((with_reducible apply t_id);first|(apply t_mix (id:=3) [0,1,2,3,4,5,6,7,8,9,10,11,12,13,14,15] 0 #[false,false,false,false,false,false,false,false,false,false,false,false,false,false,false,false];kernel_rfl;kernel_rfl;exact rfl)|(with_reducible apply t_seq)|(apply t_region;kernel_rfl)|((with_reducible apply t_condT);exact rfl)|(with_reducible apply t_skip)|(with_reducible apply t_block))|with_reducible apply q_thenN|with_reducible apply q_blockN|exact Rdn.zero|apply Rdn.succ|((with_reducible apply al_id);first|(apply al_done;decide +kernel)))
     all_goals (refine ⟨i'+1,⟨by omega,hq.inc hle hx hl⟩,by omega,?_,?_⟩<;>(repeat' (first|exact FrSub.nil|(apply FrSub.cons;exact rfl)|exact HpSub.refl _)))
   · have hl:lt x p=false:=by
       cases hc:lt x p with
       | false=>rfl
       | true=>exact absurd (ho.2 hc) HN
     repeat' (first|((with_reducible apply oq_id);first|((with_reducible apply oq_lssF);exact rfl;exact rfl;exact HN)|(focus ((with_reducible apply oq_indexAddrN);(iterate 4 exact rfl);omega))|((with_reducible apply oq_leqT);exact rfl;exact rfl;omega)|(apply oq_fn;exact rfl;first|exact trivial|(and_intros<;>omega)|omega|skip)|((with_reducible apply oq_loadAgg);exact rfl;exact rfl)|((with_reducible apply oq_call (k:=kf) (hc:=HK.call));exact rfl;exact rfl;exact fun D w1 hw1=>HC w1))|((with_reducible apply gx_id);first|(with_reducible apply v_nil)|((with_reducible apply v_q);(iterate 3 exact rfl)))|((with_reducible apply rd_id);first|(apply Rd.own;(repeat first|exact P0|apply P1);with_reducible (first|exact q0|exact q1|exact r0|exact r1|exact s0|exact s1);done))|((with_reducible apply t_id);first|(apply t_mix (id:=3) [0,1,2,3,4,5,6,7,8,9,10,11,12,13,14,15] 0 #[false,false,false,false,false,false,false,false,false,false,false,false,false,false,false,false];kernel_rfl;kernel_rfl;exact rfl)|(with_reducible apply t_seq)|((with_reducible apply t_condF);exact rfl)|(with_reducible apply t_exit))|with_reducible apply q_thenN|with_reducible apply q_thenE|((with_reducible apply q_blockE);exact rfl)|exact Rdn.zero|apply Rdn.succ|((with_reducible apply al_id);first|(apply al_done;decide +kernel)))
     all_goals exact ⟨by trivial,i',⟨hv,hq,fun _=>⟨x,hx,hl⟩⟩,by (repeat' (first|exact FrSub.nil|(apply FrSub.cons;exact rfl))),by (repeat' (first|exact HpSub.refl _))⟩
 clear hq
 rintro i' ⟨hi,hq,hfi⟩
 try dsimp only
 refine t_cut (ι:=Nat) (fun j'=>[(0,.slice (some ⟨g,0,none⟩) n cp),(1,.int .i64 ((a:Nat):Int)),(2,.int .i64 ((b:Nat):Int)),(4,.func (.func kf) #[] #[]),(12,.int .i64 ((i':Nat):Int)),(13,.int .i64 ((j':Nat):Int))]) (fun _=>[(g,coB fx fy (Y),some (111,2,cp))]) (fun j'=>j'≤j∧PI lt p a i' j' b Y∧(i'≤j'→∃ x,Y[j']?=some x∧lt x p=true)) ?_ ?_
 · repeat' (first|((with_reducible apply t_id);first|(with_reducible apply t_block)))
   apply t_loopP (ι:=Nat) [0,1,2,4,12] (fun j'=>[(13,.int .i64 ((j':Nat):Int))]) (fun _=>[(g,coB fx fy (Y),some (111,2,cp))]) (fun j'=>j'≤j∧PI lt p a i' j' b Y) (fun j'=>j') (j)
   (repeat (first|exact KeepF.nil|(apply KeepF.cons;exact rfl)|apply KeepF.skip))
   (repeat first|exact FrSub.nil|(apply FrSub.cons;exact rfl))
   (try simp only [List.cons_append,List.nil_append])
   (repeat' (first|exact HpSub.refl _))
   · exact ⟨Nat.le_refl _,hq⟩
   rintro j' ⟨hv,hq⟩
   try simp only [List.cons_append,List.nil_append]
   have i1:=hq.i1
   have ij:=hq.ij
   have jb:=hq.jb
   by_cases hle:i'≤j'
   rotate_left
   · repeat' (first|((with_reducible apply oq_id);first|((with_reducible apply oq_leqF);exact rfl;exact rfl;omega)|(apply oq_fn;exact rfl;first|exact trivial|(and_intros<;>omega)|omega|skip))|((with_reducible apply gx_id);first|(with_reducible apply v_nil)|((with_reducible apply v_q);(iterate 3 exact rfl))|((with_reducible apply v_skip);(iterate 3 exact rfl)))|((with_reducible apply t_id);first|(apply t_mix (id:=5) [0,1,2,3,4,5,6,7,8,9,10,11,12,13,14,15,16] 0 #[false,false,false,false,false,false,false,false,false,false,false,false,false,false,false,false,false];kernel_rfl;kernel_rfl;exact rfl)|(with_reducible apply t_seq)|((with_reducible apply t_condF);exact rfl)|(with_reducible apply t_exit))|with_reducible apply q_thenN|with_reducible apply q_thenE|((with_reducible apply q_blockE);exact rfl)|((with_reducible apply al_id);first|(apply al_done;decide +kernel)))
     all_goals exact ⟨by trivial,j',⟨hv,hq,fun h=>absurd h hle⟩,by (repeat' (first|exact FrSub.nil|(apply FrSub.cons;exact rfl))),by (repeat' (first|exact HpSub.refl _))⟩
   obtain ⟨x,hx⟩:∃ x,Y[j']?=some x:=⟨_,List.getElem?_eq_getElem (by omega)⟩
   obtain ⟨q0,q1⟩:=co_at (fx:=fx) (fy:=fy) hx
   obtain ⟨r0,r1⟩:=co_at (fx:=fx) (fy:=fy) hq.hd
   obtain ⟨o,HC,ho⟩:=HK.cmp x p
   by_cases HN:o<0
   · have hl:lt x p=true:=ho.1 HN
     repeat' (first|((with_reducible apply oq_id);first|((with_reducible apply oq_lssT);exact rfl;exact rfl;exact HN)|(focus ((with_reducible apply oq_indexAddrN);(iterate 4 exact rfl);omega))|((with_reducible apply oq_leqT);exact rfl;exact rfl;omega)|(apply oq_fn;exact rfl;first|exact trivial|(and_intros<;>omega)|omega|skip)|((with_reducible apply oq_loadAgg);exact rfl;exact rfl)|((with_reducible apply oq_call (k:=kf) (hc:=HK.call));exact rfl;exact rfl;exact fun D w1 hw1=>HC w1))|((with_reducible apply gx_id);first|(with_reducible apply v_nil)|((with_reducible apply v_q);(iterate 3 exact rfl)))|((with_reducible apply rd_id);first|(apply Rd.own;(repeat first|exact P0|apply P1);with_reducible (first|exact q0|exact q1|exact r0|exact r1|exact s0|exact s1);done))|((with_reducible apply t_id);first|(apply t_mix (id:=5) [0,1,2,3,4,5,6,7,8,9,10,11,12,13,14,15,16] 0 #[false,false,false,false,false,false,false,false,false,false,false,false,false,false,false,false,false];kernel_rfl;kernel_rfl;exact rfl)|(with_reducible apply t_seq)|((with_reducible apply t_condF);exact rfl)|(with_reducible apply t_exit))|with_reducible apply q_thenN|with_reducible apply q_thenE|((with_reducible apply q_blockE);exact rfl)|exact Rdn.zero|apply Rdn.succ|((with_reducible apply al_id);first|(apply al_done;decide +kernel)))
     all_goals exact ⟨by trivial,j',⟨hv,hq,fun _=>⟨x,hx,hl⟩⟩,by (repeat' (first|exact FrSub.nil|(apply FrSub.cons;exact rfl))),by (repeat' (first|exact HpSub.refl _))⟩
   · have hl:lt x p=false:=by
       cases hc:lt x p with
       | false=>rfl
       | true=>exact absurd (ho.2 hc) HN
     repeat' (first|((with_reducible apply oq_id);first|((with_reducible apply oq_lssF);exact rfl;exact rfl;exact HN)|(focus ((with_reducible apply oq_indexAddrN);(iterate 4 exact rfl);omega))|(focus ((with_reducible apply (oq_subE (k:=((j'-1:Nat):Int))));exact rfl;exact rfl;omega))|((with_reducible apply oq_leqT);exact rfl;exact rfl;omega)|(apply oq_fn;exact rfl;first|exact trivial|(and_intros<;>omega)|omega|skip)|((with_reducible apply oq_loadAgg);exact rfl;exact rfl)|((with_reducible apply oq_call (k:=kf) (hc:=HK.call));exact rfl;exact rfl;exact fun D w1 hw1=>HC w1))|((with_reducible apply tl_id);first|(with_reducible apply tl_nil)|((with_reducible apply u_q);(iterate 4 exact rfl)))|((with_reducible apply gx_id);first|(with_reducible apply v_nil)|((with_reducible apply v_q);(iterate 3 exact rfl)))|((with_reducible apply rd_id);first|(apply Rd.own;(repeat first|exact P0|apply P1);with_reducible (first|exact q0|exact q1|exact r0|exact r1|exact s0|exact s1);done))|((with_reducible apply t_id);first|(apply t_mix (id:=5) [0,1,2,3,4,5,6,7,8,9,10,11,12,13,14,15,16] 0 #[false,false,false,false,false,false,false,false,false,false,false,false,false,false,false,false,false];kernel_rfl;kernel_rfl;exact rfl)|(with_reducible apply t_seq)|(apply t_region;kernel_rfl)|((with_reducible apply t_condT);exact rfl)|(with_reducible apply t_skip)|(with_reducible apply t_block))|with_reducible apply q_thenN|with_reducible apply q_blockN|exact Rdn.zero|apply Rdn.succ|((with_reducible apply al_id);first|(apply al_done;decide +kernel)))
     all_goals (refine ⟨j'-1,⟨by omega,hq.dec hle hx hl⟩,by omega,?_,?_⟩<;>(repeat' (first|exact FrSub.nil|(apply FrSub.cons;exact rfl)|exact HpSub.refl _)))
 clear hq
 rintro j' ⟨hj,hq,hfj⟩
 try dsimp only
 have i1:=hq.i1
 have ij:=hq.ij
 have jb:=hq.jb
 by_cases hgt:j'<i'
 · obtain ⟨z,hz⟩:∃ x,Y[j']?=some x:=⟨_,List.getElem?_eq_getElem (by omega)⟩
   have hz2:=swp_get hz hq.hd
   obtain ⟨q0,q1⟩:=co_at (fx:=fx) (fy:=fy) hz
   obtain ⟨r0,r1⟩:=co_at (fx:=fx) (fy:=fy) hq.hd
   have hpf:=hq.done hgt hz
   have hs2:=hs.swap hz hq.hd (by omega) (by omega)
   repeat' (first|((with_reducible apply oq_id);first|(focus ((with_reducible apply oq_indexAddrN);(iterate 4 exact rfl);omega))|((with_reducible apply oq_gtrT);exact rfl;exact rfl;omega)|(apply oq_fn;exact rfl;first|exact trivial|(and_intros<;>omega)|omega|skip)|((with_reducible apply oq_loadAgg);exact rfl;exact rfl))|((with_reducible apply tl_id);first|(with_reducible apply tl_nil)|((with_reducible apply u_q);(iterate 4 exact rfl)))|((with_reducible apply gx_id);first|(with_reducible apply v_nil)|((with_reducible apply v_q);(iterate 3 exact rfl)))|((with_reducible apply os_id);first|((with_reducible apply (os_storeCo (fx:=fx) (fy:=fy) p hz rfl));(iterate 3 exact rfl);(repeat first|exact P0|apply P1))|((with_reducible apply (os_storeCo (fx:=fx) (fy:=fy) z hz2 rfl));(iterate 3 exact rfl);(repeat first|exact P0|apply P1)))|((with_reducible apply ai_id);first|((with_reducible apply ai_q);(iterate 5 exact rfl))|((with_reducible apply ai_n0);(iterate 3 exact rfl)))|((with_reducible apply al_keep);focus (repeat (first|exact HpSub.refl _|(apply HpSub.cons;(repeat first|exact P0|apply P1))|apply HpSub.skipX|exact HpSub.nil)))|((with_reducible apply rd_id);first|(apply Rd.own;(repeat first|exact P0|apply P1);with_reducible (first|exact q0|exact q1|exact r0|exact r1|exact s0|exact s1);done))|((with_reducible apply t_id);first|(apply t_mixZ (id:=8) [0,1,2,3,4,5,6,8,9,10] 6;kernel_rfl;kernel_rfl;exact rfl)|(with_reducible apply t_seq)|(apply t_region;kernel_rfl)|((with_reducible apply t_condT);exact rfl)|(with_reducible apply t_ret))|with_reducible apply q_thenN|with_reducible apply q_thenR|exact Rdn.zero|apply Rdn.succ|(with_reducible apply end_ret)|exact rvs_nil|(with_reducible apply rvs_cons)|((with_reducible apply rv_tmp);exact rfl)|((with_reducible apply al_id);first|(apply al_done;decide +kernel)|(apply al_one 7;decide +kernel)|(apply al_one 11;decide +kernel)|(apply al_one 12;decide +kernel)|(apply al_one 13;decide +kernel)|(apply al_one 14;decide +kernel)|(apply al_one 15;decide +kernel)|(apply al_two 7 11;decide +kernel)))
   all_goals exact ⟨_,⟨j',true,_,rfl,hpf,hs2,rfl⟩,HpSub.w (by (repeat (first|exact HpSub.refl _|(apply HpSub.consE;(repeat first|exact P0|apply P1);exact rfl)|apply HpSub.skipX|exact HpSub.nil)))⟩
 obtain ⟨x,hx,hxl⟩:∃ x,Y[i']?=some x∧lt x p=false:=hfi (by omega)
 obtain ⟨y,hy,hyl⟩:=hfj (by omega)
 obtain ⟨hij,hsw⟩:=hq.swap (by omega) hx hxl hy hyl
 have hy2:=swp_get hx hy
 obtain ⟨q0,q1⟩:=co_at (fx:=fx) (fy:=fy) hx
 obtain ⟨r0,r1⟩:=co_at (fx:=fx) (fy:=fy) hy
 refine t_cut (ι:=Unit) (fun _=>[(0,.slice (some ⟨g,0,none⟩) n cp),(1,.int .i64 ((a:Nat):Int)),(2,.int .i64 ((b:Nat):Int)),(4,.func (.func kf) #[] #[]),(12,.int .i64 ((i':Nat):Int)),(13,.int .i64 ((j':Nat):Int))]) (fun _=>[(g,coB fx fy (Y),some (111,2,cp))]) (fun _=>True) ?_ ?_
 · repeat' (first|((with_reducible apply oq_id);first|((with_reducible apply oq_gtrF);exact rfl;exact rfl;omega)|(apply oq_fn;exact rfl;first|exact trivial|(and_intros<;>omega)|omega|skip))|((with_reducible apply tl_id);first|(with_reducible apply tl_nil)|((with_reducible apply u_q);(iterate 4 exact rfl)))|((with_reducible apply t_id);first|(with_reducible apply t_seq)|(apply t_region;kernel_rfl)|((with_reducible apply t_condF);exact rfl)|(with_reducible apply t_skip))|with_reducible apply q_thenN)
   all_goals exact ⟨by trivial,(),trivial,by (repeat' (first|exact FrSub.nil|(apply FrSub.cons;exact rfl))),by (repeat' (first|exact HpSub.refl _))⟩
 rintro ⟨⟩ -
 try dsimp only
 refine t_cut (ι:=Unit) (fun _=>[(0,.slice (some ⟨g,0,none⟩) n cp),(1,.int .i64 ((a:Nat):Int)),(2,.int .i64 ((b:Nat):Int)),(4,.func (.func kf) #[] #[]),(12,.int .i64 ((i':Nat):Int)),(13,.int .i64 ((j':Nat):Int))]) (fun _=>[(g,coB fx fy ((Y.set i' y).set j' x),some (111,2,cp))]) (fun _=>True) ?_ ?_
 · repeat' (first|((with_reducible apply oq_id);first|(focus ((with_reducible apply oq_indexAddrN);(iterate 4 exact rfl);omega))|(apply oq_fn;exact rfl;first|exact trivial|(and_intros<;>omega)|omega|skip)|((with_reducible apply oq_loadAgg);exact rfl;exact rfl))|((with_reducible apply gx_id);first|(with_reducible apply v_nil)|((with_reducible apply v_q);(iterate 3 exact rfl)))|((with_reducible apply os_id);first|((with_reducible apply (os_storeCo (fx:=fx) (fy:=fy) y hx rfl));(iterate 3 exact rfl);(repeat first|exact P0|apply P1))|((with_reducible apply (os_storeCo (fx:=fx) (fy:=fy) x hy2 rfl));(iterate 3 exact rfl);(repeat first|exact P0|apply P1)))|((with_reducible apply ai_id);first|((with_reducible apply ai_q);(iterate 5 exact rfl))|((with_reducible apply ai_n0);(iterate 3 exact rfl)))|((with_reducible apply al_keep);focus (repeat (first|exact HpSub.refl _|(apply HpSub.cons;(repeat first|exact P0|apply P1))|apply HpSub.skipX|exact HpSub.nil)))|((with_reducible apply rd_id);first|(apply Rd.own;(repeat first|exact P0|apply P1);with_reducible (first|exact q0|exact q1|exact r0|exact r1|exact s0|exact s1);done))|((with_reducible apply t_id);first|(apply t_mixZ (id:=10) [0,1,2,3,4,5,6,8,9,10] 6;kernel_rfl;kernel_rfl;exact rfl))|exact Rdn.zero|apply Rdn.succ|((with_reducible apply al_id);first|(apply al_done;decide +kernel)|(apply al_one 7;decide +kernel)|(apply al_one 11;decide +kernel)|(apply al_one 12;decide +kernel)|(apply al_one 13;decide +kernel)|(apply al_one 14;decide +kernel)|(apply al_one 15;decide +kernel)|(apply al_two 7 11;decide +kernel)))
   all_goals exact ⟨by trivial,(),trivial,by (repeat' (first|exact FrSub.nil|(apply FrSub.cons;exact rfl))),by (repeat' (first|exact HpSub.refl _))⟩
 rintro ⟨⟩ -
 try dsimp only
 refine t_cut (ι:=Unit) (fun _=>[(0,.slice (some ⟨g,0,none⟩) n cp),(1,.int .i64 ((a:Nat):Int)),(2,.int .i64 ((b:Nat):Int)),(4,.func (.func kf) #[] #[]),(12,.int .i64 (((i'+1):Nat):Int)),(13,.int .i64 ((j':Nat):Int))]) (fun _=>[(g,coB fx fy ((Y.set i' y).set j' x),some (111,2,cp))]) (fun _=>True) ?_ ?_
 · repeat' (first|((with_reducible apply oq_id);first|(focus ((with_reducible apply (oq_addE (k:=((i'+1:Nat):Int))));exact rfl;exact rfl;omega))|(apply oq_fn;exact rfl;first|exact trivial|(and_intros<;>omega)|omega|skip))|((with_reducible apply tl_id);first|(with_reducible apply tl_nil)|((with_reducible apply u_q);(iterate 4 exact rfl)))|((with_reducible apply t_id);first|(apply t_region;kernel_rfl)))
   all_goals exact ⟨by trivial,(),trivial,by (repeat' (first|exact FrSub.nil|(apply FrSub.cons;exact rfl))),by (repeat' (first|exact HpSub.refl _))⟩
 rintro ⟨⟩ -
 try dsimp only
 refine t_cut (ι:=Unit) (fun _=>[(0,.slice (some ⟨g,0,none⟩) n cp),(1,.int .i64 ((a:Nat):Int)),(2,.int .i64 ((b:Nat):Int)),(4,.func (.func kf) #[] #[]),(12,.int .i64 (((i'+1):Nat):Int)),(13,.int .i64 (((j'-1):Nat):Int))]) (fun _=>[(g,coB fx fy ((Y.set i' y).set j' x),some (111,2,cp))]) (fun _=>True) ?_ ?_
 · repeat' (first|((with_reducible apply oq_id);first|(focus ((with_reducible apply (oq_subE (k:=((j'-1:Nat):Int))));exact rfl;exact rfl;omega))|(apply oq_fn;exact rfl;first|exact trivial|(and_intros<;>omega)|omega|skip))|((with_reducible apply tl_id);first|(with_reducible apply tl_nil)|((with_reducible apply u_q);(iterate 4 exact rfl)))|((with_reducible apply t_id);first|(apply t_region;kernel_rfl)))
   all_goals exact ⟨by trivial,(),trivial,by (repeat' (first|exact FrSub.nil|(apply FrSub.cons;exact rfl))),by (repeat' (first|exact HpSub.refl _))⟩
 rintro ⟨⟩ -
 try dsimp only
 have hs3:Sg a b Z ((Y.set i' y).set j' x):=hs.swap hx hy (by omega) (by omega)
 clear q0 q1 r0 r1 hx hxl hy hyl hy2 hgt hfi hfj hq hs hYl i1 ij jb hij hi hj
 obtain ⟨Y2,hY2⟩:∃ Y2,(Y.set i' y).set j' x=Y2:=⟨_,rfl⟩
 rw [hY2] at hsw hs3
 rw [hY2]
 clear hY2
 obtain ⟨i2,hi2⟩:∃ i2,i'+1=i2:=⟨_,rfl⟩
 obtain ⟨j2,hj2⟩:∃ j2,j'-1=j2:=⟨_,rfl⟩
 rw [hi2,hj2] at hsw
 rw [hi2,hj2]
 clear hi2 hj2 Y
 refine t_cut (ι:=Nat×Nat×List α) (fun z=>[(0,.slice (some ⟨g,0,none⟩) n cp),(1,.int .i64 ((a:Nat):Int)),(2,.int .i64 ((b:Nat):Int)),(4,.func (.func kf) #[] #[]),(12,.int .i64 ((z.1:Nat):Int)),(13,.int .i64 ((z.2.1:Nat):Int))]) (fun z=>[(g,coB fx fy (z.2.2),some (111,2,cp))]) (fun z=>z.2.1<z.1∧PI lt p a z.1 z.2.1 b z.2.2∧Sg a b Z z.2.2) ?_ ?_
 rotate_left
 · rintro ⟨i',j',Y⟩ ⟨hgt,hq,hs⟩
   simp only at hgt hq hs
   try dsimp only
   have hYl:=hs.len
   have i1:=hq.i1
   have ij:=hq.ij
   have jb:=hq.jb
   obtain ⟨z,hz⟩:∃ x,Y[j']?=some x:=⟨_,List.getElem?_eq_getElem (by omega)⟩
   have hz2:=swp_get hz hq.hd
   obtain ⟨q0,q1⟩:=co_at (fx:=fx) (fy:=fy) hz
   obtain ⟨r0,r1⟩:=co_at (fx:=fx) (fy:=fy) hq.hd
   have hpf:=hq.done hgt hz
   have hs2:=hs.swap hz hq.hd (by omega) (by omega)
   repeat' (first|((with_reducible apply oq_id);first|(focus ((with_reducible apply oq_indexAddrN);(iterate 4 exact rfl);omega))|(apply oq_fn;exact rfl;first|exact trivial|(and_intros<;>omega)|omega|skip)|((with_reducible apply oq_loadAgg);exact rfl;exact rfl))|((with_reducible apply tl_id);first|(with_reducible apply tl_nil)|((with_reducible apply u_q);(iterate 4 exact rfl)))|((with_reducible apply gx_id);first|(with_reducible apply v_nil)|((with_reducible apply v_q);(iterate 3 exact rfl)))|((with_reducible apply os_id);first|((with_reducible apply (os_storeCo (fx:=fx) (fy:=fy) p hz rfl));(iterate 3 exact rfl);(repeat first|exact P0|apply P1))|((with_reducible apply (os_storeCo (fx:=fx) (fy:=fy) z hz2 rfl));(iterate 3 exact rfl);(repeat first|exact P0|apply P1)))|((with_reducible apply ai_id);first|((with_reducible apply ai_q);(iterate 5 exact rfl))|((with_reducible apply ai_n0);(iterate 3 exact rfl)))|((with_reducible apply al_keep);focus (repeat (first|exact HpSub.refl _|(apply HpSub.cons;(repeat first|exact P0|apply P1))|apply HpSub.skipX|exact HpSub.nil)))|((with_reducible apply rd_id);first|(apply Rd.own;(repeat first|exact P0|apply P1);with_reducible (first|exact q0|exact q1|exact r0|exact r1|exact s0|exact s1);done))|((with_reducible apply t_id);first|(apply t_mixZ (id:=21) [0,1,2,3,4,5,6,8,9,10] 6;kernel_rfl;kernel_rfl;exact rfl)|(with_reducible apply t_seq)|(apply t_region;kernel_rfl)|(with_reducible apply t_ret))|with_reducible apply q_thenN|exact Rdn.zero|apply Rdn.succ|(with_reducible apply end_ret)|exact rvs_nil|(with_reducible apply rvs_cons)|((with_reducible apply rv_tmp);exact rfl)|((with_reducible apply al_id);first|(apply al_done;decide +kernel)|(apply al_one 7;decide +kernel)|(apply al_one 11;decide +kernel)|(apply al_one 12;decide +kernel)|(apply al_one 13;decide +kernel)|(apply al_one 14;decide +kernel)|(apply al_one 15;decide +kernel)|(apply al_two 7 11;decide +kernel)))
   all_goals exact ⟨_,⟨j',false,_,rfl,hpf,hs2,rfl⟩,HpSub.w (by (repeat (first|exact HpSub.refl _|(apply HpSub.consE;(repeat first|exact P0|apply P1);exact rfl)|apply HpSub.skipX|exact HpSub.nil)))⟩
 repeat' (first|((with_reducible apply t_id);first|(with_reducible apply t_block)))
 apply t_loopP (ι:=Nat×Nat×List α) [0,1,2,4] (fun z=>[(12,.int .i64 ((z.1:Nat):Int)),(13,.int .i64 ((z.2.1:Nat):Int))]) (fun z=>[(g,coB fx fy (z.2.2),some (111,2,cp))]) (fun z=>PI lt p a z.1 z.2.1 b z.2.2∧Sg a b Z z.2.2) (fun z=>z.2.1+1-z.1) (i2,j2,Y2)
 (repeat (first|exact KeepF.nil|(apply KeepF.cons;exact rfl)|apply KeepF.skip))
 (repeat first|exact FrSub.nil|(apply FrSub.cons;exact rfl))
 (try simp only [List.cons_append,List.nil_append])
 (repeat' (first|exact HpSub.refl _))
 · exact ⟨hsw,hs3⟩
 rintro ⟨i,j,Y⟩ ⟨hq,hs⟩
 simp only at hq hs
 try simp only [List.cons_append,List.nil_append]
 have hYl:=hs.len
 with_reducible apply t_block
 refine t_cut (ι:=Nat) (fun i'=>[(0,.slice (some ⟨g,0,none⟩) n cp),(1,.int .i64 ((a:Nat):Int)),(2,.int .i64 ((b:Nat):Int)),(4,.func (.func kf) #[] #[]),(12,.int .i64 ((i':Nat):Int)),(13,.int .i64 ((j:Nat):Int))]) (fun _=>[(g,coB fx fy (Y),some (111,2,cp))]) (fun i'=>i≤i'∧PI lt p a i' j b Y∧(i'≤j→∃ x,Y[i']?=some x∧lt x p=false)) ?_ ?_
 · repeat' (first|((with_reducible apply t_id);first|(with_reducible apply t_block)))
   apply t_loopP (ι:=Nat) [0,1,2,4,13] (fun i'=>[(12,.int .i64 ((i':Nat):Int))]) (fun _=>[(g,coB fx fy (Y),some (111,2,cp))]) (fun i'=>i≤i'∧PI lt p a i' j b Y) (fun i'=>j+1-i') (i)
   (repeat (first|exact KeepF.nil|(apply KeepF.cons;exact rfl)|apply KeepF.skip))
   (repeat first|exact FrSub.nil|(apply FrSub.cons;exact rfl))
   (try simp only [List.cons_append,List.nil_append])
   (repeat' (first|exact HpSub.refl _))
   · exact ⟨Nat.le_refl _,hq⟩
   rintro i' ⟨hv,hq⟩
   try simp only [List.cons_append,List.nil_append]
   have i1:=hq.i1
   have ij:=hq.ij
   have jb:=hq.jb
   by_cases hle:i'≤j
   rotate_left
   · repeat' (first|((with_reducible apply oq_id);first|((with_reducible apply oq_leqF);exact rfl;exact rfl;omega)|(apply oq_fn;exact rfl;first|exact trivial|(and_intros<;>omega)|omega|skip))|((with_reducible apply gx_id);first|(with_reducible apply v_nil)|((with_reducible apply v_q);(iterate 3 exact rfl))|((with_reducible apply v_skip);(iterate 3 exact rfl)))|((with_reducible apply t_id);first|(apply t_mix (id:=13) [0,1,2,3,4,5,6,7,8,9,10,11,12,13,14,15] 0 #[false,false,false,false,false,false,false,false,false,false,false,false,false,false,false,false];kernel_rfl;kernel_rfl;exact rfl)|(with_reducible apply t_seq)|((with_reducible apply t_condF);exact rfl)|(with_reducible apply t_exit))|with_reducible apply q_thenN|with_reducible apply q_thenE|((with_reducible apply q_blockE);exact rfl)|((with_reducible apply al_id);first|(apply al_done;decide +kernel)))
     all_goals exact ⟨by trivial,i',⟨hv,hq,fun h=>absurd h hle⟩,by (repeat' (first|exact FrSub.nil|(apply FrSub.cons;exact rfl))),by (repeat' (first|exact HpSub.refl _))⟩
   obtain ⟨x,hx⟩:∃ x,Y[i']?=some x:=⟨_,List.getElem?_eq_getElem (by omega)⟩
   obtain ⟨q0,q1⟩:=co_at (fx:=fx) (fy:=fy) hx
   obtain ⟨r0,r1⟩:=co_at (fx:=fx) (fy:=fy) hq.hd
   obtain ⟨o,HC,ho⟩:=HK.cmp x p
   by_cases HN:o<0
   · have hl:lt x p=true:=ho.1 HN
     repeat' (first|((with_reducible apply oq_id);first|((with_reducible apply oq_lssT);exact rfl;exact rfl;exact HN)|(focus ((with_reducible apply oq_indexAddrN);(iterate 4 exact rfl);omega))|(focus ((with_reducible apply (oq_addE (k:=((i'+1:Nat):Int))));exact rfl;exact rfl;omega))|((with_reducible apply oq_leqT);exact rfl;exact rfl;omega)|(apply oq_fn;exact rfl;first|exact trivial|(and_intros<;>omega)|omega|skip)|((with_reducible apply oq_loadAgg);exact rfl;exact rfl)|((with_reducible apply oq_call (k:=kf) (hc:=HK.call));exact rfl;exact rfl;exact fun D w1 hw1=>HC w1))|((with_reducible apply tl_id);first|(with_reducible apply tl_nil)|((with_reducible apply u_q);(iterate 4 exact rfl)))|((with_reducible apply gx_id);first|(with_reducible apply v_nil)|((with_reducible apply v_q);(iterate 3 exact rfl)))|((with_reducible apply rd_id);first|(apply Rd.own;(repeat first|exact P0|apply P1);with_reducible (first|exact q0|exact q1|exact r0|exact r1|exact s0|exact s1);done))|((with_reducible apply t_id);first|(apply t_mix (id:=13) [0,1,2,3,4,5,6,7,8,9,10,11,12,13,14,15] 0 #[false,false,false,false,false,false,false,false,false,false,false,false,false,false,false,false];kernel_rfl;kernel_rfl;exact rfl)|(with_reducible apply t_seq)|(apply t_region;kernel_rfl)|((with_reducible apply t_condT);exact rfl)|(with_reducible apply t_skip)|(with_reducible apply t_block))|with_reducible apply q_thenN|with_reducible apply q_blockN|exact Rdn.zero|apply Rdn.succ|((with_reducible apply al_id);first|(apply al_done;decide +kernel)))
     all_goals (refine ⟨i'+1,⟨by omega,hq.inc hle hx hl⟩,by omega,?_,?_⟩<;>(repeat' (first|exact FrSub.nil|(apply FrSub.cons;exact rfl)|exact HpSub.refl _)))
   · have hl:lt x p=false:=by
       cases hc:lt x p with
       | false=>rfl
       | true=>exact absurd (ho.2 hc) HN
     repeat' (first|((with_reducible apply oq_id);first|((with_reducible apply oq_lssF);exact rfl;exact rfl;exact HN)|(focus ((with_reducible apply oq_indexAddrN);(iterate 4 exact rfl);omega))|((with_reducible apply oq_leqT);exact rfl;exact rfl;omega)|(apply oq_fn;exact rfl;first|exact trivial|(and_intros<;>omega)|omega|skip)|((with_reducible apply oq_loadAgg);exact rfl;exact rfl)|((with_reducible apply oq_call (k:=kf) (hc:=HK.call));exact rfl;exact rfl;exact fun D w1 hw1=>HC w1))|((with_reducible apply gx_id);first|(with_reducible apply v_nil)|((with_reducible apply v_q);(iterate 3 exact rfl)))|((with_reducible apply rd_id);first|(apply Rd.own;(repeat first|exact P0|apply P1);with_reducible (first|exact q0|exact q1|exact r0|exact r1|exact s0|exact s1);done))|((with_reducible apply t_id);first|(apply t_mix (id:=13) [0,1,2,3,4,5,6,7,8,9,10,11,12,13,14,15] 0 #[false,false,false,false,false,false,false,false,false,false,false,false,false,false,false,false];kernel_rfl;kernel_rfl;exact rfl)|(with_reducible apply t_seq)|((with_reducible apply t_condF);exact rfl)|(with_reducible apply t_exit))|with_reducible apply q_thenN|with_reducible apply q_thenE|((with_reducible apply q_blockE);exact rfl)|exact Rdn.zero|apply Rdn.succ|((with_reducible apply al_id);first|(apply al_done;decide +kernel)))
     all_goals exact ⟨by trivial,i',⟨hv,hq,fun _=>⟨x,hx,hl⟩⟩,by (repeat' (first|exact FrSub.nil|(apply FrSub.cons;exact rfl))),by (repeat' (first|exact HpSub.refl _))⟩
 clear hq
 rintro i' ⟨hi,hq,hfi⟩
 try dsimp only
 refine t_cut (ι:=Nat) (fun j'=>[(0,.slice (some ⟨g,0,none⟩) n cp),(1,.int .i64 ((a:Nat):Int)),(2,.int .i64 ((b:Nat):Int)),(4,.func (.func kf) #[] #[]),(12,.int .i64 ((i':Nat):Int)),(13,.int .i64 ((j':Nat):Int))]) (fun _=>[(g,coB fx fy (Y),some (111,2,cp))]) (fun j'=>j'≤j∧PI lt p a i' j' b Y∧(i'≤j'→∃ x,Y[j']?=some x∧lt x p=true)) ?_ ?_
 · repeat' (first|((with_reducible apply t_id);first|(with_reducible apply t_block)))
   apply t_loopP (ι:=Nat) [0,1,2,4,12] (fun j'=>[(13,.int .i64 ((j':Nat):Int))]) (fun _=>[(g,coB fx fy (Y),some (111,2,cp))]) (fun j'=>j'≤j∧PI lt p a i' j' b Y) (fun j'=>j') (j)
   (repeat (first|exact KeepF.nil|(apply KeepF.cons;exact rfl)|apply KeepF.skip))
   (repeat first|exact FrSub.nil|(apply FrSub.cons;exact rfl))
   (try simp only [List.cons_append,List.nil_append])
   (repeat' (first|exact HpSub.refl _))
   · exact ⟨Nat.le_refl _,hq⟩
   rintro j' ⟨hv,hq⟩
   try simp only [List.cons_append,List.nil_append]
   have i1:=hq.i1
   have ij:=hq.ij
   have jb:=hq.jb
   by_cases hle:i'≤j'
   rotate_left
   · repeat' (first|((with_reducible apply oq_id);first|((with_reducible apply oq_leqF);exact rfl;exact rfl;omega)|(apply oq_fn;exact rfl;first|exact trivial|(and_intros<;>omega)|omega|skip))|((with_reducible apply gx_id);first|(with_reducible apply v_nil)|((with_reducible apply v_q);(iterate 3 exact rfl))|((with_reducible apply v_skip);(iterate 3 exact rfl)))|((with_reducible apply t_id);first|(apply t_mix (id:=15) [0,1,2,3,4,5,6,7,8,9,10,11,12,13,14,15,16] 0 #[false,false,false,false,false,false,false,false,false,false,false,false,false,false,false,false,false];kernel_rfl;kernel_rfl;exact rfl)|(with_reducible apply t_seq)|((with_reducible apply t_condF);exact rfl)|(with_reducible apply t_exit))|with_reducible apply q_thenN|with_reducible apply q_thenE|((with_reducible apply q_blockE);exact rfl)|((with_reducible apply al_id);first|(apply al_done;decide +kernel)))
     all_goals exact ⟨by trivial,j',⟨hv,hq,fun h=>absurd h hle⟩,by (repeat' (first|exact FrSub.nil|(apply FrSub.cons;exact rfl))),by (repeat' (first|exact HpSub.refl _))⟩
   obtain ⟨x,hx⟩:∃ x,Y[j']?=some x:=⟨_,List.getElem?_eq_getElem (by omega)⟩
   obtain ⟨q0,q1⟩:=co_at (fx:=fx) (fy:=fy) hx
   obtain ⟨r0,r1⟩:=co_at (fx:=fx) (fy:=fy) hq.hd
   obtain ⟨o,HC,ho⟩:=HK.cmp x p
   by_cases HN:o<0
   · have hl:lt x p=true:=ho.1 HN
     repeat' (first|((with_reducible apply oq_id);first|((with_reducible apply oq_lssT);exact rfl;exact rfl;exact HN)|(focus ((with_reducible apply oq_indexAddrN);(iterate 4 exact rfl);omega))|((with_reducible apply oq_leqT);exact rfl;exact rfl;omega)|(apply oq_fn;exact rfl;first|exact trivial|(and_intros<;>omega)|omega|skip)|((with_reducible apply oq_loadAgg);exact rfl;exact rfl)|((with_reducible apply oq_call (k:=kf) (hc:=HK.call));exact rfl;exact rfl;exact fun D w1 hw1=>HC w1))|((with_reducible apply gx_id);first|(with_reducible apply v_nil)|((with_reducible apply v_q);(iterate 3 exact rfl)))|((with_reducible apply rd_id);first|(apply Rd.own;(repeat first|exact P0|apply P1);with_reducible (first|exact q0|exact q1|exact r0|exact r1|exact s0|exact s1);done))|((with_reducible apply t_id);first|(apply t_mix (id:=15) [0,1,2,3,4,5,6,7,8,9,10,11,12,13,14,15,16] 0 #[false,false,false,false,false,false,false,false,false,false,false,false,false,false,false,false,false];kernel_rfl;kernel_rfl;exact rfl)|(with_reducible apply t_seq)|((with_reducible apply t_condF);exact rfl)|(with_reducible apply t_exit))|with_reducible apply q_thenN|with_reducible apply q_thenE|((with_reducible apply q_blockE);exact rfl)|exact Rdn.zero|apply Rdn.succ|((with_reducible apply al_id);first|(apply al_done;decide +kernel)))
     all_goals exact ⟨by trivial,j',⟨hv,hq,fun _=>⟨x,hx,hl⟩⟩,by (repeat' (first|exact FrSub.nil|(apply FrSub.cons;exact rfl))),by (repeat' (first|exact HpSub.refl _))⟩
   · have hl:lt x p=false:=by
       cases hc:lt x p with
       | false=>rfl
       | true=>exact absurd (ho.2 hc) HN
     repeat' (first|((with_reducible apply oq_id);first|((with_reducible apply oq_lssF);exact rfl;exact rfl;exact HN)|(focus ((with_reducible apply oq_indexAddrN);(iterate 4 exact rfl);omega))|(focus ((with_reducible apply (oq_subE (k:=((j'-1:Nat):Int))));exact rfl;exact rfl;omega))|((with_reducible apply oq_leqT);exact rfl;exact rfl;omega)|(apply oq_fn;exact rfl;first|exact trivial|(and_intros<;>omega)|omega|skip)|((with_reducible apply oq_loadAgg);exact rfl;exact rfl)|((with_reducible apply oq_call (k:=kf) (hc:=HK.call));exact rfl;exact rfl;exact fun D w1 hw1=>HC w1))|((with_reducible apply tl_id);first|(with_reducible apply tl_nil)|((with_reducible apply u_q);(iterate 4 exact rfl)))|((with_reducible apply gx_id);first|(with_reducible apply v_nil)|((with_reducible apply v_q);(iterate 3 exact rfl)))|((with_reducible apply rd_id);first|(apply Rd.own;(repeat first|exact P0|apply P1);with_reducible (first|exact q0|exact q1|exact r0|exact r1|exact s0|exact s1);done))|((with_reducible apply t_id);first|(apply t_mix (id:=15) [0,1,2,3,4,5,6,7,8,9,10,11,12,13,14,15,16] 0 #[false,false,false,false,false,false,false,false,false,false,false,false,false,false,false,false,false];kernel_rfl;kernel_rfl;exact rfl)|(with_reducible apply t_seq)|(apply t_region;kernel_rfl)|((with_reducible apply t_condT);exact rfl)|(with_reducible apply t_skip)|(with_reducible apply t_block))|with_reducible apply q_thenN|with_reducible apply q_blockN|exact Rdn.zero|apply Rdn.succ|((with_reducible apply al_id);first|(apply al_done;decide +kernel)))
     all_goals (refine ⟨j'-1,⟨by omega,hq.dec hle hx hl⟩,by omega,?_,?_⟩<;>(repeat' (first|exact FrSub.nil|(apply FrSub.cons;exact rfl)|exact HpSub.refl _)))
 clear hq
 rintro j' ⟨hj,hq,hfj⟩
 try dsimp only
 have i1:=hq.i1
 have ij:=hq.ij
 have jb:=hq.jb
 by_cases hgt:j'<i'
 · repeat' (first|((with_reducible apply oq_id);first|((with_reducible apply oq_gtrT);exact rfl;exact rfl;omega)|(apply oq_fn;exact rfl;first|exact trivial|(and_intros<;>omega)|omega|skip))|((with_reducible apply tl_id);first|(with_reducible apply tl_nil)|((with_reducible apply u_q);(iterate 4 exact rfl)))|((with_reducible apply t_id);first|(with_reducible apply t_seq)|(apply t_region;kernel_rfl)|((with_reducible apply t_condT);exact rfl)|(with_reducible apply t_exit))|with_reducible apply q_thenN|with_reducible apply q_thenE|((with_reducible apply q_blockE);exact rfl)|((with_reducible apply q_blockO);exact rfl))
   all_goals exact ⟨by trivial,(i',j',Y),⟨hgt,hq,hs⟩,by (repeat' (first|exact FrSub.nil|(apply FrSub.cons;exact rfl))),by (repeat' (first|exact HpSub.refl _))⟩
 obtain ⟨x,hx,hxl⟩:∃ x,Y[i']?=some x∧lt x p=false:=hfi (by omega)
 obtain ⟨y,hy,hyl⟩:=hfj (by omega)
 obtain ⟨hij,hsw⟩:=hq.swap (by omega) hx hxl hy hyl
 have hy2:=swp_get hx hy
 obtain ⟨q0,q1⟩:=co_at (fx:=fx) (fy:=fy) hx
 obtain ⟨r0,r1⟩:=co_at (fx:=fx) (fy:=fy) hy
 repeat' (first|((with_reducible apply oq_id);first|(focus ((with_reducible apply oq_indexAddrN);(iterate 4 exact rfl);omega))|(focus ((with_reducible apply (oq_addE (k:=((i'+1:Nat):Int))));exact rfl;exact rfl;omega))|(focus ((with_reducible apply (oq_subE (k:=((j'-1:Nat):Int))));exact rfl;exact rfl;omega))|((with_reducible apply oq_gtrF);exact rfl;exact rfl;omega)|(apply oq_fn;exact rfl;first|exact trivial|(and_intros<;>omega)|omega|skip)|((with_reducible apply oq_loadAgg);exact rfl;exact rfl))|((with_reducible apply tl_id);first|(with_reducible apply tl_nil)|((with_reducible apply u_q);(iterate 4 exact rfl)))|((with_reducible apply gx_id);first|(with_reducible apply v_nil)|((with_reducible apply v_q);(iterate 3 exact rfl)))|((with_reducible apply os_id);first|((with_reducible apply (os_storeCo (fx:=fx) (fy:=fy) y hx rfl));(iterate 3 exact rfl);(repeat first|exact P0|apply P1))|((with_reducible apply (os_storeCo (fx:=fx) (fy:=fy) x hy2 rfl));(iterate 3 exact rfl);(repeat first|exact P0|apply P1)))|((with_reducible apply ai_id);first|((with_reducible apply ai_q);(iterate 5 exact rfl))|((with_reducible apply ai_n0);(iterate 3 exact rfl)))|((with_reducible apply al_keep);focus (repeat (first|exact HpSub.refl _|(apply HpSub.cons;(repeat first|exact P0|apply P1))|apply HpSub.skipX|exact HpSub.nil)))|((with_reducible apply rd_id);first|(apply Rd.own;(repeat first|exact P0|apply P1);with_reducible (first|exact q0|exact q1|exact r0|exact r1|exact s0|exact s1);done))|((with_reducible apply t_id);first|(apply t_mixZ (id:=18) [0,1,2,3,4,5,6,8,9,10] 6;kernel_rfl;kernel_rfl;exact rfl)|(with_reducible apply t_seq)|(apply t_region;kernel_rfl)|((with_reducible apply t_condF);exact rfl)|(with_reducible apply t_skip))|with_reducible apply q_thenN|with_reducible apply q_blockN|exact Rdn.zero|apply Rdn.succ|((with_reducible apply al_id);first|(apply al_done;decide +kernel)|(apply al_one 7;decide +kernel)|(apply al_one 11;decide +kernel)|(apply al_one 12;decide +kernel)|(apply al_one 13;decide +kernel)|(apply al_one 14;decide +kernel)|(apply al_one 15;decide +kernel)|(apply al_two 7 11;decide +kernel)))
 all_goals (refine ⟨(i'+1,j'-1,(Y.set i' y).set j' x),⟨hsw,hs.swap hx hy (by omega) (by omega)⟩,(by simp only;omega),?_,?_⟩<;>(repeat' (first|exact FrSub.nil|(apply FrSub.cons;exact rfl)|exact HpSub.refl _)))
end Go.Proofs.Ytcjkndjjbjoehaa
namespace Go.Proofs.Ytcjkndjjbjoehaa
open Go.RowKit
section
variable {c:Cx} {F:Fr} {H:Hp} {d:Option Tmp} {ty t t':TypeId} {pos:String} {af:Array Edge} {g:Option (Nat×Bool)} {x y:Operand} {m n:Int}
theorem oq_shlA {k k':IntKind} (hx:ev F x=some (.int k m)) (hy:ev F y=some (.int k' n)) (h0:0≤n):OQ c ⟨d,.binOp .shl t x y t',ty,pos,af,g⟩ F H (.int k (k.wrap (m*2 ^ (min n.toNat k.bits)))):=.of fun D a w ha _=>by
 have:¬ n<0:=by omega
 simp [execOp,ha.ev hx,ha.ev hy,eqGuard,binOp,Op.shift,go_sem,this]
theorem oq_xorA {k:IntKind} (hx:ev F x=some (.int k m)) (hy:ev F y=some (.int k n)):OQ c ⟨d,.binOp .xor t x y t',ty,pos,af,g⟩ F H (.int k (k.wrap (((BitVec.ofInt k.bits m ^^^ BitVec.ofInt k.bits n).toNat:Nat):Int))):=.of fun D a w ha _=>by
 simp [execOp,ha.ev hx,ha.ev hy,eqGuard,binOp,Op.intBits,go_sem]
theorem inU_wrap (z:Int):InU (IntKind.u64.wrap z):=by
 unfold InU IntKind.wrap
 simp only [IntKind.bits,IntKind.signed]
 have h1:=Int.emod_nonneg z (show (2:Int) ^ 64≠0 by decide)
 have h2:=Int.emod_lt_of_pos z (show (0:Int)<2 ^ 64 by decide)
 simp at h1 h2 ⊢
 omega
theorem oq_strIx {k:IntKind} {s:ByteArray} {f:Nat→Nat} {i:Int} {b:Nat} (hu:∀ w,(underlying t).run c.P w=.ok .string w) (hx:ev F x=some (.string s)) (hy:ev F y=some (.int k i)) (hs:∀ j,j<256→(s[j]?).map UInt8.toNat=some (f j)) (hb:b<256) (e:i=(b:Int)):OQ c ⟨d,.index t x y,ty,pos,af,g⟩ F H (.int .u8 ((f b:Nat):Int)):=.of fun D a w ha _=>by
 have hi:0≤i∧i<256:=by omega
 obtain rfl:b=i.toNat:=by omega
 have h:=hs i.toNat (by omega)
 cases hb:s[i.toNat]? with
 | none=>rw [hb] at h;cases h
 | some b=>
   rw [hb] at h
   have h2:b.toNat=f i.toNat:=by simpa using h
   simp [execOp,ha.ev hx,ha.ev hy,Instr.index,go_sem,hu w,asIntOf,hi.1,hb,h2,Sem.run_bind,Result.andThen]
theorem oq_conv8 {a0 a1:Bool} {s0 s1:Nat} {z0 z1:List Value} {k:IntKind} (ht:tyAt c.tys t=some ⟨a0,s0,z0,.int k⟩) (ht':tyAt c.tys t'=some ⟨a1,s1,z1,.int .u8⟩) (hx:ev F x=some (.int k m)) (hr:0≤m∧m<256) :
   OQ c ⟨d,.convert t t' x,ty,pos,af,g⟩ F H (.int .u8 m):=.of fun D a w ha _=>by
 have h2:=(c.ty ht).kind w
 have h3:=(c.ty ht').kind w
 have:IntKind.u8.wrap m=m:=by
   unfold IntKind.wrap
   simp only [IntKind.bits,IntKind.signed]
   have h:=Int.emod_eq_of_lt hr.1 (show m<2 ^ 8 by have:=hr.2;omega)
   simp at h ⊢
   omega
 simp [execOp,ha.ev hx,convert,go_sem,h2,h3,Conv.intToInt,this]
theorem oq_subUE {k:Int} (hx:ev F x=some (.int .u64 m)) (hy:ev F y=some (.int .u64 n)) (e:m-n=k) (hr:InU k):OQ c ⟨d,.binOp .sub t x y t',ty,pos,af,g⟩ F H (.int .u64 k):=.of fun D a w ha _=>by
 have:=wrapU hr
 subst e
 simp [execOp,ha.ev hx,ha.ev hy,eqGuard,binOp,Op.intBits,go_sem,Op.intArith,this]
theorem oq_shlE {k k':IntKind} {v:Int} (hx:ev F x=some (.int k m)) (hy:ev F y=some (.int k' n)) (h0:0≤n) (e:k.wrap (m*2 ^ (min n.toNat k.bits))=v):OQ c ⟨d,.binOp .shl t x y t',ty,pos,af,g⟩ F H (.int k v):=by
 subst e
 exact oq_shlA hx hy h0
theorem oq_andE {j:Nat} {k:Int} (hx:ev F x=some (.int .u64 m)) (hy:ev F y=some (.int .u64 n)) (h:InU m) (hj:j<64) (e:n=2 ^ j-1) (e2:m % 2 ^ j=k):OQ c ⟨d,.binOp .and t x y t',ty,pos,af,g⟩ F H (.int .u64 k):=by
 subst e e2
 exact oq_andU hx hy h hj
def lenB (x:Nat):Nat:=if x=0 then 0 else Nat.log2 x+1
end
end Go.Proofs.Ytcjkndjjbjoehaa
namespace Go.Proofs.Ytcjkndjjbjoehaa
open Go.RowKit
attribute [local irreducible] OQ OS OX Rd T TL GX GL AL AI RV wpG SAny Calls
theorem len64_calls (x:Nat) (hx:x<256) (w:World):Calls Try.prog 205 #[.int .u64 ((x:Nat):Int)] w fun e w'=>e=.returned (.int .i64 ((lenB x:Nat):Int))∧Ext w w':=by
 have hl:lenB x≤8:=(show ∀ x,x<256→lenB x≤8 by decide +kernel) x hx
 refine enterQ (c:=cx w 25) Try.func205 rfl rfl rfl rfl ?_
 repeat' (first|((with_reducible apply oq_id);first|((with_reducible apply oq_conv8);(iterate 3 exact rfl);omega)|((with_reducible apply (oq_strIx (f:=lenB) (b:=x)));exact Try.runUnderlying9;exact rfl;exact rfl;decide +kernel;exact hx;omega)|(focus ((with_reducible apply (oq_addE (k:=((lenB x:Nat):Int))));exact rfl;exact rfl;omega))|((with_reducible apply oq_geqF);exact rfl;exact rfl;omega)|(apply oq_fn;exact rfl;first|exact trivial|(and_intros<;>omega)|omega|skip))|((with_reducible apply tl_id);first|(with_reducible apply tl_nil)|((with_reducible apply u_q);(iterate 4 exact rfl)))|((with_reducible apply t_id);first|(with_reducible apply t_seq)|(apply t_region;kernel_rfl)|((with_reducible apply t_condF);exact rfl)|(with_reducible apply t_ret)|(with_reducible apply t_skip))|with_reducible apply q_thenN|(with_reducible apply end_ret)|exact rvs_nil|(with_reducible apply rvs_cons)|((with_reducible apply rv_tmp);exact rfl))
 all_goals exact rfl
theorem len_calls (x:Nat) (hx:x<256) (w:World):Calls Try.prog 189 #[.int .u64 ((x:Nat):Int)] w fun e w'=>e=.returned (.int .i64 ((lenB x:Nat):Int))∧Ext w w':=by
 
 refine enterQ (c:=cx w 8) Try.func189 rfl rfl rfl rfl ?_
 repeat' (first|((with_reducible apply oq_id);first|(apply oq_fn;exact rfl;first|exact trivial|(and_intros<;>omega)|omega|skip)|((with_reducible apply oq_call (hc:=Try.call205));exact rfl;exact rfl;exact fun D w1 hw1=>len64_calls x hx w1))|((with_reducible apply tl_id);first|(with_reducible apply tl_nil)|((with_reducible apply u_q);(iterate 4 exact rfl)))|((with_reducible apply t_id);first|(with_reducible apply t_seq)|(apply t_region;kernel_rfl)|((with_reducible apply t_condF);exact rfl)|(with_reducible apply t_ret)|(with_reducible apply t_skip))|with_reducible apply q_thenN|(with_reducible apply end_ret)|exact rvs_nil|(with_reducible apply rvs_cons)|((with_reducible apply rv_tmp);exact rfl))
 all_goals rfl
theorem npo_calls (x:Nat) (hx:x<256) (w:World):Calls Try.prog 211 #[.int .i64 ((x:Nat):Int)] w fun e w'=>e=.returned (.int .u64 (2 ^ lenB x))∧Ext w w':=by
 have hw1:IntKind.u64.wrap (1*2 ^ (min ((lenB x:Nat):Int).toNat IntKind.u64.bits))=2 ^ lenB x:=(show ∀ x,x<256→IntKind.u64.wrap (1*2 ^ (min ((lenB x:Nat):Int).toNat IntKind.u64.bits))=2 ^ lenB x by decide +kernel) x hx
 refine enterQ (c:=cx w 7) Try.func211 rfl rfl rfl rfl ?_
 repeat' (first|((with_reducible apply oq_id);first|((with_reducible apply oq_convU);(iterate 3 exact rfl);(constructor<;>omega))|((with_reducible apply (oq_shlE (v:=2 ^ lenB x)));exact rfl;exact rfl;omega;exact hw1)|(apply oq_fn;exact rfl;first|exact trivial|(and_intros<;>omega)|omega|skip)|((with_reducible apply oq_call (hc:=Try.call189));exact rfl;exact rfl;exact fun D w1 hw1=>len_calls x hx w1))|((with_reducible apply tl_id);first|(with_reducible apply tl_nil)|((with_reducible apply u_q);(iterate 4 exact rfl)))|((with_reducible apply t_id);first|(with_reducible apply t_seq)|(apply t_region;kernel_rfl)|(with_reducible apply t_ret))|with_reducible apply q_thenN|(with_reducible apply end_ret)|exact rvs_nil|(with_reducible apply rvs_cons)|((with_reducible apply rv_tmp);exact rfl))
 all_goals rfl
theorem next_M (bx:Nat) (s:Int) (hs:InU s) (w:World) (hH:Has w ⟨[bx],[]⟩ [(bx,[.int .u64 s],some (297,1,1))] w) :
   Calls Try.prog 212 #[.pointer (some ⟨bx,0,none⟩)] w fun e w'=>∃ v H1,e=.returned v∧(∃ z:Int,InU z∧v=.int .u64 z∧H1=[(bx,[.int .u64 z],some (297,1,1))])∧Has w ⟨[bx],[]⟩ H1 w':=by
 refine enterM (c:=cxM [bx] w 33) Try.func212 rfl rfl rfl hH ?_
 refine t_cut (ι:=Unit) (fun _=>[(0,.pointer (some ⟨bx,0,none⟩))]) (fun _=>[(bx,[.int .u64 s],some (297,1,1))]) (fun _=>True) ?_ ?_
 · repeat' (first|((with_reducible apply oq_id);first|(apply oq_fn;exact rfl;first|exact trivial|(and_intros<;>omega)|omega|skip))|((with_reducible apply tl_id);first|(with_reducible apply tl_nil)|((with_reducible apply u_q);(iterate 4 exact rfl)))|((with_reducible apply t_id);first|(apply t_region;kernel_rfl)))
   all_goals exact ⟨by trivial,(),trivial,by (repeat' (first|exact FrSub.nil|(apply FrSub.cons;exact rfl))),by (repeat' (first|exact HpSub.refl _))⟩
 rintro ⟨⟩ -
 try dsimp only
 refine t_cut (ι:=Int) (fun s=>[(0,.pointer (some ⟨bx,0,none⟩))]) (fun s=>[(bx,[.int .u64 s],some (297,1,1))]) (fun s=>InU s) ?_ ?_
 · repeat' (first|((with_reducible apply oq_id);first|((with_reducible apply oq_shlA);exact rfl;exact rfl;omega)|((with_reducible apply oq_xorA);exact rfl;exact rfl)|(apply oq_fn;exact rfl;first|exact trivial|(and_intros<;>omega)|omega|skip)|((with_reducible apply oq_load);exact rfl;exact rfl))|((with_reducible apply gx_id);first|(with_reducible apply v_nil)|((with_reducible apply v_q);(iterate 3 exact rfl)))|((with_reducible apply os_id);first|((with_reducible apply os_store);(iterate 4 exact rfl)))|((with_reducible apply ai_id);first|((with_reducible apply ai_s0);(iterate 4 exact rfl)))|((with_reducible apply rd_id);first|(apply Rd.own;(repeat first|exact P0|apply P1);exact rfl;done))|((with_reducible apply t_id);first|(apply t_mix (id:=1) [0,1,2,3,4,5,6,7,8] 1 #[false,false,false,false,false,false,false,false,false,true];kernel_rfl;kernel_rfl;exact rfl))|exact P0|((with_reducible apply Norm.nil);exact rfl)|((with_reducible apply Norm.cons);exact rfl)|((with_reducible apply al_id);first|(apply al_done;decide +kernel)|(apply al_one 9;decide +kernel))|exact Nat.le_of_ble_eq_true rfl)
   all_goals exact ⟨by trivial,_,inU_wrap _,by (repeat' (first|exact FrSub.nil|(apply FrSub.cons;exact rfl))),by (repeat' (first|exact HpSub.refl _))⟩
 rintro s hs
 try dsimp only
 refine t_cut (ι:=Int) (fun s=>[(0,.pointer (some ⟨bx,0,none⟩))]) (fun s=>[(bx,[.int .u64 s],some (297,1,1))]) (fun s=>InU s) ?_ ?_
 · repeat' (first|((with_reducible apply oq_id);first|((with_reducible apply oq_shr);exact rfl;exact rfl;omega)|((with_reducible apply oq_xorA);exact rfl;exact rfl)|(apply oq_fn;exact rfl;first|exact trivial|(and_intros<;>omega)|omega|skip)|((with_reducible apply oq_load);exact rfl;exact rfl))|((with_reducible apply gx_id);first|(with_reducible apply v_nil)|((with_reducible apply v_q);(iterate 3 exact rfl)))|((with_reducible apply os_id);first|((with_reducible apply os_store);(iterate 4 exact rfl)))|((with_reducible apply ai_id);first|((with_reducible apply ai_s0);(iterate 4 exact rfl)))|((with_reducible apply rd_id);first|(apply Rd.own;(repeat first|exact P0|apply P1);exact rfl;done))|((with_reducible apply t_id);first|(apply t_mix (id:=2) [0,1,2,3,4,5,6,7,8] 1 #[false,false,false,false,false,false,false,false,false,true];kernel_rfl;kernel_rfl;exact rfl))|exact P0|((with_reducible apply Norm.nil);exact rfl)|((with_reducible apply Norm.cons);exact rfl)|((with_reducible apply al_id);first|(apply al_done;decide +kernel)|(apply al_one 9;decide +kernel))|exact Nat.le_of_ble_eq_true rfl)
   all_goals exact ⟨by trivial,_,inU_wrap _,by (repeat' (first|exact FrSub.nil|(apply FrSub.cons;exact rfl))),by (repeat' (first|exact HpSub.refl _))⟩
 rintro s hs
 try dsimp only
 refine t_cut (ι:=Int) (fun s=>[(0,.pointer (some ⟨bx,0,none⟩))]) (fun s=>[(bx,[.int .u64 s],some (297,1,1))]) (fun s=>InU s) ?_ ?_
 · repeat' (first|((with_reducible apply oq_id);first|((with_reducible apply oq_shlA);exact rfl;exact rfl;omega)|((with_reducible apply oq_xorA);exact rfl;exact rfl)|(apply oq_fn;exact rfl;first|exact trivial|(and_intros<;>omega)|omega|skip)|((with_reducible apply oq_load);exact rfl;exact rfl))|((with_reducible apply gx_id);first|(with_reducible apply v_nil)|((with_reducible apply v_q);(iterate 3 exact rfl)))|((with_reducible apply os_id);first|((with_reducible apply os_store);(iterate 4 exact rfl)))|((with_reducible apply ai_id);first|((with_reducible apply ai_s0);(iterate 4 exact rfl)))|((with_reducible apply rd_id);first|(apply Rd.own;(repeat first|exact P0|apply P1);exact rfl;done))|((with_reducible apply t_id);first|(apply t_mix (id:=3) [0,1,2,3,4,5,6,7,8] 1 #[false,false,false,false,false,false,false,false,false,true];kernel_rfl;kernel_rfl;exact rfl))|exact P0|((with_reducible apply Norm.nil);exact rfl)|((with_reducible apply Norm.cons);exact rfl)|((with_reducible apply al_id);first|(apply al_done;decide +kernel)|(apply al_one 9;decide +kernel))|exact Nat.le_of_ble_eq_true rfl)
   all_goals exact ⟨by trivial,_,inU_wrap _,by (repeat' (first|exact FrSub.nil|(apply FrSub.cons;exact rfl))),by (repeat' (first|exact HpSub.refl _))⟩
 rintro s hs
 try dsimp only
 repeat' (first|((with_reducible apply oq_id);first|(apply oq_fn;exact rfl;first|exact trivial|(and_intros<;>omega)|omega|skip)|((with_reducible apply oq_load);exact rfl;exact rfl))|((with_reducible apply tl_id);first|(with_reducible apply tl_nil)|((with_reducible apply u_q);(iterate 4 exact rfl)))|((with_reducible apply rd_id);first|(apply Rd.own;(repeat first|exact P0|apply P1);exact rfl;done))|((with_reducible apply t_id);first|(with_reducible apply t_seq)|(apply t_region;kernel_rfl)|(with_reducible apply t_ret))|with_reducible apply q_thenN|(with_reducible apply end_ret)|exact rvs_nil|(with_reducible apply rvs_cons)|((with_reducible apply rv_tmp);exact rfl))
 all_goals exact ⟨_,⟨s,hs,rfl,rfl⟩,HpSub.w (by (repeat (first|exact HpSub.refl _|(apply HpSub.consE;(repeat first|exact P0|apply P1);exact rfl)|apply HpSub.skipX|exact HpSub.nil)))⟩
theorem modU {z:Int} (j:Nat) (_:InU z):∃ o:Nat,z % 2 ^ j=((o:Nat):Int)∧o<2 ^ j:=by
 have h0:(0:Int)<2 ^ j:=Int.pow_pos (by decide)
 have h1:=Int.emod_nonneg z (Int.ne_of_gt h0)
 have h2:=Int.emod_lt_of_pos z h0
 refine ⟨(z % 2 ^ j).toNat,(Int.toNat_of_nonneg h1).symm,?_⟩
 have h3:((2 ^ j:Nat):Int)=2 ^ j:=by simp
 omega
theorem break_M {α:Type} {fx fy:α→Int} {lt:α→α→Bool} {kf:Nat} (hw:Wo lt) (HK:CmpOk fx fy lt kf) (g cp n a b:Nat) (Z:List α) (w:World) (hH:Has w ⟨[g],[]⟩ [(g,coB fx fy (Z),some (111,2,cp))] w) (hn:Z.length=n) (hn1:n≤1000000) (hab:a+8≤b) (hb:b≤n) (h50:b<a+50) :
   Calls Try.prog 198 #[.slice (some ⟨g,0,none⟩) n cp,.int .i64 ((a:Nat):Int),.int .i64 ((b:Nat):Int),.func (.func kf) #[] #[]] w fun e w'=>∃ v H1,e=.returned v∧(v=.tuple #[]∧∃ W,Sg a b Z W∧H1=[(g,coB fx fy (W),some (111,2,cp))])∧Has w ⟨[g],[]⟩ H1 w':=by
 obtain ⟨m,hm⟩:∃ m,b-a=m:=⟨_,rfl⟩
 obtain ⟨q4,hq4⟩:∃ q,m / 4=q:=⟨_,rfl⟩
 have hq5:((m:Nat):Int).tdiv 4=((q4:Nat):Int):=by rw [← hq4];rfl
 obtain ⟨j,hj⟩:∃ j,lenB m=j:=⟨_,rfl⟩
 have hjm:=(show ∀ m,m<50→8≤m→2 ^ lenB m≤2*m∧lenB m≤6 by decide +kernel) m (by omega) (by omega)
 rw [hj] at hjm
 have hp:∀ i,i≤6→InU (2 ^ i-1):=fun i hi=>(show ∀ i,i<7→(0≤(2:Int) ^ i-1∧(2:Int) ^ i-1≤18446744073709551615) by decide) i (by omega)
 have hju:=hp j hjm.2
 refine enterM (c:=cxM [g] w 67) Try.func198 rfl rfl rfl hH ?_
 refine t_cut (ι:=Unit) (fun _=>[(0,.slice (some ⟨g,0,none⟩) n cp),(1,.int .i64 ((a:Nat):Int)),(2,.int .i64 ((b:Nat):Int)),(3,.func (.func kf) #[] #[]),(8,.int .i64 ((m:Nat):Int))]) (fun _=>[(g,coB fx fy (Z),some (111,2,cp))]) (fun _=>True) ?_ ?_
 · repeat' (first|((with_reducible apply oq_id);first|(focus ((with_reducible apply (oq_subE (k:=((m:Nat):Int))));exact rfl;exact rfl;omega))|(apply oq_fn;exact rfl;first|exact trivial|(and_intros<;>omega)|omega|skip))|((with_reducible apply tl_id);first|(with_reducible apply tl_nil)|((with_reducible apply u_q);(iterate 4 exact rfl)))|((with_reducible apply t_id);first|(apply t_region;kernel_rfl)))
   all_goals exact ⟨by trivial,(),trivial,by (repeat' (first|exact FrSub.nil|(apply FrSub.cons;exact rfl))),by (repeat' (first|exact HpSub.refl _))⟩
 rintro ⟨⟩ -
 try dsimp only
 refine t_cut (ι:=Unit) (fun _=>[(0,.slice (some ⟨g,0,none⟩) n cp),(1,.int .i64 ((a:Nat):Int)),(2,.int .i64 ((b:Nat):Int)),(3,.func (.func kf) #[] #[]),(8,.int .i64 ((m:Nat):Int)),(17,.bool true)]) (fun _=>[(g,coB fx fy (Z),some (111,2,cp))]) (fun _=>True) ?_ ?_
 · repeat' (first|((with_reducible apply oq_id);first|((with_reducible apply oq_geqT);exact rfl;exact rfl;omega)|(apply oq_fn;exact rfl;first|exact trivial|(and_intros<;>omega)|omega|skip))|((with_reducible apply tl_id);first|(with_reducible apply tl_nil)|((with_reducible apply u_q);(iterate 4 exact rfl)))|((with_reducible apply t_id);first|(apply t_region;kernel_rfl)))
   all_goals exact ⟨by trivial,(),trivial,by (repeat' (first|exact FrSub.nil|(apply FrSub.cons;exact rfl))),by (repeat' (first|exact HpSub.refl _))⟩
 rintro ⟨⟩ -
 try dsimp only
 (with_reducible apply t_condT);exact rfl
 refine t_cut (ι:=Nat) (fun bx=>[(0,.slice (some ⟨g,0,none⟩) n cp),(1,.int .i64 ((a:Nat):Int)),(2,.int .i64 ((b:Nat):Int)),(3,.func (.func kf) #[] #[]),(8,.int .i64 ((m:Nat):Int)),(9,.pointer (some ⟨bx,0,none⟩))]) (fun bx=>[(g,coB fx fy (Z),some (111,2,cp)),(bx,[.int .u64 ((m:Nat):Int)],some (297,1,1))]) (fun _=>True) ?_ ?_
 · repeat' (first|((with_reducible apply oq_id);first|((with_reducible apply oq_convU);(iterate 3 exact rfl);(constructor<;>omega))|(apply oq_fn;exact rfl;first|exact trivial|(and_intros<;>omega)|omega|skip))|((with_reducible apply tl_id);first|(with_reducible apply tl_nil)|((with_reducible apply u_q);(iterate 4 exact rfl))|((with_reducible apply u_s0);exact rfl;exact rfl)|((with_reducible apply u_s);(iterate 3 exact rfl)))|((with_reducible apply os_id);first|((with_reducible apply os_x);exact rfl)|((with_reducible apply os_store);(iterate 4 exact rfl)))|((with_reducible apply ox_id);first|((with_reducible apply ox_alloc);exact rfl;intro _))|((with_reducible apply t_id);first|(apply t_region;kernel_rfl))|exact P0|((with_reducible apply Norm.nil);exact rfl)|((with_reducible apply Norm.cons);exact rfl)|exact Nat.le_of_ble_eq_true rfl)
   all_goals exact ⟨by trivial,_,trivial,by (repeat' (first|exact FrSub.nil|(apply FrSub.cons;exact rfl))),by (repeat' (first|exact HpSub.refl _|(apply HpSub.consE;(repeat first|exact P0|apply P1);first|exact rfl|(simp;done))))⟩
 rintro bx -
 try dsimp only
 refine t_cut (ι:=Unit) (fun _=>[(0,.slice (some ⟨g,0,none⟩) n cp),(1,.int .i64 ((a:Nat):Int)),(2,.int .i64 ((b:Nat):Int)),(3,.func (.func kf) #[] #[]),(8,.int .i64 ((m:Nat):Int)),(9,.pointer (some ⟨bx,0,none⟩)),(10,.int .u64 (2 ^ j))]) (fun _=>[(g,coB fx fy (Z),some (111,2,cp)),(bx,[.int .u64 ((m:Nat):Int)],some (297,1,1))]) (fun _=>True) ?_ ?_
 · repeat' (first|((with_reducible apply oq_id);first|(apply oq_fn;exact rfl;first|exact trivial|(and_intros<;>omega)|omega|skip)|((with_reducible apply oq_call (hc:=Try.call211));exact rfl;exact rfl;exact fun D w1 hw1=>(hj ▸ npo_calls m (by omega) w1)))|((with_reducible apply tl_id);first|(with_reducible apply tl_nil)|((with_reducible apply u_q);(iterate 4 exact rfl)))|((with_reducible apply t_id);first|(apply t_region;kernel_rfl)))
   all_goals exact ⟨by trivial,(),trivial,by (repeat' (first|exact FrSub.nil|(apply FrSub.cons;exact rfl))),by (repeat' (first|exact HpSub.refl _))⟩
 rintro ⟨⟩ -
 try dsimp only
 refine t_cut (ι:=Unit) (fun _=>[(0,.slice (some ⟨g,0,none⟩) n cp),(1,.int .i64 ((a:Nat):Int)),(2,.int .i64 ((b:Nat):Int)),(3,.func (.func kf) #[] #[]),(8,.int .i64 ((m:Nat):Int)),(9,.pointer (some ⟨bx,0,none⟩)),(10,.int .u64 (2 ^ j)),(11,.int .i64 (((a+q4*2-1):Nat):Int))]) (fun _=>[(g,coB fx fy (Z),some (111,2,cp)),(bx,[.int .u64 ((m:Nat):Int)],some (297,1,1))]) (fun _=>True) ?_ ?_
 · repeat' (first|((with_reducible apply oq_id);first|(focus ((with_reducible apply (oq_quoL (k:=((q4:Nat):Int))));exact rfl;exact rfl;exact ⟨hq5,by decide,by omega,by omega⟩))|(focus ((with_reducible apply (oq_mulE (k:=((q4*2:Nat):Int))));exact rfl;exact rfl;omega))|(focus ((with_reducible apply (oq_addE (k:=((a+q4*2:Nat):Int))));exact rfl;exact rfl;omega))|(focus ((with_reducible apply (oq_subE (k:=((a+q4*2-1:Nat):Int))));exact rfl;exact rfl;omega))|(apply oq_fn;exact rfl;first|exact trivial|(and_intros<;>omega)|omega|skip))|((with_reducible apply tl_id);first|(with_reducible apply tl_nil)|((with_reducible apply u_q);(iterate 4 exact rfl)))|((with_reducible apply t_id);first|(apply t_region;kernel_rfl))|omega)
   all_goals exact ⟨by trivial,(),trivial,by (repeat' (first|exact FrSub.nil|(apply FrSub.cons;exact rfl))),by (repeat' (first|exact HpSub.refl _))⟩
 rintro ⟨⟩ -
 try dsimp only
 repeat' (first|((with_reducible apply t_id);first|(with_reducible apply t_block)))
 apply t_loopP (ι:=Nat×Int×List α) [0,1,2,3,8,9,10] (fun z=>[(11,.int .i64 ((z.1:Nat):Int))]) (fun z=>[(g,coB fx fy (z.2.2),some (111,2,cp)),(bx,[.int .u64 z.2.1],some (297,1,1))]) (fun z=>a+q4*2-1≤z.1∧z.1≤a+q4*2+2∧InU z.2.1∧Sg a b Z z.2.2) (fun z=>a+q4*2+2-z.1) (a+q4*2-1,((m:Nat):Int),Z)
 (repeat (first|exact KeepF.nil|(apply KeepF.cons;exact rfl)|apply KeepF.skip))
 (repeat first|exact FrSub.nil|(apply FrSub.cons;exact rfl))
 (try simp only [List.cons_append,List.nil_append])
 (repeat' (first|exact HpSub.refl _))
 · exact ⟨Nat.le_refl _,(by simp only;omega),⟨by simp only;omega,by simp only;omega⟩,Sg.refl (by omega) (by omega)⟩
 rintro ⟨i,s,Y⟩ ⟨hi1,hi2,hsu,hs⟩
 simp only at hi1 hi2 hsu hs
 try simp only [List.cons_append,List.nil_append]
 have hYl:=hs.len
 by_cases hlt:i≤a+q4*2+1
 rotate_left
 · repeat' (first|((with_reducible apply oq_id);first|(focus ((with_reducible apply (oq_quoL (k:=((q4:Nat):Int))));exact rfl;exact rfl;exact ⟨hq5,by decide,by omega,by omega⟩))|(focus ((with_reducible apply (oq_mulE (k:=((q4*2:Nat):Int))));exact rfl;exact rfl;omega))|(focus ((with_reducible apply (oq_addE (k:=((a+q4*2:Nat):Int))));exact rfl;exact rfl;omega))|(focus ((with_reducible apply (oq_addE (k:=((a+q4*2+1:Nat):Int))));exact rfl;exact rfl;omega))|((with_reducible apply oq_leqF);exact rfl;exact rfl;omega)|(apply oq_fn;exact rfl;first|exact trivial|(and_intros<;>omega)|omega|skip))|((with_reducible apply tl_id);first|(with_reducible apply tl_nil)|((with_reducible apply u_q);(iterate 4 exact rfl)))|((with_reducible apply t_id);first|(with_reducible apply t_seq)|(apply t_region;kernel_rfl)|((with_reducible apply t_condF);exact rfl)|(with_reducible apply t_exit))|with_reducible apply q_thenN|with_reducible apply q_thenE|((with_reducible apply q_blockE);exact rfl)|(with_reducible apply end_normal)|exact rvs_nil|omega)
   all_goals exact ⟨_,⟨rfl,Y,hs,rfl⟩,HpSub.w (by (repeat (first|exact HpSub.refl _|(apply HpSub.consE;(repeat first|exact P0|apply P1);exact rfl)|apply HpSub.skipX|exact HpSub.nil)))⟩
 refine t_cut (ι:=Unit) (fun _=>[(0,.slice (some ⟨g,0,none⟩) n cp),(1,.int .i64 ((a:Nat):Int)),(2,.int .i64 ((b:Nat):Int)),(3,.func (.func kf) #[] #[]),(8,.int .i64 ((m:Nat):Int)),(9,.pointer (some ⟨bx,0,none⟩)),(10,.int .u64 (2 ^ j)),(11,.int .i64 ((i:Nat):Int))]) (fun _=>[(g,coB fx fy (Y),some (111,2,cp)),(bx,[.int .u64 s],some (297,1,1))]) (fun _=>True) ?_ ?_
 · repeat' (first|((with_reducible apply oq_id);first|(focus ((with_reducible apply (oq_quoL (k:=((q4:Nat):Int))));exact rfl;exact rfl;exact ⟨hq5,by decide,by omega,by omega⟩))|(focus ((with_reducible apply (oq_mulE (k:=((q4*2:Nat):Int))));exact rfl;exact rfl;omega))|(focus ((with_reducible apply (oq_addE (k:=((a+q4*2:Nat):Int))));exact rfl;exact rfl;omega))|(focus ((with_reducible apply (oq_addE (k:=((a+q4*2+1:Nat):Int))));exact rfl;exact rfl;omega))|((with_reducible apply oq_leqT);exact rfl;exact rfl;omega)|(apply oq_fn;exact rfl;first|exact trivial|(and_intros<;>omega)|omega|skip))|((with_reducible apply tl_id);first|(with_reducible apply tl_nil)|((with_reducible apply u_q);(iterate 4 exact rfl)))|((with_reducible apply t_id);first|(with_reducible apply t_seq)|(apply t_region;kernel_rfl)|((with_reducible apply t_condT);exact rfl)|(with_reducible apply t_skip))|with_reducible apply q_thenN|omega)
   all_goals exact ⟨by trivial,(),trivial,by (repeat' (first|exact FrSub.nil|(apply FrSub.cons;exact rfl))),by (repeat' (first|exact HpSub.refl _))⟩
 rintro ⟨⟩ -
 try dsimp only
 with_reducible apply t_seq
 with_reducible apply t_block
 refine t_cut (ι:=Nat×Int) (fun z=>[(0,.slice (some ⟨g,0,none⟩) n cp),(1,.int .i64 ((a:Nat):Int)),(2,.int .i64 ((b:Nat):Int)),(3,.func (.func kf) #[] #[]),(8,.int .i64 ((m:Nat):Int)),(9,.pointer (some ⟨bx,0,none⟩)),(10,.int .u64 (2 ^ j)),(11,.int .i64 ((i:Nat):Int)),(12,.int .i64 ((z.1:Nat):Int))]) (fun z=>[(g,coB fx fy (Y),some (111,2,cp)),(bx,[.int .u64 z.2],some (297,1,1))]) (fun z=>z.1<2*m∧InU z.2) ?_ ?_
 · repeat' (first|((with_reducible apply oq_id);first|(focus ((with_reducible apply (oq_subUE (k:=2 ^ j-1)));(iterate 3 exact rfl);exact hju))|(focus ((with_reducible apply (oq_andE (j:=j) (k:=((o:Nat):Int))));exact rfl;exact rfl;exact hz;omega;exact rfl;exact ho))|(apply oq_fn;exact rfl;first|exact trivial|(and_intros<;>omega)|omega|skip))|((with_reducible apply tl_id);first|(with_reducible apply tl_nil)|((with_reducible apply u_s);(iterate 3 exact rfl);(with_reducible apply os_callM (PV:=fun v H1=>(∃ z:Int,InU z∧v=.int .u64 z∧H1=[(bx,[.int .u64 z],some (297,1,1))])) (G:=[(bx,[.int .u64 s],some (297,1,1))]) (R:=[(g,coB fx fy (Y),some (111,2,cp))]) (hc:=Try.call212));exact rfl;exact rfl;(repeat (first|exact HpSub.refl _|(apply HpSub.consE;(repeat first|exact P0|apply P1);exact rfl)|apply HpSub.skipX|apply HpSub.skipX|exact HpSub.nil));exact fun D w1 hw1 hg1=>next_M bx s hsu w1 hg1;rintro _ _ ⟨z,hz,rfl,rfl⟩;obtain ⟨o,ho,hoj⟩:=modU j hz;(try simp only [List.cons_append,List.nil_append,List.append_nil]))|((with_reducible apply u_q);(iterate 4 exact rfl)))|((with_reducible apply t_id);first|(apply t_region;kernel_rfl)))
   all_goals exact ⟨by trivial,(o,z),⟨by simp only;omega,hz⟩,by (repeat' (first|exact FrSub.nil|(apply FrSub.cons;exact rfl))),by (repeat' (first|exact HpSub.refl _|(apply HpSub.consE;(repeat first|exact P0|apply P1);first|exact rfl|(simp;done))))⟩
 rintro ⟨o,z⟩ ⟨ho,hz⟩
 simp only at ho hz
 try dsimp only
 refine t_cut (ι:=Nat) (fun o=>[(0,.slice (some ⟨g,0,none⟩) n cp),(1,.int .i64 ((a:Nat):Int)),(2,.int .i64 ((b:Nat):Int)),(3,.func (.func kf) #[] #[]),(8,.int .i64 ((m:Nat):Int)),(9,.pointer (some ⟨bx,0,none⟩)),(10,.int .u64 (2 ^ j)),(11,.int .i64 ((i:Nat):Int)),(12,.int .i64 ((o:Nat):Int))]) (fun _=>[(g,coB fx fy (Y),some (111,2,cp)),(bx,[.int .u64 z],some (297,1,1))]) (fun o=>o<m) ?_ ?_
 · by_cases hom:m≤o
   · repeat' (first|((with_reducible apply oq_id);first|(focus ((with_reducible apply (oq_subE (k:=((o-m:Nat):Int))));exact rfl;exact rfl;omega))|((with_reducible apply oq_geqT);exact rfl;exact rfl;omega)|(apply oq_fn;exact rfl;first|exact trivial|(and_intros<;>omega)|omega|skip))|((with_reducible apply tl_id);first|(with_reducible apply tl_nil)|((with_reducible apply u_q);(iterate 4 exact rfl)))|((with_reducible apply t_id);first|(with_reducible apply t_seq)|(apply t_region;kernel_rfl)|((with_reducible apply t_condT);exact rfl))|with_reducible apply q_thenN)
     all_goals exact ⟨by trivial,o-m,(by omega),by (repeat' (first|exact FrSub.nil|(apply FrSub.cons;exact rfl))),by (repeat' (first|exact HpSub.refl _))⟩
   · repeat' (first|((with_reducible apply oq_id);first|((with_reducible apply oq_geqF);exact rfl;exact rfl;omega)|(apply oq_fn;exact rfl;first|exact trivial|(and_intros<;>omega)|omega|skip))|((with_reducible apply tl_id);first|(with_reducible apply tl_nil)|((with_reducible apply u_q);(iterate 4 exact rfl)))|((with_reducible apply t_id);first|(with_reducible apply t_seq)|(apply t_region;kernel_rfl)|((with_reducible apply t_condF);exact rfl)|(with_reducible apply t_skip))|with_reducible apply q_thenN)
     all_goals exact ⟨by trivial,o,(by omega),by (repeat' (first|exact FrSub.nil|(apply FrSub.cons;exact rfl))),by (repeat' (first|exact HpSub.refl _))⟩
 rintro o' ho'
 try dsimp only
 obtain ⟨x,hx⟩:∃ x,Y[i]?=some x:=⟨_,List.getElem?_eq_getElem (by omega)⟩
 obtain ⟨y,hy⟩:∃ y,Y[a+o']?=some y:=⟨_,List.getElem?_eq_getElem (by omega)⟩
 have hy2:=swp_get hx hy
 obtain ⟨q0,q1⟩:=co_at (fx:=fx) (fy:=fy) hx
 obtain ⟨r0,r1⟩:=co_at (fx:=fx) (fy:=fy) hy
 repeat' (first|((with_reducible apply oq_id);first|(focus ((with_reducible apply oq_indexAddrN);(iterate 4 exact rfl);omega))|(focus ((with_reducible apply (oq_addE (k:=((a+o':Nat):Int))));exact rfl;exact rfl;omega))|(focus ((with_reducible apply (oq_addE (k:=((i+1:Nat):Int))));exact rfl;exact rfl;omega))|(apply oq_fn;exact rfl;first|exact trivial|(and_intros<;>omega)|omega|skip)|((with_reducible apply oq_loadAgg);exact rfl;exact rfl))|((with_reducible apply tl_id);first|(with_reducible apply tl_nil)|((with_reducible apply u_q);(iterate 4 exact rfl)))|((with_reducible apply gx_id);first|(with_reducible apply v_nil)|((with_reducible apply v_q);(iterate 3 exact rfl)))|((with_reducible apply os_id);first|((with_reducible apply (os_storeCo (fx:=fx) (fy:=fy) y hx rfl));(iterate 3 exact rfl);(repeat first|exact P0|apply P1))|((with_reducible apply (os_storeCo (fx:=fx) (fy:=fy) x hy2 rfl));(iterate 3 exact rfl);(repeat first|exact P0|apply P1)))|((with_reducible apply ai_id);first|((with_reducible apply ai_q);(iterate 5 exact rfl))|((with_reducible apply ai_n0);(iterate 3 exact rfl)))|((with_reducible apply al_keep);focus (repeat (first|exact HpSub.refl _|(apply HpSub.cons;(repeat first|exact P0|apply P1))|apply HpSub.skipX|exact HpSub.nil)))|((with_reducible apply rd_id);first|(apply Rd.own;(repeat first|exact P0|apply P1);with_reducible (first|exact q0|exact q1|exact r0|exact r1|exact s0|exact s1);done))|((with_reducible apply t_id);first|(apply t_mixZ (id:=10) [0,1,2,3,4,5,6,7,8,9,10,12,13,14] 6;kernel_rfl;kernel_rfl;exact rfl)|(apply t_region;kernel_rfl))|with_reducible apply q_thenN|with_reducible apply q_blockN|exact Rdn.zero|apply Rdn.succ|((with_reducible apply al_id);first|(apply al_done;decide +kernel)|(apply al_one 11;decide +kernel)|(apply al_one 15;decide +kernel)|(apply al_one 16;decide +kernel)|(apply al_one 17;decide +kernel)|(apply al_one 18;decide +kernel)|(apply al_one 19;decide +kernel)|(apply al_two 11 15;decide +kernel)))
 all_goals (refine ⟨(i+1,z,(Y.set i y).set (a+o') x),⟨(by simp only;omega),(by simp only;omega),hz,hs.swap hx hy (by omega) (by omega)⟩,(by simp only;omega),?_,?_⟩<;>(repeat' (first|exact FrSub.nil|(apply FrSub.cons;exact rfl)|exact HpSub.refl _)))
end Go.Proofs.Ytcjkndjjbjoehaa
namespace Go.Proofs.Ytcjkndjjbjoehaa
section
variable {α:Type} {lt:α→α→Bool}
def Kid (i c:Nat):Prop:=c=2*i+1∨c=2*i+2
structure HeX (lt:α→α→Bool) (f lo hi:Nat) (r:Option Nat) (Z:List α):Prop where
 le:∀ i c x y,lo≤i→some i≠r→Kid i c→c<hi→Z[f+i]?=some x→Z[f+c]?=some y→lt x y=false
 up:∀ p i c x y,some i=r→lo≤p→Kid p i→Kid i c→c<hi→Z[f+p]?=some x→Z[f+c]?=some y→lt x y=false
theorem HeX.done {f lo hi r:Nat} {Z:List α} (h:HeX lt f lo hi (some r) Z) (hr:∀ c x y,Kid r c→c<hi→Z[f+r]?=some x→Z[f+c]?=some y→lt x y=false):HeX lt f lo hi none Z:=
 ⟨fun i c x y h1 _ h3 h4 h5 h6=>by
   by_cases e:i=r
   · subst e;exact hr c x y h3 h4 h5 h6
   · exact h.le i c x y h1 (fun k=>e (Option.some.inj k)) h3 h4 h5 h6,fun p i c x y h1=>nomatch h1⟩
theorem HeX.step (hw:Wo lt) {f lo hi r c:Nat} {Z:List α} {x y:α} (h:HeX lt f lo hi (some r) Z) (hlo:lo≤r) (hc:Kid r c) (hch:c<hi) (hx:Z[f+r]?=some x) (hy:Z[f+c]?=some y) (hxy:lt x y=true)
   (hg:∀ c2 z,Kid r c2→c2<hi→Z[f+c2]?=some z→lt y z=false):HeX lt f lo hi (some c) ((Z.set (f+r) y).set (f+c) x):=by
 refine ⟨fun i k u v h1 h2 h3 h4 h5 h6=>?_,fun p i k u v h1 h2 h3 h4 h5 h6 h7=>?_⟩
 · have hic:i≠c:=fun e=>h2 (by rw [e])
   rcases set2_at h5 with ⟨e,_⟩|⟨_,e,rfl⟩|⟨_,e2,e3⟩
   · omega
   · obtain rfl:i=r:=by omega
     rcases set2_at h6 with ⟨e,rfl⟩|⟨_,e,rfl⟩|⟨_,_,e3⟩
     · exact hw.asym _ _ hxy
     · unfold Kid at h3;omega
     · exact hg k v h3 h4 e3
   · have hir:i≠r:=by omega
     have hir2:some i≠some r:=fun k=>hir (Option.some.inj k)
     rcases set2_at h6 with ⟨e,rfl⟩|⟨_,e,rfl⟩|⟨_,_,e4⟩
     · unfold Kid at hc h3;omega
     · obtain rfl:k=r:=by omega
       exact h.up i k c u v rfl h1 h3 hc hch e3 hy
     · exact h.le i k u v h1 hir2 h3 h4 e3 e4
 · obtain rfl:=Option.some.inj h1
   have hpr:p=r:=by unfold Kid at h3 hc;omega
   subst hpr
   rcases set2_at h6 with ⟨e,_⟩|⟨_,_,rfl⟩|⟨_,e2,_⟩
   · unfold Kid at hc;omega
   · rcases set2_at h7 with ⟨e,_⟩|⟨_,e,_⟩|⟨_,_,e3⟩
     · unfold Kid at h4;omega
     · unfold Kid at h4 hc;omega
     · refine h.le i k u v (by unfold Kid at hc;omega) (fun k=>?_) h4 h5 hy e3
       have:=Option.some.inj k
       unfold Kid at hc;omega
   · omega
theorem HeX.top (hw:Wo lt) {f hi:Nat} {Z:List α} {x:α} (h:HeX lt f 0 hi none Z) (hZ:f+hi≤Z.length) (hx:Z[f]?=some x):∀ (n k:Nat) (y:α),k≤n→k<hi→Z[f+k]?=some y→lt x y=false
 | n,0,y,_,_,hy=>by
   rw [Nat.add_zero,hx] at hy
   obtain rfl:=Option.some.inj hy
   exact hw.irr x
 | 0,k+1,y,hk,_,_=>absurd hk (by omega)
 | n+1,k+1,y,hk,hk2,hy=>by
   obtain ⟨z,hz⟩:∃ z,Z[f+k / 2]?=some z:=⟨_,List.getElem?_eq_getElem (by omega)⟩
   have h1:=HeX.top hw h hZ hx n (k / 2) z (by omega) (by omega) hz
   have h2:=h.le (k / 2) (k+1) z y (Nat.zero_le _) (fun e=>nomatch e) (by unfold Kid;omega) hk2 hz hy
   exact hw.tr _ _ _ h2 h1
theorem HeX.down {f k hi:Nat} {Z:List α} (h:HeX lt f (k+1) hi none Z):HeX lt f k hi (some k) Z:=
 ⟨fun i c x y h1 h2=>h.le i c x y (by rcases Nat.lt_or_ge k i with e|e;exact e;exact absurd (by rw [show i=k by omega]) h2) (fun e=>nomatch e),fun p i c x y h1 h2 h3=>by
   obtain rfl:=Option.some.inj h1
   unfold Kid at h3;omega⟩
structure HeS (lt:α→α→Bool) (f k hi:Nat) (Z:List α):Prop where
 heap:HeX lt f 0 k none Z
 srt:So lt (f+k) (f+hi) Z
 gr:∀ i j x y,i<k→k≤j→j<hi→Z[f+i]?=some x→Z[f+j]?=some y→lt y x=false
theorem HeS.pop (hw:Wo lt) {f k hi:Nat} {Z:List α} {x y:α} (h:HeS lt f (k+1) hi Z) (hk:k<hi) (hZ:f+hi≤Z.length) (hx:Z[f]?=some x) (hy:Z[f+k]?=some y) :
   HeX lt f 0 k (some 0) ((Z.set f y).set (f+k) x)∧So lt (f+k) (f+hi) ((Z.set f y).set (f+k) x)∧∀ i,f≤i→i<f+k→∀ u,((Z.set f y).set (f+k) x)[i]?=some u→∀ j v,k≤j→j<hi→((Z.set f y).set (f+k) x)[f+j]?=some v→lt v u=false:=by
 have top:=h.heap.top hw (by omega) hx
 have low:∀ i u,f≤i→i<f+k→((Z.set f y).set (f+k) x)[i]?=some u→∃ j,j<k+1∧Z[f+j]?=some u:=by
   intro i u h1 h2 h3
   rcases set2_at h3 with ⟨e,_⟩|⟨_,e,rfl⟩|⟨_,_,e3⟩
   · omega
   · exact ⟨k,by omega,hy⟩
   · exact ⟨i-f,by omega,by rw [show f+(i-f)=i by omega];exact e3⟩
 have high:∀ j v,k≤j→j<hi→((Z.set f y).set (f+k) x)[f+j]?=some v→(j=k∧v=x)∨(k+1≤j∧Z[f+j]?=some v):=by
   intro j v h1 h2 h3
   rcases set2_at h3 with ⟨e,rfl⟩|⟨e1,e,rfl⟩|⟨e1,_,e3⟩
   · exact .inl ⟨by omega,rfl⟩
   · omega
   · exact .inr ⟨by omega,e3⟩
 refine ⟨⟨fun i c u v h1 h2 h3 h4 h5 h6=>?_,fun p i c u v h1 h2 h3=>?_⟩,fun i j u v h1 h2 h3 h4 h5=>?_,fun i h1 h2 u h3 j v h4 h5 h6=>?_⟩
 · have hi0:i≠0:=fun e=>h2 (by rw [e])
   unfold Kid at h3
   rcases set2_at h5 with ⟨e,_⟩|⟨_,e,_⟩|⟨_,_,e3⟩
   · omega
   · omega
   · rcases set2_at h6 with ⟨e,_⟩|⟨_,e,_⟩|⟨_,_,e4⟩
     · omega
     · omega
     · exact h.heap.le i c u v (Nat.zero_le _) (fun e=>nomatch e) h3 (by omega) e3 e4
 · obtain rfl:=Option.some.inj h1
   unfold Kid at h3;omega
 · obtain ⟨a,rfl⟩:∃ a,i=f+a:=⟨i-f,by omega⟩
   obtain ⟨b,rfl⟩:∃ b,j=f+b:=⟨j-f,by omega⟩
   rcases high b v (by omega) (by omega) h5 with ⟨e,_⟩|⟨e,ev⟩
   · omega
   · rcases high a u (by omega) (by omega) h4 with ⟨_,rfl⟩|⟨ea,eu⟩
     · exact h.gr 0 b u v (by omega) e (by omega) hx ev
     · exact h.srt (f+a) (f+b) u v (by omega) h2 h3 eu ev
 · obtain ⟨a,ha,eu⟩:=low i u h1 h2 h3
   rcases high j v h4 h5 h6 with ⟨_,rfl⟩|⟨ej,ev⟩
   · exact top _ a u (Nat.le_refl _) ha eu
   · exact h.gr a j u v ha ej h5 eu ev
theorem HeS.next {f k hi:Nat} {W W':List α} (hk:k<hi) (hX:HeX lt f 0 k none W') (hs:Sg (f+0) (f+k) W W') (hso:So lt (f+k) (f+hi) W) (hg:∀ i,f≤i→i<f+k→∀ u,W[i]?=some u→∀ j v,k≤j→j<hi→W[f+j]?=some v→lt v u=false):HeS lt f k hi W':=by
 refine ⟨hX,fun i j x y h1 h2 h3 h4 h5=>?_,fun i j x y h1 h2 h3 h4 h5=>?_⟩
 · rw [hs.out (.inr h1)] at h4
   rw [hs.out (.inr (by omega))] at h5
   exact hso i j x y h1 h2 h3 h4 h5
 · rw [hs.out (.inr (by omega))] at h5
   exact hs.mem (p:=fun u=>∀ j v,k≤j→j<hi→W[f+j]?=some v→lt v u=false) (fun i u h1 h2 h3=>hg i (by omega) h2 u h3) (f+i) x (by omega) (by omega) h4 j y h2 h3 h5
end
end Go.Proofs.Ytcjkndjjbjoehaa
namespace Go.Proofs.Ytcjkndjjbjoehaa
open Go.RowKit
attribute [local irreducible] OQ OS OX Rd T TL GX GL AL AI RV wpG SAny Calls
theorem hep_r {α:Type} {lt:α→α→Bool} (hw:Wo lt) {f r hi:Nat} {Y:List α} {u v:α} (hu:Y[f+(2*r+1)]?=some u) (hv:Y[f+(2*r+1)+1]?=some v) (h:lt u v=true):∀ c2 z y,Kid r c2→c2<hi→Y[f+(2*r+1+1)]?=some y→Y[f+c2]?=some z→lt y z=false:=by
 intro c2 z y h1 h2 h3 h4
 rw [← Nat.add_assoc,hv] at h3
 obtain rfl:=Option.some.inj h3
 rcases h1 with rfl|rfl
 · rw [hu] at h4;obtain rfl:=Option.some.inj h4;exact hw.asym _ _ h
 · rw [show f+(2*r+2)=f+(2*r+1)+1 by omega,hv] at h4;obtain rfl:=Option.some.inj h4;exact hw.irr _
theorem hep_l {α:Type} {lt:α→α→Bool} (hw:Wo lt) {f r hi:Nat} {Y:List α} {u v:α} (hu:Y[f+(2*r+1)]?=some u) (hv:Y[f+(2*r+1)+1]?=some v) (h:¬ lt u v=true):∀ c2 z y,Kid r c2→c2<hi→Y[f+(2*r+1)]?=some y→Y[f+c2]?=some z→lt y z=false:=by
 intro c2 z y h1 h2 h3 h4
 rw [hu] at h3
 obtain rfl:=Option.some.inj h3
 rcases h1 with rfl|rfl
 · rw [hu] at h4;obtain rfl:=Option.some.inj h4;exact hw.irr _
 · rw [show f+(2*r+2)=f+(2*r+1)+1 by omega,hv] at h4;obtain rfl:=Option.some.inj h4
   cases hc:lt u v with
   | false=>rfl
   | true=>exact absurd hc h
theorem hep_1 {α:Type} {lt:α→α→Bool} (hw:Wo lt) {f r hi:Nat} {Y:List α} {u:α} (hu:Y[f+(2*r+1)]?=some u) (h:¬ 2*r+1+1<hi):∀ c2 z y,Kid r c2→c2<hi→Y[f+(2*r+1)]?=some y→Y[f+c2]?=some z→lt y z=false:=by
 intro c2 z y h1 h2 h3 h4
 rw [hu] at h3
 obtain rfl:=Option.some.inj h3
 rcases h1 with rfl|rfl
 · rw [hu] at h4;obtain rfl:=Option.some.inj h4;exact hw.irr _
 · omega
theorem sift_M {α:Type} {fx fy:α→Int} {lt:α→α→Bool} {kf:Nat} (hw:Wo lt) (HK:CmpOk fx fy lt kf) (g cp n lo hi f:Nat) (Z:List α) (w:World) (hH:Has w ⟨[g],[]⟩ [(g,coB fx fy (Z),some (111,2,cp))] w) (hn:Z.length=n) (hn1:n≤1000000) (hlh:lo≤hi) (hb:f+hi≤n) (hX:HeX lt f lo hi (some lo) Z) :
   Calls Try.prog 210 #[.slice (some ⟨g,0,none⟩) n cp,.int .i64 ((lo:Nat):Int),.int .i64 ((hi:Nat):Int),.int .i64 ((f:Nat):Int),.func (.func kf) #[] #[]] w fun e w'=>∃ v H1,e=.returned v∧(v=.tuple #[]∧∃ W,HeX lt f lo hi none W∧Sg (f+lo) (f+hi) Z W∧H1=[(g,coB fx fy (W),some (111,2,cp))])∧Has w ⟨[g],[]⟩ H1 w':=by
 refine enterM (c:=cxM [g] w 82) Try.func210 rfl rfl rfl hH ?_
 refine t_cut (ι:=Unit) (fun _=>[(0,.slice (some ⟨g,0,none⟩) n cp),(2,.int .i64 ((hi:Nat):Int)),(3,.int .i64 ((f:Nat):Int)),(4,.func (.func kf) #[] #[]),(10,.int .i64 ((lo:Nat):Int))]) (fun _=>[(g,coB fx fy (Z),some (111,2,cp))]) (fun _=>True) ?_ ?_
 · repeat' (first|((with_reducible apply oq_id);first|(apply oq_fn;exact rfl;first|exact trivial|(and_intros<;>omega)|omega|skip))|((with_reducible apply tl_id);first|(with_reducible apply tl_nil)|((with_reducible apply u_q);(iterate 4 exact rfl)))|((with_reducible apply t_id);first|(apply t_region;kernel_rfl)))
   all_goals exact ⟨by trivial,(),trivial,by (repeat' (first|exact FrSub.nil|(apply FrSub.cons;exact rfl))),by (repeat' (first|exact HpSub.refl _))⟩
 rintro ⟨⟩ -
 try dsimp only
 (with_reducible apply t_block)
 apply t_loopP (ι:=Nat×List α) [0,2,3,4] (fun z=>[(10,.int .i64 ((z.1:Nat):Int))]) (fun z=>[(g,coB fx fy (z.2),some (111,2,cp))]) (fun z=>(lo≤z.1∧z.1≤hi)∧HeX lt f lo hi (some z.1) z.2∧Sg (f+lo) (f+hi) Z z.2) (fun z=>hi-z.1) (lo,Z)
 (repeat (first|exact KeepF.nil|(apply KeepF.cons;exact rfl)|apply KeepF.skip))
 (repeat first|exact FrSub.nil|(apply FrSub.cons;exact rfl))
 (try simp only [List.cons_append,List.nil_append])
 (repeat' (first|exact HpSub.refl _))
 · exact ⟨⟨Nat.le_refl _,hlh⟩,hX,Sg.refl (by omega) (by omega)⟩
 rintro ⟨r,Y⟩ ⟨⟨hr,hrh⟩,hx,hs⟩
 simp only at hr hrh hx hs
 try simp only [List.cons_append,List.nil_append]
 have hYl:=hs.len
 (with_reducible apply t_block)
 refine t_cut (ι:=Unit) (fun _=>[(0,.slice (some ⟨g,0,none⟩) n cp),(2,.int .i64 ((hi:Nat):Int)),(3,.int .i64 ((f:Nat):Int)),(4,.func (.func kf) #[] #[]),(10,.int .i64 ((r:Nat):Int)),(11,.int .i64 (((2*r+1):Nat):Int))]) (fun _=>[(g,coB fx fy (Y),some (111,2,cp))]) (fun _=>True) ?_ ?_
 · repeat' (first|((with_reducible apply oq_id);first|(focus ((with_reducible apply (oq_mulE (k:=((2*r:Nat):Int))));exact rfl;exact rfl;omega))|(focus ((with_reducible apply (oq_addE (k:=((2*r+1:Nat):Int))));exact rfl;exact rfl;omega))|(apply oq_fn;exact rfl;first|exact trivial|(and_intros<;>omega)|omega|skip))|((with_reducible apply tl_id);first|(with_reducible apply tl_nil)|((with_reducible apply u_q);(iterate 4 exact rfl)))|((with_reducible apply t_id);first|(apply t_region;kernel_rfl))|omega)
   all_goals exact ⟨by trivial,(),trivial,by (repeat' (first|exact FrSub.nil|(apply FrSub.cons;exact rfl))),by (repeat' (first|exact HpSub.refl _))⟩
 rintro ⟨⟩ -
 try dsimp only
 by_cases hch:2*r+1<hi
 rotate_left
 · repeat' (first|((with_reducible apply oq_id);first|((with_reducible apply oq_geqT);exact rfl;exact rfl;omega)|(apply oq_fn;exact rfl;first|exact trivial|(and_intros<;>omega)|omega|skip))|((with_reducible apply tl_id);first|(with_reducible apply tl_nil)|((with_reducible apply u_q);(iterate 4 exact rfl)))|((with_reducible apply t_id);first|(with_reducible apply t_seq)|(apply t_region;kernel_rfl)|((with_reducible apply t_condT);exact rfl)|(with_reducible apply t_exit))|with_reducible apply q_thenN|with_reducible apply q_thenE|((with_reducible apply q_blockE);exact rfl)|((with_reducible apply q_blockO);exact rfl)|(with_reducible apply end_normal)|exact rvs_nil)
   all_goals exact ⟨_,⟨rfl,Y,hx.done fun c x y h1 h2=>absurd h2 (by unfold Kid at h1;omega),hs,rfl⟩,HpSub.w (by (repeat (first|exact HpSub.refl _|(apply HpSub.consE;(repeat first|exact P0|apply P1);exact rfl)|apply HpSub.skipX|exact HpSub.nil)))⟩
 refine t_cut (ι:=Unit) (fun _=>[(0,.slice (some ⟨g,0,none⟩) n cp),(2,.int .i64 ((hi:Nat):Int)),(3,.int .i64 ((f:Nat):Int)),(4,.func (.func kf) #[] #[]),(10,.int .i64 ((r:Nat):Int)),(11,.int .i64 (((2*r+1):Nat):Int))]) (fun _=>[(g,coB fx fy (Y),some (111,2,cp))]) (fun _=>True) ?_ ?_
 · repeat' (first|((with_reducible apply oq_id);first|((with_reducible apply oq_geqF);exact rfl;exact rfl;omega)|(apply oq_fn;exact rfl;first|exact trivial|(and_intros<;>omega)|omega|skip))|((with_reducible apply tl_id);first|(with_reducible apply tl_nil)|((with_reducible apply u_q);(iterate 4 exact rfl)))|((with_reducible apply t_id);first|(with_reducible apply t_seq)|(apply t_region;kernel_rfl)|((with_reducible apply t_condF);exact rfl)|(with_reducible apply t_skip))|with_reducible apply q_thenN)
   all_goals exact ⟨by trivial,(),trivial,by (repeat' (first|exact FrSub.nil|(apply FrSub.cons;exact rfl))),by (repeat' (first|exact HpSub.refl _))⟩
 rintro ⟨⟩ -
 try dsimp only
 obtain ⟨x,hx1⟩:∃ x,Y[f+r]?=some x:=⟨_,List.getElem?_eq_getElem (by omega)⟩
 obtain ⟨u,hu⟩:∃ x,Y[f+(2*r+1)]?=some x:=⟨_,List.getElem?_eq_getElem (by omega)⟩
 refine t_cut (ι:=Nat) (fun c=>[(0,.slice (some ⟨g,0,none⟩) n cp),(2,.int .i64 ((hi:Nat):Int)),(3,.int .i64 ((f:Nat):Int)),(4,.func (.func kf) #[] #[]),(10,.int .i64 ((r:Nat):Int)),(11,.int .i64 ((c:Nat):Int))]) (fun _=>[(g,coB fx fy (Y),some (111,2,cp))]) (fun c=>Kid r c∧c<hi∧∀ c2 z y,Kid r c2→c2<hi→Y[f+c]?=some y→Y[f+c2]?=some z→lt y z=false) ?_ ?_
 · by_cases h2:2*r+1+1<hi
   · obtain ⟨v,hv⟩:∃ x,Y[f+(2*r+1)+1]?=some x:=⟨_,List.getElem?_eq_getElem (by omega)⟩
     obtain ⟨q0,q1⟩:=co_at (fx:=fx) (fy:=fy) hu
     obtain ⟨r0,r1⟩:=co_at (fx:=fx) (fy:=fy) hv
     obtain ⟨o,HC,ho⟩:=HK.cmp u v
     by_cases HN:o<0
     · repeat' (first|((with_reducible apply oq_id);first|((with_reducible apply oq_lssT);exact rfl;exact rfl;exact HN)|(focus ((with_reducible apply oq_indexAddrN);(iterate 4 exact rfl);omega))|(focus ((with_reducible apply (oq_addE (k:=((f+(2*r+1)+1:Nat):Int))));exact rfl;exact rfl;omega))|(focus ((with_reducible apply (oq_addE (k:=((f+(2*r+1):Nat):Int))));exact rfl;exact rfl;omega))|(focus ((with_reducible apply (oq_addE (k:=((2*r+1+1:Nat):Int))));exact rfl;exact rfl;omega))|((with_reducible apply oq_lssT);exact rfl;exact rfl;omega)|(apply oq_fn;exact rfl;first|exact trivial|(and_intros<;>omega)|omega|skip)|((with_reducible apply oq_loadAgg);exact rfl;exact rfl)|((with_reducible apply oq_call (k:=kf) (hc:=HK.call));exact rfl;exact rfl;exact fun D w1 hw1=>HC w1))|((with_reducible apply tl_id);first|(with_reducible apply tl_nil)|((with_reducible apply u_q);(iterate 4 exact rfl)))|((with_reducible apply gx_id);first|(with_reducible apply v_nil)|((with_reducible apply v_q);(iterate 3 exact rfl)))|((with_reducible apply rd_id);first|(apply Rd.own;(repeat first|exact P0|apply P1);with_reducible (first|exact q0|exact q1|exact r0|exact r1|exact s0|exact s1);done))|((with_reducible apply t_id);first|(apply t_mix (id:=3) [0,1,2,3,4,5,6,7,8,9,10,11,12,13,14,15,16,17,18,19,20,21] 0 #[false,false,false,false,false,false,false,false,false,false,false,false,false,false,false,false,false,false,false,false,false,false];kernel_rfl;kernel_rfl;exact rfl)|(with_reducible apply t_seq)|(apply t_region;kernel_rfl)|((with_reducible apply t_condT);exact rfl))|with_reducible apply q_thenN|exact Rdn.zero|apply Rdn.succ|((with_reducible apply al_id);first|(apply al_done;decide +kernel)))
       all_goals exact ⟨by trivial,2*r+1+1,⟨by unfold Kid;omega,h2,hep_r hw hu hv (ho.1 HN)⟩,by (repeat' (first|exact FrSub.nil|(apply FrSub.cons;exact rfl))),by (repeat' (first|exact HpSub.refl _))⟩
     · repeat' (first|((with_reducible apply oq_id);first|((with_reducible apply oq_lssF);exact rfl;exact rfl;exact HN)|(focus ((with_reducible apply oq_indexAddrN);(iterate 4 exact rfl);omega))|(focus ((with_reducible apply (oq_addE (k:=((f+(2*r+1)+1:Nat):Int))));exact rfl;exact rfl;omega))|(focus ((with_reducible apply (oq_addE (k:=((f+(2*r+1):Nat):Int))));exact rfl;exact rfl;omega))|(focus ((with_reducible apply (oq_addE (k:=((2*r+1+1:Nat):Int))));exact rfl;exact rfl;omega))|((with_reducible apply oq_lssT);exact rfl;exact rfl;omega)|(apply oq_fn;exact rfl;first|exact trivial|(and_intros<;>omega)|omega|skip)|((with_reducible apply oq_loadAgg);exact rfl;exact rfl)|((with_reducible apply oq_call (k:=kf) (hc:=HK.call));exact rfl;exact rfl;exact fun D w1 hw1=>HC w1))|((with_reducible apply gx_id);first|(with_reducible apply v_nil)|((with_reducible apply v_q);(iterate 3 exact rfl)))|((with_reducible apply rd_id);first|(apply Rd.own;(repeat first|exact P0|apply P1);with_reducible (first|exact q0|exact q1|exact r0|exact r1|exact s0|exact s1);done))|((with_reducible apply t_id);first|(apply t_mix (id:=3) [0,1,2,3,4,5,6,7,8,9,10,11,12,13,14,15,16,17,18,19,20,21] 0 #[false,false,false,false,false,false,false,false,false,false,false,false,false,false,false,false,false,false,false,false,false,false];kernel_rfl;kernel_rfl;exact rfl)|(with_reducible apply t_seq)|((with_reducible apply t_condF);exact rfl)|(with_reducible apply t_skip))|with_reducible apply q_thenN|exact Rdn.zero|apply Rdn.succ|((with_reducible apply al_id);first|(apply al_done;decide +kernel)))
       all_goals exact ⟨by trivial,2*r+1,⟨by unfold Kid;omega,hch,hep_l hw hu hv (fun e=>HN (ho.2 e))⟩,by (repeat' (first|exact FrSub.nil|(apply FrSub.cons;exact rfl))),by (repeat' (first|exact HpSub.refl _))⟩
   · repeat' (first|((with_reducible apply oq_id);first|(focus ((with_reducible apply (oq_addE (k:=((2*r+1+1:Nat):Int))));exact rfl;exact rfl;omega))|((with_reducible apply oq_lssF);exact rfl;exact rfl;omega)|(apply oq_fn;exact rfl;first|exact trivial|(and_intros<;>omega)|omega|skip))|((with_reducible apply gx_id);first|(with_reducible apply v_nil)|((with_reducible apply v_q);(iterate 3 exact rfl))|((with_reducible apply v_skip);(iterate 3 exact rfl)))|((with_reducible apply t_id);first|(apply t_mix (id:=3) [0,1,2,3,4,5,6,7,8,9,10,11,12,13,14,15,16,17,18,19,20,21] 0 #[false,false,false,false,false,false,false,false,false,false,false,false,false,false,false,false,false,false,false,false,false,false];kernel_rfl;kernel_rfl;exact rfl)|(with_reducible apply t_seq)|((with_reducible apply t_condF);exact rfl)|(with_reducible apply t_skip))|with_reducible apply q_thenN|((with_reducible apply al_id);first|(apply al_done;decide +kernel)))
     all_goals exact ⟨by trivial,2*r+1,⟨by unfold Kid;omega,hch,hep_1 hw hu h2⟩,by (repeat' (first|exact FrSub.nil|(apply FrSub.cons;exact rfl))),by (repeat' (first|exact HpSub.refl _))⟩
 rintro c ⟨hc,hchi,hg⟩
 try dsimp only
 obtain ⟨y,hy⟩:∃ x,Y[f+c]?=some x:=⟨_,List.getElem?_eq_getElem (by omega)⟩
 have hy2:=swp_get hx1 hy
 obtain ⟨q0,q1⟩:=co_at (fx:=fx) (fy:=fy) hx1
 obtain ⟨r0,r1⟩:=co_at (fx:=fx) (fy:=fy) hy
 obtain ⟨o,HC,ho⟩:=HK.cmp x y
 by_cases HN:o<0
 rotate_left
 · have hxy:lt x y=false:=by
     cases hc:lt x y with
     | false=>rfl
     | true=>exact absurd (ho.2 hc) HN
   repeat' (first|((with_reducible apply oq_id);first|((with_reducible apply oq_lssF);exact rfl;exact rfl;exact HN)|(focus ((with_reducible apply oq_indexAddrN);(iterate 4 exact rfl);omega))|(focus ((with_reducible apply (oq_addE (k:=((f+r:Nat):Int))));exact rfl;exact rfl;omega))|(focus ((with_reducible apply (oq_addE (k:=((f+c:Nat):Int))));exact rfl;exact rfl;omega))|(apply oq_fn;exact rfl;first|exact trivial|(and_intros<;>omega)|omega|skip)|((with_reducible apply oq_loadAgg);exact rfl;exact rfl)|((with_reducible apply oq_call (k:=kf) (hc:=HK.call));exact rfl;exact rfl;exact fun D w1 hw1=>HC w1))|((with_reducible apply gx_id);first|(with_reducible apply v_nil)|((with_reducible apply v_q);(iterate 3 exact rfl)))|((with_reducible apply rd_id);first|(apply Rd.own;(repeat first|exact P0|apply P1);with_reducible (first|exact q0|exact q1|exact r0|exact r1|exact s0|exact s1);done))|((with_reducible apply t_id);first|(apply t_mix (id:=5) [0,1,2,3,4,5,6,7,8,9,10,11,12,13,14,15] 0 #[false,false,false,false,false,false,false,false,false,false,false,false,false,false,false,false];kernel_rfl;kernel_rfl;exact rfl)|(with_reducible apply t_seq)|((with_reducible apply t_condT);exact rfl)|(with_reducible apply t_ret))|with_reducible apply q_thenN|with_reducible apply q_thenR|with_reducible apply q_blockR|exact Rdn.zero|apply Rdn.succ|(with_reducible apply end_ret)|exact rvs_nil|((with_reducible apply al_id);first|(apply al_done;decide +kernel)))
   all_goals exact ⟨_,⟨rfl,Y,hx.done fun k a b h1 h2 h3 h4=>by (rw [hx1] at h3;obtain rfl:=Option.some.inj h3;exact hw.tr _ _ _ (hg k b y h1 h2 hy h4) hxy),hs,rfl⟩,HpSub.w (by (repeat (first|exact HpSub.refl _|(apply HpSub.consE;(repeat first|exact P0|apply P1);exact rfl)|apply HpSub.skipX|exact HpSub.nil)))⟩
 have hcr:r<c:=by unfold Kid at hc;omega
 refine t_cut (ι:=Unit) (fun _=>[(0,.slice (some ⟨g,0,none⟩) n cp),(2,.int .i64 ((hi:Nat):Int)),(3,.int .i64 ((f:Nat):Int)),(4,.func (.func kf) #[] #[]),(10,.int .i64 ((r:Nat):Int)),(11,.int .i64 ((c:Nat):Int))]) (fun _=>[(g,coB fx fy (Y),some (111,2,cp))]) (fun _=>True) ?_ ?_
 · repeat' (first|((with_reducible apply oq_id);first|((with_reducible apply oq_lssT);exact rfl;exact rfl;exact HN)|(focus ((with_reducible apply oq_indexAddrN);(iterate 4 exact rfl);omega))|(focus ((with_reducible apply (oq_addE (k:=((f+r:Nat):Int))));exact rfl;exact rfl;omega))|(focus ((with_reducible apply (oq_addE (k:=((f+c:Nat):Int))));exact rfl;exact rfl;omega))|(apply oq_fn;exact rfl;first|exact trivial|(and_intros<;>omega)|omega|skip)|((with_reducible apply oq_loadAgg);exact rfl;exact rfl)|((with_reducible apply oq_call (k:=kf) (hc:=HK.call));exact rfl;exact rfl;exact fun D w1 hw1=>HC w1))|((with_reducible apply gx_id);first|(with_reducible apply v_nil)|((with_reducible apply v_q);(iterate 3 exact rfl)))|((with_reducible apply rd_id);first|(apply Rd.own;(repeat first|exact P0|apply P1);with_reducible (first|exact q0|exact q1|exact r0|exact r1|exact s0|exact s1);done))|((with_reducible apply t_id);first|(apply t_mix (id:=5) [0,1,2,3,4,5,6,7,8,9,10,11,12,13,14,15] 0 #[false,false,false,false,false,false,false,false,false,false,false,false,false,false,false,false];kernel_rfl;kernel_rfl;exact rfl)|(with_reducible apply t_seq)|((with_reducible apply t_condF);exact rfl)|(with_reducible apply t_skip))|with_reducible apply q_thenN|exact Rdn.zero|apply Rdn.succ|((with_reducible apply al_id);first|(apply al_done;decide +kernel)))
   all_goals exact ⟨by trivial,(),trivial,by (repeat' (first|exact FrSub.nil|(apply FrSub.cons;exact rfl))),by (repeat' (first|exact HpSub.refl _))⟩
 rintro ⟨⟩ -
 try dsimp only
 refine t_cut (ι:=Unit) (fun _=>[(0,.slice (some ⟨g,0,none⟩) n cp),(2,.int .i64 ((hi:Nat):Int)),(3,.int .i64 ((f:Nat):Int)),(4,.func (.func kf) #[] #[]),(11,.int .i64 ((c:Nat):Int))]) (fun _=>[(g,coB fx fy (((Y.set (f+r) y).set (f+c) x)),some (111,2,cp))]) (fun _=>True) ?_ ?_
 · repeat' (first|((with_reducible apply oq_id);first|(focus ((with_reducible apply oq_indexAddrN);(iterate 4 exact rfl);omega))|(focus ((with_reducible apply (oq_addE (k:=((f+r:Nat):Int))));exact rfl;exact rfl;omega))|(focus ((with_reducible apply (oq_addE (k:=((f+c:Nat):Int))));exact rfl;exact rfl;omega))|(apply oq_fn;exact rfl;first|exact trivial|(and_intros<;>omega)|omega|skip)|((with_reducible apply oq_loadAgg);exact rfl;exact rfl))|((with_reducible apply gx_id);first|(with_reducible apply v_nil)|((with_reducible apply v_q);(iterate 3 exact rfl)))|((with_reducible apply os_id);first|((with_reducible apply (os_storeCo (fx:=fx) (fy:=fy) y hx1 rfl));(iterate 3 exact rfl);(repeat first|exact P0|apply P1))|((with_reducible apply (os_storeCo (fx:=fx) (fy:=fy) x hy2 rfl));(iterate 3 exact rfl);(repeat first|exact P0|apply P1)))|((with_reducible apply ai_id);first|((with_reducible apply ai_q);(iterate 5 exact rfl))|((with_reducible apply ai_n0);(iterate 3 exact rfl)))|((with_reducible apply al_keep);focus (repeat (first|exact HpSub.refl _|(apply HpSub.cons;(repeat first|exact P0|apply P1))|apply HpSub.skipX|exact HpSub.nil)))|((with_reducible apply rd_id);first|(apply Rd.own;(repeat first|exact P0|apply P1);with_reducible (first|exact q0|exact q1|exact r0|exact r1|exact s0|exact s1);done))|((with_reducible apply t_id);first|(apply t_mixZ (id:=6) [0,1,2,3,4,5,6,7,8,9,10,11,12,14,15,16,17,18] 6;kernel_rfl;kernel_rfl;exact rfl))|exact Rdn.zero|apply Rdn.succ|((with_reducible apply al_id);first|(apply al_done;decide +kernel)|(apply al_one 13;decide +kernel)|(apply al_one 19;decide +kernel)|(apply al_one 20;decide +kernel)|(apply al_one 21;decide +kernel)|(apply al_one 22;decide +kernel)|(apply al_one 23;decide +kernel)|(apply al_two 13 19;decide +kernel)))
   all_goals exact ⟨by trivial,(),trivial,by (repeat' (first|exact FrSub.nil|(apply FrSub.cons;exact rfl))),by (repeat' (first|exact HpSub.refl _))⟩
 rintro ⟨⟩ -
 try dsimp only
 repeat' (first|((with_reducible apply oq_id);first|(apply oq_fn;exact rfl;first|exact trivial|(and_intros<;>omega)|omega|skip))|((with_reducible apply tl_id);first|(with_reducible apply tl_nil)|((with_reducible apply u_q);(iterate 4 exact rfl)))|((with_reducible apply t_id);first|(apply t_region;kernel_rfl))|with_reducible apply q_thenN|with_reducible apply q_blockN)
 all_goals (refine ⟨(c,(Y.set (f+r) y).set (f+c) x),⟨⟨(by simp only;omega),(by simp only;omega)⟩,hx.step hw hr hc hchi hx1 hy (ho.1 HN) (fun c2 z h1 h2 h3=>hg c2 z y h1 h2 hy h3),hs.swap hx1 hy (by omega) (by omega)⟩,(by simp only;omega),?_,?_⟩<;>(repeat' (first|exact FrSub.nil|(apply FrSub.cons;exact rfl)|exact HpSub.refl _)))
theorem heap_M {α:Type} {fx fy:α→Int} {lt:α→α→Bool} {kf:Nat} (hw:Wo lt) (HK:CmpOk fx fy lt kf) (g cp n a b:Nat) (Z:List α) (w:World) (hH:Has w ⟨[g],[]⟩ [(g,coB fx fy (Z),some (111,2,cp))] w) (hn:Z.length=n) (hn1:n≤1000000) (hab:a<b) (hb:b≤n) :
   Calls Try.prog 197 #[.slice (some ⟨g,0,none⟩) n cp,.int .i64 ((a:Nat):Int),.int .i64 ((b:Nat):Int),.func (.func kf) #[] #[]] w fun e w'=>∃ v H1,e=.returned v∧(v=.tuple #[]∧∃ W,So lt a b W∧Sg a b Z W∧H1=[(g,coB fx fy (W),some (111,2,cp))])∧Has w ⟨[g],[]⟩ H1 w':=by
 obtain ⟨m,hm⟩:∃ m,b-a=m:=⟨_,rfl⟩
 obtain ⟨k0,hk0⟩:∃ k,(m-1) / 2+1=k:=⟨_,rfl⟩
 have hq5:((m-1:Nat):Int).tdiv 2=((k0:Nat):Int)-1:=by
   rw [show ((m-1:Nat):Int).tdiv 2=(((m-1) / 2:Nat):Int) from rfl];omega
 refine enterM (c:=cxM [g] w 60) Try.func197 rfl rfl rfl hH ?_
 refine t_cut (ι:=Unit) (fun _=>[(0,.slice (some ⟨g,0,none⟩) n cp),(1,.int .i64 ((a:Nat):Int)),(2,.int .i64 ((b:Nat):Int)),(3,.func (.func kf) #[] #[]),(8,.int .i64 ((a:Nat):Int))]) (fun _=>[(g,coB fx fy (Z),some (111,2,cp))]) (fun _=>True) ?_ ?_
 · repeat' (first|((with_reducible apply oq_id);first|(apply oq_fn;exact rfl;first|exact trivial|(and_intros<;>omega)|omega|skip))|((with_reducible apply tl_id);first|(with_reducible apply tl_nil)|((with_reducible apply u_q);(iterate 4 exact rfl)))|((with_reducible apply t_id);first|(apply t_region;kernel_rfl)))
   all_goals exact ⟨by trivial,(),trivial,by (repeat' (first|exact FrSub.nil|(apply FrSub.cons;exact rfl))),by (repeat' (first|exact HpSub.refl _))⟩
 rintro ⟨⟩ -
 try dsimp only
 refine t_cut (ι:=Unit) (fun _=>[(0,.slice (some ⟨g,0,none⟩) n cp),(1,.int .i64 ((a:Nat):Int)),(2,.int .i64 ((b:Nat):Int)),(3,.func (.func kf) #[] #[]),(8,.int .i64 ((a:Nat):Int)),(9,.int .i64 0)]) (fun _=>[(g,coB fx fy (Z),some (111,2,cp))]) (fun _=>True) ?_ ?_
 · repeat' (first|((with_reducible apply oq_id);first|(apply oq_fn;exact rfl;first|exact trivial|(and_intros<;>omega)|omega|skip))|((with_reducible apply tl_id);first|(with_reducible apply tl_nil)|((with_reducible apply u_q);(iterate 4 exact rfl)))|((with_reducible apply t_id);first|(apply t_region;kernel_rfl)))
   all_goals exact ⟨by trivial,(),trivial,by (repeat' (first|exact FrSub.nil|(apply FrSub.cons;exact rfl))),by (repeat' (first|exact HpSub.refl _))⟩
 rintro ⟨⟩ -
 try dsimp only
 refine t_cut (ι:=Unit) (fun _=>[(0,.slice (some ⟨g,0,none⟩) n cp),(3,.func (.func kf) #[] #[]),(8,.int .i64 ((a:Nat):Int)),(9,.int .i64 0),(10,.int .i64 ((m:Nat):Int))]) (fun _=>[(g,coB fx fy (Z),some (111,2,cp))]) (fun _=>True) ?_ ?_
 · repeat' (first|((with_reducible apply oq_id);first|(focus ((with_reducible apply (oq_subE (k:=((m:Nat):Int))));exact rfl;exact rfl;omega))|(apply oq_fn;exact rfl;first|exact trivial|(and_intros<;>omega)|omega|skip))|((with_reducible apply tl_id);first|(with_reducible apply tl_nil)|((with_reducible apply u_q);(iterate 4 exact rfl)))|((with_reducible apply t_id);first|(apply t_region;kernel_rfl)))
   all_goals exact ⟨by trivial,(),trivial,by (repeat' (first|exact FrSub.nil|(apply FrSub.cons;exact rfl))),by (repeat' (first|exact HpSub.refl _))⟩
 rintro ⟨⟩ -
 try dsimp only
 refine t_cut (ι:=List α) (fun _=>[(0,.slice (some ⟨g,0,none⟩) n cp),(3,.func (.func kf) #[] #[]),(8,.int .i64 ((a:Nat):Int)),(9,.int .i64 0),(10,.int .i64 ((m:Nat):Int))]) (fun Y=>[(g,coB fx fy (Y),some (111,2,cp))]) (fun Y=>HeX lt a 0 m none Y∧Sg a b Z Y) ?_ ?_
 · refine t_cut (ι:=Unit) (fun _=>[(0,.slice (some ⟨g,0,none⟩) n cp),(3,.func (.func kf) #[] #[]),(8,.int .i64 ((a:Nat):Int)),(9,.int .i64 0),(10,.int .i64 ((m:Nat):Int)),(11,.int .i64 (((k0:Nat):Int)-1))]) (fun _=>[(g,coB fx fy (Z),some (111,2,cp))]) (fun _=>True) ?_ ?_
   · repeat' (first|((with_reducible apply oq_id);first|(focus ((with_reducible apply (oq_subE (k:=((m-1:Nat):Int))));exact rfl;exact rfl;omega))|(focus ((with_reducible apply (oq_quoL (k:=((k0:Nat):Int)-1)));exact rfl;exact rfl;exact ⟨hq5,by decide,by omega,by omega⟩))|(apply oq_fn;exact rfl;first|exact trivial|(and_intros<;>omega)|omega|skip))|((with_reducible apply tl_id);first|(with_reducible apply tl_nil)|((with_reducible apply u_q);(iterate 4 exact rfl)))|((with_reducible apply t_id);first|(apply t_region;kernel_rfl)))
     all_goals exact ⟨by trivial,(),trivial,by (repeat' (first|exact FrSub.nil|(apply FrSub.cons;exact rfl))),by (repeat' (first|exact HpSub.refl _))⟩
   rintro ⟨⟩ -
   try dsimp only
   (with_reducible apply t_block)
   apply t_loopP (ι:=Nat×List α) [0,3,8,9,10] (fun z=>[(11,.int .i64 (((z.1:Nat):Int)-1))]) (fun z=>[(g,coB fx fy (z.2),some (111,2,cp))]) (fun z=>z.1≤m∧HeX lt a z.1 m none z.2∧Sg a b Z z.2) (fun z=>z.1) (k0,Z)
   (repeat (first|exact KeepF.nil|(apply KeepF.cons;exact rfl)|apply KeepF.skip))
   (repeat first|exact FrSub.nil|(apply FrSub.cons;exact rfl))
   (try simp only [List.cons_append,List.nil_append])
   (repeat' (first|exact HpSub.refl _))
   · exact ⟨by simp only;omega,⟨fun i c x y h1 _ h3 h4=>by (simp only at h1;unfold Kid at h3;omega),fun p i c x y h1=>nomatch h1⟩,Sg.refl (by omega) (by omega)⟩
   rintro ⟨k,Y⟩ ⟨hkm,hX,hs⟩
   simp only at hkm hX hs
   try simp only [List.cons_append,List.nil_append]
   have hYl:=hs.len
   cases k with
   | zero=>
     repeat' (first|((with_reducible apply oq_id);first|((with_reducible apply oq_geqF);exact rfl;exact rfl;omega)|(apply oq_fn;exact rfl;first|exact trivial|(and_intros<;>omega)|omega|skip))|((with_reducible apply tl_id);first|(with_reducible apply tl_nil)|((with_reducible apply u_q);(iterate 4 exact rfl)))|((with_reducible apply t_id);first|(with_reducible apply t_seq)|(apply t_region;kernel_rfl)|((with_reducible apply t_condF);exact rfl)|(with_reducible apply t_exit))|with_reducible apply q_thenN|with_reducible apply q_thenE|((with_reducible apply q_blockE);exact rfl))
     all_goals exact ⟨by trivial,Y,⟨hX,hs⟩,by (repeat' (first|exact FrSub.nil|(apply FrSub.cons;exact rfl))),by (repeat' (first|exact HpSub.refl _))⟩
   | succ k=>
     rw [show ((k+1:Nat):Int)-1=(k:Int) by omega]
     repeat' (first|((with_reducible apply oq_id);first|(focus ((with_reducible apply (oq_subE (k:=(((k:Nat):Int)-1))));exact rfl;exact rfl;omega))|((with_reducible apply oq_geqT);exact rfl;exact rfl;omega)|(apply oq_fn;exact rfl;first|exact trivial|(and_intros<;>omega)|omega|skip))|((with_reducible apply tl_id);first|(with_reducible apply tl_nil)|((with_reducible apply u_s);(iterate 3 exact rfl);(with_reducible apply os_callM (PV:=fun v H1=>(v=.tuple #[]∧∃ W,HeX lt a k m none W∧Sg (a+k) (a+m) Y W∧H1=[(g,coB fx fy (W),some (111,2,cp))])) (G:=[(g,coB fx fy (Y),some (111,2,cp))]) (R:=[]) (hc:=Try.call210));exact rfl;exact rfl;(repeat (first|exact HpSub.refl _|(apply HpSub.consE;(repeat first|exact P0|apply P1);exact rfl)|apply HpSub.skipX|apply HpSub.skipX|exact HpSub.nil));exact fun D w1 hw1 hg1=>sift_M hw HK g cp n k m a Y w1 hg1 (by first|omega|(simp only [List.length_set];omega)) hn1 (by omega) (by omega) hX.down;rintro _ _ ⟨rfl,W,hW1,hW2,rfl⟩;(try simp only [List.cons_append,List.nil_append,List.append_nil]))|((with_reducible apply u_q);(iterate 4 exact rfl)))|((with_reducible apply t_id);first|(with_reducible apply t_seq)|(apply t_region;kernel_rfl)|((with_reducible apply t_condT);exact rfl)|(with_reducible apply t_skip)|(with_reducible apply t_block))|with_reducible apply q_thenN|with_reducible apply q_blockN)
     all_goals (refine ⟨(k,W),⟨(by simp only;omega),hW1,hs.trans (hW2.wide (by omega) (by omega) (by omega))⟩,(by simp only;omega),?_,?_⟩<;>(repeat' (first|exact FrSub.nil|(apply FrSub.cons;exact rfl)|exact HpSub.refl _)))
 rintro Y ⟨hX,hs⟩
 have hYl:=hs.len
 try dsimp only
 refine t_cut (ι:=Unit) (fun _=>[(0,.slice (some ⟨g,0,none⟩) n cp),(3,.func (.func kf) #[] #[]),(8,.int .i64 ((a:Nat):Int)),(9,.int .i64 0),(10,.int .i64 ((m:Nat):Int)),(12,.int .i64 (((m:Nat):Int)-1))]) (fun _=>[(g,coB fx fy (Y),some (111,2,cp))]) (fun _=>True) ?_ ?_
 · repeat' (first|((with_reducible apply oq_id);first|(focus ((with_reducible apply (oq_subE (k:=(((m:Nat):Int)-1))));exact rfl;exact rfl;omega))|(apply oq_fn;exact rfl;first|exact trivial|(and_intros<;>omega)|omega|skip))|((with_reducible apply tl_id);first|(with_reducible apply tl_nil)|((with_reducible apply u_q);(iterate 4 exact rfl)))|((with_reducible apply t_id);first|(apply t_region;kernel_rfl)))
   all_goals exact ⟨by trivial,(),trivial,by (repeat' (first|exact FrSub.nil|(apply FrSub.cons;exact rfl))),by (repeat' (first|exact HpSub.refl _))⟩
 rintro ⟨⟩ -
 try dsimp only
 (with_reducible apply t_block)
 apply t_loopP (ι:=Nat×List α) [0,3,8,9,10] (fun z=>[(12,.int .i64 (((z.1:Nat):Int)-1))]) (fun z=>[(g,coB fx fy (z.2),some (111,2,cp))]) (fun z=>z.1≤m∧HeS lt a z.1 m z.2∧Sg a b Z z.2) (fun z=>z.1) (m,Y)
 (repeat (first|exact KeepF.nil|(apply KeepF.cons;exact rfl)|apply KeepF.skip))
 (repeat first|exact FrSub.nil|(apply FrSub.cons;exact rfl))
 (try simp only [List.cons_append,List.nil_append])
 (repeat' (first|exact HpSub.refl _))
 · exact ⟨Nat.le_refl _,⟨hX,fun i j x y h1 h2 h3=>absurd h3 (by simp only at h1 ⊢;omega),fun i j x y h1 h2 h3=>absurd h3 (by simp only at h2 ⊢;omega)⟩,hs⟩
 clear hs hX hYl Y
 rintro ⟨k,Y⟩ ⟨hkm,hX,hs⟩
 simp only at hkm hX hs
 try simp only [List.cons_append,List.nil_append]
 have hYl:=hs.len
 cases k with
 | zero=>
   repeat' (first|((with_reducible apply oq_id);first|((with_reducible apply oq_geqF);exact rfl;exact rfl;omega)|(apply oq_fn;exact rfl;first|exact trivial|(and_intros<;>omega)|omega|skip))|((with_reducible apply tl_id);first|(with_reducible apply tl_nil)|((with_reducible apply u_q);(iterate 4 exact rfl)))|((with_reducible apply t_id);first|(with_reducible apply t_seq)|(apply t_region;kernel_rfl)|((with_reducible apply t_condF);exact rfl)|(with_reducible apply t_exit))|with_reducible apply q_thenN|with_reducible apply q_thenE|((with_reducible apply q_blockE);exact rfl)|(with_reducible apply end_normal)|exact rvs_nil)
   all_goals exact ⟨_,⟨rfl,Y,(by have h:=hX.srt;rw [Nat.add_zero,show a+m=b by omega] at h;exact h),hs,rfl⟩,HpSub.w (by (repeat (first|exact HpSub.refl _|(apply HpSub.consE;(repeat first|exact P0|apply P1);exact rfl)|apply HpSub.skipX|exact HpSub.nil)))⟩
 | succ k=>
   rw [show ((k+1:Nat):Int)-1=(k:Int) by omega]
   obtain ⟨x,hx⟩:∃ x,Y[a]?=some x:=⟨_,List.getElem?_eq_getElem (by omega)⟩
   obtain ⟨y,hy⟩:∃ y,Y[a+k]?=some y:=⟨_,List.getElem?_eq_getElem (by omega)⟩
   have hy2:=swp_get hx hy
   obtain ⟨q0,q1⟩:=co_at (fx:=fx) (fy:=fy) hx
   obtain ⟨r0,r1⟩:=co_at (fx:=fx) (fy:=fy) hy
   obtain ⟨p1,p2,p3⟩:=hX.pop hw (by omega) (by omega) hx hy
   have hs2:=hs.swap hx hy (by omega) (by omega)
   refine t_cut (ι:=Unit) (fun _=>[(0,.slice (some ⟨g,0,none⟩) n cp),(3,.func (.func kf) #[] #[]),(8,.int .i64 ((a:Nat):Int)),(9,.int .i64 0),(10,.int .i64 ((m:Nat):Int)),(12,.int .i64 ((k:Nat):Int))]) (fun _=>[(g,coB fx fy (Y),some (111,2,cp))]) (fun _=>True) ?_ ?_
   · repeat' (first|((with_reducible apply oq_id);first|((with_reducible apply oq_geqT);exact rfl;exact rfl;omega)|(apply oq_fn;exact rfl;first|exact trivial|(and_intros<;>omega)|omega|skip))|((with_reducible apply tl_id);first|(with_reducible apply tl_nil)|((with_reducible apply u_q);(iterate 4 exact rfl)))|((with_reducible apply t_id);first|(with_reducible apply t_seq)|(apply t_region;kernel_rfl)|((with_reducible apply t_condT);exact rfl)|(with_reducible apply t_skip))|with_reducible apply q_thenN)
     all_goals exact ⟨by trivial,(),trivial,by (repeat' (first|exact FrSub.nil|(apply FrSub.cons;exact rfl))),by (repeat' (first|exact HpSub.refl _))⟩
   rintro ⟨⟩ -
   try dsimp only
   (with_reducible apply t_seq)
   (with_reducible apply t_block)
   refine t_cut (ι:=Unit) (fun _=>[(0,.slice (some ⟨g,0,none⟩) n cp),(3,.func (.func kf) #[] #[]),(8,.int .i64 ((a:Nat):Int)),(9,.int .i64 0),(10,.int .i64 ((m:Nat):Int)),(12,.int .i64 ((k:Nat):Int))]) (fun _=>[(g,coB fx fy (((Y.set a y).set (a+k) x)),some (111,2,cp))]) (fun _=>True) ?_ ?_
   · repeat' (first|((with_reducible apply oq_id);first|(focus ((with_reducible apply oq_indexAddrN);(iterate 4 exact rfl);omega))|(focus ((with_reducible apply (oq_addE (k:=((a+k:Nat):Int))));exact rfl;exact rfl;omega))|(apply oq_fn;exact rfl;first|exact trivial|(and_intros<;>omega)|omega|skip)|((with_reducible apply oq_loadAgg);exact rfl;exact rfl))|((with_reducible apply gx_id);first|(with_reducible apply v_nil)|((with_reducible apply v_q);(iterate 3 exact rfl)))|((with_reducible apply os_id);first|((with_reducible apply (os_storeCo (fx:=fx) (fy:=fy) y hx rfl));(iterate 3 exact rfl);(repeat first|exact P0|apply P1))|((with_reducible apply (os_storeCo (fx:=fx) (fy:=fy) x hy2 rfl));(iterate 3 exact rfl);(repeat first|exact P0|apply P1)))|((with_reducible apply ai_id);first|((with_reducible apply ai_q);(iterate 5 exact rfl))|((with_reducible apply ai_n0);(iterate 3 exact rfl)))|((with_reducible apply al_keep);focus (repeat (first|exact HpSub.refl _|(apply HpSub.cons;(repeat first|exact P0|apply P1))|apply HpSub.skipX|exact HpSub.nil)))|((with_reducible apply rd_id);first|(apply Rd.own;(repeat first|exact P0|apply P1);with_reducible (first|exact q0|exact q1|exact r0|exact r1|exact s0|exact s1);done))|((with_reducible apply t_id);first|(apply t_mixZ (id:=10) [0,1,2,3,4,5,6,7,8,9,10,12,13,14] 6;kernel_rfl;kernel_rfl;exact rfl))|exact Rdn.zero|apply Rdn.succ|((with_reducible apply al_id);first|(apply al_done;decide +kernel)|(apply al_one 11;decide +kernel)|(apply al_one 15;decide +kernel)|(apply al_one 16;decide +kernel)|(apply al_one 17;decide +kernel)|(apply al_one 18;decide +kernel)|(apply al_one 19;decide +kernel)|(apply al_two 11 15;decide +kernel)))
     all_goals exact ⟨by trivial,(),trivial,by (repeat' (first|exact FrSub.nil|(apply FrSub.cons;exact rfl))),by (repeat' (first|exact HpSub.refl _))⟩
   rintro ⟨⟩ -
   try dsimp only
   obtain ⟨V,hV⟩:∃ V,((Y.set a y).set (a+k) x)=V:=⟨_,rfl⟩
   rw [hV] at p1 p2 p3 hs2 ⊢
   have hVl:=hs2.len
   repeat' (first|((with_reducible apply oq_id);first|(focus ((with_reducible apply (oq_subE (k:=(((k:Nat):Int)-1))));exact rfl;exact rfl;omega))|(apply oq_fn;exact rfl;first|exact trivial|(and_intros<;>omega)|omega|skip))|((with_reducible apply tl_id);first|(with_reducible apply tl_nil)|((with_reducible apply u_s);(iterate 3 exact rfl);(with_reducible apply os_callM (PV:=fun v H1=>(v=.tuple #[]∧∃ W,HeX lt a 0 k none W∧Sg (a+0) (a+k) V W∧H1=[(g,coB fx fy (W),some (111,2,cp))])) (G:=[(g,coB fx fy (V),some (111,2,cp))]) (R:=[]) (hc:=Try.call210));exact rfl;exact rfl;(repeat (first|exact HpSub.refl _|(apply HpSub.consE;(repeat first|exact P0|apply P1);exact rfl)|apply HpSub.skipX|apply HpSub.skipX|exact HpSub.nil));exact fun D w1 hw1 hg1=>sift_M hw HK g cp n 0 k a V w1 hg1 (by first|omega|(simp only [List.length_set];omega)) hn1 (by omega) (by omega) p1;rintro _ _ ⟨rfl,W,hW1,hW2,rfl⟩;(try simp only [List.cons_append,List.nil_append,List.append_nil]))|((with_reducible apply u_q);(iterate 4 exact rfl)))|((with_reducible apply t_id);first|(apply t_region;kernel_rfl))|with_reducible apply q_thenN|with_reducible apply q_blockN)
   all_goals (refine ⟨(k,W),⟨(by simp only;omega),HeS.next (by omega) hW1 hW2 p2 p3,hs2.trans (hW2.wide (by omega) (by omega) (by omega))⟩,(by simp only;omega),?_,?_⟩<;>(repeat' (first|exact FrSub.nil|(apply FrSub.cons;exact rfl)|exact HpSub.refl _)))
theorem swapR_G {α:Type} {fx fy:α→Int} {lt:α→α→Bool} {kf:Nat} (hw:Wo lt) (HK:CmpOk fx fy lt kf) (g cp n a b k:Nat) (P X M Y Q:List α) (w:World) (hB:Blk w g (coB fx fy (P++(X++(M++(Y++Q))))) (some (111,2,cp))) (hX:X.length=k) (hY:Y.length=k) (ha:P.length=a) (hb:P.length+k+M.length=b) (hn:(P++(X++(M++(Y++Q)))).length=n) (hn1:n≤1000000) :
   Calls Try.prog 220 #[.slice (some ⟨g,0,none⟩) n cp,.int .i64 (a:Nat),.int .i64 (b:Nat),.int .i64 (k:Nat),.func (.func kf) #[] #[]] w fun e w'=>e=.returned (.tuple #[])∧ExtM [g] w w'∧Blk w' g (coB fx fy (P++(Y++(M++(X++Q))))) (some (111,2,cp)):=by
 simp only [List.length_append,hX,hY] at hn
 rw [← swr_zero] at hB
 rw [← swr_all (P:=P) (M:=M) (Q:=Q) hX hY]
 have HS:=fun i (h:i<k)=>swr_step (P:=P) (M:=M) (Q:=Q) hX hY h
 rw [hb] at HS
 rw [ha] at HS
 generalize swr P X M Y Q=S at HS hB ⊢
 refine enterW (c:=cxM [g] w 38) Try.func220 rfl rfl rfl rfl hB ?_
 repeat' (first|((with_reducible apply oq_id);first|(apply oq_fn;exact rfl;first|exact trivial|(and_intros<;>omega)|omega|skip))|((with_reducible apply tl_id);first|(with_reducible apply tl_nil)|((with_reducible apply u_q);(iterate 4 exact rfl)))|((with_reducible apply t_id);first|(with_reducible apply t_seq)|(apply t_region;kernel_rfl)|(with_reducible apply t_block))|with_reducible apply q_thenN)
 apply t_loopK (ι:=Nat) [0,1,2,3] (fun i=>[(10,.int .i64 (i:Nat))]) (fun i=>[(g,coB fx fy (S i),some (111,2,cp))]) (fun i=>i≤k) (fun i=>k-i) (0)
 (repeat (first|exact KeepF.nil|(apply KeepF.cons;exact rfl)|apply KeepF.skip))
 (repeat first|exact FrSub.nil|(apply FrSub.cons;exact rfl))
 (repeat (first|exact HpSub.refl _|(apply HpSub.consE;(repeat first|exact P0|apply P1);exact rfl)|exact HpSub.nil))
 · exact Nat.zero_le _
 rintro i hi
 try simp only [List.cons_append,List.nil_append]
 by_cases hlt:i<k
 · obtain ⟨x,y,hx,hy,hs⟩:=HS i hlt
   have hy2:((S i).set (a+i) y)[b+i]?=some y:=by rw [List.getElem?_set_ne (by omega)];exact hy
   obtain ⟨q0,q1⟩:=co_at (fx:=fx) (fy:=fy) hx
   obtain ⟨r0,r1⟩:=co_at (fx:=fx) (fy:=fy) hy
   repeat' (first|((with_reducible apply oq_id);first|((with_reducible apply oq_addE (k:=((a+i:Nat):Int)));exact rfl;exact rfl;omega)|((with_reducible apply oq_addE (k:=((b+i:Nat):Int)));exact rfl;exact rfl;omega)|(focus ((with_reducible apply oq_indexAddrN);(iterate 4 exact rfl);omega))|((with_reducible apply oq_lssT);exact rfl;exact rfl;omega)|(apply oq_fn;exact rfl;first|exact trivial|(and_intros<;>omega)|omega|skip)|((with_reducible apply oq_loadAgg);exact rfl;exact rfl))|((with_reducible apply tl_id);first|(with_reducible apply tl_nil)|((with_reducible apply u_q);(iterate 4 exact rfl)))|((with_reducible apply gx_id);first|(with_reducible apply v_nil)|((with_reducible apply v_q);(iterate 3 exact rfl)))|((with_reducible apply os_id);first|((with_reducible apply (os_storeCo (fx:=fx) (fy:=fy) y hx rfl));(iterate 3 exact rfl);(repeat first|exact P0|apply P1))|((with_reducible apply (os_storeCo (fx:=fx) (fy:=fy) x hy2 hs));(iterate 3 exact rfl);(repeat first|exact P0|apply P1)))|((with_reducible apply ai_id);first|((with_reducible apply ai_q);(iterate 5 exact rfl))|((with_reducible apply ai_n0);(iterate 3 exact rfl)))|((with_reducible apply al_keep);focus (repeat (first|exact HpSub.refl _|(apply HpSub.cons;(repeat first|exact P0|apply P1))|apply HpSub.skipX|exact HpSub.nil)))|((with_reducible apply rd_id);first|(apply Rd.own;(repeat first|exact P0|apply P1);with_reducible (first|exact q0|exact q1|exact q2|exact r0|exact r1|exact r2);done))|((with_reducible apply t_id);first|(apply t_mixZ (id:=3) [0,1,2,3,4,5,6,7,8,9,10,11,12,14,15,16,17,18] 6;kernel_rfl;kernel_rfl;exact rfl)|(with_reducible apply t_seq)|(apply t_region;kernel_rfl)|((with_reducible apply t_condT);exact rfl)|(with_reducible apply t_skip)|(with_reducible apply t_block))|with_reducible apply q_thenN|with_reducible apply q_blockN|exact Rdn.zero|apply Rdn.succ|((with_reducible apply al_id);first|(apply al_done;decide +kernel)|(apply al_one 13;decide +kernel)|(apply al_one 19;decide +kernel)|(apply al_one 20;decide +kernel)|(apply al_one 21;decide +kernel)|(apply al_one 22;decide +kernel)|(apply al_one 23;decide +kernel)|(apply al_two 13 19;decide +kernel)))
   all_goals (refine ⟨(i+1),(by omega),(by omega),?_,?_⟩<;>(try simp only [List.cons_append,List.nil_append])<;>(repeat' (first|exact FrSub.nil|(apply FrSub.cons;exact rfl)|exact HpSub.refl _)))
 · obtain rfl:i=k:=by omega
   repeat' (first|((with_reducible apply oq_id);first|((with_reducible apply oq_lssF);exact rfl;exact rfl;omega)|(apply oq_fn;exact rfl;first|exact trivial|(and_intros<;>omega)|omega|skip))|((with_reducible apply tl_id);first|(with_reducible apply tl_nil)|((with_reducible apply u_q);(iterate 4 exact rfl)))|((with_reducible apply t_id);first|(with_reducible apply t_seq)|(apply t_region;kernel_rfl)|((with_reducible apply t_condF);exact rfl)|(with_reducible apply t_exit))|with_reducible apply q_thenN|with_reducible apply q_thenE|((with_reducible apply q_blockE);exact rfl)|(with_reducible apply end_normal)|exact rvs_nil)
   all_goals exact ⟨rfl,by (repeat (first|exact HpSub.refl _|(apply HpSub.consE;(repeat first|exact P0|apply P1);exact rfl)|exact HpSub.nil))⟩
theorem rot_G {α:Type} {fx fy:α→Int} {lt:α→α→Bool} {kf:Nat} (hw:Wo lt) (HK:CmpOk fx fy lt kf) (g cp n a m b:Nat) (P X Y Q:List α) (w:World) (hB:Blk w g (coB fx fy (P++(X++(Y++Q)))) (some (111,2,cp))) (hX:0<X.length) (hY:0<Y.length) (ha:P.length=a) (hm:a+X.length=m) (hb:m+Y.length=b) (hn:(P++(X++(Y++Q))).length=n) (hn1:n≤1000000) :
   Calls Try.prog 215 #[.slice (some ⟨g,0,none⟩) n cp,.int .i64 (a:Nat),.int .i64 (m:Nat),.int .i64 (b:Nat),.func (.func kf) #[] #[]] w fun e w'=>e=.returned (.tuple #[])∧ExtM [g] w w'∧Blk w' g (coB fx fy (P++(Y++(X++Q)))) (some (111,2,cp)):=by
 have hn0:=hn
 simp only [List.length_append] at hn
 refine enterW (c:=cxM [g] w 58) Try.func215 rfl rfl rfl rfl hB ?_
 repeat' (first|((with_reducible apply oq_id);first|((with_reducible apply oq_subE (k:=((X.length:Nat):Int)));exact rfl;exact rfl;omega)|((with_reducible apply oq_subE (k:=((Y.length:Nat):Int)));exact rfl;exact rfl;omega)|(apply oq_fn;exact rfl;first|exact trivial|(and_intros<;>omega)|omega|skip))|((with_reducible apply tl_id);first|(with_reducible apply tl_nil)|((with_reducible apply u_q);(iterate 4 exact rfl)))|((with_reducible apply t_id);first|(with_reducible apply t_seq)|(apply t_region;kernel_rfl)|(with_reducible apply t_block))|with_reducible apply q_thenN)
 apply t_loopK (ι:=Nat×Nat×List α×List α×List α×List α) [0,2,4,50,51,52,53,54,55,56] (fun z=>[(10,.int .i64 (z.1:Nat)),(11,.int .i64 (z.2.1:Nat))]) (fun z=>[(g,coB fx fy (z.2.2.1++(z.2.2.2.1++(z.2.2.2.2.1++z.2.2.2.2.2))),some (111,2,cp))]) (fun z=>z.2.2.2.1.length=z.1∧z.2.2.2.2.1.length=z.2.1∧0<z.1∧0<z.2.1∧z.2.2.1.length+z.1=m∧m+z.2.1≤n∧(z.2.2.1++(z.2.2.2.1++(z.2.2.2.2.1++z.2.2.2.2.2))).length=n∧z.2.2.1++(z.2.2.2.2.1++(z.2.2.2.1++z.2.2.2.2.2))=P++(Y++(X++Q))) (fun z=>z.1+z.2.1) ((X.length,Y.length,P,X,Y,Q))
 (repeat (first|exact KeepF.nil|(apply KeepF.cons;exact rfl)|apply KeepF.skip))
 (repeat first|exact FrSub.nil|(apply FrSub.cons;exact rfl))
 (repeat (first|exact HpSub.refl _|(apply HpSub.consE;(repeat first|exact P0|apply P1);exact rfl)|exact HpSub.nil))
 · exact ⟨rfl,rfl,hX,hY,(by simp only;omega),(by simp only;omega),hn0,rfl⟩
 rintro ⟨i,j,P1,X1,Y1,Q1⟩ ⟨h1,h2,h3,h4,h5,h6,h7,h8⟩
 simp only at h1 h2 h3 h4 h5 h6 h7 h8
 dsimp only
 try simp only [List.cons_append,List.nil_append]
 have h7':=h7
 simp only [List.length_append] at h7'
 rcases Nat.lt_trichotomy i j with hij|hij|hij
 · obtain ⟨A,B,rfl,hB2⟩:∃ A B,Y1=A++B∧B.length=i:=⟨Y1.take (j-i),Y1.drop (j-i),(List.take_append_drop _ _).symm,by simp;omega⟩
   simp only [List.length_append] at h2
   rw [List.append_assoc A B Q1] at h7 ⊢
   repeat' (first|((with_reducible apply oq_id);first|((with_reducible apply oq_subE (k:=((m-i:Nat):Int)));exact rfl;exact rfl;omega)|((with_reducible apply oq_addE (k:=((m+j:Nat):Int)));exact rfl;exact rfl;omega)|((with_reducible apply oq_subE (k:=((m+j-i:Nat):Int)));exact rfl;exact rfl;omega)|((with_reducible apply oq_subE (k:=((j-i:Nat):Int)));exact rfl;exact rfl;omega)|((with_reducible apply oq_neqT);exact rfl;exact rfl;omega)|((with_reducible apply oq_gtrF);exact rfl;exact rfl;omega)|(apply oq_fn;exact rfl;first|exact trivial|(and_intros<;>omega)|omega|skip))|((with_reducible apply tl_id);first|(with_reducible apply tl_nil)|((with_reducible apply u_s);(iterate 3 exact rfl);(with_reducible apply os_callW (b:=g) (hc:=Try.call220));exact rfl;exact rfl;(repeat first|exact P0|apply P1);exact fun D w1 hw1=>swapR_G hw HK g cp n (m-i) (m+j-i) i P1 X1 A B Q1 w1 (hw1.blkP (by (repeat first|exact P0|apply P1))) h1 hB2 (by omega) (by omega) h7 hn1)|((with_reducible apply u_q);(iterate 4 exact rfl)))|((with_reducible apply t_id);first|(with_reducible apply t_seq)|(apply t_region;kernel_rfl)|((with_reducible apply t_condT);exact rfl)|((with_reducible apply t_condF);exact rfl)|(with_reducible apply t_skip)|(with_reducible apply t_block))|with_reducible apply q_thenN|with_reducible apply q_blockN)
   all_goals (refine ⟨(i,j-i,P1,B,A,X1++Q1),⟨hB2,(by simp only;omega),h3,(by simp only;omega),h5,(by simp only;omega),(by simp only [List.length_append] at h7 ⊢;omega),?_⟩,(by simp only;omega),?_,?_⟩)
   all_goals first
     | (rw [← h8];simp only [List.append_assoc];done)
     | ((try simp only [List.cons_append,List.nil_append]);(repeat first|exact FrSub.nil|(apply FrSub.cons;exact rfl));done)
     | ((try simp only [List.cons_append,List.nil_append]);(repeat (first|exact HpSub.refl _|(apply HpSub.consE;(repeat first|exact P0|apply P1);exact rfl)|exact HpSub.nil));done)
 · subst hij
   repeat' (first|((with_reducible apply oq_id);first|((with_reducible apply oq_subE (k:=((m-i:Nat):Int)));exact rfl;exact rfl;omega)|((with_reducible apply oq_neqF);exact rfl;exact rfl;omega)|(apply oq_fn;exact rfl;first|exact trivial|(and_intros<;>omega)|omega|skip))|((with_reducible apply tl_id);first|(with_reducible apply tl_nil)|((with_reducible apply u_s);(iterate 3 exact rfl);(with_reducible apply os_callW (b:=g) (hc:=Try.call220));exact rfl;exact rfl;(repeat first|exact P0|apply P1);exact fun D w1 hw1=>swapR_G hw HK g cp n (m-i) m i P1 X1 [] Y1 Q1 w1 (hw1.blkP (by (repeat first|exact P0|apply P1))) h1 h2 (by omega) (by simp only [List.length_nil];omega) h7 hn1)|((with_reducible apply u_q);(iterate 4 exact rfl)))|((with_reducible apply t_id);first|(with_reducible apply t_seq)|(apply t_region;kernel_rfl)|((with_reducible apply t_condF);exact rfl)|(with_reducible apply t_exit))|with_reducible apply q_thenN|with_reducible apply q_thenE|((with_reducible apply q_blockE);exact rfl)|(with_reducible apply end_normal)|exact rvs_nil)
   all_goals (refine ⟨rfl,?_⟩;rw [← h8];exact HpSub.refl _)
 · obtain ⟨A,B,rfl,hA2⟩:∃ A B,X1=A++B∧A.length=j:=⟨X1.take j,X1.drop j,(List.take_append_drop _ _).symm,by simp;omega⟩
   simp only [List.length_append] at h1
   rw [List.append_assoc A B (Y1++Q1)] at h7 ⊢
   repeat' (first|((with_reducible apply oq_id);first|((with_reducible apply oq_subE (k:=((m-i:Nat):Int)));exact rfl;exact rfl;omega)|((with_reducible apply oq_subE (k:=((i-j:Nat):Int)));exact rfl;exact rfl;omega)|((with_reducible apply oq_neqT);exact rfl;exact rfl;omega)|((with_reducible apply oq_gtrT);exact rfl;exact rfl;omega)|(apply oq_fn;exact rfl;first|exact trivial|(and_intros<;>omega)|omega|skip))|((with_reducible apply tl_id);first|(with_reducible apply tl_nil)|((with_reducible apply u_s);(iterate 3 exact rfl);(with_reducible apply os_callW (b:=g) (hc:=Try.call220));exact rfl;exact rfl;(repeat first|exact P0|apply P1);exact fun D w1 hw1=>swapR_G hw HK g cp n (m-i) m j P1 A B Y1 Q1 w1 (hw1.blkP (by (repeat first|exact P0|apply P1))) hA2 h2 (by omega) (by omega) h7 hn1)|((with_reducible apply u_q);(iterate 4 exact rfl)))|((with_reducible apply t_id);first|(with_reducible apply t_seq)|(apply t_region;kernel_rfl)|((with_reducible apply t_condT);exact rfl)|(with_reducible apply t_skip)|(with_reducible apply t_block))|with_reducible apply q_thenN|with_reducible apply q_blockN)
   all_goals (refine ⟨(i-j,j,P1++Y1,B,A,Q1),⟨(by simp only;omega),hA2,(by simp only;omega),h4,(by simp only [List.length_append];omega),(by simp only;omega),(by simp only [List.length_append] at h7 ⊢;omega),?_⟩,(by simp only;omega),?_,?_⟩)
   all_goals first
     | (rw [← h8];simp only [List.append_assoc];done)
     | ((try simp only [List.cons_append,List.nil_append]);(repeat first|exact FrSub.nil|(apply FrSub.cons;exact rfl));done)
     | (simp only [List.append_assoc];(try simp only [List.cons_append,List.nil_append]);(repeat (first|exact HpSub.refl _|(apply HpSub.consE;(repeat first|exact P0|apply P1);exact rfl)|exact HpSub.nil));done)
theorem srt_takeG {α:Type} {lt:α→α→Bool} {X:List α} {k:Nat} {x:α} (h:X[k]?=some x):srt lt (X.take (k+1))=mrg lt (srt lt (X.take k)) [x]:=by
 rw [List.take_add_one,h];exact srt_snoc _ _
theorem split_last {α:Type} {l:List α} (h:l≠[]):∃ S z,l=S++[z]:=⟨l.dropLast,l.getLast h,(List.dropLast_concat_getLast h).symm⟩
theorem ins_G {α:Type} {fx fy:α→Int} {lt:α→α→Bool} {kf:Nat} (hw:Wo lt) (HK:CmpOk fx fy lt kf) (g cp n a b:Nat) (P X Q:List α) (w:World) (hB:Blk w g (coB fx fy (P++(X++Q))) (some (111,2,cp))) (ha:P.length=a) (hb:a+X.length=b) (hn:(P++(X++Q)).length=n) (hn1:n≤1000000) :
   Calls Try.prog 196 #[.slice (some ⟨g,0,none⟩) n cp,.int .i64 (a:Nat),.int .i64 (b:Nat),.func (.func kf) #[] #[]] w fun e w'=>e=.returned (.tuple #[])∧ExtM [g] w w'∧Blk w' g (coB fx fy (P++(srt lt X++Q))) (some (111,2,cp)):=by
 simp only [List.length_append] at hn
 have h1:srt lt (X.take (0+1))++(X.drop (0+1)++Q)=X++Q:=by
   cases X with
   | nil=>rfl
   | cons x X=>simp [srt,mrg_nil]
 rw [← h1] at hB
 refine enterW (c:=cxM [g] w 53) Try.func196 rfl rfl rfl rfl hB ?_
 repeat' (first|((with_reducible apply oq_id);first|((with_reducible apply oq_addE (k:=((a+1+0:Nat):Int)));exact rfl;exact rfl;omega)|(apply oq_fn;exact rfl;first|exact trivial|(and_intros<;>omega)|omega|skip))|((with_reducible apply tl_id);first|(with_reducible apply tl_nil)|((with_reducible apply u_q);(iterate 4 exact rfl)))|((with_reducible apply t_id);first|(with_reducible apply t_seq)|(apply t_region;kernel_rfl)|(with_reducible apply t_block))|with_reducible apply q_thenN)
 apply t_loopK (ι:=Nat) [0,1,2,3] (fun k=>[(8,.int .i64 ((a+1+k:Nat):Int))]) (fun k=>[(g,coB fx fy (P++(srt lt (X.take (k+1))++(X.drop (k+1)++Q))),some (111,2,cp))]) (fun k=>k=0∨k+1≤X.length) (fun k=>b-k) (0)
 (repeat (first|exact KeepF.nil|(apply KeepF.cons;exact rfl)|apply KeepF.skip))
 (repeat first|exact FrSub.nil|(apply FrSub.cons;exact rfl))
 (repeat (first|exact HpSub.refl _|(apply HpSub.consE;(repeat first|exact P0|apply P1);exact rfl)|exact HpSub.nil))
 · exact .inl rfl
 rintro k hk
 dsimp only
 by_cases hlt:k+1<X.length
 · obtain ⟨x,hx⟩:∃ x,X[k+1]?=some x:=⟨_,List.getElem?_eq_getElem hlt⟩
   have hxs:=srt_takeG (lt:=lt) hx
   have hsl:(srt lt (X.take (k+1))).length=k+1:=by rw [srt_len];simp;omega
   have hso:Srt lt (srt lt (X.take (k+1))):=srt_srt hw _
   obtain ⟨R,hR⟩:∃ R,X.drop (k+1+1)=R:=⟨_,rfl⟩
   have hRl:R.length=X.length-(k+1+1):=by rw [← hR];simp
   have hdr:X.drop (k+1)=x::R:=by
     obtain ⟨h2,h3⟩:=List.getElem?_eq_some_iff.1 hx
     rw [List.drop_eq_getElem_cons h2,h3,hR]
   have e0:P++(srt lt (X.take (k+1))++(X.drop (k+1)++Q))=(P++srt lt (X.take (k+1)))++x::([]++(R++Q)):=by
     rw [hdr];simp only [List.append_assoc,List.cons_append,List.nil_append]
   rw [e0]
   refine t_cut (ι:=Unit) (fun _=>[(0,.slice (some ⟨g,0,none⟩) n cp),(1,.int .i64 (a:Nat)),(2,.int .i64 (b:Nat)),(3,.func (.func kf) #[] #[]),(8,.int .i64 (a+1+k:Nat))]) (fun _=>[(g,coB fx fy ((P++srt lt (X.take (k+1)))++x::([]++(R++Q))),some (111,2,cp))]) (fun _=>True) ?_ ?_
   · repeat' (first|((with_reducible apply oq_id);first|((with_reducible apply oq_lssT);exact rfl;exact rfl;omega)|(apply oq_fn;exact rfl;first|exact trivial|(and_intros<;>omega)|omega|skip))|((with_reducible apply tl_id);first|(with_reducible apply tl_nil)|((with_reducible apply u_q);(iterate 4 exact rfl)))|((with_reducible apply t_id);first|(with_reducible apply t_seq)|(apply t_region;kernel_rfl)|((with_reducible apply t_condT);exact rfl)|(with_reducible apply t_skip))|with_reducible apply q_thenN)
     all_goals exact ⟨rfl,(),trivial,by (repeat first|exact FrSub.nil|(apply FrSub.cons;exact rfl)),by (repeat (first|exact HpSub.refl _|(apply HpSub.consE;(repeat first|exact P0|apply P1);exact rfl)|exact HpSub.nil))⟩
   rintro ⟨⟩ -
   refine t_cut (ι:=Unit) (fun _=>[(0,.slice (some ⟨g,0,none⟩) n cp),(1,.int .i64 (a:Nat)),(2,.int .i64 (b:Nat)),(3,.func (.func kf) #[] #[]),(8,.int .i64 (a+1+k:Nat))]) (fun _=>[(g,coB fx fy (P++(srt lt (X.take (k+1+1))++(X.drop (k+1+1)++Q))),some (111,2,cp))]) (fun _=>True) ?_ ?_
   · repeat' (first|((with_reducible apply oq_id);first|(apply oq_fn;exact rfl;first|exact trivial|(and_intros<;>omega)|omega|skip))|((with_reducible apply tl_id);first|(with_reducible apply tl_nil)|((with_reducible apply u_q);(iterate 4 exact rfl)))|((with_reducible apply t_id);first|(with_reducible apply t_seq)|(apply t_region;kernel_rfl)|(with_reducible apply t_block))|with_reducible apply q_thenN)
     apply t_loopK (ι:=List α×List α) [0,1,2,3,8,12,13,14,15,16,17] (fun z=>[(9,.int .i64 ((a+z.1.length:Nat):Int)),(8,.int .i64 ((a+1+k:Nat):Int))]) (fun z=>[(g,coB fx fy ((P++z.1)++x::(z.2++(R++Q))),some (111,2,cp))]) (fun z=>z.1++z.2=srt lt (X.take (k+1))∧∀ y∈z.2,lt x y=true) (fun z=>z.1.length) ((srt lt (X.take (k+1)),[]))
     (repeat (first|exact KeepF.nil|(apply KeepF.cons;exact rfl)|apply KeepF.skip))
     (repeat (first|exact FrSub.nil|(apply FrSub.cons;exact rfl)|(apply FrSub.consE;exact rfl;(simp only [hsl];congr 2;omega))))
     (repeat (first|exact HpSub.refl _|(apply HpSub.consE;(repeat first|exact P0|apply P1);exact rfl)|exact HpSub.nil))
     · exact ⟨List.append_nil _,fun y hy=>by cases hy⟩
     rintro ⟨S1,S2⟩ ⟨hs,hgt⟩
     simp only at hs hgt
     dsimp only
     have hl12:S1.length+S2.length=k+1:=by rw [← hsl,← hs,List.length_append]
     rw [← hs] at hso
     by_cases h0:S1=[]
     · subst h0
       have he:P++(srt lt (X.take (k+1+1))++(X.drop (k+1+1)++Q))=(P++[])++x::(S2++(R++Q)):=by
         rw [hxs,← hs,ins_done hw hso (.inl rfl) hgt,hR]
         simp only [List.append_assoc,List.cons_append,List.nil_append,List.append_nil]
       simp only [List.length_nil,Nat.add_zero]
       repeat' (first|((with_reducible apply oq_id);first|((with_reducible apply oq_gtrF);exact rfl;exact rfl;omega)|(apply oq_fn;exact rfl;first|exact trivial|(and_intros<;>omega)|omega|skip))|((with_reducible apply gx_id);first|(with_reducible apply v_nil)|((with_reducible apply v_q);(iterate 3 exact rfl))|((with_reducible apply v_skip);(iterate 3 exact rfl)))|((with_reducible apply t_id);first|(with_reducible apply t_seq)|(apply t_drawn;kernel_rfl;decide +kernel;try simp only [List.append_eq,List.cons_append,List.nil_append])|((with_reducible apply t_condF);exact rfl)|(with_reducible apply t_exit))|with_reducible apply q_thenN|with_reducible apply q_blockN|with_reducible apply q_thenE|((with_reducible apply q_blockE);exact rfl))
       all_goals exact ⟨rfl,(),trivial,by (repeat first|exact FrSub.nil|(apply FrSub.cons;exact rfl)),by (rw [he];(repeat (first|exact HpSub.refl _|(apply HpSub.consE;(repeat first|exact P0|apply P1);exact rfl)|exact HpSub.nil)))⟩
     · obtain ⟨S,z,rfl⟩:=split_last h0
       simp only [List.length_append,List.length_cons,List.length_nil,Nat.zero_add] at hl12 ⊢
       have hst:=ins_step (P:=P) (S:=S) (S2:=S2) (Q:=R++Q) (z:=z) (x:=x)
       rw [ha] at hst
       have hdx:((P++(S++[z]))++x::(S2++(R++Q)))[a+(S.length+1)]?=some x:=get_at (by simp;omega)
       have hdz:((P++(S++[z]))++x::(S2++(R++Q)))[a+S.length]?=some z:=by
         rw [show (P++(S++[z]))++x::(S2++(R++Q))=(P++S)++z::(x::(S2++(R++Q))) by simp only [List.append_assoc,List.cons_append,List.nil_append]]
         exact get_at (by simp;omega)
       obtain ⟨D,hD⟩:∃ D,(P++(S++[z]))++x::(S2++(R++Q))=D:=⟨_,rfl⟩
       rw [hD] at hdx hdz hst ⊢
       have hdx2:(D.set (a+S.length+1) z)[a+S.length]?=some z:=by rw [List.getElem?_set_ne (by omega)];exact hdz
       rw [show a+(S.length+1)=a+S.length+1 by omega] at hdx ⊢
       obtain ⟨q0,q1⟩:=co_at (fx:=fx) (fy:=fy) hdx
       obtain ⟨r0,r1⟩:=co_at (fx:=fx) (fy:=fy) hdz
       obtain ⟨o,HC,ho⟩:=HK.cmp x z
       cases hc:lt x z with
       | true=>
         have HN:o<0:=ho.2 hc
         repeat' (first|((with_reducible apply oq_id);first|((with_reducible apply oq_subE (k:=((a+S.length:Nat):Int)));exact rfl;exact rfl;omega)|(focus ((with_reducible apply oq_indexAddrN);(iterate 4 exact rfl);omega))|((with_reducible apply oq_gtrT);exact rfl;exact rfl;omega)|((with_reducible apply oq_lssT);exact rfl;exact rfl;omega)|(apply oq_fn;exact rfl;first|exact trivial|(and_intros<;>omega)|omega|skip)|((with_reducible apply oq_loadAgg);exact rfl;exact rfl)|((with_reducible apply oq_call (k:=kf) (hc:=HK.call));exact rfl;exact rfl;exact fun D w1 hw1=>HC w1))|((with_reducible apply tl_id);first|(with_reducible apply tl_nil)|((with_reducible apply u_q);(iterate 4 exact rfl)))|((with_reducible apply gx_id);first|(with_reducible apply v_nil)|((with_reducible apply v_q);(iterate 3 exact rfl)))|((with_reducible apply os_id);first|((with_reducible apply (os_storeCo (fx:=fx) (fy:=fy) z hdx rfl));(iterate 3 exact rfl);(repeat first|exact P0|apply P1))|((with_reducible apply (os_storeCo (fx:=fx) (fy:=fy) x hdx2 hst));(iterate 3 exact rfl);(repeat first|exact P0|apply P1)))|((with_reducible apply ai_id);first|((with_reducible apply ai_q);(iterate 5 exact rfl))|((with_reducible apply ai_n0);(iterate 3 exact rfl)))|((with_reducible apply al_keep);focus (repeat (first|exact HpSub.refl _|(apply HpSub.cons;(repeat first|exact P0|apply P1))|apply HpSub.skipX|exact HpSub.nil)))|((with_reducible apply rd_id);first|(apply Rd.own;(repeat first|exact P0|apply P1);with_reducible (first|exact q0|exact q1|exact q2|exact r0|exact r1|exact r2);done))|((with_reducible apply t_id);first|(apply t_mixZ (id:=6) [0,1,2,3,4,5,6,7,8,10,11,12] 6;kernel_rfl;kernel_rfl;exact rfl)|(with_reducible apply t_seq)|(apply t_region;kernel_rfl)|(apply t_drawn;kernel_rfl;decide +kernel;try simp only [List.append_eq,List.cons_append,List.nil_append])|((with_reducible apply t_condT);exact rfl)|(with_reducible apply t_skip)|(with_reducible apply t_block))|with_reducible apply q_thenN|with_reducible apply q_blockN|exact Rdn.zero|apply Rdn.succ|((with_reducible apply al_id);first|(apply al_done;decide +kernel)|(apply al_one 9;decide +kernel)|(apply al_one 13;decide +kernel)|(apply al_one 14;decide +kernel)|(apply al_one 15;decide +kernel)|(apply al_one 16;decide +kernel)|(apply al_one 17;decide +kernel)|(apply al_two 9 13;decide +kernel)))
         all_goals (refine ⟨(S,z::S2),⟨(by rw [← hs];simp only [List.append_assoc,List.cons_append,List.nil_append]),fun y hy=>?_⟩,(by simp only [List.length_append,List.length_cons,List.length_nil];omega),?_,?_⟩)
         all_goals first
           | ((try simp only [List.cons_append,List.nil_append]);(repeat first|exact FrSub.nil|(apply FrSub.cons;exact rfl));done)
           | ((try simp only [List.cons_append,List.nil_append]);(repeat (first|exact HpSub.refl _|(apply HpSub.consE;(repeat first|exact P0|apply P1);exact rfl)|exact HpSub.nil));done)
           | (rcases List.mem_cons.1 hy with rfl|hy;exact hc;exact hgt y hy)
       | false=>
         have he:P++(srt lt (X.take (k+1+1))++(X.drop (k+1+1)++Q))=(P++(S++[z]))++x::(S2++(R++Q)):=by
           rw [hxs,← hs,ins_done hw hso (.inr ⟨S,z,rfl,hc⟩) hgt,hR]
           simp only [List.append_assoc,List.cons_append,List.nil_append]
         have HN:¬ o<0:=fun h=>by rw [ho.1 h] at hc;cases hc
         repeat' (first|((with_reducible apply oq_id);first|((with_reducible apply oq_subE (k:=((a+S.length:Nat):Int)));exact rfl;exact rfl;omega)|(focus ((with_reducible apply oq_indexAddrN);(iterate 4 exact rfl);omega))|((with_reducible apply oq_gtrT);exact rfl;exact rfl;omega)|((with_reducible apply oq_lssF);exact rfl;exact rfl;omega)|(apply oq_fn;exact rfl;first|exact trivial|(and_intros<;>omega)|omega|skip)|((with_reducible apply oq_loadAgg);exact rfl;exact rfl)|((with_reducible apply oq_call (k:=kf) (hc:=HK.call));exact rfl;exact rfl;exact fun D w1 hw1=>HC w1))|((with_reducible apply gx_id);first|(with_reducible apply v_nil)|((with_reducible apply v_q);(iterate 3 exact rfl)))|((with_reducible apply rd_id);first|(apply Rd.own;(repeat first|exact P0|apply P1);with_reducible (first|exact q0|exact q1|exact q2|exact r0|exact r1|exact r2);done))|((with_reducible apply t_id);first|(with_reducible apply t_seq)|(apply t_drawn;kernel_rfl;decide +kernel;try simp only [List.append_eq,List.cons_append,List.nil_append])|((with_reducible apply t_condF);exact rfl)|(with_reducible apply t_exit))|with_reducible apply q_thenN|with_reducible apply q_blockN|with_reducible apply q_thenE|((with_reducible apply q_blockE);exact rfl)|exact Rdn.zero|apply Rdn.succ)
         all_goals exact ⟨rfl,(),trivial,by (repeat first|exact FrSub.nil|(apply FrSub.cons;exact rfl)),by (rw [he,hD];(repeat (first|exact HpSub.refl _|(apply HpSub.consE;(repeat first|exact P0|apply P1);exact rfl)|exact HpSub.nil)))⟩
   · rintro ⟨⟩ -
     repeat' (first|((with_reducible apply oq_id);first|((with_reducible apply oq_addE (k:=((a+1+(k+1):Nat):Int)));exact rfl;exact rfl;omega)|(apply oq_fn;exact rfl;first|exact trivial|(and_intros<;>omega)|omega|skip))|((with_reducible apply tl_id);first|(with_reducible apply tl_nil)|((with_reducible apply u_q);(iterate 4 exact rfl)))|((with_reducible apply t_id);first|(apply t_region;kernel_rfl))|with_reducible apply q_thenN)
     all_goals (refine ⟨(k+1),(by omega),(by omega),?_,?_⟩<;>(try simp only [List.cons_append,List.nil_append])<;>(repeat' (first|exact FrSub.nil|(apply FrSub.cons;exact rfl)|exact HpSub.refl _)))
 · have hkx:srt lt (X.take (k+1))++(X.drop (k+1)++Q)=srt lt X++Q:=by
     rw [List.take_of_length_le (by omega),List.drop_of_length_le (by omega)];rfl
   rw [hkx]
   repeat' (first|((with_reducible apply oq_id);first|((with_reducible apply oq_lssF);exact rfl;exact rfl;omega)|(apply oq_fn;exact rfl;first|exact trivial|(and_intros<;>omega)|omega|skip))|((with_reducible apply tl_id);first|(with_reducible apply tl_nil)|((with_reducible apply u_q);(iterate 4 exact rfl)))|((with_reducible apply t_id);first|(with_reducible apply t_seq)|(apply t_region;kernel_rfl)|((with_reducible apply t_condF);exact rfl)|(with_reducible apply t_exit))|with_reducible apply q_thenN|with_reducible apply q_thenE|((with_reducible apply q_blockE);exact rfl)|(with_reducible apply end_normal)|exact rvs_nil)
   all_goals exact ⟨rfl,by (repeat (first|exact HpSub.refl _|(apply HpSub.consE;(repeat first|exact P0|apply P1);exact rfl)|exact HpSub.nil))⟩
end Go.Proofs.Ytcjkndjjbjoehaa
