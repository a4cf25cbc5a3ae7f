/- A part of the proof: rules for walks, and contracts of functions (5). -/
import Derived.Test.YtcjkndjjbjoehaaXTrC
import Derived.Test.YtcjkndjjbjoehaaXTrD
import Derived.Test.YtcjkndjjbjoehaaXTrB
import Derived.Laws.MakeOwn
set_option linter.unusedVariables false
set_option linter.unusedSimpArgs false
set_option maxRecDepth 100000
set_option maxHeartbeats 2000000
namespace Go.Proofs.Ytcjkndjjbjoehaa
open Go.RowKit
section
variable {α:Type} {lt:α→α→Bool}
def Mid (lt:α→α→Bool) (a a' b' b:Nat) (Y:List α):Prop:=∀ i j x y,a≤i→i<j→j<b→(i<a'∨b'≤j)→Y[i]?=some x→Y[j]?=some y→lt y x=false
def Lw (lt:α→α→Bool) (a b:Nat) (Y:List α):Prop:=∀ x,0<a→Y[a-1]?=some x→∀ i y,a≤i→i<b→Y[i]?=some y→lt y x=false
theorem Mid.sg {a a' b' b:Nat} {Y W:List α} (h:Mid lt a a' b' b Y) (hs:Sg a' b' Y W) (h1:a≤a') (h2:b'≤b):Mid lt a a' b' b W:=by
 intro i j x y hi hij hj hc hx hy
 have hle:=hs.le
 rcases hc with hc|hc
 · rw [hs.out (.inl hc)] at hx
   rcases Nat.lt_or_ge j a' with k|k
   · rw [hs.out (.inl k)] at hy
     exact h i j x y hi hij hj (.inl hc) hx hy
   · rcases Nat.lt_or_ge j b' with k2|k2
     · exact hs.mem (p:=fun y=>lt y x=false) (fun q u q1 q2 hu=>h i q x u hi (by omega) (by omega) (.inl hc) hx hu) j y k k2 hy
     · rw [hs.out (.inr k2)] at hy
       exact h i j x y hi hij hj (.inl hc) hx hy
 · rw [hs.out (.inr hc)] at hy
   rcases Nat.lt_or_ge i b' with k|k
   · rcases Nat.lt_or_ge i a' with k2|k2
     · rw [hs.out (.inl k2)] at hx
       exact h i j x y hi hij hj (.inr hc) hx hy
     · exact hs.mem (p:=fun x=>lt y x=false) (fun q u q1 q2 hu=>h q j u y (by omega) (by omega) hj (.inr hc) hu hy) i x k2 k hx
   · rw [hs.out (.inr k)] at hx
     exact h i j x y hi hij hj (.inr hc) hx hy
theorem Lw.sg {a b:Nat} {Y W:List α} (h:Lw lt a b Y) (hs:Sg a b Y W):Lw lt a b W:=by
 intro x h0 hx
 rw [hs.out (.inl (by omega))] at hx
 exact hs.mem (p:=fun y=>lt y x=false) (h x h0 hx)
theorem Mid.fin {a a' b' b:Nat} {Y:List α} (h:Mid lt a a' b' b Y) (hs:So lt a' b' Y):So lt a b Y:=by
 intro i j x y hi hij hj hx hy
 by_cases hc:i<a'∨b'≤j
 · exact h i j x y hi hij hj hc hx hy
 · exact hs i j x y (by omega) hij (by omega) hx hy
theorem Mid.start {a b:Nat} {Y:List α}:Mid lt a a b b Y:=fun i j x y h1 h2 h3 h4=>by omega
theorem Mid.left (hw:Wo lt) {a a' b' b m:Nat} {p:α} {Y W:List α} (h:Mid lt a a' b' b Y) (hp:PF lt p a' m b' Y) (hs:Sg a' m Y W) (ho:So lt a' m W) (h1:a≤a') (h2:b'≤b) (hl:b'≤Y.length):Mid lt a (m+1) b' b W∧Lw lt (m+1) b' W:=by
 have hmb:=hp.mb
 have ham:=hp.am
 have hlt:∀ i x,a'≤i→i<m→W[i]?=some x→lt x p=true:=hs.mem (p:=fun x=>lt x p=true) hp.lo
 have hm:W[m]?=some p:=by rw [hs.out (.inr (Nat.le_refl _))];exact hp.at_
 have hge:∀ j y,m<j→j<b'→W[j]?=some y→lt y p=false:=fun j y k1 k2 hy=>by
   rw [hs.out (.inr (by omega))] at hy
   exact hp.hi j y k1 k2 hy
 have hM:=h.sg (hs.wide (Nat.le_refl a') (b':=b') (by omega) hl) h1 h2
 refine ⟨fun i j x y k1 k2 k3 k4 hx hy=>?_,fun x k0 hx i y k1 k2 hy=>?_⟩
 · by_cases hc:i<a'∨b'≤j
   · exact hM i j x y k1 k2 k3 hc hx hy
   · rcases Nat.lt_or_ge i m with e|e
     · have hxp:=hlt i x (by omega) e hx
       rcases Nat.lt_or_ge j m with f|f
       · exact ho i j x y (by omega) k2 f hx hy
       · rcases Nat.lt_or_ge m j with f2|f2
         · exact hw.tr _ _ _ (hw.asym _ _ hxp) (hge j y f2 (by omega) hy)
         · obtain rfl:j=m:=by omega
           rw [hm] at hy
           obtain rfl:=Option.some.inj hy
           exact hw.asym _ _ hxp
     · obtain rfl:i=m:=by omega
       rw [hm] at hx
       obtain rfl:=Option.some.inj hx
       exact hge j y k2 (by omega) hy
 · rw [Nat.add_sub_cancel,hm] at hx
   obtain rfl:=Option.some.inj hx
   exact hge i y (by omega) k2 hy
theorem Mid.right (hw:Wo lt) {a a' b' b m:Nat} {p:α} {Y W:List α} (h:Mid lt a a' b' b Y) (hp:PF lt p a' m b' Y) (hL:Lw lt a' b' Y) (hs:Sg (m+1) b' Y W) (ho:So lt (m+1) b' W) (h1:a≤a') (h2:b'≤b) (hl:b'≤Y.length):Mid lt a a' m b W∧Lw lt a' m W:=by
 have hmb:=hp.mb
 have ham:=hp.am
 have hge:∀ i x,m+1≤i→i<b'→W[i]?=some x→lt x p=false:=hs.mem (p:=fun x=>lt x p=false) fun i x k1 k2 hx=>hp.hi i x (by omega) k2 hx
 have hm:W[m]?=some p:=by rw [hs.out (.inl (Nat.lt_succ_self _))];exact hp.at_
 have hlt:∀ j y,a'≤j→j<m→W[j]?=some y→lt y p=true:=fun j y k1 k2 hy=>by
   rw [hs.out (.inl (by omega))] at hy
   exact hp.lo j y k1 k2 hy
 have hM:=h.sg (hs.wide (a':=a') (b':=b') (by omega) (Nat.le_refl _) hl) h1 h2
 refine ⟨fun i j x y k1 k2 k3 k4 hx hy=>?_,fun x k0 hx i y k1 k2 hy=>?_⟩
 · by_cases hc:i<a'∨b'≤j
   · exact hM i j x y k1 k2 k3 hc hx hy
   · rcases Nat.lt_or_ge m i with e|e
     · exact ho i j x y (by omega) k2 (by omega) hx hy
     · rcases Nat.lt_or_ge m j with f|f
       · have hyp:=hge j y (by omega) (by omega) hy
         rcases Nat.lt_or_ge i m with e2|e2
         · exact hw.tr _ _ _ (hw.asym _ _ (hlt i x (by omega) e2 hx)) hyp
         · obtain rfl:i=m:=by omega
           rw [hm] at hx
           obtain rfl:=Option.some.inj hx
           exact hyp
       · obtain rfl:j=m:=by omega
         rw [hm] at hy
         obtain rfl:=Option.some.inj hy
         exact hw.asym _ _ (hlt i x (by omega) (by omega) hx)
 · rw [hs.out (.inl (by omega))] at hx hy
   exact hL x k0 hx i y k1 (by omega) hy
theorem Mid.like (hw:Wo lt) {a a' b' b i j:Nat} {p x0:α} {Y:List α} (h:Mid lt a a' b' b Y) (hq:QI lt p a' i j b' Y) (hji:j<i) (hL:Lw lt a' b' Y) (h0:0<a') (hx0:Y[a'-1]?=some x0) (hx0p:lt x0 p=false) (h1:a≤a') (h2:b'≤b):Mid lt a i b' b Y∧Lw lt i b' Y:=by
 have i1:=hq.i1
 have ij:=hq.ij
 have jb:=hq.jb
 have hle:∀ k x,a'≤k→k<i→Y[k]?=some x→lt p x=false:=fun k x k1 k2 hx=>by
   rcases Nat.lt_or_ge a' k with e|e
   · exact hq.lo k x e k2 hx
   · obtain rfl:k=a':=by omega
     rw [hq.hd] at hx
     obtain rfl:=Option.some.inj hx
     exact hw.irr _
 have key:∀ k x q y,a'≤k→k<i→Y[k]?=some x→a'≤q→q<b'→Y[q]?=some y→lt y x=false:=fun k x q y k1 k2 hx q1 q2 hy=>
   hw.tr _ _ _ (hw.tr _ _ _ (hle k x k1 k2 hx) hx0p) (hL x0 h0 hx0 q y q1 q2 hy)
 refine ⟨fun u v x y k1 k2 k3 k4 hx hy=>?_,fun x k0 hx u y k1 k2 hy=>?_⟩
 · by_cases hc:u<a'∨b'≤v
   · exact h u v x y k1 k2 k3 hc hx hy
   · exact key u x v y (by omega) (by omega) hx (by omega) (by omega) hy
 · exact key (i-1) x u y (by omega) (by omega) hx (by omega) k2 hy
theorem ins_M {fx fy:α→Int} {kf:Nat} (hw:Wo lt) (HK:CmpOk fx fy lt kf) (g cp n a b:Nat) (Z:List α) (w:World) (hH:Has w ⟨[g],[]⟩ [(g,coB fx fy Z,some (111,2,cp))] w) (hn:Z.length=n) (hn1:n≤1000000) (hab:a≤b) (hb:b≤n) :
   Calls Try.prog 196 #[.slice (some ⟨g,0,none⟩) n cp,.int .i64 ((a:Nat):Int),.int .i64 ((b:Nat):Int),.func (.func kf) #[] #[]] w fun e w'=>∃ v H1,e=.returned v∧(v=.tuple #[]∧∃ W,So lt a b W∧Sg a b Z W∧H1=[(g,coB fx fy W,some (111,2,cp))])∧Has w ⟨[g],[]⟩ H1 w':=by
 have e:Z=Z.take a++((Z.drop a).take (b-a)++(Z.drop a).drop (b-a)):=by rw [List.take_append_drop,List.take_append_drop]
 have hP:(Z.take a).length=a:=by rw [List.length_take];omega
 have hX:a+((Z.drop a).take (b-a)).length=b:=by rw [List.length_take,List.length_drop];omega
 obtain ⟨P,hP0⟩:∃ P,Z.take a=P:=⟨_,rfl⟩
 obtain ⟨X,hX0⟩:∃ P,(Z.drop a).take (b-a)=P:=⟨_,rfl⟩
 obtain ⟨Q,hQ0⟩:∃ P,(Z.drop a).drop (b-a)=P:=⟨_,rfl⟩
 rw [hP0,hX0,hQ0] at e
 rw [hP0] at hP
 rw [hX0] at hX
 clear hP0 hX0 hQ0
 subst e
 refine Calls.mono (ins_G hw HK g cp n a b P X Q w (hH.blkP P0) hP hX hn hn1) ?_
 rintro e w' ⟨rfl,h1,h2⟩
 refine ⟨_,_,rfl,⟨rfl,P++(srt lt X++Q),?_,⟨P,X,srt lt X,Q,rfl,rfl,hP,hX,srt_perm X⟩,rfl⟩,hH.wrote h1 h2⟩
 have hso:=srt_srt hw X
 have hlen:=srt_len (lt:=lt) X
 intro i j x y hi hij hj hx hy
 rw [List.getElem?_append_right (by omega),List.getElem?_append_left (by omega)] at hx hy
 obtain ⟨h3,rfl⟩:=List.getElem?_eq_some_iff.1 hx
 obtain ⟨h4,rfl⟩:=List.getElem?_eq_some_iff.1 hy
 exact List.pairwise_iff_getElem.1 hso _ _ h3 h4 (by omega)
end
end Go.Proofs.Ytcjkndjjbjoehaa
namespace Go.Proofs.Ytcjkndjjbjoehaa
open Go.RowKit
attribute [local irreducible] OQ OS OX Rd T TL GX GL AL AI RV wpG SAny Calls
theorem t_cutX {c:Cx} {S:WS c.P} {Q:QS} {F:Fr} {H:Hp} {ι:Type} {x y:Code} (fr:ι→Fr) (hp:ι→Hp) (Pi:ι→Prop) (h1:T c S x (thenQ (fun F' H'=>∃ i,Pi i∧FrSub F' (fr i)∧HpSub H' (hp i)) Q) F H) (h2:∀ i,Pi i→T c S y Q (fr i) (hp i)):T c S (.seq x y) Q F H:=by
 refine t_seq ?_
 unfold T at h1 h2 ⊢
 refine fun D a w ha hw=>S.mono (h1 D a w ha hw) fun e a' w' he=>?_
 obtain ⟨D',F',H',hq,h3,h4⟩:=he
 cases e with
 | normal=>obtain ⟨i,hi,hF,hH⟩:=hq;exact ⟨D',_,_,h2 i hi,h3.sub hF,h4.sub hH⟩
 | _=>exact ⟨D',F',H',hq,h3,h4⟩
theorem pdq_M {α:Type} {fx fy:α→Int} {lt:α→α→Bool} {kf:Nat} (hw:Wo lt) (HK:CmpOk fx fy lt kf) (g cp n:Nat) (hn1:n≤1000000):∀ (N a b l:Nat) (Z:List α) (w:World),Has w ⟨[g],[]⟩ [(g,coB fx fy (Z),some (111,2,cp))] w→Z.length=n→a≤b→b≤n→b<a+50→b-a≤N→l≤1000→Lw lt a b Z →
   Calls Try.prog 188 #[.slice (some ⟨g,0,none⟩) n cp,.int .i64 ((a:Nat):Int),.int .i64 ((b:Nat):Int),.int .i64 ((l:Nat):Int),.func (.func kf) #[] #[]] w fun e w'=>∃ v H1,e=.returned v∧(v=.tuple #[]∧∃ W,So lt a b W∧Sg a b Z W∧H1=[(g,coB fx fy (W),some (111,2,cp))])∧Has w ⟨[g],[]⟩ H1 w':=by
 intro N
 induction N using Nat.strongRecOn with|ind N ih=>?_
 intro a b l Z w hH hn hab hb h50 hN hlB hL0
 refine enterM (c:=cxM [g] w 148) Try.func188 rfl rfl rfl hH ?_
 refine t_cut (ι:=Unit) (fun _=>[(0,.slice (some ⟨g,0,none⟩) n cp),(1,.int .i64 ((a:Nat):Int)),(2,.int .i64 ((b:Nat):Int)),(3,.int .i64 ((l:Nat):Int)),(4,.func (.func kf) #[] #[]),(10,.bool true)]) (fun _=>[(g,coB fx fy (Z),some (111,2,cp))]) (fun _=>True) ?_ ?_
 · repeat' (first|((with_reducible apply oq_id);first|(apply oq_fn;exact rfl;first|exact trivial|(and_intros<;>omega)|omega|skip))|((with_reducible apply tl_id);first|(with_reducible apply tl_nil)|((with_reducible apply u_q);(iterate 4 exact rfl)))|((with_reducible apply t_id);first|(apply t_region;kernel_rfl)))
   all_goals exact ⟨by trivial,(),trivial,by (repeat' (first|exact FrSub.nil|(apply FrSub.cons;exact rfl))),by (repeat' (first|exact HpSub.refl _))⟩
 rintro ⟨⟩ -
 try dsimp only
 refine t_cut (ι:=Unit) (fun _=>[(0,.slice (some ⟨g,0,none⟩) n cp),(1,.int .i64 ((a:Nat):Int)),(2,.int .i64 ((b:Nat):Int)),(3,.int .i64 ((l:Nat):Int)),(4,.func (.func kf) #[] #[]),(10,.bool true),(11,.bool true)]) (fun _=>[(g,coB fx fy (Z),some (111,2,cp))]) (fun _=>True) ?_ ?_
 · repeat' (first|((with_reducible apply oq_id);first|(apply oq_fn;exact rfl;first|exact trivial|(and_intros<;>omega)|omega|skip))|((with_reducible apply tl_id);first|(with_reducible apply tl_nil)|((with_reducible apply u_q);(iterate 4 exact rfl)))|((with_reducible apply t_id);first|(apply t_region;kernel_rfl)))
   all_goals exact ⟨by trivial,(),trivial,by (repeat' (first|exact FrSub.nil|(apply FrSub.cons;exact rfl))),by (repeat' (first|exact HpSub.refl _))⟩
 rintro ⟨⟩ -
 try dsimp only
 (with_reducible apply t_block)
 apply t_loopP (ι:=Nat×Nat×Nat×Bool×Bool×List α) [0,4] (fun z=>[(1,.int .i64 ((z.1:Nat):Int)),(2,.int .i64 ((z.2.1:Nat):Int)),(3,.int .i64 ((z.2.2.1:Nat):Int)),(10,.bool z.2.2.2.1),(11,.bool z.2.2.2.2.1)]) (fun z=>[(g,coB fx fy (z.2.2.2.2.2),some (111,2,cp))]) (fun z=>z.2.2.1≤1000∧(a≤z.1∧z.1≤z.2.1∧z.2.1≤b)∧Sg a b Z z.2.2.2.2.2∧Mid lt a z.1 z.2.1 b z.2.2.2.2.2∧Lw lt z.1 z.2.1 z.2.2.2.2.2) (fun z=>z.2.1-z.1) (a,b,l,true,true,Z)
 (repeat (first|exact KeepF.nil|(apply KeepF.cons;exact rfl)|apply KeepF.skip))
 (repeat first|exact FrSub.nil|(apply FrSub.cons;exact rfl))
 (try simp only [List.cons_append,List.nil_append])
 (repeat' (first|exact HpSub.refl _))
 · exact ⟨hlB,⟨Nat.le_refl _,hab,Nat.le_refl _⟩,Sg.refl (by omega) (by omega),Mid.start,hL0⟩
 clear hlB
 rintro ⟨a1,b1,l,wb,wp,Y⟩ ⟨hlb,⟨ha1,hab1,hb1⟩,hs,hM,hL⟩
 simp only at hlb ha1 hab1 hb1 hs hM hL
 try simp only [List.cons_append,List.nil_append]
 have hYl:=hs.len
 (with_reducible apply t_block)
 refine t_cut (ι:=Unit) (fun _=>[(0,.slice (some ⟨g,0,none⟩) n cp),(1,.int .i64 ((a1:Nat):Int)),(2,.int .i64 ((b1:Nat):Int)),(3,.int .i64 ((l:Nat):Int)),(4,.func (.func kf) #[] #[]),(10,.bool wb),(11,.bool wp),(12,.int .i64 (((b1-a1):Nat):Int))]) (fun _=>[(g,coB fx fy (Y),some (111,2,cp))]) (fun _=>True) ?_ ?_
 · repeat' (first|((with_reducible apply oq_id);first|(focus ((with_reducible apply (oq_subE (k:=((b1-a1:Nat):Int))));exact rfl;exact rfl;omega))|(apply oq_fn;exact rfl;first|exact trivial|(and_intros<;>omega)|omega|skip))|((with_reducible apply tl_id);first|(with_reducible apply tl_nil)|((with_reducible apply u_q);(iterate 4 exact rfl)))|((with_reducible apply t_id);first|(apply t_region;kernel_rfl)))
   all_goals exact ⟨by trivial,(),trivial,by (repeat' (first|exact FrSub.nil|(apply FrSub.cons;exact rfl))),by (repeat' (first|exact HpSub.refl _))⟩
 rintro ⟨⟩ -
 try dsimp only
 by_cases h12:b1-a1≤12
 · repeat' (first|((with_reducible apply oq_id);first|((with_reducible apply oq_leqT);exact rfl;exact rfl;omega)|(apply oq_fn;exact rfl;first|exact trivial|(and_intros<;>omega)|omega|skip))|((with_reducible apply tl_id);first|(with_reducible apply tl_nil)|((with_reducible apply u_s);(iterate 3 exact rfl);(with_reducible apply os_callM (PV:=fun v H1=>(v=.tuple #[]∧∃ W,So lt a1 b1 W∧Sg a1 b1 Y W∧H1=[(g,coB fx fy (W),some (111,2,cp))])) (G:=[(g,coB fx fy (Y),some (111,2,cp))]) (R:=[]) (hc:=Try.call196));exact rfl;exact rfl;(repeat (first|exact HpSub.refl _|(apply HpSub.consE;(repeat first|exact P0|apply P1);exact rfl)|apply HpSub.skipX|apply HpSub.skipX|exact HpSub.nil));exact fun D w1 hw1 hg1=>ins_M hw HK g cp n a1 b1 Y w1 hg1 (by omega) hn1 (by omega) (by omega);rintro _ _ ⟨rfl,W,hW1,hW2,rfl⟩;(try simp only [List.cons_append,List.nil_append,List.append_nil]))|((with_reducible apply u_q);(iterate 4 exact rfl)))|((with_reducible apply t_id);first|(with_reducible apply t_seq)|(apply t_region;kernel_rfl)|((with_reducible apply t_condT);exact rfl)|(with_reducible apply t_ret))|with_reducible apply q_thenN|with_reducible apply q_thenR|with_reducible apply q_blockR|(with_reducible apply end_ret)|exact rvs_nil)
   all_goals exact ⟨_,⟨rfl,W,(hM.sg hW2 (by omega) (by omega)).fin hW1,hs.trans (hW2.wide (by omega) (by omega) (by omega)),rfl⟩,HpSub.w (by (repeat (first|exact HpSub.refl _|(apply HpSub.consE;(repeat first|exact P0|apply P1);exact rfl)|apply HpSub.skipX|exact HpSub.nil)))⟩
 refine t_cut (ι:=Unit) (fun _=>[(0,.slice (some ⟨g,0,none⟩) n cp),(1,.int .i64 ((a1:Nat):Int)),(2,.int .i64 ((b1:Nat):Int)),(3,.int .i64 ((l:Nat):Int)),(4,.func (.func kf) #[] #[]),(10,.bool wb),(11,.bool wp),(12,.int .i64 (((b1-a1):Nat):Int))]) (fun _=>[(g,coB fx fy (Y),some (111,2,cp))]) (fun _=>True) ?_ ?_
 · repeat' (first|((with_reducible apply oq_id);first|((with_reducible apply oq_leqF);exact rfl;exact rfl;omega)|(apply oq_fn;exact rfl;first|exact trivial|(and_intros<;>omega)|omega|skip))|((with_reducible apply tl_id);first|(with_reducible apply tl_nil)|((with_reducible apply u_q);(iterate 4 exact rfl)))|((with_reducible apply t_id);first|(with_reducible apply t_seq)|(apply t_region;kernel_rfl)|((with_reducible apply t_condF);exact rfl)|(with_reducible apply t_skip))|with_reducible apply q_thenN)
   all_goals exact ⟨by trivial,(),trivial,by (repeat' (first|exact FrSub.nil|(apply FrSub.cons;exact rfl))),by (repeat' (first|exact HpSub.refl _))⟩
 rintro ⟨⟩ -
 try dsimp only
 by_cases hl0:l=0
 · repeat' (first|((with_reducible apply oq_id);first|((with_reducible apply oq_eqlT);exact rfl;exact rfl;omega)|(apply oq_fn;exact rfl;first|exact trivial|(and_intros<;>omega)|omega|skip))|((with_reducible apply tl_id);first|(with_reducible apply tl_nil)|((with_reducible apply u_s);(iterate 3 exact rfl);(with_reducible apply os_callM (PV:=fun v H1=>(v=.tuple #[]∧∃ W,So lt a1 b1 W∧Sg a1 b1 Y W∧H1=[(g,coB fx fy (W),some (111,2,cp))])) (G:=[(g,coB fx fy (Y),some (111,2,cp))]) (R:=[]) (hc:=Try.call197));exact rfl;exact rfl;(repeat (first|exact HpSub.refl _|(apply HpSub.consE;(repeat first|exact P0|apply P1);exact rfl)|apply HpSub.skipX|apply HpSub.skipX|exact HpSub.nil));exact fun D w1 hw1 hg1=>heap_M hw HK g cp n a1 b1 Y w1 hg1 (by omega) hn1 (by omega) (by omega);rintro _ _ ⟨rfl,W,hW1,hW2,rfl⟩;(try simp only [List.cons_append,List.nil_append,List.append_nil]))|((with_reducible apply u_q);(iterate 4 exact rfl)))|((with_reducible apply t_id);first|(with_reducible apply t_seq)|(apply t_region;kernel_rfl)|((with_reducible apply t_condT);exact rfl)|(with_reducible apply t_ret))|with_reducible apply q_thenN|with_reducible apply q_thenR|with_reducible apply q_blockR|(with_reducible apply end_ret)|exact rvs_nil)
   all_goals exact ⟨_,⟨rfl,W,(hM.sg hW2 (by omega) (by omega)).fin hW1,hs.trans (hW2.wide (by omega) (by omega) (by omega)),rfl⟩,HpSub.w (by (repeat (first|exact HpSub.refl _|(apply HpSub.consE;(repeat first|exact P0|apply P1);exact rfl)|apply HpSub.skipX|exact HpSub.nil)))⟩
 refine t_cut (ι:=Unit) (fun _=>[(0,.slice (some ⟨g,0,none⟩) n cp),(1,.int .i64 ((a1:Nat):Int)),(2,.int .i64 ((b1:Nat):Int)),(3,.int .i64 ((l:Nat):Int)),(4,.func (.func kf) #[] #[]),(10,.bool wb),(11,.bool wp),(12,.int .i64 (((b1-a1):Nat):Int))]) (fun _=>[(g,coB fx fy (Y),some (111,2,cp))]) (fun _=>True) ?_ ?_
 · repeat' (first|((with_reducible apply oq_id);first|((with_reducible apply oq_eqlF);exact rfl;exact rfl;omega)|(apply oq_fn;exact rfl;first|exact trivial|(and_intros<;>omega)|omega|skip))|((with_reducible apply tl_id);first|(with_reducible apply tl_nil)|((with_reducible apply u_q);(iterate 4 exact rfl)))|((with_reducible apply t_id);first|(with_reducible apply t_seq)|(apply t_region;kernel_rfl)|((with_reducible apply t_condF);exact rfl)|(with_reducible apply t_skip))|with_reducible apply q_thenN)
   all_goals exact ⟨by trivial,(),trivial,by (repeat' (first|exact FrSub.nil|(apply FrSub.cons;exact rfl))),by (repeat' (first|exact HpSub.refl _))⟩
 rintro ⟨⟩ -
 try dsimp only
 refine t_cut (ι:=Nat×List α) (fun z=>[(0,.slice (some ⟨g,0,none⟩) n cp),(1,.int .i64 ((a1:Nat):Int)),(2,.int .i64 ((b1:Nat):Int)),(3,.int .i64 ((z.1:Nat):Int)),(4,.func (.func kf) #[] #[]),(10,.bool wb),(11,.bool wp),(12,.int .i64 (((b1-a1):Nat):Int))]) (fun z=>[(g,coB fx fy (z.2),some (111,2,cp))]) (fun z=>z.1≤1000∧Sg a b Z z.2∧Mid lt a a1 b1 b z.2∧Lw lt a1 b1 z.2) ?_ ?_
 · cases wb with
   | true=>
     repeat' (first|((with_reducible apply oq_id);first|(apply oq_fn;exact rfl;first|exact trivial|(and_intros<;>omega)|omega|skip))|((with_reducible apply tl_id);first|(with_reducible apply tl_nil)|((with_reducible apply u_q);(iterate 4 exact rfl)))|((with_reducible apply t_id);first|(with_reducible apply t_seq)|(apply t_region;kernel_rfl)|((with_reducible apply t_condF);exact rfl)|(with_reducible apply t_skip))|with_reducible apply q_thenN)
     all_goals exact ⟨by trivial,(l,Y),⟨hlb,hs,hM,hL⟩,by (repeat' (first|exact FrSub.nil|(apply FrSub.cons;exact rfl))),by (repeat' (first|exact HpSub.refl _))⟩
   | false=>
     repeat' (first|((with_reducible apply oq_id);first|(focus ((with_reducible apply (oq_subE (k:=((l-1:Nat):Int))));exact rfl;exact rfl;omega))|(apply oq_fn;exact rfl;first|exact trivial|(and_intros<;>omega)|omega|skip))|((with_reducible apply tl_id);first|(with_reducible apply tl_nil)|((with_reducible apply u_s);(iterate 3 exact rfl);(with_reducible apply os_callM (PV:=fun v H1=>(v=.tuple #[]∧∃ W,Sg a1 b1 Y W∧H1=[(g,coB fx fy (W),some (111,2,cp))])) (G:=[(g,coB fx fy (Y),some (111,2,cp))]) (R:=[]) (hc:=Try.call198));exact rfl;exact rfl;(repeat (first|exact HpSub.refl _|(apply HpSub.consE;(repeat first|exact P0|apply P1);exact rfl)|apply HpSub.skipX|apply HpSub.skipX|exact HpSub.nil));exact fun D w1 hw1 hg1=>break_M hw HK g cp n a1 b1 Y w1 hg1 (by omega) hn1 (by omega) (by omega) (by omega);rintro _ _ ⟨rfl,W,hW2,rfl⟩;(try simp only [List.cons_append,List.nil_append,List.append_nil]))|((with_reducible apply u_q);(iterate 4 exact rfl)))|((with_reducible apply t_id);first|(with_reducible apply t_seq)|(apply t_region;kernel_rfl)|((with_reducible apply t_condT);exact rfl))|with_reducible apply q_thenN)
     all_goals exact ⟨by trivial,(l-1,W),⟨(by simp only;omega),hs.trans (hW2.wide (by omega) (by omega) (by omega)),hM.sg hW2 (by omega) (by omega),hL.sg hW2⟩,by (repeat' (first|exact FrSub.nil|(apply FrSub.cons;exact rfl))),by (repeat' (first|exact HpSub.refl _))⟩
 clear hl0 hlb hs hM hL hYl Y
 rintro ⟨l,Y⟩ ⟨hlb,hs,hM,hL⟩
 simp only at hlb hs hM hL
 have hYl:=hs.len
 try dsimp only
 refine t_cut (ι:=Nat×Int) (fun z=>[(0,.slice (some ⟨g,0,none⟩) n cp),(1,.int .i64 ((a1:Nat):Int)),(2,.int .i64 ((b1:Nat):Int)),(3,.int .i64 ((l:Nat):Int)),(4,.func (.func kf) #[] #[]),(10,.bool wb),(11,.bool wp),(12,.int .i64 (((b1-a1):Nat):Int)),(13,.int .i64 ((z.1:Nat):Int)),(14,.int .i64 z.2)]) (fun _=>[(g,coB fx fy (Y),some (111,2,cp))]) (fun z=>a1≤z.1∧z.1<b1∧(z.2=0∨z.2=1∨z.2=2)) ?_ ?_
 · repeat' (first|((with_reducible apply oq_id);first|(apply oq_fn;exact rfl;first|exact trivial|(and_intros<;>omega)|omega|skip))|((with_reducible apply tl_id);first|(with_reducible apply tl_nil)|((with_reducible apply u_s);(iterate 3 exact rfl);(with_reducible apply os_callM (PV:=fun v H1=>(∃ (r:Nat) (h:Int),a1≤r∧r<b1∧(h=0∨h=1∨h=2)∧v=.tuple #[.int .i64 ((r:Nat):Int),.int .i64 h]∧H1=[(g,coB fx fy (Y),some (111,2,cp))])) (G:=[(g,coB fx fy (Y),some (111,2,cp))]) (R:=[]) (hc:=Try.call199));exact rfl;exact rfl;(repeat (first|exact HpSub.refl _|(apply HpSub.consE;(repeat first|exact P0|apply P1);exact rfl)|apply HpSub.skipX|apply HpSub.skipX|exact HpSub.nil));exact fun D w1 hw1 hg1=>pivot_M hw HK g cp n a1 b1 Y w1 hg1 (by omega) hn1 (by omega) (by omega) (by omega);rintro _ _ ⟨r,h,hr1,hr2,hh,rfl,rfl⟩;(try simp only [List.cons_append,List.nil_append,List.append_nil]))|((with_reducible apply u_q);(iterate 4 exact rfl)))|((with_reducible apply t_id);first|(apply t_region;kernel_rfl)))
   all_goals exact ⟨by trivial,(r,h),⟨hr1,hr2,hh⟩,by (repeat' (first|exact FrSub.nil|(apply FrSub.cons;exact rfl))),by (repeat' (first|exact HpSub.refl _))⟩
 rintro ⟨r,h⟩ ⟨hr1,hr2,hh⟩
 simp only at hr1 hr2 hh
 try dsimp only
 refine t_cut (ι:=Nat×Int×List α) (fun z=>[(0,.slice (some ⟨g,0,none⟩) n cp),(1,.int .i64 ((a1:Nat):Int)),(2,.int .i64 ((b1:Nat):Int)),(3,.int .i64 ((l:Nat):Int)),(4,.func (.func kf) #[] #[]),(10,.bool wb),(11,.bool wp),(12,.int .i64 (((b1-a1):Nat):Int)),(13,.int .i64 ((z.1:Nat):Int)),(14,.int .i64 z.2.1)]) (fun z=>[(g,coB fx fy (z.2.2),some (111,2,cp))]) (fun z=>a1≤z.1∧z.1<b1∧Sg a b Z z.2.2∧Mid lt a a1 b1 b z.2.2∧Lw lt a1 b1 z.2.2) ?_ ?_
 · by_cases h2:h=2
   · repeat' (first|((with_reducible apply oq_id);first|(focus ((with_reducible apply (oq_subE (k:=((b1-1:Nat):Int))));exact rfl;exact rfl;omega))|(focus ((with_reducible apply (oq_subE (k:=((r-a1:Nat):Int))));exact rfl;exact rfl;omega))|(focus ((with_reducible apply (oq_subE (k:=((b1-1-(r-a1):Nat):Int))));exact rfl;exact rfl;omega))|((with_reducible apply oq_eqlT);exact rfl;exact rfl;omega)|(apply oq_fn;exact rfl;first|exact trivial|(and_intros<;>omega)|omega|skip))|((with_reducible apply tl_id);first|(with_reducible apply tl_nil)|((with_reducible apply u_s);(iterate 3 exact rfl);(with_reducible apply os_callM (PV:=fun v H1=>(v=.tuple #[]∧∃ W,Sg a1 b1 Y W∧H1=[(g,coB fx fy (W),some (111,2,cp))])) (G:=[(g,coB fx fy (Y),some (111,2,cp))]) (R:=[]) (hc:=Try.call200));exact rfl;exact rfl;(repeat (first|exact HpSub.refl _|(apply HpSub.consE;(repeat first|exact P0|apply P1);exact rfl)|apply HpSub.skipX|apply HpSub.skipX|exact HpSub.nil));exact fun D w1 hw1 hg1=>reverse_M hw HK g cp n a1 b1 Y w1 hg1 (by omega) hn1 (by omega) (by omega) (by omega);rintro _ _ ⟨rfl,W,hW2,rfl⟩;(try simp only [List.cons_append,List.nil_append,List.append_nil]))|((with_reducible apply u_q);(iterate 4 exact rfl)))|((with_reducible apply t_id);first|(with_reducible apply t_seq)|(apply t_region;kernel_rfl)|((with_reducible apply t_condT);exact rfl))|with_reducible apply q_thenN)
     all_goals exact ⟨by trivial,(b1-1-(r-a1),1,W),⟨(by simp only;omega),(by simp only;omega),hs.trans (hW2.wide (by omega) (by omega) (by omega)),hM.sg hW2 (by omega) (by omega),hL.sg hW2⟩,by (repeat' (first|exact FrSub.nil|(apply FrSub.cons;exact rfl))),by (repeat' (first|exact HpSub.refl _))⟩
   · repeat' (first|((with_reducible apply oq_id);first|((with_reducible apply oq_eqlF);exact rfl;exact rfl;omega)|(apply oq_fn;exact rfl;first|exact trivial|(and_intros<;>omega)|omega|skip))|((with_reducible apply tl_id);first|(with_reducible apply tl_nil)|((with_reducible apply u_q);(iterate 4 exact rfl)))|((with_reducible apply t_id);first|(with_reducible apply t_seq)|(apply t_region;kernel_rfl)|((with_reducible apply t_condF);exact rfl)|(with_reducible apply t_skip))|with_reducible apply q_thenN)
     all_goals exact ⟨by trivial,(r,h,Y),⟨hr1,hr2,hs,hM,hL⟩,by (repeat' (first|exact FrSub.nil|(apply FrSub.cons;exact rfl))),by (repeat' (first|exact HpSub.refl _))⟩
 clear hr1 hr2 hh h r hs hM hL hYl Y
 rintro ⟨r,h,Y⟩ ⟨hr1,hr2,hs,hM,hL⟩
 simp only at hr1 hr2 hs hM hL
 have hYl:=hs.len
 try dsimp only
 obtain ⟨p,hp⟩:∃ x,Y[r]?=some x:=⟨_,List.getElem?_eq_getElem (by omega)⟩
 refine t_cutX (ι:=Unit) (fun _=>[(0,.slice (some ⟨g,0,none⟩) n cp),(1,.int .i64 ((a1:Nat):Int)),(2,.int .i64 ((b1:Nat):Int)),(3,.int .i64 ((l:Nat):Int)),(4,.func (.func kf) #[] #[]),(10,.bool wb),(11,.bool wp),(12,.int .i64 (((b1-a1):Nat):Int)),(13,.int .i64 ((r:Nat):Int)),(14,.int .i64 h)]) (fun _=>[(g,coB fx fy (Y),some (111,2,cp))]) (fun _=>True) ?_ ?_
 · by_cases h1:h=1
   · subst h1
     cases wb<;>cases wp
     · repeat' (first|((with_reducible apply oq_id);first|(apply oq_fn;exact rfl;first|exact trivial|(and_intros<;>omega)|omega|skip))|((with_reducible apply tl_id);first|(with_reducible apply tl_nil)|((with_reducible apply u_q);(iterate 4 exact rfl))|((with_reducible apply u_skip);(iterate 3 exact rfl)))|((with_reducible apply t_id);first|(with_reducible apply t_seq)|(apply t_region;kernel_rfl)|((with_reducible apply t_condF);exact rfl)|(with_reducible apply t_skip))|with_reducible apply q_thenN)
       all_goals exact ⟨(),trivial,by (repeat' (first|exact FrSub.nil|(apply FrSub.cons;exact rfl))),by (repeat' (first|exact HpSub.refl _))⟩
     · repeat' (first|((with_reducible apply oq_id);first|(apply oq_fn;exact rfl;first|exact trivial|(and_intros<;>omega)|omega|skip))|((with_reducible apply tl_id);first|(with_reducible apply tl_nil)|((with_reducible apply u_q);(iterate 4 exact rfl))|((with_reducible apply u_skip);(iterate 3 exact rfl)))|((with_reducible apply t_id);first|(with_reducible apply t_seq)|(apply t_region;kernel_rfl)|((with_reducible apply t_condF);exact rfl)|(with_reducible apply t_skip))|with_reducible apply q_thenN)
       all_goals exact ⟨(),trivial,by (repeat' (first|exact FrSub.nil|(apply FrSub.cons;exact rfl))),by (repeat' (first|exact HpSub.refl _))⟩
     · repeat' (first|((with_reducible apply oq_id);first|(apply oq_fn;exact rfl;first|exact trivial|(and_intros<;>omega)|omega|skip))|((with_reducible apply tl_id);first|(with_reducible apply tl_nil)|((with_reducible apply u_q);(iterate 4 exact rfl))|((with_reducible apply u_skip);(iterate 3 exact rfl)))|((with_reducible apply t_id);first|(with_reducible apply t_seq)|(apply t_region;kernel_rfl)|((with_reducible apply t_condF);exact rfl)|(with_reducible apply t_skip))|with_reducible apply q_thenN)
       all_goals exact ⟨(),trivial,by (repeat' (first|exact FrSub.nil|(apply FrSub.cons;exact rfl))),by (repeat' (first|exact HpSub.refl _))⟩
     · repeat' (first|((with_reducible apply oq_id);first|((with_reducible apply oq_eqlT);exact rfl;exact rfl;omega)|(apply oq_fn;exact rfl;first|exact trivial|(and_intros<;>omega)|omega|skip))|((with_reducible apply tl_id);first|(with_reducible apply tl_nil)|((with_reducible apply u_s);(iterate 3 exact rfl);(with_reducible apply os_callM (PV:=fun v H1=>(∃ f:Bool,v=.bool f∧(f=true→So lt a1 b1 Y)∧H1=[(g,coB fx fy (Y),some (111,2,cp))])) (G:=[(g,coB fx fy (Y),some (111,2,cp))]) (R:=[]) (hc:=Try.call201));exact rfl;exact rfl;(repeat (first|exact HpSub.refl _|(apply HpSub.consE;(repeat first|exact P0|apply P1);exact rfl)|apply HpSub.skipX|apply HpSub.skipX|exact HpSub.nil));exact fun D w1 hw1 hg1=>partial_M hw HK g cp n a1 b1 Y w1 hg1 (by omega) hn1 (by omega) (by omega) (by omega);rintro _ _ ⟨f,rfl,hf,rfl⟩;cases f;(try simp only [List.cons_append,List.nil_append,List.append_nil]))|((with_reducible apply u_q);(iterate 4 exact rfl)))|((with_reducible apply t_id);first|(with_reducible apply t_seq)|(apply t_region;kernel_rfl)|((with_reducible apply t_condT);exact rfl)|((with_reducible apply t_condF);exact rfl)|(with_reducible apply t_ret)|(with_reducible apply t_skip))|with_reducible apply q_thenN|with_reducible apply q_thenR|with_reducible apply q_blockR|(with_reducible apply end_ret)|exact rvs_nil)
       all_goals first
         | exact ⟨_,⟨rfl,Y,hM.fin (hf rfl),hs,rfl⟩,HpSub.w (by (repeat (first|exact HpSub.refl _|(apply HpSub.consE;(repeat first|exact P0|apply P1);exact rfl)|apply HpSub.skipX|exact HpSub.nil)))⟩
         | exact ⟨(),trivial,by (repeat' (first|exact FrSub.nil|(apply FrSub.cons;exact rfl))),by (repeat' (first|exact HpSub.refl _))⟩
   · cases wb<;>cases wp
     · repeat' (first|((with_reducible apply oq_id);first|(apply oq_fn;exact rfl;first|exact trivial|(and_intros<;>omega)|omega|skip))|((with_reducible apply tl_id);first|(with_reducible apply tl_nil)|((with_reducible apply u_q);(iterate 4 exact rfl))|((with_reducible apply u_skip);(iterate 3 exact rfl)))|((with_reducible apply t_id);first|(with_reducible apply t_seq)|(apply t_region;kernel_rfl)|((with_reducible apply t_condF);exact rfl)|(with_reducible apply t_skip))|with_reducible apply q_thenN)
       all_goals exact ⟨(),trivial,by (repeat' (first|exact FrSub.nil|(apply FrSub.cons;exact rfl))),by (repeat' (first|exact HpSub.refl _))⟩
     · repeat' (first|((with_reducible apply oq_id);first|(apply oq_fn;exact rfl;first|exact trivial|(and_intros<;>omega)|omega|skip))|((with_reducible apply tl_id);first|(with_reducible apply tl_nil)|((with_reducible apply u_q);(iterate 4 exact rfl))|((with_reducible apply u_skip);(iterate 3 exact rfl)))|((with_reducible apply t_id);first|(with_reducible apply t_seq)|(apply t_region;kernel_rfl)|((with_reducible apply t_condF);exact rfl)|(with_reducible apply t_skip))|with_reducible apply q_thenN)
       all_goals exact ⟨(),trivial,by (repeat' (first|exact FrSub.nil|(apply FrSub.cons;exact rfl))),by (repeat' (first|exact HpSub.refl _))⟩
     · repeat' (first|((with_reducible apply oq_id);first|(apply oq_fn;exact rfl;first|exact trivial|(and_intros<;>omega)|omega|skip))|((with_reducible apply tl_id);first|(with_reducible apply tl_nil)|((with_reducible apply u_q);(iterate 4 exact rfl))|((with_reducible apply u_skip);(iterate 3 exact rfl)))|((with_reducible apply t_id);first|(with_reducible apply t_seq)|(apply t_region;kernel_rfl)|((with_reducible apply t_condF);exact rfl)|(with_reducible apply t_skip))|with_reducible apply q_thenN)
       all_goals exact ⟨(),trivial,by (repeat' (first|exact FrSub.nil|(apply FrSub.cons;exact rfl))),by (repeat' (first|exact HpSub.refl _))⟩
     · repeat' (first|((with_reducible apply oq_id);first|((with_reducible apply oq_eqlF);exact rfl;exact rfl;omega)|(apply oq_fn;exact rfl;first|exact trivial|(and_intros<;>omega)|omega|skip))|((with_reducible apply tl_id);first|(with_reducible apply tl_nil)|((with_reducible apply u_q);(iterate 4 exact rfl)))|((with_reducible apply t_id);first|(with_reducible apply t_seq)|(apply t_region;kernel_rfl)|((with_reducible apply t_condF);exact rfl)|(with_reducible apply t_skip))|with_reducible apply q_thenN)
       all_goals exact ⟨(),trivial,by (repeat' (first|exact FrSub.nil|(apply FrSub.cons;exact rfl))),by (repeat' (first|exact HpSub.refl _))⟩
 rintro ⟨⟩ -
 try dsimp only
 refine t_cutX (ι:=Unit) (fun _=>[(0,.slice (some ⟨g,0,none⟩) n cp),(1,.int .i64 ((a1:Nat):Int)),(2,.int .i64 ((b1:Nat):Int)),(3,.int .i64 ((l:Nat):Int)),(4,.func (.func kf) #[] #[]),(10,.bool wb),(11,.bool wp),(12,.int .i64 (((b1-a1):Nat):Int)),(13,.int .i64 ((r:Nat):Int)),(14,.int .i64 h)]) (fun _=>[(g,coB fx fy (Y),some (111,2,cp))]) (fun _=>True) ?_ ?_
 · obtain ⟨q0,q1⟩:=co_at (fx:=fx) (fy:=fy) hp
   by_cases h0:0<a1
   · obtain ⟨x0,hx0⟩:∃ x,Y[a1-1]?=some x:=⟨_,List.getElem?_eq_getElem (by omega)⟩
     obtain ⟨r0,r1⟩:=co_at (fx:=fx) (fy:=fy) hx0
     obtain ⟨o,HC,ho⟩:=HK.cmp x0 p
     by_cases HN:o<0
     · repeat' (first|((with_reducible apply oq_id);first|((with_reducible apply oq_lssT);exact rfl;exact rfl;exact HN)|(focus ((with_reducible apply oq_indexAddrN);(iterate 4 exact rfl);omega))|(focus ((with_reducible apply (oq_subE (k:=((a1-1:Nat):Int))));exact rfl;exact rfl;omega))|((with_reducible apply oq_gtrT);exact rfl;exact rfl;omega)|(apply oq_fn;exact rfl;first|exact trivial|(and_intros<;>omega)|omega|skip)|((with_reducible apply oq_loadAgg);exact rfl;exact rfl)|((with_reducible apply oq_call (k:=kf) (hc:=HK.call));exact rfl;exact rfl;exact fun D w1 hw1=>HC w1))|((with_reducible apply gx_id);first|(with_reducible apply v_nil)|((with_reducible apply v_q);(iterate 3 exact rfl)))|((with_reducible apply rd_id);first|(apply Rd.own;(repeat first|exact P0|apply P1);with_reducible (first|exact q0|exact q1|exact r0|exact r1|exact s0|exact s1);done))|((with_reducible apply t_id);first|(apply t_mix (id:=17) [0,1,2,3,4,5,6,7,8,9,10,11,12,13,14,15,16] 0 #[false,false,false,false,false,false,false,false,false,false,false,false,false,false,false,false,false];kernel_rfl;kernel_rfl;exact rfl)|(with_reducible apply t_seq)|((with_reducible apply t_condF);exact rfl)|(with_reducible apply t_skip))|with_reducible apply q_thenN|exact Rdn.zero|apply Rdn.succ|((with_reducible apply al_id);first|(apply al_done;decide +kernel)))
       all_goals exact ⟨(),trivial,by (repeat' (first|exact FrSub.nil|(apply FrSub.cons;exact rfl))),by (repeat' (first|exact HpSub.refl _))⟩
     · have hxp:lt x0 p=false:=by
         cases hc:lt x0 p with
         | false=>rfl
         | true=>exact absurd (ho.2 hc) HN
       repeat' (first|((with_reducible apply oq_id);first|((with_reducible apply oq_lssF);exact rfl;exact rfl;exact HN)|(focus ((with_reducible apply oq_indexAddrN);(iterate 4 exact rfl);omega))|(focus ((with_reducible apply (oq_subE (k:=((a1-1:Nat):Int))));exact rfl;exact rfl;omega))|((with_reducible apply oq_gtrT);exact rfl;exact rfl;omega)|(apply oq_fn;exact rfl;first|exact trivial|(and_intros<;>omega)|omega|skip)|((with_reducible apply oq_loadAgg);exact rfl;exact rfl)|((with_reducible apply oq_call (k:=kf) (hc:=HK.call));exact rfl;exact rfl;exact fun D w1 hw1=>HC w1))|((with_reducible apply tl_id);first|(with_reducible apply tl_nil)|((with_reducible apply u_s);(iterate 3 exact rfl);(with_reducible apply os_callM (PV:=fun v H1=>(∃ (i j:Nat) (W:List α),v=.int .i64 ((i:Nat):Int)∧j<i∧QI lt p a1 i j b1 W∧Sg a1 b1 Y W∧H1=[(g,coB fx fy (W),some (111,2,cp))])) (G:=[(g,coB fx fy (Y),some (111,2,cp))]) (R:=[]) (hc:=Try.call202));exact rfl;exact rfl;(repeat (first|exact HpSub.refl _|(apply HpSub.consE;(repeat first|exact P0|apply P1);exact rfl)|apply HpSub.skipX|apply HpSub.skipX|exact HpSub.nil));exact fun D w1 hw1 hg1=>partEq_M hw HK g cp n a1 b1 r Y p w1 hg1 (by omega) hn1 (by omega) (by omega) ⟨hr1,hr2⟩ hp;rintro _ _ ⟨i,j,W,rfl,hji,hq,hW2,rfl⟩;(try simp only [List.cons_append,List.nil_append,List.append_nil]))|((with_reducible apply u_q);(iterate 4 exact rfl)))|((with_reducible apply gx_id);first|(with_reducible apply v_nil)|((with_reducible apply v_q);(iterate 3 exact rfl)))|((with_reducible apply rd_id);first|(apply Rd.own;(repeat first|exact P0|apply P1);with_reducible (first|exact q0|exact q1|exact r0|exact r1|exact s0|exact s1);done))|((with_reducible apply t_id);first|(apply t_mix (id:=17) [0,1,2,3,4,5,6,7,8,9,10,11,12,13,14,15,16] 0 #[false,false,false,false,false,false,false,false,false,false,false,false,false,false,false,false,false];kernel_rfl;kernel_rfl;exact rfl)|(with_reducible apply t_seq)|(apply t_region;kernel_rfl)|((with_reducible apply t_condT);exact rfl)|(with_reducible apply t_exit))|with_reducible apply q_thenN|with_reducible apply q_thenE|((with_reducible apply q_blockE);exact rfl)|exact Rdn.zero|apply Rdn.succ|((with_reducible apply al_id);first|(apply al_done;decide +kernel)))
       all_goals (
         have hL2:=hL.sg hW2
         have hM2:=hM.sg hW2 (by omega) (by omega)
         have hx2:W[a1-1]?=some x0:=by rw [hW2.out (.inl (by omega))];exact hx0
         have hlk:=Mid.like hw hM2 hq hji hL2 h0 hx2 hxp ha1 hb1
         have ij:=hq.ij
         have jb:=hq.jb
         have i1:=hq.i1
         refine ⟨(i,b1,l,wb,wp,W),⟨hlb,⟨(by simp only;omega),(by simp only;omega),hb1⟩,hs.trans (hW2.wide (by omega) (by omega) (by omega)),hlk.1,hlk.2⟩,(by simp only;omega),?_,?_⟩<;>(repeat' (first|exact FrSub.nil|(apply FrSub.cons;exact rfl)|exact HpSub.refl _)))
   · repeat' (first|((with_reducible apply oq_id);first|((with_reducible apply oq_gtrF);exact rfl;exact rfl;omega)|(apply oq_fn;exact rfl;first|exact trivial|(and_intros<;>omega)|omega|skip))|((with_reducible apply gx_id);first|(with_reducible apply v_nil)|((with_reducible apply v_q);(iterate 3 exact rfl))|((with_reducible apply v_skip);(iterate 3 exact rfl)))|((with_reducible apply t_id);first|(apply t_mix (id:=17) [0,1,2,3,4,5,6,7,8,9,10,11,12,13,14,15,16] 0 #[false,false,false,false,false,false,false,false,false,false,false,false,false,false,false,false,false];kernel_rfl;kernel_rfl;exact rfl)|(with_reducible apply t_seq)|((with_reducible apply t_condF);exact rfl)|(with_reducible apply t_skip))|with_reducible apply q_thenN|((with_reducible apply al_id);first|(apply al_done;decide +kernel)))
     all_goals exact ⟨(),trivial,by (repeat' (first|exact FrSub.nil|(apply FrSub.cons;exact rfl))),by (repeat' (first|exact HpSub.refl _))⟩
 rintro ⟨⟩ -
 try dsimp only
 refine t_cut (ι:=Nat×Bool×List α) (fun z=>[(0,.slice (some ⟨g,0,none⟩) n cp),(1,.int .i64 ((a1:Nat):Int)),(2,.int .i64 ((b1:Nat):Int)),(3,.int .i64 ((l:Nat):Int)),(4,.func (.func kf) #[] #[]),(10,.bool wb),(11,.bool wp),(12,.int .i64 (((b1-a1):Nat):Int)),(16,.int .i64 ((z.1:Nat):Int)),(17,.bool z.2.1)]) (fun z=>[(g,coB fx fy (z.2.2),some (111,2,cp))]) (fun z=>PF lt p a1 z.1 b1 z.2.2∧Sg a b Z z.2.2∧Mid lt a a1 b1 b z.2.2∧Lw lt a1 b1 z.2.2) ?_ ?_
 · repeat' (first|((with_reducible apply oq_id);first|(apply oq_fn;exact rfl;first|exact trivial|(and_intros<;>omega)|omega|skip))|((with_reducible apply tl_id);first|(with_reducible apply tl_nil)|((with_reducible apply u_s);(iterate 3 exact rfl);(with_reducible apply os_callM (PV:=fun v H1=>(∃ (m:Nat) (f:Bool) (W:List α),v=.tuple #[.int .i64 ((m:Nat):Int),.bool f]∧PF lt p a1 m b1 W∧Sg a1 b1 Y W∧H1=[(g,coB fx fy (W),some (111,2,cp))])) (G:=[(g,coB fx fy (Y),some (111,2,cp))]) (R:=[]) (hc:=Try.call203));exact rfl;exact rfl;(repeat (first|exact HpSub.refl _|(apply HpSub.consE;(repeat first|exact P0|apply P1);exact rfl)|apply HpSub.skipX|apply HpSub.skipX|exact HpSub.nil));exact fun D w1 hw1 hg1=>part_M hw HK g cp n a1 b1 r Y p w1 hg1 (by omega) hn1 (by omega) (by omega) ⟨hr1,hr2⟩ hp;rintro _ _ ⟨m,f,W,rfl,hpf,hW2,rfl⟩;(try simp only [List.cons_append,List.nil_append,List.append_nil]))|((with_reducible apply u_q);(iterate 4 exact rfl)))|((with_reducible apply t_id);first|(apply t_region;kernel_rfl)))
   all_goals exact ⟨by trivial,(m,f,W),⟨hpf,hs.trans (hW2.wide (by omega) (by omega) (by omega)),hM.sg hW2 (by omega) (by omega),hL.sg hW2⟩,by (repeat' (first|exact FrSub.nil|(apply FrSub.cons;exact rfl))),by (repeat' (first|exact HpSub.refl _))⟩
 clear hp hr1 hr2 hs hM hL hYl Y h r
 rintro ⟨m,f,Y⟩ ⟨hpf,hs,hM,hL⟩
 simp only at hpf hs hM hL
 have hYl:=hs.len
 try dsimp only
 have am:=hpf.am
 have mb:=hpf.mb
 refine t_cut (ι:=Unit) (fun _=>[(0,.slice (some ⟨g,0,none⟩) n cp),(1,.int .i64 ((a1:Nat):Int)),(2,.int .i64 ((b1:Nat):Int)),(3,.int .i64 ((l:Nat):Int)),(4,.func (.func kf) #[] #[]),(10,.bool wb),(11,.bool f),(12,.int .i64 (((b1-a1):Nat):Int)),(16,.int .i64 ((m:Nat):Int))]) (fun _=>[(g,coB fx fy (Y),some (111,2,cp))]) (fun _=>True) ?_ ?_
 · repeat' (first|((with_reducible apply oq_id);first|(apply oq_fn;exact rfl;first|exact trivial|(and_intros<;>omega)|omega|skip))|((with_reducible apply tl_id);first|(with_reducible apply tl_nil)|((with_reducible apply u_q);(iterate 4 exact rfl)))|((with_reducible apply t_id);first|(apply t_region;kernel_rfl)))
   all_goals exact ⟨by trivial,(),trivial,by (repeat' (first|exact FrSub.nil|(apply FrSub.cons;exact rfl))),by (repeat' (first|exact HpSub.refl _))⟩
 rintro ⟨⟩ -
 try dsimp only
 refine t_cut (ι:=Unit) (fun _=>[(0,.slice (some ⟨g,0,none⟩) n cp),(1,.int .i64 ((a1:Nat):Int)),(2,.int .i64 ((b1:Nat):Int)),(3,.int .i64 ((l:Nat):Int)),(4,.func (.func kf) #[] #[]),(10,.bool wb),(11,.bool f),(12,.int .i64 (((b1-a1):Nat):Int)),(16,.int .i64 ((m:Nat):Int)),(18,.int .i64 (((m-a1):Nat):Int)),(19,.int .i64 (((b1-m):Nat):Int))]) (fun _=>[(g,coB fx fy (Y),some (111,2,cp))]) (fun _=>True) ?_ ?_
 · repeat' (first|((with_reducible apply oq_id);first|(focus ((with_reducible apply (oq_subE (k:=((m-a1:Nat):Int))));exact rfl;exact rfl;omega))|(focus ((with_reducible apply (oq_subE (k:=((b1-m:Nat):Int))));exact rfl;exact rfl;omega))|(apply oq_fn;exact rfl;first|exact trivial|(and_intros<;>omega)|omega|skip))|((with_reducible apply tl_id);first|(with_reducible apply tl_nil)|((with_reducible apply u_q);(iterate 4 exact rfl)))|((with_reducible apply t_id);first|(apply t_region;kernel_rfl)))
   all_goals exact ⟨by trivial,(),trivial,by (repeat' (first|exact FrSub.nil|(apply FrSub.cons;exact rfl))),by (repeat' (first|exact HpSub.refl _))⟩
 rintro ⟨⟩ -
 try dsimp only
 refine t_cut (ι:=Unit) (fun _=>[(0,.slice (some ⟨g,0,none⟩) n cp),(1,.int .i64 ((a1:Nat):Int)),(2,.int .i64 ((b1:Nat):Int)),(3,.int .i64 ((l:Nat):Int)),(4,.func (.func kf) #[] #[]),(10,.bool wb),(11,.bool f),(12,.int .i64 (((b1-a1):Nat):Int)),(16,.int .i64 ((m:Nat):Int)),(18,.int .i64 (((m-a1):Nat):Int)),(19,.int .i64 (((b1-m):Nat):Int)),(20,.int .i64 ((((b1-a1) / 8):Nat):Int))]) (fun _=>[(g,coB fx fy (Y),some (111,2,cp))]) (fun _=>True) ?_ ?_
 · repeat' (first|((with_reducible apply oq_id);first|(focus ((with_reducible apply (oq_quoL (k:=(((b1-a1) / 8:Nat):Int))));exact rfl;exact rfl;exact ⟨rfl,by decide,by omega,by omega⟩))|(apply oq_fn;exact rfl;first|exact trivial|(and_intros<;>omega)|omega|skip))|((with_reducible apply tl_id);first|(with_reducible apply tl_nil)|((with_reducible apply u_q);(iterate 4 exact rfl)))|((with_reducible apply t_id);first|(apply t_region;kernel_rfl)))
   all_goals exact ⟨by trivial,(),trivial,by (repeat' (first|exact FrSub.nil|(apply FrSub.cons;exact rfl))),by (repeat' (first|exact HpSub.refl _))⟩
 rintro ⟨⟩ -
 try dsimp only
 by_cases hlr:m-a1<b1-m
 · have hLl:Lw lt a1 m Y:=fun x h0 hx i y h1 h2 hy=>hL x h0 hx i y h1 (by omega) hy
   repeat' (first|((with_reducible apply oq_id);first|(focus ((with_reducible apply (oq_addE (k:=((m+1:Nat):Int))));exact rfl;exact rfl;omega))|((with_reducible apply oq_lssT);exact rfl;exact rfl;omega)|(apply oq_fn;exact rfl;first|exact trivial|(and_intros<;>omega)|omega|skip))|((with_reducible apply tl_id);first|(with_reducible apply tl_nil)|((with_reducible apply u_s);(iterate 3 exact rfl);(with_reducible apply os_callM (PV:=fun v H1=>(v=.tuple #[]∧∃ W,So lt a1 m W∧Sg a1 m Y W∧H1=[(g,coB fx fy (W),some (111,2,cp))])) (G:=[(g,coB fx fy (Y),some (111,2,cp))]) (R:=[]) (hc:=Try.call188));exact rfl;exact rfl;(repeat (first|exact HpSub.refl _|(apply HpSub.consE;(repeat first|exact P0|apply P1);exact rfl)|apply HpSub.skipX|apply HpSub.skipX|exact HpSub.nil));exact fun D w1 hw1 hg1=>ih (m-a1) (by omega) a1 m l Y w1 hg1 (by omega) (by omega) (by omega) (by omega) (Nat.le_refl _) hlb hLl;rintro _ _ ⟨rfl,W,hW1,hW2,rfl⟩;(try simp only [List.cons_append,List.nil_append,List.append_nil]))|((with_reducible apply u_q);(iterate 4 exact rfl)))|((with_reducible apply t_id);first|(with_reducible apply t_seq)|(apply t_region;kernel_rfl)|((with_reducible apply t_condT);exact rfl))|with_reducible apply q_thenN|with_reducible apply q_blockN)
   all_goals (
     have hlk:=Mid.left hw hM hpf hW2 hW1 ha1 hb1 (by omega)
     refine ⟨(m+1,b1,l,decide ((((b1-a1) / 8:Nat):Int)≤((m-a1:Nat):Int)),f,W),⟨hlb,⟨(by simp only;omega),(by simp only;omega),hb1⟩,hs.trans (hW2.wide (by omega) (by omega) (by omega)),hlk.1,hlk.2⟩,(by simp only;omega),?_,?_⟩<;>(repeat' (first|exact FrSub.nil|(apply FrSub.cons;exact rfl)|exact HpSub.refl _)))
 · have hLr:Lw lt (m+1) b1 Y:=fun x h0 hx i y h1 h2 hy=>by
     rw [Nat.add_sub_cancel,hpf.at_] at hx
     obtain rfl:=Option.some.inj hx
     exact hpf.hi i y (by omega) h2 hy
   repeat' (first|((with_reducible apply oq_id);first|(focus ((with_reducible apply (oq_addE (k:=((m+1:Nat):Int))));exact rfl;exact rfl;omega))|((with_reducible apply oq_lssF);exact rfl;exact rfl;omega)|(apply oq_fn;exact rfl;first|exact trivial|(and_intros<;>omega)|omega|skip))|((with_reducible apply tl_id);first|(with_reducible apply tl_nil)|((with_reducible apply u_s);(iterate 3 exact rfl);(with_reducible apply os_callM (PV:=fun v H1=>(v=.tuple #[]∧∃ W,So lt (m+1) b1 W∧Sg (m+1) b1 Y W∧H1=[(g,coB fx fy (W),some (111,2,cp))])) (G:=[(g,coB fx fy (Y),some (111,2,cp))]) (R:=[]) (hc:=Try.call188));exact rfl;exact rfl;(repeat (first|exact HpSub.refl _|(apply HpSub.consE;(repeat first|exact P0|apply P1);exact rfl)|apply HpSub.skipX|apply HpSub.skipX|exact HpSub.nil));exact fun D w1 hw1 hg1=>ih (b1-(m+1)) (by omega) (m+1) b1 l Y w1 hg1 (by omega) (by omega) (by omega) (by omega) (Nat.le_refl _) hlb hLr;rintro _ _ ⟨rfl,W,hW1,hW2,rfl⟩;(try simp only [List.cons_append,List.nil_append,List.append_nil]))|((with_reducible apply u_q);(iterate 4 exact rfl)))|((with_reducible apply t_id);first|(with_reducible apply t_seq)|(apply t_region;kernel_rfl)|((with_reducible apply t_condF);exact rfl))|with_reducible apply q_thenN|with_reducible apply q_blockN)
   all_goals (
     have hlk:=Mid.right hw hM hpf hL hW2 hW1 ha1 hb1 (by omega)
     refine ⟨(a1,m,l,decide ((((b1-a1) / 8:Nat):Int)≤((b1-m:Nat):Int)),f,W),⟨hlb,⟨ha1,am,(by simp only;omega)⟩,hs.trans (hW2.wide (by omega) (by omega) (by omega)),hlk.1,hlk.2⟩,(by simp only;omega),?_,?_⟩<;>(repeat' (first|exact FrSub.nil|(apply FrSub.cons;exact rfl)|exact HpSub.refl _)))
theorem So.srt {α:Type} {lt:α→α→Bool} {W:List α} {n:Nat} (h:So lt 0 n W) (hn:W.length=n):Srt lt W:=by
 refine List.pairwise_iff_getElem.2 fun i j h1 h2 h3=>?_
 exact h i j _ _ (Nat.zero_le _) h3 (by omega) (List.getElem?_eq_getElem h1) (List.getElem?_eq_getElem h2)
theorem Sg.perm {α:Type} {Z W:List α} {a b:Nat} (h:Sg a b Z W):W.Perm Z:=by
 obtain ⟨P,X,X',Q,rfl,rfl,h1,h2,hp⟩:=h
 exact List.Perm.append_left _ (List.Perm.append_right _ hp)
theorem sortF_M {α:Type} {fx fy:α→Int} {lt:α→α→Bool} {kf:Nat} (hw:Wo lt) (HK:CmpOk fx fy lt kf) (g cp n:Nat) (Z:List α) (w:World) (hH:Has w ⟨[g],[]⟩ [(g,coB fx fy (Z),some (111,2,cp))] w) (hn:Z.length=n) (hn1:n<50) :
   Calls Try.prog 162 #[.slice (some ⟨g,0,none⟩) n cp,.func (.func kf) #[] #[]] w fun e w'=>∃ v H1,e=.returned v∧(v=.tuple #[]∧∃ W,Srt lt W∧W.Perm Z∧H1=[(g,coB fx fy (W),some (111,2,cp))])∧Has w ⟨[g],[]⟩ H1 w':=by
 have hl:lenB n≤6:=(show ∀ n,n<50→lenB n≤6 by decide +kernel) n hn1
 refine enterM (c:=cxM [g] w 14) Try.func162 rfl rfl rfl hH ?_
 repeat' (first|((with_reducible apply oq_id);first|((with_reducible apply oq_convU);(iterate 3 exact rfl);(constructor<;>omega))|(apply oq_fn;exact rfl;first|exact trivial|(and_intros<;>omega)|omega|skip)|((with_reducible apply oq_call (hc:=Try.call189));exact rfl;exact rfl;exact fun D w1 hw1=>len_calls n (by omega) w1))|((with_reducible apply tl_id);first|(with_reducible apply tl_nil)|((with_reducible apply u_s);(iterate 3 exact rfl);(with_reducible apply os_callM (PV:=fun v H1=>(v=.tuple #[]∧∃ W,So lt 0 n W∧Sg 0 n Z W∧H1=[(g,coB fx fy (W),some (111,2,cp))])) (G:=[(g,coB fx fy (Z),some (111,2,cp))]) (R:=[]) (hc:=Try.call188));exact rfl;exact rfl;(repeat (first|exact HpSub.refl _|(apply HpSub.consE;(repeat first|exact P0|apply P1);exact rfl)|apply HpSub.skipX|apply HpSub.skipX|exact HpSub.nil));exact fun D w1 hw1 hg1=>pdq_M hw HK g cp n (by omega) n 0 n (lenB n) Z w1 hg1 hn (by omega) (by omega) (by omega) (by omega) (by omega) (fun x h0=>absurd h0 (by omega));rintro _ _ ⟨rfl,W,hW1,hW2,rfl⟩;(try simp only [List.cons_append,List.nil_append,List.append_nil]))|((with_reducible apply u_q);(iterate 4 exact rfl)))|((with_reducible apply t_id);first|(with_reducible apply t_seq)|(apply t_region;kernel_rfl))|with_reducible apply q_thenN|(with_reducible apply end_normal)|exact rvs_nil)
 all_goals exact ⟨_,⟨rfl,W,hW1.srt (by have:=hW2.len;omega),hW2.perm,rfl⟩,HpSub.w (by (repeat (first|exact HpSub.refl _|(apply HpSub.consE;(repeat first|exact P0|apply P1);exact rfl)|apply HpSub.skipX|exact HpSub.nil)))⟩
noncomputable def dd (Z:List Pv):Nat→List Pv
 | 0=>[]
 | k+1=>match Z[k]? with
   | none=>dd Z k
   | some x=>by
     classical exact if 0<k∧Z[k-1]?=some x then dd Z k else dd Z k++[x]
theorem dd_same {Z:List Pv} {k:Nat} {x:Pv} (h:Z[k]?=some x) (h0:0<k) (h1:Z[k-1]?=some x):dd Z (k+1)=dd Z k:=by
 rw [dd,h]
 simp only [h0,h1,and_self,if_true]
theorem dd_new {Z:List Pv} {k:Nat} {x:Pv} (h:Z[k]?=some x) (h1:k=0∨Z[k-1]?≠some x):dd Z (k+1)=dd Z k++[x]:=by
 rw [dd,h]
 have:¬ (0<k∧Z[k-1]?=some x):=by
   rintro ⟨a,b⟩
   rcases h1 with h1|h1
   · omega
   · exact h1 b
 simp only [this,if_false]
theorem dd_len (Z:List Pv):∀ k,(dd Z k).length≤k
 | 0=>Nat.le_refl _
 | k+1=>by
   have:=dd_len Z k
   rw [dd]
   split
   · omega
   · split
     · omega
     · simp only [List.length_append,List.length_singleton];omega
theorem co_at2 {α:Type} {fx fy:α→Int} {l:List α} {k j:Nat} {x:α} (h:l[k+j]?=some x):(coB fx fy l)[0+k*2+j*2]?=some (.int .i64 (fx x))∧(coB fx fy l)[0+k*2+j*2+1]?=some (.int .i64 (fy x)):=by
 rw [show 0+k*2+j*2=0+(k+j)*2 by omega]
 exact co_at h
theorem co_take {α:Type} {fx fy:α→Int} {Y:List α} {k n:Nat} {zs:List Value} (hY:Y.length=n) (hk:k≤n) (hz:zs.length=(n-k)*2):setL (coB fx fy Y) (0+k*2) zs=coB fx fy (Y.take k)++zs:=by
 have hl:(coB fx fy (Y.take k)).length=k*2:=by rw [co_flat_len,List.length_take];congr 1;omega
 have e:coB fx fy Y=coB fx fy (Y.take k)++coB fx fy (Y.drop k):=by
   conv=>lhs;rw [← List.take_append_drop k Y]
   simp only [coB,List.map_append,List.flatten_append]
 have hl2:(coB fx fy (Y.drop k)).length=(n-k)*2:=by rw [co_flat_len,List.length_drop,hY]
 rw [Nat.zero_add,setL_eq _ _ _ (by rw [co_flat_len];omega),e,← hl,List.take_left,List.drop_of_length_le (by simp only [List.length_append];omega),List.append_nil]
theorem compact_M (g cp n:Nat) (Z:List Pv) (w:World) (hH:Has w ⟨[g],[]⟩ [(g,coB Pv.x Pv.y (Z),some (111,2,cp))] w) (hn:Z.length=n) (hn1:n≤1000000) (hcp:n≤cp) :
    Calls Try.prog 164 #[.slice (some ⟨g,0,none⟩) n cp] w fun e w'=>∃ v H1,e=.returned v∧(∃ T:List Value,v=.slice (some ⟨g,0,none⟩) (dd Z n).length cp∧H1=[(g,coB Pv.x Pv.y (dd Z n)++T,some (111,2,cp))])∧Has w ⟨[g],[]⟩ H1 w':=by
  have whole:dd Z n=Z→n=(dd Z n).length∧[(g,coB Pv.x Pv.y (Z),some (111,2,cp))]=[(g,coB Pv.x Pv.y (dd Z n)++[],some (111,2,cp))]:=fun h=>by rw [h,List.append_nil];exact ⟨hn.symm,rfl⟩
  refine enterM (c:=cxM [g] w 61) Try.func164 rfl rfl rfl hH ?_
  refine t_cut (ι:=Unit) (fun _=>[(0,.slice (some ⟨g,0,none⟩) n cp)]) (fun _=>[(g,coB Pv.x Pv.y (Z),some (111,2,cp))]) (fun _=>True) ?_ ?_
  · repeat' (first|((with_reducible apply oq_id);first|(apply oq_fn;exact rfl;first|exact trivial|(and_intros<;>omega)|omega|skip))|((with_reducible apply tl_id);first|(with_reducible apply tl_nil)|((with_reducible apply u_q);(iterate 4 exact rfl)))|((with_reducible apply t_id);first|(apply t_region;kernel_rfl)))
    all_goals exact ⟨by trivial,(),trivial,by (repeat' (first|exact FrSub.nil|(apply FrSub.cons;exact rfl))),by (repeat' (first|exact HpSub.refl _))⟩
  rintro ⟨⟩ -
  try dsimp only
  by_cases h2:n<2
  · have hd:dd Z n=Z:=by
      match Z,hn with
      | [],hn=>obtain rfl:=hn;rfl
      | [x],hn=>obtain rfl:=hn;rw [List.length_singleton,dd_new (x:=x) rfl (.inl rfl)];rfl
      | _::_::_,hn=>simp only [List.length_cons] at hn;omega
    obtain ⟨e1,e2⟩:=whole hd
    repeat' (first|((with_reducible apply oq_id);first|((with_reducible apply oq_lssT);exact rfl;exact rfl;omega)|(apply oq_fn;exact rfl;first|exact trivial|(and_intros<;>omega)|omega|skip))|((with_reducible apply tl_id);first|(with_reducible apply tl_nil)|((with_reducible apply u_q);(iterate 4 exact rfl)))|((with_reducible apply t_id);first|(with_reducible apply t_seq)|(apply t_region;kernel_rfl)|((with_reducible apply t_condT);exact rfl)|(with_reducible apply t_ret))|with_reducible apply q_thenN|with_reducible apply q_thenR|(with_reducible apply end_ret)|exact rvs_nil|(with_reducible apply rvs_cons)|((with_reducible apply rv_tmp);exact rfl))
    all_goals exact ⟨_,⟨[],(by rw [← e1];rfl),(by rw [← e2])⟩,HpSub.w (by (repeat (first|exact HpSub.refl _|(apply HpSub.consE;(repeat first|exact P0|apply P1);exact rfl)|apply HpSub.skipX|exact HpSub.nil)))⟩
  refine t_cut (ι:=Unit) (fun _=>[(0,.slice (some ⟨g,0,none⟩) n cp)]) (fun _=>[(g,coB Pv.x Pv.y (Z),some (111,2,cp))]) (fun _=>True) ?_ ?_
  · repeat' (first|((with_reducible apply oq_id);first|((with_reducible apply oq_lssF);exact rfl;exact rfl;omega)|(apply oq_fn;exact rfl;first|exact trivial|(and_intros<;>omega)|omega|skip))|((with_reducible apply tl_id);first|(with_reducible apply tl_nil)|((with_reducible apply u_q);(iterate 4 exact rfl)))|((with_reducible apply t_id);first|(with_reducible apply t_seq)|(apply t_region;kernel_rfl)|((with_reducible apply t_condF);exact rfl)|(with_reducible apply t_skip))|with_reducible apply q_thenN)
    all_goals exact ⟨by trivial,(),trivial,by (repeat' (first|exact FrSub.nil|(apply FrSub.cons;exact rfl))),by (repeat' (first|exact HpSub.refl _))⟩
  rintro ⟨⟩ -
  try dsimp only
  refine t_cutX (ι:=Unit) (fun _=>[(0,.slice (some ⟨g,0,none⟩) n cp)]) (fun _=>[(g,coB Pv.x Pv.y (Z),some (111,2,cp))]) (fun _=>dd Z n=Z) ?_ ?_
  rotate_left
  · rintro ⟨⟩ hd
    obtain ⟨e1,e2⟩:=whole hd
    try dsimp only
    repeat' (first|((with_reducible apply oq_id);first|(apply oq_fn;exact rfl;first|exact trivial|(and_intros<;>omega)|omega|skip))|((with_reducible apply tl_id);first|(with_reducible apply tl_nil)|((with_reducible apply u_q);(iterate 4 exact rfl)))|((with_reducible apply t_id);first|(with_reducible apply t_seq)|(apply t_region;kernel_rfl)|(with_reducible apply t_ret))|with_reducible apply q_thenN|(with_reducible apply end_ret)|exact rvs_nil|(with_reducible apply rvs_cons)|((with_reducible apply rv_tmp);exact rfl))
    all_goals exact ⟨_,⟨[],(by rw [← e1];rfl),(by rw [← e2])⟩,HpSub.w (by (repeat (first|exact HpSub.refl _|(apply HpSub.consE;(repeat first|exact P0|apply P1);exact rfl)|apply HpSub.skipX|exact HpSub.nil)))⟩
  refine t_cut (ι:=Unit) (fun _=>[(0,.slice (some ⟨g,0,none⟩) n cp),(3,.int .i64 ((1:Nat):Int))]) (fun _=>[(g,coB Pv.x Pv.y (Z),some (111,2,cp))]) (fun _=>True) ?_ ?_
  · repeat' (first|((with_reducible apply oq_id);first|(apply oq_fn;exact rfl;first|exact trivial|(and_intros<;>omega)|omega|skip))|((with_reducible apply tl_id);first|(with_reducible apply tl_nil)|((with_reducible apply u_q);(iterate 4 exact rfl)))|((with_reducible apply t_id);first|(apply t_region;kernel_rfl)))
    all_goals exact ⟨by trivial,(),trivial,by (repeat' (first|exact FrSub.nil|(apply FrSub.cons;exact rfl))),by (repeat' (first|exact HpSub.refl _))⟩
  rintro ⟨⟩ -
  try dsimp only
  (with_reducible apply t_block)
  apply t_loopP (ι:=Nat) [0] (fun k=>[(3,.int .i64 ((k:Nat):Int))]) (fun _=>[(g,coB Pv.x Pv.y (Z),some (111,2,cp))]) (fun k=>1≤k∧k≤n∧dd Z k=Z.take k) (fun k=>n-k) (1)
  (repeat (first|exact KeepF.nil|(apply KeepF.cons;exact rfl)|apply KeepF.skip))
  (repeat first|exact FrSub.nil|(apply FrSub.cons;exact rfl))
  (try simp only [List.cons_append,List.nil_append])
  (repeat' (first|exact HpSub.refl _))
  · refine ⟨Nat.le_refl _,by omega,?_⟩
    obtain ⟨x,hx⟩:∃ x,Z[0]?=some x:=⟨_,List.getElem?_eq_getElem (by omega)⟩
    rw [dd_new hx (.inl rfl)]
    cases Z with
    | nil=>cases hx
    | cons y Z=>simp at hx;subst hx;rfl
  rintro k ⟨hk1,hkn,hd⟩
  try simp only [List.cons_append,List.nil_append]
  by_cases hlt:k<n
  rotate_left
  · repeat' (first|((with_reducible apply oq_id);first|((with_reducible apply oq_lssF);exact rfl;exact rfl;omega)|(apply oq_fn;exact rfl;first|exact trivial|(and_intros<;>omega)|omega|skip))|((with_reducible apply tl_id);first|(with_reducible apply tl_nil)|((with_reducible apply u_q);(iterate 4 exact rfl)))|((with_reducible apply t_id);first|(with_reducible apply t_seq)|(apply t_region;kernel_rfl)|((with_reducible apply t_condF);exact rfl)|(with_reducible apply t_exit))|with_reducible apply q_thenN|with_reducible apply q_thenE|((with_reducible apply q_blockE);exact rfl))
    all_goals exact ⟨(), (by obtain rfl : k = n := by omega
                             rw [hd,← hn,List.take_length]),by (repeat' (first|exact FrSub.nil|(apply FrSub.cons;exact rfl))),by (repeat' (first|exact HpSub.refl _))⟩
  obtain ⟨x,hx⟩:∃ x,Z[k]?=some x:=⟨_,List.getElem?_eq_getElem (by omega)⟩
  obtain ⟨y,hy⟩:∃ y,Z[k-1]?=some y:=⟨_,List.getElem?_eq_getElem (by omega)⟩
  obtain ⟨q0,q1⟩:=co_at (fx:=Pv.x) (fy:=Pv.y) hx
  obtain ⟨r0,r1⟩:=co_at (fx:=Pv.x) (fy:=Pv.y) hy
  by_cases hxy:x.x=y.x∧x.y=y.y
  rotate_left
  · repeat' (first|((with_reducible apply oq_id);first|((with_reducible apply (oq_eq111 (q:=false)));exact rfl;exact rfl;exact decide_eq_false hxy)|(focus ((with_reducible apply oq_indexAddrN);(iterate 4 exact rfl);omega))|(focus ((with_reducible apply (oq_subE (k:=((k-1:Nat):Int))));exact rfl;exact rfl;omega))|(focus ((with_reducible apply (oq_addE (k:=((k+1:Nat):Int))));exact rfl;exact rfl;omega))|((with_reducible apply oq_lssT);exact rfl;exact rfl;omega)|(apply oq_fn;exact rfl;first|exact trivial|(and_intros<;>omega)|omega|skip)|((with_reducible apply oq_loadAgg);exact rfl;exact rfl))|((with_reducible apply tl_id);first|(with_reducible apply tl_nil)|((with_reducible apply u_q);(iterate 4 exact rfl)))|((with_reducible apply gx_id);first|(with_reducible apply v_nil)|((with_reducible apply v_q);(iterate 3 exact rfl)))|((with_reducible apply rd_id);first|(apply Rd.own;(repeat first|exact P0|apply P1);with_reducible (first|exact q0|exact q1|exact r0|exact r1|exact s0|exact s1);done))|((with_reducible apply t_id);first|(apply t_mix (id:=6) [0,1,2,3,4,5,6,7,8,9] 0 #[false,false,false,false,false,false,false,false,false,false];kernel_rfl;kernel_rfl;exact rfl)|(with_reducible apply t_seq)|(apply t_region;kernel_rfl)|((with_reducible apply t_condT);exact rfl)|((with_reducible apply t_condF);exact rfl)|(with_reducible apply t_skip)|(with_reducible apply t_block))|with_reducible apply q_thenN|with_reducible apply q_blockN|exact Rdn.zero|apply Rdn.succ|((with_reducible apply al_id);first|(apply al_done;decide +kernel)))
    all_goals (refine ⟨k+1,⟨by omega,by omega,?_⟩,by omega,?_,?_⟩)
    · rw [dd_new hx (.inr fun e=>hxy (by rw [hy] at e;obtain rfl:=Option.some.inj e;exact ⟨rfl,rfl⟩)),hd,List.take_add_one,hx];rfl
    all_goals (repeat' (first|exact FrSub.nil|(apply FrSub.cons;exact rfl)|exact HpSub.refl _))
  refine t_cut (ι:=Unit) (fun _=>[(0,.slice (some ⟨g,0,none⟩) n cp),(3,.int .i64 ((k:Nat):Int))]) (fun _=>[(g,coB Pv.x Pv.y (Z),some (111,2,cp))]) (fun _=>True) ?_ ?_
  · repeat' (first|((with_reducible apply oq_id);first|((with_reducible apply oq_lssT);exact rfl;exact rfl;omega)|(apply oq_fn;exact rfl;first|exact trivial|(and_intros<;>omega)|omega|skip))|((with_reducible apply tl_id);first|(with_reducible apply tl_nil)|((with_reducible apply u_q);(iterate 4 exact rfl)))|((with_reducible apply t_id);first|(with_reducible apply t_seq)|(apply t_region;kernel_rfl)|((with_reducible apply t_condT);exact rfl)|(with_reducible apply t_skip))|with_reducible apply q_thenN)
    all_goals exact ⟨by trivial,(),trivial,by (repeat' (first|exact FrSub.nil|(apply FrSub.cons;exact rfl))),by (repeat' (first|exact HpSub.refl _))⟩
  rintro ⟨⟩ -
  try dsimp only
  (with_reducible apply t_seq)
  (with_reducible apply t_block)
  refine t_cut (ι:=Unit) (fun _=>[(0,.slice (some ⟨g,0,none⟩) n cp),(3,.int .i64 ((k:Nat):Int)),(25,.bool true)]) (fun _=>[(g,coB Pv.x Pv.y (Z),some (111,2,cp))]) (fun _=>True) ?_ ?_
  · repeat' (first|((with_reducible apply oq_id);first|((with_reducible apply (oq_eq111 (q:=true)));exact rfl;exact rfl;exact decide_eq_true hxy)|(focus ((with_reducible apply oq_indexAddrN);(iterate 4 exact rfl);omega))|(focus ((with_reducible apply (oq_subE (k:=((k-1:Nat):Int))));exact rfl;exact rfl;omega))|(apply oq_fn;exact rfl;first|exact trivial|(and_intros<;>omega)|omega|skip)|((with_reducible apply oq_loadAgg);exact rfl;exact rfl))|((with_reducible apply gx_id);first|(with_reducible apply v_nil)|((with_reducible apply v_q);(iterate 3 exact rfl)))|((with_reducible apply rd_id);first|(apply Rd.own;(repeat first|exact P0|apply P1);with_reducible (first|exact q0|exact q1|exact r0|exact r1|exact s0|exact s1);done))|((with_reducible apply t_id);first|(apply t_mix (id:=6) [0,1,2,3,4,5,6,7,8,9] 0 #[false,false,false,false,false,false,false,false,false,false];kernel_rfl;kernel_rfl;exact rfl))|exact Rdn.zero|apply Rdn.succ|((with_reducible apply al_id);first|(apply al_done;decide +kernel)))
    all_goals exact ⟨by trivial,(),trivial,by (repeat' (first|exact FrSub.nil|(apply FrSub.cons;exact rfl))),by (repeat' (first|exact HpSub.refl _))⟩
  rintro ⟨⟩ -
  try dsimp only
  (with_reducible apply t_condT);exact rfl
  refine t_cut (ι:=Unit) (fun _=>[(0,.slice (some ⟨g,0,none⟩) n cp),(3,.int .i64 ((k:Nat):Int)),(4,.slice (some ⟨g,0+k*2,none⟩) (n-k) (cp-k))]) (fun _=>[(g,coB Pv.x Pv.y (Z),some (111,2,cp))]) (fun _=>True) ?_ ?_
  · repeat' (first|((with_reducible apply oq_id);first|((with_reducible apply (oq_sliceL (l:=k)));(iterate 5 exact rfl);omega;omega)|(apply oq_fn;exact rfl;first|exact trivial|(and_intros<;>omega)|omega|skip))|((with_reducible apply tl_id);first|(with_reducible apply tl_nil)|((with_reducible apply u_q);(iterate 4 exact rfl)))|((with_reducible apply t_id);first|(apply t_region;kernel_rfl)))
    all_goals exact ⟨by trivial,(),trivial,by (repeat' (first|exact FrSub.nil|(apply FrSub.cons;exact rfl))),by (repeat' (first|exact HpSub.refl _))⟩
  rintro ⟨⟩ -
  try dsimp only
  have hyx:Z[k-1]?=some x:=by rw [hy];cases x;cases y;simp only at hxy;rw [hxy.1,hxy.2]
  have hd1:dd Z (k+1)=Z.take k:=by rw [dd_same hx (by omega) hyx,hd]
  clear q0 q1 r0 r1 hxy hy y
  refine t_cut (ι:=Nat×List Pv) (fun z=>[(0,.slice (some ⟨g,0,none⟩) n cp),(3,.int .i64 ((z.1:Nat):Int))]) (fun z=>[(g,coB Pv.x Pv.y (z.2),some (111,2,cp))]) (fun z=>z.1<n∧z.2.length=n∧z.2.take z.1=dd Z n) ?_ ?_
  rotate_left
  · rintro ⟨m,Y⟩ ⟨hm,hYl,hYd⟩
    simp only at hm hYl hYd
    try dsimp only
    have hml:(dd Z n).length=m:=by rw [← hYd,List.length_take];omega
    repeat' (first|((with_reducible apply oq_id);first|((with_reducible apply (oq_sliceL (l:=m)));(iterate 5 exact rfl);omega;omega)|((with_reducible apply (oq_sliceHG (L:=some ⟨g,0,none⟩)));exact (fun h=>nomatch h);(iterate 4 exact rfl);omega)|(apply oq_fn;exact rfl;first|exact trivial|(and_intros<;>omega)|omega|skip))|((with_reducible apply tl_id);first|(with_reducible apply tl_nil)|((with_reducible apply u_q);(iterate 4 exact rfl))|((with_reducible apply u_s0);exact rfl;exact rfl))|((with_reducible apply os_id);first|((with_reducible apply os_clear);(iterate 3 exact rfl);decide;exact rfl;(repeat first|exact P0|apply P1);omega;(rw [co_flat_len,hYl];omega);intro zs hzs))|((with_reducible apply t_id);first|(with_reducible apply t_seq)|(apply t_region;kernel_rfl)|(with_reducible apply t_ret))|with_reducible apply q_thenN|with_reducible apply q_thenR|with_reducible apply q_blockR|(with_reducible apply end_ret)|exact rvs_nil|(with_reducible apply rvs_cons)|((with_reducible apply rv_tmp);exact rfl))
    all_goals exact ⟨_,⟨zs,(by rw [hml];rfl),(by rw [← hYd,← co_take hYl (by omega) hzs])⟩,HpSub.w (by (repeat (first|exact HpSub.refl _|(apply HpSub.consE;(repeat first|exact P0|apply P1);exact rfl)|apply HpSub.skipX|exact HpSub.nil)))⟩
  refine t_cut (ι:=Unit) (fun _=>[(0,.slice (some ⟨g,0,none⟩) n cp),(3,.int .i64 ((k:Nat):Int)),(4,.slice (some ⟨g,0+k*2,none⟩) (n-k) (cp-k)),(5,.int .i64 ((1:Nat):Int))]) (fun _=>[(g,coB Pv.x Pv.y (Z),some (111,2,cp))]) (fun _=>True) ?_ ?_
  · repeat' (first|((with_reducible apply oq_id);first|(apply oq_fn;exact rfl;first|exact trivial|(and_intros<;>omega)|omega|skip))|((with_reducible apply tl_id);first|(with_reducible apply tl_nil)|((with_reducible apply u_q);(iterate 4 exact rfl)))|((with_reducible apply t_id);first|(apply t_region;kernel_rfl)))
    all_goals exact ⟨by trivial,(),trivial,by (repeat' (first|exact FrSub.nil|(apply FrSub.cons;exact rfl))),by (repeat' (first|exact HpSub.refl _))⟩
  rintro ⟨⟩ -
  try dsimp only
  (with_reducible apply t_block)
  apply t_loopP (ι:=Nat×Nat×List Pv) [0,4] (fun z=>[(5,.int .i64 ((z.1:Nat):Int)),(3,.int .i64 ((z.2.1:Nat):Int))]) (fun z=>[(g,coB Pv.x Pv.y (z.2.2),some (111,2,cp))]) (fun z=>(1≤z.1∧z.1≤n-k)∧(z.2.1<k+z.1)∧z.2.2.length=n∧z.2.2.take z.2.1=dd Z (k+z.1)∧∀ q,k+z.1≤q+1→z.2.2[q]?=Z[q]?) (fun z=>n-k-z.1) (1,k,Z)
  (repeat (first|exact KeepF.nil|(apply KeepF.cons;exact rfl)|apply KeepF.skip))
  (repeat first|exact FrSub.nil|(apply FrSub.cons;exact rfl))
  (try simp only [List.cons_append,List.nil_append])
  (repeat' (first|exact HpSub.refl _))
  · exact ⟨⟨Nat.le_refl _,by simp only;omega⟩,by simp only;omega,hn,hd1.symm,fun _ _=>rfl⟩
  rintro ⟨j,m,Y⟩ ⟨⟨hj1,hj2⟩,hm,hYl,hYd,hYe⟩
  simp only at hj1 hj2 hm hYl hYd hYe
  try simp only [List.cons_append,List.nil_append]
  by_cases hlt2:j<n-k
  rotate_left
  · repeat' (first|((with_reducible apply oq_id);first|((with_reducible apply oq_lssF);exact rfl;exact rfl;omega)|(apply oq_fn;exact rfl;first|exact trivial|(and_intros<;>omega)|omega|skip))|((with_reducible apply tl_id);first|(with_reducible apply tl_nil)|((with_reducible apply u_q);(iterate 4 exact rfl)))|((with_reducible apply t_id);first|(with_reducible apply t_seq)|(apply t_region;kernel_rfl)|((with_reducible apply t_condF);exact rfl)|(with_reducible apply t_exit))|with_reducible apply q_thenN|with_reducible apply q_thenE|((with_reducible apply q_blockE);exact rfl))
    all_goals exact ⟨by trivial,(m,Y),⟨(by simp only;omega),hYl,(by rw [hYd,show k+j=n by omega])⟩,by (repeat' (first|exact FrSub.nil|(apply FrSub.cons;exact rfl))),by (repeat' (first|exact HpSub.refl _))⟩
  obtain ⟨u,hu⟩:∃ x,Y[k+j]?=some x:=⟨_,List.getElem?_eq_getElem (by omega)⟩
  obtain ⟨y,hy⟩:∃ y,Y[k+(j-1)]?=some y:=⟨_,List.getElem?_eq_getElem (by omega)⟩
  obtain ⟨z,hz⟩:∃ y,Y[m]?=some y:=⟨_,List.getElem?_eq_getElem (by omega)⟩
  have hu2:Z[k+j]?=some u:=by rw [← hYe _ (by omega)];exact hu
  have hy2:Z[k+j-1]?=some y:=by rw [← hYe _ (by omega),show k+j-1=k+(j-1) by omega];exact hy
  obtain ⟨q0,q1⟩:=co_at2 (fx:=Pv.x) (fy:=Pv.y) hu
  obtain ⟨r0,r1⟩:=co_at2 (fx:=Pv.x) (fy:=Pv.y) hy
  by_cases huy:u.x=y.x∧u.y=y.y
  · have hyu:Z[k+j-1]?=some u:=by rw [hy2];cases u;cases y;simp only at huy;rw [huy.1,huy.2]
    repeat' (first|((with_reducible apply oq_id);first|((with_reducible apply (oq_ne111 (q:=false)));exact rfl;exact rfl;exact (by rw [decide_eq_true huy];rfl))|(focus ((with_reducible apply oq_indexAddrN);(iterate 4 exact rfl);omega))|(focus ((with_reducible apply (oq_subE (k:=((j-1:Nat):Int))));exact rfl;exact rfl;omega))|(focus ((with_reducible apply (oq_addE (k:=((j+1:Nat):Int))));exact rfl;exact rfl;omega))|((with_reducible apply oq_lssT);exact rfl;exact rfl;omega)|(apply oq_fn;exact rfl;first|exact trivial|(and_intros<;>omega)|omega|skip)|((with_reducible apply oq_loadAgg);exact rfl;exact rfl))|((with_reducible apply tl_id);first|(with_reducible apply tl_nil)|((with_reducible apply u_q);(iterate 4 exact rfl)))|((with_reducible apply gx_id);first|(with_reducible apply v_nil)|((with_reducible apply v_q);(iterate 3 exact rfl)))|((with_reducible apply rd_id);first|(apply Rd.own;(repeat first|exact P0|apply P1);with_reducible (first|exact q0|exact q1|exact r0|exact r1|exact s0|exact s1);done))|((with_reducible apply t_id);first|(apply t_mix (id:=11) [0,1,2,3,4,5,6,7,8,9] 0 #[false,false,false,false,false,false,false,false,false,false];kernel_rfl;kernel_rfl;exact rfl)|(with_reducible apply t_seq)|(apply t_region;kernel_rfl)|((with_reducible apply t_condT);exact rfl)|((with_reducible apply t_condF);exact rfl)|(with_reducible apply t_skip)|(with_reducible apply t_block))|with_reducible apply q_thenN|with_reducible apply q_blockN|exact Rdn.zero|apply Rdn.succ|((with_reducible apply al_id);first|(apply al_done;decide +kernel)))
    all_goals (refine ⟨(j+1,m,Y),⟨⟨(by simp only;omega),(by simp only;omega)⟩,(by simp only;omega),hYl,(by simp only;rw [hYd,← Nat.add_assoc,dd_same hu2 (by omega) hyu]),fun q hq=>hYe q (by simp only at hq;omega)⟩,(by simp only;omega),?_,?_⟩<;>(repeat' (first|exact FrSub.nil|(apply FrSub.cons;exact rfl)|exact HpSub.refl _)))
  · have hnd:=dd_new hu2 (.inr fun e=>huy (by rw [hy2] at e;obtain rfl:=Option.some.inj e;exact ⟨rfl,rfl⟩))
    repeat' (first|((with_reducible apply oq_id);first|((with_reducible apply (oq_ne111 (q:=true)));exact rfl;exact rfl;exact (by rw [decide_eq_false huy];rfl))|(focus ((with_reducible apply oq_indexAddrN);(iterate 4 exact rfl);omega))|(focus ((with_reducible apply (oq_subE (k:=((j-1:Nat):Int))));exact rfl;exact rfl;omega))|(focus ((with_reducible apply (oq_addE (k:=((j+1:Nat):Int))));exact rfl;exact rfl;omega))|(focus ((with_reducible apply (oq_addE (k:=((m+1:Nat):Int))));exact rfl;exact rfl;omega))|((with_reducible apply oq_lssT);exact rfl;exact rfl;omega)|(apply oq_fn;exact rfl;first|exact trivial|(and_intros<;>omega)|omega|skip)|((with_reducible apply oq_loadAgg);exact rfl;exact rfl))|((with_reducible apply tl_id);first|(with_reducible apply tl_nil)|((with_reducible apply u_q);(iterate 4 exact rfl))|((with_reducible apply u_s0);exact rfl;exact rfl))|((with_reducible apply gx_id);first|(with_reducible apply v_nil)|((with_reducible apply v_q);(iterate 3 exact rfl)))|((with_reducible apply os_id);first|((with_reducible apply (os_storeCo (fx:=Pv.x) (fy:=Pv.y) u hz rfl));(iterate 3 exact rfl);(repeat first|exact P0|apply P1)))|((with_reducible apply rd_id);first|(apply Rd.own;(repeat first|exact P0|apply P1);with_reducible (first|exact q0|exact q1|exact r0|exact r1|exact s0|exact s1);done))|((with_reducible apply t_id);first|(apply t_mix (id:=11) [0,1,2,3,4,5,6,7,8,9] 0 #[false,false,false,false,false,false,false,false,false,false];kernel_rfl;kernel_rfl;exact rfl)|(with_reducible apply t_seq)|(apply t_region;kernel_rfl)|((with_reducible apply t_condT);exact rfl)|(with_reducible apply t_skip)|(with_reducible apply t_block))|with_reducible apply q_thenN|with_reducible apply q_blockN|exact Rdn.zero|apply Rdn.succ|((with_reducible apply al_id);first|(apply al_done;decide +kernel)))
    all_goals (refine ⟨(j+1,m+1,Y.set m u),⟨⟨(by simp only;omega),(by simp only;omega)⟩,(by simp only;omega),(by simp only [List.length_set];exact hYl),(by simp only;rw [List.take_add_one,List.getElem?_set_self (by omega),List.take_set_of_le (Nat.le_refl _),hYd,← Nat.add_assoc,hnd];rfl),fun q hq=>(by simp only at hq ⊢;rw [List.getElem?_set_ne (by omega)];exact hYe q (by omega))⟩,(by simp only;omega),?_,?_⟩<;>(repeat' (first|exact FrSub.nil|(apply FrSub.cons;exact rfl)|exact HpSub.refl _)))
theorem co_rl {α:Type} {fx fy:α→Int} (l:List α):∀ r∈l.map (coC fx fy),r.length=2:=by simp only [List.mem_map];rintro r ⟨x,_,rfl⟩;rfl
theorem co_one {α:Type} {fx fy:α→Int} (l:List α):∀ r∈l.map (coC fx fy),∀ u∈r,u.oneCell'=true:=by
 simp only [List.mem_map];rintro r ⟨x,_,rfl⟩ u hu
 simp only [coC,List.mem_cons,List.not_mem_nil,or_false] at hu
 rcases hu with rfl|rfl<;>rfl
theorem Blk.cap {w:World} {b e cp:Nat} {α:Type} {fx fy:α→Int} {l:List α} (h:Blk w b (coB fx fy l) (some (e,2,cp))) (h0:e≠0):l.length≤cp:=by
 rcases h with ⟨c,t,h1,h2,h3,h4,h5⟩|⟨_,t,L,e2,_⟩
 · rcases Nat.eq_zero_or_pos l.length with k|k
   · omega
   · have hl:(coB fx fy l).length=l.length*2:=co_flat_len l
     have:=h2 (l.length*2-1) _ (List.getElem?_eq_getElem (by omega))
     have:=(Array.getElem?_eq_some_iff.1 this).1
     omega
 · simp only [mapTg,Option.some.injEq,Prod.mk.injEq] at e2
   omega
theorem clone_P (p:Addr) (n c:Nat) (L:List Pv) (w:World) (hr:RdS w 2 (some p) n (L.map (coC Pv.x Pv.y))) (hn:n≤1000000) :
   Calls Try.prog 161 #[.slice (some p) n c] w fun e w'=>∃ v H',e=.returned v∧(∃ g cp,v=.slice (some ⟨g,0,none⟩) n cp∧H'=[(g,coB Pv.x Pv.y L,some (111,2,cp))])∧Has w ⟨[],[]⟩ H' w':=by
 refine enterF (c:=cx w 8) Try.func161 rfl rfl rfl rfl ?_
 repeat' (first|((with_reducible apply oq_id);first|((with_reducible apply oq_eqNil);(iterate 3 exact rfl))|(apply oq_fn;exact rfl;first|exact trivial|(and_intros<;>omega)|omega|skip))|((with_reducible apply tl_id);first|(with_reducible apply tl_nil)|((with_reducible apply u_s);(iterate 3 exact rfl);(with_reducible apply os_appendRows (hk:=app_ok101) (rows:=L.map (coC Pv.x Pv.y)) (hr:=fun D w1 hw1=>hr.ext hw1.ext.ext));exact rfl;exact rfl;exact P0;exact co_rl L;exact rfl;exact co_one L;exact Nat.le_refl _;omega;omega;intro b cap';simp only [Nat.zero_add,List.nil_append])|((with_reducible apply u_q);(iterate 4 exact rfl))|((with_reducible apply u_s);(iterate 3 exact rfl)))|((with_reducible apply os_id);first|((with_reducible apply os_x);exact rfl))|((with_reducible apply ox_id);first|((with_reducible apply ox_buildSlice2);(iterate 6 exact rfl);intro _))|((with_reducible apply t_id);first|(with_reducible apply t_seq)|(apply t_region;kernel_rfl)|((with_reducible apply t_condF);exact rfl)|(with_reducible apply t_ret)|(with_reducible apply t_skip))|with_reducible apply q_thenN|(with_reducible apply end_ret)|exact rvs_nil|(with_reducible apply rvs_cons)|((with_reducible apply rv_tmp);exact rfl))
 exact ⟨_,⟨b,cap',rfl,rfl⟩,HpSub.refl _⟩
end Go.Proofs.Ytcjkndjjbjoehaa
namespace Go.Proofs.Ytcjkndjjbjoehaa
open Go.RowKit
section
variable {P:Program} {ops:Array Oper} {n:Nat} {o:Oper} {a:Act} {w:World} {K:Act→World→Prop} {Q:Exit→Act→World→Prop} {I:World→Prop} {cov:Array Bool}
theorem wpInW_of_wp (h:o.wp P a w K QF):o.wpIn Fence.wide n P a w K Q:=by
 unfold Oper.wpIn
 refine ⟨fun _ _=>trivial,?_⟩
 have hr:Fence.wide.round=none:=rfl
 rw [hr,Oper.semAt_none]
 unfold Oper.wp at h
 generalize (execOp a.eval o).run P w=r at *
 cases r with
 | ok nx w'=>
   cases nx<;>simp only [Oper.upon] at h<;>simp only [Oper.uponIn]
   case value u=>exact h
   case skip=>exact h
   case defer d=>exact h
   case enter f args=>
     refine ⟨fun h0=>by simp [Fence.wide] at h0,callsIn_wide.2 (Calls.mono h fun e w'' he=>?_)⟩
     cases e with
     | returned u=>exact he
     | panicked c=>exact he.elim
     | outgrown=>obtain ⟨_,_,h⟩:=he;exact h.elim
   case row row args=>exact ⟨fun h0=>by simp [Fence.wide] at h0,rowsIn_of h⟩
 | halt x w'=>cases x<;>simp only [Oper.upon] at h<;>exact h.elim
theorem wpOpInW_of {i:Nat} (hh:wpOp P ops QF i K a w):wpOpIn Fence.wide n P ops Q i K a w:=by
 unfold wpOp at hh
 unfold wpOpIn
 split
 · rename_i ho;simp only [ho] at hh;exact hh
 · rename_i o ho
   simp only [ho] at hh
   split
   · rename_i hw
     simp only [hw,if_true] at hh
     rcases hh with h|⟨_,_,_,h⟩
     · exact wpInW_of_wp h
     · exact h.elim
   · rename_i hw;simp only [hw] at hh;exact ⟨fun _ _=>trivial,hh⟩
def SInI (P:Program) (ops:Array Oper) (cov:Array Bool) (I:World→Prop) (m:Nat) (Q:Exit→Act→World→Prop):Nat→Array Bool→Act→World→Prop
 | 0,listed,a,w=>Region.ready .any ops listed=[]∧Q .normal a w
 | n+1,listed,a,w=>(Region.ready .any ops listed=[]→Q .normal a w) ∧
     ∀ i∈Region.ready .any ops listed,(cov.getD i false=true→wpOpIn Fence.wide m P ops Q i (wpAnyIn Fence.wide m P .any ops Q n (listed.setIfInBounds i true)) a w) ∧
       (cov.getD i false=false→wpOp P ops QF i (fun a' w'=>(I w→I w')∧∀ w'',Ext w' w''→SInI P ops cov I m Q n (listed.setIfInBounds i true) a' w'') a w)
theorem wpAnyIn_of_SInI:∀ (k:Nat) (listed:Array Bool) (a:Act) (w:World),SInI P ops cov I n Q k listed a w→wpAnyIn Fence.wide n P .any ops Q k listed a w
 | 0,_,_,_,h=>h
 | k+1,_,_,_,h=>⟨h.1,fun i hi=>by
     cases hc:cov.getD i false with
     | true=>exact (h.2 i hi).1 hc
     | false=>exact wpOpIn_mono (fun _ w' h2=>wpAnyIn_of_SInI k _ _ w' (h2.2 w' (Ext.refl _))) (wpOpInW_of ((h.2 i hi).2 hc))⟩
theorem SInI_first (hU:Up I) {i:Nat} {oi:Oper} {v:Value} (hi:ops[i]?=some oi) (hsel:∀ (j:Nat) (o:Oper) cs b,ops[j]?=some o→o.op≠.select cs b)
   (hcov:covFor ops cov i=true) :
   ∀ (k:Nat) (listed:Array Bool) (a:Act) (w0:World),I w0→Down ops listed →
     (∀ j oj,ops[j]?=some oj→j≠i→listed.getD j true=false→(∀ e∈oj.after,Region.binds .any e=true→e.on≠i)→oi.apart ops oj=true) →
     i∈Region.ready .any ops listed→YGI P ops I oi v a →
     (∀ w,Ext w0 w→SInI P ops cov I n Q k (listed.setIfInBounds i true) (a.put oi.dst v) w)→∀ w,Ext w0 w→SInI P ops cov I n Q (k+1) listed a w:=by
 intro k
 have ci:∀ {listed:Array Bool},Down ops listed→i∈Region.ready .any ops listed→cov.getD i false=false:=fun {listed} hd hr=>by
   refine covFor_spec hcov hd hr ?_
   have h0:=(mem_ready.1 hr).1
   rcases Nat.lt_or_ge i listed.size with h'|h'
   · simp [h'] at h0 ⊢;exact h0
   · simp [Array.getElem?_eq_none h'] at h0
 induction k with
 | zero=>
   intro listed a w0 hW hd _ hr hy H w hw
   refine ⟨fun h=>(by rw [h] at hr;cases hr),fun j hj=>?_⟩
   by_cases hji:j=i
   · subst hji
     refine ⟨fun hc=>(by rw [ci hd hr] at hc;cases hc),fun _=>hy.wpOp hi (hU _ _ hW hw) fun w' hw'=>⟨fun hI=>hU _ _ hI hw',fun w'' hw''=>H _ ((hw.trans hw').trans hw'')⟩⟩
   · have:=ready_mono hj hji
     rw [(H w hw).1] at this
     cases this
 | succ k ih=>
   intro listed a w0 hW hd hfree hr hy H w hw
   refine ⟨fun h=>(by rw [h] at hr;cases hr),fun j hj=>?_⟩
   by_cases hji:j=i
   · subst hji
     refine ⟨fun hc=>(by rw [ci hd hr] at hc;cases hc),fun _=>hy.wpOp hi (hU _ _ hW hw) fun w' hw'=>⟨fun hI=>hU _ _ hI hw',fun w'' hw''=>H _ ((hw.trans hw').trans hw'')⟩⟩
   · obtain ⟨hjun,oj,hoj,hall⟩:=mem_ready.1 hj
     have hiun:listed.getD i false=false:=by
       have h0:=(mem_ready.1 hr).1
       rcases Nat.lt_or_ge i listed.size with h'|h'
       · simp [h'] at h0 ⊢;exact h0
       · simp [Array.getElem?_eq_none h'] at h0
     have hnot:∀ e∈oj.after,Region.binds .any e=true→e.on≠i:=fun e he hb heq=>by
       have h1:=hall e he hb
       rw [heq,hiun] at h1
       cases h1
     have hc:=covFor_spec hcov hd hj hiun
     have h1:=((H w hw).2 j (ready_mono hj hji)).2 hc
     have hap:=hfree j oj hoj hji hjun hnot
     obtain ⟨_,_,h3⟩:=Oper.apart_spec hap
     have h2:=wpOp_put2 (S:=YGI P ops I oi v) hoj hap (fun cs b=>hsel j oj cs b hoj)
       (fun a u hS=>hS.of_same (execOp_put oi (fun cs b=>hsel i oi cs b hi) a oj.dst u h3) (wanted_put oi a oj.dst u h3)) (fun a d hS=>hS.of_same rfl rfl) hy h1
     have hfree':∀ k ok,ops[k]?=some ok→k≠i→(listed.setIfInBounds j true).getD k true=false →
         (∀ e∈ok.after,Region.binds .any e=true→e.on≠i)→oi.apart ops ok=true:=fun k ok hk hki hun hno=>by
       refine hfree k ok hk hki ?_ hno
       by_cases hjk:j=k
       · subst hjk;exact hjun
       · rw [getD_set_ne true hjk] at hun;exact hun
     refine ⟨fun hc'=>(by rw [hc] at hc';cases hc'),fun _=>wpOp_mono (fun a' w' h3=>?_) h2⟩
     obtain ⟨hS,hcv,hrest⟩:=h3
     have hww:=hcv (hU _ _ hW hw)
     refine ⟨fun _=>hww,fun w'' hw''=>ih (listed.setIfInBounds j true) a' w' hww (hd.set hj) hfree' (ready_mono hr (Ne.symm hji)) hS ?_ w'' hw''⟩
     intro w2 hw2
     rw [Array.setIfInBounds_comm _ _ hji]
     exact hrest w2 hw2
theorem SInI_lex (hU:Up I) (hs:Region.noSelect ops=true) (k:Nat):∀ (l:List Nat) (listed:Array Bool) (a:Act),lexOk ops cov l listed=true→Down ops listed →
   wpGI P ops I (fun a'=>∀ w,I w→SInI P ops cov I n Q k (listedBy l listed) a' w) l a→∀ w,I w→SInI P ops cov I n Q (k+l.length) listed a w
 | [],_,_,_,_,h=>h
 | i::l,listed,a,hB,hd,h=>by
   intro w hw0
   simp only [lexOk,Bool.and_eq_true] at hB
   obtain ⟨⟨⟨hr,hf⟩,hc⟩,hB'⟩:=hB
   have hr':i∈Region.ready .any ops listed:=by simpa using hr
   unfold wpGI at h
   cases ho:ops[i]? with
   | none=>simp only [ho] at h
   | some o=>
     simp only [ho] at h
     by_cases hw:Region.wanted o (yielded ops a.tmps)=true
     · simp only [hw,if_true] at h
       obtain ⟨v,hv,hK⟩:=h
       exact SInI_first hU ho (Region.noSelect_spec hs) hc (k+l.length) listed a w hw0 hd (Region.free_spec ho hf) hr' (.inl ⟨hw,hv⟩) (fun w' hw'=>SInI_lex hU hs k l _ _ hB' (hd.set hr') hK w' (hU _ _ hw0 hw')) w (Ext.refl _)
     · simp only [hw] at h
       exact SInI_first hU ho (Region.noSelect_spec hs) hc (k+l.length) listed a w hw0 hd (Region.free_spec ho hf) hr' (.inr ⟨by simpa using hw,rfl⟩) (fun w' hw'=>SInI_lex hU hs k l _ _ hB' (hd.set hr') h w' (hU _ _ hw0 hw')) w (Ext.refl _)
theorem wpInW_mixed {id:Nat} (hU:Up I) (hI:I w) (l:List Nat) (k:Nat) (hm:P.follows .mixedOrders=true)
   (hB:(Region.noSelect ops && (k+l.length == ops.size) && lexOk ops cov l (Array.replicate ops.size false))=true)
   (h:wpGI P ops I (fun a'=>∀ w',I w'→SInI P ops cov I n Q k (listedBy l (Array.replicate ops.size false)) a' w') l a):(Code.region id ops true).wpIn Fence.wide n P Q a w:=by
 simp only [Bool.and_eq_true,beq_iff_eq] at hB
 obtain ⟨⟨hs,hn⟩,hl⟩:=hB
 refine wpIn_region_any hm (wpAnyIn_of_SInI (I:=I) (cov:=cov) _ _ _ _ ?_)
 rw [← hn]
 have:=SInI_lex (P:=P) (Q:=Q) (n:=n) hU hs k l (Array.replicate ops.size false) a hl (Down.none _) h w.drew (hU _ _ hI (Ext.refl w).drew)
 simpa [hn] using this
theorem SInI_one {k i:Nat} {listed:Array Bool} (hr:Region.ready .any ops listed=[i]) (hc:cov.getD i false=true)
   (h:wpOpIn Fence.wide n P ops Q i (wpAnyIn Fence.wide n P .any ops Q k (listed.setIfInBounds i true)) a w):SInI P ops cov I n Q (k+1) listed a w:=
 ⟨fun h0=>(by rw [hr] at h0;cases h0),fun j hj=>by
   rw [hr] at hj
   obtain rfl:j=i:=by simpa using hj
   exact ⟨fun _=>h,fun hc'=>(by rw [hc] at hc';cases hc')⟩⟩
theorem wpAnyIn_one {k i:Nat} {listed:Array Bool} (hr:Region.ready .any ops listed=[i]) (h:wpOpIn Fence.wide n P ops Q i (wpAnyIn Fence.wide n P .any ops Q k (listed.setIfInBounds i true)) a w):wpAnyIn Fence.wide n P .any ops Q (k+1) listed a w:=
 ⟨fun h0=>(by rw [hr] at h0;cases h0),fun j hj=>by
   rw [hr] at hj
   obtain rfl:j=i:=by simpa using hj
   exact h⟩
theorem wpOpIn_on {i:Nat} (ho:ops[i]?=some o) (hw:Region.wanted o (yielded ops a.tmps)=true) (h:o.wpIn Fence.wide n P a w K Q):wpOpIn Fence.wide n P ops Q i K a w:=by
 unfold wpOpIn;simp only [ho,hw,if_true];exact h
theorem wpIn_yield {l:Nat} {args:Array Value} {R:Ending→World→Prop} (hrun:(execOp a.eval o).run P w=(Instr.yield l args).run P w) (h:YieldAt Fence.wide (n-1) P l args w R)
   (hK:∀ e w',R e w'→∃ v,e=.returned v∧K (a.put o.dst v) w'):o.wpIn Fence.wide n P a w K Q:=by
 obtain ⟨fn,tmps,assign,body,hy,hR⟩:=h
 unfold Oper.wpIn
 refine ⟨fun _ _=>trivial,?_⟩
 have hr:Fence.wide.round=none:=rfl
 rw [hr,Oper.semAt_none,hrun,hy,Oper.uponIn_round]
 refine ⟨fun h0=>by simp [Fence.wide] at h0,RoundIn.mono hR fun e w' he=>?_⟩
 obtain ⟨v,rfl,h2⟩:=hK e w' he
 exact h2
theorem chain_of_wpGI {R:Act→Prop} (hU:Up I):∀ (l:List Nat) (a:Act) (w:World),I w→wpGI P ops I R l a→chain P ops (fun a' w'=>R a'∧I w') l a w
 | [],a,w,hI,h=>⟨h,hI⟩
 | i::l,a,w,hI,h=>by
   unfold wpGI at h
   unfold chain
   cases ho:ops[i]? with
   | none=>simp only [ho] at h
   | some o=>
     simp only [ho] at h ⊢
     by_cases hw:Region.wanted o (yielded ops a.tmps)=true
     · simp only [hw,if_true] at h ⊢
       obtain ⟨v,hv,hK⟩:=h
       refine givesUpon_wp (hv w hI) fun u w' ⟨hu,hx⟩=>?_
       subst hu
       exact chain_of_wpGI hU l _ w' (hU _ _ hI hx) hK
     · simp only [hw] at h ⊢
       exact chain_of_wpGI hU l _ w hI h
end
section
variable {c:Cx} {Q:Exit→Act→World→Prop} {F:Fr} {H:Hp} {D:List Nat} {a:Act} {w:World} {n:Nat}
theorem g_region {id:Nat} {l:List Oper} {R:Fr→Prop} (ha:Frm D c.N F a) (hw:Has c.w0 ⟨c.M,D⟩ H w) (h:GX c ⟨l⟩ l R F H) (k:∀ F' a' w',R F'→Frm D c.N F' a'→Has c.w0 ⟨c.M,D⟩ H w'→Q .normal a' w') :
   (Code.region id ⟨l⟩ false).wpIn Fence.wide n c.P Q a w:=by
 refine wpIn_wide.2 (wp_region (wpOps_of_chain (R:=fun a' w'=>(∃ F',R F'∧Frm D c.N F' a')∧Has c.w0 ⟨c.M,D⟩ H w') (fun a' w' h=>?_) _ _ _ (chain_of_wpGI (Has.up (M:=⟨c.M,D⟩)) _ _ _ hw ?_)))
 · obtain ⟨⟨F',h1,h2⟩,h3⟩:=h
   exact k F' a' w' h1 h2 h3
 · have:=h _ (range_map l) D a ha
   rwa [← List.range_eq_range'] at this
theorem g_mixIn {id:Nat} {l ql:List Oper} {R:Fr→Prop} (q:List Nat) (k:Nat) (cov:Array Bool) (hm:c.P.follows .mixedOrders=true) (hB:(Region.noSelect ⟨l⟩ && (k+q.length == (Array.mk l).size) && lexOk ⟨l⟩ cov q (Array.replicate (Array.mk l).size false))=true) (hq:pickOps l q=some ql)
   (ha:Frm D c.N F a) (hw:Has c.w0 ⟨c.M,D⟩ H w) (h:GX c ⟨l⟩ ql R F H)
   (kk:∀ F' a' w',R F'→Frm D c.N F' a'→Has c.w0 ⟨c.M,D⟩ H w'→SInI c.P ⟨l⟩ cov (Has c.w0 ⟨c.M,D⟩ H) n Q k (listedBy q (Array.replicate (Array.mk l).size false)) a' w') :
   (Code.region id ⟨l⟩ true).wpIn Fence.wide n c.P Q a w:=by
 refine wpInW_mixed (Has.up (M:=⟨c.M,D⟩)) hw q k hm hB (wpGI_mono (fun a' ⟨F',h1,h2⟩ w' hw'=>?_) q a (h q (pickOps_spec hq) D a ha))
 exact kk F' a' w' h1 h2 hw'
theorem wpIn_oq {o:Oper} {d:Nat} {v:Value} {K:Act→World→Prop} (ha:Frm D c.N F a) (hw:Has c.w0 ⟨c.M,D⟩ H w) (hd:o.dst=some d) (hN:Nat.blt d c.N=true) (h:OQ c o F H v)
   (k:∀ a' w',Frm D c.N ((d,v)::F) a'→Has c.w0 ⟨c.M,D⟩ H w'→K a' w'):o.wpIn Fence.wide n c.P a w K Q:=
 wpInW_of_wp (givesUpon_wp (h D a w ha hw) fun u w' ⟨hu,hx⟩=>by
   subst hu
   rw [hd]
   exact k _ _ (ha.put hN _) (hw.grow hx))
end
abbrev Ed (L:List Pv):={ p:Nat×Pv×Pv // L[p.1]?=some p.2.1∧L[(p.1+1) % L.length]?=some p.2.2 }
def edS (L:List Pv) (i:Nat):Option (Ed L):=
 match h:L[i]? with
 | some x=>match h2:L[(i+1) % L.length]? with
   | some y=>some ⟨(i,x,y),h,h2⟩
   | none=>none
 | none=>none
def eds (L:List Pv) (k:Nat):List (Ed L):=(List.range k).filterMap (edS L)
theorem edS_at {L:List Pv} {i:Nat} {x y:Pv} (h:L[i]?=some x) (h2:L[(i+1) % L.length]?=some y):edS L i=some ⟨(i,x,y),h,h2⟩:=by
 unfold edS
 split
 · rename_i x' hx
   obtain rfl:x'=x:=by rw [hx] at h;exact Option.some.inj h
   split
   · rename_i y' hy
     obtain rfl:y'=y:=by rw [hy] at h2;exact Option.some.inj h2
     rfl
   · rename_i hy
     rw [hy] at h2;cases h2
 · rename_i hx
   rw [hx] at h;cases h
theorem eds_some {L:List Pv} {i:Nat} {x:Ed L} (h:edS L i=some x):eds L (i+1)=eds L i++[x]:=by
 unfold eds
 rw [List.range_succ,List.filterMap_append]
 simp [h]
theorem eds_len (L:List Pv) (k:Nat):(eds L k).length≤k:=by
 unfold eds
 exact Nat.le_trans (List.length_filterMap_le _ _) (by simp)
theorem eds_pre (L:List Pv) (k n:Nat) (h:k≤n):eds L k <+: eds L n:=by
 obtain ⟨d,rfl⟩:=Nat.exists_eq_add_of_le h
 unfold eds
 rw [List.range_add,List.filterMap_append]
 exact List.prefix_append _ _
theorem ed_nx {L:List Pv} {i:Nat} {x:Pv} (h:L[i]?=some x):∃ y,L[(i+1) % L.length]?=some y:=by
 have:=(List.getElem?_eq_some_iff.1 h).1
 exact ⟨_,List.getElem?_eq_getElem (Nat.mod_lt _ (by omega))⟩
theorem eds_steps {L:List Pv} {a:Pv} {E F:List Pv} (h:Rg L a E F) (hE:E≠[]):∀ k,k≤L.length→(eds L k).map (fun x=>Pv.sub x.1.2.2 x.1.2.1)=(E++F).take k
 | 0,_=>by rw [List.take_zero];rfl
 | k+1,hk=>by
   obtain ⟨x,hx⟩:∃ x,L[k]?=some x:=⟨_,List.getElem?_eq_getElem (by omega)⟩
   obtain ⟨e,he⟩:∃ e,(E++F)[k]?=some e:=⟨_,List.getElem?_eq_getElem (by rw [← h.len hE];omega)⟩
   have hn:=h.nxt hE hx he
   rw [eds_some (edS_at hx hn),List.map_append,eds_steps h hE k (by omega),List.take_add_one,he]
   show _++[Pv.sub (Pv.add x e) x]=_++[e]
   rw [sub_add]
def KeepM (M:Nat→Prop) (W W':World):Prop:=∀ b,M b→W'.heap[b]?=W.heap[b]?
theorem KeepM.cell {M:Nat→Prop} {A B:World} (h:KeepM M A B) {p:Addr} (hp:M p.block):B.cell? p=A.cell? p:=by
 unfold World.cell?;rw [h _ hp]
theorem RdS.keep {M:Nat→Prop} {w w':World} {k:Nat} {A:Option Addr} {n:Nat} {xs:List (List Value)} (h:RdS w k A n xs) (he:KeepM M w w') (hM:0<n→∀ b o,A=some ⟨b,o,none⟩→M b):RdS w' k A n xs:=
 ⟨h.len,fun hn=>by
   obtain ⟨b,o,rfl,hb,hc⟩:=h.at_ hn
   have hh:=he b (hM hn b o rfl)
   refine ⟨b,o,rfl,?_,fun i x hx=>⟨(hc i x hx).1,fun j u hu=>(he.cell (hM hn b o rfl)).trans ((hc i x hx).2 j u hu)⟩⟩
   rw [Array.getElem?_eq_getElem hb] at hh
   exact (Array.getElem?_eq_some_iff.1 hh).1⟩
def Bx (W:World) (b:Nat) (v:Value):Prop:=W.cell? ⟨b,0,none⟩=some v
theorem g_regT {c:Cx} {Q:Exit→Act→World→Prop} {F:Fr} {H:Hp} {D:List Nat} {a:Act} {w:World} {n:Nat} {id:Nat} {l:List Oper} {R:Fr→Hp→Prop} (ha:Frm D c.N F a) (hw:Has c.w0 ⟨c.M,D⟩ H w) (h:TL c ⟨l⟩ l R F H) (k:∀ F' H' a' w',R F' H'→Frm D c.N F' a'→Has c.w0 ⟨c.M,D⟩ H' w'→Q .normal a' w') :
   (Code.region id ⟨l⟩ false).wpIn Fence.wide n c.P Q a w:=by
 refine wpIn_wide.2 (wp_region (wpOps_of_chain (R:=fun a' w'=>∃ F' H',R F' H'∧Frm D c.N F' a'∧Has c.w0 ⟨c.M,D⟩ H' w') (fun a' w' h=>?_) _ _ _ ?_))
 · obtain ⟨F',H',h1,h2,h3⟩:=h
   exact k F' H' a' w' h1 h2 h3
 · rw [List.range_eq_range']
   exact h 0 rfl D a w ha hw
end Go.Proofs.Ytcjkndjjbjoehaa
namespace Go.Proofs.Ytcjkndjjbjoehaa
open Go.RowKit
attribute [local irreducible] OQ OS OX Rd T TL GX GL AL AI RV wpG SAny Calls
theorem oq_remL {c:Cx} {F:Fr} {H:Hp} {d:Option Tmp} {ty t t':TypeId} {pos:String} {af:Array Edge} {g:Option (Nat×Bool)} {x y:Operand} {m n k:Int} (hx:ev F x=some (.int .i64 m)) (hy:ev F y=some (.int .i64 n)) (e:m.tmod n=k∧n≠0):OQ c ⟨d,.binOp .rem t x y t',ty,pos,af,g⟩ F H (.int .i64 k):=
 (oq_rem hx hy e.2).as (by rw [e.1])
theorem then_exit {K:Act→World→Prop} {Q:Exit→Act→World→Prop} {id:Nat} {a:Act} {w:World} (h:Q (.exit id) a w):Exit.then K Q (.exit id) a w:=h
theorem then_ret {K:Act→World→Prop} {Q:Exit→Act→World→Prop} {a:Act} {w:World} (h:Q .ret a w):Exit.then K Q .ret a w:=h
theorem inBlock_exit {Q:Exit→Act→World→Prop} {id:Nat} {a:Act} {w:World} (h:Q .normal a w):Exit.inBlock id Q (.exit id) a w:=by simpa [Exit.inBlock] using h
theorem inBlock_ret {Q:Exit→Act→World→Prop} {id:Nat} {a:Act} {w:World} (h:Q .ret a w):Exit.inBlock id Q .ret a w:=h
def slot7 (a:Act):Nat:=match a.tmps[7]? with|some (Value.int _ z)=>z.toNat|_=>0
def EdAt (W:World) (B0 pb po n c:Nat) (L:List Pv):Prop:=RdS W 2 (some ⟨pb,po,none⟩) n (L.map (coC Pv.x Pv.y))∧Bx W B0 (.slice (some ⟨pb,po,none⟩) n c)
theorem EdAt.ext {W W':World} {B0 pb po n c:Nat} {L:List Pv} (h:EdAt W B0 pb po n c L) (he:Ext W W'):EdAt W' B0 pb po n c L:=⟨h.1.ext he,he.cell h.2⟩
theorem pv_row {w:World} {pb po n:Nat} {L:List Pv} (hr:RdS w 2 (some ⟨pb,po,none⟩) n (L.map (coC Pv.x Pv.y))) {i:Nat} {x:Pv} (hx:L[i]?=some x):w.cell? ⟨pb,po+i*2+0,none⟩=some (.int .i64 x.x)∧w.cell? ⟨pb,po+i*2+1,none⟩=some (.int .i64 x.y):=by
 have hl:=hr.len
 rw [List.length_map] at hl
 have:=(List.getElem?_eq_some_iff.1 hx).1
 obtain ⟨B,O,e,_,hc⟩:=hr.at_ (by omega)
 simp only [Option.some.injEq,Addr.mk.injEq] at e
 obtain ⟨rfl,rfl,_⟩:=e
 have hrow:(L.map (coC Pv.x Pv.y))[i]?=some [.int .i64 x.x,.int .i64 x.y]:=by rw [List.getElem?_map,hx];rfl
 exact ⟨(hc i _ hrow).2 0 _ rfl,(hc i _ hrow).2 1 _ rfl⟩
set_option maxRecDepth 100000 in
theorem edges_seq (m B0 pb po n c:Nat) (L:List Pv) (hn0:n≤1000000) (l:Nat) (J Jx:List (Ed L)→World→Prop) (W:World) (hJe:∀ pre A B,J pre A→Ext A B→J pre B) (hXe:∀ pre A B,Jx pre A→Ext A B→Jx pre B) (hJR:∀ pre A,J pre A→EdAt A B0 pb po n c L)
   (hY:∀ pre x A,J pre A→pre.length<L.length→YieldAt Fence.wide (m-1) Try.prog l #[.agg #[.int .i64 x.1.2.1.x,.int .i64 x.1.2.1.y],.agg #[.int .i64 x.1.2.2.x,.int .i64 x.1.2.2.y]] A fun e B=>(e=.returned (.bool true)∧J (pre++[x]) B)∨(e=.returned (.bool false)∧Jx (pre++[x]) B)) (h0:J [] W) :
   CallsIn Fence.wide m Try.prog 172 (#[.func (.yield l) #[] #[]]++#[.pointer (some ⟨B0,0,none⟩)]) W fun e B=>(∃ v,e=.returned v)∧((∃ ys,ys=eds L L.length∧J ys B)∨(∃ pre,pre <+: eds L L.length∧Jx pre B)):=by
 have HY:=Lib.hid hY
 clear hY
 refine callsIn_of_wp Try.func172 rfl trivial ?_ rfl
 have hf0:Frm [] 25 (frOf 0 [.func (.yield l) #[] #[],.pointer (some ⟨B0,0,none⟩)]) { tmps:=(#[.func (.yield l) #[] #[]]++#[.pointer (some ⟨B0,0,none⟩)])++Array.replicate (25-2) undef,defers:=[] }:=
   ⟨by simp,rfl,fun d v hv=>by
     have:=(look_frOf _ 0 d v hv).2
     have hlt:=(List.getElem?_eq_some_iff.1 this).1
     rw [Array.getElem?_append_left (by simpa using hlt)]
     simpa using this⟩
 refine (?_:∀ a:Act,Frm [] 25 (frOf 0 [.func (.yield l) #[] #[],.pointer (some ⟨B0,0,none⟩)]) a→Code.wpIn Fence.wide m Try.prog _ _ a W) _ hf0
 clear hf0
 intro a hf0
 obtain ⟨hr0,c0⟩:=hJR _ _ h0
 have hl0:L.length=n:=by have:=hr0.len;rwa [List.length_map] at this
 unfold Bx at c0
 refine wpIn_seq ?_
 refine g_region (c:=cx W 25) (R:=fun F'=>FrSub F' [(0,.func (.yield l) #[] #[]),(1,.pointer (some ⟨B0,0,none⟩)),(5,.slice (some ⟨pb,po,none⟩) n c),(6,.int .i64 (n:Int)),(7,.int .i64 ((0:Nat):Int))]) hf0 (Has.start W) ?_ ?_
 · all_goals (try with_reducible apply gx_id)
   repeat' (first|((with_reducible apply oq_id);first|(apply oq_fn;exact rfl;first|exact trivial|(and_intros<;>omega)|omega|skip)|((with_reducible apply oq_load);exact rfl;exact rfl))|((with_reducible apply gx_id);first|(with_reducible apply v_nil)|((with_reducible apply v_q);(iterate 3 exact rfl)))|((with_reducible apply rd_id);first|(apply Rd.old;(first|(with_reducible assumption)|exact c0|exact c1|exact c2|exact c3|exact c4|exact c5|exact c6|exact c7|exact c8|exact d0|exact d1|exact d2|exact d3|exact d4|exact d5);first|exact List.not_mem_nil|exact m0|exact m1|exact m2|exact m3|exact m4|exact m5|exact m6|exact m7|exact m8|exact m9)))
   all_goals (repeat first|exact FrSub.nil|(apply FrSub.cons;exact rfl))
 intro F1 a1 w1 hF1 hf1 hw1
 show Code.wpIn _ _ _ _ _ _ _
 refine wpIn_block ?_
 refine wpIn_loop (fun a w=>∃ k,k≤n∧Frm [] 25 [(0,.func (.yield l) #[] #[]),(1,.pointer (some ⟨B0,0,none⟩)),(5,.slice (some ⟨pb,po,none⟩) n c),(6,.int .i64 (n:Int)),(7,.int .i64 ((k:Nat):Int))] a∧J (eds L k) w) (fun a _=>n-slot7 a) ?_ ?_
 · exact ⟨0,Nat.zero_le _,hf1.sub hF1,hJe _ _ _ h0 hw1.ext.ext⟩
 clear hf0 c0 hr0 hF1 hf1 hw1
 rintro a2 w2 ⟨k,hk,hf2,hJ2⟩
 have hs2:slot7 a2=k:=by
   have:=hf2.at_ 7 (.int .i64 (k:Int)) rfl
   unfold slot7
   rw [this]
   simp
 refine wpIn_seq ?_
 refine g_region (c:=cx w2 25) (R:=fun F'=>FrSub F' [(0,.func (.yield l) #[] #[]),(1,.pointer (some ⟨B0,0,none⟩)),(5,.slice (some ⟨pb,po,none⟩) n c),(6,.int .i64 (n:Int)),(7,.int .i64 ((k:Nat):Int)),(8,.bool (decide ((k:Int)<(n:Int))))]) hf2 (Has.start w2) ?_ ?_
 · all_goals (try with_reducible apply gx_id)
   repeat' (first|((with_reducible apply oq_id);first|(apply oq_fn;exact rfl;first|exact trivial|(and_intros<;>omega)|omega|skip))|((with_reducible apply gx_id);first|(with_reducible apply v_nil)|((with_reducible apply v_q);(iterate 3 exact rfl))))
   all_goals (repeat first|exact FrSub.nil|(apply FrSub.cons;exact rfl))
 intro F3 a3 w3 hF3 hf3 hw3
 show Code.wpIn _ _ _ _ _ _ _
 have hf3':=hf3.sub hF3
 clear hf3 hF3
 have hJ3:=hJe _ _ _ hJ2 hw3.ext.ext
 clear hw3 hJ2 hf2
 refine wpIn_seq ?_
 by_cases hlt:k<n
 · refine wpIn_cond_true (by have:=hf3'.at_ 8 _ rfl;simpa [Act.eval,Array.getD_eq_getD_getElem?,this] using hlt) ?_
   refine wpIn_skip ?_
   show Code.wpIn _ _ _ _ _ _ _
   refine wpIn_seq ?_
   refine wpIn_block ?_
   obtain ⟨hr3,d0⟩:=hJR _ _ hJ3
   unfold Bx at d0
   obtain ⟨x,hx⟩:∃ x,L[k]?=some x:=⟨_,List.getElem?_eq_getElem (by omega)⟩
   obtain ⟨y,hy⟩:=ed_nx hx
   obtain ⟨c0,c1⟩:=pv_row hr3 hx
   obtain ⟨c2,c3⟩:=pv_row hr3 hy
   rw [hl0] at c2 c3
   have hrem:(((k:Nat):Int)+1).tmod ((n:Nat):Int)=(((k+1) % n:Nat):Int):=by
     rw [Int.tmod_eq_emod_of_nonneg (by omega)];rfl
   have hm:(k+1) % n<n:=Nat.mod_lt _ (by omega)
   have hed:=eds_some (edS_at hx hy)
   have hlen:=eds_len L k
   refine wpIn_seq ?_
   refine g_regT (c:=cx w3 25) (R:=fun F' H'=>∃ b4,FrSub F' [(0,.func (.yield l) #[] #[]),(1,.pointer (some ⟨B0,0,none⟩)),(5,.slice (some ⟨pb,po,none⟩) n c),(6,.int .i64 (n:Int)),(7,.int .i64 ((k:Nat):Int)),(3,.int .i64 (k:Int)),(4,.pointer (some ⟨b4,0,none⟩))]∧HpSub H' [(b4,[.int .i64 x.x,.int .i64 x.y],some (111,2,1))]) hf3' (Has.start w3) ?_ ?_
   · all_goals (try with_reducible apply tl_id)
     repeat' (first|((with_reducible apply oq_id);first|(focus ((with_reducible apply oq_indexAddrN);(iterate 4 exact rfl);omega))|(apply oq_fn;exact rfl;first|exact trivial|(and_intros<;>omega)|omega|skip)|((with_reducible apply oq_loadAgg);exact rfl;exact rfl))|((with_reducible apply tl_id);first|(with_reducible apply tl_nil)|((with_reducible apply u_q);(iterate 4 exact rfl))|((with_reducible apply u_s0);exact rfl;exact rfl)|((with_reducible apply u_s);(iterate 3 exact rfl)))|((with_reducible apply os_id);first|((with_reducible apply os_x);exact rfl)|((with_reducible apply os_storeAgg);(iterate 5 exact rfl)))|((with_reducible apply ox_id);first|((with_reducible apply ox_alloc);exact rfl;intro _))|((with_reducible apply rd_id);first|(apply Rd.old;(first|(with_reducible assumption)|exact c0|exact c1|exact c2|exact c3|exact c4|exact c5|exact c6|exact c7|exact c8|exact d0|exact d1|exact d2|exact d3|exact d4|exact d5);first|exact List.not_mem_nil|exact m0|exact m1|exact m2|exact m3|exact m4|exact m5|exact m6|exact m7|exact m8|exact m9))|exact P0|exact Rdn.zero|apply Rdn.succ|((with_reducible apply Norm.nil);exact rfl)|((with_reducible apply Norm.cons);exact rfl)|exact Nat.le_of_ble_eq_true rfl)
     all_goals exact ⟨_,by (repeat first|exact FrSub.nil|(apply FrSub.cons;exact rfl)),by (repeat' (first|exact HpSub.refl _))⟩
   rintro F4 H4 a4 w4 ⟨b4,hF4,hH4⟩ hf4 hw4
   show Code.wpIn _ _ _ _ _ _ _
   have hf4':=hf4.sub hF4
   have hw4':=hw4.sub hH4
   clear hf4 hF4 hw4 hH4
   refine wpIn_seq ?_
   refine g_mixIn (c:=cx w3 25) (id:=3) (R:=fun F'=>FrSub F' [(0,.func (.yield l) #[] #[]),(1,.pointer (some ⟨B0,0,none⟩)),(5,.slice (some ⟨pb,po,none⟩) n c),(6,.int .i64 (n:Int)),(7,.int .i64 ((k:Nat):Int)),(12,.func (.yield l) #[] #[]),(13,.agg #[.int .i64 x.x,.int .i64 x.y]),(21,.agg #[.int .i64 y.x,.int .i64 y.y])]) [0,1,2,3,4,5,6,7,8,9] 2 #[false,false,false,false,false,false,false,false,false,false,true,true] (by kernel_rfl) (by kernel_rfl) rfl hf4' hw4' ?_ ?_
   · all_goals (try with_reducible apply gx_id)
     repeat' (first|((with_reducible apply oq_id);first|(focus ((with_reducible apply (oq_remL (k:=(((k+1) % n:Nat):Int))));exact rfl;exact rfl;exact ⟨hrem,by omega⟩))|(focus ((with_reducible apply oq_indexAddrN);(iterate 4 exact rfl);omega))|(apply oq_fn;exact rfl;first|exact trivial|(and_intros<;>omega)|omega|skip)|((with_reducible apply oq_load);exact rfl;exact rfl)|((with_reducible apply oq_loadAgg);exact rfl;exact rfl))|((with_reducible apply gx_id);first|(with_reducible apply v_nil)|((with_reducible apply v_q);(iterate 3 exact rfl)))|((with_reducible apply rd_id);first|(apply Rd.own;(repeat first|exact P0|apply P1);exact rfl;done)|(apply Rd.old;(first|(with_reducible assumption)|exact c0|exact c1|exact c2|exact c3|exact c4|exact c5|exact c6|exact c7|exact c8|exact d0|exact d1|exact d2|exact d3|exact d4|exact d5);first|exact List.not_mem_nil|exact m0|exact m1|exact m2|exact m3|exact m4|exact m5|exact m6|exact m7|exact m8|exact m9))|exact Rdn.zero|apply Rdn.succ)
     all_goals (repeat first|exact FrSub.nil|(apply FrSub.cons;exact rfl))
   intro F6 a6 w6 hF6 hf6 hw6
   have hf6':=hf6.sub hF6
   have e6:=hw6.ext.ext
   refine SInI_one (i:=10) (by decide +kernel) rfl ?_
   refine wpOpIn_on rfl (runs_spec hf6' rfl) ?_
   have e12:=hf6'.at_ 12 _ rfl
   have e13:=hf6'.at_ 13 _ rfl
   have e21:=hf6'.at_ 21 _ rfl
   refine wpIn_yield (l:=l) (args:=#[.agg #[.int .i64 x.x,.int .i64 x.y],.agg #[.int .i64 y.x,.int .i64 y.y]]) ?_ (HY.out (eds L k) ⟨(k,x,y),hx,hy⟩ w6 (hJe _ _ _ hJ3 e6) (by omega)) ?_
   · simp [execOp,resolve,invoke,go_sem,Act.eval,Array.getD_eq_getD_getElem?,e12,e13,e21]
   rw [← hed]
   rintro e w7 (⟨rfl,hJ7⟩|⟨rfl,hJ7⟩)
   · refine ⟨_,rfl,?_⟩
     have hf7:=hf6'.put (d:=22) rfl (.bool true)
     refine wpAnyIn_one (i:=11) (by decide +kernel) ?_
     refine wpOpIn_on rfl (runs_spec hf7 rfl) ?_
     refine wpIn_oq (c:=cx w7 25) (H:=[]) (D:=[]) (v:=.bool false) hf7 (Has.start w7) rfl rfl (by apply oq_fn;exact rfl;exact trivial) ?_
     intro a9 w9 hf9 hw9
     refine wpAnyIn_done (by decide +kernel) ?_ _
     show Code.wpIn _ _ _ _ _ _ _
     refine wpIn_cond_false (by have:=hf9.at_ 23 _ rfl;simp [Act.eval,Array.getD_eq_getD_getElem?,this]) ?_
     refine wpIn_skip ?_
     show Code.wpIn _ _ _ _ _ _ _
     refine g_region (c:=cx w7 25) (R:=fun F'=>FrSub F' [(0,.func (.yield l) #[] #[]),(1,.pointer (some ⟨B0,0,none⟩)),(5,.slice (some ⟨pb,po,none⟩) n c),(6,.int .i64 (n:Int)),(7,.int .i64 ((k+1:Nat):Int))]) hf9 hw9 ?_ ?_
     · all_goals (try with_reducible apply gx_id)
       repeat' (first|((with_reducible apply oq_id);first|(focus ((with_reducible apply (oq_addE (k:=((k+1:Nat):Int))));exact rfl;exact rfl;omega))|(apply oq_fn;exact rfl;first|exact trivial|(and_intros<;>omega)|omega|skip))|((with_reducible apply gx_id);first|(with_reducible apply v_nil)|((with_reducible apply v_q);(iterate 3 exact rfl))))
       all_goals (repeat first|exact FrSub.nil|(apply FrSub.cons;exact rfl))
     intro F8 a8 w8 hF8 hf8 hw8
     have hf8':=hf8.sub hF8
     have hs8:slot7 a8=k+1:=by
       have:=hf8'.at_ 7 (.int .i64 ((k+1:Nat):Int)) rfl
       unfold slot7
       rw [this]
       simp only
       omega
     exact ⟨⟨k+1,by omega,hf8',hJe _ _ _ hJ7 hw8.ext.ext⟩,by rw [hs8,hs2];omega⟩
   · refine ⟨_,rfl,?_⟩
     have hf7:=hf6'.put (d:=22) rfl (.bool false)
     refine wpAnyIn_one (i:=11) (by decide +kernel) ?_
     refine wpOpIn_on rfl (runs_spec hf7 rfl) ?_
     refine wpIn_oq (c:=cx w7 25) (H:=[]) (D:=[]) (v:=.bool true) hf7 (Has.start w7) rfl rfl (by apply oq_fn;exact rfl;exact trivial) ?_
     intro a9 w9 hf9 hw9
     refine wpAnyIn_done (by decide +kernel) ?_ _
     show Code.wpIn _ _ _ _ _ _ _
     refine wpIn_cond_true (by have:=hf9.at_ 23 _ rfl;simp [Act.eval,Array.getD_eq_getD_getElem?,this]) ?_
     refine wpIn_ret ?_
     repeat (first|refine then_ret ?_|refine inBlock_ret ?_)
     exact bodyPost_ret (results_none rfl _ _ _) (by rw [hf9.defers];rfl) ⟨⟨_,rfl⟩,.inr ⟨_,eds_pre _ _ _ (by omega),hXe _ _ _ hJ7 hw9.ext.ext⟩⟩
 · obtain rfl:k=n:=by omega
   refine wpIn_cond_false (by have:=hf3'.at_ 8 _ rfl;simp [Act.eval,Array.getD_eq_getD_getElem?,this]) ?_
   refine wpIn_exit ?_
   refine then_exit (then_exit (inBlock_exit ?_))
   refine bodyPost_end (results_none rfl _ _ _) (by rw [hf3'.defers];rfl) ?_
   exact ⟨⟨_,rfl⟩,.inl ⟨_,by rw [hl0],hJ3⟩⟩
theorem ext_grow0 {A B:World} (h:Ext A B):A.grownBy B none:=⟨h.os,h.tape,h.output,h.size,fun k hk _=>h.block k hk⟩
theorem edges_stops (m:Nat) (hm:1≤m) (B0 pb po n c:Nat) (L:List Pv) (hn0:n≤1000000) (M:Nat→Prop) (hM0:M B0) (hMp:M pb) (w:World) (h:EdAt w B0 pb po n c L) :
   SeqStopsK Fence.wide m Try.prog 172 #[.pointer (some ⟨B0,0,none⟩)] (fun x:Ed L=>#[.agg #[.int .i64 x.1.2.1.x,.int .i64 x.1.2.1.y],.agg #[.int .i64 x.1.2.2.x,.int .i64 x.1.2.2.y]])
     (KeepM M) (fun ys=>ys=eds L L.length) (fun pre=>pre <+: eds L L.length) L.length w:=fun y J Jx W hW hJ hJx hY h0=>by
 have hWe:Ext w W:=⟨hW.os,hW.tape,hW.output,hW.size,fun b hb=>hW.block b hb⟩
 refine (edges_seq m B0 pb po n c L hn0 y (fun pre W=>J pre W∧EdAt W B0 pb po n c L) Jx W ?_ ?_ (fun pre W h=>h.2) ?_ ⟨h0,h.ext hWe⟩).mono ?_
 · exact fun pre A B hj he=>⟨hJ _ _ _ none hj.1 (ext_grow0 he) (fun r e=>by cases e),hj.2.ext he⟩
 · exact fun pre A B hj he=>hJx _ _ _ none hj (ext_grow0 he) (fun r e=>by cases e)
 · intro pre x W1 hj hlen
   obtain ⟨fn,tmps,assign,body,hy,hR⟩:=hY pre x W1 hj.1 hlen
   refine ⟨fn,tmps,assign,body,hy,hR.mono ?_⟩
   rintro e W' (⟨he,hj',hk⟩|h)
   · exact .inl ⟨he,hj',hj.2.1.keep hk (fun _ b o e=>by simp only [Option.some.injEq,Addr.mk.injEq] at e;rw [← e.1];exact hMp),(hk.cell hM0).trans hj.2.2⟩
   · exact .inr h
 · rintro e W' ⟨hv,⟨ys,hys,hj⟩|h⟩
   · exact ⟨hv,.inl ⟨ys,hys,hj.1⟩⟩
   · exact ⟨hv,.inr h⟩
section
variable {c:Cx} {S:WS c.P} {Q:QS} {F:Fr} {H:Hp} {x:Code}
theorem t_loopW {ι:Type} (keep:List Nat) (ch:ι→Fr) (hc:ι→Hp) (Pi:ι→Prop) (μ:ι→Nat) (i0:ι) {G:Fr} (hK:KeepF F keep G) (hF:FrSub F (ch i0)) (hH:HpSub H (hc i0)) (h0:Pi i0)
   (h:∀ i,Pi i→T c S x (thenQ (fun F' H'=>∃ j,Pi j∧μ j<μ i∧FrSub F' (ch j++G)∧HpW H' (hc j)) Q) (ch i++G) (hc i)):T c S (.loop x) Q F H:=by
 refine t_loopP keep ch hc Pi μ i0 hK hF hH h0 fun i hi=>?_
 have h1:=h i hi
 unfold T at h1 ⊢
 refine fun D a w ha hw=>S.mono (h1 D a w ha hw) fun e a' w' he=>?_
 obtain ⟨D',F',H',hq,h3,h4⟩:=he
 cases e with
 | normal=>obtain ⟨j,hj,hm,hF2,hH2⟩:=hq;exact ⟨D',F',hc j,⟨j,hj,hm,hF2,HpSub.refl _⟩,h3,hH2 _ _ _ h4⟩
 | _=>exact ⟨D',F',H',hq,h3,h4⟩
end
theorem sub_bd {a b:Pv} (ha:Bd 536870912 a) (hb:Bd 536870912 b):Bd 1073741824 (Pv.sub b a):=by
 unfold Bd at ha hb ⊢
 unfold Pv.sub
 simp only
 omega
theorem pop_sub (p:Pv):∀ (s:List Pv),∀ b∈pop p s,b∈s
 | [],b,h=>h
 | [_],b,h=>h
 | c::a::s,b,h=>by
   unfold pop at h
   split at h
   · exact List.mem_cons_of_mem _ (pop_sub p (a::s) b h)
   · exact h
theorem pop_len (p:Pv):∀ (s:List Pv),(pop p s).length≤s.length
 | []=>Nat.le_refl _
 | [_]=>Nat.le_refl _
 | c::a::s=>by
   unfold pop
   split
   · exact Nat.le_succ_of_le (pop_len p (a::s))
   · exact Nat.le_refl _
theorem chn_sub (l:List Pv):∀ b∈chn l,b∈l:=by
 induction l using snoc_ind with
 | h0=>intro b h;cases h
 | h1 l x ih=>
   intro b h
   rw [chn_snoc] at h
   rcases List.mem_cons.1 h with rfl|h
   · simp
   · exact List.mem_append_left _ (ih b (pop_sub _ _ b h))
theorem chn_len (l:List Pv):(chn l).length≤l.length:=by
 induction l using snoc_ind with
 | h0=>exact Nat.le_refl _
 | h1 l x ih=>
   rw [chn_snoc]
   have:=pop_len x (chn l)
   simp only [List.length_cons,List.length_append,List.length_nil]
   omega
abbrev stV (S:List Pv) (x:Option (Nat×Nat)):Value:=.slice (clA x) S.length (clC x)
abbrev stH (S:List Pv) (x:Option (Nat×Nat)):Hp:=clH 111 2 (coB Pv.x Pv.y S) x
theorem chain_M (M:List Nat) (ob sb g cp n:Nat) (l S0:List Pv) (x:Option (Nat×Nat)) (hx:x=none→S0=[]) (hl:l.length=n) (h1:1≤n) (hn:n≤100000) (hk:S0.length≤100000) (hb:∀ p∈l,Bd 536870912 p) (w:World) (hH:Has w ⟨M,[]⟩ ((ob,[stV S0 x],some (101,1,1))::(sb,[.slice (some ⟨g,0,none⟩) n cp],some (101,1,1))::(g,coB Pv.x Pv.y l,some (111,2,cp))::stH S0 x) w) :
   Calls Try.prog 165 #[.pointer (some ⟨ob,0,none⟩),.pointer (some ⟨sb,0,none⟩)] w fun e w'=>∃ v H1,e=.returned v∧(∃ h ch,v=.tuple #[]∧H1=[(ob,[.slice (some ⟨h,0,none⟩) (S0++(chn l).reverse.dropLast).length ch],some (101,1,1)),(sb,[.slice (some ⟨g,0,none⟩) n cp],some (101,1,1)),(g,coB Pv.x Pv.y l,some (111,2,cp)),(h,coB Pv.x Pv.y (S0++(chn l).reverse.dropLast),some (111,2,ch))])∧Has w ⟨M,[]⟩ H1 w':=by
 refine enterM (c:=cxM M w 58) Try.func165 rfl rfl rfl hH ?_
 refine t_cut (ι:=Unit) (fun _=>[(0,.pointer (some ⟨ob,0,none⟩)),(1,.pointer (some ⟨sb,0,none⟩)),(2,.int .i64 ((S0.length:Nat):Int))]) (fun _=>((ob,[stV S0 x],some (101,1,1))::(sb,[.slice (some ⟨g,0,none⟩) n cp],some (101,1,1))::(g,coB Pv.x Pv.y l,some (111,2,cp))::stH S0 x)) (fun _=>True) ?_ ?_
 · repeat' (first|((with_reducible apply oq_id);first|(apply oq_fn;exact rfl;first|exact trivial|(and_intros<;>omega)|omega|skip)|((with_reducible apply oq_load);exact rfl;exact rfl))|((with_reducible apply tl_id);first|(with_reducible apply tl_nil)|((with_reducible apply u_q);(iterate 4 exact rfl)))|((with_reducible apply rd_id);first|(apply Rd.own;(repeat first|exact P0|apply P1);exact rfl;done))|((with_reducible apply t_id);first|(apply t_region;kernel_rfl)))
   all_goals exact ⟨by trivial,(),trivial,by (repeat' (first|exact FrSub.nil|(apply FrSub.cons;exact rfl))),by (repeat' (first|exact HpSub.refl _))⟩
 rintro ⟨⟩ -
 try dsimp only
 have e0:(S0++(chn (l.take 0)).reverse)=S0:=by simp [chn]
 refine t_subW (G:=((ob,[stV (S0++(chn (l.take 0)).reverse) x],some (101,1,1))::(sb,[.slice (some ⟨g,0,none⟩) n cp],some (101,1,1))::(g,coB Pv.x Pv.y l,some (111,2,cp))::stH (S0++(chn (l.take 0)).reverse) x)) (by rw [e0];exact HpW.refl _) ?_
 refine t_cut (ι:=Nat×Nat) (fun z=>[(0,.pointer (some ⟨ob,0,none⟩)),(1,.pointer (some ⟨sb,0,none⟩))]) (fun z=>[(ob,[.slice (some ⟨z.1,0,none⟩) ((S0++(chn (l.take n)).reverse)).length z.2],some (101,1,1)),(sb,[.slice (some ⟨g,0,none⟩) n cp],some (101,1,1)),(g,coB Pv.x Pv.y l,some (111,2,cp)),(z.1,coB Pv.x Pv.y ((S0++(chn (l.take n)).reverse)),some (111,2,z.2))]) (fun _=>True) ?_ ?_
 rotate_left
 · rintro ⟨h,ch⟩ -
   obtain ⟨l0,z,hlz⟩:=split_last (l:=l) (by intro e;subst e;simp only [List.length_nil] at hl;omega)
   have hch:chn l=z::pop z (chn l0):=by rw [hlz];exact chn_snoc l0 z
   obtain ⟨Y,hY⟩:∃ Y,S0++(pop z (chn l0)).reverse=Y:=⟨_,rfl⟩
   have e1:(S0++(chn (l.take n)).reverse)=Y++[z]:=by rw [← hl,List.take_length,hch,List.reverse_cons,← List.append_assoc,hY]
   have e2:S0++(chn l).reverse.dropLast=Y:=by rw [hch,List.reverse_cons,List.dropLast_concat,hY]
   try dsimp only
   rw [e1,e2]
   have hLen:(Y++[z]).length=Y.length+1:=by simp
   have hYn:Y.length≤200000:=by
     have h3:=chn_len l0
     have h4:=pop_len z (chn l0)
     have h5:l0.length+1=l.length:=by rw [hlz];simp
     rw [← hY];simp only [List.length_append,List.length_reverse];omega
   have eC:coB Pv.x Pv.y (Y++[z])=coB Pv.x Pv.y Y++coB Pv.x Pv.y [z]:=by simp only [coB,List.map_append,List.flatten_append]
   refine t_fact (P:=Y.length≤ch) (fun M w hw=>by
     have:=(hw.blkP (b:=h) (C:=coB Pv.x Pv.y (Y++[z])) (by (repeat first|exact P0|apply P1))).cap (by decide)
     omega) fun hcap=>?_
   repeat' (first|((with_reducible apply oq_id);first|(focus ((with_reducible apply (oq_subE (k:=((Y.length:Nat):Int))));exact rfl;exact rfl;omega))|((with_reducible apply (oq_sliceHG (L:=some ⟨h,0,none⟩)));exact (fun h=>nomatch h);(iterate 4 exact rfl);omega)|(apply oq_fn;exact rfl;first|exact trivial|(and_intros<;>omega)|omega|skip)|((with_reducible apply oq_load);exact rfl;exact rfl))|((with_reducible apply tl_id);first|(with_reducible apply tl_nil)|((with_reducible apply u_q);(iterate 4 exact rfl))|((with_reducible apply u_s0);exact rfl;exact rfl))|((with_reducible apply os_id);first|((with_reducible apply os_store);(iterate 4 exact rfl)))|((with_reducible apply rd_id);first|(apply Rd.own;(repeat first|exact P0|apply P1);exact rfl;done))|((with_reducible apply t_id);first|(apply t_region;kernel_rfl))|exact P0|((with_reducible apply Norm.nil);exact rfl)|((with_reducible apply Norm.cons);exact rfl)|(with_reducible apply end_normal)|exact rvs_nil|exact Nat.le_of_ble_eq_true rfl)
   all_goals exact ⟨_,⟨h,ch,rfl,rfl⟩,HpW.trans (HpSub.w (G:=(h,coB Pv.x Pv.y Y++coB Pv.x Pv.y [z],some (111,2,ch))::[(ob,[.slice (some ⟨h,0,none⟩) Y.length ch],some (101,1,1)),(sb,[.slice (some ⟨g,0,none⟩) n cp],some (101,1,1)),(g,coB Pv.x Pv.y l,some (111,2,cp))]) (by rw [eC];(repeat' (first|exact HpSub.refl _|(apply HpSub.consE;(repeat first|exact P0|apply P1);first|exact rfl|(simp;done)))))) (HpW.trans HpW.pre (HpSub.w (by (repeat' (first|exact HpSub.refl _|(apply HpSub.consE;(repeat first|exact P0|apply P1);first|exact rfl|(simp;done)))))))⟩
 refine t_cut (ι:=Unit) (fun _=>[(0,.pointer (some ⟨ob,0,none⟩)),(1,.pointer (some ⟨sb,0,none⟩)),(2,.int .i64 ((S0.length:Nat):Int)),(7,.slice (some ⟨g,0,none⟩) n cp),(8,.int .i64 ((n:Nat):Int)),(9,.int .i64 ((0:Nat):Int))]) (fun _=>((ob,[stV (S0++(chn (l.take 0)).reverse) x],some (101,1,1))::(sb,[.slice (some ⟨g,0,none⟩) n cp],some (101,1,1))::(g,coB Pv.x Pv.y l,some (111,2,cp))::stH (S0++(chn (l.take 0)).reverse) x)) (fun _=>True) ?_ ?_
 · repeat' (first|((with_reducible apply oq_id);first|(apply oq_fn;exact rfl;first|exact trivial|(and_intros<;>omega)|omega|skip)|((with_reducible apply oq_load);exact rfl;exact rfl))|((with_reducible apply tl_id);first|(with_reducible apply tl_nil)|((with_reducible apply u_q);(iterate 4 exact rfl)))|((with_reducible apply rd_id);first|(apply Rd.own;(repeat first|exact P0|apply P1);exact rfl;done))|((with_reducible apply t_id);first|(apply t_region;kernel_rfl)))
   all_goals exact ⟨by trivial,(),trivial,by (repeat' (first|exact FrSub.nil|(apply FrSub.cons;exact rfl))),by (repeat' (first|exact HpSub.refl _))⟩
 rintro ⟨⟩ -
 try dsimp only
 (with_reducible apply t_block)
 apply t_loopP (ι:=Nat×Option (Nat×Nat)) [0,1,2,7,8] (fun z=>[(9,.int .i64 ((z.1:Nat):Int))]) (fun z=>((ob,[stV (S0++(chn (l.take z.1)).reverse) z.2],some (101,1,1))::(sb,[.slice (some ⟨g,0,none⟩) n cp],some (101,1,1))::(g,coB Pv.x Pv.y l,some (111,2,cp))::stH (S0++(chn (l.take z.1)).reverse) z.2)) (fun z=>z.1≤n∧(z.2=none→z.1=0∧S0=[])) (fun z=>n-z.1) (0,x)
 (repeat (first|exact KeepF.nil|(apply KeepF.cons;exact rfl)|apply KeepF.skip))
 (repeat first|exact FrSub.nil|(apply FrSub.cons;exact rfl))
 (try simp only [List.cons_append,List.nil_append])
 (repeat' (first|exact HpSub.refl _))
 · exact ⟨Nat.zero_le _,fun h=>⟨rfl,hx h⟩⟩
 rintro ⟨i,x⟩ ⟨hin,hx⟩
 simp only at hin hx
 try dsimp only
 try simp only [List.cons_append,List.nil_append]
 by_cases hlt:i<n
 rotate_left
 · obtain rfl:i=n:=by omega
   cases x with
   | none=>have:=(hx rfl).1;omega
   | some hc=>
     obtain ⟨h,ch⟩:=hc
     repeat' (first|((with_reducible apply oq_id);first|((with_reducible apply oq_lssF);exact rfl;exact rfl;omega))|((with_reducible apply tl_id);first|(with_reducible apply tl_nil)|((with_reducible apply u_q);(iterate 4 exact rfl)))|((with_reducible apply t_id);first|(with_reducible apply t_seq)|(apply t_region;kernel_rfl)|((with_reducible apply t_condF);exact rfl)|(with_reducible apply t_exit))|with_reducible apply q_thenN|with_reducible apply q_thenE|((with_reducible apply q_blockE);exact rfl))
     all_goals exact ⟨by trivial,(h,ch),trivial,by (repeat' (first|exact FrSub.nil|(apply FrSub.cons;exact rfl))),by (repeat' (first|exact HpSub.refl _))⟩
 obtain ⟨p,hp⟩:∃ x,l[i]?=some x:=⟨_,List.getElem?_eq_getElem (by omega)⟩
 have hpb:=hb p (List.mem_of_getElem? hp)
 obtain ⟨q0,q1⟩:=co_at (fx:=Pv.x) (fy:=Pv.y) hp
 refine t_cut (ι:=Unit) (fun _=>[(0,.pointer (some ⟨ob,0,none⟩)),(1,.pointer (some ⟨sb,0,none⟩)),(2,.int .i64 ((S0.length:Nat):Int)),(7,.slice (some ⟨g,0,none⟩) n cp),(8,.int .i64 ((n:Nat):Int)),(9,.int .i64 ((i:Nat):Int)),(10,.bool true)]) (fun _=>((ob,[stV (S0++(chn (l.take i)).reverse) x],some (101,1,1))::(sb,[.slice (some ⟨g,0,none⟩) n cp],some (101,1,1))::(g,coB Pv.x Pv.y l,some (111,2,cp))::stH (S0++(chn (l.take i)).reverse) x)) (fun _=>True) ?_ ?_
 · repeat' (first|((with_reducible apply oq_id);first|((with_reducible apply oq_lssT);exact rfl;exact rfl;omega))|((with_reducible apply tl_id);first|(with_reducible apply tl_nil)|((with_reducible apply u_q);(iterate 4 exact rfl)))|((with_reducible apply t_id);first|(apply t_region;kernel_rfl)))
   all_goals exact ⟨by trivial,(),trivial,by (repeat' (first|exact FrSub.nil|(apply FrSub.cons;exact rfl))),by (repeat' (first|exact HpSub.refl _))⟩
 rintro ⟨⟩ -
 try dsimp only
 (with_reducible apply t_seq)
 (with_reducible apply t_condT);exact rfl
 (with_reducible apply t_skip)
 (with_reducible apply q_thenN)
 (with_reducible apply t_seq)
 (with_reducible apply t_block)
 refine t_cut (ι:=Nat) (fun pb=>[(0,.pointer (some ⟨ob,0,none⟩)),(1,.pointer (some ⟨sb,0,none⟩)),(2,.int .i64 ((S0.length:Nat):Int)),(7,.slice (some ⟨g,0,none⟩) n cp),(8,.int .i64 ((n:Nat):Int)),(9,.int .i64 ((i:Nat):Int)),(4,.pointer (some ⟨pb,0,none⟩))]) (fun pb=>(pb,[.int .i64 p.x,.int .i64 p.y],some (111,2,1))::((ob,[stV (S0++(chn (l.take i)).reverse) x],some (101,1,1))::(sb,[.slice (some ⟨g,0,none⟩) n cp],some (101,1,1))::(g,coB Pv.x Pv.y l,some (111,2,cp))::stH (S0++(chn (l.take i)).reverse) x)) (fun _=>True) ?_ ?_
 · repeat' (first|((with_reducible apply oq_id);first|(focus ((with_reducible apply oq_indexAddrN);(iterate 4 exact rfl);omega))|((with_reducible apply oq_loadAgg);exact rfl;exact rfl))|((with_reducible apply tl_id);first|(with_reducible apply tl_nil)|((with_reducible apply u_q);(iterate 4 exact rfl))|((with_reducible apply u_s0);exact rfl;exact rfl)|((with_reducible apply u_s);(iterate 3 exact rfl)))|((with_reducible apply os_id);first|((with_reducible apply os_x);exact rfl)|((with_reducible apply os_storeAgg);(iterate 5 exact rfl)))|((with_reducible apply ox_id);first|((with_reducible apply ox_alloc);exact rfl;intro _))|((with_reducible apply rd_id);first|(apply Rd.own;(repeat first|exact P0|apply P1);with_reducible (first|exact q0|exact q1|exact r0|exact r1|exact s0|exact s1);done))|((with_reducible apply t_id);first|(apply t_region;kernel_rfl))|exact P0|exact Rdn.zero|apply Rdn.succ|((with_reducible apply Norm.nil);exact rfl)|((with_reducible apply Norm.cons);exact rfl)|exact Nat.le_of_ble_eq_true rfl)
   all_goals exact ⟨by trivial,_,trivial,by (repeat' (first|exact FrSub.nil|(apply FrSub.cons;exact rfl))),by (repeat' (first|exact HpSub.refl _))⟩
 rintro pb -
 try dsimp only
 clear q0 q1
 have hsb:∀ b∈chn (l.take i),Bd 536870912 b:=fun b hb2=>hb b (List.mem_of_mem_take (chn_sub _ b hb2))
 have hsl:(chn (l.take i)).length≤n:=by have:=chn_len (l.take i);rw [List.length_take] at this;omega
 have hs0:i=0→chn (l.take i)=[]:=fun e=>by subst e;rfl
 obtain ⟨s,hs⟩:∃ s,chn (l.take i)=s:=⟨_,rfl⟩
 rw [hs] at hsb hsl hs0 ⊢
 refine t_cut (ι:=List Pv) (fun _=>[(0,.pointer (some ⟨ob,0,none⟩)),(1,.pointer (some ⟨sb,0,none⟩)),(2,.int .i64 ((S0.length:Nat):Int)),(7,.slice (some ⟨g,0,none⟩) n cp),(8,.int .i64 ((n:Nat):Int)),(9,.int .i64 ((i:Nat):Int)),(4,.pointer (some ⟨pb,0,none⟩))]) (fun t=>(pb,[.int .i64 p.x,.int .i64 p.y],some (111,2,1))::((ob,[stV (S0++t.reverse) x],some (101,1,1))::(sb,[.slice (some ⟨g,0,none⟩) n cp],some (101,1,1))::(g,coB Pv.x Pv.y l,some (111,2,cp))::stH (S0++t.reverse) x)) (fun t=>t=pop p s∧t.length≤n) ?_ ?_
 · (with_reducible apply t_block)
   cases x with
   | none=>
     obtain ⟨rfl,rfl⟩:=hx rfl
     have:=hs0 rfl
     subst this
     apply t_loopP (ι:=Unit) [0,1,2,4,7,8,9] (fun _=>[]) (fun _=>(pb,[.int .i64 p.x,.int .i64 p.y],some (111,2,1))::((ob,[stV ([]++([]:List Pv).reverse) none],some (101,1,1))::(sb,[.slice (some ⟨g,0,none⟩) n cp],some (101,1,1))::(g,coB Pv.x Pv.y l,some (111,2,cp))::stH ([]++([]:List Pv).reverse) none)) (fun _=>True) (fun _=>0) (())
     (repeat (first|exact KeepF.nil|(apply KeepF.cons;exact rfl)|apply KeepF.skip))
     (repeat first|exact FrSub.nil|(apply FrSub.cons;exact rfl))
     (try simp only [List.cons_append,List.nil_append])
     (repeat' (first|exact HpSub.refl _))
     · trivial
     rintro ⟨⟩ -
     try dsimp only
     repeat' (first|((with_reducible apply oq_id);first|(apply oq_fn;exact rfl;first|exact trivial|(and_intros<;>omega)|omega|skip)|((with_reducible apply oq_load);exact rfl;exact rfl))|((with_reducible apply gx_id);first|(with_reducible apply v_nil)|((with_reducible apply v_q);(iterate 3 exact rfl))|((with_reducible apply v_skip);(iterate 3 exact rfl)))|((with_reducible apply rd_id);first|(apply Rd.own;(repeat first|exact P0|apply P1);exact rfl;done))|((with_reducible apply t_id);first|(apply t_mix (id:=4) [0,1,2,3,4,5,6,7,8,9,10,11,12,13,14,15,16,17,18,19,20,21,22,23,24,25,26,27,28,29] 0 #[false,false,false,false,false,false,false,false,false,false,false,false,false,false,false,false,false,false,false,false,false,false,false,false,false,false,false,false,false,false];kernel_rfl;kernel_rfl;exact rfl)|(with_reducible apply t_seq)|((with_reducible apply t_condF);exact rfl)|(with_reducible apply t_exit))|with_reducible apply q_thenN|with_reducible apply q_thenE|((with_reducible apply q_blockE);exact rfl)|((with_reducible apply al_id);first|(apply al_done;decide +kernel)))
     all_goals exact ⟨by trivial,[],⟨rfl,Nat.zero_le _⟩,by (repeat' (first|exact FrSub.nil|(apply FrSub.cons;exact rfl))),by (repeat' (first|exact HpSub.refl _))⟩
   | some hc=>
     obtain ⟨h,ch⟩:=hc
     apply t_loopW (ι:=List Pv) [0,1,2,4,7,8,9] (fun _=>[]) (fun t=>(pb,[.int .i64 p.x,.int .i64 p.y],some (111,2,1))::[(ob,[.slice (some ⟨h,0,none⟩) (S0++t.reverse).length ch],some (101,1,1)),(sb,[.slice (some ⟨g,0,none⟩) n cp],some (101,1,1)),(g,coB Pv.x Pv.y l,some (111,2,cp)),(h,coB Pv.x Pv.y (S0++t.reverse),some (111,2,ch))]) (fun t=>pop p t=pop p s∧(∀ b∈t,Bd 536870912 b)∧t.length≤n) (fun t=>t.length) (s)
     (repeat (first|exact KeepF.nil|(apply KeepF.cons;exact rfl)|apply KeepF.skip))
     (repeat first|exact FrSub.nil|(apply FrSub.cons;exact rfl))
     (try simp only [List.cons_append,List.nil_append])
     (repeat' (first|exact HpSub.refl _))
     · exact ⟨rfl,hsb,hsl⟩
     rintro t ⟨ht,htb,htl⟩
     try dsimp only
     match t with
     | []=>
       have hlen:(S0++([]:List Pv).reverse).length=S0.length:=by simp
       repeat' (first|((with_reducible apply oq_id);first|(focus ((with_reducible apply (oq_addE (k:=((S0.length+1:Nat):Int))));exact rfl;exact rfl;omega))|((with_reducible apply oq_gtrF);exact rfl;exact rfl;omega)|(apply oq_fn;exact rfl;first|exact trivial|(and_intros<;>omega)|omega|skip)|((with_reducible apply oq_load);exact rfl;exact rfl))|((with_reducible apply gx_id);first|(with_reducible apply v_nil)|((with_reducible apply v_q);(iterate 3 exact rfl))|((with_reducible apply v_skip);(iterate 3 exact rfl)))|((with_reducible apply rd_id);first|(apply Rd.own;(repeat first|exact P0|apply P1);exact rfl;done))|((with_reducible apply t_id);first|(apply t_mix (id:=4) [0,1,2,3,4,5,6,7,8,9,10,11,12,13,14,15,16,17,18,19,20,21,22,23,24,25,26,27,28,29] 0 #[false,false,false,false,false,false,false,false,false,false,false,false,false,false,false,false,false,false,false,false,false,false,false,false,false,false,false,false,false,false];kernel_rfl;kernel_rfl;exact rfl)|(with_reducible apply t_seq)|((with_reducible apply t_condF);exact rfl)|(with_reducible apply t_exit))|with_reducible apply q_thenN|with_reducible apply q_thenE|((with_reducible apply q_blockE);exact rfl)|((with_reducible apply al_id);first|(apply al_done;decide +kernel)))
       all_goals exact ⟨by trivial,[],⟨ht,Nat.zero_le _⟩,by (repeat' (first|exact FrSub.nil|(apply FrSub.cons;exact rfl))),by (repeat' (first|exact HpSub.refl _))⟩
     | [b]=>
       have hlen:(S0++[b].reverse).length=S0.length+1:=by simp
       repeat' (first|((with_reducible apply oq_id);first|(focus ((with_reducible apply (oq_addE (k:=((S0.length+1:Nat):Int))));exact rfl;exact rfl;omega))|((with_reducible apply oq_gtrF);exact rfl;exact rfl;omega)|(apply oq_fn;exact rfl;first|exact trivial|(and_intros<;>omega)|omega|skip)|((with_reducible apply oq_load);exact rfl;exact rfl))|((with_reducible apply gx_id);first|(with_reducible apply v_nil)|((with_reducible apply v_q);(iterate 3 exact rfl))|((with_reducible apply v_skip);(iterate 3 exact rfl)))|((with_reducible apply rd_id);first|(apply Rd.own;(repeat first|exact P0|apply P1);exact rfl;done))|((with_reducible apply t_id);first|(apply t_mix (id:=4) [0,1,2,3,4,5,6,7,8,9,10,11,12,13,14,15,16,17,18,19,20,21,22,23,24,25,26,27,28,29] 0 #[false,false,false,false,false,false,false,false,false,false,false,false,false,false,false,false,false,false,false,false,false,false,false,false,false,false,false,false,false,false];kernel_rfl;kernel_rfl;exact rfl)|(with_reducible apply t_seq)|((with_reducible apply t_condF);exact rfl)|(with_reducible apply t_exit))|with_reducible apply q_thenN|with_reducible apply q_thenE|((with_reducible apply q_blockE);exact rfl)|((with_reducible apply al_id);first|(apply al_done;decide +kernel)))
       all_goals exact ⟨by trivial,[b],⟨ht,htl⟩,by (repeat' (first|exact FrSub.nil|(apply FrSub.cons;exact rfl))),by (repeat' (first|exact HpSub.refl _))⟩
     | b::a::t=>
       obtain ⟨q,hq⟩:∃ q,S0.length+t.length=q:=⟨_,rfl⟩
       simp only [List.length_cons] at htl
       have hlen:(S0++(b::a::t).reverse).length=q+2:=by simp;omega
       have hA:(S0++(b::a::t).reverse)[q]?=some a:=by
         rw [List.getElem?_append_right (by omega),List.reverse_cons,List.reverse_cons,List.append_assoc,List.getElem?_append_right (by simp;omega)]
         simp [show q-S0.length-t.length=0 by omega]
       have hB:(S0++(b::a::t).reverse)[q+1]?=some b:=by
         rw [List.getElem?_append_right (by omega),List.reverse_cons,List.reverse_cons,List.append_assoc,List.getElem?_append_right (by simp;omega)]
         simp [show q+1-S0.length-t.length=1 by omega]
       have hab:=htb a (by simp)
       have hbb:=htb b (by simp)
       obtain ⟨q0,q1⟩:=co_at (fx:=Pv.x) (fy:=Pv.y) hA
       obtain ⟨r0,r1⟩:=co_at (fx:=Pv.x) (fy:=Pv.y) hB
       by_cases HT:Pv.turn (Pv.sub b a) (Pv.sub p b)≤0
       · refine t_fact (P:=q+2≤ch) (fun M w hw=>by
           have:=(hw.blkP (b:=h) (C:=coB Pv.x Pv.y (S0++(b::a::t).reverse)) (by (repeat first|exact P0|apply P1))).cap (by decide)
           omega) fun hcap=>?_
         have eY:coB Pv.x Pv.y (S0++(b::a::t).reverse)=coB Pv.x Pv.y (S0++(a::t).reverse)++coB Pv.x Pv.y [b]:=by
           rw [List.reverse_cons,← List.append_assoc]
           simp only [coB,List.map_append,List.flatten_append]
         have hl2:(S0++(a::t).reverse).length=q+1:=by simp;omega
         have hpop:pop p (b::a::t)=pop p (a::t):=by
           (conv=>lhs;unfold pop)
           rw [if_pos (by rw [tri_turn];exact HT)]
         repeat' (first|((with_reducible apply oq_id);first|((with_reducible apply oq_leqT);exact rfl;exact rfl;exact HT)|(focus ((with_reducible apply oq_indexAddrN);(iterate 4 exact rfl);omega))|(focus ((with_reducible apply (oq_addE (k:=((S0.length+1:Nat):Int))));exact rfl;exact rfl;omega))|(focus ((with_reducible apply (oq_subE (k:=((q:Nat):Int))));exact rfl;exact rfl;omega))|(focus ((with_reducible apply (oq_subE (k:=((q+1:Nat):Int))));exact rfl;exact rfl;omega))|((with_reducible apply (oq_sliceHG (L:=some ⟨h,0,none⟩)));exact (fun h=>nomatch h);(iterate 4 exact rfl);omega)|((with_reducible apply oq_gtrT);exact rfl;exact rfl;omega)|(apply oq_fn;exact rfl;first|exact trivial|(and_intros<;>omega)|omega|skip)|((with_reducible apply oq_load);exact rfl;exact rfl)|((with_reducible apply oq_loadAgg);exact rfl;exact rfl)|((with_reducible apply oq_call (hc:=Try.call144));exact rfl;exact rfl;exact fun D w1 hw1=>step_calls a b hab hbb w1)|((with_reducible apply oq_call (hc:=Try.call144));exact rfl;exact rfl;exact fun D w1 hw1=>step_calls b p hbb hpb w1)|((with_reducible apply oq_call (hc:=Try.call145));exact rfl;exact rfl;exact fun D w1 hw1=>turn_calls _ _ (sub_bd hab hbb) (sub_bd hbb hpb) w1))|((with_reducible apply tl_id);first|(with_reducible apply tl_nil)|((with_reducible apply u_q);(iterate 4 exact rfl))|((with_reducible apply u_s0);exact rfl;exact rfl))|((with_reducible apply gx_id);first|(with_reducible apply v_nil)|((with_reducible apply v_q);(iterate 3 exact rfl)))|((with_reducible apply os_id);first|((with_reducible apply os_store);(iterate 4 exact rfl)))|((with_reducible apply rd_id);first|(apply Rd.own;(repeat first|exact P0|apply P1);with_reducible (first|exact q0|exact q1|exact r0|exact r1|exact s0|exact s1);done)|(apply Rd.own;(repeat first|exact P0|apply P1);exact rfl;done))|((with_reducible apply t_id);first|(apply t_mix (id:=4) [0,1,2,3,4,5,6,7,8,9,10,11,12,13,14,15,16,17,18,19,20,21,22,23,24,25,26,27,28,29] 0 #[false,false,false,false,false,false,false,false,false,false,false,false,false,false,false,false,false,false,false,false,false,false,false,false,false,false,false,false,false,false];kernel_rfl;kernel_rfl;exact rfl)|(with_reducible apply t_seq)|(apply t_region;kernel_rfl)|((with_reducible apply t_condT);exact rfl)|(with_reducible apply t_skip)|(with_reducible apply t_block))|with_reducible apply q_thenN|with_reducible apply q_blockN|exact P0|(with_reducible apply P1)|exact Rdn.zero|apply Rdn.succ|((with_reducible apply Norm.nil);exact rfl)|((with_reducible apply Norm.cons);exact rfl)|((with_reducible apply al_id);first|(apply al_done;decide +kernel))|exact Nat.le_of_ble_eq_true rfl)
         all_goals (refine ⟨a::t,⟨by rw [← ht,hpop],fun u hu=>htb u (List.mem_cons_of_mem _ hu),by simp only [List.length_cons];omega⟩,by simp,?_,?_⟩)
         · (repeat' (first|exact FrSub.nil|(apply FrSub.cons;exact rfl)))
         · exact HpW.trans (HpSub.w (G:=(h,coB Pv.x Pv.y (S0++(a::t).reverse)++coB Pv.x Pv.y [b],some (111,2,ch))::[(pb,[.int .i64 p.x,.int .i64 p.y],some (111,2,1)),(ob,[.slice (some ⟨h,0,none⟩) (q+1) ch],some (101,1,1)),(sb,[.slice (some ⟨g,0,none⟩) n cp],some (101,1,1)),(g,coB Pv.x Pv.y l,some (111,2,cp))]) (by rw [eY];(repeat' (first|exact HpSub.refl _|(apply HpSub.consE;(repeat first|exact P0|apply P1);first|exact rfl|(simp;done)))))) (HpW.trans HpW.pre (HpSub.w (by (try dsimp only);rw [hl2];(repeat' (first|exact HpSub.refl _|(apply HpSub.consE;(repeat first|exact P0|apply P1);first|exact rfl|(simp;done)))))))
       · repeat' (first|((with_reducible apply oq_id);first|((with_reducible apply oq_leqF);exact rfl;exact rfl;exact HT)|(focus ((with_reducible apply oq_indexAddrN);(iterate 4 exact rfl);omega))|(focus ((with_reducible apply (oq_addE (k:=((S0.length+1:Nat):Int))));exact rfl;exact rfl;omega))|(focus ((with_reducible apply (oq_subE (k:=((q:Nat):Int))));exact rfl;exact rfl;omega))|(focus ((with_reducible apply (oq_subE (k:=((q+1:Nat):Int))));exact rfl;exact rfl;omega))|((with_reducible apply oq_gtrT);exact rfl;exact rfl;omega)|(apply oq_fn;exact rfl;first|exact trivial|(and_intros<;>omega)|omega|skip)|((with_reducible apply oq_load);exact rfl;exact rfl)|((with_reducible apply oq_loadAgg);exact rfl;exact rfl)|((with_reducible apply oq_call (hc:=Try.call144));exact rfl;exact rfl;exact fun D w1 hw1=>step_calls a b hab hbb w1)|((with_reducible apply oq_call (hc:=Try.call144));exact rfl;exact rfl;exact fun D w1 hw1=>step_calls b p hbb hpb w1)|((with_reducible apply oq_call (hc:=Try.call145));exact rfl;exact rfl;exact fun D w1 hw1=>turn_calls _ _ (sub_bd hab hbb) (sub_bd hbb hpb) w1))|((with_reducible apply gx_id);first|(with_reducible apply v_nil)|((with_reducible apply v_q);(iterate 3 exact rfl)))|((with_reducible apply rd_id);first|(apply Rd.own;(repeat first|exact P0|apply P1);with_reducible (first|exact q0|exact q1|exact r0|exact r1|exact s0|exact s1);done)|(apply Rd.own;(repeat first|exact P0|apply P1);exact rfl;done))|((with_reducible apply t_id);first|(apply t_mix (id:=4) [0,1,2,3,4,5,6,7,8,9,10,11,12,13,14,15,16,17,18,19,20,21,22,23,24,25,26,27,28,29] 0 #[false,false,false,false,false,false,false,false,false,false,false,false,false,false,false,false,false,false,false,false,false,false,false,false,false,false,false,false,false,false];kernel_rfl;kernel_rfl;exact rfl)|(with_reducible apply t_seq)|((with_reducible apply t_condF);exact rfl)|(with_reducible apply t_exit))|with_reducible apply q_thenN|with_reducible apply q_thenE|((with_reducible apply q_blockE);exact rfl)|exact Rdn.zero|apply Rdn.succ|((with_reducible apply al_id);first|(apply al_done;decide +kernel)))
         all_goals exact ⟨by trivial,b::a::t,⟨(by rw [← ht];unfold pop;rw [if_neg (by rw [tri_turn];exact HT)]),htl⟩,by (repeat' (first|exact FrSub.nil|(apply FrSub.cons;exact rfl))),by (repeat' (first|exact HpSub.refl _))⟩
 clear hsb hsl hs0
 rintro t ⟨ht,htl⟩
 try dsimp only
 have eS:(S0++(chn (l.take (i+1))).reverse)=(S0++t.reverse)++[p]:=by
   rw [List.take_add_one,hp]
   simp only [Option.toList]
   rw [chn_snoc,hs,← ht,List.reverse_cons,List.append_assoc]
 have hYl:(S0++t.reverse).length≤200000:=by simp;omega
 obtain ⟨Y,hY⟩:∃ Y,S0++t.reverse=Y:=⟨_,rfl⟩
 rw [hY] at eS hYl ⊢
 have hLen:(Y++[p]).length=Y.length+1:=by simp
 have eC:coB Pv.x Pv.y (Y++[p])=coB Pv.x Pv.y Y++[.int .i64 p.x,.int .i64 p.y]:=by simp [coB,coC]
 cases x with
 | none=>
   obtain ⟨rfl,rfl⟩:=hx rfl
   have ht0:t=[]:=by rw [ht,← hs];rfl
   subst ht0
   have hY0:Y=[]:=hY.symm
   subst hY0
   refine t_subW (G:=[(pb,[.int .i64 p.x,.int .i64 p.y],some (111,2,1)),(ob,[.slice none 0 0],some (101,1,1)),(sb,[.slice (some ⟨g,0,none⟩) n cp],some (101,1,1)),(g,coB Pv.x Pv.y l,some (111,2,cp))]) (HpW.refl _) ?_
   repeat' (first|((with_reducible apply oq_id);first|(focus ((with_reducible apply (oq_addE (k:=((0+1:Nat):Int))));exact rfl;exact rfl;omega))|(apply oq_fn;exact rfl;first|exact trivial|(and_intros<;>omega)|omega|skip)|((with_reducible apply oq_load);exact rfl;exact rfl)|((with_reducible apply oq_loadAgg);exact rfl;exact rfl))|((with_reducible apply tl_id);first|(with_reducible apply tl_nil)|((with_reducible apply u_q);(iterate 4 exact rfl))|((with_reducible apply u_s0);exact rfl;exact rfl)|((with_reducible apply u_s);(iterate 3 exact rfl)))|((with_reducible apply os_id);first|((with_reducible apply os_x);exact rfl)|((with_reducible apply os_store);(iterate 4 exact rfl))|((with_reducible apply os_appendNil (hk:=app_ok101));exact rfl;exact rfl))|((with_reducible apply ox_id);first|((with_reducible apply ox_buildSlice2);(iterate 6 exact rfl);intro _))|((with_reducible apply rd_id);first|(apply Rd.own;(repeat first|exact P0|apply P1);exact rfl;done))|((with_reducible apply t_id);first|(apply t_region;kernel_rfl))|with_reducible apply q_thenN|with_reducible apply q_blockN|exact P0|(with_reducible apply P1)|exact Rdn.zero|apply Rdn.succ|((with_reducible apply Norm.nil);exact rfl)|((with_reducible apply Norm.cons);exact rfl)|(intro b cap')|exact Nat.le_of_ble_eq_true rfl|exact (rfl:(_:Bool)=true))
   all_goals (
     refine ⟨(0+1,some (b,cap')),⟨(by simp only;omega),fun h=>nomatch h⟩,(by simp only;omega),?_,?_⟩
     · (repeat' (first|exact FrSub.nil|(apply FrSub.cons;exact rfl)))
     · show HpSub _ [(ob,[.slice (some ⟨b,0,none⟩) ((([]:List Pv)++(chn (l.take (0+1))).reverse)).length cap'],some (101,1,1)),(sb,[.slice (some ⟨g,0,none⟩) n cp],some (101,1,1)),(g,coB Pv.x Pv.y l,some (111,2,cp)),(b,coB Pv.x Pv.y ((([]:List Pv)++(chn (l.take (0+1))).reverse)),some (111,2,cap'))]
       rw [eS,hLen,eC]
       (repeat' (first|exact HpSub.refl _|(apply HpSub.consE;(repeat first|exact P0|apply P1);first|exact rfl|(simp;done))|apply HpSub.skipX)))
 | some hc=>
   obtain ⟨h,ch⟩:=hc
   refine t_subW (G:=(pb,[.int .i64 p.x,.int .i64 p.y],some (111,2,1))::[(ob,[.slice (some ⟨h,0,none⟩) (Y).length ch],some (101,1,1)),(sb,[.slice (some ⟨g,0,none⟩) n cp],some (101,1,1)),(g,coB Pv.x Pv.y l,some (111,2,cp)),(h,coB Pv.x Pv.y (Y),some (111,2,ch))]) (HpW.refl _) ?_
   repeat' (first|((with_reducible apply oq_id);first|(focus ((with_reducible apply (oq_addE (k:=((i+1:Nat):Int))));exact rfl;exact rfl;omega))|(apply oq_fn;exact rfl;first|exact trivial|(and_intros<;>omega)|omega|skip)|((with_reducible apply oq_load);exact rfl;exact rfl)|((with_reducible apply oq_loadAgg);exact rfl;exact rfl))|((with_reducible apply tl_id);first|(with_reducible apply tl_nil)|((with_reducible apply u_q);(iterate 4 exact rfl))|((with_reducible apply u_s0);exact rfl;exact rfl)|((with_reducible apply u_s);(iterate 3 exact rfl)))|((with_reducible apply os_id);first|((with_reducible apply os_x);exact rfl)|((with_reducible apply os_store);(iterate 4 exact rfl))|((with_reducible apply os_append (hk:=app_ok101));exact rfl;exact rfl;(repeat first|exact P0|apply P1)))|((with_reducible apply ox_id);first|((with_reducible apply ox_buildSlice2);(iterate 6 exact rfl);intro _))|((with_reducible apply rd_id);first|(apply Rd.own;(repeat first|exact P0|apply P1);exact rfl;done))|((with_reducible apply t_id);first|(apply t_region;kernel_rfl))|with_reducible apply q_thenN|with_reducible apply q_blockN|exact P0|(with_reducible apply P1)|exact Rdn.zero|apply Rdn.succ|((with_reducible apply Norm.nil);exact rfl)|((with_reducible apply Norm.cons);exact rfl)|exact co_flat_len _|(intro b cap')|exact Nat.le_of_ble_eq_true rfl|exact (rfl:(_:Bool)=true)|omega)
   all_goals (
     refine ⟨(i+1,some (b,cap')),⟨(by simp only;omega),fun h=>nomatch h⟩,(by simp only;omega),?_,?_⟩
     · (repeat' (first|exact FrSub.nil|(apply FrSub.cons;exact rfl)))
     · show HpSub _ [(ob,[.slice (some ⟨b,0,none⟩) ((S0++(chn (l.take (i+1))).reverse)).length cap'],some (101,1,1)),(sb,[.slice (some ⟨g,0,none⟩) n cp],some (101,1,1)),(g,coB Pv.x Pv.y l,some (111,2,cp)),(b,coB Pv.x Pv.y ((S0++(chn (l.take (i+1))).reverse)),some (111,2,cap'))]
       rw [eS,hLen,eC]
       (repeat' (first|exact HpSub.refl _|(apply HpSub.consE;(repeat first|exact P0|apply P1);first|exact rfl|(simp;done))|apply HpSub.skipX)))
end Go.Proofs.Ytcjkndjjbjoehaa
namespace Go.Proofs.Ytcjkndjjbjoehaa
theorem ltP_tri {a b:Pv} (h:ltP a b=false) (h2:ltP b a=false):a=b:=by
 have h3:¬ ltP a b=true:=by rw [h];simp
 have h4:¬ ltP b a=true:=by rw [h2];simp
 rw [ltP_iff] at h3 h4
 cases a;cases b
 simp only at h3 h4
 simp only [Pv.mk.injEq]
 omega
theorem srt_at {W:List Pv} (h:Srt ltP W) {i j:Nat} {x y:Pv} (hij:i<j) (hx:W[i]?=some x) (hy:W[j]?=some y):ltP y x=false:=by
 obtain ⟨h1,rfl⟩:=List.getElem?_eq_some_iff.1 hx
 obtain ⟨h2,rfl⟩:=List.getElem?_eq_some_iff.1 hy
 exact List.pairwise_iff_getElem.1 h i j h1 h2 hij
theorem dd_ok {W:List Pv} (h:Srt ltP W):∀ k,k≤W.length→(dd W k).Pairwise (fun a b=>ltP a b=true)∧∀ v,v∈dd W k↔v∈W.take k
 | 0,_=>⟨List.Pairwise.nil,fun v=>by rw [List.take_zero];exact Iff.rfl⟩
 | k+1,hk=>by
   obtain ⟨ih1,ih2⟩:=dd_ok h k (by omega)
   obtain ⟨x,hx⟩:∃ x,W[k]?=some x:=⟨_,List.getElem?_eq_getElem (by omega)⟩
   have et:W.take (k+1)=W.take k++[x]:=by rw [List.take_add_one,hx];rfl
   have mem_take:∀ {v:Pv},v∈W.take k→∃ j,j<k∧W[j]?=some v:=fun {v} hv=>by
     obtain ⟨j,hj⟩:=List.getElem?_of_mem hv
     have hlt:=(List.getElem?_eq_some_iff.1 hj).1
     rw [List.length_take] at hlt
     rw [List.getElem?_take_of_lt (by omega)] at hj
     exact ⟨j,by omega,hj⟩
   by_cases hs:0<k∧W[k-1]?=some x
   · rw [dd_same hx hs.1 hs.2,et]
     refine ⟨ih1,fun v=>?_⟩
     rw [ih2,List.mem_append,List.mem_singleton]
     refine ⟨.inl,fun hv=>hv.elim id fun e=>?_⟩
     subst e
     have:(W.take k)[k-1]?=some v:=by rw [List.getElem?_take_of_lt (by omega)];exact hs.2
     exact List.mem_of_getElem? this
   · have hn:k=0∨W[k-1]?≠some x:=by
       rcases Nat.eq_zero_or_pos k with e|e
       · exact .inl e
       · exact .inr fun h2=>hs ⟨e,h2⟩
     rw [dd_new hx hn,et]
     refine ⟨List.pairwise_append.2 ⟨ih1,List.pairwise_singleton _ _,fun v hv y hy=>?_⟩,fun v=>by rw [List.mem_append,List.mem_append,ih2]⟩
     obtain rfl:=List.mem_singleton.1 hy
     obtain ⟨j,hj,hv2⟩:=mem_take ((ih2 v).1 hv)
     cases hvy:ltP v y with
     | true=>rfl
     | false=>
       have e:=ltP_tri hvy (srt_at h hj hv2 hx)
       subst e
       exfalso
       rcases hn with hn|hn
       · omega
       · obtain ⟨u,hu⟩:∃ u,W[k-1]?=some u:=⟨_,List.getElem?_eq_getElem (by omega)⟩
         apply hn
         rw [hu]
         rcases Nat.lt_or_ge j (k-1) with q|q
         · rw [ltP_tri (srt_at h q hv2 hu) (srt_at h (by omega) hu hx)]
         · obtain rfl:j=k-1:=by omega
           rw [hv2] at hu
           exact hu.symm
theorem hulI_two {D:List Pv} (h:D.length<3):hulI D=D:=by
 match D,h with
 | [],_=>rfl
 | [a],_=>rfl
 | [a,b],_=>rfl
 | _::_::_::_,h=>simp only [List.length_cons] at h;omega
end Go.Proofs.Ytcjkndjjbjoehaa
