/- A part of the proof: rules for walks, and contracts of functions (2). -/
import Derived.Test.YtcjkndjjbjoehaaXTmA
import Derived.LoopIn
import Derived.RangeFuncLeaves
import Derived.RangeFuncRecord
import Derived.RangeFuncNested
import Derived.RangeFuncCalls
import Derived.Test.YtcjkndjjbjoehaaChecked
import Derived.Laws.StructEq
set_option linter.unusedVariables false
set_option linter.unusedSimpArgs false
set_option maxRecDepth 100000
set_option maxHeartbeats 2000000
namespace Go.Proofs.Ytcjkndjjbjoehaa
open Go.RowKit
def chain (P:Program) (ops:Array Oper) (R:Act→World→Prop):List Nat→Act→World→Prop
 | [],a,w=>R a w
 | i::rest,a,w=>match ops[i]? with
   | none=>chain P ops R rest a w
   | some o=>if Region.wanted o (yielded ops a.tmps) then o.wp P a w (chain P ops R rest) QF else chain P ops R rest (a.put o.dst undef) w
theorem wpOps_of_chain {P:Program} {ops:Array Oper} {R:Act→World→Prop} {Q:Exit→Act→World→Prop} (hQ:∀ a w,R a w→Q .normal a w) :
   ∀ (l:List Nat) (a:Act) (w:World),chain P ops R l a w→wpOps P ops Q l a w
 | [],a,w,h=>hQ a w h
 | i::rest,a,w,h=>by
   unfold chain at h
   unfold wpOps
   cases ho:ops[i]? with
   | none=>simp only [ho] at h ⊢;exact wpOps_of_chain hQ rest a w h
   | some o=>
     simp only [ho] at h ⊢
     split
     · rename_i hw
       simp only [hw,if_true] at h
       exact .inl (wp_of_QF (Oper.wp_mono' (wpOps_of_chain hQ rest) h))
     · rename_i hw
       simp only [hw] at h
       exact wpOps_of_chain hQ rest _ w h
where
 Oper.wp_mono' {o:Oper} {a:Act} {w:World} {K K':Act→World→Prop} (hk:∀ a w,K a w→K' a w) (h:o.wp P a w K QF):o.wp P a w K' QF:=by
   unfold Oper.wp at *
   generalize (execOp a.eval o).run P w=r at *
   cases r with
   | ok n w'=>
     cases n<;>simp only [Oper.upon] at h ⊢<;>first
       | exact hk _ _ h
       | exact h.mono fun e w2 he=>by cases e<;>first|exact hk _ _ he|exact he
       | exact h.mono fun u w2 he=>hk _ _ he
   | halt x w'=>cases x<;>simp only [Oper.upon] at h ⊢<;>exact h
theorem chain_mono {P:Program} {ops:Array Oper} {R R':Act→World→Prop} (hR:∀ a w,R a w→R' a w):∀ (l:List Nat) (a:Act) (w:World),chain P ops R l a w→chain P ops R' l a w
 | [],a,w,h=>hR a w h
 | i::rest,a,w,h=>by
   unfold chain at h ⊢
   cases ho:ops[i]? with
   | none=>simp only [ho] at h ⊢;exact chain_mono hR rest a w h
   | some o=>
     simp only [ho] at h ⊢
     split
     · rename_i hw
       simp only [hw,if_true] at h
       exact wpOps_of_chain.Oper.wp_mono' (chain_mono hR rest) h
     · rename_i hw
       simp only [hw] at h
       exact chain_mono hR rest _ w h
theorem wpOpsIn_of_chain {l m:Nat} {P:Program} {ops:Array Oper} {R:Act→World→Prop} {Q:Exit→Act→World→Prop} (hd:noDefer ops=true) (hQ:∀ a w,R a w→Q .normal a w) :
   ∀ (r:List Nat) (a:Act) (w:World),chain P ops R r a w→wpOpsIn (Fence.wide.inRound l) m P ops Q r a w
 | [],a,w,h=>hQ a w h
 | i::rest,a,w,h=>by
   unfold chain at h
   unfold wpOpsIn
   cases ho:ops[i]? with
   | none=>simp only [ho] at h ⊢;exact wpOpsIn_of_chain hd hQ rest a w h
   | some o=>
     simp only [ho] at h ⊢
     split
     · rename_i hw
       simp only [hw,if_true] at h
       exact wpIn_of_wp (noDefer_spec hd ho) (wpOps_of_chain.Oper.wp_mono' (wpOpsIn_of_chain hd hQ rest) h)
     · rename_i hw
       simp only [hw] at h
       exact ⟨fun _ _=>trivial,wpOpsIn_of_chain hd hQ rest _ w h⟩
structure WS (P:Program) where
 W:Code→(Exit→Act→World→Prop)→Act→World→Prop
 mono:∀ {c:Code} {Q Q':Exit→Act→World→Prop} {a:Act} {w:World},W c Q a w→(∀ e a w,Q e a w→Q' e a w)→W c Q' a w
 skip:∀ {Q:Exit→Act→World→Prop} {a:Act} {w:World},Q .normal a w→W .skip Q a w
 exit:∀ {Q:Exit→Act→World→Prop} {a:Act} {w:World} {id:Nat},Q (.exit id) a w→W (.exit id) Q a w
 ret:∀ {Q:Exit→Act→World→Prop} {a:Act} {w:World},Q .ret a w→W .ret Q a w
 seq:∀ {Q:Exit→Act→World→Prop} {a:Act} {w:World} {x y:Code},W x (Exit.then (W y Q) Q) a w→W (.seq x y) Q a w
 cond:∀ {Q:Exit→Act→World→Prop} {a:Act} {w:World} {c:Operand} {x y:Code} {t:Bool},a.eval c=.bool t→W (if t then x else y) Q a w→W (.cond c x y) Q a w
 block:∀ {Q:Exit→Act→World→Prop} {a:Act} {w:World} {id:Nat} {c:Code},W c (Exit.inBlock id Q) a w→W (.block id c) Q a w
 loop:∀ {Q:Exit→Act→World→Prop} {a:Act} {w:World} {c:Code} (I:Act→World→Prop) (μ:Act→World→Nat),I a w→(∀ a w,I a w→W c (Exit.then (fun a' w'=>I a' w'∧μ a' w'<μ a w) Q) a w)→W (.loop c) Q a w
 region:∀ {Q:Exit→Act→World→Prop} {a:Act} {w:World} {id:Nat} {ops:Array Oper},noDefer ops=true→chain P ops (Q .normal) (List.range ops.size) a w→W (.region id ops false) Q a w
 mixed:∀ {Q:Exit→Act→World→Prop} {a:Act} {w:World} {id:Nat} {ops:Array Oper} {I:World→Prop} (l:List Nat) (n:Nat) (cov:Array Bool),Up I→I w→P.follows .mixedOrders=true →
   (Region.noSelect ops && (n+l.length == ops.size) && lexOk ops cov l (Array.replicate ops.size false) && noDefer ops)=true →
   wpGI P ops I (fun a'=>∀ w',I w'→SAnyI P ops cov I (Q .normal) n (listedBy l (Array.replicate ops.size false)) a' w') l a→W (.region id ops true) Q a w
def WS.own (P:Program):WS P where
 W c Q a w:=c.wp P Q a w
 mono:=wp_mono
 skip:=wp_skip
 exit:=wp_exit
 ret:=wp_ret
 seq:=wp_seq
 cond:=wp_cond
 block:=wp_block
 loop:=wp_loop
 region hd h:=wp_region (wpOps_of_chain (fun _ _ h=>h) _ _ _ h)
 mixed l n cov hU hI hm hB h:=by
   simp only [Bool.and_eq_true] at hB
   exact wpI_mixed hU hI l n cov hm (by simp only [Bool.and_eq_true];exact hB.1) h
def WS.round (P:Program) (l m:Nat):WS P where
 W c Q a w:=c.wpIn (Fence.wide.inRound l) m P Q a w
 mono:=wpIn_mono
 skip:=wpIn_skip
 exit:=wpIn_exit
 ret:=wpIn_ret
 seq:=wpIn_seq
 cond:=wpIn_cond
 block:=wpIn_block
 loop:=wpIn_loop
 region hd h:=wpIn_region (wpOpsIn_of_chain hd (fun _ _ h=>h) _ _ _ h)
 mixed l n cov hU hI hm hB h:=wpInI_mixed hU hI l n cov hm hB h
abbrev QS:=Exit→Fr→Hp→Prop
def cv (c:Cx) (Q:QS):Exit→Act→World→Prop:=fun e a w=>∃ D F H,Q e F H∧Frm D c.N F a∧Has c.w0 ⟨c.M,D⟩ H w
def T (c:Cx) (S:WS c.P) (k:Code) (Q:QS) (F:Fr) (H:Hp):Prop:=∀ D a w,Frm D c.N F a→Has c.w0 ⟨c.M,D⟩ H w→S.W k (cv c Q) a w
def thenQ (K:Fr→Hp→Prop) (Q:QS):QS
 | .normal,F,H=>K F H
 | e,F,H=>Q e F H
def blockQ (id:Nat) (Q:QS):QS
 | .exit i,F,H=>match Nat.beq i id with|true=>Q .normal F H|false=>Q (.exit i) F H
 | e,F,H=>Q e F H
section
variable {c:Cx} {S:WS c.P} {Q:QS} {F F':Fr} {H H':Hp} {x y:Code} {K:Fr→Hp→Prop}
theorem cv_then {e:Exit} {a:Act} {w:World} (h:cv c (thenQ K Q) e a w):Exit.then (fun a w=>∃ D F H,K F H∧Frm D c.N F a∧Has c.w0 ⟨c.M,D⟩ H w) (cv c Q) e a w:=by
 obtain ⟨D,F,H,h1,h2,h3⟩:=h
 cases e<;>exact ⟨D,F,H,h1,h2,h3⟩
theorem t_seq (h:T c S x (thenQ (T c S y Q) Q) F H):T c S (.seq x y) Q F H:=fun D a w ha hw=>
 S.seq (S.mono (h D a w ha hw) fun e a w he=>by
   have:=cv_then he
   cases e<;>first
     | exact this
     | (obtain ⟨D,F,H,h1,h2,h3⟩:=this;exact h1 D a w h2 h3))
theorem t_skip (h:Q .normal F H):T c S .skip Q F H:=fun D a w ha hw=>S.skip ⟨D,F,H,h,ha,hw⟩
theorem t_exit {id:Nat} (h:Q (.exit id) F H):T c S (.exit id) Q F H:=fun D a w ha hw=>S.exit ⟨D,F,H,h,ha,hw⟩
theorem t_ret (h:Q .ret F H):T c S .ret Q F H:=fun D a w ha hw=>S.ret ⟨D,F,H,h,ha,hw⟩
theorem t_block {id:Nat} (h:T c S x (blockQ id Q) F H):T c S (.block id x) Q F H:=fun D a w ha hw=>
 S.block (S.mono (h D a w ha hw) fun e a w he=>by
   obtain ⟨D,F,H,h1,h2,h3⟩:=he
   cases e with
   | exit i=>
     simp only [blockQ] at h1
     simp only [Exit.inBlock]
     split at h1
     · rename_i hb
       rw [if_pos (Nat.eq_of_beq_eq_true hb)]
       exact ⟨D,F,H,h1,h2,h3⟩
     · rename_i hb
       rw [if_neg (fun e=>by subst e;simp at hb)]
       exact ⟨D,F,H,h1,h2,h3⟩
   | _=>exact ⟨D,F,H,h1,h2,h3⟩)
theorem t_condT {o:Operand} (ho:ev F o=some (.bool true)) (h:T c S x Q F H):T c S (.cond o x y) Q F H:=fun D a w ha hw=>S.cond (ha.ev ho) (h D a w ha hw)
theorem t_condF {o:Operand} (ho:ev F o=some (.bool false)) (h:T c S y Q F H):T c S (.cond o x y) Q F H:=fun D a w ha hw=>S.cond (ha.ev ho) (h D a w ha hw)
theorem t_cond {o:Operand} {b:Bool} (ho:ev F o=some (.bool b)) (h1:b=true→T c S x Q F H) (h2:b=false→T c S y Q F H):T c S (.cond o x y) Q F H:=by
 cases b
 · exact t_condF ho (h2 rfl)
 · exact t_condT ho (h1 rfl)
theorem t_condD {o:Operand} {p:Prop} {i:Decidable p} (ho:ev F o=some (.bool (decide p))) (h1:p→T c S x Q F H) (h2:¬ p→T c S y Q F H):T c S (.cond o x y) Q F H:=
 t_cond ho (fun h=>h1 (of_decide_eq_true h)) (fun h=>h2 (of_decide_eq_false h))
theorem t_condN {o:Operand} {p:Prop} {i:Decidable p} (ho:ev F o=some (.bool (!decide p))) (h1:¬ p→T c S x Q F H) (h2:p→T c S y Q F H):T c S (.cond o x y) Q F H:=
 t_cond ho (fun h=>h1 (of_decide_eq_false (by simpa using h))) (fun h=>h2 (of_decide_eq_true (by simpa using h)))
def FrSub (F:Fr):Fr→Prop
 | []=>True
 | (d,v)::G=>look F d=some v∧FrSub F G
theorem FrSub.nil {F:Fr}:FrSub F []:=trivial
theorem FrSub.cons {F G:Fr} {d:Nat} {v:Value} (h:look F d=some v) (k:FrSub F G):FrSub F ((d,v)::G):=⟨h,k⟩
theorem FrSub.consE {F G:Fr} {d:Nat} {v u:Value} (h:look F d=some u) (e:u=v) (k:FrSub F G):FrSub F ((d,v)::G):=⟨e ▸ h,k⟩
theorem FrSub.look {F:Fr}:∀ {G:Fr},FrSub F G→∀ d v,Ytcjkndjjbjoehaa.look G d=some v→Ytcjkndjjbjoehaa.look F d=some v
 | [],_,d,v,hv=>by cases hv
 | (e,u)::G,h,d,v,hv=>by
   simp only [Ytcjkndjjbjoehaa.look] at hv
   split at hv
   · rename_i hb
     obtain rfl:=Nat.eq_of_beq_eq_true hb
     obtain rfl:=Option.some.inj hv
     exact h.1
   · exact h.2.look d v hv
theorem Frm.sub {D:List Nat} {N:Nat} {a:Act} (h:Frm D N F a) (k:FrSub F F'):Frm D N F' a:=⟨h.size,h.defers,fun d v hv=>h.at_ d v (k.look d v hv)⟩
inductive HpSub:Hp→Hp→Prop
 | nil {H:Hp}:HpSub H []
 | cons {H H' G:Hp} {b:Nat} {C:List Value} {g:Tg} (h:Pick H b C g H') (k:HpSub H' G):HpSub H ((b,C,g)::G)
theorem HpSub.consE {H H' G:Hp} {b:Nat} {C C':List Value} {g:Tg} (h:Pick H b C g H') (e:C=C') (k:HpSub H' G):HpSub H ((b,C',g)::G):=e ▸ .cons h k
theorem Has.sub {w0:World} {M:Ms} {w:World} (k:HpSub H H') (h:Has w0 M H w):Has w0 M H' w:=by
 have key:∀ {H G:Hp},HpSub H G→∃ R,H.Perm (G++R):=by
   intro H G k
   induction k with
   | nil=>exact ⟨_,List.Perm.refl _⟩
   | cons p _ ih=>
     obtain ⟨R,ih⟩:=ih
     exact ⟨R,p.perm.trans (List.Perm.cons _ ih)⟩
 obtain ⟨R,hp⟩:=key k
 have h':=h.perm hp
 refine ⟨h'.ext,fun x hx=>h'.blk x (List.mem_append_left _ hx),?_,h'.marks⟩
 have:=h'.nodup
 rw [List.map_append] at this
 exact (List.nodup_append.1 this).1
theorem t_loop {ι:Type} (fr:ι→Fr) (hp:ι→Hp) (Pi:ι→Prop) (μ:ι→Nat) (i0:ι) (h0:Pi i0) (hF:FrSub F (fr i0)) (hH:HpSub H (hp i0))
    (h:∀ i,Pi i→T c S x (thenQ (fun F' H'=>∃ j,Pi j∧μ j<μ i∧FrSub F' (fr j)∧HpSub H' (hp j)) Q) (fr i) (hp i)):T c S (.loop x) Q F H:=by
  intro D a w ha hw
  let I:Act→World→Nat→Prop:=fun a w n=>∃ D i,Pi i∧μ i=n∧Frm D c.N (fr i) a∧Has c.w0 ⟨c.M,D⟩ (hp i) w
  -- the least measure of an index that fits
  have ex:∀ a w,(∃ n,I a w n)→∃ n,I a w n∧∀ m,I a w m→n≤m:=fun a w ⟨n,hn⟩=>by
    induction n using Nat.strongRecOn with
    | _ n ih=>
      by_cases hs:∃ m,m<n∧I a w m
      · obtain ⟨m,hm,hi⟩:=hs;exact ih m hm hi
      · exact ⟨n,hn,fun m hm=>by rcases Nat.lt_or_ge m n with h|h;exact absurd ⟨m,h,hm⟩ hs;exact h⟩
  let mm:Act→World→Nat:=fun a w=>open Classical in if h:∃ n,I a w n then Classical.choose (ex a w h) else 0
  have hmm:∀ a w n,I a w n→I a w (mm a w)∧mm a w≤n:=fun a w n hn=>by
    have hx:∃ n,I a w n:=⟨n,hn⟩
    have h1:=Classical.choose_spec (ex a w hx)
    have h2:mm a w=Classical.choose (ex a w hx):=dif_pos hx
    rw [h2]
    exact ⟨h1.1,h1.2 n hn⟩
  refine S.loop (fun a w=>∃ n,I a w n) mm ⟨_,D,i0,h0,rfl,ha.sub hF,hw.sub hH⟩ ?_
  intro a w ⟨n,hn⟩
  obtain ⟨⟨D,i,hi,hμ,hfa,hhw⟩,_⟩:=hmm a w n hn
  refine S.mono (h i hi D a w hfa hhw) fun e a' w' he=>?_
  have:=cv_then he
  cases e<;>first
    | exact this
    | (obtain ⟨D',F',H',⟨j,hj,hlt,hF',hH'⟩,h2,h3⟩:=this
       have hI:I a' w' (μ j):=⟨D',j,hj,rfl,h2.sub hF',h3.sub hH'⟩
       exact ⟨⟨_,hI⟩,by have:=(hmm a' w' _ hI).2;omega⟩)
end
inductive KeepF (F:Fr):List Nat→Fr→Prop
 | nil:KeepF F [] []
 | cons {s:Nat} {v:Value} {l:List Nat} {G:Fr} (h:look F s=some v) (k:KeepF F l G):KeepF F (s::l) ((s,v)::G)
 | skip {s:Nat} {l:List Nat} {G:Fr} (k:KeepF F l G):KeepF F (s::l) G
theorem KeepF.sub {F G:Fr} {l:List Nat} (h:KeepF F l G):FrSub F G:=by
 induction h with
 | nil=>exact .nil
 | cons h _ ih=>exact .cons h ih
 | skip _ ih=>exact ih
theorem FrSub.append {F:Fr}:∀ {A B:Fr},FrSub F A→FrSub F B→FrSub F (A++B)
 | [],_,_,h=>h
 | (_,_)::_,_,h,k=>⟨h.1,FrSub.append h.2 k⟩
theorem HpSub.refl:∀ (H:Hp),HpSub H H
 | []=>.nil
 | (b,C,g)::H=>.cons (.head b C g H) (HpSub.refl H)
section
variable {c:Cx} {S:WS c.P} {Q:QS} {F:Fr} {H:Hp} {x:Code}
theorem t_loopK {ι:Type} (keep:List Nat) (ch:ι→Fr) (hc:ι→Hp) (Pi:ι→Prop) (μ:ι→Nat) (i0:ι) {G:Fr} {GH:Hp} (hK:KeepF F keep G) (hF:FrSub F (ch i0)) (hH:HpSub H (hc i0++GH)) (h0:Pi i0)
   (h:∀ i,Pi i→T c S x (thenQ (fun F' H'=>∃ j,Pi j∧μ j<μ i∧FrSub F' (ch j++G)∧HpSub H' (hc j++GH)) Q) (ch i++G) (hc i++GH)):T c S (.loop x) Q F H:=
 t_loop (fun i=>ch i++G) (fun i=>hc i++GH) Pi μ i0 h0 (hF.append hK.sub) hH h
end
/-! A region's operations, one behind the other -/
def TL (c:Cx) (ops:Array Oper) (rest:List Oper) (R:Fr→Hp→Prop) (F:Fr) (H:Hp):Prop:=
 ∀ i,ops.toList.drop i=rest→∀ D a w,Frm D c.N F a→Has c.w0 ⟨c.M,D⟩ H w→chain c.P ops (fun a w=>∃ F H,R F H∧Frm D c.N F a∧Has c.w0 ⟨c.M,D⟩ H w) (List.range' i (ops.size-i)) a w
theorem drop_cons {ops:Array Oper} {i:Nat} {o:Oper} {rest:List Oper} (h:ops.toList.drop i=o::rest):ops[i]?=some o∧ops.toList.drop (i+1)=rest∧List.range' i (ops.size-i)=i::List.range' (i+1) (ops.size-(i+1)):=by
 have hlt:i<ops.toList.length:=by
   rcases Nat.lt_or_ge i ops.toList.length with h1|h1
   · exact h1
   · rw [List.drop_eq_nil_of_le h1] at h;cases h
 have h2:ops.toList[i]?=some o:=by
   have:(ops.toList.drop i)[0]?=some o:=by rw [h];rfl
   simpa using this
 refine ⟨by simpa using h2,?_,?_⟩
 · have:(ops.toList.drop i).drop 1=rest:=by rw [h];rfl
   simpa [List.drop_drop] using this
 · have hs:i<ops.size:=by simpa using hlt
   rw [show ops.size-i=(ops.size-(i+1))+1 by omega,List.range'_succ]
theorem givesUpon_wp {P:Program} {o:Oper} {a:Act} {w:World} {R:Value→World→Prop} {K:Act→World→Prop} (h:givesUpon P R ((execOp a.eval o).run P w)) (k:∀ v w',R v w'→K (a.put o.dst v) w'):o.wp P a w K QF:=by
 unfold Oper.wp
 generalize (execOp a.eval o).run P w=r at *
 cases r with
 | ok n w'=>
   cases n<;>simp only [givesUpon] at h<;>simp only [Oper.upon]<;>first
     | exact k _ _ h
     | exact h.mono fun e w2 ⟨u,he,hu⟩=>by subst he;exact k _ _ hu
     | exact h.mono fun u w2 hu=>k _ _ hu
 | halt x w'=>cases x<;>exact h.elim
section
variable {c:Cx} {S:WS c.P} {Q:QS} {F:Fr} {H:Hp} {ops:Array Oper} {o:Oper} {rest:List Oper} {R:Fr→Hp→Prop} {d:Nat} {v:Value}
theorem t_region {id:Nat} {l:List Oper} (hd:noDefer ⟨l⟩=true) (h:TL c ⟨l⟩ l (fun F H=>Q .normal F H) F H):T c S (.region id ⟨l⟩ false) Q F H:=fun D a w ha hw=>by
 refine S.region hd ?_
 have:=h 0 rfl D a w ha hw
 rw [List.range_eq_range']
 exact chain_mono (fun a w ⟨F,H,h1,h2,h3⟩=>⟨D,F,H,h1,h2,h3⟩) _ _ _ this
theorem tl_nil (h:R F H):TL c ops [] R F H:=fun i hi D a w ha hw=>by
 have:ops.size-i=0:=by
   have:=List.drop_eq_nil_iff.1 hi
   simp at this;omega
 rw [this]
 exact ⟨F,H,h,ha,hw⟩
theorem wanted_none {y:Nat→Option Bool} (h:o.guard=none):Region.wanted o y=true:=by unfold Region.wanted;rw [h]
def gslot (ops:Array Oper) (j:Nat):Option Nat:=(ops[j]?).bind (·.dst)
theorem yielded_at {j s:Nat} {b:Bool} {D:List Nat} {N:Nat} {a:Act} (ha:Frm D N F a) (hs:gslot ops j=some s) (hb:look F s=some (.bool b)):yielded ops a.tmps j=some b:=by
 unfold gslot at hs
 unfold yielded
 rw [hs]
 simp [ha.at_ s _ hb]
theorem wanted_T {j s:Nat} {b:Bool} {D:List Nat} {N:Nat} {a:Act} (ha:Frm D N F a) (hg:o.guard=some (j,b)) (hs:gslot ops j=some s) (hb:look F s=some (.bool b)):Region.wanted o (yielded ops a.tmps)=true:=by
 unfold Region.wanted
 rw [hg]
 simp [yielded_at ha hs hb]
theorem wanted_F {j s:Nat} {b b':Bool} {D:List Nat} {N:Nat} {a:Act} (ha:Frm D N F a) (hg:o.guard=some (j,b)) (hs:gslot ops j=some s) (hb:look F s=some (.bool b')) (hne:(b' == b)=false):Region.wanted o (yielded ops a.tmps)=false:=by
 unfold Region.wanted
 rw [hg]
 simp only [yielded_at ha hs hb]
 cases b<;>cases b'<;>first|rfl|cases hne
theorem Frm.same {D:List Nat} {N s:Nat} {a:Act} {u:Value} (ha:Frm D N F a) (hb:look F s=some u):Frm D N ((s,u)::F) a:=by
 refine ⟨ha.size,ha.defers,fun t v hv=>?_⟩
 by_cases h:s=t
 · subst h;rw [look_cons_self] at hv;obtain rfl:=Option.some.inj hv;exact ha.at_ _ _ hb
 · rw [look_cons_ne F u h] at hv;exact ha.at_ _ _ hv
def runs (ops:Array Oper) (F:Fr) (o:Oper):Option Bool:=
 match o.guard with
 | none=>some true
 | some (j,want)=>match gslot ops j with
   | none=>none
   | some s=>match look F s with
     | some (.bool b)=>match b,want with
       | true,true=>some true
       | false,false=>some true
       | true,false=>some false
       | false,true=>some false
     | some (.tuple ⟨[]⟩)=>some false
     | _=>none
theorem wanted_U {j s:Nat} {b:Bool} {D:List Nat} {N:Nat} {a:Act} (ha:Frm D N F a) (hg:o.guard=some (j,b)) (hs:gslot ops j=some s) (hb:look F s=some (.tuple ⟨[]⟩)):Region.wanted o (yielded ops a.tmps)=false:=by
 have hy:yielded ops a.tmps j=none:=by
   unfold gslot at hs
   unfold yielded
   rw [hs]
   simp [ha.at_ s _ hb]
 unfold Region.wanted
 rw [hg]
 simp [hy]
def gof (ops:Array Oper) (o:Oper):Option Nat:=
 match o.guard with
 | none=>none
 | some (j,_)=>gslot ops j
theorem runs_spec {D:List Nat} {N:Nat} {a:Act} {r:Bool} (ha:Frm D N F a) (h:runs ops F o=some r):Region.wanted o (yielded ops a.tmps)=r:=by
 unfold runs at h
 split at h
 · rename_i hg
   cases h
   exact wanted_none hg
 · rename_i j want hg
   split at h
   · cases h
   · rename_i s hs
     split at h
     · rename_i b hb
       cases b<;>cases want<;>cases h<;>first
         | exact wanted_T ha hg hs hb
         | exact wanted_F ha hg hs hb rfl
     · rename_i hb
       cases h
       exact wanted_U ha hg hs hb
     · cases h
def isX:Op→Bool
 | .alloc _|.box ..|.buildSlice ..=>true
 | _=>false
def isW:Op→Bool
 | .alloc _|.box ..|.buildSlice ..|.store ..|.makeSlice ..=>true
 | .call ⟨.builtin .append,_,_⟩=>true
 | _=>false
theorem u_q (hr:runs ops F o=some true) (_hw:isW o.op=false) (hd:o.dst=some d) (hN:Nat.blt d c.N=true) (h:OQ c o F H v) (k:TL c ops rest R ((d,v)::F) H):TL c ops (o::rest) R F H:=fun i hi D a w ha hw=>by
 obtain ⟨h1,h2,h3⟩:=drop_cons hi
 rw [h3]
 simp only [chain,h1,runs_spec ha hr,if_true]
 refine givesUpon_wp (h D a w ha hw) fun u w' ⟨hu,hx⟩=>?_
 subst hu
 rw [hd]
 exact k _ h2 _ _ _ (ha.put hN _) (hw.grow hx)
theorem u_s (hr:runs ops F o=some true) (hd:o.dst=some d) (hN:Nat.blt d c.N=true) (h:OS c o F H (fun v H'=>TL c ops rest R ((d,v)::F) H')):TL c ops (o::rest) R F H:=fun i hi D a w ha hw=>by
 obtain ⟨h1,h2,h3⟩:=drop_cons hi
 rw [h3]
 simp only [chain,h1,runs_spec ha hr,if_true]
 refine givesUpon_wp (h D a w ha hw) fun u w' ⟨H',hu,hx⟩=>?_
 rw [hd]
 exact hu _ h2 _ _ _ (ha.put hN _) hx
theorem u_s0 (hr:runs ops F o=some true) (hd:o.dst=none) (h:OS c o F H (fun _ H'=>TL c ops rest R F H')):TL c ops (o::rest) R F H:=fun i hi D a w ha hw=>by
 obtain ⟨h1,h2,h3⟩:=drop_cons hi
 rw [h3]
 simp only [chain,h1,runs_spec ha hr,if_true]
 refine givesUpon_wp (h D a w ha hw) fun u w' ⟨H',hu,hx⟩=>?_
 rw [hd]
 exact hu _ h2 _ _ _ (ha.putNone _) hx
theorem u_skip (hr:runs ops F o=some false) (hd:o.dst=some d) (hN:Nat.blt d c.N=true) (k:TL c ops rest R ((d,undef)::F) H):TL c ops (o::rest) R F H:=fun i hi D a w ha hw=>by
 obtain ⟨h1,h2,h3⟩:=drop_cons hi
 rw [h3]
 simp only [chain,h1,runs_spec ha hr,Bool.false_eq_true,if_false]
 rw [hd]
 exact k _ h2 _ _ _ (ha.put hN _) hw
theorem u_split {s:Nat} {b:Bool} (hg:gof ops o=some s) (hb:look F s=some (.bool b)) (h1:b=true→TL c ops (o::rest) R ((s,.bool true)::F) H) (h2:b=false→TL c ops (o::rest) R ((s,.bool false)::F) H) :
   TL c ops (o::rest) R F H:=fun i hi D a w ha hw=>by
 cases b
 · exact h2 rfl i hi D a w (ha.same hb) hw
 · exact h1 rfl i hi D a w (ha.same hb) hw
theorem u_splitD {s:Nat} {p:Prop} {i:Decidable p} (hg:gof ops o=some s) (hb:look F s=some (.bool (decide p))) (h1:p→TL c ops (o::rest) R ((s,.bool true)::F) H) (h2:¬ p→TL c ops (o::rest) R ((s,.bool false)::F) H) :
   TL c ops (o::rest) R F H:=u_split hg hb (fun h=>h1 (of_decide_eq_true h)) (fun h=>h2 (of_decide_eq_false h))
/-! A region that draws its order: the quiet operations -/
theorem Has.up {w0:World} {M:Ms} {H:Hp}:Up (Has w0 M H):=fun _ _ h e=>h.grow e
def GL (c:Cx) (ops:Array Oper) (rest:List Nat) (R:Fr→Prop) (F:Fr) (H:Hp):Prop:=
 ∀ D a,Frm D c.N F a→wpGI c.P ops (Has c.w0 ⟨c.M,D⟩ H) (fun a'=>∃ F',R F'∧Frm D c.N F' a') rest a
theorem gl_nil {R:Fr→Prop} (h:R F):GL c ops [] R F H:=fun D a ha=>wpGI_nil ⟨F,h,ha⟩
theorem gl_go {i:Nat} {rest:List Nat} {R:Fr→Prop} (ho:ops[i]?=some o) (hw0:∀ D a,Frm D c.N F a→Region.wanted o (yielded ops a.tmps)=true) (hd:o.dst=some d) (hN:Nat.blt d c.N=true) (h:OQ c o F H v) (k:GL c ops rest R ((d,v)::F) H):GL c ops (i::rest) R F H:=fun D a ha=>
 wpGI_step (v:=v) ho (hw0 D a ha) (fun w hw=>h D a w ha hw) (by rw [hd];exact k _ _ (ha.put hN _))
def GX (c:Cx) (ops:Array Oper) (rest:List Oper) (R:Fr→Prop) (F:Fr) (H:Hp):Prop:=
 ∀ l:List Nat,l.map (fun i=>ops[i]?)=rest.map some→GL c ops l R F H
theorem map_cons {l:List Nat} (h:l.map (fun i=>ops[i]?)=(o::rest).map some):∃ i l',l=i::l'∧ops[i]?=some o∧l'.map (fun i=>ops[i]?)=rest.map some:=by
 cases l with
 | nil=>cases h
 | cons i l=>
   rw [List.map_cons,List.map_cons] at h
   injection h with h1 h2
   exact ⟨i,l,rfl,h1,h2⟩
theorem v_nil {R:Fr→Prop} (h:R F):GX c ops [] R F H:=fun l hl=>by
 obtain rfl:l=[]:=by simpa using hl
 exact gl_nil h
theorem v_q {R:Fr→Prop} (hr:runs ops F o=some true) (hd:o.dst=some d) (hN:Nat.blt d c.N=true) (h:OQ c o F H v) (k:GX c ops rest R ((d,v)::F) H):GX c ops (o::rest) R F H:=fun l hl=>by
 obtain ⟨i,l,rfl,h1,h2⟩:=map_cons hl
 exact gl_go h1 (fun D a ha=>runs_spec ha hr) hd hN h (k l h2)
theorem v_skip {R:Fr→Prop} (hr:runs ops F o=some false) (hd:o.dst=some d) (hN:Nat.blt d c.N=true) (k:GX c ops rest R ((d,undef)::F) H):GX c ops (o::rest) R F H:=fun l hl=>by
 obtain ⟨i,l,rfl,h1,h2⟩:=map_cons hl
 exact fun D a ha=>wpGI_skip h1 (runs_spec ha hr) hd (k l h2 _ _ (ha.put hN _))
theorem v_split {s:Nat} {b:Bool} {R:Fr→Prop} (hg:gof ops o=some s) (hb:look F s=some (.bool b)) (h1:b=true→GX c ops (o::rest) R ((s,.bool true)::F) H) (h2:b=false→GX c ops (o::rest) R ((s,.bool false)::F) H) :
   GX c ops (o::rest) R F H:=fun l hl D a ha=>by
 cases b
 · exact h2 rfl l hl D a (ha.same hb)
 · exact h1 rfl l hl D a (ha.same hb)
theorem v_splitD {s:Nat} {p:Prop} {i':Decidable p} {R:Fr→Prop} (hg:gof ops o=some s) (hb:look F s=some (.bool (decide p))) (h1:p→GX c ops (o::rest) R ((s,.bool true)::F) H) (h2:¬ p→GX c ops (o::rest) R ((s,.bool false)::F) H) :
   GX c ops (o::rest) R F H:=v_split hg hb (fun h=>h1 (of_decide_eq_true h)) (fun h=>h2 (of_decide_eq_false h))
def nthO:List Oper→Nat→Option Oper
 | [],_=>none
 | o::_,0=>some o
 | _::l,n+1=>nthO l n
theorem nthO_spec {l:List Oper} {i:Nat} {o:Oper} (h:nthO l i=some o):l[i]?=some o:=by
 induction l generalizing i with
 | nil=>cases h
 | cons x l ih=>
   cases i with
   | zero=>simpa [nthO] using h
   | succ i=>simpa using ih h
def pickOps (l:List Oper):List Nat→Option (List Oper)
 | []=>some []
 | i::r=>match nthO l i,pickOps l r with
   | some o,some os=>some (o::os)
   | _,_=>none
theorem pickOps_spec {l:List Oper}:∀ {r:List Nat} {os:List Oper},pickOps l r=some os→r.map (fun i=>(Array.mk l)[i]?)=os.map some
 | [],os,h=>by obtain rfl:=Option.some.inj h;rfl
 | i::r,os,h=>by
   unfold pickOps at h
   split at h
   · rename_i o os' h1 h2
     obtain rfl:=Option.some.inj h
     rw [List.map_cons,List.map_cons,pickOps_spec h2]
     simp [nthO_spec h1]
   · cases h
def AL (c:Cx) (ops:Array Oper) (cov:Array Bool) (H0:Hp) (n:Nat) (listed:Array Bool) (R:Fr→Hp→Prop) (F:Fr) (H:Hp):Prop:=
 ∀ D a w,Frm D c.N F a→Has c.w0 ⟨c.M,D⟩ H w→SAnyI c.P ops cov (Has c.w0 ⟨c.M,D⟩ H0) (fun a w=>∃ D F H,R F H∧Frm D c.N F a∧Has c.w0 ⟨c.M,D⟩ H w) n listed a w
theorem t_mixed {id:Nat} (l:List Nat) (n:Nat) (cov:Array Bool) (hm:c.P.follows .mixedOrders=true) (hB:(Region.noSelect ops && (n+l.length == ops.size) && lexOk ops cov l (Array.replicate ops.size false) && noDefer ops)=true)
   (h:GL c ops l (fun F'=>AL c ops cov H n (listedBy l (Array.replicate ops.size false)) (fun F H=>Q .normal F H) F' H) F H):T c S (.region id ops true) Q F H:=fun D a w ha hw=>by
 refine S.mixed l n cov (Has.up (M:=⟨c.M,D⟩)) hw hm hB (wpGI_mono (fun a' ⟨F',h1,h2⟩ w' hw'=>?_) l a (h D a ha))
 exact h1 D a' w' h2 hw'
theorem al_done {cov:Array Bool} {H0:Hp} {n:Nat} {listed:Array Bool} (hr:Region.ready .any ops listed=[]) (h:R F H):AL c ops cov H0 n listed R F H:=fun D a w ha hw=>SAnyI_done hr ⟨D,F,H,h,ha,hw⟩
theorem t_quiet {id:Nat} (l:List Nat) (hm:c.P.follows .mixedOrders=true)
   (hB:(Region.noSelect ops && (0+l.length == ops.size) && lexOk ops #[] l (Array.replicate ops.size false) && noDefer ops && (Region.ready .any ops (listedBy l (Array.replicate ops.size false))).isEmpty)=true)
   (h:GL c ops l (fun F'=>Q .normal F' H) F H):T c S (.region id ops true) Q F H:=by
 simp only [Bool.and_eq_true] at hB
 refine t_mixed l 0 #[] hm (by simp only [Bool.and_eq_true];exact hB.1) ?_
 have hr:Region.ready .any ops (listedBy l (Array.replicate ops.size false))=[]:=by simpa using hB.2
 intro D a ha
 exact wpGI_mono (fun a' ⟨F',h1,h2⟩=>⟨F',al_done hr h1,h2⟩) l a (h D a ha)
def quietOk (ops:Array Oper):Bool:=
 let l:=List.range' 0 ops.size
 Region.noSelect ops && (0+l.length == ops.size) && lexOk ops #[] l (Array.replicate ops.size false) && noDefer ops && (Region.ready .any ops (listedBy l (Array.replicate ops.size false))).isEmpty && ops.all fun o=>!isW o.op
theorem range_map (l:List Oper):(List.range' 0 (Array.mk l).size).map (fun i=>(Array.mk l)[i]?)=l.map some:=by
 apply List.ext_getElem?
 intro i
 simp only [List.getElem?_map,List.getElem?_range']
 by_cases h:i<l.length
 · simp [h]
 · simp [h]
theorem t_drawn {id:Nat} {l:List Oper} (hm:c.P.follows .mixedOrders=true) (hB:quietOk ⟨l⟩=true) (h:GX c ⟨l⟩ l (fun F'=>Q .normal F' H) F H):T c S (.region id ⟨l⟩ true) Q F H:=
 t_quiet (List.range' 0 (Array.mk l).size) hm (by unfold quietOk at hB;simp only [Bool.and_eq_true] at hB ⊢;exact hB.1) (h _ (range_map l))
theorem t_mix {id:Nat} {l ql:List Oper} (q:List Nat) (n:Nat) (cov:Array Bool) (hm:c.P.follows .mixedOrders=true) (hB:(Region.noSelect ⟨l⟩ && (n+q.length == (Array.mk l).size) && lexOk ⟨l⟩ cov q (Array.replicate (Array.mk l).size false) && noDefer ⟨l⟩)=true) (hq:pickOps l q=some ql)
   (h:GX c ⟨l⟩ ql (fun F'=>AL c ⟨l⟩ cov H n (listedBy q (Array.replicate (Array.mk l).size false)) (fun F H=>Q .normal F H) F' H) F H):T c S (.region id ⟨l⟩ true) Q F H:=
 t_mixed q n cov hm hB (h q (pickOps_spec hq))
def AI (c:Cx) (ops:Array Oper) (cov:Array Bool) (H0:Hp) (n:Nat) (listed:Array Bool) (i:Nat) (R:Fr→Hp→Prop) (F:Fr) (H:Hp):Prop:=
 ∀ D a w,Frm D c.N F a→Has c.w0 ⟨c.M,D⟩ H w→wpOp c.P ops QF i (fun a' w'=>(cov.getD i false=false→Has c.w0 ⟨c.M,D⟩ H0 w→Has c.w0 ⟨c.M,D⟩ H0 w')∧∀ w'',Ext w' w''→SAnyI c.P ops cov (Has c.w0 ⟨c.M,D⟩ H0) (fun a w=>∃ D F H,R F H∧Frm D c.N F a∧Has c.w0 ⟨c.M,D⟩ H w) n (listed.setIfInBounds i true) a' w'') a w
section
variable {cov:Array Bool} {H0:Hp} {n:Nat} {listed:Array Bool}
theorem al_list {rs:List Nat} (hr:Region.ready .any ops listed=rs) (hne:rs≠[]) (h:∀ j∈rs,AI c ops cov H0 n listed j R F H):AL c ops cov H0 (n+1) listed R F H:=fun D a w ha hw=>
 ⟨fun h0=>absurd (hr.symm.trans h0) hne,fun j hj=>h j (hr ▸ hj) D a w ha hw⟩
theorem al_one (i:Nat) (hr:Region.ready .any ops listed=[i]) (h:AI c ops cov H0 n listed i R F H):AL c ops cov H0 (n+1) listed R F H:=
 al_list hr (by simp) fun j hj=>by
   obtain rfl:j=i:=by simpa using hj
   exact h
theorem al_two (i k:Nat) (hr:Region.ready .any ops listed=[i,k]) (h:AI c ops cov H0 n listed i R F H) (h':AI c ops cov H0 n listed k R F H):AL c ops cov H0 (n+1) listed R F H:=
 al_list hr (by simp) fun j hj=>by
   rcases (by simpa using hj:j=i∨j=k) with rfl|rfl
   · exact h
   · exact h'
theorem al_three (i k m:Nat) (hr:Region.ready .any ops listed=[i,k,m]) (h:AI c ops cov H0 n listed i R F H) (h':AI c ops cov H0 n listed k R F H) (h'':AI c ops cov H0 n listed m R F H):AL c ops cov H0 (n+1) listed R F H:=
 al_list hr (by simp) fun j hj=>by
   rcases (by simpa using hj:j=i∨j=k∨j=m) with rfl|rfl|rfl
   · exact h
   · exact h'
   · exact h''
theorem wpOp_go {P:Program} {i:Nat} {l:List Oper} {a:Act} {w:World} {K:Act→World→Prop} (ho:nthO l i=some o) (hw:Region.wanted o (yielded ⟨l⟩ a.tmps)=true) (h:o.wp P a w K QF):wpOp P ⟨l⟩ QF i K a w:=by
 have ho:(Array.mk l)[i]?=some o:=by simpa using nthO_spec ho
 unfold wpOp
 simp only [ho,hw,if_true]
 exact .inl h
theorem wpOp_no {P:Program} {i:Nat} {l:List Oper} {a:Act} {w:World} {K:Act→World→Prop} (ho:nthO l i=some o) (hw:Region.wanted o (yielded ⟨l⟩ a.tmps)=false) (h:K (a.put o.dst undef) w):wpOp P ⟨l⟩ QF i K a w:=by
 have ho:(Array.mk l)[i]?=some o:=by simpa using nthO_spec ho
 unfold wpOp
 simp only [ho,hw,Bool.false_eq_true,if_false]
 exact h
theorem ai_q {i:Nat} {l:List Oper} (ho:nthO l i=some o) (_:isW o.op=false) (hr:runs ⟨l⟩ F o=some true) (hd:o.dst=some d) (hN:Nat.blt d c.N=true)
   (h:OQ c o F H v) (k:AL c ⟨l⟩ cov H0 n (listed.setIfInBounds i true) R ((d,v)::F) H):AI c ⟨l⟩ cov H0 n listed i R F H:=fun D a w ha hw=>by
 refine wpOp_go ho (runs_spec ha hr) (givesUpon_wp (h D a w ha hw) fun u w' ⟨hu,hx⟩=>?_)
 subst hu
 rw [hd]
 exact ⟨fun _ hI=>hI.grow hx,fun w'' hw''=>k _ _ _ (ha.put hN _) ((hw.grow hx).grow hw'')⟩
theorem ai_s {i:Nat} {l:List Oper} (ho:nthO l i=some o) (hr:runs ⟨l⟩ F o=some true) (hd:o.dst=some d) (hN:Nat.blt d c.N=true) (hc:cov.getD i false=true)
   (h:OS c o F H (fun v H'=>AL c ⟨l⟩ cov H0 n (listed.setIfInBounds i true) R ((d,v)::F) H')):AI c ⟨l⟩ cov H0 n listed i R F H:=fun D a w ha hw=>by
 refine wpOp_go ho (runs_spec ha hr) (givesUpon_wp (h D a w ha hw) fun u w' ⟨H',hu,hx⟩=>?_)
 rw [hd]
 exact ⟨fun h=>by rw [hc] at h;(cases h),fun w'' hw''=>hu _ _ _ (ha.put hN _) (hx.grow hw'')⟩
theorem ai_x {i:Nat} {l:List Oper} (ho:nthO l i=some o) (_:isX o.op=true) (hr:runs ⟨l⟩ F o=some true) (hd:o.dst=some d) (hN:Nat.blt d c.N=true)
   (h:OX c o F H (fun v H'=>AL c ⟨l⟩ cov H0 n (listed.setIfInBounds i true) R ((d,v)::F) H')):AI c ⟨l⟩ cov H0 n listed i R F H:=fun D a w ha hw=>by
 refine wpOp_go ho (runs_spec ha hr) (givesUpon_wp (h D a w ha hw) fun u w' ⟨⟨H',hu,hx⟩,he⟩=>?_)
 rw [hd]
 exact ⟨fun _ hI=>hI.grow he,fun w'' hw''=>hu _ _ _ (ha.put hN _) (hx.grow hw'')⟩
theorem ai_s0 {i:Nat} {l:List Oper} (ho:nthO l i=some o) (hr:runs ⟨l⟩ F o=some true) (hd:o.dst=none) (hc:cov.getD i false=true)
   (h:OS c o F H (fun _ H'=>AL c ⟨l⟩ cov H0 n (listed.setIfInBounds i true) R F H')):AI c ⟨l⟩ cov H0 n listed i R F H:=fun D a w ha hw=>by
 refine wpOp_go ho (runs_spec ha hr) (givesUpon_wp (h D a w ha hw) fun u w' ⟨H',hu,hx⟩=>?_)
 rw [hd]
 exact ⟨fun h=>by rw [hc] at h;(cases h),fun w'' hw''=>hu _ _ _ (ha.putNone _) (hx.grow hw'')⟩
theorem ai_n {i:Nat} {l:List Oper} (ho:nthO l i=some o) (hr:runs ⟨l⟩ F o=some true) (hd:o.dst=some d) (hN:Nat.blt d c.N=true)
   (h:OS c o F H (fun v H'=>HpSub H' H0∧AL c ⟨l⟩ cov H0 n (listed.setIfInBounds i true) R ((d,v)::F) H')):AI c ⟨l⟩ cov H0 n listed i R F H:=fun D a w ha hw=>by
 refine wpOp_go ho (runs_spec ha hr) (givesUpon_wp (h D a w ha hw) fun u w' ⟨H',⟨hs,hu⟩,hx⟩=>?_)
 rw [hd]
 exact ⟨fun _ _=>hx.sub hs,fun w'' hw''=>hu _ _ _ (ha.put hN _) (hx.grow hw'')⟩
theorem ai_n0 {i:Nat} {l:List Oper} (ho:nthO l i=some o) (hr:runs ⟨l⟩ F o=some true) (hd:o.dst=none)
   (h:OS c o F H (fun _ H'=>HpSub H' H0∧AL c ⟨l⟩ cov H0 n (listed.setIfInBounds i true) R F H')):AI c ⟨l⟩ cov H0 n listed i R F H:=fun D a w ha hw=>by
 refine wpOp_go ho (runs_spec ha hr) (givesUpon_wp (h D a w ha hw) fun u w' ⟨H',⟨hs,hu⟩,hx⟩=>?_)
 rw [hd]
 exact ⟨fun _ _=>hx.sub hs,fun w'' hw''=>hu _ _ _ (ha.putNone _) (hx.grow hw'')⟩
theorem ai_skip {i:Nat} {l:List Oper} (ho:nthO l i=some o) (hr:runs ⟨l⟩ F o=some false) (hd:o.dst=some d) (hN:Nat.blt d c.N=true) (k:AL c ⟨l⟩ cov H0 n (listed.setIfInBounds i true) R ((d,undef)::F) H):AI c ⟨l⟩ cov H0 n listed i R F H:=fun D a w ha hw=>by
 refine wpOp_no ho (runs_spec ha hr) ?_
 rw [hd]
 exact ⟨fun _ hI=>hI,fun w'' hw''=>k _ _ _ (ha.put hN _) (hw.grow hw'')⟩
theorem al_id (h:AL c ops cov H0 n listed R F H):AL c ops cov H0 n listed R F H:=h
theorem al_keep {G:Hp} (h:HpSub H G) (k:AL c ops cov H0 n listed R F H):HpSub H G∧AL c ops cov H0 n listed R F H:=⟨h,k⟩
theorem ai_id {i:Nat} (h:AI c ops cov H0 n listed i R F H):AI c ops cov H0 n listed i R F H:=h
end
theorem t_cut {ι:Type} {x y:Code} (fr:ι→Fr) (hp:ι→Hp) (Pi:ι→Prop) (h1:T c S x (fun e F' H'=>e=.normal∧∃ i,Pi i∧FrSub F' (fr i)∧HpSub H' (hp i)) F H) (h2:∀ i,Pi i→T c S y Q (fr i) (hp i)):T c S (.seq x y) Q F H:=by
 refine t_seq fun D a w ha hw=>S.mono (h1 D a w ha hw) fun e a' w' he=>?_
 obtain ⟨D',F',H',⟨rfl,i,hi,hF,hH⟩,h3,h4⟩:=he
 exact ⟨D',_,_,h2 i hi,h3.sub hF,h4.sub hH⟩
/-! The end of a function -/
def RV (c:Cx) (F:Fr) (H:Hp) (r:ResultVar) (v:Value):Prop:=
 ∀ D a w,Frm D c.N F a→Has c.w0 ⟨c.M,D⟩ H w→((match r with|.tmp t=>pure (a.tmps.getD t undef)|.cell x t=>do loadVar t (← asAddr (a.tmps.getD x undef)):Sem Value)).run c.P w=.ok v w
theorem rv_tmp {t:Nat} (h:look F t=some v):RV c F H (.tmp t) v:=fun D a w ha hw=>by
 have:=ha.at_ t v h
 simp [Sem.run_pure,Array.getD_eq_getD_getElem?,this]
theorem rv_cellAgg {t k x b o:Nat} {z0:List Value} {k0:TyK} {vs:List Value} (ht:tyAt c.tys t=some ⟨true,k,z0,k0⟩) (h:look F x=some (.pointer (some ⟨b,o,none⟩))) (hr:Rdn c H b o k vs):RV c F H (.cell x t) (.agg ⟨vs⟩):=fun D a w ha hw=>by
 obtain ⟨hv,hl⟩:=hr.spec
 have h0:=ha.at_ x _ h
 have h1:=(c.ty ht).agg w
 have h3:=(c.ty ht).size w
 rw [← hl] at h3
 have h2:=run_loadCells_eq c.P w b o vs (fun j v hj=>Rds.at_ hw vs o hv j v hj)
 simp [Array.getD_eq_getD_getElem?,h0,asAddr,loadVar,Sem.run_bind,Sem.run_pure,h1,h2,h3,Result.andThen]
def RVs (c:Cx) (F:Fr) (H:Hp):List ResultVar→List Value→Prop
 | [],[]=>True
 | r::rs,v::vs=>RV c F H r v∧RVs c F H rs vs
 | _,_=>False
theorem rvs_nil:RVs c F H [] []:=trivial
theorem rvs_cons {r:ResultVar} {rs:List ResultVar} {vs:List Value} (h:RV c F H r v) (k:RVs c F H rs vs):RVs c F H (r::rs) (v::vs):=⟨h,k⟩
def retOf:List Value→Value
 | [v]=>v
 | vs=>.tuple ⟨vs⟩
def endQ (c:Cx) (rs:List ResultVar) (PV:Value→Hp→Prop):QS:=fun e F H=>(e=.normal∨e=.ret)∧∃ vs,RVs c F H rs vs∧PV (retOf vs) H
theorem end_ret {rs:List ResultVar} {vs:List Value} {PV:Value→Hp→Prop} (h:RVs c F H rs vs) (k:PV (retOf vs) H):endQ c rs PV .ret F H:=⟨.inr rfl,vs,h,k⟩
theorem end_normal {rs:List ResultVar} {vs:List Value} {PV:Value→Hp→Prop} (h:RVs c F H rs vs) (k:PV (retOf vs) H):endQ c rs PV .normal F H:=⟨.inl rfl,vs,h,k⟩
theorem run_mapM (P:Program) (w:World) (f:ResultVar→Sem Value):∀ (rs:List ResultVar) (vs:List Value),rs.length=vs.length→(∀ (i:Nat) r v,rs[i]?=some r→vs[i]?=some v→(f r).run P w=.ok v w)→(rs.mapM f).run P w=.ok vs w
 | [],[],_,_=>by simp [Sem.run_pure]
 | [],_::_,h,_=>by simp at h
 | _::_,[],h,_=>by simp at h
 | r::rs,v::vs,hl,h=>by
   have h0:=h 0 r v rfl rfl
   have h1:=run_mapM P w f rs vs (by simpa using hl) (fun i r' v' hr hv=>h (i+1) r' v' (by simpa using hr) (by simpa using hv))
   simp [List.mapM_cons,Sem.run_bind,Sem.run_pure,h0,h1,Result.andThen]
theorem RVs.run {D:List Nat} {a:Act} {w:World} (ha:Frm D c.N F a) (hw:Has c.w0 ⟨c.M,D⟩ H w):∀ {rs:List ResultVar} {vs:List Value},RVs c F H rs vs→rs.length=vs.length∧∀ (i:Nat) r v,rs[i]?=some r→vs[i]?=some v →
   ((match r with|.tmp t=>pure (a.tmps.getD t undef)|.cell x t=>do loadVar t (← asAddr (a.tmps.getD x undef)):Sem Value)).run c.P w=.ok v w
 | [],[],_=>⟨rfl,fun i r v h=>by simp at h⟩
 | [],_::_,h=>h.elim
 | _::_,[],h=>h.elim
 | r::rs,v::vs,h=>by
   have ih:=RVs.run ha hw h.2
   refine ⟨by simpa using ih.1,fun i r' v' hr hv=>?_⟩
   cases i with
   | zero=>
     obtain rfl:r=r':=by simpa using hr
     obtain rfl:v=v':=by simpa using hv
     exact h.1 D a w ha hw
   | succ i=>exact ih.2 i r' v' (by simpa using hr) (by simpa using hv)
theorem results_run {fn:Func} {rs:List ResultVar} {D:List Nat} {a:Act} {w:World} {vs:List Value} (hrs:fn.results=⟨rs⟩) (ha:Frm D c.N F a) (hw:Has c.w0 ⟨c.M,D⟩ H w) (h:RVs c F H rs vs):(results fn a.tmps).run c.P w=.ok (retOf vs) w:=by
 obtain ⟨h1,h2⟩:=RVs.run ha hw h
 have h3:=run_mapM c.P w _ _ _ h1 h2
 unfold results
 rw [Sem.run_bind,hrs,Array.mapM_eq_mapM_toList,map_eq_pure_bind,Sem.run_bind]
 refine (congrArg (fun r=>((Result.andThen r (fun a w'=>Sem.run c.P (pure a.toArray) w')).andThen fun a w'=>Sem.run c.P (pure (if h:a.size=1 then a[0] else Value.tuple a)) w')) h3).trans ?_
 simp only [Result.andThen,Sem.run_pure]
 match vs with
 | []=>rfl
 | [v]=>rfl
 | v::v1::vs=>simp [retOf]
theorem Has.take {w0:World} {M:List Nat} {k:Nat} {D:List Nat} {H:Hp} {w:World} (h:Has w0 ⟨M,k::D⟩ H w):(Instr.takeDeferred k).run c.P w=.ok [] (w.putObj k (.deferred none))∧Has w0 ⟨M,D⟩ H (w.putObj k (.deferred none)):=by
 have hk:=h.marks.2 k (List.mem_cons_self ..)
 have hd:=List.nodup_cons.1 h.marks.1
 refine ⟨run_takeDeferred hk.2,⟨h.ext.os,h.ext.tape,h.ext.output,by simpa using h.ext.size,fun b hb hm=>?_⟩,fun x hx=>⟨(h.blk x hx).1,(h.blk x hx).2.same (World.putObj_heap_other fun e=>?_)⟩,h.nodup,hd.2,fun j hj=>?_⟩
 · rw [World.putObj_heap_other (fun e=>by have:=hk.1;omega)]
   exact h.ext.block b hb hm
 · exact mark_ne (h.blk x hx).2 hk.2 e.symm
 · have hj':=h.marks.2 j (List.mem_cons_of_mem _ hj)
   refine ⟨hj'.1,?_⟩
   rw [World.putObj_heap_other (fun e:j=k=>hd.1 (by rw [← e];exact hj))]
   exact hj'.2
theorem leaves_marks {fn:Func} {R:Ending→World→Prop} {tmps:Array Value} {v:Value} (n:Nat):∀ (D:List Nat) (w:World),Has c.w0 ⟨c.M,D⟩ H w→(∀ w',Has c.w0 ⟨c.M,[]⟩ H w'→(results fn tmps).run c.P w'=.ok v w'∧R (.returned v) w') →
   LeavesInM Fence.wide n c.P fn tmps R (D.map dmark) .returning w
 | [],w,h,hr=>⟨v,hr w h⟩
 | k::D,w,h,hr=>by
   have ht:=Has.take (c:=c) h
   exact ⟨(fun e=>by cases e),.inl ⟨k,_,rfl,ht.1,leaves_marks n D _ ht.2 hr⟩⟩
theorem enter {k:FuncId} {fn:Func} {code:Code} {rs:List ResultVar} {args:List Value} {PV:Value→Hp→Prop} (hf:c.P.funcs[k]?=some fn) (hb:fn.body=some code) (hrs:fn.results=⟨rs⟩) (hN:c.N=args.length+(fn.ntmps-args.length))
   (hF:∀ d v,look F d=some v→args[d]?=some v) (hw:Has c.w0 ⟨c.M,[]⟩ H c.w0)
   (h:T c (WS.own c.P) code (endQ c rs PV) F H):Calls c.P k ⟨args⟩ c.w0 fun e w'=>∃ v H',e=.returned v∧PV v H'∧Has c.w0 ⟨c.M,[]⟩ H' w':=by
 refine (callsIn_wide (n:=0)).1 (callsIn_of_wp_marks hf hb trivial ?_)
 have ha:Frm [] c.N F { tmps:=(⟨args⟩:Array Value)++Array.replicate (fn.ntmps-(⟨args⟩:Array Value).size) undef,defers:=[] }:=by
   refine ⟨by simp [hN],rfl,fun d v hv=>?_⟩
   have:=hF d v hv
   have hlt:d<args.length:=(List.getElem?_eq_some_iff.1 this).1
   rw [Array.getElem?_append_left (by simpa using hlt)]
   simpa using this
 have h0:=h [] _ _ ha hw
 refine wpIn_wide.2 (wp_mono h0 fun e a w' ⟨D,F',H',⟨he,vs,h1,h2⟩,h3,h4⟩=>?_)
 have key:LeavesInM Fence.wide 0 c.P fn a.tmps (fun e w'=>∃ v H',e=.returned v∧PV v H'∧Has c.w0 ⟨c.M,[]⟩ H' w') a.defers .returning w':=by
   rw [h3.defers]
   refine leaves_marks (v:=retOf vs) 0 D w' h4 fun w'' h5=>⟨?_,_,H',rfl,h2,h5⟩
   exact results_run (a:={ a with defers:=[] }) (D:=[]) hrs ⟨h3.size,rfl,h3.at_⟩ h5 h1
 rcases he with rfl|rfl
 · exact key
 · exact key
theorem Has.start (w:World):Has w ⟨[],[]⟩ [] w:=⟨ExtM.refl _ _,fun x hx=>(List.not_mem_nil hx).elim,List.nodup_nil,List.nodup_nil,fun k hk=>(List.not_mem_nil hk).elim⟩
def frOf:Nat→List Value→Fr
 | _,[]=>[]
 | i,v::vs=>(i,v)::frOf (i+1) vs
theorem look_frOf:∀ (vs:List Value) (i d:Nat) (v:Value),look (frOf i vs) d=some v→i≤d∧vs[d-i]?=some v
 | [],i,d,v,h=>by cases h
 | u::vs,i,d,v,h=>by
   by_cases hd:i=d
   · subst hd
     simp only [frOf] at h
     rw [look_cons_self] at h
     exact ⟨Nat.le_refl _,by simpa using h⟩
   · simp only [frOf] at h
     rw [look_cons_ne _ _ hd] at h
     obtain ⟨h1,h2⟩:=look_frOf vs (i+1) d v h
     refine ⟨by omega,?_⟩
     rw [show d-i=(d-(i+1))+1 by omega]
     simpa using h2
theorem enterQ {k:FuncId} {fn:Func} {code:Code} {rs:List ResultVar} {args:List Value} {V:Value} (hf:c.P.funcs[k]?=some fn) (hb:fn.body=some code) (hrs:fn.results=⟨rs⟩) (hN:c.N=args.length+(fn.ntmps-args.length)) (hM:c.M=[])
   (h:T c (WS.own c.P) code (endQ c rs fun v _=>v=V) (frOf 0 args) []):Calls c.P k ⟨args⟩ c.w0 fun e w'=>e=.returned V∧Ext c.w0 w':=
 (enter hf hb hrs hN (fun d v hv=>(look_frOf args 0 d v hv).2) (by rw [hM];exact Has.start _) h).mono fun e w' ⟨v,H',h1,h2,h3⟩=>⟨by rw [h1,h2],by have:=h3.ext;rw [hM] at this;exact this.ext⟩
theorem q_thenN {K:Fr→Hp→Prop} (h:K F H):thenQ K Q .normal F H:=h
theorem q_thenR {K:Fr→Hp→Prop} (h:Q .ret F H):thenQ K Q .ret F H:=h
theorem q_thenE {K:Fr→Hp→Prop} {i:Nat} (h:Q (.exit i) F H):thenQ K Q (.exit i) F H:=h
theorem q_blockN {id:Nat} (h:Q .normal F H):blockQ id Q .normal F H:=h
theorem q_blockR {id:Nat} (h:Q .ret F H):blockQ id Q .ret F H:=h
theorem q_blockE {i id:Nat} (hb:Nat.beq i id=true) (h:Q .normal F H):blockQ id Q (.exit i) F H:=by
 simp only [blockQ,hb];exact h
theorem t_id {k:Code} (h:T c S k Q F H):T c S k Q F H:=h
theorem tl_id {l:List Oper} (h:TL c ops l R F H):TL c ops l R F H:=h
theorem gx_id {l:List Oper} {R:Fr→Prop} (h:GX c ops l R F H):GX c ops l R F H:=h
theorem os_id {K:Value→Hp→Prop} (h:OS c o F H K):OS c o F H K:=h
theorem ox_id {K:Value→Hp→Prop} (h:OX c o F H K):OX c o F H K:=h
theorem os_x {K:Value→Hp→Prop} (_:isX o.op=true) (h:OX c o F H K):OS c o F H K:=.ofX h
end
theorem P0 {b:Nat} {C:List Value} {g:Tg} {H:Hp}:Pick ((b,C,g)::H) b C g H:=.head b C g H
theorem P1 {x:Nat×List Value×Tg} {H H':Hp} {b:Nat} {C:List Value} {g:Tg} (h:Pick H b C g H'):Pick (x::H) b C g (x::H'):=.tail h
structure Blks (n:Nat) (H:Hp) (W:World):Prop where
 blk:∀ x∈H,n≤x.1∧Blk W x.1 x.2.1 x.2.2
 nodup:(H.map Prod.fst).Nodup
def NoM (H:Hp):Prop:=∀ x∈H,∀ t L,x.2.2≠mapTg t L
def parF:List (Nat×Value)→Fr→Fr
 | [],F=>F
 | (p,v)::l,F=>parF l ((p,v)::F)
def QB {α ι κ:Type} (hp:ι→Hp) (Pi:List α→ι→Prop) (hl:κ→Hp) (Pl:Code→List α→κ→Prop) (xs:List α):QS
 | .normal,_,H'=>∃ j,Pi xs j∧HpSub H' (hp j)
 | .ret,_,H'=>∃ j,Pl .ret xs j∧HpSub H' (hl j)
 | .exit id,_,H'=>∃ j,Pl (.exit id) xs j∧HpSub H' (hl j)
 | _,_,_=>False
section
variable {c:Cx} {F:Fr} {H:Hp} {g:Operand} {ps:Array Tmp} {assign body:Code} {α ι κ β:Type} {Q:QS}
def SL0 (c:Cx):Code→(Fr→Hp→Prop)→Fr→Hp→Prop
 | .region _ ops false,R,F,H=>noDefer ops=true∧TL c ops ops.toList R F H
 | .seq x y,R,F,H=>SL0 c x (fun F H=>SL0 c y R F H) F H
 | _,_,_,_=>False
structure RangeOk (c:Cx) (F:Fr) (ns:List Nat) (hk:Hp) (ps:Array Tmp) (assign body:Code) (m:Nat) (encs:α→List Value) (N:Nat)
   (hp:ι→Hp) (Pi:List α→ι→Prop) (bx:α→β→Hp) (fx:α→β→Fr) (hl:κ→Hp) (Pl:Code→List α→κ→Prop):Prop where
 size:∀ x,(encs x).length=ps.size
 slots:(ps.toList.all fun p=>Nat.blt p c.N)=true
 assign_:∀ (x:α) (W:World),SL0 { c with w0:=W,M:=[] } assign (fun F' H'=>∃ bs,FrSub F' (fx x bs)∧HpSub H' (bx x bs)) (parF (ps.toList.zip (encs x)) F) []
 disj:∀ x bs i n W D,Blks n (bx x bs) W→Has c.w0 ⟨c.M,D⟩ (hp i++hk) W→(∀ b∈ns,b<n)→∀ y∈bx x bs,∀ z∈hp i++hk,y.1≠z.1
 body_:∀ (l:Nat) (pre:List α) (x:α) (i:ι) (bs:β) (W:World) (D:List Nat),Pi pre i→Has c.w0 ⟨c.M,D⟩ (bx x bs++hp i++hk) W→pre.length<N→(∃ r,W.heap[l]?=some (.loop r)) →
   T { c with w0:=W,M:=(bx x bs++hp i).map Prod.fst } (WS.round c.P l m) body (QB hp Pi hl Pl (pre++[x])) (fx x bs) (bx x bs++hp i)
 nob:∀ x bs,NoM (bx x bs)
 nop:∀ i,NoM (hp i)
 nok:NoM hk
 nol:∀ j,NoM (hl j)
end
/-! Calls that hand out memory -/
theorem Has.call {w0:World} {M D:List Nat} {H H':Hp} {w w':World} (h:Has w0 ⟨M,D⟩ H w) (k:Has w ⟨[],[]⟩ H' w'):Has w0 ⟨M,D⟩ (H'++H) w':=by
 have h':=h.grow k.ext.ext
 have own:∀ x∈H',w.heap.size≤x.1:=fun x hx=>by
   rcases (k.blk x hx).1 with h1|h1
   · exact h1
   · exact (List.not_mem_nil h1).elim
 refine ⟨h'.ext,fun x hx=>?_,?_,h'.marks⟩
 · rcases List.mem_append.1 hx with hx|hx
   · exact ⟨.inl (Nat.le_trans h.ext.size (own x hx)),(k.blk x hx).2⟩
   · exact h'.blk x hx
 · rw [List.map_append,List.nodup_append]
   refine ⟨k.nodup,h.nodup,fun a ha b hb=>?_⟩
   obtain ⟨x,hx,rfl⟩:=List.mem_map.1 ha
   obtain ⟨y,hy,rfl⟩:=List.mem_map.1 hb
   have h1:=own x hx
   have h2:=(h.blk y hy).2.lt
   omega
section
variable {c:Cx} {F:Fr} {H:Hp} {K:Value→Hp→Prop} {d:Option Tmp} {ty:TypeId} {pos:String} {af:Array Edge} {g:Option (Nat×Bool)}
theorem os_callF {f:Operand} {args:Array Operand} {T:Array TypeId} {k:Nat} {fst cap vs:List Value} {PV:Value→Hp→Prop} (hf:ev F f=some (.func (.func k) ⟨fst⟩ ⟨cap⟩)) (hc:∀ (a:Array Value) (w:World),(callFunc k a).run c.P w=.ok (.enter k a) w)
   (ha:evs F args.toList=some vs) (h:∀ D w,Has c.w0 ⟨c.M,D⟩ H w→Calls c.P k ⟨fst++vs++cap⟩ w fun e w'=>∃ v H',e=.returned v∧PV v H'∧Has w ⟨[],[]⟩ H' w')
   (hk:∀ v H',PV v H'→K v (H'++H)):OS c ⟨d,.call ⟨.value f,args,T⟩,ty,pos,af,g⟩ F H K:=
 os_call hf hc ha fun D w hw=>(h D w hw).mono fun e w' ⟨v,H',h1,h2,h3⟩=>⟨v,H'++H,h1,hk v H' h2,hw.call h3⟩
end
theorem Blk.rows {w:World} {b n k:Nat} {rows:List (List Value)} {g:Tg} (h:Blk w b rows.flatten g) (hl:rows.length=n) (hk:∀ r∈rows,r.length=k):RdS w k (some ⟨b,0,none⟩) n rows:=by
 refine ⟨hl,fun _=>⟨b,0,rfl,h.lt,fun i x hx=>⟨hk x (List.mem_of_getElem? hx),fun j u hu=>?_⟩⟩⟩
 refine h.cell ?_
 rw [Nat.zero_add]
 clear h hl
 induction rows generalizing i with
 | nil=>simp at hx
 | cons r rows ih=>
   have hr:=hk r (List.mem_cons_self ..)
   cases i with
   | zero=>
     obtain rfl:r=x:=by simpa using hx
     have hj:=(List.getElem?_eq_some_iff.1 hu).1
     simp only [List.flatten_cons,Nat.zero_mul,Nat.zero_add]
     rw [List.getElem?_append_left hj];exact hu
   | succ i=>
     have:=ih (fun r hr=>hk r (List.mem_cons_of_mem _ hr)) i (by simpa using hx)
     simp only [List.flatten_cons]
     rw [List.getElem?_append_right (by rw [hr,Nat.succ_mul];omega)]
     rw [← this];congr 1;rw [hr,Nat.succ_mul];omega
theorem Has.cellAt {w0:World} {M:Ms} {H H':Hp} {w:World} {b o:Nat} {C:List Value} {g:Tg} {v:Value} (h:Has w0 M H w) (p:Pick H b C g H') (ho:C[o]?=some v):w.cell? ⟨b,o,none⟩=some v:=(h.blk _ p.mem).2.cell ho
theorem Has.oldc {w0:World} {M:Ms} {H:Hp} {w:World} {b o:Nat} {v:Value} (h:Has w0 M H w) (hc:w0.cell? ⟨b,o,none⟩=some v) (hm:b∉M.wr):w.cell? ⟨b,o,none⟩=some v:=by
 rw [World.cell?_of_block (w:=w0) (a:=⟨b,o,none⟩) (h.ext.block b (cell_lt hc) hm)]
 exact hc
theorem Has.oldoff {w0:World} {M:Ms} {H:Hp} {w:World} (h:Has w0 M H w) {b:Nat} (hb:b<w0.heap.size) (hm:b∉M.wr):b∉H.map Prod.fst:=fun hh=>by
 obtain ⟨x,hx,rfl⟩:=List.mem_map.1 hh
 rcases (h.blk x hx).1 with h1|h1
 · omega
 · exact hm h1
theorem RdS.extM {M:List Nat} {w w':World} {k:Nat} {A:Option Addr} {n:Nat} {xs:List (List Value)} (h:RdS w k A n xs) (he:ExtM M w w') (hA:0<n→∀ b o,A=some ⟨b,o,none⟩→b∉M):RdS w' k A n xs:=
 ⟨h.len,fun hn=>by
   obtain ⟨b,o,rfl,hb,hc⟩:=h.at_ hn
   refine ⟨b,o,rfl,Nat.lt_of_lt_of_le hb he.size,fun i x hx=>⟨(hc i x hx).1,fun j u hu=>?_⟩⟩
   have:=(hc i x hx).2 j u hu
   rw [World.cell?_of_block (w:=w) (a:=⟨b,o+i*k+j,none⟩) (he.block b hb (hA hn b o rfl))]
   exact this⟩
theorem enterF {c:Cx} {k:FuncId} {fn:Func} {code:Code} {rs:List ResultVar} {args:List Value} {PV:Value→Hp→Prop} (hf:c.P.funcs[k]?=some fn) (hb:fn.body=some code) (hrs:fn.results=⟨rs⟩) (hN:c.N=args.length+(fn.ntmps-args.length)) (hM:c.M=[])
   (h:T c (WS.own c.P) code (endQ c rs fun v H=>∃ H',PV v H'∧HpSub H H') (frOf 0 args) []):Calls c.P k ⟨args⟩ c.w0 fun e w'=>∃ v H',e=.returned v∧PV v H'∧Has c.w0 ⟨[],[]⟩ H' w':=
 (enter hf hb hrs hN (fun d v hv=>(look_frOf args 0 d v hv).2) (by rw [hM];exact Has.start _) h).mono fun e w' ⟨v,H',h1,⟨G,h2,h3⟩,h4⟩=>⟨v,G,h1,h2,by rw [hM] at h4;exact h4.sub h3⟩
theorem Norm.self:∀ (l:List Value),Norm l l
 | []=>.nil rfl
 | _::l=>.cons rfl (Norm.self l)
def flatV:Value→Bool
 | .agg _=>false
 | _=>true
theorem flatV_cells {v:Value} (h:flatV v=true):cellsL v=[v]:=by
 cases v<;>first|rfl|cases h
def pickV:List (Nat×Value)→Nat→Option (List Value)
 | [],_=>some []
 | (j,v)::l,i=>match Nat.beq j i && flatV v,pickV l (i+1) with
   | true,some r=>some (v::r)
   | _,_=>none
theorem pickV_fill:∀ (vs:List (Nat×Value)) (k:Nat) (C r:List Value),pickV vs k=some r→k+vs.length=C.length→r.length=vs.length∧fillL (fun i=>some (i*1,1)) C vs=some (C.take k++r)
 | [],k,C,r,h,hl=>by
   simp only [pickV,Option.some.injEq] at h
   subst h
   simp at hl
   subst hl
   exact ⟨rfl,by simp [fillL]⟩
 | (j,v)::l,k,C,r,h,hl=>by
   simp only [pickV] at h
   split at h
   · rename_i r' h1 h2
     simp only [Bool.and_eq_true] at h1
     have hj:j=k:=Nat.eq_of_beq_eq_true h1.1
     subst hj
     cases h
     have hC:(setL C j [v]).length=C.length:=setL_length _ _ _
     simp only [List.length_cons] at hl
     obtain ⟨g1,g2⟩:=pickV_fill l (j+1) (setL C j [v]) r' h2 (by omega)
     refine ⟨by simp [g1],?_⟩
     simp only [fillL,flatV_cells h1.2,Nat.mul_one]
     have hb:Nat.ble (j+1) C.length=true:=Nat.ble_eq_true_of_le (by omega)
     have hb2:(Nat.beq [v].length 1 && Nat.ble (j+1) C.length)=true:=by rw [hb];rfl
     rw [hb2]
     simp only [Nat.mul_one] at g2
     rw [g2]
     simp only [setL]
     congr 1
     rw [List.take_add_one,List.getElem?_set_self (by omega),List.take_set_of_le (Nat.le_refl _)]
     simp
   · cases h
section
variable {c:Cx} {F:Fr} {H:Hp} {K:Value→Hp→Prop} {d:Option Tmp} {ty:TypeId} {pos:String} {af:Array Edge} {g:Option (Nat×Bool)}
theorem ox_buildSlice1 {t:Nat} {a0 a1:Bool} {s0 e len:Nat} {z0 z1 r:List Value} {k1:TyK} {parts:List (Nat×Operand)} {vs:List (Nat×Value)} (ht:tyAt c.tys t=some ⟨a0,s0,z0,.slice e⟩) (he:tyAt c.tys e=some ⟨a1,1,z1,k1⟩) (hp:evp F parts=some vs)
   (hf:pickV vs 0=some r) (hb:Nat.ble len 1000000=true) (hs:Nat.beq vs.length len=true)
   (k:∀ b,K (.slice (some ⟨b,0,none⟩) len len) ((b,r,some (e,1,len))::H)):OX c ⟨d,.buildSlice t len ⟨parts⟩,ty,pos,af,g⟩ F H K:=by
 have hl:vs.length=len:=Nat.eq_of_beq_eq_true hs
 obtain ⟨h1,h2⟩:=pickV_fill vs 0 ((List.range (len*1)).map fun j=>z1.toArray[j % z1.toArray.size]!) r hf (by simp [hl])
 exact ox_buildSlice ht he hp h2 (Norm.self _) (by simpa using hb) (by rw [List.take_zero,List.nil_append,h1,hl,Nat.mul_one];exact Nat.beq_refl _) rfl (fun b=>by simpa using k b)
end
theorem setL_eq:∀ (l C:List Value) (o:Nat),o+l.length≤C.length→setL C o l=C.take o++l++C.drop (o+l.length)
 | [],C,o,_=>by simp [setL]
 | v::l,C,o,h=>by
   simp only [List.length_cons] at h
   have ih:=setL_eq l (C.set o v) (o+1) (by simp;omega)
   simp only [setL]
   rw [ih,List.take_add_one,List.getElem?_set_self (by omega),List.take_set_of_le (Nat.le_refl _),List.drop_set_of_lt (by omega)]
   simp only [List.length_cons,Option.toList,List.append_assoc,List.cons_append,List.nil_append]
   rw [show o+1+l.length=o+(l.length+1) by omega]
def pick2:List (Nat×Value)→Nat→Option (List Value)
 | [],_=>some []
 | (j,v)::l,i=>match Nat.beq j i,v,pick2 l (i+1) with
   | true,.agg ⟨[a,b]⟩,some r=>some (a::b::r)
   | _,_,_=>none
theorem pick2_fill:∀ (vs:List (Nat×Value)) (k:Nat) (C r:List Value),pick2 vs k=some r→(k+vs.length)*2=C.length→r.length=vs.length*2∧fillL (fun i=>some (i*2,2)) C vs=some (C.take (k*2)++r)
 | [],k,C,r,h,hl=>by
   simp only [pick2,Option.some.injEq] at h
   subst h
   simp at hl
   exact ⟨rfl,by simp [fillL,hl]⟩
 | (j,v)::l,k,C,r,h,hl=>by
   simp only [pick2] at h
   split at h
   · rename_i a b r' h1 h2
     have hj:j=k:=Nat.eq_of_beq_eq_true h1
     subst hj
     cases h
     simp only [List.length_cons] at hl
     have hC:(setL C (j*2) [a,b]).length=C.length:=setL_length _ _ _
     obtain ⟨g1,g2⟩:=pick2_fill l (j+1) (setL C (j*2) [a,b]) r' h2 (by omega)
     refine ⟨by simp [g1];omega,?_⟩
     have hb2:(Nat.beq (cellsL (.agg ⟨[a,b]⟩)).length 2 && Nat.ble (j*2+2) C.length)=true:=by
       rw [Nat.ble_eq_true_of_le (by omega)];rfl
     simp only [fillL]
     rw [hb2]
     simp only
     rw [show cellsL (.agg ⟨[a,b]⟩)=[a,b] from rfl,g2,setL_eq _ _ _ (by simp;omega)]
     have ht:(C.take (j*2)++[a,b]++C.drop (j*2+[a,b].length)).take ((j+1)*2)=C.take (j*2)++[a,b]:=by
       rw [List.take_append_of_le_length (by simp;omega)]
       exact List.take_of_length_le (by simp;omega)
     rw [ht]
     simp
   · cases h
section
variable {c:Cx} {F:Fr} {H:Hp} {K:Value→Hp→Prop} {d:Option Tmp} {ty:TypeId} {pos:String} {af:Array Edge} {g:Option (Nat×Bool)}
theorem ox_buildSlice2 {t:Nat} {a0 a1:Bool} {s0 e len:Nat} {z0 z1 r:List Value} {k1:TyK} {parts:List (Nat×Operand)} {vs:List (Nat×Value)} (ht:tyAt c.tys t=some ⟨a0,s0,z0,.slice e⟩) (he:tyAt c.tys e=some ⟨a1,2,z1,k1⟩) (hp:evp F parts=some vs)
   (hf:pick2 vs 0=some r) (hb:Nat.ble (len*2) 1000000=true) (hs:Nat.beq vs.length len=true)
   (k:∀ b,K (.slice (some ⟨b,0,none⟩) len len) ((b,r,some (e,2,len))::H)):OX c ⟨d,.buildSlice t len ⟨parts⟩,ty,pos,af,g⟩ F H K:=by
 have hl:vs.length=len:=Nat.eq_of_beq_eq_true hs
 obtain ⟨h1,h2⟩:=pick2_fill vs 0 ((List.range (len*2)).map fun j=>z1.toArray[j % z1.toArray.size]!) r hf (by simp [hl])
 exact ox_buildSlice ht he hp h2 (Norm.self _) hb (by rw [Nat.zero_mul,List.take_zero,List.nil_append,h1,hl];exact Nat.beq_refl _) rfl (fun b=>by simpa using k b)
end
def InU (z:Int):Prop:=0≤z∧z≤18446744073709551615
theorem wrapU {z:Int} (h:InU z):IntKind.u64.wrap z=z:=IntWalk.u64_in _ h
section
variable {c:Cx} {F:Fr} {H:Hp} {d:Option Tmp} {ty t t':TypeId} {pos:String} {af:Array Edge} {g:Option (Nat×Bool)} {x y:Operand} {m n:Int}
theorem oq_addU (hx:ev F x=some (.int .u64 m)) (hy:ev F y=some (.int .u64 n)) (hr:InU (m+n)):OQ c ⟨d,.binOp .add t x y t',ty,pos,af,g⟩ F H (.int .u64 (m+n)):=.of fun D a w ha _=>by
 have:=wrapU hr
 simp [execOp,ha.ev hx,ha.ev hy,eqGuard,binOp,Op.intArith,go_sem,this]
theorem oq_mulU (hx:ev F x=some (.int .u64 m)) (hy:ev F y=some (.int .u64 n)) (hr:InU (m*n)):OQ c ⟨d,.binOp .mul t x y t',ty,pos,af,g⟩ F H (.int .u64 (m*n)):=.of fun D a w ha _=>by
 have:=wrapU hr
 simp [execOp,ha.ev hx,ha.ev hy,eqGuard,binOp,Op.intArith,go_sem,this]
theorem oq_quoU (hx:ev F x=some (.int .u64 m)) (hy:ev F y=some (.int .u64 n)) (h0:n≠0) (hr:InU (m.tdiv n)):OQ c ⟨d,.binOp .quo t x y t',ty,pos,af,g⟩ F H (.int .u64 (m.tdiv n)):=.of fun D a w ha _=>by
 have:=wrapU hr
 simp [execOp,ha.ev hx,ha.ev hy,eqGuard,binOp,Op.intDiv,go_sem,this,h0]
theorem oq_remU (hx:ev F x=some (.int .u64 m)) (hy:ev F y=some (.int .u64 n)) (h0:n≠0):OQ c ⟨d,.binOp .rem t x y t',ty,pos,af,g⟩ F H (.int .u64 (m.tmod n)):=.of fun D a w ha _=>by
 simp [execOp,ha.ev hx,ha.ev hy,eqGuard,binOp,Op.intDiv,go_sem,h0]
theorem oq_shr {k k':IntKind} (hx:ev F x=some (.int k m)) (hy:ev F y=some (.int k' n)) (h0:0≤n):OQ c ⟨d,.binOp .shr t x y t',ty,pos,af,g⟩ F H (.int k (m.fdiv (2 ^ (min n.toNat k.bits)))):=.of fun D a w ha _=>by
 have:¬ n<0:=by omega
 simp [execOp,ha.ev hx,ha.ev hy,eqGuard,binOp,Op.shift,go_sem,this]
theorem and_mask {a:Int} {j:Nat} (h:InU a) (hj:j<64):(BitVec.ofInt 64 a &&& BitVec.ofInt 64 (2 ^ j-1)).toNat=(a % 2 ^ j).toNat:=by
 have h1:((2:Int) ^ j-1)=((2 ^ j-1:Nat):Int):=by
   have:0<2 ^ j:=Nat.pow_pos (by omega)
   rw [Int.ofNat_sub (by omega)];simp
 have ha:a=(a.toNat:Int):=(Int.toNat_of_nonneg h.1).symm
 have hlt:a.toNat<2 ^ 64:=by have:=h.2;omega
 have hp:2 ^ j-1<2 ^ 64:=by
   have:2 ^ j<2 ^ 64:=Nat.pow_lt_pow_right (by omega) hj
   omega
 rw [h1,ha,BitVec.ofInt_natCast,BitVec.ofInt_natCast,BitVec.toNat_and,BitVec.toNat_ofNat,BitVec.toNat_ofNat,Nat.mod_eq_of_lt hlt,Nat.mod_eq_of_lt hp,Nat.and_two_pow_sub_one_eq_mod]
 have:((a.toNat:Int) % 2 ^ j)=((a.toNat % 2 ^ j:Nat):Int):=by simp
 rw [this,Int.toNat_natCast]
theorem oq_andU {j:Nat} (hx:ev F x=some (.int .u64 m)) (hy:ev F y=some (.int .u64 (2 ^ j-1))) (h:InU m) (hj:j<64):OQ c ⟨d,.binOp .and t x y t',ty,pos,af,g⟩ F H (.int .u64 (m % 2 ^ j)):=.of fun D a w ha _=>by
 have hm:=and_mask h hj
 have hp:(0:Int)<2 ^ j:=Int.pow_pos (by omega)
 have h0:=Int.emod_nonneg m (Int.ne_of_gt hp)
 have h1:m % 2 ^ j≤m:=by
   rw [Int.emod_def]
   exact Int.sub_le_self _ (Int.mul_nonneg (Int.le_of_lt hp) (Int.ediv_nonneg h.1 (Int.le_of_lt hp)))
 have hw:IntKind.u64.wrap (((BitVec.ofInt IntKind.u64.bits m &&& BitVec.ofInt IntKind.u64.bits (2 ^ j-1)).toNat:Nat):Int)=m % 2 ^ j:=by
   rw [show (BitVec.ofInt IntKind.u64.bits m &&& BitVec.ofInt IntKind.u64.bits (2 ^ j-1)).toNat=(m % 2 ^ j).toNat from hm,Int.toNat_of_nonneg h0]
   exact wrapU ⟨h0,by have:=h.2;omega⟩
 simp only [execOp,ha.ev hx,ha.ev hy,eqGuard,binOp,Op.intBits]
 rw [hw]
 simp [go_sem]
theorem oq_convU {a0 a1:Bool} {s0 s1:Nat} {z0 z1:List Value} {k:IntKind} (ht:tyAt c.tys t=some ⟨a0,s0,z0,.int k⟩) (ht':tyAt c.tys t'=some ⟨a1,s1,z1,.int .u64⟩) (hx:ev F x=some (.int k m)) (hr:InU m) :
   OQ c ⟨d,.convert t t' x,ty,pos,af,g⟩ F H (.int .u64 m):=.of fun D a w ha _=>by
 have h:=(c.ty ht).kind
 have h2:=h w
 have h':=(c.ty ht').kind
 have h3:=h' w
 have:=wrapU hr
 simp [execOp,ha.ev hx,convert,go_sem,h2,h3,Conv.intToInt,this]
theorem oq_shr32 {k':IntKind} (hx:ev F x=some (.int .u64 m)) (hy:ev F y=some (.int k' 32)) (_:0≤m):OQ c ⟨d,.binOp .shr t x y t',ty,pos,af,g⟩ F H (.int .u64 (m / 4294967296)):=by
 have:=oq_shr (c:=c) (d:=d) (ty:=ty) (t:=t) (t':=t') (pos:=pos) (af:=af) (g:=g) (H:=H) hx hy (by omega)
 rw [show (2:Int) ^ (min (32:Int).toNat IntKind.u64.bits)=4294967296 from rfl,Int.fdiv_eq_ediv_of_nonneg _ (by omega)] at this
 exact this
theorem oq_shrLow {k':IntKind} (hx:ev F x=some (.int .u64 m)) (hy:ev F y=some (.int k' 32)) (h:0≤m∧m<4294967296):OQ c ⟨d,.binOp .shr t x y t',ty,pos,af,g⟩ F H (.int .u64 0):=by
 have:=oq_shr32 (c:=c) (d:=d) (ty:=ty) (t:=t) (t':=t') (pos:=pos) (af:=af) (g:=g) (H:=H) hx hy h.1
 rw [show m / 4294967296=0 by omega] at this
 exact this
theorem oq_andLow (hx:ev F x=some (.int .u64 m)) (hy:ev F y=some (.int .u64 4294967295)) (h:0≤m∧m<4294967296):OQ c ⟨d,.binOp .and t x y t',ty,pos,af,g⟩ F H (.int .u64 m):=by
 have:=oq_andU (c:=c) (d:=d) (ty:=ty) (t:=t) (t':=t') (pos:=pos) (af:=af) (g:=g) (H:=H) (j:=32) hx hy ⟨h.1,by omega⟩ (by omega)
 rw [show m % 2 ^ 32=m by omega] at this
 exact this
end
theorem flatten_at {k:Nat}:∀ {rows:List (List Value)},(∀ r∈rows,r.length=k)→∀ {j:Nat} {u:Value},rows.flatten[j]?=some u→∃ i r j',rows[i]?=some r∧r[j']?=some u∧j=i*k+j'
 | [],_,j,u,h=>by simp at h
 | r::rows,hk,j,u,h=>by
   simp only [List.flatten_cons] at h
   have hr:=hk r (List.mem_cons_self ..)
   by_cases hj:j<r.length
   · rw [List.getElem?_append_left hj] at h
     exact ⟨0,r,j,rfl,h,by simp⟩
   · rw [List.getElem?_append_right (by omega)] at h
     obtain ⟨i,r',j',h1,h2,h3⟩:=flatten_at (fun r hr=>hk r (List.mem_cons_of_mem _ hr)) h
     exact ⟨i+1,r',j',by simpa using h1,h2,by rw [Nat.succ_mul];omega⟩
theorem flatten_len {k:Nat}:∀ {rows:List (List Value)},(∀ r∈rows,r.length=k)→rows.flatten.length=rows.length*k
 | [],_=>by simp
 | r::rows,hk=>by
   rw [List.flatten_cons,List.length_append,hk r (List.mem_cons_self ..),flatten_len fun r hr=>hk r (List.mem_cons_of_mem _ hr),List.length_cons,Nat.succ_mul]
   omega
section
variable {c:Cx} {F:Fr} {H H':Hp} {C:List Value} {K:Value→Hp→Prop} {d:Option Tmp} {ty:TypeId} {pos:String} {af:Array Edge} {g:Option (Nat×Bool)}
theorem append_run0 {g0:Option (Nat×Bool)} {s x:Operand} {t e size bytes c2 n cap gb:Nat} {A:Option Addr} {a:Act} {w:World} (hk:AppOk c.P t e size bytes) (hs:a.eval s=.slice (some ⟨gb,0,none⟩) n cap)
   (hx:a.eval x=.slice A 0 c2) (hn:n≤cap):(execOp a.eval ⟨d,.call ⟨.builtin .append,#[s,x],#[t,t]⟩,ty,pos,af,g0⟩).run c.P w=.ok (.value (.slice (some ⟨gb,0,none⟩) n cap)) w:=by
 obtain ⟨i,z,k1,k2,k3,k4,k5⟩:=hk.info
 have ht:=hk.und
 cases A <;>
 simp [execOp,resolve,invoke,builtin,Sem.run_bind,Sem.run_pure,Result.andThen,hs,hx,Builtin.append_,run_underlying ht,sizeOf,typeInfo,k1,Builtin.lenOf,Builtin.firstCells,loadCells,loadCellsFrom,hn,storeCells]
theorem os_appendRows {s x:Operand} {t e size bytes m c2 n cap gb:Nat} {A:Option Addr} {rows:List (List Value)} (hk:AppOk c.P t e size bytes) (hs:ev F s=some (.slice (some ⟨gb,0,none⟩) n cap)) (hx:ev F x=some (.slice A m c2))
   (hp:Pick H gb C (some (e,size,cap)) H') (hr:∀ D w,Has c.w0 ⟨c.M,D⟩ H w→RdS w size A m rows) (hrk:∀ r∈rows,r.length=size) (hC:C.length=n*size) (h1:∀ r∈rows,∀ u∈r,u.oneCell'=true) (hn:n≤cap) (hb:(n+m)*bytes≤140737488355328) (hmax:n+m≤9223372036854775807)
   (k:∀ b cap',K (.slice (some ⟨b,0,none⟩) (n+m) cap') ((b,C++rows.flatten,some (e,size,cap'))::H')):OS c ⟨d,.call ⟨.builtin .append,#[s,x],#[t,t]⟩,ty,pos,af,g⟩ F H K:=by
 intro D a w ha hw
 have hw':=hw.perm hp.perm
 have hR:=hr D w hw
 have hlen:=hR.len
 by_cases hm:m=0
 · subst hm
   have:rows=[]:=List.eq_nil_of_length_eq_zero hlen
   subst this
   rw [append_run0 (d:=d) (ty:=ty) (pos:=pos) (af:=af) (g0:=g) hk (ha.ev hs) (ha.ev hx) hn]
   exact ⟨_,k gb cap,by simpa using hw'⟩
 · obtain ⟨b2,o2,rfl,_,hc⟩:=hR.at_ (by omega)
   obtain ⟨g',cap',w',r1,r2,r3,r4⟩:=append_run (d:=d) (ty:=ty) (pos:=pos) (af:=af) (g0:=g) (news:=rows.flatten) hk (ha.ev hs) (own_of_blk (hw'.blk _ (List.mem_cons_self ..)).2 hC hk.pos) (ha.ev hx) (by rw [flatten_len hrk,hlen])
     (fun j u hj=>by
       obtain ⟨i,r,j',h2,h3,rfl⟩:=flatten_at hrk hj
       have:=(hc i r h2).2 j' u h3
       rw [Nat.add_assoc] at this
       exact this)
     (fun u hu=>by
       obtain ⟨r,h2,h3⟩:=List.mem_flatten.1 hu
       exact h1 r h2 u h3) (by omega) hb hmax
   rw [r1]
   have he:ExtM [gb] w w':=ExtM.of_grown r3 (fun k e=>by simpa [Value.ownBlock] using e.symm)
   refine ⟨_,k g' cap',?_⟩
   rcases r4 with r4|r4
   · obtain rfl:g'=gb:=by simpa [Value.ownBlock] using r4
     exact hw'.wrote he r2
   · subst r4
     exact (hw'.lost he).fresh' (w:=w) hw.ext.size (fun y hy=>(hw'.blk y (List.mem_cons_of_mem _ hy)).2.lt) r2
end
def FOk (P:Program):List Field→List (Nat×Nat×Bool)→Prop
 | [],[]=>True
 | d::ds,(off,n,g)::fs=>d.offset=off∧(∀ w,(sizeOf d.type).run P w=.ok n w)∧(∀ w,(isAgg d.type).run P w=.ok g w)∧FOk P ds fs
 | _,_=>False
theorem FOk.len {P:Program} {ds:Array Field} {fs:List (Nat×Nat×Bool)} (h:FOk P ds.toList fs):ds.size=fs.length:=by
 have:∀ (l:List Field) (fs:List (Nat×Nat×Bool)),FOk P l fs→l.length=fs.length:=by
   intro l
   induction l with
   | nil=>intro fs h;cases fs with|nil=>rfl|cons a b=>exact h.elim
   | cons d l ih=>intro fs h;cases fs with|nil=>exact h.elim|cons a b=>obtain ⟨x,y,z⟩:=a;simp [ih b h.2.2.2]
 simpa using this _ _ h
theorem FOk.at_ {P:Program}:∀ {ds:List Field} {fs:List (Nat×Nat×Bool)},FOk P ds fs→∀ (f off n:Nat) (g:Bool),fs[f]?=some (off,n,g) →
     ∃ d:Field,ds[f]?=some d∧d.offset=off∧(∀ w,(sizeOf d.type).run P w=.ok n w)∧∀ w,(isAgg d.type).run P w=.ok g w
 | [],[],_,f,off,n,g,h=>by simp at h
 | [],_::_,h,_,_,_,_,_=>h.elim
 | _::_,[],h,_,_,_,_,_=>h.elim
 | d::ds,(off',n',g')::fs,h,0,off,n,g,hf=>by
   obtain ⟨rfl,rfl,rfl⟩:off'=off∧n'=n∧g'=g:=by simpa using hf
   exact ⟨d,rfl,h.1,h.2.1,h.2.2.1⟩
 | d::ds,(off',n',g')::fs,h,f+1,off,n,g,hf=>by
   obtain ⟨d',h1,h2⟩:=FOk.at_ h.2.2.2 f off n g (by simpa using hf)
   exact ⟨d',by simpa using h1,h2⟩
theorem struct_ok {P:Program} {t:Nat} {ds:Array Field} {fs:List (Nat×Nat×Bool)} (hu:∀ w,(underlying t).run P w=.ok (.struct ds) w) (h:FOk P ds.toList fs):KindOk P t (.struct fs):=
 ⟨ds,hu,h.len,fun f off n g hf=>by
   obtain ⟨d,h1,h2⟩:=h.at_ f off n g hf
   exact ⟨d,by simpa using h1,h2⟩⟩
theorem ty_ok3 : TyOk Try.prog 3 ⟨false, 1, [(.int .i64 0)], .int .i64⟩ := ⟨Try.isAgg3, Try.sizeOf3, fun w => ⟨_, Try.zeroValue3 w, rfl⟩, rfl, Try.runUnderlying3⟩ -- int
theorem ty_ok4 : TyOk Try.prog 4 ⟨false, 1, [(.bool false)], .other⟩ := ⟨Try.isAgg4, Try.sizeOf4, fun w => ⟨_, Try.zeroValue4 w, rfl⟩, rfl, trivial⟩ -- bool
theorem ty_ok5 : TyOk Try.prog 5 ⟨false, 1, [(.int .u8 0)], .int .u8⟩ := ⟨Try.isAgg5, Try.sizeOf5, fun w => ⟨_, Try.zeroValue5 w, rfl⟩, rfl, Try.runUnderlying5⟩ -- uint8
theorem ty_ok9 : TyOk Try.prog 9 ⟨false, 1, [(.string { data := #[] })], .other⟩ := ⟨Try.isAgg9, Try.sizeOf9, fun w => ⟨_, Try.zeroValue9 w, rfl⟩, rfl, trivial⟩ -- string
theorem ty_ok20 : TyOk Try.prog 20 ⟨false, 1, [.nilIface], .other⟩ := ⟨Try.isAgg20, Try.sizeOf20, fun w => ⟨_, Try.zeroValue20 w, rfl⟩, rfl, trivial⟩ -- interface {}
theorem ty_ok22 : TyOk Try.prog 22 ⟨false, 1, [(.slice none 0 0)], .slice 3⟩ := ⟨Try.isAgg22, Try.sizeOf22, fun w => ⟨_, Try.zeroValue22 w, rfl⟩, rfl, Try.runUnderlying22⟩ -- []int
theorem ty_ok24 : TyOk Try.prog 24 ⟨true, 3, [.int .i64 0, .int .i64 0, .slice none 0 0], .struct [(0, 1, false), (1, 1, false), (2, 1, false)]⟩ := ⟨Try.isAgg24, Try.sizeOf24, fun w => ⟨_, Try.zeroValue24 w, rfl⟩, rfl, struct_ok Try.runUnderlying24 ⟨rfl, Try.sizeOf3, Try.isAgg3, ⟨rfl, Try.sizeOf3, Try.isAgg3, ⟨rfl, Try.sizeOf22, Try.isAgg22, trivial⟩⟩⟩⟩ -- api.Terrain
theorem ty_ok25 : TyOk Try.prog 25 ⟨false, 1, [(.int .i64 0)], .int .i64⟩ := ⟨Try.isAgg25, Try.sizeOf25, fun w => ⟨_, Try.zeroValue25 w, rfl⟩, rfl, Try.runUnderlying25⟩ -- api.Errno
theorem ty_ok34 : TyOk Try.prog 34 ⟨false, 1, [(.slice none 0 0)], .slice 4⟩ := ⟨Try.isAgg34, Try.sizeOf34, fun w => ⟨_, Try.zeroValue34 w, rfl⟩, rfl, Try.runUnderlying34⟩ -- []bool
theorem ty_ok35 : TyOk Try.prog 35 ⟨false, 1, [(.slice none 0 0)], .slice 126⟩ := ⟨Try.isAgg35, Try.sizeOf35, fun w => ⟨_, Try.zeroValue35 w, rfl⟩, rfl, Try.runUnderlying35⟩ -- []api.Track
theorem ty_ok37 : TyOk Try.prog 37 ⟨true, 2, [.slice none 0 0, .slice none 0 0], .struct [(0, 1, false), (1, 1, false)]⟩ := ⟨Try.isAgg37, Try.sizeOf37, fun w => ⟨_, Try.zeroValue37 w, rfl⟩, rfl, struct_ok Try.runUnderlying37 ⟨rfl, Try.sizeOf34, Try.isAgg34, ⟨rfl, Try.sizeOf35, Try.isAgg35, trivial⟩⟩⟩ -- api.Chart
theorem ty_ok39 : TyOk Try.prog 39 ⟨true, 2, [.int .i64 0, .int .i64 0], .struct [(0, 1, false), (1, 1, false)]⟩ := ⟨Try.isAgg39, Try.sizeOf39, fun w => ⟨_, Try.zeroValue39 w, rfl⟩, rfl, struct_ok Try.runUnderlying39 ⟨rfl, Try.sizeOf3, Try.isAgg3, ⟨rfl, Try.sizeOf3, Try.isAgg3, trivial⟩⟩⟩ -- api.Span
theorem ty_ok41 : TyOk Try.prog 41 ⟨true, 7, [.int .i64 0, .int .i64 0, .int .i64 0, .int .i64 0, .int .i64 0, .int .i64 0, .int .i64 0], .struct [(0, 1, false), (1, 1, false), (2, 1, false), (3, 1, false), (4, 1, false), (5, 2, true)]⟩ := ⟨Try.isAgg41, Try.sizeOf41, fun w => ⟨_, Try.zeroValue41 w, rfl⟩, rfl, struct_ok Try.runUnderlying41 ⟨rfl, Try.sizeOf3, Try.isAgg3, ⟨rfl, Try.sizeOf3, Try.isAgg3, ⟨rfl, Try.sizeOf3, Try.isAgg3, ⟨rfl, Try.sizeOf3, Try.isAgg3, ⟨rfl, Try.sizeOf3, Try.isAgg3, ⟨rfl, Try.sizeOf39, Try.isAgg39, trivial⟩⟩⟩⟩⟩⟩⟩ -- api.Pace
theorem ty_ok42 : TyOk Try.prog 42 ⟨false, 1, [(.slice none 0 0)], .slice 59⟩ := ⟨Try.isAgg42, Try.sizeOf42, fun w => ⟨_, Try.zeroValue42 w, rfl⟩, rfl, Try.runUnderlying42⟩ -- [][]api.Gale
theorem ty_ok59 : TyOk Try.prog 59 ⟨false, 1, [(.slice none 0 0)], .slice 142⟩ := ⟨Try.isAgg59, Try.sizeOf59, fun w => ⟨_, Try.zeroValue59 w, rfl⟩, rfl, Try.runUnderlying59⟩ -- []api.Gale
theorem ty_ok61 : TyOk Try.prog 61 ⟨true, 2, [.int .i64 0, .int .i64 0], .struct [(0, 1, false), (1, 1, false)]⟩ := ⟨Try.isAgg61, Try.sizeOf61, fun w => ⟨_, Try.zeroValue61 w, rfl⟩, rfl, struct_ok Try.runUnderlying61 ⟨rfl, Try.sizeOf3, Try.isAgg3, ⟨rfl, Try.sizeOf3, Try.isAgg3, trivial⟩⟩⟩ -- api.Axis
theorem ty_ok62 : TyOk Try.prog 62 ⟨false, 1, [(.int .u16 0)], .int .u16⟩ := ⟨Try.isAgg62, Try.sizeOf62, fun w => ⟨_, Try.zeroValue62 w, rfl⟩, rfl, Try.runUnderlying62⟩ -- uint16
theorem ty_ok67 : TyOk Try.prog 67 ⟨true, 4, [.int .i64 0, .int .i64 0, .int .i64 0, .int .i64 0], .struct [(0, 2, true), (2, 2, true)]⟩ := ⟨Try.isAgg67, Try.sizeOf67, fun w => ⟨_, Try.zeroValue67 w, rfl⟩, rfl, struct_ok Try.runUnderlying67 ⟨rfl, Try.sizeOf39, Try.isAgg39, ⟨rfl, Try.sizeOf39, Try.isAgg39, trivial⟩⟩⟩ -- api.Wind
theorem ty_ok80 : TyOk Try.prog 80 ⟨true, 4, [.int .i64 0, .int .i64 0, .int .i64 0, .int .i64 0], .struct [(0, 1, false), (1, 1, false), (2, 1, false), (3, 1, false)]⟩ := ⟨Try.isAgg80, Try.sizeOf80, fun w => ⟨_, Try.zeroValue80 w, rfl⟩, rfl, struct_ok Try.runUnderlying80 ⟨rfl, Try.sizeOf3, Try.isAgg3, ⟨rfl, Try.sizeOf3, Try.isAgg3, ⟨rfl, Try.sizeOf3, Try.isAgg3, ⟨rfl, Try.sizeOf3, Try.isAgg3, trivial⟩⟩⟩⟩⟩ -- api.Duty
theorem ty_ok81 : TyOk Try.prog 81 ⟨false, 1, [(.slice none 0 0)], .slice 91⟩ := ⟨Try.isAgg81, Try.sizeOf81, fun w => ⟨_, Try.zeroValue81 w, rfl⟩, rfl, Try.runUnderlying81⟩ -- []api.Shift
theorem ty_ok84 : TyOk Try.prog 84 ⟨false, 1, [(.slice none 0 0)], .slice 22⟩ := ⟨Try.isAgg84, Try.sizeOf84, fun w => ⟨_, Try.zeroValue84 w, rfl⟩, rfl, Try.runUnderlying84⟩ -- [][]int
theorem ty_ok88 : TyOk Try.prog 88 ⟨true, 3, [.int .i64 0, .int .i64 0, .int .i64 0], .struct [(0, 1, false), (1, 1, false), (2, 1, false)]⟩ := ⟨Try.isAgg88, Try.sizeOf88, fun w => ⟨_, Try.zeroValue88 w, rfl⟩, rfl, struct_ok Try.runUnderlying88 ⟨rfl, Try.sizeOf3, Try.isAgg3, ⟨rfl, Try.sizeOf3, Try.isAgg3, ⟨rfl, Try.sizeOf3, Try.isAgg3, trivial⟩⟩⟩⟩ -- api.Trip
theorem ty_ok89 : TyOk Try.prog 89 ⟨false, 1, [(.slice none 0 0)], .slice 88⟩ := ⟨Try.isAgg89, Try.sizeOf89, fun w => ⟨_, Try.zeroValue89 w, rfl⟩, rfl, Try.runUnderlying89⟩ -- []api.Trip
theorem ty_ok91 : TyOk Try.prog 91 ⟨true, 3, [.int .i64 0, .int .i64 0, .int .i64 0], .struct [(0, 1, false), (1, 1, false), (2, 1, false)]⟩ := ⟨Try.isAgg91, Try.sizeOf91, fun w => ⟨_, Try.zeroValue91 w, rfl⟩, rfl, struct_ok Try.runUnderlying91 ⟨rfl, Try.sizeOf3, Try.isAgg3, ⟨rfl, Try.sizeOf3, Try.isAgg3, ⟨rfl, Try.sizeOf3, Try.isAgg3, trivial⟩⟩⟩⟩ -- api.Shift
theorem ty_ok92 : TyOk Try.prog 92 ⟨false, 1, [(.slice none 0 0)], .slice 222⟩ := ⟨Try.isAgg92, Try.sizeOf92, fun w => ⟨_, Try.zeroValue92 w, rfl⟩, rfl, Try.runUnderlying92⟩ -- []api.Tired
theorem ty_ok96 : TyOk Try.prog 96 ⟨false, 1, [(.slice none 0 0)], .slice 113⟩ := ⟨Try.isAgg96, Try.sizeOf96, fun w => ⟨_, Try.zeroValue96 w, rfl⟩, rfl, Try.runUnderlying96⟩ -- []api.Load
theorem ty_ok98 : TyOk Try.prog 98 ⟨true, 3, [.int .i64 0, .int .i64 0, .int .i64 0], .struct [(0, 1, false), (1, 1, false), (2, 1, false)]⟩ := ⟨Try.isAgg98, Try.sizeOf98, fun w => ⟨_, Try.zeroValue98 w, rfl⟩, rfl, struct_ok Try.runUnderlying98 ⟨rfl, Try.sizeOf3, Try.isAgg3, ⟨rfl, Try.sizeOf3, Try.isAgg3, ⟨rfl, Try.sizeOf3, Try.isAgg3, trivial⟩⟩⟩⟩ -- api.Limit
theorem ty_ok99 : TyOk Try.prog 99 ⟨false, 1, [(.slice none 0 0)], .slice 5⟩ := ⟨Try.isAgg99, Try.sizeOf99, fun w => ⟨_, Try.zeroValue99 w, rfl⟩, rfl, Try.runUnderlying99⟩ -- []uint8
theorem ty_ok101 : TyOk Try.prog 101 ⟨false, 1, [(.slice none 0 0)], .slice 111⟩ := ⟨Try.isAgg101, Try.sizeOf101, fun w => ⟨_, Try.zeroValue101 w, rfl⟩, rfl, Try.runUnderlying101⟩ -- []api.Corner
theorem ty_ok105 : TyOk Try.prog 105 ⟨true, 3, [.int .i64 0, .int .i64 0, .int .i64 0], .struct [(0, 1, false), (1, 1, false), (2, 1, false)]⟩ := ⟨Try.isAgg105, Try.sizeOf105, fun w => ⟨_, Try.zeroValue105 w, rfl⟩, rfl, struct_ok Try.runUnderlying105 ⟨rfl, Try.sizeOf3, Try.isAgg3, ⟨rfl, Try.sizeOf3, Try.isAgg3, ⟨rfl, Try.sizeOf3, Try.isAgg3, trivial⟩⟩⟩⟩ -- struct { dx int; dy int; want int }
theorem ty_ok106 : TyOk Try.prog 106 ⟨false, 1, [(.slice none 0 0)], .slice 105⟩ := ⟨Try.isAgg106, Try.sizeOf106, fun w => ⟨_, Try.zeroValue106 w, rfl⟩, rfl, Try.runUnderlying106⟩ -- []struct { dx int; dy int; want int }
theorem ty_ok108 : TyOk Try.prog 108 ⟨false, 1, [(.slice none 0 0)], .slice 228⟩ := ⟨Try.isAgg108, Try.sizeOf108, fun w => ⟨_, Try.zeroValue108 w, rfl⟩, rfl, Try.runUnderlying108⟩ -- []api.Put
theorem ty_ok111 : TyOk Try.prog 111 ⟨true, 2, [.int .i64 0, .int .i64 0], .struct [(0, 1, false), (1, 1, false)]⟩ := ⟨Try.isAgg111, Try.sizeOf111, fun w => ⟨_, Try.zeroValue111 w, rfl⟩, rfl, struct_ok Try.runUnderlying111 ⟨rfl, Try.sizeOf3, Try.isAgg3, ⟨rfl, Try.sizeOf3, Try.isAgg3, trivial⟩⟩⟩ -- api.Corner
theorem ty_ok113 : TyOk Try.prog 113 ⟨true, 4, [.int .i64 0, .int .i64 0, .int .i64 0, .int .i64 0], .struct [(0, 2, true), (2, 2, true)]⟩ := ⟨Try.isAgg113, Try.sizeOf113, fun w => ⟨_, Try.zeroValue113 w, rfl⟩, rfl, struct_ok Try.runUnderlying113 ⟨rfl, Try.sizeOf39, Try.isAgg39, ⟨rfl, Try.sizeOf39, Try.isAgg39, trivial⟩⟩⟩ -- api.Load
theorem ty_ok120 : TyOk Try.prog 120 ⟨false, 1, [.nilFunc], .other⟩ := ⟨Try.isAgg120, Try.sizeOf120, fun w => ⟨_, Try.zeroValue120 w, rfl⟩, rfl, trivial⟩ -- func(int) bool
theorem ty_ok126 : TyOk Try.prog 126 ⟨true, 5, [.int .i64 0, .int .i64 0, .int .i64 0, .int .i64 0, .int .i64 0], .struct [(0, 1, false), (1, 1, false), (2, 1, false), (3, 1, false), (4, 1, false)]⟩ := ⟨Try.isAgg126, Try.sizeOf126, fun w => ⟨_, Try.zeroValue126 w, rfl⟩, rfl, struct_ok Try.runUnderlying126 ⟨rfl, Try.sizeOf3, Try.isAgg3, ⟨rfl, Try.sizeOf3, Try.isAgg3, ⟨rfl, Try.sizeOf3, Try.isAgg3, ⟨rfl, Try.sizeOf3, Try.isAgg3, ⟨rfl, Try.sizeOf3, Try.isAgg3, trivial⟩⟩⟩⟩⟩⟩ -- api.Track
theorem ty_ok128 : TyOk Try.prog 128 ⟨false, 1, [(.pointer none)], .ptr 198⟩ := ⟨Try.isAgg128, Try.sizeOf128, fun w => ⟨_, Try.zeroValue128 w, rfl⟩, rfl, Try.runUnderlying128⟩ -- *route.desk
theorem ty_ok134 : TyOk Try.prog 134 ⟨true, 2, [.int .i64 0, .bool false], .struct [(0, 1, false), (1, 1, false)]⟩ := ⟨Try.isAgg134, Try.sizeOf134, fun w => ⟨_, Try.zeroValue134 w, rfl⟩, rfl, struct_ok Try.runUnderlying134 ⟨rfl, Try.sizeOf3, Try.isAgg3, ⟨rfl, Try.sizeOf4, Try.isAgg4, trivial⟩⟩⟩ -- route.flown
theorem ty_ok142 : TyOk Try.prog 142 ⟨true, 6, [.int .i64 0, .int .i64 0, .int .i64 0, .int .i64 0, .int .i64 0, .int .i64 0], .struct [(0, 1, false), (1, 4, true), (5, 1, false)]⟩ := ⟨Try.isAgg142, Try.sizeOf142, fun w => ⟨_, Try.zeroValue142 w, rfl⟩, rfl, struct_ok Try.runUnderlying142 ⟨rfl, Try.sizeOf3, Try.isAgg3, ⟨rfl, Try.sizeOf67, Try.isAgg67, ⟨rfl, Try.sizeOf3, Try.isAgg3, trivial⟩⟩⟩⟩ -- api.Gale
theorem ty_ok145 : TyOk Try.prog 145 ⟨false, 1, [.nilFunc], .other⟩ := ⟨Try.isAgg145, Try.sizeOf145, fun w => ⟨_, Try.zeroValue145 w, rfl⟩, rfl, trivial⟩ -- func(api.Wind) api.Span
theorem ty_ok147 : TyOk Try.prog 147 ⟨true, 4, [.int .i64 0, .int .i64 0, .int .i64 0, .int .i64 0], .array 2 39⟩ := ⟨Try.isAgg147, Try.sizeOf147, fun w => ⟨_, Try.zeroValue147 w, rfl⟩, rfl, Try.runUnderlying147⟩ -- [2]api.Span
theorem ty_ok157 : TyOk Try.prog 157 ⟨false, 1, [.nilFunc], .other⟩ := ⟨Try.isAgg157, Try.sizeOf157, fun w => ⟨_, Try.zeroValue157 w, rfl⟩, rfl, trivial⟩ -- func(api.Trip) bool
theorem ty_ok159 : TyOk Try.prog 159 ⟨false, 1, [.nilFunc], .other⟩ := ⟨Try.isAgg159, Try.sizeOf159, fun w => ⟨_, Try.zeroValue159 w, rfl⟩, rfl, trivial⟩ -- func(int, int, []api.Shift) bool
theorem ty_ok165 : TyOk Try.prog 165 ⟨false, 1, [.nilFunc], .other⟩ := ⟨Try.isAgg165, Try.sizeOf165, fun w => ⟨_, Try.zeroValue165 w, rfl⟩, rfl, trivial⟩ -- func(api.Load) bool
theorem ty_ok170 : TyOk Try.prog 170 ⟨false, 1, [.nilFunc], .other⟩ := ⟨Try.isAgg170, Try.sizeOf170, fun w => ⟨_, Try.zeroValue170 w, rfl⟩, rfl, trivial⟩ -- func(api.Load) api.Span
theorem ty_ok178 : TyOk Try.prog 178 ⟨false, 1, [.nilFunc], .other⟩ := ⟨Try.isAgg178, Try.sizeOf178, fun w => ⟨_, Try.zeroValue178 w, rfl⟩, rfl, trivial⟩ -- func(api.Load) (api.Put, int)
theorem ty_ok180 : TyOk Try.prog 180 ⟨true, 3, [.int .i64 0, .int .i64 0, .int .i64 0], .struct [(0, 3, true)]⟩ := ⟨Try.isAgg180, Try.sizeOf180, fun w => ⟨_, Try.zeroValue180 w, rfl⟩, rfl, struct_ok Try.runUnderlying180 ⟨rfl, Try.sizeOf98, Try.isAgg98, trivial⟩⟩ -- trim.side
theorem ty_ok186 : TyOk Try.prog 186 ⟨true, 3, [.int .i64 0, .int .i64 0, .int .i64 0], .struct [(0, 1, false), (1, 1, false), (2, 1, false)]⟩ := ⟨Try.isAgg186, Try.sizeOf186, fun w => ⟨_, Try.zeroValue186 w, rfl⟩, rfl, struct_ok Try.runUnderlying186 ⟨rfl, Try.sizeOf3, Try.isAgg3, ⟨rfl, Try.sizeOf3, Try.isAgg3, ⟨rfl, Try.sizeOf3, Try.isAgg3, trivial⟩⟩⟩⟩ -- route.reached
theorem ty_ok188 : TyOk Try.prog 188 ⟨false, 1, [(.slice none 0 0)], .slice 186⟩ := ⟨Try.isAgg188, Try.sizeOf188, fun w => ⟨_, Try.zeroValue188 w, rfl⟩, rfl, Try.runUnderlying188⟩ -- route.front
theorem ty_ok191 : TyOk Try.prog 191 ⟨true, 2, [.int .i64 0, .bool false], .struct [(0, 1, false), (1, 1, false)]⟩ := ⟨Try.isAgg191, Try.sizeOf191, fun w => ⟨_, Try.zeroValue191 w, rfl⟩, rfl, struct_ok Try.runUnderlying191 ⟨rfl, Try.sizeOf3, Try.isAgg3, ⟨rfl, Try.sizeOf4, Try.isAgg4, trivial⟩⟩⟩ -- struct { cell int; is bool }
theorem ty_ok192 : TyOk Try.prog 192 ⟨true, 8, [.int .i64 0, .bool false, .int .i64 0, .bool false, .int .i64 0, .bool false, .int .i64 0, .bool false], .array 4 191⟩ := ⟨Try.isAgg192, Try.sizeOf192, fun w => ⟨_, Try.zeroValue192 w, rfl⟩, rfl, Try.runUnderlying192⟩ -- [4]struct { cell int; is bool }
theorem ty_ok195 : TyOk Try.prog 195 ⟨true, 3, [.int .i64 0, .int .i64 0, .int .i64 0], .array 3 25⟩ := ⟨Try.isAgg195, Try.sizeOf195, fun w => ⟨_, Try.zeroValue195 w, rfl⟩, rfl, Try.runUnderlying195⟩ -- [3]api.Errno
theorem ty_ok196 : TyOk Try.prog 196 ⟨false, 1, [(.map none)], .other⟩ := ⟨Try.isAgg196, Try.sizeOf196, fun w => ⟨_, Try.zeroValue196 w, rfl⟩, rfl, trivial⟩ -- map[route.flown][]route.rate
theorem ty_ok198 : TyOk Try.prog 198 ⟨true, 10, [.slice none 0 0, .slice none 0 0, .int .i64 0, .int .i64 0, .int .i64 0, .int .i64 0, .int .i64 0, .int .i64 0, .int .i64 0, .map none], .struct [(0, 2, true), (2, 7, true), (9, 1, false)]⟩ := ⟨Try.isAgg198, Try.sizeOf198, fun w => ⟨_, Try.zeroValue198 w, rfl⟩, rfl, struct_ok Try.runUnderlying198 ⟨rfl, Try.sizeOf37, Try.isAgg37, ⟨rfl, Try.sizeOf41, Try.isAgg41, ⟨rfl, Try.sizeOf196, Try.isAgg196, trivial⟩⟩⟩⟩ -- route.desk
theorem ty_ok199 : TyOk Try.prog 199 ⟨false, 1, [(.slice none 0 0)], .slice 202⟩ := ⟨Try.isAgg199, Try.sizeOf199, fun w => ⟨_, Try.zeroValue199 w, rfl⟩, rfl, Try.runUnderlying199⟩ -- []route.rate
theorem ty_ok202 : TyOk Try.prog 202 ⟨true, 2, [.int .i64 0, .int .i64 0], .struct [(0, 1, false), (1, 1, false)]⟩ := ⟨Try.isAgg202, Try.sizeOf202, fun w => ⟨_, Try.zeroValue202 w, rfl⟩, rfl, struct_ok Try.runUnderlying202 ⟨rfl, Try.sizeOf3, Try.isAgg3, ⟨rfl, Try.sizeOf3, Try.isAgg3, trivial⟩⟩⟩ -- route.rate
theorem ty_ok208 : TyOk Try.prog 208 ⟨false, 1, [(.int .u64 0)], .int .u64⟩ := ⟨Try.isAgg208, Try.sizeOf208, fun w => ⟨_, Try.zeroValue208 w, rfl⟩, rfl, Try.runUnderlying208⟩ -- uint
theorem ty_ok209 : TyOk Try.prog 209 ⟨false, 1, [(.slice none 0 0)], .slice 211⟩ := ⟨Try.isAgg209, Try.sizeOf209, fun w => ⟨_, Try.zeroValue209 w, rfl⟩, rfl, Try.runUnderlying209⟩ -- []api.Knot
theorem ty_ok211 : TyOk Try.prog 211 ⟨true, 3, [.int .i64 0, .int .i64 0, .int .i64 0], .struct [(0, 1, false), (1, 2, true)]⟩ := ⟨Try.isAgg211, Try.sizeOf211, fun w => ⟨_, Try.zeroValue211 w, rfl⟩, rfl, struct_ok Try.runUnderlying211 ⟨rfl, Try.sizeOf3, Try.isAgg3, ⟨rfl, Try.sizeOf39, Try.isAgg39, trivial⟩⟩⟩ -- api.Knot
theorem ty_ok215 : TyOk Try.prog 215 ⟨false, 1, [(.slice none 0 0)], .slice 25⟩ := ⟨Try.isAgg215, Try.sizeOf215, fun w => ⟨_, Try.zeroValue215 w, rfl⟩, rfl, Try.runUnderlying215⟩ -- []api.Errno
theorem ty_ok218 : TyOk Try.prog 218 ⟨false, 1, [.nilFunc], .other⟩ := ⟨Try.isAgg218, Try.sizeOf218, fun w => ⟨_, Try.zeroValue218 w, rfl⟩, rfl, trivial⟩ -- func(api.Shift, api.Shift) int
theorem ty_ok219 : TyOk Try.prog 219 ⟨true, 2, [.int .i64 0, .bool false], .struct [(0, 1, false), (1, 1, false)]⟩ := ⟨Try.isAgg219, Try.sizeOf219, fun w => ⟨_, Try.zeroValue219 w, rfl⟩, rfl, struct_ok Try.runUnderlying219 ⟨rfl, Try.sizeOf3, Try.isAgg3, ⟨rfl, Try.sizeOf4, Try.isAgg4, trivial⟩⟩⟩ -- struct { kind int; is bool }
theorem ty_ok220 : TyOk Try.prog 220 ⟨true, 6, [.int .i64 0, .bool false, .int .i64 0, .bool false, .int .i64 0, .bool false], .array 3 219⟩ := ⟨Try.isAgg220, Try.sizeOf220, fun w => ⟨_, Try.zeroValue220 w, rfl⟩, rfl, Try.runUnderlying220⟩ -- [3]struct { kind int; is bool }
theorem ty_ok222 : TyOk Try.prog 222 ⟨true, 3, [.int .i64 0, .int .i64 0, .int .i64 0], .struct [(0, 1, false), (1, 1, false), (2, 1, false)]⟩ := ⟨Try.isAgg222, Try.sizeOf222, fun w => ⟨_, Try.zeroValue222 w, rfl⟩, rfl, struct_ok Try.runUnderlying222 ⟨rfl, Try.sizeOf3, Try.isAgg3, ⟨rfl, Try.sizeOf3, Try.isAgg3, ⟨rfl, Try.sizeOf3, Try.isAgg3, trivial⟩⟩⟩⟩ -- api.Tired
theorem ty_ok228 : TyOk Try.prog 228 ⟨true, 2, [.int .i64 0, .int .i64 0], .struct [(0, 1, false), (1, 1, false)]⟩ := ⟨Try.isAgg228, Try.sizeOf228, fun w => ⟨_, Try.zeroValue228 w, rfl⟩, rfl, struct_ok Try.runUnderlying228 ⟨rfl, Try.sizeOf3, Try.isAgg3, ⟨rfl, Try.sizeOf3, Try.isAgg3, trivial⟩⟩⟩ -- api.Put
theorem ty_ok235 : TyOk Try.prog 235 ⟨false, 1, [.nilFunc], .other⟩ := ⟨Try.isAgg235, Try.sizeOf235, fun w => ⟨_, Try.zeroValue235 w, rfl⟩, rfl, trivial⟩ -- func(api.Corner, api.Corner) int
theorem ty_ok237 : TyOk Try.prog 237 ⟨false, 1, [.nilIface], .other⟩ := ⟨Try.isAgg237, Try.sizeOf237, fun w => ⟨_, Try.zeroValue237 w, rfl⟩, rfl, trivial⟩ -- heap.Interface
theorem ty_ok245 : TyOk Try.prog 245 ⟨true, 16, [.int .i64 0, .int .i64 0, .int .i64 0, .int .i64 0, .int .i64 0, .int .i64 0, .int .i64 0, .int .i64 0, .int .i64 0, .int .i64 0, .int .i64 0, .int .i64 0, .int .i64 0, .int .i64 0, .int .i64 0, .int .i64 0], .array 8 39⟩ := ⟨Try.isAgg245, Try.sizeOf245, fun w => ⟨_, Try.zeroValue245 w, rfl⟩, rfl, Try.runUnderlying245⟩ -- [8]api.Span
theorem ty_ok246 : TyOk Try.prog 246 ⟨true, 2, [.int .i64 0, .int .i64 0], .array 2 3⟩ := ⟨Try.isAgg246, Try.sizeOf246, fun w => ⟨_, Try.zeroValue246 w, rfl⟩, rfl, Try.runUnderlying246⟩ -- [2]int
theorem ty_ok249 : TyOk Try.prog 249 ⟨false, 1, [(.slice none 0 0)], .slice 39⟩ := ⟨Try.isAgg249, Try.sizeOf249, fun w => ⟨_, Try.zeroValue249 w, rfl⟩, rfl, Try.runUnderlying249⟩ -- []api.Span
theorem ty_ok261 : TyOk Try.prog 261 ⟨false, 1, [(.slice none 0 0)], .slice 101⟩ := ⟨Try.isAgg261, Try.sizeOf261, fun w => ⟨_, Try.zeroValue261 w, rfl⟩, rfl, Try.runUnderlying261⟩ -- [][]api.Corner
theorem ty_ok265 : TyOk Try.prog 265 ⟨false, 1, [(.int .u64 0)], .int .u64⟩ := ⟨Try.isAgg265, Try.sizeOf265, fun w => ⟨_, Try.zeroValue265 w, rfl⟩, rfl, Try.runUnderlying265⟩ -- uint64
theorem ty_ok281 : TyOk Try.prog 281 ⟨false, 1, [.nilIface], .other⟩ := ⟨Try.isAgg281, Try.sizeOf281, fun w => ⟨_, Try.zeroValue281 w, rfl⟩, rfl, trivial⟩ -- error
theorem ty_ok287 : TyOk Try.prog 287 ⟨false, 1, [(.int .i64 0)], .int .i64⟩ := ⟨Try.isAgg287, Try.sizeOf287, fun w => ⟨_, Try.zeroValue287 w, rfl⟩, rfl, Try.runUnderlying287⟩ -- slices.sortedHint
theorem ty_ok294 : TyOk Try.prog 294 ⟨false, 1, [(.int .u32 0)], .int .u32⟩ := ⟨Try.isAgg294, Try.sizeOf294, fun w => ⟨_, Try.zeroValue294 w, rfl⟩, rfl, Try.runUnderlying294⟩ -- uint32
theorem ty_ok297 : TyOk Try.prog 297 ⟨false, 1, [(.int .u64 0)], .int .u64⟩ := ⟨Try.isAgg297, Try.sizeOf297, fun w => ⟨_, Try.zeroValue297 w, rfl⟩, rfl, Try.runUnderlying297⟩ -- slices.xorshift
theorem ty_ok301 : TyOk Try.prog 301 ⟨false, 1, [(.pointer none)], .ptr 3⟩ := ⟨Try.isAgg301, Try.sizeOf301, fun w => ⟨_, Try.zeroValue301 w, rfl⟩, rfl, Try.runUnderlying301⟩ -- *int
def tys:List (Nat×TyI):=[(3,⟨false,1,[(.int .i64 0)],.int .i64⟩),
 (4,⟨false,1,[(.bool false)],.other⟩),
 (5,⟨false,1,[(.int .u8 0)],.int .u8⟩),
 (9,⟨false,1,[(.string { data:=#[] })],.other⟩),
 (20,⟨false,1,[.nilIface],.other⟩),
 (22,⟨false,1,[(.slice none 0 0)],.slice 3⟩),
 (24,⟨true,3,[.int .i64 0,.int .i64 0,.slice none 0 0],.struct [(0,1,false),(1,1,false),(2,1,false)]⟩),
 (25,⟨false,1,[(.int .i64 0)],.int .i64⟩),
 (34,⟨false,1,[(.slice none 0 0)],.slice 4⟩),
 (35,⟨false,1,[(.slice none 0 0)],.slice 126⟩),
 (37,⟨true,2,[.slice none 0 0,.slice none 0 0],.struct [(0,1,false),(1,1,false)]⟩),
 (39,⟨true,2,[.int .i64 0,.int .i64 0],.struct [(0,1,false),(1,1,false)]⟩),
 (41,⟨true,7,[.int .i64 0,.int .i64 0,.int .i64 0,.int .i64 0,.int .i64 0,.int .i64 0,.int .i64 0],.struct [(0,1,false),(1,1,false),(2,1,false),(3,1,false),(4,1,false),(5,2,true)]⟩),
 (42,⟨false,1,[(.slice none 0 0)],.slice 59⟩),
 (59,⟨false,1,[(.slice none 0 0)],.slice 142⟩),
 (61,⟨true,2,[.int .i64 0,.int .i64 0],.struct [(0,1,false),(1,1,false)]⟩),
 (62,⟨false,1,[(.int .u16 0)],.int .u16⟩),
 (67,⟨true,4,[.int .i64 0,.int .i64 0,.int .i64 0,.int .i64 0],.struct [(0,2,true),(2,2,true)]⟩),
 (80,⟨true,4,[.int .i64 0,.int .i64 0,.int .i64 0,.int .i64 0],.struct [(0,1,false),(1,1,false),(2,1,false),(3,1,false)]⟩),
 (81,⟨false,1,[(.slice none 0 0)],.slice 91⟩),
 (84,⟨false,1,[(.slice none 0 0)],.slice 22⟩),
 (88,⟨true,3,[.int .i64 0,.int .i64 0,.int .i64 0],.struct [(0,1,false),(1,1,false),(2,1,false)]⟩),
 (89,⟨false,1,[(.slice none 0 0)],.slice 88⟩),
 (91,⟨true,3,[.int .i64 0,.int .i64 0,.int .i64 0],.struct [(0,1,false),(1,1,false),(2,1,false)]⟩),
 (92,⟨false,1,[(.slice none 0 0)],.slice 222⟩),
 (96,⟨false,1,[(.slice none 0 0)],.slice 113⟩),
 (98,⟨true,3,[.int .i64 0,.int .i64 0,.int .i64 0],.struct [(0,1,false),(1,1,false),(2,1,false)]⟩),
 (99,⟨false,1,[(.slice none 0 0)],.slice 5⟩),
 (101,⟨false,1,[(.slice none 0 0)],.slice 111⟩),
 (105,⟨true,3,[.int .i64 0,.int .i64 0,.int .i64 0],.struct [(0,1,false),(1,1,false),(2,1,false)]⟩),
 (106,⟨false,1,[(.slice none 0 0)],.slice 105⟩),
 (108,⟨false,1,[(.slice none 0 0)],.slice 228⟩),
 (111,⟨true,2,[.int .i64 0,.int .i64 0],.struct [(0,1,false),(1,1,false)]⟩),
 (113,⟨true,4,[.int .i64 0,.int .i64 0,.int .i64 0,.int .i64 0],.struct [(0,2,true),(2,2,true)]⟩),
 (120,⟨false,1,[.nilFunc],.other⟩),
 (126,⟨true,5,[.int .i64 0,.int .i64 0,.int .i64 0,.int .i64 0,.int .i64 0],.struct [(0,1,false),(1,1,false),(2,1,false),(3,1,false),(4,1,false)]⟩),
 (128,⟨false,1,[(.pointer none)],.ptr 198⟩),
 (134,⟨true,2,[.int .i64 0,.bool false],.struct [(0,1,false),(1,1,false)]⟩),
 (142,⟨true,6,[.int .i64 0,.int .i64 0,.int .i64 0,.int .i64 0,.int .i64 0,.int .i64 0],.struct [(0,1,false),(1,4,true),(5,1,false)]⟩),
 (145,⟨false,1,[.nilFunc],.other⟩),
 (147,⟨true,4,[.int .i64 0,.int .i64 0,.int .i64 0,.int .i64 0],.array 2 39⟩),
 (157,⟨false,1,[.nilFunc],.other⟩),
 (159,⟨false,1,[.nilFunc],.other⟩),
 (165,⟨false,1,[.nilFunc],.other⟩),
 (170,⟨false,1,[.nilFunc],.other⟩),
 (178,⟨false,1,[.nilFunc],.other⟩),
 (180,⟨true,3,[.int .i64 0,.int .i64 0,.int .i64 0],.struct [(0,3,true)]⟩),
 (186,⟨true,3,[.int .i64 0,.int .i64 0,.int .i64 0],.struct [(0,1,false),(1,1,false),(2,1,false)]⟩),
 (188,⟨false,1,[(.slice none 0 0)],.slice 186⟩),
 (191,⟨true,2,[.int .i64 0,.bool false],.struct [(0,1,false),(1,1,false)]⟩),
 (192,⟨true,8,[.int .i64 0,.bool false,.int .i64 0,.bool false,.int .i64 0,.bool false,.int .i64 0,.bool false],.array 4 191⟩),
 (195,⟨true,3,[.int .i64 0,.int .i64 0,.int .i64 0],.array 3 25⟩),
 (196,⟨false,1,[(.map none)],.other⟩),
 (198,⟨true,10,[.slice none 0 0,.slice none 0 0,.int .i64 0,.int .i64 0,.int .i64 0,.int .i64 0,.int .i64 0,.int .i64 0,.int .i64 0,.map none],.struct [(0,2,true),(2,7,true),(9,1,false)]⟩),
 (199,⟨false,1,[(.slice none 0 0)],.slice 202⟩),
 (202,⟨true,2,[.int .i64 0,.int .i64 0],.struct [(0,1,false),(1,1,false)]⟩),
 (208,⟨false,1,[(.int .u64 0)],.int .u64⟩),
 (209,⟨false,1,[(.slice none 0 0)],.slice 211⟩),
 (211,⟨true,3,[.int .i64 0,.int .i64 0,.int .i64 0],.struct [(0,1,false),(1,2,true)]⟩),
 (215,⟨false,1,[(.slice none 0 0)],.slice 25⟩),
 (218,⟨false,1,[.nilFunc],.other⟩),
 (219,⟨true,2,[.int .i64 0,.bool false],.struct [(0,1,false),(1,1,false)]⟩),
 (220,⟨true,6,[.int .i64 0,.bool false,.int .i64 0,.bool false,.int .i64 0,.bool false],.array 3 219⟩),
 (222,⟨true,3,[.int .i64 0,.int .i64 0,.int .i64 0],.struct [(0,1,false),(1,1,false),(2,1,false)]⟩),
 (228,⟨true,2,[.int .i64 0,.int .i64 0],.struct [(0,1,false),(1,1,false)]⟩),
 (235,⟨false,1,[.nilFunc],.other⟩),
 (237,⟨false,1,[.nilIface],.other⟩),
 (245,⟨true,16,[.int .i64 0,.int .i64 0,.int .i64 0,.int .i64 0,.int .i64 0,.int .i64 0,.int .i64 0,.int .i64 0,.int .i64 0,.int .i64 0,.int .i64 0,.int .i64 0,.int .i64 0,.int .i64 0,.int .i64 0,.int .i64 0],.array 8 39⟩),
 (246,⟨true,2,[.int .i64 0,.int .i64 0],.array 2 3⟩),
 (249,⟨false,1,[(.slice none 0 0)],.slice 39⟩),
 (261,⟨false,1,[(.slice none 0 0)],.slice 101⟩),
 (265,⟨false,1,[(.int .u64 0)],.int .u64⟩),
 (281,⟨false,1,[.nilIface],.other⟩),
 (287,⟨false,1,[(.int .i64 0)],.int .i64⟩),
 (294,⟨false,1,[(.int .u32 0)],.int .u32⟩),
 (297,⟨false,1,[(.int .u64 0)],.int .u64⟩),
 (301,⟨false,1,[(.pointer none)],.ptr 3⟩)]
theorem tys_ok:∀ x∈tys,TyOk Try.prog x.1 x.2:=by
 unfold tys
 refine List.forall_mem_cons.2 ⟨ty_ok3,?_⟩
 refine List.forall_mem_cons.2 ⟨ty_ok4,?_⟩
 refine List.forall_mem_cons.2 ⟨ty_ok5,?_⟩
 refine List.forall_mem_cons.2 ⟨ty_ok9,?_⟩
 refine List.forall_mem_cons.2 ⟨ty_ok20,?_⟩
 refine List.forall_mem_cons.2 ⟨ty_ok22,?_⟩
 refine List.forall_mem_cons.2 ⟨ty_ok24,?_⟩
 refine List.forall_mem_cons.2 ⟨ty_ok25,?_⟩
 refine List.forall_mem_cons.2 ⟨ty_ok34,?_⟩
 refine List.forall_mem_cons.2 ⟨ty_ok35,?_⟩
 refine List.forall_mem_cons.2 ⟨ty_ok37,?_⟩
 refine List.forall_mem_cons.2 ⟨ty_ok39,?_⟩
 refine List.forall_mem_cons.2 ⟨ty_ok41,?_⟩
 refine List.forall_mem_cons.2 ⟨ty_ok42,?_⟩
 refine List.forall_mem_cons.2 ⟨ty_ok59,?_⟩
 refine List.forall_mem_cons.2 ⟨ty_ok61,?_⟩
 refine List.forall_mem_cons.2 ⟨ty_ok62,?_⟩
 refine List.forall_mem_cons.2 ⟨ty_ok67,?_⟩
 refine List.forall_mem_cons.2 ⟨ty_ok80,?_⟩
 refine List.forall_mem_cons.2 ⟨ty_ok81,?_⟩
 refine List.forall_mem_cons.2 ⟨ty_ok84,?_⟩
 refine List.forall_mem_cons.2 ⟨ty_ok88,?_⟩
 refine List.forall_mem_cons.2 ⟨ty_ok89,?_⟩
 refine List.forall_mem_cons.2 ⟨ty_ok91,?_⟩
 refine List.forall_mem_cons.2 ⟨ty_ok92,?_⟩
 refine List.forall_mem_cons.2 ⟨ty_ok96,?_⟩
 refine List.forall_mem_cons.2 ⟨ty_ok98,?_⟩
 refine List.forall_mem_cons.2 ⟨ty_ok99,?_⟩
 refine List.forall_mem_cons.2 ⟨ty_ok101,?_⟩
 refine List.forall_mem_cons.2 ⟨ty_ok105,?_⟩
 refine List.forall_mem_cons.2 ⟨ty_ok106,?_⟩
 refine List.forall_mem_cons.2 ⟨ty_ok108,?_⟩
 refine List.forall_mem_cons.2 ⟨ty_ok111,?_⟩
 refine List.forall_mem_cons.2 ⟨ty_ok113,?_⟩
 refine List.forall_mem_cons.2 ⟨ty_ok120,?_⟩
 refine List.forall_mem_cons.2 ⟨ty_ok126,?_⟩
 refine List.forall_mem_cons.2 ⟨ty_ok128,?_⟩
 refine List.forall_mem_cons.2 ⟨ty_ok134,?_⟩
 refine List.forall_mem_cons.2 ⟨ty_ok142,?_⟩
 refine List.forall_mem_cons.2 ⟨ty_ok145,?_⟩
 refine List.forall_mem_cons.2 ⟨ty_ok147,?_⟩
 refine List.forall_mem_cons.2 ⟨ty_ok157,?_⟩
 refine List.forall_mem_cons.2 ⟨ty_ok159,?_⟩
 refine List.forall_mem_cons.2 ⟨ty_ok165,?_⟩
 refine List.forall_mem_cons.2 ⟨ty_ok170,?_⟩
 refine List.forall_mem_cons.2 ⟨ty_ok178,?_⟩
 refine List.forall_mem_cons.2 ⟨ty_ok180,?_⟩
 refine List.forall_mem_cons.2 ⟨ty_ok186,?_⟩
 refine List.forall_mem_cons.2 ⟨ty_ok188,?_⟩
 refine List.forall_mem_cons.2 ⟨ty_ok191,?_⟩
 refine List.forall_mem_cons.2 ⟨ty_ok192,?_⟩
 refine List.forall_mem_cons.2 ⟨ty_ok195,?_⟩
 refine List.forall_mem_cons.2 ⟨ty_ok196,?_⟩
 refine List.forall_mem_cons.2 ⟨ty_ok198,?_⟩
 refine List.forall_mem_cons.2 ⟨ty_ok199,?_⟩
 refine List.forall_mem_cons.2 ⟨ty_ok202,?_⟩
 refine List.forall_mem_cons.2 ⟨ty_ok208,?_⟩
 refine List.forall_mem_cons.2 ⟨ty_ok209,?_⟩
 refine List.forall_mem_cons.2 ⟨ty_ok211,?_⟩
 refine List.forall_mem_cons.2 ⟨ty_ok215,?_⟩
 refine List.forall_mem_cons.2 ⟨ty_ok218,?_⟩
 refine List.forall_mem_cons.2 ⟨ty_ok219,?_⟩
 refine List.forall_mem_cons.2 ⟨ty_ok220,?_⟩
 refine List.forall_mem_cons.2 ⟨ty_ok222,?_⟩
 refine List.forall_mem_cons.2 ⟨ty_ok228,?_⟩
 refine List.forall_mem_cons.2 ⟨ty_ok235,?_⟩
 refine List.forall_mem_cons.2 ⟨ty_ok237,?_⟩
 refine List.forall_mem_cons.2 ⟨ty_ok245,?_⟩
 refine List.forall_mem_cons.2 ⟨ty_ok246,?_⟩
 refine List.forall_mem_cons.2 ⟨ty_ok249,?_⟩
 refine List.forall_mem_cons.2 ⟨ty_ok261,?_⟩
 refine List.forall_mem_cons.2 ⟨ty_ok265,?_⟩
 refine List.forall_mem_cons.2 ⟨ty_ok281,?_⟩
 refine List.forall_mem_cons.2 ⟨ty_ok287,?_⟩
 refine List.forall_mem_cons.2 ⟨ty_ok294,?_⟩
 refine List.forall_mem_cons.2 ⟨ty_ok297,?_⟩
 refine List.forall_mem_cons.2 ⟨ty_ok301,?_⟩
 exact fun x hx=>(List.not_mem_nil hx).elim
theorem app_ok22:AppOk Try.prog 22 3 1 8:=⟨Try.underlying22,⟨Try.t3,_,(by kernel_rfl),rfl,rfl,rfl,rfl⟩,by decide⟩
theorem app_ok81:AppOk Try.prog 81 91 3 24:=⟨Try.underlying81,⟨Try.t91,_,(by kernel_rfl),rfl,rfl,rfl,rfl⟩,by decide⟩
theorem app_ok92:AppOk Try.prog 92 222 3 24:=⟨Try.underlying92,⟨Try.t222,_,(by kernel_rfl),rfl,rfl,rfl,rfl⟩,by decide⟩
theorem app_ok199:AppOk Try.prog 199 202 2 16:=⟨Try.underlying199,⟨Try.t202,_,(by kernel_rfl),rfl,rfl,rfl,rfl⟩,by decide⟩
theorem app_ok209:AppOk Try.prog 209 211 3 24:=⟨Try.underlying209,⟨Try.t211,_,(by kernel_rfl),rfl,rfl,rfl,rfl⟩,by decide⟩
@[reducible] noncomputable def cx (w:World) (N:Nat):Cx:=⟨Try.prog,tys,tys_ok,w,[],N⟩
@[reducible] noncomputable def cxM (M:List Nat) (w:World) (N:Nat):Cx:=⟨Try.prog,tys,tys_ok,w,M,N⟩
def spanCells (s:Int×Int):List Value:=[.int .i64 s.1,.int .i64 s.2]
theorem span_read {w:World} {A:Option Addr} {n:Nat} {l:List (Int×Int)} (h:RdS w 2 A n (l.map spanCells)) {i:Nat} (hi:i<n) :
   ∃ b o x,A=some ⟨b,o,none⟩∧b<w.heap.size∧l[i]?=some x∧w.cell? ⟨b,o+i*2,none⟩=some (.int .i64 x.1)∧w.cell? ⟨b,o+i*2+1,none⟩=some (.int .i64 x.2):=by
 obtain ⟨b,o,cs,hA,hb,hx,_,hc⟩:=h.row hi
 simp only [List.getElem?_map,Option.map_eq_some_iff] at hx
 obtain ⟨x,hx,rfl⟩:=hx
 exact ⟨b,o,x,hA,hb,hx,hc 0 _ rfl,hc 1 _ rfl⟩
end Go.Proofs.Ytcjkndjjbjoehaa
namespace Go.Proofs.Ytcjkndjjbjoehaa
open Go.RowKit
attribute [local irreducible] OQ OS OX Rd T TL GX GL AL AI RV wpG SAny Calls
def IsR (n r:Int):Prop:=0≤r∧r*r≤n∧n<(r+1)*(r+1)
theorem IsR.uniq {n r s:Int} (h:IsR n r) (k:IsR n s):r=s:=by
 have key:∀ {r s:Int},IsR n r→IsR n s→s≤r:=fun {r s} h k=>by
   rcases Int.lt_or_le r s with hlt|hle
   · have h1:(r+1)*(r+1)≤s*s:=Int.mul_le_mul (by omega) (by omega) (by have:=h.1;omega) k.1
     have:=h.2.2;have:=k.2.1
     omega
   · exact hle
 have h1:=key h k
 have h2:=key k h
 omega
noncomputable def rt (n:Int):Int:=open Classical in if h:∃ r,IsR n r then Classical.choose h else 0
theorem IsR.rt {n r:Int} (h:IsR n r):rt n=r:=by
 have hx:∃ r,IsR n r:=⟨r,h⟩
 unfold Ytcjkndjjbjoehaa.rt
 rw [dif_pos hx]
 exact (Classical.choose_spec hx).uniq h
theorem root_calls (n:Int) (h0:0≤n) (h1:n≤1099511627776) (w:World):Calls Try.prog 127 #[.int .i64 n] w fun e w'=>e=.returned (.int .i64 (rt n))∧Ext w w':=by
 refine enterQ (c:=cx w 22) Try.func127 rfl rfl rfl rfl ?_
 repeat' (first|((with_reducible apply oq_id);first|(apply oq_fn;exact rfl;first|exact trivial|(and_intros<;>omega)|omega|skip))|((with_reducible apply tl_id);first|(with_reducible apply tl_nil)|((with_reducible apply u_q);(iterate 4 exact rfl)))|((with_reducible apply t_id);first|(with_reducible apply t_seq)|(apply t_region;kernel_rfl)|(with_reducible apply t_block))|with_reducible apply q_thenN)
 apply t_loopK (ι:=(Int×Int)) [0,2,21] (fun (i:Int×Int)=>[(3,.int .i64 i.1),(4,.int .i64 i.2)]) (fun _=>[]) (fun i=>0≤i.1∧i.1<i.2∧i.2≤1048577∧i.1*i.1≤n∧n<i.2*i.2) (fun i=>(i.2-i.1).toNat) ((0,1048577))
 (repeat (first|exact KeepF.nil|(apply KeepF.cons;exact rfl)|apply KeepF.skip))
 (repeat first|exact FrSub.nil|(apply FrSub.cons;exact rfl))
 (repeat (first|exact HpSub.refl _|(apply HpSub.consE;(repeat first|exact P0|apply P1);exact rfl)|exact HpSub.nil))
 · simp only;omega
 rintro ⟨a,b⟩ ⟨i0,i1,i2,i3,i4⟩
 simp only at i0 i1 i2 i3 i4
 obtain ⟨m,hm⟩:∃ m,m=(a+b).tdiv 2:=⟨_,rfl⟩
 have hm0:a≤m∧m≤b∧(1<b-a→a<m∧m<b):=by
   rw [Int.tdiv_eq_ediv_of_nonneg (by omega)] at hm
   omega
 have hmm:InR (m*m):=by
   have:m*m≤1048577*1048577:=Int.mul_le_mul (by omega) (by omega) (by omega) (by omega)
   have:0≤m*m:=Int.mul_nonneg (by omega) (by omega)
   exact ⟨by omega,by omega⟩
 rw [hm] at hmm
 dsimp only
 repeat' (first|((with_reducible apply oq_id);first|(apply oq_fn;exact rfl;first|exact trivial|(and_intros<;>omega)|omega|skip))|((with_reducible apply tl_id);first|(with_reducible apply tl_nil)|((with_reducible apply u_q);(iterate 4 exact rfl)))|((with_reducible apply t_id);first|(with_reducible apply t_seq)|(apply t_region;kernel_rfl)|((with_reducible apply t_condD);exact rfl;all_goals first|(intro hp;try (exfalso;omega))|skip)|(with_reducible apply t_ret)|(with_reducible apply t_skip)|(with_reducible apply t_exit)|(with_reducible apply t_block))|with_reducible apply q_thenN|with_reducible apply q_blockN|with_reducible apply q_thenE|((with_reducible apply q_blockE);exact rfl)|(with_reducible apply end_ret)|exact rvs_nil|(with_reducible apply rvs_cons)|((with_reducible apply rv_tmp);exact rfl))
 · rw [← hm] at *
   refine ⟨(m,b),⟨by simp only;omega,by simp only;omega,i2,hp,i4⟩,by simp only;omega,?_,?_⟩
   · (repeat first|exact FrSub.nil|(apply FrSub.cons;exact rfl))
   · (repeat (first|exact HpSub.refl _|(apply HpSub.consE;(repeat first|exact P0|apply P1);exact rfl)|exact HpSub.nil))
 · rw [← hm] at *
   refine ⟨(a,m),⟨i0,by simp only;omega,by simp only;omega,i3,by simp only;omega⟩,by simp only;omega,?_,?_⟩
   · (repeat first|exact FrSub.nil|(apply FrSub.cons;exact rfl))
   · (repeat (first|exact HpSub.refl _|(apply HpSub.consE;(repeat first|exact P0|apply P1);exact rfl)|exact HpSub.nil))
 · obtain rfl:b=a+1:=by omega
   rw [IsR.rt ⟨i0,i3,i4⟩];rfl
def fineS (s:Int×Int):Bool:=decide (s.1≤s.2) && (decide (-1099511627776≤s.1) && decide (s.2≤1099511627776))
theorem fineS_iff (s:Int×Int):fineS s=true↔s.1≤s.2∧-1099511627776≤s.1∧s.2≤1099511627776:=by
 unfold fineS;simp [Bool.and_eq_true]
theorem all_not {l:List (Int×Int)} {k:Nat} {x:Int×Int} (h:l[k]?=some x) (hx:fineS x=false):l.all fineS=false:=by
 rw [Bool.eq_false_iff,Ne,List.all_eq_true]
 intro h2
 have:=h2 x (List.mem_of_getElem? h)
 rw [hx] at this
 cases this
theorem fine_calls (A:Option Addr) (n c:Nat) (l:List (Int×Int)) (w:World) (hr:RdS w 2 A n (l.map spanCells)) (hn:n≤1000000):Calls Try.prog 124 #[.slice A n c] w fun e w'=>e=.returned (.bool (l.all fineS))∧Ext w w':=by
 have hl:=hr.len
 simp only [List.length_map] at hl
 refine enterQ (c:=cx w 27) Try.func124 rfl rfl rfl rfl ?_
 repeat' (first|((with_reducible apply oq_id);first|(apply oq_fn;exact rfl;first|exact trivial|(and_intros<;>omega)|omega|skip))|((with_reducible apply tl_id);first|(with_reducible apply tl_nil)|((with_reducible apply u_q);(iterate 4 exact rfl)))|((with_reducible apply t_id);first|(with_reducible apply t_seq)|(apply t_region;kernel_rfl)|(with_reducible apply t_block))|with_reducible apply q_thenN)
 apply t_loopK (ι:=Nat) [5,6] (fun k=>[(7,.int .i64 (k:Nat))]) (fun _=>[]) (fun k=>k≤n∧∀ s∈l.take k,fineS s=true) (fun k=>n-k) (0)
 (repeat (first|exact KeepF.nil|(apply KeepF.cons;exact rfl)|apply KeepF.skip))
 (repeat first|exact FrSub.nil|(apply FrSub.cons;exact rfl))
 (repeat (first|exact HpSub.refl _|(apply HpSub.consE;(repeat first|exact P0|apply P1);exact rfl)|exact HpSub.nil))
 · exact ⟨by omega,by simp⟩
 intro k hk
 try simp only [List.cons_append,List.nil_append]
 by_cases hlt:k<n
 · obtain ⟨b1,o1,x,rfl,_,hkx2,c0,c1⟩:=span_read hr hlt
   repeat' (first|((with_reducible apply oq_id);first|(apply oq_fn;exact rfl;first|exact trivial|(and_intros<;>omega)|omega|skip)|((with_reducible apply oq_load);exact rfl;exact rfl)|((with_reducible apply oq_loadAgg);exact rfl;exact rfl))|((with_reducible apply tl_id);first|(with_reducible apply tl_nil)|((with_reducible apply u_q);(iterate 4 exact rfl))|((with_reducible apply u_s0);exact rfl;exact rfl)|((with_reducible apply u_s);(iterate 3 exact rfl))|((with_reducible apply u_skip);(iterate 3 exact rfl))|((with_reducible apply u_splitD);exact rfl;exact rfl;all_goals first|(intro hp;try (exfalso;omega))|skip))|((with_reducible apply os_id);first|((with_reducible apply os_x);exact rfl)|((with_reducible apply os_storeAgg);(iterate 5 exact rfl)))|((with_reducible apply ox_id);first|((with_reducible apply ox_alloc);exact rfl;intro _))|((with_reducible apply rd_id);first|(apply Rd.own;(repeat first|exact P0|apply P1);exact rfl;done)|(apply Rd.old;(first|(with_reducible assumption)|exact c0|exact c1);first|exact List.not_mem_nil))|((with_reducible apply t_id);first|(with_reducible apply t_seq)|(apply t_region;kernel_rfl)|((with_reducible apply t_condT);exact rfl)|((with_reducible apply t_condD);exact rfl;all_goals first|(intro hp;try (exfalso;omega))|skip)|(with_reducible apply t_ret)|(with_reducible apply t_skip)|(with_reducible apply t_block))|with_reducible apply q_thenN|with_reducible apply q_thenR|with_reducible apply q_blockR|with_reducible apply q_blockN|exact P0|exact Rdn.zero|apply Rdn.succ|((with_reducible apply Norm.nil);exact rfl)|((with_reducible apply Norm.cons);exact rfl)|(with_reducible apply end_ret)|exact rvs_nil|(with_reducible apply rvs_cons)|((with_reducible apply rv_tmp);exact rfl)|exact Nat.le_of_ble_eq_true rfl)
   iterate 3 (rw [all_not hkx2 (by rw [Bool.eq_false_iff,Ne,fineS_iff];omega)];rfl)
   have hx:fineS x=true:=by rw [fineS_iff];omega
   refine ⟨k+1,⟨by omega,fun s hs=>?_⟩,by omega,?_,?_⟩
   · rw [List.take_add_one,hkx2,List.mem_append] at hs
     rcases hs with hs|hs
     · exact hk.2 s hs
     · obtain rfl:s=x:=by simpa using hs
       exact hx
   · try simp only [List.cons_append,List.nil_append]
     (repeat first|exact FrSub.nil|(apply FrSub.cons;exact rfl))
   · try simp only [List.cons_append,List.nil_append]
     (repeat (first|exact HpSub.refl _|(apply HpSub.consE;(repeat first|exact P0|apply P1);exact rfl)|exact HpSub.nil))
 · have hkn:l.take k=l:=List.take_of_length_le (by omega)
   repeat' (first|((with_reducible apply oq_id);first|(apply oq_fn;exact rfl;first|exact trivial|(and_intros<;>omega)|omega|skip))|((with_reducible apply tl_id);first|(with_reducible apply tl_nil)|((with_reducible apply u_q);(iterate 4 exact rfl)))|((with_reducible apply t_id);first|(with_reducible apply t_seq)|(apply t_region;kernel_rfl)|((with_reducible apply t_condD);exact rfl;all_goals first|(intro hp;try (exfalso;omega))|skip)|(with_reducible apply t_ret)|(with_reducible apply t_exit))|with_reducible apply q_thenN|with_reducible apply q_thenE|((with_reducible apply q_blockE);exact rfl)|(with_reducible apply end_ret)|exact rvs_nil|(with_reducible apply rvs_cons)|((with_reducible apply rv_tmp);exact rfl))
   rw [show l.all fineS=true from List.all_eq_true.2 (fun s hs=>hk.2 s (by rw [hkn];exact hs))]
   rfl
theorem fine1 {w0:World} {M:Ms} {H H':Hp} {w:World} {g:Nat} {a b:Int} {tg:Tg} {cp:Nat} {q:Bool} (hq:fineS (a,b)=q) (h:Has w0 M H w) (p:Pick H g [.int .i64 a,.int .i64 b] tg H') :
   Calls Try.prog 124 #[.slice (some ⟨g,0,none⟩) 1 cp] w fun e w'=>e=.returned (.bool q)∧Ext w w':=by
 have:=fine_calls (some ⟨g,0,none⟩) 1 cp [(a,b)] w (Blk.rows (k:=2) (rows:=[(a,b)].map spanCells) (h.blk _ p.mem).2 rfl (by simp [spanCells])) (by omega)
 simp only [List.all_cons,List.all_nil,Bool.and_true,hq] at this
 exact this
theorem fine2 {w0:World} {M:Ms} {H H':Hp} {w:World} {g:Nat} {a b a' b':Int} {tg:Tg} {cp:Nat} {q:Bool} (hq:(fineS (a,b) && fineS (a',b'))=q) (h:Has w0 M H w) (p:Pick H g [.int .i64 a,.int .i64 b,.int .i64 a',.int .i64 b'] tg H') :
   Calls Try.prog 124 #[.slice (some ⟨g,0,none⟩) 2 cp] w fun e w'=>e=.returned (.bool q)∧Ext w w':=by
 have:=fine_calls (some ⟨g,0,none⟩) 2 cp [(a,b),(a',b')] w (Blk.rows (k:=2) (rows:=[(a,b),(a',b')].map spanCells) (h.blk _ p.mem).2 rfl (by simp [spanCells])) (by omega)
 simp only [List.all_cons,List.all_nil,Bool.and_true,hq] at this
 exact this
theorem check_calls (a b:Int) (w:World):Calls Try.prog 65 #[.agg #[.int .i64 a,.int .i64 b]] w fun e w'=>e=.returned (.int .i64 (if fineS (a,b) then 0 else 10))∧Ext w w':=by
 obtain ⟨q,hq⟩:∃ q,fineS (a,b)=q:=⟨_,rfl⟩
 rw [hq]
 refine enterQ (c:=cx w 7) Try.func65 rfl rfl rfl rfl ?_
 repeat' (first|((with_reducible apply oq_id);first|(apply oq_fn;exact rfl;first|exact trivial|(and_intros<;>omega)|omega|skip)|((with_reducible apply oq_loadAgg);exact rfl;exact rfl)|((with_reducible apply oq_call (hc:=Try.call124));exact rfl;exact rfl;exact fun D w1 hw1=>fine1 hq hw1 (by (repeat first|exact P0|apply P1))))|((with_reducible apply tl_id);first|(with_reducible apply tl_nil)|((with_reducible apply u_q);(iterate 4 exact rfl))|((with_reducible apply u_s);(iterate 3 exact rfl)))|((with_reducible apply os_id);first|((with_reducible apply os_x);exact rfl))|((with_reducible apply ox_id);first|((with_reducible apply ox_boxAgg);exact rfl;intro _)|((with_reducible apply ox_buildSlice2);(iterate 6 exact rfl);intro _))|((with_reducible apply rd_id);first|(apply Rd.own;(repeat first|exact P0|apply P1);exact rfl;done))|((with_reducible apply t_id);first|(with_reducible apply t_seq)|(apply t_region;kernel_rfl)|((with_reducible apply t_cond);exact rfl;all_goals first|intro hp|skip)|(with_reducible apply t_ret)|(with_reducible apply t_skip))|with_reducible apply q_thenN|with_reducible apply q_thenR|exact Rdn.zero|apply Rdn.succ|(with_reducible apply end_ret)|exact rvs_nil|(with_reducible apply rvs_cons)|((with_reducible apply rv_tmp);exact rfl))
 all_goals (cases q<;>first|rfl|simp_all)
noncomputable def rootV (a b:Int):Int×Int×Int:=if fineS (a,b) then (if a<0 then (0,0,2) else (rt a,(if rt b*rt b=b then rt b else rt b+1),0)) else (0,0,10)
theorem isR_ex:∀ (n:Nat),∃ r,IsR (n:Int) r
 | 0=>⟨0,by omega,by omega,by omega⟩
 | n+1=>by
   obtain ⟨r,h1,h2,h3⟩:=isR_ex n
   by_cases h:(r+1)*(r+1)≤((n+1:Nat):Int)
   · refine ⟨r+1,by omega,h,?_⟩
     have:(r+1+1)*(r+1+1)=(r+1)*(r+1)+2*(r+1)+1:=by
       simp only [Int.mul_add,Int.add_mul,Int.mul_one,Int.one_mul];omega
     omega
   · exact ⟨r,h1,by omega,by omega⟩
theorem rt_spec (n:Int) (h0:0≤n):IsR n (rt n):=by
 obtain ⟨r,hr⟩:=isR_ex n.toNat
 rw [Int.toNat_of_nonneg h0] at hr
 rw [hr.rt]
 exact hr
theorem boundRoot_calls (a b:Int) (w:World):Calls Try.prog 74 #[.agg #[.int .i64 a,.int .i64 b]] w fun e w'=>e=.returned (.tuple #[.agg #[.int .i64 (rootV a b).1,.int .i64 (rootV a b).2.1],.int .i64 (rootV a b).2.2])∧Ext w w':=by
 obtain ⟨q,hq⟩:∃ q,fineS (a,b)=q:=⟨_,rfl⟩
 unfold rootV
 cases q with
 | false=>
   rw [hq]
   refine enterQ (c:=cx w 36) Try.func74 rfl rfl rfl rfl ?_
   repeat' (first|((with_reducible apply oq_id);first|(apply oq_fn;exact rfl;first|exact trivial|(and_intros<;>omega)|omega|skip)|((with_reducible apply oq_loadAgg);exact rfl;exact rfl)|((with_reducible apply oq_call (hc:=Try.call124));exact rfl;exact rfl;exact fun D w1 hw1=>fine1 hq hw1 (by (repeat first|exact P0|apply P1)))|((with_reducible apply oq_build);(iterate 3 exact rfl)))|((with_reducible apply tl_id);first|(with_reducible apply tl_nil)|((with_reducible apply u_q);(iterate 4 exact rfl))|((with_reducible apply u_s0);exact rfl;exact rfl)|((with_reducible apply u_s);(iterate 3 exact rfl)))|((with_reducible apply os_id);first|((with_reducible apply os_x);exact rfl)|((with_reducible apply os_storeAgg);(iterate 5 exact rfl)))|((with_reducible apply ox_id);first|((with_reducible apply ox_alloc);exact rfl;intro _)|((with_reducible apply ox_boxAgg);exact rfl;intro _)|((with_reducible apply ox_buildSlice2);(iterate 6 exact rfl);intro _))|((with_reducible apply rd_id);first|(apply Rd.own;(repeat first|exact P0|apply P1);exact rfl;done))|((with_reducible apply t_id);first|(with_reducible apply t_seq)|(apply t_region;kernel_rfl)|((with_reducible apply t_condT);exact rfl)|(with_reducible apply t_ret)|(with_reducible apply t_block))|with_reducible apply q_thenN|with_reducible apply q_thenR|with_reducible apply q_blockR|exact P0|(with_reducible apply P1)|exact Rdn.zero|apply Rdn.succ|((with_reducible apply Norm.nil);exact rfl)|((with_reducible apply Norm.cons);exact rfl)|(with_reducible apply end_ret)|exact rvs_nil|(with_reducible apply rvs_cons)|((with_reducible apply rv_tmp);exact rfl)|((with_reducible apply rv_cellAgg);exact rfl;exact rfl)|exact Nat.le_of_ble_eq_true rfl)
   all_goals rfl
 | true=>
   have hf:=(fineS_iff _).1 hq
   simp only at hf
   rw [hq,if_pos rfl]
   by_cases ha:a<0
   · rw [if_pos ha]
     refine enterQ (c:=cx w 36) Try.func74 rfl rfl rfl rfl ?_
     repeat' (first|((with_reducible apply oq_id);first|(apply oq_fn;exact rfl;first|exact trivial|(and_intros<;>omega)|omega|skip)|((with_reducible apply oq_load);exact rfl;exact rfl)|((with_reducible apply oq_loadAgg);exact rfl;exact rfl)|((with_reducible apply oq_call (hc:=Try.call124));exact rfl;exact rfl;exact fun D w1 hw1=>fine1 hq hw1 (by (repeat first|exact P0|apply P1)))|((with_reducible apply oq_build);(iterate 3 exact rfl)))|((with_reducible apply tl_id);first|(with_reducible apply tl_nil)|((with_reducible apply u_q);(iterate 4 exact rfl))|((with_reducible apply u_s0);exact rfl;exact rfl)|((with_reducible apply u_s);(iterate 3 exact rfl)))|((with_reducible apply os_id);first|((with_reducible apply os_x);exact rfl)|((with_reducible apply os_storeAgg);(iterate 5 exact rfl)))|((with_reducible apply ox_id);first|((with_reducible apply ox_alloc);exact rfl;intro _)|((with_reducible apply ox_boxAgg);exact rfl;intro _)|((with_reducible apply ox_buildSlice2);(iterate 6 exact rfl);intro _))|((with_reducible apply rd_id);first|(apply Rd.own;(repeat first|exact P0|apply P1);exact rfl;done))|((with_reducible apply t_id);first|(with_reducible apply t_seq)|(apply t_region;kernel_rfl)|((with_reducible apply t_condF);exact rfl)|((with_reducible apply t_condD);exact rfl;all_goals first|(intro hp;try (exfalso;omega))|skip)|(with_reducible apply t_ret)|(with_reducible apply t_block))|with_reducible apply q_thenN|with_reducible apply q_thenR|with_reducible apply q_blockR|exact P0|(with_reducible apply P1)|exact Rdn.zero|apply Rdn.succ|((with_reducible apply Norm.nil);exact rfl)|((with_reducible apply Norm.cons);exact rfl)|(with_reducible apply end_ret)|exact rvs_nil|(with_reducible apply rvs_cons)|((with_reducible apply rv_tmp);exact rfl)|((with_reducible apply rv_cellAgg);exact rfl;exact rfl)|exact Nat.le_of_ble_eq_true rfl)
     all_goals rfl
   · rw [if_neg ha]
     have hb:=rt_spec b (by omega)
     have hbb:rt b≤1048576:=by
       rcases Int.lt_or_le 1048576 (rt b) with h|h
       · have:1048577*1048577≤rt b*rt b:=Int.mul_le_mul (by omega) (by omega) (by omega) (by omega)
         have:=hb.2.1
         omega
       · exact h
     have hb0:0≤rt b:=hb.1
     have hmm:InR (rt b*rt b):=by
       have:=Int.mul_nonneg hb0 hb0
       have:=hb.2.1
       exact ⟨by omega,by omega⟩
     refine enterQ (c:=cx w 36) Try.func74 rfl rfl rfl rfl ?_
     repeat' (first|((with_reducible apply oq_id);first|(apply oq_fn;exact rfl;first|exact trivial|(and_intros<;>omega)|omega|skip)|((with_reducible apply oq_load);exact rfl;exact rfl)|((with_reducible apply oq_loadAgg);exact rfl;exact rfl)|((with_reducible apply oq_call (hc:=Try.call124));exact rfl;exact rfl;exact fun D w1 hw1=>fine1 hq hw1 (by (repeat first|exact P0|apply P1)))|((with_reducible apply oq_call (hc:=Try.call127));exact rfl;exact rfl;exact fun D w1 hw1=>root_calls _ (by omega) (by omega) w1)|((with_reducible apply oq_build);(iterate 3 exact rfl)))|((with_reducible apply tl_id);first|(with_reducible apply tl_nil)|((with_reducible apply u_q);(iterate 4 exact rfl))|((with_reducible apply u_s0);exact rfl;exact rfl)|((with_reducible apply u_s);(iterate 3 exact rfl)))|((with_reducible apply gx_id);first|(with_reducible apply v_nil)|((with_reducible apply v_q);(iterate 3 exact rfl)))|((with_reducible apply os_id);first|((with_reducible apply os_x);exact rfl)|((with_reducible apply os_store);(iterate 4 exact rfl))|((with_reducible apply os_storeAgg);(iterate 5 exact rfl)))|((with_reducible apply ox_id);first|((with_reducible apply ox_alloc);exact rfl;intro _)|((with_reducible apply ox_boxAgg);exact rfl;intro _)|((with_reducible apply ox_buildSlice2);(iterate 6 exact rfl);intro _))|((with_reducible apply ai_id);first|((with_reducible apply ai_x);(iterate 5 exact rfl))|((with_reducible apply ai_n0);(iterate 3 exact rfl)))|((with_reducible apply al_keep);focus (repeat first|exact HpSub.refl _|(apply HpSub.cons;(repeat first|exact P0|apply P1))|exact HpSub.nil))|((with_reducible apply rd_id);first|(apply Rd.own;(repeat first|exact P0|apply P1);exact rfl;done))|((with_reducible apply t_id);first|(with_reducible apply t_seq)|(apply t_region;kernel_rfl)|((with_reducible apply t_condF);exact rfl)|((with_reducible apply t_condD);exact rfl;all_goals first|(intro hp;try (exfalso;omega))|skip)|((with_reducible apply t_condN);exact rfl;all_goals first|(intro hp;try (exfalso;omega))|skip)|(with_reducible apply t_ret)|(with_reducible apply t_skip)|(with_reducible apply t_block))|with_reducible apply q_thenN|with_reducible apply q_blockN|exact P0|(with_reducible apply P1)|exact Rdn.zero|apply Rdn.succ|((with_reducible apply Norm.nil);exact rfl)|((with_reducible apply Norm.cons);exact rfl)|(with_reducible apply end_ret)|exact rvs_nil|(with_reducible apply rvs_cons)|((with_reducible apply rv_tmp);exact rfl)|((with_reducible apply rv_cellAgg);exact rfl;exact rfl)|(apply t_mix (id:=5) [0,1,2,3,4,5,6] 2 #[false,false,false,false,false,false,false,false,false];kernel_rfl;kernel_rfl;exact rfl)|((with_reducible apply al_id);first|(apply al_done;decide +kernel)|(apply al_one 7;decide +kernel)|(apply al_one 8;decide +kernel))|exact Nat.le_of_ble_eq_true rfl)
     · rw [if_neg (by assumption)];rfl
     · rw [if_pos (by assumption)];rfl
def windE (a b c d:Int):Int:=if fineS (a,b) && fineS (c,d) then (if allFrom (-2000) 2000 [a,b,c,d] then 0 else 2) else 10
theorem fromS4 {w0:World} {M:Ms} {H H':Hp} {w:World} {g:Nat} {a b c d lo hi:Int} {tg:Tg} {cp:Nat} {q:Bool} (hq:allFrom lo hi [a,b,c,d]=q) (h:Has w0 M H w) (p:Pick H g [.int .i64 a,.int .i64 b,.int .i64 c,.int .i64 d] tg H') :
   Calls Try.prog 75 #[.int .i64 lo,.int .i64 hi,.slice (some ⟨g,0,none⟩) 4 cp] w fun e w'=>e=.returned (.bool q)∧Ext w w':=
 hq ▸ from_calls lo hi (some ⟨g,0,none⟩) 4 cp [a,b,c,d] w (Blk.rows (k:=1) (rows:=[a,b,c,d].map fun z=>[Value.int .i64 z]) (h.blk _ p.mem).2 rfl (by simp)) (by omega)
theorem checkWind_calls (a b c d:Int) (w:World):Calls Try.prog 73 #[.agg #[.int .i64 a,.int .i64 b,.int .i64 c,.int .i64 d]] w fun e w'=>e=.returned (.int .i64 (windE a b c d))∧Ext w w':=by
 obtain ⟨q1,h1⟩:∃ q,fineS (a,b)=q:=⟨_,rfl⟩
 obtain ⟨q2,h2⟩:∃ q,fineS (c,d)=q:=⟨_,rfl⟩
 obtain ⟨q3,h3⟩:∃ q,allFrom (-2000) 2000 [a,b,c,d]=q:=⟨_,rfl⟩
 have H1:=fun w1=>check_calls a b w1
 have H2:=fun w1=>check_calls c d w1
 rw [h1] at H1
 rw [h2] at H2
 unfold windE
 rw [h1,h2,h3]
 refine enterQ (c:=cx w 35) Try.func73 rfl rfl rfl rfl ?_
 repeat' (first|((with_reducible apply oq_id);first|(apply oq_fn;exact rfl;first|exact trivial|(and_intros<;>omega)|omega|skip)|((with_reducible apply oq_loadAgg);exact rfl;exact rfl)|((with_reducible apply oq_buildA);(iterate 4 exact rfl)))|((with_reducible apply tl_id);first|(with_reducible apply tl_nil)|((with_reducible apply u_q);(iterate 4 exact rfl))|((with_reducible apply u_s);(iterate 3 exact rfl)))|((with_reducible apply os_id);first|((with_reducible apply os_x);exact rfl))|((with_reducible apply ox_id);first|((with_reducible apply ox_boxAgg);exact rfl;intro _))|((with_reducible apply rd_id);first|(apply Rd.own;(repeat first|exact P0|apply P1);exact rfl;done))|((with_reducible apply t_id);first|(with_reducible apply t_seq)|(apply t_region;kernel_rfl)|(with_reducible apply t_block))|with_reducible apply q_thenN|exact Rdn.zero|apply Rdn.succ|((with_reducible apply Norm.nil);exact rfl)|((with_reducible apply Norm.cons);exact rfl))
 apply t_loopK (ι:=Nat) [1,10,20,21,22,23,24,25,26,27,28,29,30,31,32,33,34] (fun k=>[(11,.int .i64 (k:Nat))]) (fun _=>[]) (fun k=>k≤2∧(1≤k→q1=true)∧(2≤k→q2=true)) (fun k=>2-k) (0)
 (repeat (first|exact KeepF.nil|(apply KeepF.cons;exact rfl)|apply KeepF.skip))
 (repeat first|exact FrSub.nil|(apply FrSub.cons;exact rfl))
 (repeat (first|exact HpSub.refl _|(apply HpSub.consE;(repeat first|exact P0|apply P1);exact rfl)|exact HpSub.nil))
 · simp
 rintro k ⟨k0,k1,k2⟩
 try simp only [List.cons_append,List.nil_append]
 have hk:k=0∨k=1∨k=2:=by omega
 rcases hk with rfl|rfl|rfl
 · cases q1 with
   | false=>
     simp only [Bool.false_eq_true,if_false] at H1
     repeat' (first|((with_reducible apply oq_id);first|(apply oq_fn;exact rfl;first|exact trivial|(and_intros<;>omega)|omega|skip)|((with_reducible apply oq_loadAgg);exact rfl;exact rfl)|((with_reducible apply oq_call (hc:=Try.call65));exact rfl;exact rfl;exact fun D w1 hw1=>H1 w1)|((with_reducible apply oq_indexAgg);(iterate 4 exact rfl)))|((with_reducible apply tl_id);first|(with_reducible apply tl_nil)|((with_reducible apply u_q);(iterate 4 exact rfl))|((with_reducible apply u_s0);exact rfl;exact rfl)|((with_reducible apply u_s);(iterate 3 exact rfl)))|((with_reducible apply os_id);first|((with_reducible apply os_x);exact rfl)|((with_reducible apply os_storeAgg);(iterate 5 exact rfl)))|((with_reducible apply ox_id);first|((with_reducible apply ox_alloc);exact rfl;intro _))|((with_reducible apply rd_id);first|(apply Rd.own;(repeat first|exact P0|apply P1);exact rfl;done))|((with_reducible apply t_id);first|(with_reducible apply t_seq)|(apply t_region;kernel_rfl)|((with_reducible apply t_condT);exact rfl)|(with_reducible apply t_ret)|(with_reducible apply t_skip)|(with_reducible apply t_block))|with_reducible apply q_thenN|with_reducible apply q_thenR|with_reducible apply q_blockR|exact P0|exact Rdn.zero|apply Rdn.succ|((with_reducible apply Norm.nil);exact rfl)|((with_reducible apply Norm.cons);exact rfl)|(with_reducible apply end_ret)|exact rvs_nil|(with_reducible apply rvs_cons)|((with_reducible apply rv_tmp);exact rfl)|exact Nat.le_of_ble_eq_true rfl|omega)
     rfl
   | true=>
     simp only [if_true] at H1
     repeat' (first|((with_reducible apply oq_id);first|(apply oq_fn;exact rfl;first|exact trivial|(and_intros<;>omega)|omega|skip)|((with_reducible apply oq_loadAgg);exact rfl;exact rfl)|((with_reducible apply oq_call (hc:=Try.call65));exact rfl;exact rfl;exact fun D w1 hw1=>H1 w1)|((with_reducible apply oq_indexAgg);(iterate 4 exact rfl)))|((with_reducible apply tl_id);first|(with_reducible apply tl_nil)|((with_reducible apply u_q);(iterate 4 exact rfl))|((with_reducible apply u_s0);exact rfl;exact rfl)|((with_reducible apply u_s);(iterate 3 exact rfl)))|((with_reducible apply os_id);first|((with_reducible apply os_x);exact rfl)|((with_reducible apply os_storeAgg);(iterate 5 exact rfl)))|((with_reducible apply ox_id);first|((with_reducible apply ox_alloc);exact rfl;intro _))|((with_reducible apply rd_id);first|(apply Rd.own;(repeat first|exact P0|apply P1);exact rfl;done))|((with_reducible apply t_id);first|(with_reducible apply t_seq)|(apply t_region;kernel_rfl)|((with_reducible apply t_condT);exact rfl)|((with_reducible apply t_condF);exact rfl)|(with_reducible apply t_skip)|(with_reducible apply t_block))|with_reducible apply q_thenN|with_reducible apply q_blockN|exact P0|exact Rdn.zero|apply Rdn.succ|((with_reducible apply Norm.nil);exact rfl)|((with_reducible apply Norm.cons);exact rfl)|exact Nat.le_of_ble_eq_true rfl|omega)
     refine ⟨1,⟨by omega,fun _=>rfl,fun h=>by omega⟩,by omega,?_,?_⟩
     · try simp only [List.cons_append,List.nil_append]
       (repeat first|exact FrSub.nil|(apply FrSub.cons;exact rfl))
     · try simp only [List.cons_append,List.nil_append]
       (repeat (first|exact HpSub.refl _|(apply HpSub.consE;(repeat first|exact P0|apply P1);exact rfl)|exact HpSub.nil))
 · obtain rfl:q1=true:=k1 (by omega)
   cases q2 with
   | false=>
     simp only [Bool.false_eq_true,if_false] at H2
     repeat' (first|((with_reducible apply oq_id);first|(apply oq_fn;exact rfl;first|exact trivial|(and_intros<;>omega)|omega|skip)|((with_reducible apply oq_loadAgg);exact rfl;exact rfl)|((with_reducible apply oq_call (hc:=Try.call65));exact rfl;exact rfl;exact fun D w1 hw1=>H2 w1)|((with_reducible apply oq_indexAgg);(iterate 4 exact rfl)))|((with_reducible apply tl_id);first|(with_reducible apply tl_nil)|((with_reducible apply u_q);(iterate 4 exact rfl))|((with_reducible apply u_s0);exact rfl;exact rfl)|((with_reducible apply u_s);(iterate 3 exact rfl)))|((with_reducible apply os_id);first|((with_reducible apply os_x);exact rfl)|((with_reducible apply os_storeAgg);(iterate 5 exact rfl)))|((with_reducible apply ox_id);first|((with_reducible apply ox_alloc);exact rfl;intro _))|((with_reducible apply rd_id);first|(apply Rd.own;(repeat first|exact P0|apply P1);exact rfl;done))|((with_reducible apply t_id);first|(with_reducible apply t_seq)|(apply t_region;kernel_rfl)|((with_reducible apply t_condT);exact rfl)|(with_reducible apply t_ret)|(with_reducible apply t_skip)|(with_reducible apply t_block))|with_reducible apply q_thenN|with_reducible apply q_thenR|with_reducible apply q_blockR|exact P0|exact Rdn.zero|apply Rdn.succ|((with_reducible apply Norm.nil);exact rfl)|((with_reducible apply Norm.cons);exact rfl)|(with_reducible apply end_ret)|exact rvs_nil|(with_reducible apply rvs_cons)|((with_reducible apply rv_tmp);exact rfl)|exact Nat.le_of_ble_eq_true rfl|omega)
     rfl
   | true=>
     simp only [if_true] at H2
     repeat' (first|((with_reducible apply oq_id);first|(apply oq_fn;exact rfl;first|exact trivial|(and_intros<;>omega)|omega|skip)|((with_reducible apply oq_loadAgg);exact rfl;exact rfl)|((with_reducible apply oq_call (hc:=Try.call65));exact rfl;exact rfl;exact fun D w1 hw1=>H2 w1)|((with_reducible apply oq_indexAgg);(iterate 4 exact rfl)))|((with_reducible apply tl_id);first|(with_reducible apply tl_nil)|((with_reducible apply u_q);(iterate 4 exact rfl))|((with_reducible apply u_s0);exact rfl;exact rfl)|((with_reducible apply u_s);(iterate 3 exact rfl)))|((with_reducible apply os_id);first|((with_reducible apply os_x);exact rfl)|((with_reducible apply os_storeAgg);(iterate 5 exact rfl)))|((with_reducible apply ox_id);first|((with_reducible apply ox_alloc);exact rfl;intro _))|((with_reducible apply rd_id);first|(apply Rd.own;(repeat first|exact P0|apply P1);exact rfl;done))|((with_reducible apply t_id);first|(with_reducible apply t_seq)|(apply t_region;kernel_rfl)|((with_reducible apply t_condT);exact rfl)|((with_reducible apply t_condF);exact rfl)|(with_reducible apply t_skip)|(with_reducible apply t_block))|with_reducible apply q_thenN|with_reducible apply q_blockN|exact P0|exact Rdn.zero|apply Rdn.succ|((with_reducible apply Norm.nil);exact rfl)|((with_reducible apply Norm.cons);exact rfl)|exact Nat.le_of_ble_eq_true rfl|omega)
     refine ⟨2,⟨by omega,fun _=>rfl,fun _=>rfl⟩,by omega,?_,?_⟩
     · try simp only [List.cons_append,List.nil_append]
       (repeat first|exact FrSub.nil|(apply FrSub.cons;exact rfl))
     · try simp only [List.cons_append,List.nil_append]
       (repeat (first|exact HpSub.refl _|(apply HpSub.consE;(repeat first|exact P0|apply P1);exact rfl)|exact HpSub.nil))
 · obtain rfl:q1=true:=k1 (by omega)
   obtain rfl:q2=true:=k2 (by omega)
   repeat' (first|((with_reducible apply oq_id);first|(apply oq_fn;exact rfl;first|exact trivial|(and_intros<;>omega)|omega|skip)|((with_reducible apply oq_load);exact rfl;exact rfl)|((with_reducible apply oq_call (hc:=Try.call75));exact rfl;exact rfl;exact fun D w1 hw1=>fromS4 h3 hw1 (by (repeat first|exact P0|apply P1))))|((with_reducible apply tl_id);first|(with_reducible apply tl_nil)|((with_reducible apply u_q);(iterate 4 exact rfl))|((with_reducible apply u_s);(iterate 3 exact rfl)))|((with_reducible apply os_id);first|((with_reducible apply os_x);exact rfl))|((with_reducible apply ox_id);first|((with_reducible apply ox_buildSlice1);(iterate 6 exact rfl);intro _))|((with_reducible apply rd_id);first|(apply Rd.own;(repeat first|exact P0|apply P1);exact rfl;done))|((with_reducible apply t_id);first|(with_reducible apply t_seq)|(apply t_region;kernel_rfl)|((with_reducible apply t_condF);exact rfl)|((with_reducible apply t_cond);exact rfl;all_goals first|intro hp|skip)|(with_reducible apply t_ret)|(with_reducible apply t_skip)|(with_reducible apply t_exit))|with_reducible apply q_thenN|with_reducible apply q_thenR|with_reducible apply q_thenE|((with_reducible apply q_blockE);exact rfl)|(with_reducible apply end_ret)|exact rvs_nil|(with_reducible apply rvs_cons)|((with_reducible apply rv_tmp);exact rfl))
   all_goals (cases q3<;>first|rfl|simp_all)
def nearV (a b:Int):Int:=max (max a (-b)) 0
def farV (a b:Int):Int:=max b (-a)
theorem windE_zero {a b c d:Int} (h:windE a b c d=0):a≤b∧c≤d∧-2000≤a∧b≤2000∧-2000≤c∧d≤2000:=by
 unfold windE at h
 split at h
 · rename_i h1
   simp only [Bool.and_eq_true,fineS_iff] at h1
   split at h
   · rename_i h2
     unfold allFrom at h2
     simp at h2
     omega
   · omega
 · omega
noncomputable def speedV (a b c d:Int):Int×Int×Int:=if windE a b c d=0 then rootV (nearV a b*nearV a b+nearV c d*nearV c d) (farV a b*farV a b+farV c d*farV c d) else (0,0,windE a b c d)
theorem mul64_calls (x y:Int) (h0:0≤x) (h1:x<4294967296) (h2:0≤y) (h3:y<4294967296) (w:World):Calls Try.prog 174 #[.int .u64 x,.int .u64 y] w fun e w'=>e=.returned (.tuple #[.int .u64 0,.int .u64 (x*y)])∧Ext w w':=by
 have hp:0≤x*y∧x*y≤4294967295*4294967295:=⟨Int.mul_nonneg h0 h2,Int.mul_le_mul (by omega) (by omega) h2 (by omega)⟩
 have hxy:InU (x*y):=⟨by omega,by omega⟩
 refine enterQ (c:=cx w 51) Try.func174 rfl rfl rfl rfl ?_
 repeat' (first|((with_reducible apply oq_id);first|(apply oq_fn;exact rfl;first|exact trivial|(and_intros<;>omega)|omega|skip)|(focus ((with_reducible apply oq_shrLow);exact rfl;exact rfl;(refine ⟨?_,?_⟩<;>omega)))|(focus ((with_reducible apply oq_andLow);exact rfl;exact rfl;(refine ⟨?_,?_⟩<;>omega)))|(focus ((with_reducible apply oq_shr32);exact rfl;exact rfl;omega))|(focus ((with_reducible apply oq_addU);exact rfl;exact rfl;(first|exact hxy|(refine ⟨?_,?_⟩<;>omega))))|(focus ((with_reducible apply oq_mulU);exact rfl;exact rfl;(first|exact hxy|(refine ⟨?_,?_⟩<;>omega)))))|((with_reducible apply tl_id);first|(with_reducible apply tl_nil)|((with_reducible apply u_q);(iterate 4 exact rfl)))|((with_reducible apply t_id);first|(with_reducible apply t_seq)|(apply t_region;kernel_rfl)|(with_reducible apply t_ret))|with_reducible apply q_thenN|(with_reducible apply end_ret)|exact rvs_nil|(with_reducible apply rvs_cons)|((with_reducible apply rv_tmp);exact rfl))
 all_goals rfl
theorem size_calls (n:Int) (h0 : -9223372036854775807≤n) (h1:n≤9223372036854775807) (w:World):Calls Try.prog 175 #[.int .i64 n] w fun e w'=>e=.returned (.int .u64 (max n (-n)))∧Ext w w':=by
 refine enterQ (c:=cx w 8) Try.func175 rfl rfl rfl rfl ?_
 repeat' (first|((with_reducible apply oq_id);first|(apply oq_fn;exact rfl;first|exact trivial|(and_intros<;>omega)|omega|skip)|(focus ((with_reducible apply oq_convU);(iterate 3 exact rfl);(refine ⟨?_,?_⟩<;>omega))))|((with_reducible apply tl_id);first|(with_reducible apply tl_nil)|((with_reducible apply u_q);(iterate 4 exact rfl)))|((with_reducible apply t_id);first|(with_reducible apply t_seq)|(apply t_region;kernel_rfl)|(with_reducible apply t_ret))|with_reducible apply q_thenN|(with_reducible apply end_ret)|exact rvs_nil|(with_reducible apply rvs_cons)|((with_reducible apply rv_tmp);exact rfl))
 all_goals rfl
theorem div64_calls (m y:Int) (h0:0≤m) (h1:m<18446744073709551616) (h2:0<y) (w:World):Calls Try.prog 176 #[.int .u64 0,.int .u64 m,.int .u64 y] w fun e w'=>e=.returned (.tuple #[.int .u64 (m.tdiv y),.int .u64 (m.tmod y)])∧Ext w w':=by
 have hq:InU (m.tdiv y):=by
   rw [Int.tdiv_eq_ediv_of_nonneg h0]
   have:=Int.ediv_le_self y h0
   have:=Int.ediv_nonneg h0 (Int.le_of_lt h2)
   exact ⟨by omega,by omega⟩
 refine enterQ (c:=cx w 135) Try.func176 rfl rfl rfl rfl ?_
 repeat' (first|((with_reducible apply oq_id);first|(apply oq_fn;exact rfl;first|exact trivial|(and_intros<;>omega)|omega|skip)|(focus ((with_reducible apply oq_quoU);exact rfl;exact rfl;omega;exact hq))|(focus ((with_reducible apply oq_remU);exact rfl;exact rfl;omega)))|((with_reducible apply tl_id);first|(with_reducible apply tl_nil)|((with_reducible apply u_q);(iterate 4 exact rfl)))|((with_reducible apply gx_id);first|(with_reducible apply v_nil)|((with_reducible apply v_q);(iterate 3 exact rfl)))|((with_reducible apply t_id);first|(with_reducible apply t_seq)|(apply t_region;kernel_rfl)|(apply t_drawn;kernel_rfl;decide +kernel)|((with_reducible apply t_condT);exact rfl)|((with_reducible apply t_condD);exact rfl;all_goals first|(intro hp;try (exfalso;omega))|skip)|(with_reducible apply t_ret)|(with_reducible apply t_skip))|with_reducible apply q_thenN|with_reducible apply q_thenR|(with_reducible apply end_ret)|exact rvs_nil|(with_reducible apply rvs_cons)|((with_reducible apply rv_tmp);exact rfl))
 all_goals rfl
theorem oq_neqB {w:World} {N:Nat} {F:Fr} {H:Hp} {M:List Nat} {d:Option Tmp} {ty t':TypeId} {pos:String} {af:Array Edge} {g:Option (Nat×Bool)} {x y:Operand} {a b:Bool}
   (hx:ev F x=some (.bool a)) (hy:ev F y=some (.bool b)):OQ (cxM M w N) ⟨d,.binOp .neq 4 x y t',ty,pos,af,g⟩ F H (.bool (!(a == b))):=.of fun D act w ha _=>by
 have u4:=Try.underlying4
 have e:∀ w,(binOp .neq 4 (.bool a) (.bool b)).run Try.prog w=.ok (.bool (!(a == b))) w:=fun w=>by
   have e0:(Op.equalIn 10000 4 (.bool a) (.bool b)).run Try.prog w=.ok (a == b) w:=run_equalIn_bool' (P:=Try.prog) w 9999 4 a b u4
   simp only [binOp,Op.equal,Op.maxDepth,Sem.run_bind,e0,Result.andThen,Sem.run_pure]
 have e1:∀ w,(eqGuard .neq 4 x y (.bool a) (.bool b)).run Try.prog w=.ok () w:=fun w=>by simp [eqGuard,go_sem]
 simp only [execOp,ha.ev hx,ha.ev hy,Sem.run_bind,e,e1,Result.andThen,Sem.run_pure]
theorem share1_calls (x y:Int) (hx : -1000000≤x∧x≤1000000) (hy : -1000000≤y∧y≤1000000) (w:World):Calls Try.prog 150 #[.int .i64 x,.int .i64 y,.int .i64 1] w fun e w'=>e=.returned (.agg #[.int .i64 (x*y),.int .i64 (x*y)])∧Ext w w':=by
 have hp:0≤max x (-x)*max y (-y)∧max x (-x)*max y (-y)≤1000000*1000000:=⟨Int.mul_nonneg (by omega) (by omega),Int.mul_le_mul (by omega) (by omega) (by omega) (by omega)⟩
 have D1:=fun w1=>div64_calls (max x (-x)*max y (-y)) 1 (by omega) (by omega) (by omega) w1
 rw [Int.tdiv_one,Int.tmod_one] at D1
 refine enterQ (c:=cx w 64) Try.func150 rfl rfl rfl rfl ?_
 repeat' (first|((with_reducible apply oq_id);first|(apply oq_fn;exact rfl;first|exact trivial|(and_intros<;>omega)|omega|skip)|((with_reducible apply oq_load);exact rfl;exact rfl)|((with_reducible apply oq_loadAgg);exact rfl;exact rfl)|(focus ((with_reducible apply oq_convU);(iterate 3 exact rfl);(refine ⟨?_,?_⟩<;>omega)))|(focus ((with_reducible apply oq_neqB);exact rfl;exact rfl))|((with_reducible apply oq_call (hc:=Try.call175));exact rfl;exact rfl;exact fun D w1 hw1=>size_calls _ (by omega) (by omega) w1)|((with_reducible apply oq_call (hc:=Try.call174));exact rfl;exact rfl;exact fun D w1 hw1=>mul64_calls _ _ (by omega) (by omega) (by omega) (by omega) w1)|((with_reducible apply oq_call (hc:=Try.call176));exact rfl;exact rfl;exact fun D w1 hw1=>D1 w1)|((with_reducible apply oq_build);(iterate 3 exact rfl)))|((with_reducible apply tl_id);first|(with_reducible apply tl_nil)|((with_reducible apply u_q);(iterate 4 exact rfl))|((with_reducible apply u_s0);exact rfl;exact rfl)|((with_reducible apply u_s);(iterate 3 exact rfl)))|((with_reducible apply os_id);first|((with_reducible apply os_x);exact rfl)|((with_reducible apply os_store);(iterate 4 exact rfl))|((with_reducible apply os_storeAgg);(iterate 5 exact rfl)))|((with_reducible apply ox_id);first|((with_reducible apply ox_alloc);exact rfl;intro _))|((with_reducible apply rd_id);first|(apply Rd.own;(repeat first|exact P0|apply P1);exact rfl;done))|((with_reducible apply t_id);first|(with_reducible apply t_seq)|(apply t_region;kernel_rfl)|((with_reducible apply t_condT);exact rfl)|((with_reducible apply t_condF);exact rfl)|((with_reducible apply t_condD);exact rfl;all_goals first|(intro hp;try (exfalso;omega))|skip)|((with_reducible apply t_condN);exact rfl;all_goals first|(intro hp;try (exfalso;omega))|skip)|(with_reducible apply t_ret)|(with_reducible apply t_skip))|with_reducible apply q_thenN|exact P0|(with_reducible apply P1)|exact Rdn.zero|apply Rdn.succ|((with_reducible apply Norm.nil);exact rfl)|((with_reducible apply Norm.cons);exact rfl)|(with_reducible apply end_ret)|exact rvs_nil|(with_reducible apply rvs_cons)|((with_reducible apply rv_cellAgg);exact rfl;exact rfl)|exact Nat.le_of_ble_eq_true rfl)
 · have hs:max x (-x)*max y (-y)=-(x*y):=by
     rcases Int.lt_or_le x 0 with h|h<;>rcases Int.lt_or_le y 0 with h'|h'
     · simp [h,h'] at *
     · rw [Int.max_eq_right (by omega),Int.max_eq_left (by omega),Int.neg_mul]
     · rw [Int.max_eq_left (by omega),Int.max_eq_right (by omega),Int.mul_neg]
     · have h1:¬ x<0:=by omega
       have h2:¬ y<0:=by omega
       simp [h1,h2] at *
   rw [hs,Int.neg_neg];rfl
 · have hs:max x (-x)*max y (-y)=x*y:=by
     rcases Int.lt_or_le x 0 with h|h<;>rcases Int.lt_or_le y 0 with h'|h'
     · rw [Int.max_eq_right (by omega),Int.max_eq_right (by omega),Int.neg_mul_neg]
     · have h2:¬ y<0:=by omega
       simp [h,h2] at *
     · have h1:¬ x<0:=by omega
       simp [h1,h'] at *
     · rw [Int.max_eq_left (by omega),Int.max_eq_left (by omega)]
   rw [hs];rfl
end Go.Proofs.Ytcjkndjjbjoehaa
namespace Go.Proofs.Ytcjkndjjbjoehaa
open Go.RowKit
section
variable {c:Cx} {F:Fr} {H:Hp} {d:Option Tmp} {ty t:TypeId} {pos:String} {af:Array Edge} {g:Option (Nat×Bool)} {x y:Operand}
theorem oq_sliceL {a0 a1:Bool} {s0 s1 e b o len cap l:Nat} {z0 z1:List Value} {k1:TyK} {k:IntKind} {li:Int} (ht:tyAt c.tys t=some ⟨a0,s0,z0,.slice e⟩) (he:tyAt c.tys e=some ⟨a1,s1,z1,k1⟩)
   (hx:ev F x=some (.slice (some ⟨b,o,none⟩) len cap)) (hy:ev F y=some (.int k li)) (hl:li=l) (h1:l≤len) (h2:cap≠l) :
   OQ c ⟨d,.slice t x (some y) none none,ty,pos,af,g⟩ F H (.slice (some ⟨b,o+l*s1,none⟩) (len-l) (cap-l)):=.of fun D a w ha _=>by
 subst hl
 have hk:=(c.ty ht).kind w
 have hs:=(c.ty he).size w
 simp only [execOp,Option.map,ha.ev hx,ha.ev hy]
 simp [Instr.sliceAt,Instr.slice,Instr.sliceBounds,Instr.sliceBound,asIntOf,Sem.run_bind,hk,hs,h1,h2,Result.andThen,go_sem,add_eq]
theorem oq_sliceArr {a0 a1:Bool} {s0 s1 n e b o:Nat} {z0 z1:List Value} {k1:TyK} (ht:tyAt c.tys t=some ⟨a0,s0,z0,.array n e⟩) (he:tyAt c.tys e=some ⟨a1,s1,z1,k1⟩)
   (hx:ev F x=some (.pointer (some ⟨b,o,none⟩))) :
   OQ c ⟨d,.slice t x none none none,ty,pos,af,g⟩ F H (.slice (some ⟨b,o,none⟩) n n):=.of fun D a w ha _=>by
 have hk:=(c.ty ht).kind w
 have hs:=(c.ty he).size w
 simp only [execOp,Option.map,ha.ev hx]
 simp [Instr.sliceAt,Instr.sureAddr,Instr.sliceBounds,Instr.sliceBound,asIntOf,Sem.run_bind,hk,hs,Result.andThen,go_sem,add_eq]
end
end Go.Proofs.Ytcjkndjjbjoehaa
namespace Go.Proofs.Ytcjkndjjbjoehaa
open Go.RowKit
attribute [local irreducible] OQ OS OX Rd T TL GX GL AL AI RV wpG SAny Calls
theorem sized_calls (a b:Int) (ha : -1099511627776≤a) (hb:b≤1099511627776) (w:World):Calls Try.prog 129 #[.agg #[.int .i64 a,.int .i64 b]] w fun e w'=>e=.returned (.tuple #[.agg #[.int .i64 a,.int .i64 b],.int .i64 0])∧Ext w w':=by
 refine enterQ (c:=cx w 14) Try.func129 rfl rfl rfl rfl ?_
 repeat' (first|((with_reducible apply oq_id);first|(apply oq_fn;exact rfl;first|exact trivial|(and_intros<;>omega)|omega|skip)|((with_reducible apply oq_load);exact rfl;exact rfl)|((with_reducible apply oq_loadAgg);exact rfl;exact rfl))|((with_reducible apply tl_id);first|(with_reducible apply tl_nil)|((with_reducible apply u_q);(iterate 4 exact rfl))|((with_reducible apply u_s0);exact rfl;exact rfl)|((with_reducible apply u_s);(iterate 3 exact rfl))|((with_reducible apply u_splitD);exact rfl;exact rfl;all_goals first|(intro hp;try (exfalso;omega))|skip))|((with_reducible apply os_id);first|((with_reducible apply os_x);exact rfl)|((with_reducible apply os_storeAgg);(iterate 5 exact rfl)))|((with_reducible apply ox_id);first|((with_reducible apply ox_alloc);exact rfl;intro _)|((with_reducible apply ox_boxAgg);exact rfl;intro _))|((with_reducible apply rd_id);first|(apply Rd.own;(repeat first|exact P0|apply P1);exact rfl;done))|((with_reducible apply t_id);first|(with_reducible apply t_seq)|(apply t_region;kernel_rfl)|((with_reducible apply t_condD);exact rfl;all_goals first|(intro hp;try (exfalso;omega))|skip)|(with_reducible apply t_ret)|(with_reducible apply t_skip))|with_reducible apply q_thenN|exact P0|exact Rdn.zero|apply Rdn.succ|((with_reducible apply Norm.nil);exact rfl)|((with_reducible apply Norm.cons);exact rfl)|(with_reducible apply end_ret)|exact rvs_nil|(with_reducible apply rvs_cons)|((with_reducible apply rv_tmp);exact rfl)|((with_reducible apply rv_cellAgg);exact rfl;exact rfl)|exact Nat.le_of_ble_eq_true rfl)
 all_goals rfl
theorem add_calls (a b c d:Int) (h : -1000000000≤a∧a≤b∧b≤1000000000) (k : -1000000000≤c∧c≤d∧d≤1000000000) (w:World):Calls Try.prog 77 #[.agg #[.int .i64 a,.int .i64 b],.agg #[.int .i64 c,.int .i64 d]] w fun e w'=>e=.returned (.tuple #[.agg #[.int .i64 (a+c),.int .i64 (b+d)],.int .i64 0])∧Ext w w':=by
 have hq:(fineS (a,b) && fineS (c,d))=true:=by rw [Bool.and_eq_true,fineS_iff,fineS_iff];simp only;omega
 refine enterQ (c:=cx w 26) Try.func77 rfl rfl rfl rfl ?_
 repeat' (first|((with_reducible apply oq_id);first|(apply oq_fn;exact rfl;first|exact trivial|(and_intros<;>omega)|omega|skip)|((with_reducible apply oq_load);exact rfl;exact rfl)|((with_reducible apply oq_loadAgg);exact rfl;exact rfl)|((with_reducible apply oq_call (hc:=Try.call124));exact rfl;exact rfl;exact fun D w1 hw1=>fine2 hq hw1 (by (repeat first|exact P0|apply P1)))|((with_reducible apply oq_call (hc:=Try.call129));exact rfl;exact rfl;exact fun D w1 hw1=>sized_calls _ _ (by omega) (by omega) w1)|((with_reducible apply oq_build);(iterate 3 exact rfl)))|((with_reducible apply tl_id);first|(with_reducible apply tl_nil)|((with_reducible apply u_q);(iterate 4 exact rfl))|((with_reducible apply u_s0);exact rfl;exact rfl)|((with_reducible apply u_s);(iterate 3 exact rfl)))|((with_reducible apply os_id);first|((with_reducible apply os_x);exact rfl)|((with_reducible apply os_storeAgg);(iterate 5 exact rfl)))|((with_reducible apply ox_id);first|((with_reducible apply ox_alloc);exact rfl;intro _)|((with_reducible apply ox_boxAgg);exact rfl;intro _)|((with_reducible apply ox_buildSlice2);(iterate 6 exact rfl);intro _))|((with_reducible apply rd_id);first|(apply Rd.own;(repeat first|exact P0|apply P1);exact rfl;done))|((with_reducible apply t_id);first|(with_reducible apply t_seq)|(apply t_region;kernel_rfl)|((with_reducible apply t_condF);exact rfl)|(with_reducible apply t_ret)|(with_reducible apply t_skip))|with_reducible apply q_thenN|exact P0|(with_reducible apply P1)|exact Rdn.zero|apply Rdn.succ|((with_reducible apply Norm.nil);exact rfl)|((with_reducible apply Norm.cons);exact rfl)|(with_reducible apply end_ret)|exact rvs_nil|(with_reducible apply rvs_cons)|((with_reducible apply rv_tmp);exact rfl)|((with_reducible apply rv_cellAgg);exact rfl;exact rfl)|exact Nat.le_of_ble_eq_true rfl)
 all_goals rfl
def hullS (a b:Int×Int):Int×Int:=(min a.1 b.1,max a.2 b.2)
def hullA (s:Int×Int) (l:List (Int×Int)):Int×Int:=l.foldl hullS s
theorem hullA_take (s:Int×Int) (l:List (Int×Int)) (k:Nat) (x:Int×Int) (h:l[k]?=some x):hullA s (l.take (k+1))=hullS (hullA s (l.take k)) x:=by
 unfold hullA
 rw [List.take_add_one,h,List.foldl_append]
 rfl
theorem hullA_one {s:Int×Int} {l:List (Int×Int)} (h:l[0]?=some s):hullA s (l.take (0+1))=s:=by
 rw [hullA_take s l 0 s h]
 simp [hullA,hullS]
theorem around_calls (A:Option Addr) (n cp:Nat) (s:Int×Int) (l:List (Int×Int)) (w:World) (hr:RdS w 2 A n (l.map spanCells)) (hn:n≤1000000) (h0:l[0]?=some s) (hcp:1<cp) (hn1:1≤n) :
   Calls Try.prog 151 #[.slice A n cp] w fun e w'=>e=.returned (.agg #[.int .i64 (hullA s l).1,.int .i64 (hullA s l).2])∧Ext w w':=by
 have hl:=hr.len
 simp only [List.length_map] at hl
 obtain ⟨b0,o,x,rfl,hb,hkx,c0,c1⟩:=span_read hr (show 0<n by omega)
 obtain rfl:s=x:=by rw [hkx] at h0;exact (Option.some.inj h0).symm
 refine enterQ (c:=cx w 30) Try.func151 rfl rfl rfl rfl ?_
 repeat' (first|((with_reducible apply oq_id);first|(apply oq_fn;exact rfl;first|exact trivial|(and_intros<;>omega)|omega|skip)|((with_reducible apply oq_loadAgg);exact rfl;exact rfl)|(focus ((with_reducible apply oq_sliceL (l:=1));(iterate 5 exact rfl);omega;omega)))|((with_reducible apply tl_id);first|(with_reducible apply tl_nil)|((with_reducible apply u_q);(iterate 4 exact rfl))|((with_reducible apply u_s0);exact rfl;exact rfl)|((with_reducible apply u_s);(iterate 3 exact rfl)))|((with_reducible apply os_id);first|((with_reducible apply os_x);exact rfl)|((with_reducible apply os_storeAgg);(iterate 5 exact rfl)))|((with_reducible apply ox_id);first|((with_reducible apply ox_alloc);exact rfl;intro _))|((with_reducible apply rd_id);first|(apply Rd.old;(first|(with_reducible assumption)|exact c0|exact c1);first|exact List.not_mem_nil))|((with_reducible apply t_id);first|(with_reducible apply t_seq)|(apply t_region;kernel_rfl)|(with_reducible apply t_block))|with_reducible apply q_thenN|exact P0|exact Rdn.zero|apply Rdn.succ|((with_reducible apply Norm.nil);exact rfl)|((with_reducible apply Norm.cons);exact rfl)|exact Nat.le_of_ble_eq_true rfl)
 rename_i b2 b3
 apply t_loopK (ι:=Nat) [2,3,10,11,29] (fun k=>[(12,.int .i64 (k:Nat))]) (fun k=>[(b3,[.int .i64 (hullA s (l.take (k+1))).1,.int .i64 (hullA s (l.take (k+1))).2],some (39,2,1))]) (fun k=>k≤n-1) (fun k=>n-1-k) (0)
 (repeat (first|exact KeepF.nil|(apply KeepF.cons;exact rfl)|apply KeepF.skip))
 (repeat first|exact FrSub.nil|(apply FrSub.cons;exact rfl))
 (repeat (first|exact HpSub.refl _|(apply HpSub.consE;(repeat first|exact P0|apply P1);first|exact rfl|((rw [hullA_one h0])))|exact HpSub.nil))
 · omega
 intro k hk
 try simp only [List.cons_append,List.nil_append]
 clear c0 c1
 by_cases hlt:k<n-1
 · obtain ⟨b1,o1,x,hA,_,hkx2,c0,c1⟩:=span_read hr (show k+1<n by omega)
   obtain ⟨rfl,rfl⟩:b1=b0∧o1=o:=by simpa using hA.symm
   rw [show o1+(k+1)*2=o1+1*2+k*2 by omega] at c0 c1
   repeat' (first|((with_reducible apply oq_id);first|(apply oq_fn;exact rfl;first|exact trivial|(and_intros<;>omega)|omega|skip)|((with_reducible apply oq_load);exact rfl;exact rfl)|((with_reducible apply oq_loadAgg);exact rfl;exact rfl))|((with_reducible apply tl_id);first|(with_reducible apply tl_nil)|((with_reducible apply u_q);(iterate 4 exact rfl))|((with_reducible apply u_s0);exact rfl;exact rfl)|((with_reducible apply u_s);(iterate 3 exact rfl)))|((with_reducible apply gx_id);first|(with_reducible apply v_nil)|((with_reducible apply v_q);(iterate 3 exact rfl)))|((with_reducible apply os_id);first|((with_reducible apply os_x);exact rfl)|((with_reducible apply os_store);(iterate 4 exact rfl))|((with_reducible apply os_storeAgg);(iterate 5 exact rfl)))|((with_reducible apply ox_id);first|((with_reducible apply ox_alloc);exact rfl;intro _))|((with_reducible apply ai_id);first|((with_reducible apply ai_q);(iterate 5 exact rfl))|((with_reducible apply ai_s0);(iterate 4 exact rfl)))|((with_reducible apply rd_id);first|(apply Rd.own;(repeat first|exact P0|apply P1);exact rfl;done)|(apply Rd.old;(first|(with_reducible assumption)|exact c0|exact c1);first|exact List.not_mem_nil))|((with_reducible apply t_id);first|(with_reducible apply t_seq)|(apply t_region;kernel_rfl)|((with_reducible apply t_condD);exact rfl;all_goals first|(intro hp;try (exfalso;omega))|skip)|(with_reducible apply t_skip)|(with_reducible apply t_block))|with_reducible apply q_thenN|with_reducible apply q_blockN|exact P0|(with_reducible apply P1)|exact Rdn.zero|apply Rdn.succ|((with_reducible apply Norm.nil);exact rfl)|((with_reducible apply Norm.cons);exact rfl)|(apply t_mix (id:=5) [0,1,2,3,4,5,6,10] 6 #[false,false,false,false,false,false,false,false,false,false,false,true,false,true];kernel_rfl;kernel_rfl;exact rfl)|((with_reducible apply al_id);first|(apply al_done;decide +kernel)|(apply al_one 7;decide +kernel)|(apply al_one 8;decide +kernel)|(apply al_one 9;decide +kernel)|(apply al_one 11;decide +kernel)|(apply al_one 12;decide +kernel)|(apply al_one 13;decide +kernel)|(apply al_two 7 11;decide +kernel)|(apply al_two 8 11;decide +kernel)|(apply al_two 9 11;decide +kernel))|exact Nat.le_of_ble_eq_true rfl)
   all_goals
     refine ⟨k+1,by omega,by omega,?_,?_⟩
     · try simp only [List.cons_append,List.nil_append]
       (repeat first|exact FrSub.nil|(apply FrSub.cons;exact rfl))
     · try simp only [List.cons_append,List.nil_append]
       (repeat (first|exact HpSub.refl _|(apply HpSub.consE;(repeat first|exact P0|apply P1);first|exact rfl|(rw [hullA_take _ _ _ _ hkx2];rfl))|exact HpSub.nil))
 · have hkn:l.take (k+1)=l:=List.take_of_length_le (by omega)
   repeat' (first|((with_reducible apply oq_id);first|(apply oq_fn;exact rfl;first|exact trivial|(and_intros<;>omega)|omega|skip)|((with_reducible apply oq_loadAgg);exact rfl;exact rfl))|((with_reducible apply tl_id);first|(with_reducible apply tl_nil)|((with_reducible apply u_q);(iterate 4 exact rfl))|((with_reducible apply u_s0);exact rfl;exact rfl))|((with_reducible apply os_id);first|((with_reducible apply os_storeAgg);(iterate 5 exact rfl)))|((with_reducible apply rd_id);first|(apply Rd.own;(repeat first|exact P0|apply P1);exact rfl;done))|((with_reducible apply t_id);first|(with_reducible apply t_seq)|(apply t_region;kernel_rfl)|((with_reducible apply t_condD);exact rfl;all_goals first|(intro hp;try (exfalso;omega))|skip)|(with_reducible apply t_ret)|(with_reducible apply t_exit))|with_reducible apply q_thenN|with_reducible apply q_thenE|((with_reducible apply q_blockE);exact rfl)|exact P0|(with_reducible apply P1)|exact Rdn.zero|apply Rdn.succ|((with_reducible apply Norm.nil);exact rfl)|((with_reducible apply Norm.cons);exact rfl)|(with_reducible apply end_ret)|exact rvs_nil|(with_reducible apply rvs_cons)|((with_reducible apply rv_cellAgg);exact rfl;exact rfl)|exact Nat.le_of_ble_eq_true rfl)
   rw [hkn]
   rfl
end Go.Proofs.Ytcjkndjjbjoehaa
