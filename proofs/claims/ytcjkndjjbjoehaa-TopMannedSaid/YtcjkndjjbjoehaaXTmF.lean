/- A part of the proof: rules for walks, and contracts of functions (6). -/
import Derived.Test.YtcjkndjjbjoehaaXTmC
import Derived.Test.YtcjkndjjbjoehaaXTmE
set_option linter.unusedVariables false
set_option linter.unusedSimpArgs false
set_option maxRecDepth 100000
set_option maxHeartbeats 2000000
namespace Go.Proofs.Ytcjkndjjbjoehaa
open Go.RowKit
attribute [local irreducible] OQ OS OX Rd T TL GX GL AL AI RV wpG SAny Calls mapTg
theorem HpSub.per {H G:Hp} (h:HpSub H G):∃ K,H.Perm (G++K):=by
 induction h with
 | nil=>exact ⟨_,List.Perm.refl _⟩
 | cons p _ ih=>
   obtain ⟨K,hK⟩:=ih
   exact ⟨K,p.perm.trans (List.Perm.cons _ hK)⟩
theorem hp_of_per:∀ {G H K:Hp},H.Perm (G++K)→HpSub H G
 | [],H,K,_=>HpSub.nil
 | (b,C,g)::G,H,K,h=>by
   have hm:(b,C,g)∈H:=h.mem_iff.2 (List.mem_cons_self ..)
   obtain ⟨H',hp⟩:∃ H',Pick H b C g H':=by
     clear h
     induction H with
     | nil=>cases hm
     | cons x H ih=>
       rcases List.mem_cons.1 hm with rfl|hm
       · exact ⟨H,Pick.head _ _ _ _⟩
       · obtain ⟨H',hp⟩:=ih hm
         exact ⟨x::H',hp.tail⟩
   exact HpSub.cons hp (hp_of_per ((hp.perm.symm.trans h).cons_inv))
theorem HpSub.tr {H G K:Hp} (h:HpSub H G) (k:HpSub G K):HpSub H K:=by
 obtain ⟨A,hA⟩:=h.per
 obtain ⟨B,hB⟩:=k.per
 refine hp_of_per (K:=B++A) (hA.trans ?_)
 rw [← List.append_assoc]
 exact List.Perm.append_right _ hB
structure En where
 i:Nat
 bk:Bool
 l:List (Int×Int)
 o:Option (Nat×Nat)
def En.kc (e:En):List Nat:=[2,e.i,if e.bk then 1 else 0]
def slC (l:List (Int×Int)):Option (Nat×Nat)→List Nat
 | none=>[]
 | some (b,cap)=>[3,b,0,l.length,cap]
theorem dec_key (i:Nat) (bk:Bool):decV [2,i,if bk then 1 else 0]=fk i bk:=by cases bk<;>rfl
theorem dec_kc (e:En):decV e.kc=fk e.i e.bk:=dec_key _ _
theorem dec_slC (l:List (Int×Int)) (o:Option (Nat×Nat)):decV (slC l o)=sR l o:=by
 rcases o with _|⟨b,cap⟩<;>rfl
def enM (E:List En):Mc:=E.map fun e=>(e.kc,slC e.l e.o)
def enS (a:Hp) (e:En):Hp:=hR e.l e.o++a
def enH (E:List En):Hp:=E.foldl enS []
theorem enH_acc:∀ (E:List En) (a:Hp),HpSub (E.foldl enS a) a
 | [],a=>HpSub.refl _
 | x::E,a=>(enH_acc E (enS a x)).tr (HpSub.skipApp (HpSub.refl _))
theorem enH_at':∀ {E:List En} {e:En} (a:Hp),e∈E→HpSub (E.foldl enS a) (hR e.l e.o)
 | x::E,e,a,h=>by
   rcases List.mem_cons.1 h with rfl|h
   · exact (enH_acc E (enS a e)).tr HpSub.appLeft
   · exact enH_at' (enS a x) h
theorem enH_at {E:List En} {e:En} (h:e∈E):HpSub (enH E) (hR e.l e.o):=enH_at' [] h
theorem dec_s (b n cap:Nat):decV [3,b,0,n,cap]=.slice (some ⟨b,0,none⟩) n cap:=rfl
theorem dec_n:decV []=.slice none 0 0:=rfl
theorem dec_k0 (i:Nat):decV [2,i,0]=fk i false:=rfl
theorem dec_k1 (i:Nat):decV [2,i,1]=fk i true:=rfl
theorem enM_two (E:List En) (k:Nat) (l1 l2:List (Int×Int)) (o1 o2:Option (Nat×Nat)):enM (E++[⟨k,false,l1,o1⟩,⟨k,true,l2,o2⟩])=enM E++[([2,k,0],slC l1 o1)]++[([2,k,1],slC l2 o2)]:=by simp [enM,En.kc]
theorem enH_two (E:List En) (k:Nat) (l1 l2:List (Int×Int)) (o1 o2:Option (Nat×Nat)):enH (E++[⟨k,false,l1,o1⟩,⟨k,true,l2,o2⟩])=hR l2 o2++(hR l1 o1++enH E):=by simp [enH,enS,List.foldl_append]
def keyOf (e:En):Nat×Bool×List (Int×Int):=(e.i,e.bk,e.l)
noncomputable def legsE (v q1 q2 q3:Int) (C:List Wn) (z:Lg) (i:Nat):List (Nat×Bool×List (Int×Int)):=
 if q3<upV q1 q2 z.h then [] else [(i,false,ratesV v (upV q1 q2 z.h) z.x z.y C),(i,true,ratesV v (upV q1 q2 z.h) (-z.x) (-z.y) C)]
noncomputable def deskE (v q1 q2 q3:Int) (C:List Wn) (L:List Lg):Nat→List (Nat×Bool×List (Int×Int))
 | 0=>[]
 | k+1=>deskE v q1 q2 q3 C L k++(match L[k]? with|some z=>legsE v q1 q2 q3 C z k|none=>[])
theorem deskE_mem {v q1 q2 q3:Int} {C:List Wn} {L:List Lg} {i:Nat} {bk:Bool} {l:List (Int×Int)}:∀ {k:Nat},(i,bk,l)∈deskE v q1 q2 q3 C L k→i<k∧∃ z,L[i]?=some z∧¬ q3<upV q1 q2 z.h∧l=legRz v q1 q2 q3 z bk C
 | 0,h=>by cases h
 | k+1,h=>by
   unfold deskE at h
   rcases List.mem_append.1 h with h|h
   · obtain ⟨h1,h2⟩:=deskE_mem h
     exact ⟨by omega,h2⟩
   · split at h
     · rename_i z hz
       unfold legsE at h
       split at h
       · cases h
       · rename_i hq
         simp only [List.mem_cons,List.not_mem_nil,or_false,Prod.mk.injEq] at h
         rcases h with ⟨rfl,rfl,rfl⟩|⟨rfl,rfl,rfl⟩
         · exact ⟨by omega,z,hz,hq,by unfold legRz legR;rw [if_neg hq];rfl⟩
         · exact ⟨by omega,z,hz,hq,by unfold legRz legR;rw [if_neg hq];rfl⟩
     · cases h
theorem deskE_has {v q1 q2 q3:Int} {C:List Wn} {L:List Lg} {i:Nat} {bk:Bool} {z:Lg} (hz:L[i]?=some z) (hq:¬ q3<upV q1 q2 z.h):∀ {k:Nat},i<k→(i,bk,legRz v q1 q2 q3 z bk C)∈deskE v q1 q2 q3 C L k
 | 0,h=>by omega
 | k+1,h=>by
   unfold deskE
   rcases Nat.lt_or_eq_of_le (Nat.le_of_lt_succ h) with h1|rfl
   · exact List.mem_append_left _ (deskE_has hz hq h1)
   · refine List.mem_append_right _ ?_
     rw [hz]
     simp only
     unfold legsE legRz legR
     rw [if_neg hq,if_neg hq]
     cases bk
     · exact List.mem_cons_self ..
     · exact List.mem_cons_of_mem _ (List.mem_cons_self ..)
theorem deskE_succ {v q1 q2 q3:Int} {C:List Wn} {L:List Lg} {k:Nat} {z:Lg} (hz:L[k]?=some z):deskE v q1 q2 q3 C L (k+1)=deskE v q1 q2 q3 C L k++legsE v q1 q2 q3 C z k:=by
 show deskE v q1 q2 q3 C L k++_=_
 rw [hz]
theorem desk_no {v q1 q2 q3:Int} {C:List Wn} {L:List Lg} {k:Nat} {z:Lg} {E:List En} (hE:E.map keyOf=deskE v q1 q2 q3 C L k) (hz:L[k]?=some z) (hq:q3<upV q1 q2 z.h):E.map keyOf=deskE v q1 q2 q3 C L (k+1):=by
 rw [deskE_succ hz,hE]
 unfold legsE
 rw [if_pos hq,List.append_nil]
theorem desk_two {v q1 q2 q3:Int} {C:List Wn} {L:List Lg} {k:Nat} {z:Lg} {E:List En} (o1 o2:Option (Nat×Nat)) (hE:E.map keyOf=deskE v q1 q2 q3 C L k) (hz:L[k]?=some z) (hq:¬ q3<upV q1 q2 z.h):List.map keyOf (E++[⟨k,false,ratesV v (upV q1 q2 z.h) z.x z.y C,o1⟩,⟨k,true,ratesV v (upV q1 q2 z.h) (-z.x) (-z.y) C,o2⟩])=deskE v q1 q2 q3 C L (k+1):=by
 rw [deskE_succ hz,List.map_append,hE]
 unfold legsE
 rw [if_neg hq]
 rfl
theorem nl_two {E:List En} {k:Nat} {l1 l2:List (Int×Int)} {o1 o2:Option (Nat×Nat)} (h:∀ e∈E,e.o=none→e.l=[]) (h1:o1=none→l1=[]) (h2:o2=none→l2=[]):∀ e∈E++[⟨k,false,l1,o1⟩,⟨k,true,l2,o2⟩],e.o=none→e.l=[]:=fun e he=>by
 rcases List.mem_append.1 he with he|he
 · exact h e he
 · simp only [List.mem_cons,List.not_mem_nil,or_false] at he
   rcases he with rfl|rfl
   · exact h1
   · exact h2
theorem desk_lt {v q1 q2 q3:Int} {C:List Wn} {L:List Lg} {k:Nat} {E:List En} (hE:E.map keyOf=deskE v q1 q2 q3 C L k):∀ e∈E,e.i<k:=fun e he=>by
 have hm:keyOf e∈E.map keyOf:=List.mem_map.2 ⟨e,he,rfl⟩
 rw [hE] at hm
 exact (deskE_mem hm).1
theorem new_one {v q1 q2 q3:Int} {C:List Wn} {L:List Lg} {k:Nat} {E:List En} (hE:E.map keyOf=deskE v q1 q2 q3 C L k):∀ c∈enM E,∃ j q,decV c.1=fk j q∧¬ ((k:Int)=j∧false=q):=fun c hc=>by
 obtain ⟨e,he,rfl⟩:=List.mem_map.1 hc
 have:=desk_lt hE e he
 exact ⟨_,_,dec_kc e,fun hh=>by omega⟩
theorem new_two {v q1 q2 q3:Int} {C:List Wn} {L:List Lg} {k:Nat} {E:List En} (hE:E.map keyOf=deskE v q1 q2 q3 C L k) (vc:List Nat):∀ c∈enM E++[([2,k,0],vc)],∃ j q,decV c.1=fk j q∧¬ ((k:Int)=j∧true=q):=fun c hc=>by
 rcases List.mem_append.1 hc with hc|hc
 · obtain ⟨e,he,rfl⟩:=List.mem_map.1 hc
   have:=desk_lt hE e he
   exact ⟨_,_,dec_kc e,fun hh=>by omega⟩
 · simp only [List.mem_cons,List.not_mem_nil,or_false] at hc
   subst hc
   exact ⟨_,_,dec_k0 k,fun hh=>by cases hh.2⟩
theorem first_of {α:Type} (p:α→Bool):∀ (E:List α),(∀ e∈E,p e=false)∨∃ (j:Nat) (e:α),E[j]?=some e∧p e=true∧∀ e'∈E.take j,p e'=false
 | []=>.inl fun _ h=>by cases h
 | x::E=>by
   cases hx:p x with
   | true=>exact .inr ⟨0,x,rfl,hx,fun _ h=>by simp at h⟩
   | false=>
     rcases first_of p E with h|⟨j,e,h1,h2,h3⟩
     · exact .inl fun e he=>by
         rcases List.mem_cons.1 he with rfl|he
         · exact hx
         · exact h e he
     · exact .inr ⟨j+1,e,h1,h2,fun e' he=>by
         rw [List.take_succ_cons] at he
         rcases List.mem_cons.1 he with rfl|he
         · exact hx
         · exact h3 e' he⟩
def isKey (i:Nat) (bk:Bool) (e:En):Bool:=decide (i=e.i∧bk=e.bk)
structure DskR (w:World) (b bM:Nat) (AP AT:Option Addr) (m cM n cp:Nat) (v q1 q2 q3 q4 g0 g1:Int) (E:List En):Prop where
 c0:w.cell? ⟨b,0,none⟩=some (.slice AP m cM)
 c1:w.cell? ⟨b,0+1,none⟩=some (.slice AT n cp)
 c2:w.cell? ⟨b,0+2,none⟩=some (.int .i64 v)
 c3:w.cell? ⟨b,0+3,none⟩=some (.int .i64 q1)
 c4:w.cell? ⟨b,0+4,none⟩=some (.int .i64 q2)
 c5:w.cell? ⟨b,0+5,none⟩=some (.int .i64 q3)
 c6:w.cell? ⟨b,0+6,none⟩=some (.int .i64 q4)
 c7:w.cell? ⟨b,0+7,none⟩=some (.int .i64 g0)
 c8:w.cell? ⟨b,0+8,none⟩=some (.int .i64 g1)
 c9:w.cell? ⟨b,0+9,none⟩=some (.map (some bM))
 mp:IsMap w bM (enM E)
 rd:∀ e∈E,∀ g cap,e.o=some (g,cap)→RdS w 2 (some ⟨g,0,none⟩) e.l.length (e.l.map rtCells)
 nl:∀ e∈E,e.o=none→e.l=[]
 lt:b<w.heap.size
def dkC (AP AT:Option Addr) (m cM n cp:Nat) (v q1 q2 q3 q4 g0 g1:Int) (bM:Nat):List Value:=[.slice AP m cM,.slice AT n cp,.int .i64 v,.int .i64 q1,.int .i64 q2,.int .i64 q3,.int .i64 q4,.int .i64 g0,.int .i64 g1,.map (some bM)]
def dkH (b bM:Nat) (AP AT:Option Addr) (m cM n cp:Nat) (v q1 q2 q3 q4 g0 g1:Int) (E:List En):Hp:=(b,dkC AP AT m cM n cp v q1 q2 q3 q4 g0 g1 bM,some (198,10,1))::(bM,[],mapTg 196 (enM E))::enH E
theorem rt_rows {w0:World} {M:Ms} {H H':Hp} {w:World} {g n:Nat} {l:List (Int×Int)} {tg:Tg} (hl:l.length=n) (h:Has w0 M H w) (q:Pick H g (l.map rtCells).flatten tg H'):RdS w 2 (some ⟨g,0,none⟩) n (l.map rtCells):=
 Blk.rows (h.blk _ q.mem).2 (by simpa using hl) (by simp only [List.mem_map];rintro r ⟨x,_,rfl⟩;rfl)
theorem DskR.of_has {w0 w:World} {M:Ms} {b bM:Nat} {AP AT:Option Addr} {m cM n cp:Nat} {v q1 q2 q3 q4 g0 g1:Int} {E:List En} (h:Has w0 M (dkH b bM AP AT m cM n cp v q1 q2 q3 q4 g0 g1 E) w) (hn:∀ e∈E,e.o=none→e.l=[]):DskR w b bM AP AT m cM n cp v q1 q2 q3 q4 g0 g1 E:=by
 have hb:=(h.blk _ (List.mem_cons_self ..)).2
 refine ⟨hb.cell rfl,hb.cell rfl,hb.cell rfl,hb.cell rfl,hb.cell rfl,hb.cell rfl,hb.cell rfl,hb.cell rfl,hb.cell rfl,hb.cell rfl,(h.blk _ (List.mem_cons_of_mem _ (List.mem_cons_self ..))).2.map,fun e he g cap ho=>?_,hn,hb.lt⟩
 have hs:=h.sub (HpSub.skipX (HpSub.skipX (enH_at he)))
 rw [ho] at hs
 exact rt_rows rfl hs P0
theorem desk_find {v q1 q2 q3:Int} {C:List Wn} {L:List Lg} {E:List En} {n j:Nat} {z:Lg} (hE:E.map keyOf=deskE v q1 q2 q3 C L n) (hn:j<n) (hz:L[j]?=some z) (bk:Bool) :
   (∃ p e,E[p]?=some e∧e.i=j∧e.bk=bk∧e.l=legRz v q1 q2 q3 z bk C∧∀ e'∈E.take p,¬ (j=e'.i∧bk=e'.bk))∨((∀ e∈E,¬ (j=e.i∧bk=e.bk))∧legRz v q1 q2 q3 z bk C=[]):=by
 rcases first_of (isKey j bk) E with h|⟨p,e,h1,h2,h3⟩
 · refine .inr ⟨fun e he=>of_decide_eq_false (h e he),?_⟩
   unfold legRz legR
   by_cases hq:q3<upV q1 q2 z.h
   · rw [if_pos hq]
   · exfalso
     have hm:=deskE_has (v:=v) (C:=C) (bk:=bk) hz hq hn
     rw [← hE] at hm
     obtain ⟨e,he,hk⟩:=List.mem_map.1 hm
     simp only [keyOf,Prod.mk.injEq] at hk
     exact of_decide_eq_false (h e he) ⟨hk.1.symm,hk.2.1.symm⟩
 · obtain ⟨h4,h5⟩:=of_decide_eq_true h2
   refine .inl ⟨p,e,h1,h4.symm,h5.symm,?_,fun e' he=>of_decide_eq_false (h3 e' he)⟩
   have hm:keyOf e∈E.map keyOf:=List.mem_map.2 ⟨e,List.mem_of_getElem? h1,rfl⟩
   rw [hE] at hm
   obtain ⟨_,z',hz',_,hl⟩:=deskE_mem hm
   rw [← h4,hz] at hz'
   obtain rfl:=Option.some.inj hz'
   rw [hl,h5]
def DskV (AP AT:Option Addr) (m cM n cp:Nat) (v q1 q2 q3 q4 g0 g1:Int) (C:List Wn) (L:List Lg) (u:Value) (H:Hp):Prop:=
 ∃ bD bM E,u=.tuple #[.pointer (some ⟨bD,0,none⟩),.int .i64 0]∧H=dkH bD bM AP AT m cM n cp v q1 q2 q3 q4 g0 g1 E∧E.map keyOf=deskE v q1 q2 q3 C L n∧∀ e∈E,e.o=none→e.l=[]
section
variable {F:Fr} {H H':Hp} {d:Option Tmp} {ty:TypeId} {pos:String} {af:Array Edge} {g:Option (Nat×Bool)} {x y:Operand} {w:World} {N:Nat}
theorem oq_lookupNoW {L:Mc} {b:Nat} {i:Int} {p:Bool} (hx:ev F x=some (.map (some b))) (hy:ev F y=some (fk i p)) (hb:∀ D w1,Has (cx w N).w0 ⟨(cx w N).M,D⟩ H w1→IsMap w1 b L) (hnew:∀ e∈L,∃ j q,decV e.1=fk j q∧¬ (i=j∧p=q)) :
   OQ (cx w N) ⟨d,.lookup 196 x y false,ty,pos,af,g⟩ F H (.slice none 0 0):=.of fun D a w ha hw=>by
 obtain ⟨es,ck,h1,h2⟩:=hb _ _ hw
 have hk:∀ e∈es.toList,∃ j q,e.key=fk j q∧¬ (i=j∧p=q):=fun e he=>by
   have h3:(e.key,e.val)∈es.toList.map (fun e=>(e.key,e.val)):=List.mem_map.2 ⟨e,he,rfl⟩
   rw [h2] at h3
   obtain ⟨c,hc1,hc2⟩:=List.mem_map.1 h3
   obtain ⟨j,q,h4,h5⟩:=hnew c hc1
   simp only [Prod.mk.injEq] at hc2
   exact ⟨j,q,by rw [← hc2.1,h4],h5⟩
 have r:=lookup_none h1 hk
 simp only [execOp,ha.ev hx,ha.ev hy,Sem.run_bind,r,Result.andThen,Sem.run_pure]
theorem enM_fk (E:List En):FkL (enM E):=fun c hc=>by
 obtain ⟨e,_,rfl⟩:=List.mem_map.1 hc
 exact ⟨_,_,dec_kc e⟩
theorem enM_new {E:List En} {j:Nat} {bk:Bool} (h:∀ e∈E,¬ (j=e.i∧bk=e.bk)):∀ c∈enM E,∃ i q,decV c.1=fk i q∧¬ ((j:Int)=i∧bk=q):=fun c hc=>by
 obtain ⟨e,he,rfl⟩:=List.mem_map.1 hc
 exact ⟨_,_,dec_kc e,fun hh=>h e he ⟨by omega,hh.2⟩⟩
end
theorem DskR.find {w:World} {b bM:Nat} {AP AT:Option Addr} {m cM n cp:Nat} {v q1 q2 q3 q4 g0 g1:Int} {E:List En} {C:List Wn} {L:List Lg} {j nn:Nat} {z:Lg} (h:DskR w b bM AP AT m cM n cp v q1 q2 q3 q4 g0 g1 E) (hE:E.map keyOf=deskE v q1 q2 q3 C L nn) (hn:j<nn) (hz:L[j]?=some z) (bk:Bool) :
   ∃ o,(o=none→legRz v q1 q2 q3 z bk C=[])∧(∀ g cap,o=some (g,cap)→RdS w 2 (some ⟨g,0,none⟩) (legRz v q1 q2 q3 z bk C).length ((legRz v q1 q2 q3 z bk C).map rtCells)) ∧
     ∀ (F:Fr) (H:Hp) (d:Option Tmp) (ty:TypeId) (pos:String) (af:Array Edge) (g:Option (Nat×Bool)) (x y:Operand) (w1:World) (N:Nat),Ext w w1→ev F x=some (.map (some bM))→ev F y=some (fk j bk)→OQ (cx w1 N) ⟨d,.lookup 196 x y false,ty,pos,af,g⟩ F H (sR (legRz v q1 q2 q3 z bk C) o):=by
 rcases desk_find hE hn hz bk with ⟨p,e,h1,h2,h3,h4,h5⟩|⟨h1,h2⟩
 · have hm:=List.mem_of_getElem? h1
   refine ⟨e.o,fun ho=>by rw [← h4];exact h.nl e hm ho,fun g cap ho=>by rw [← h4];exact h.rd e hm g cap ho,?_⟩
   intro F H d ty pos af g x y w1 N hw hx hy
   rw [← h4,← dec_slC]
   refine oq_lookupW (M:=[]) (L:=enM E) (j:=p) (e:=(e.kc,slC e.l e.o)) hx hy (fun D w2 hw2=>(h.mp.ext hw).ext hw2.ext.ext) (enM_fk E) ?_ ?_ (by show decV e.kc=_;rw [dec_kc,h2,h3])
   · unfold enM;rw [← List.map_take];exact enM_new h5
   · unfold enM;rw [List.getElem?_map,h1];rfl
 · refine ⟨none,fun _=>h2,fun g cap ho=>(by cases ho),?_⟩
   intro F H d ty pos af g x y w1 N hw hx hy
   exact oq_lookupNoW hx hy (fun D w2 hw2=>(h.mp.ext hw).ext hw2.ext.ext) (enM_new h1)
end Go.Proofs.Ytcjkndjjbjoehaa
namespace Go.Proofs.Ytcjkndjjbjoehaa
open Go.RowKit
attribute [local irreducible] OQ OS OX Rd T TL GX GL AL AI RV wpG SAny Calls
theorem os_makeMap {c:Cx} {F:Fr} {H:Hp} {K:Value→Hp→Prop} {d:Option Tmp} {ty:TypeId} {pos:String} {af:Array Edge} {g:Option (Nat×Bool)} {t:TypeId} (k:∀ b,K (.map (some b)) ((b,[],mapTg t [])::H)):OS c ⟨d,.makeMap t none,ty,pos,af,g⟩ F H K:=.ofX (ox_makeMap k)
theorem askE_of {m:Nat} {L:List Lg} {v q1 q2 q3 q4 g0 g1:Int} {C:List Wn} {e1 e2 e3:Int} (h1:(if chartB m L then (0:Int) else 61)=e1) (h2:(if paceB v q1 q2 q3 q4 g0 g1 then (0:Int) else 62)=e2) (h3:castE C=e3) :
   (e1≠0→askE m L v q1 q2 q3 q4 g0 g1 C=e1)∧(e1=0→e2≠0→askE m L v q1 q2 q3 q4 g0 g1 C=e2)∧(e1=0→e2=0→askE m L v q1 q2 q3 q4 g0 g1 C=e3):=by
 unfold askE
 cases ha:chartB m L<;>cases hb:paceB v q1 q2 q3 q4 g0 g1<;>simp only [ha,hb,if_true,if_false,Bool.false_eq_true] at h1 h2 ⊢<;>subst h1<;>subst h2<;>subst h3<;>simp
theorem askE_ok {m:Nat} {L:List Lg} {v q1 q2 q3 q4 g0 g1:Int} {C:List Wn} (h:askE m L v q1 q2 q3 q4 g0 g1 C=0):chartB m L=true∧PaceOk v q1 q2 q3 q4 g0 g1∧castE C=0:=by
 unfold askE at h
 split at h
 rotate_left
 · cases h
 rename_i h1
 split at h
 rotate_left
 · cases h
 rename_i h2
 exact ⟨h1,of_decide_eq_true h2,h⟩
theorem open_no (AM A:Option Addr) (m cM n cp:Nat) (L:List Lg) (w:World) (hr:RdS w 5 A n (L.map lgCells)) (hn:n≤1000000) (hm:m≤1000000) (v q1 q2 q3 q4 g0 g1:Int) (AC:Option Addr) (nC cC:Nat) (C:List Wn) (hrc:CastR w AC nC C) (hs:∀ z∈C,z.n≤1000000) (hE:askE m L v q1 q2 q3 q4 g0 g1 C≠0):Calls Try.prog 58 #[.agg #[.slice AM m cM,.slice A n cp],.agg #[.int .i64 v,.int .i64 q1,.int .i64 q2,.int .i64 q3,.int .i64 q4,.int .i64 g0,.int .i64 g1],.slice AC nC cC] w fun e w'=>e=.returned (.tuple #[.pointer none,.int .i64 (askE m L v q1 q2 q3 q4 g0 g1 C)])∧Ext w w':=by
 have hlc:=hrc.len
 have HC:=fun w1 (hx:Ext w w1)=>checkChart_calls AM A m cM n cp L w1 (hr.ext hx) hn hm
 have HP:=fun w1=>checkPace_calls v q1 q2 q3 q4 g0 g1 w1
 have HK:=fun w1 (hx:Ext w w1)=>checkCast_calls AC nC cC C w1 (hrc.ext hx) hs
 obtain ⟨e1,h1⟩:∃ e,(if chartB m L then (0:Int) else 61)=e:=⟨_,rfl⟩
 obtain ⟨e2,h2⟩:∃ e,(if paceB v q1 q2 q3 q4 g0 g1 then (0:Int) else 62)=e:=⟨_,rfl⟩
 obtain ⟨e3,h3⟩:∃ e,castE C=e:=⟨_,rfl⟩
 obtain ⟨k1,k2,k3⟩:=askE_of h1 h2 h3
 rw [h1] at HC
 rw [h2] at HP
 rw [h3] at HK
 generalize askE m L v q1 q2 q3 q4 g0 g1 C=r at *
 refine enterQ (c:=cx w 85) Try.func58 rfl rfl rfl rfl ?_
 repeat' (first|((with_reducible apply oq_id);first|(apply oq_fn;exact rfl;first|exact trivial|(and_intros<;>omega)|omega|skip)|((with_reducible apply oq_loadAgg);exact rfl;exact rfl)|((with_reducible apply oq_call (hc:=Try.call18));exact rfl;exact rfl;exact fun D w1 hw1=>HC w1 hw1.ext.ext)|((with_reducible apply oq_call (hc:=Try.call20));exact rfl;exact rfl;exact fun D w1 hw1=>HP w1)|((with_reducible apply oq_call (hc:=Try.call22));exact rfl;exact rfl;exact fun D w1 hw1=>HK w1 hw1.ext.ext)|((with_reducible apply oq_buildA);(iterate 4 exact rfl)))|((with_reducible apply tl_id);first|(with_reducible apply tl_nil)|((with_reducible apply u_q);(iterate 4 exact rfl))|((with_reducible apply u_s);(iterate 3 exact rfl)))|((with_reducible apply gx_id);first|(with_reducible apply v_nil)|((with_reducible apply v_q);(iterate 3 exact rfl)))|((with_reducible apply os_id);first|((with_reducible apply os_x);exact rfl))|((with_reducible apply ox_id);first|((with_reducible apply ox_boxAgg);exact rfl;intro _))|((with_reducible apply rd_id);first|(apply Rd.own;(repeat first|exact P0|apply P1);exact rfl;done))|((with_reducible apply t_id);first|(with_reducible apply t_seq)|(apply t_region;kernel_rfl)|(apply t_drawn;kernel_rfl;decide +kernel;try simp only [List.append_eq,List.cons_append,List.nil_append])|(with_reducible apply t_block))|with_reducible apply q_thenN|exact Rdn.zero|apply Rdn.succ|((with_reducible apply Norm.nil);exact rfl)|((with_reducible apply Norm.cons);exact rfl))
 rename_i b3 b4
 apply t_loopK (ι:=Nat) [2,3,4,20] (fun k=>[(21,.int .i64 ((k:Nat):Int))]) (fun _=>[(b3,[.slice AM m cM,.slice A n cp],some (37,2,1)),(b4,[.int .i64 v,.int .i64 q1,.int .i64 q2,.int .i64 q3,.int .i64 q4,.int .i64 g0,.int .i64 g1],some (41,7,1))]) (fun k=>k≤3∧(0<k→e1=0)∧(1<k→e2=0)∧(2<k→e3=0)) (fun k=>3-k) (0)
 (repeat (first|exact KeepF.nil|(apply KeepF.cons;exact rfl)|apply KeepF.skip))
 (repeat first|exact FrSub.nil|(apply FrSub.cons;exact rfl))
 (repeat (first|exact HpSub.refl _|(apply HpSub.consE;(repeat first|exact P0|apply P1);exact rfl)|exact HpSub.nil))
 · refine ⟨by omega,fun h=>?_,fun h=>?_,fun h=>?_⟩<;>omega
 rintro k ⟨hk,p1,p2,p3⟩
 try simp only [List.cons_append,List.nil_append]
 by_cases hlt:k<3
 · rcases (show k=0∨k=1∨k=2 by omega) with rfl|rfl|rfl
   · by_cases hz:e1=0
     · repeat' (first|((with_reducible apply oq_id);first|(focus ((with_reducible apply oq_index);(iterate 4 exact rfl);(first|exact rfl|omega)))|((with_reducible apply oq_lssT);exact rfl;exact rfl;omega)|((with_reducible apply oq_neqF);exact rfl;exact rfl;omega)|(apply oq_fn;exact rfl;first|exact trivial|(and_intros<;>omega)|omega|skip))|((with_reducible apply tl_id);first|(with_reducible apply tl_nil)|((with_reducible apply u_q);(iterate 4 exact rfl)))|((with_reducible apply t_id);first|(with_reducible apply t_seq)|(apply t_region;kernel_rfl)|((with_reducible apply t_condT);exact rfl)|((with_reducible apply t_condF);exact rfl)|(with_reducible apply t_skip)|(with_reducible apply t_block))|with_reducible apply q_thenN|with_reducible apply q_blockN|omega)
       all_goals (refine ⟨1,⟨by omega,fun h=>hz,fun h=>(by omega),fun h=>(by omega)⟩,by omega,?_,?_⟩<;>(repeat' (first|exact FrSub.nil|(apply FrSub.cons;exact rfl)|exact HpSub.refl _)))
     · obtain rfl:=k1 hz
       repeat' (first|((with_reducible apply oq_id);first|(focus ((with_reducible apply oq_index);(iterate 4 exact rfl);(first|exact rfl|omega)))|((with_reducible apply oq_lssT);exact rfl;exact rfl;omega)|((with_reducible apply oq_neqT);exact rfl;exact rfl;omega)|(apply oq_fn;exact rfl;first|exact trivial|(and_intros<;>omega)|omega|skip))|((with_reducible apply tl_id);first|(with_reducible apply tl_nil)|((with_reducible apply u_q);(iterate 4 exact rfl)))|((with_reducible apply t_id);first|(with_reducible apply t_seq)|(apply t_region;kernel_rfl)|((with_reducible apply t_condT);exact rfl)|(with_reducible apply t_ret)|(with_reducible apply t_skip)|(with_reducible apply t_block))|with_reducible apply q_thenN|with_reducible apply q_thenR|with_reducible apply q_blockR|(with_reducible apply end_ret)|exact rvs_nil|(with_reducible apply rvs_cons)|((with_reducible apply rv_tmp);exact rfl)|omega)
       all_goals rfl
   · by_cases hz:e2=0
     · repeat' (first|((with_reducible apply oq_id);first|(focus ((with_reducible apply oq_index);(iterate 4 exact rfl);(first|exact rfl|omega)))|((with_reducible apply oq_lssT);exact rfl;exact rfl;omega)|((with_reducible apply oq_neqF);exact rfl;exact rfl;omega)|(apply oq_fn;exact rfl;first|exact trivial|(and_intros<;>omega)|omega|skip))|((with_reducible apply tl_id);first|(with_reducible apply tl_nil)|((with_reducible apply u_q);(iterate 4 exact rfl)))|((with_reducible apply t_id);first|(with_reducible apply t_seq)|(apply t_region;kernel_rfl)|((with_reducible apply t_condT);exact rfl)|((with_reducible apply t_condF);exact rfl)|(with_reducible apply t_skip)|(with_reducible apply t_block))|with_reducible apply q_thenN|with_reducible apply q_blockN|omega)
       all_goals (refine ⟨2,⟨by omega,fun h=>p1 (by omega),fun h=>hz,fun h=>(by omega)⟩,by omega,?_,?_⟩<;>(repeat' (first|exact FrSub.nil|(apply FrSub.cons;exact rfl)|exact HpSub.refl _)))
     · obtain rfl:=k2 (p1 (by omega)) hz
       repeat' (first|((with_reducible apply oq_id);first|(focus ((with_reducible apply oq_index);(iterate 4 exact rfl);(first|exact rfl|omega)))|((with_reducible apply oq_lssT);exact rfl;exact rfl;omega)|((with_reducible apply oq_neqT);exact rfl;exact rfl;omega)|(apply oq_fn;exact rfl;first|exact trivial|(and_intros<;>omega)|omega|skip))|((with_reducible apply tl_id);first|(with_reducible apply tl_nil)|((with_reducible apply u_q);(iterate 4 exact rfl)))|((with_reducible apply t_id);first|(with_reducible apply t_seq)|(apply t_region;kernel_rfl)|((with_reducible apply t_condT);exact rfl)|(with_reducible apply t_ret)|(with_reducible apply t_skip)|(with_reducible apply t_block))|with_reducible apply q_thenN|with_reducible apply q_thenR|with_reducible apply q_blockR|(with_reducible apply end_ret)|exact rvs_nil|(with_reducible apply rvs_cons)|((with_reducible apply rv_tmp);exact rfl)|omega)
       all_goals rfl
   · by_cases hz:e3=0
     · exact absurd (k3 (p1 (by omega)) (p2 (by omega))) (by omega)
     · obtain rfl:=k3 (p1 (by omega)) (p2 (by omega))
       repeat' (first|((with_reducible apply oq_id);first|(focus ((with_reducible apply oq_index);(iterate 4 exact rfl);(first|exact rfl|omega)))|((with_reducible apply oq_lssT);exact rfl;exact rfl;omega)|((with_reducible apply oq_neqT);exact rfl;exact rfl;omega)|(apply oq_fn;exact rfl;first|exact trivial|(and_intros<;>omega)|omega|skip))|((with_reducible apply tl_id);first|(with_reducible apply tl_nil)|((with_reducible apply u_q);(iterate 4 exact rfl)))|((with_reducible apply t_id);first|(with_reducible apply t_seq)|(apply t_region;kernel_rfl)|((with_reducible apply t_condT);exact rfl)|(with_reducible apply t_ret)|(with_reducible apply t_skip)|(with_reducible apply t_block))|with_reducible apply q_thenN|with_reducible apply q_thenR|with_reducible apply q_blockR|(with_reducible apply end_ret)|exact rvs_nil|(with_reducible apply rvs_cons)|((with_reducible apply rv_tmp);exact rfl)|omega)
       all_goals rfl
 · exfalso
   exact hE (by rw [k3 (p1 (by omega)) (p2 (by omega)),p3 (by omega)])
theorem open_ok (AM A:Option Addr) (m cM n cp:Nat) (L:List Lg) (w:World) (hr:RdS w 5 A n (L.map lgCells)) (hn:n≤1000000) (hm:m≤1000000) (v q1 q2 q3 q4 g0 g1:Int) (AC:Option Addr) (nC cC:Nat) (C:List Wn) (hrc:CastR w AC nC C) (hs:∀ z∈C,z.n≤1000000) (hE:askE m L v q1 q2 q3 q4 g0 g1 C=0):Calls Try.prog 58 #[.agg #[.slice AM m cM,.slice A n cp],.agg #[.int .i64 v,.int .i64 q1,.int .i64 q2,.int .i64 q3,.int .i64 q4,.int .i64 g0,.int .i64 g1],.slice AC nC cC] w fun e w'=>∃ u H',e=.returned u∧DskV AM A m cM n cp v q1 q2 q3 q4 g0 g1 C L u H'∧Has w ⟨[],[]⟩ H' w':=by
 have hlc:=hrc.len
 have HC:=fun w1 (hx:Ext w w1)=>checkChart_calls AM A m cM n cp L w1 (hr.ext hx) hn hm
 have HP:=fun w1=>checkPace_calls v q1 q2 q3 q4 g0 g1 w1
 have HK:=fun w1 (hx:Ext w w1)=>checkCast_calls AC nC cC C w1 (hrc.ext hx) hs
 have hl:L.length=n:=by simpa using hr.len
 obtain ⟨hch,hpk,hk0⟩:=askE_ok hE
 have hpb:paceB v q1 q2 q3 q4 g0 g1=true:=decide_eq_true hpk
 obtain ⟨hcl,hcw⟩:=castE_zero.1 hk0
 rw [hch] at HC
 rw [hpb] at HP
 rw [hk0] at HK
 obtain ⟨pv,pq1,pq3,pq2,pq4,pg⟩:=id hpk
 refine enterF (c:=cx w 85) Try.func58 rfl rfl rfl rfl ?_
 repeat' (first|((with_reducible apply oq_id);first|(apply oq_fn;exact rfl;first|exact trivial|(and_intros<;>omega)|omega|skip)|((with_reducible apply oq_loadAgg);exact rfl;exact rfl)|((with_reducible apply oq_call (hc:=Try.call18));exact rfl;exact rfl;exact fun D w1 hw1=>HC w1 hw1.ext.ext)|((with_reducible apply oq_call (hc:=Try.call20));exact rfl;exact rfl;exact fun D w1 hw1=>HP w1)|((with_reducible apply oq_call (hc:=Try.call22));exact rfl;exact rfl;exact fun D w1 hw1=>HK w1 hw1.ext.ext)|((with_reducible apply oq_buildA);(iterate 4 exact rfl)))|((with_reducible apply tl_id);first|(with_reducible apply tl_nil)|((with_reducible apply u_q);(iterate 4 exact rfl))|((with_reducible apply u_s);(iterate 3 exact rfl)))|((with_reducible apply gx_id);first|(with_reducible apply v_nil)|((with_reducible apply v_q);(iterate 3 exact rfl)))|((with_reducible apply os_id);first|((with_reducible apply os_x);exact rfl))|((with_reducible apply ox_id);first|((with_reducible apply ox_boxAgg);exact rfl;intro _))|((with_reducible apply rd_id);first|(apply Rd.own;(repeat first|exact P0|apply P1);exact rfl;done))|((with_reducible apply t_id);first|(with_reducible apply t_seq)|(apply t_region;kernel_rfl)|(apply t_drawn;kernel_rfl;decide +kernel;try simp only [List.append_eq,List.cons_append,List.nil_append])|(with_reducible apply t_block))|with_reducible apply q_thenN|exact Rdn.zero|apply Rdn.succ|((with_reducible apply Norm.nil);exact rfl)|((with_reducible apply Norm.cons);exact rfl))
 rename_i b3 b4
 apply t_loopK (ι:=Nat) [2,3,4,20] (fun k=>[(21,.int .i64 ((k:Nat):Int))]) (fun _=>[(b3,[.slice AM m cM,.slice A n cp],some (37,2,1)),(b4,[.int .i64 v,.int .i64 q1,.int .i64 q2,.int .i64 q3,.int .i64 q4,.int .i64 g0,.int .i64 g1],some (41,7,1))]) (fun k=>k≤3∧True) (fun k=>3-k) (0)
 (repeat (first|exact KeepF.nil|(apply KeepF.cons;exact rfl)|apply KeepF.skip))
 (repeat first|exact FrSub.nil|(apply FrSub.cons;exact rfl))
 (repeat (first|exact HpSub.refl _|(apply HpSub.consE;(repeat first|exact P0|apply P1);exact rfl)|exact HpSub.nil))
 · exact ⟨by omega,trivial⟩
 rintro k ⟨hk,-⟩
 try simp only [List.cons_append,List.nil_append]
 by_cases hlt:k<3
 · rcases (show k=0∨k=1∨k=2 by omega) with rfl|rfl|rfl
   · repeat' (first|((with_reducible apply oq_id);first|(focus ((with_reducible apply oq_index);(iterate 4 exact rfl);(first|exact rfl|omega)))|((with_reducible apply oq_lssT);exact rfl;exact rfl;omega)|(apply oq_fn;exact rfl;first|exact trivial|(and_intros<;>omega)|omega|skip))|((with_reducible apply tl_id);first|(with_reducible apply tl_nil)|((with_reducible apply u_q);(iterate 4 exact rfl)))|((with_reducible apply t_id);first|(with_reducible apply t_seq)|(apply t_region;kernel_rfl)|((with_reducible apply t_condT);exact rfl)|((with_reducible apply t_condF);exact rfl)|(with_reducible apply t_skip)|(with_reducible apply t_block))|with_reducible apply q_thenN|with_reducible apply q_blockN|omega)
     all_goals (refine ⟨1,⟨by omega,trivial⟩,by omega,?_,?_⟩<;>(repeat' (first|exact FrSub.nil|(apply FrSub.cons;exact rfl)|exact HpSub.refl _)))
   · repeat' (first|((with_reducible apply oq_id);first|(focus ((with_reducible apply oq_index);(iterate 4 exact rfl);(first|exact rfl|omega)))|((with_reducible apply oq_lssT);exact rfl;exact rfl;omega)|(apply oq_fn;exact rfl;first|exact trivial|(and_intros<;>omega)|omega|skip))|((with_reducible apply tl_id);first|(with_reducible apply tl_nil)|((with_reducible apply u_q);(iterate 4 exact rfl)))|((with_reducible apply t_id);first|(with_reducible apply t_seq)|(apply t_region;kernel_rfl)|((with_reducible apply t_condT);exact rfl)|((with_reducible apply t_condF);exact rfl)|(with_reducible apply t_skip)|(with_reducible apply t_block))|with_reducible apply q_thenN|with_reducible apply q_blockN|omega)
     all_goals (refine ⟨2,⟨by omega,trivial⟩,by omega,?_,?_⟩<;>(repeat' (first|exact FrSub.nil|(apply FrSub.cons;exact rfl)|exact HpSub.refl _)))
   · repeat' (first|((with_reducible apply oq_id);first|(focus ((with_reducible apply oq_index);(iterate 4 exact rfl);(first|exact rfl|omega)))|((with_reducible apply oq_lssT);exact rfl;exact rfl;omega)|((with_reducible apply oq_neqF);exact rfl;exact rfl;omega)|(apply oq_fn;exact rfl;first|exact trivial|(and_intros<;>omega)|omega|skip))|((with_reducible apply tl_id);first|(with_reducible apply tl_nil)|((with_reducible apply u_q);(iterate 4 exact rfl)))|((with_reducible apply t_id);first|(with_reducible apply t_seq)|(apply t_region;kernel_rfl)|((with_reducible apply t_condT);exact rfl)|((with_reducible apply t_condF);exact rfl)|(with_reducible apply t_skip)|(with_reducible apply t_block))|with_reducible apply q_thenN|with_reducible apply q_blockN|omega)
     all_goals (refine ⟨3,⟨by omega,trivial⟩,by omega,?_,?_⟩<;>(repeat' (first|exact FrSub.nil|(apply FrSub.cons;exact rfl)|exact HpSub.refl _)))
 clear HC HP HK
 repeat' (first|((with_reducible apply oq_id);first|((with_reducible apply oq_lssF);exact rfl;exact rfl;omega)|(apply oq_fn;exact rfl;first|exact trivial|(and_intros<;>omega)|omega|skip)|((with_reducible apply oq_load);exact rfl;exact rfl)|((with_reducible apply oq_loadAgg);exact rfl;exact rfl)|((with_reducible apply oq_build);(iterate 3 exact rfl)))|((with_reducible apply tl_id);first|(with_reducible apply tl_nil)|((with_reducible apply u_s);(iterate 3 exact rfl);((with_reducible apply os_makeMap);intro _))|((with_reducible apply u_q);(iterate 4 exact rfl))|((with_reducible apply u_s);(iterate 3 exact rfl)))|((with_reducible apply os_id);first|((with_reducible apply os_x);exact rfl))|((with_reducible apply ox_id);first|((with_reducible apply ox_boxAgg);exact rfl;intro _))|((with_reducible apply rd_id);first|(apply Rd.own;(repeat first|exact P0|apply P1);exact rfl;done))|((with_reducible apply t_id);first|(with_reducible apply t_seq)|(apply t_region;kernel_rfl)|((with_reducible apply t_condF);exact rfl)|(with_reducible apply t_exit)|(with_reducible apply t_block))|with_reducible apply q_thenN|with_reducible apply q_thenE|((with_reducible apply q_blockE);exact rfl)|exact Rdn.zero|apply Rdn.succ|((with_reducible apply Norm.nil);exact rfl)|((with_reducible apply Norm.cons);exact rfl))
 rename_i bM bD
 apply t_loopK (ι:=Nat×List En) [2,4,10,34,35] (fun z=>[(36,.int .i64 ((z.1:Nat):Int))]) (fun z=>(b3,[.slice AM m cM,.slice A n cp],some (37,2,1))::(b4,[.int .i64 v,.int .i64 q1,.int .i64 q2,.int .i64 q3,.int .i64 q4,.int .i64 g0,.int .i64 g1],some (41,7,1))::(bD,[.slice AM m cM,.slice A n cp,.int .i64 v,.int .i64 q1,.int .i64 q2,.int .i64 q3,.int .i64 q4,.int .i64 g0,.int .i64 g1,.map (some bM)],some (198,10,1))::(bM,[],mapTg 196 (enM z.2))::enH z.2) (fun z=>z.1≤n∧z.2.map keyOf=deskE v q1 q2 q3 C L z.1∧∀ e∈z.2,e.o=none→e.l=[]) (fun z=>n-z.1) ((0,[]))
 (repeat (first|exact KeepF.nil|(apply KeepF.cons;exact rfl)|apply KeepF.skip))
 (repeat first|exact FrSub.nil|(apply FrSub.cons;exact rfl))
 (repeat (first|exact HpSub.refl _|(apply HpSub.consE;(repeat first|exact P0|apply P1);exact rfl)|exact HpSub.nil))
 · exact ⟨Nat.zero_le _,rfl,fun e he=>by cases he⟩
 rintro ⟨k,E⟩ ⟨hkn,hE,hnl⟩
 simp only at hkn hE hnl
 try simp only [List.cons_append,List.nil_append]
 by_cases hlt:k<n
 · obtain ⟨bA,oA,z,rfl,_,hz,c0,c1,c2,c3,c4⟩:=lg_read hr hlt
   obtain ⟨_,_,_,kx,ky,kz,kh⟩:=(chartB_iff.1 hch).2.2 z (List.mem_of_getElem? hz)
   obtain ⟨up,hup⟩:∃ u,max q1 (z.h+q2)=u:=⟨_,rfl⟩
   have hup2:upV q1 q2 z.h=up:=hup
   have hu : -500≤up∧up≤20000:=by omega
   have hway:WayIn z.x z.y:=⟨kx,ky,kz⟩
   have HR1:=fun w1 (hx:Ext w w1)=>rates_calls v q1 q2 q3 q4 g0 g1 up z.x z.y AC nC cC C w1 (hrc.ext hx) hs hcw (by omega) pv hu hway
   have HR2:=fun w1 (hx:Ext w w1)=>rates_calls v q1 q2 q3 q4 g0 g1 up (-z.x) (-z.y) AC nC cC C w1 (hrc.ext hx) hs hcw (by omega) pv hu hway.neg
   have hn1:=new_one hE
   have hn2:=fun vc=>new_two hE vc
   by_cases hq:q3<up
   · repeat' (first|((with_reducible apply oq_id);first|(focus ((with_reducible apply oq_indexAddrN);(iterate 4 exact rfl);omega))|((with_reducible apply (oq_max2E (k:=up)));exact rfl;exact rfl;exact hup)|(focus ((with_reducible apply (oq_addE (k:=z.h+q2)));exact rfl;exact rfl;omega))|(focus ((with_reducible apply (oq_addE (k:=((k+1:Nat):Int))));exact rfl;exact rfl;omega))|((with_reducible apply oq_lssT);exact rfl;exact rfl;omega)|((with_reducible apply oq_gtrT);exact rfl;exact rfl;omega)|(apply oq_fn;exact rfl;first|exact trivial|(and_intros<;>omega)|omega|skip)|((with_reducible apply oq_load);exact rfl;exact rfl)|((with_reducible apply oq_loadAgg);exact rfl;exact rfl))|((with_reducible apply tl_id);first|(with_reducible apply tl_nil)|((with_reducible apply u_q);(iterate 4 exact rfl))|((with_reducible apply u_s0);exact rfl;exact rfl)|((with_reducible apply u_s);(iterate 3 exact rfl)))|((with_reducible apply os_id);first|((with_reducible apply os_x);exact rfl)|((with_reducible apply os_storeAgg);(iterate 5 exact rfl)))|((with_reducible apply ox_id);first|((with_reducible apply ox_alloc);exact rfl;intro _))|((with_reducible apply rd_id);first|(apply Rd.own;(repeat first|exact P0|apply P1);exact rfl;done)|(apply Rd.old;(first|(with_reducible assumption)|exact c0|exact c1|exact c2|exact c3|exact c4|exact c5|exact c6|exact c7|exact c8|exact d0|exact d1|exact d2|exact d3|exact d4|exact d5);first|exact List.not_mem_nil|exact m0|exact m1|exact m2|exact m3|exact m4|exact m5|exact m6|exact m7|exact m8|exact m9))|((with_reducible apply t_id);first|(with_reducible apply t_seq)|(apply t_region;kernel_rfl)|((with_reducible apply t_condT);exact rfl)|(with_reducible apply t_skip)|(with_reducible apply t_exit)|(with_reducible apply t_block))|with_reducible apply q_thenN|with_reducible apply q_thenE|((with_reducible apply q_blockE);exact rfl)|exact P0|exact Rdn.zero|apply Rdn.succ|((with_reducible apply Norm.nil);exact rfl)|((with_reducible apply Norm.cons);exact rfl)|exact Nat.le_of_ble_eq_true rfl)
     all_goals (refine ⟨(k+1,E),⟨by simp only;omega,desk_no hE hz (by rw [hup2];exact hq),hnl⟩,by simp only;omega,?_,?_⟩<;>(repeat' (first|exact FrSub.nil|(apply FrSub.cons;exact rfl)|exact HpSub.refl _|(apply HpSub.consE;(repeat first|exact P0|apply P1);exact rfl)|apply HpSub.skipX)))
   · have hq':¬ q3<upV q1 q2 z.h:=by rw [hup2];exact hq
     have hD:=fun o1 o2=>desk_two o1 o2 hE hz hq'
     rw [hup2] at hD
     repeat' (first|((with_reducible apply oq_id);first|(focus ((with_reducible apply oq_indexAddrN);(iterate 4 exact rfl);omega))|((with_reducible apply (oq_max2E (k:=up)));exact rfl;exact rfl;exact hup)|((with_reducible apply oq_neg);exact rfl;(refine ⟨?_,?_⟩<;>omega))|(focus ((with_reducible apply (oq_addE (k:=z.h+q2)));exact rfl;exact rfl;omega))|(focus ((with_reducible apply (oq_addE (k:=((k+1:Nat):Int))));exact rfl;exact rfl;omega))|((with_reducible apply oq_lssT);exact rfl;exact rfl;omega)|((with_reducible apply oq_gtrF);exact rfl;exact rfl;omega)|(apply oq_fn;exact rfl;first|exact trivial|(and_intros<;>omega)|omega|skip)|((with_reducible apply oq_load);exact rfl;exact rfl)|((with_reducible apply oq_loadAgg);exact rfl;exact rfl)|((with_reducible apply oq_build);(iterate 3 exact rfl)))|((with_reducible apply tl_id);first|(with_reducible apply tl_nil)|((with_reducible apply u_q);(iterate 4 exact rfl))|((with_reducible apply u_s0);exact rfl;exact rfl)|((with_reducible apply u_s);(iterate 3 exact rfl)))|((with_reducible apply gx_id);first|(with_reducible apply v_nil)|((with_reducible apply v_q);(iterate 3 exact rfl)))|((with_reducible apply os_id);first|((with_reducible apply os_mapUpdate);(iterate 3 exact rfl);exact dec_k0 _;(first|exact dec_s _ _ _|exact dec_n);(repeat first|exact P0|apply P1);exact hn1)|((with_reducible apply os_mapUpdate);(iterate 3 exact rfl);exact dec_k1 _;(first|exact dec_s _ _ _|exact dec_n);(repeat first|exact P0|apply P1);exact (hn2 _))|((with_reducible apply os_x);exact rfl)|((with_reducible apply os_storeAgg);(iterate 5 exact rfl)))|((with_reducible apply ox_id);first|((with_reducible apply ox_alloc);exact rfl;intro _))|((with_reducible apply ai_id);first|((with_reducible apply ai_n);(iterate 4 exact rfl);(with_reducible apply os_callF (PV:=LsR (ratesV v up z.x z.y C)) (hc:=Try.call115));exact rfl;exact rfl;exact fun D w1 hw1=>HR1 w1 hw1.ext.ext;rintro _ _ ⟨_|⟨bo,co⟩,ho,rfl,rfl⟩<;>simp only [hR,sR,List.cons_append,List.nil_append])|((with_reducible apply ai_n);(iterate 4 exact rfl);(with_reducible apply os_callF (PV:=LsR (ratesV v up (-z.x) (-z.y) C)) (hc:=Try.call115));exact rfl;exact rfl;exact fun D w1 hw1=>HR2 w1 hw1.ext.ext;rintro _ _ ⟨_|⟨bp,cq⟩,ho2,rfl,rfl⟩<;>simp only [hR,sR,List.cons_append,List.nil_append])|((with_reducible apply ai_s0);(iterate 4 exact rfl)))|((with_reducible apply al_keep);focus (repeat (first|exact HpSub.refl _|(apply HpSub.cons;(repeat first|exact P0|apply P1))|apply HpSub.skipX|exact HpSub.nil)))|((with_reducible apply rd_id);first|(apply Rd.own;(repeat first|exact P0|apply P1);exact rfl;done)|(apply Rd.old;(first|(with_reducible assumption)|exact c0|exact c1|exact c2|exact c3|exact c4|exact c5|exact c6|exact c7|exact c8|exact d0|exact d1|exact d2|exact d3|exact d4|exact d5);first|exact List.not_mem_nil|exact m0|exact m1|exact m2|exact m3|exact m4|exact m5|exact m6|exact m7|exact m8|exact m9))|((with_reducible apply t_id);first|(apply t_mix (id:=13) [0,1,2,3,4,5,6,7,8,9,10,11,12] 2 #[false,false,false,false,false,false,false,false,false,false,false,false,false,false,true];kernel_rfl;kernel_rfl;exact rfl)|(apply t_mix (id:=14) [0,1,2,3,4,5,6,7,8,9,10,11,12,13,14] 2 #[false,false,false,false,false,false,false,false,false,false,false,false,false,false,false,false,true];kernel_rfl;kernel_rfl;exact rfl)|(with_reducible apply t_seq)|(apply t_region;kernel_rfl)|((with_reducible apply t_condT);exact rfl)|((with_reducible apply t_condF);exact rfl)|(with_reducible apply t_skip)|(with_reducible apply t_block))|with_reducible apply q_thenN|with_reducible apply q_blockN|exact P0|exact Rdn.zero|apply Rdn.succ|((with_reducible apply Norm.nil);exact rfl)|((with_reducible apply Norm.cons);exact rfl)|((with_reducible apply al_id);first|(apply al_done;decide +kernel)|(apply al_one 13;decide +kernel)|(apply al_one 14;decide +kernel))|((with_reducible apply al_id);first|(apply al_one 15;decide +kernel)|(apply al_one 16;decide +kernel))|exact Nat.le_of_ble_eq_true rfl)
     all_goals first|(refine ⟨(k+1,E++[⟨k,false,_,none⟩,⟨k,true,_,none⟩]),⟨by simp only;omega,hD _ _,nl_two hnl (fun h=>ho rfl) (fun h=>ho2 rfl)⟩,by simp only;omega,?_,?_⟩<;>(try simp only [enM_two,enH_two,hR,slC,List.cons_append,List.nil_append])<;>(repeat' (first|exact FrSub.nil|(apply FrSub.cons;exact rfl)|exact HpSub.refl _|(apply HpSub.consE;(repeat first|exact P0|apply P1);exact rfl)|apply HpSub.skipX));done)|(refine ⟨(k+1,E++[⟨k,false,_,none⟩,⟨k,true,_,(some (bp,cq))⟩]),⟨by simp only;omega,hD _ _,nl_two hnl (fun h=>ho rfl) (fun h=>(by cases h))⟩,by simp only;omega,?_,?_⟩<;>(try simp only [enM_two,enH_two,hR,slC,List.cons_append,List.nil_append])<;>(repeat' (first|exact FrSub.nil|(apply FrSub.cons;exact rfl)|exact HpSub.refl _|(apply HpSub.consE;(repeat first|exact P0|apply P1);exact rfl)|apply HpSub.skipX));done)|(refine ⟨(k+1,E++[⟨k,false,_,(some (bo,co))⟩,⟨k,true,_,none⟩]),⟨by simp only;omega,hD _ _,nl_two hnl (fun h=>(by cases h)) (fun h=>ho2 rfl)⟩,by simp only;omega,?_,?_⟩<;>(try simp only [enM_two,enH_two,hR,slC,List.cons_append,List.nil_append])<;>(repeat' (first|exact FrSub.nil|(apply FrSub.cons;exact rfl)|exact HpSub.refl _|(apply HpSub.consE;(repeat first|exact P0|apply P1);exact rfl)|apply HpSub.skipX));done)|(refine ⟨(k+1,E++[⟨k,false,_,(some (bo,co))⟩,⟨k,true,_,(some (bp,cq))⟩]),⟨by simp only;omega,hD _ _,nl_two hnl (fun h=>(by cases h)) (fun h=>(by cases h))⟩,by simp only;omega,?_,?_⟩<;>(try simp only [enM_two,enH_two,hR,slC,List.cons_append,List.nil_append])<;>(repeat' (first|exact FrSub.nil|(apply FrSub.cons;exact rfl)|exact HpSub.refl _|(apply HpSub.consE;(repeat first|exact P0|apply P1);exact rfl)|apply HpSub.skipX));done)
 · obtain rfl:k=n:=by omega
   repeat' (first|((with_reducible apply oq_id);first|((with_reducible apply oq_lssF);exact rfl;exact rfl;omega)|(apply oq_fn;exact rfl;first|exact trivial|(and_intros<;>omega)|omega|skip))|((with_reducible apply tl_id);first|(with_reducible apply tl_nil)|((with_reducible apply u_q);(iterate 4 exact rfl)))|((with_reducible apply t_id);first|(with_reducible apply t_seq)|(apply t_region;kernel_rfl)|((with_reducible apply t_condF);exact rfl)|(with_reducible apply t_ret)|(with_reducible apply t_exit))|with_reducible apply q_thenN|with_reducible apply q_thenE|((with_reducible apply q_blockE);exact rfl)|(with_reducible apply end_ret)|exact rvs_nil|(with_reducible apply rvs_cons)|((with_reducible apply rv_tmp);exact rfl))
   all_goals exact ⟨_,⟨bD,bM,E,rfl,rfl,hE,hnl⟩,by (try simp only [List.cons_append,List.append_nil]);(repeat' (first|exact HpSub.refl _|(apply HpSub.consE;(repeat first|exact P0|apply P1);exact rfl)|apply HpSub.skipX))⟩
end Go.Proofs.Ytcjkndjjbjoehaa
namespace Go.Proofs.Ytcjkndjjbjoehaa
open Go.RowKit
attribute [local irreducible] OQ OS OX Rd T TL GX GL AL AI RV wpG SAny Calls
attribute [local irreducible] qf qc
def prS (a b c d:Nat) (k:Nat):List (Int×Int):=(List.range 8).map fun i=>if i<k then (((qf (prN a b c d i):Nat):Int),((qc (prN a b c d i):Nat):Int)) else (0,0)
theorem over60_calls (a b c d:Nat) (hab:a≤b) (hb:b≤10000000) (hcd:c≤d) (hd:d≤1000000) (w:World) :
   Calls Try.prog 116 #[.agg #[.int .i64 (a:Nat),.int .i64 (b:Nat)],.agg #[.int .i64 (c:Nat),.int .i64 (d:Nat)],.agg #[.int .i64 60,.int .i64 60]] w fun e w'=>e=.returned (.tuple #[.agg #[.int .i64 (aL a b c d 8:Nat),.int .i64 (aH a b c d 8:Nat)],.int .i64 0])∧Ext w w':=by
 have hq:(fineS ((a:Int),(b:Int)) && (fineS ((c:Int),(d:Int)) && fineS (60,60)))=true:=by rw [Bool.and_eq_true,Bool.and_eq_true,fineS_iff,fineS_iff,fineS_iff];simp only;omega
 have ab:=a_bound hab hb hcd hd 8
 have HA:∀ {w0:World} {M:Ms} {H H':Hp} {g:Nat} {tg:Tg} (w1:World),Has w0 M H w1→Pick H g ((prS a b c d 8).map spanCells).flatten tg H'→Calls Try.prog 151 #[.slice (some ⟨g,0,none⟩) 8 8] w1 fun e w'=>
     e=.returned (.agg #[.int .i64 (aL a b c d 8:Nat),.int .i64 (aH a b c d 8:Nat)])∧Ext w1 w':=fun w1 hw p=>by
   have:=around_calls (some ⟨_,0,none⟩) 8 8 (((qf (a*c):Nat):Int),((qc (a*c):Nat):Int)) (prS a b c d 8) w1 (Blk.rows (hw.blk _ p.mem).2 (by simp [prS]) (by simp only [List.mem_map];rintro r ⟨x,_,rfl⟩;rfl)) (by omega) rfl (by omega) (by omega)
   have e:hullA (((qf (a*c):Nat):Int),((qc (a*c):Nat):Int)) (prS a b c d 8)=(((aL a b c d 8:Nat):Int),((aH a b c d 8:Nat):Int)):=by
     have e1:aL a b c d 8=min (min (min (min (min (min (min (min (qf (a*c)) (qf (a*c))) (qf (b*c))) (qf (a*d))) (qf (b*d))) (qf (a*c))) (qf (b*c))) (qf (a*d))) (qf (b*d)):=rfl
     have e2:aH a b c d 8=max (max (max (max (max (max (max (max (qc (a*c)) (qc (a*c))) (qc (b*c))) (qc (a*d))) (qc (b*d))) (qc (a*c))) (qc (b*c))) (qc (a*d))) (qc (b*d)):=rfl
     have:prS a b c d 8=[(((qf (a*c):Nat):Int),((qc (a*c):Nat):Int)),(((qf (b*c):Nat):Int),((qc (b*c):Nat):Int)),(((qf (a*d):Nat):Int),((qc (a*d):Nat):Int)),(((qf (b*d):Nat):Int),((qc (b*d):Nat):Int)),(((qf (a*c):Nat):Int),((qc (a*c):Nat):Int)),(((qf (b*c):Nat):Int),((qc (b*c):Nat):Int)),(((qf (a*d):Nat):Int),((qc (a*d):Nat):Int)),(((qf (b*d):Nat):Int),((qc (b*d):Nat):Int))]:=rfl
     rw [this,e1,e2]
     simp only [hullA,List.foldl_cons,List.foldl_nil,hullS]
     generalize qf (a*c)=x1
     generalize qf (b*c)=x2
     generalize qf (a*d)=x3
     generalize qf (b*d)=x4
     generalize qc (a*c)=y1
     generalize qc (b*c)=y2
     generalize qc (a*d)=y3
     generalize qc (b*d)=y4
     congr 1<;>omega
   rw [e] at this
   exact this
 refine enterQ (c:=cx w 66) Try.func116 rfl rfl rfl rfl ?_
 repeat' (first|((with_reducible apply oq_id);first|(apply oq_fn;exact rfl;first|exact trivial|(and_intros<;>omega)|omega|skip)|((with_reducible apply oq_load);exact rfl;exact rfl)|((with_reducible apply oq_loadAgg);exact rfl;exact rfl)|((with_reducible apply oq_call (hc:=Try.call124));exact rfl;exact rfl;exact fun D w1 hw1=>fine3 hq hw1 (by (repeat first|exact P0|apply P1))))|((with_reducible apply tl_id);first|(with_reducible apply tl_nil)|((with_reducible apply u_q);(iterate 4 exact rfl))|((with_reducible apply u_s);(iterate 3 exact rfl)))|((with_reducible apply os_id);first|((with_reducible apply os_x);exact rfl))|((with_reducible apply ox_id);first|((with_reducible apply ox_alloc);exact rfl;intro _)|((with_reducible apply ox_boxAgg);exact rfl;intro _)|((with_reducible apply ox_buildSlice2);(iterate 6 exact rfl);intro _))|((with_reducible apply rd_id);first|(apply Rd.own;(repeat first|exact P0|apply P1);exact rfl;done))|((with_reducible apply t_id);first|(with_reducible apply t_seq)|(apply t_region;kernel_rfl)|((with_reducible apply t_condF);exact rfl)|(with_reducible apply t_skip)|(with_reducible apply t_block))|with_reducible apply q_thenN|with_reducible apply q_blockN|exact Rdn.zero|apply Rdn.succ)
 rename_i b3 b4 b5 b6 b7 b8
 apply t_loopK (ι:=Nat) [3,4,5,6,7,8,61,62,63,64,65] (fun k=>[(26,.int .i64 (k:Nat))]) (fun k=>[(b8,((prS a b c d k).map spanCells).flatten,some (245,16,1))]) (fun k=>k≤8) (fun k=>8-k) (0)
 (repeat (first|exact KeepF.nil|(apply KeepF.cons;exact rfl)|apply KeepF.skip))
 (repeat first|exact FrSub.nil|(apply FrSub.cons;exact rfl))
 (repeat (first|exact HpSub.refl _|(apply HpSub.consE;(repeat first|exact P0|apply P1);exact rfl)|exact HpSub.nil))
 · omega
 intro k hk
 try simp only [List.cons_append,List.nil_append]
 by_cases hlt:k<8
 · repeat' (first|((with_reducible apply oq_id);first|(apply oq_fn;exact rfl;first|exact trivial|(and_intros<;>omega)|omega|skip)|((with_reducible apply oq_load);exact rfl;exact rfl)|((with_reducible apply oq_buildA);(iterate 4 exact rfl)))|((with_reducible apply tl_id);first|(with_reducible apply tl_nil)|((with_reducible apply u_q);(iterate 4 exact rfl)))|((with_reducible apply gx_id);first|(with_reducible apply v_nil)|((with_reducible apply v_q);(iterate 3 exact rfl)))|((with_reducible apply os_id);first|((with_reducible apply os_storeAgg);(iterate 5 exact rfl)))|((with_reducible apply ox_id);first|((with_reducible apply ox_alloc);exact rfl;intro _))|((with_reducible apply ai_id);first|((with_reducible apply ai_x);(iterate 5 exact rfl))|((with_reducible apply ai_n0);(iterate 3 exact rfl)))|((with_reducible apply al_keep);focus (repeat first|exact HpSub.refl _|(apply HpSub.cons;(repeat first|exact P0|apply P1))|exact HpSub.nil))|((with_reducible apply rd_id);first|(apply Rd.own;(repeat first|exact P0|apply P1);exact rfl;done))|((with_reducible apply t_id);first|(with_reducible apply t_cutK (ι:=(Nat×Nat×Nat)) (rid:=9) [3,4,5,6,7,8,9,26] (fun i=>[(10,.pointer (some ⟨i.1,0,none⟩)),(11,.pointer (some ⟨i.2.1,0,none⟩)),(12,.pointer (some ⟨i.2.2,0,none⟩))]) (fun i=>[(i.1,[.int .i64 (a:Nat),.int .i64 (b:Nat)],some (246,2,1)),(i.2.1,[.int .i64 (c:Nat),.int .i64 (d:Nat)],some (246,2,1)),(i.2.2,[.int .i64 60,.int .i64 60],some (246,2,1))]));(repeat (first|exact KeepF.nil|(apply KeepF.cons;exact rfl)|apply KeepF.skip))|(with_reducible apply t_seq)|(apply t_region;kernel_rfl)|((with_reducible apply t_condD);exact rfl;all_goals first|(intro hp;try (exfalso;omega))|skip)|(with_reducible apply t_skip)|(with_reducible apply t_block))|with_reducible apply q_thenN|exact P0|(with_reducible apply P1)|((with_reducible apply Norm.nil);exact rfl)|((with_reducible apply Norm.cons);exact rfl)|((with_reducible apply cut_in3)<;>(repeat' (first|exact FrSub.nil|(apply FrSub.cons;exact rfl)|exact HpSub.refl _|(apply HpSub.consE;(repeat first|exact P0|apply P1);exact rfl)|exact HpSub.nil)))|(apply t_mix (id:=9) [0,1,2,3,4,5,6,7,8,9,10,11,12,13,14] 6 #[false,false,false,false,false,false,false,false,false,false,false,false,false,false,false,false,false,false,false,false,false];kernel_rfl;kernel_rfl;exact rfl)|((with_reducible apply al_id);first|(apply al_done;decide +kernel)|(apply al_one 15;decide +kernel)|(apply al_one 16;decide +kernel)|(apply al_one 17;decide +kernel)|(apply al_one 18;decide +kernel)|(apply al_one 19;decide +kernel)|(apply al_one 20;decide +kernel)|(apply al_two 15 16;decide +kernel)|(apply al_two 15 17;decide +kernel)|(apply al_two 16 17;decide +kernel)|(apply al_three 15 16 17;decide +kernel))|exact Nat.le_of_ble_eq_true rfl)
   rintro ⟨b10,b11,b12⟩
   try simp only [List.cons_append,List.nil_append]
   try dsimp only
   have hk8:k=0∨k=1∨k=2∨k=3∨k=4∨k=5∨k=6∨k=7:=by omega
   clear hlt hk
   rcases hk8 with rfl|rfl|rfl|rfl|rfl|rfl|rfl|rfl
   · repeat' (first|((with_reducible apply oq_id);first|(apply oq_fn;exact rfl;first|exact trivial|(and_intros<;>omega)|omega|skip)|((with_reducible apply oq_load);exact rfl;exact rfl)|(focus ((with_reducible apply oq_and1I);exact rfl;exact rfl;(refine ⟨?_,?_⟩<;>omega)))|((with_reducible apply oq_shr1I);exact rfl;exact rfl)|((with_reducible apply oq_shr2I);exact rfl;exact rfl)|((with_reducible apply oq_call (hc:=Try.call150));exact rfl;exact rfl;exact fun D w1 hw1=>share60_calls _ _ (by omega) (by omega) w1))|((with_reducible apply tl_id);first|(with_reducible apply tl_nil)|((with_reducible apply u_q);(iterate 4 exact rfl)))|((with_reducible apply gx_id);first|(with_reducible apply v_nil)|((with_reducible apply v_q);(iterate 3 exact rfl)))|((with_reducible apply os_id);first|((with_reducible apply os_storeAgg);(iterate 5 exact rfl)))|((with_reducible apply ai_id);first|((with_reducible apply ai_s0);(iterate 4 exact rfl)))|((with_reducible apply rd_id);first|(apply Rd.own;(repeat first|exact P0|apply P1);exact rfl;done))|((with_reducible apply t_id);first|(apply t_region;kernel_rfl))|with_reducible apply q_thenN|with_reducible apply q_blockN|exact P0|(with_reducible apply P1)|((with_reducible apply Norm.nil);exact rfl)|((with_reducible apply Norm.cons);exact rfl)|(apply t_mix (id:=10) [0,1,2,3,4,5,6,7,8,9,10,11,12,13,14,15] 1 #[false,false,false,false,false,false,false,false,false,false,false,false,false,false,false,false,true];kernel_rfl;kernel_rfl;exact rfl)|((with_reducible apply al_id);first|(apply al_done;decide +kernel)|(apply al_one 16;decide +kernel))|exact Nat.le_of_ble_eq_true rfl)
     refine ⟨1,by omega,by omega,?_,?_⟩
     · try simp only [List.cons_append,List.nil_append]
       (repeat first|exact FrSub.nil|(apply FrSub.cons;exact rfl))
     · try simp only [List.cons_append,List.nil_append]
       (repeat (first|exact HpSub.refl _|(apply HpSub.consE;(repeat first|exact P0|apply P1);exact rfl)|exact HpSub.nil))
   · repeat' (first|((with_reducible apply oq_id);first|(apply oq_fn;exact rfl;first|exact trivial|(and_intros<;>omega)|omega|skip)|((with_reducible apply oq_load);exact rfl;exact rfl)|(focus ((with_reducible apply oq_and1I);exact rfl;exact rfl;(refine ⟨?_,?_⟩<;>omega)))|((with_reducible apply oq_shr1I);exact rfl;exact rfl)|((with_reducible apply oq_shr2I);exact rfl;exact rfl)|((with_reducible apply oq_call (hc:=Try.call150));exact rfl;exact rfl;exact fun D w1 hw1=>share60_calls _ _ (by omega) (by omega) w1))|((with_reducible apply tl_id);first|(with_reducible apply tl_nil)|((with_reducible apply u_q);(iterate 4 exact rfl)))|((with_reducible apply gx_id);first|(with_reducible apply v_nil)|((with_reducible apply v_q);(iterate 3 exact rfl)))|((with_reducible apply os_id);first|((with_reducible apply os_storeAgg);(iterate 5 exact rfl)))|((with_reducible apply ai_id);first|((with_reducible apply ai_s0);(iterate 4 exact rfl)))|((with_reducible apply rd_id);first|(apply Rd.own;(repeat first|exact P0|apply P1);exact rfl;done))|((with_reducible apply t_id);first|(apply t_region;kernel_rfl))|with_reducible apply q_thenN|with_reducible apply q_blockN|exact P0|(with_reducible apply P1)|((with_reducible apply Norm.nil);exact rfl)|((with_reducible apply Norm.cons);exact rfl)|(apply t_mix (id:=10) [0,1,2,3,4,5,6,7,8,9,10,11,12,13,14,15] 1 #[false,false,false,false,false,false,false,false,false,false,false,false,false,false,false,false,true];kernel_rfl;kernel_rfl;exact rfl)|((with_reducible apply al_id);first|(apply al_done;decide +kernel)|(apply al_one 16;decide +kernel))|exact Nat.le_of_ble_eq_true rfl)
     refine ⟨2,by omega,by omega,?_,?_⟩
     · try simp only [List.cons_append,List.nil_append]
       (repeat first|exact FrSub.nil|(apply FrSub.cons;exact rfl))
     · try simp only [List.cons_append,List.nil_append]
       (repeat (first|exact HpSub.refl _|(apply HpSub.consE;(repeat first|exact P0|apply P1);exact rfl)|exact HpSub.nil))
   · repeat' (first|((with_reducible apply oq_id);first|(apply oq_fn;exact rfl;first|exact trivial|(and_intros<;>omega)|omega|skip)|((with_reducible apply oq_load);exact rfl;exact rfl)|(focus ((with_reducible apply oq_and1I);exact rfl;exact rfl;(refine ⟨?_,?_⟩<;>omega)))|((with_reducible apply oq_shr1I);exact rfl;exact rfl)|((with_reducible apply oq_shr2I);exact rfl;exact rfl)|((with_reducible apply oq_call (hc:=Try.call150));exact rfl;exact rfl;exact fun D w1 hw1=>share60_calls _ _ (by omega) (by omega) w1))|((with_reducible apply tl_id);first|(with_reducible apply tl_nil)|((with_reducible apply u_q);(iterate 4 exact rfl)))|((with_reducible apply gx_id);first|(with_reducible apply v_nil)|((with_reducible apply v_q);(iterate 3 exact rfl)))|((with_reducible apply os_id);first|((with_reducible apply os_storeAgg);(iterate 5 exact rfl)))|((with_reducible apply ai_id);first|((with_reducible apply ai_s0);(iterate 4 exact rfl)))|((with_reducible apply rd_id);first|(apply Rd.own;(repeat first|exact P0|apply P1);exact rfl;done))|((with_reducible apply t_id);first|(apply t_region;kernel_rfl))|with_reducible apply q_thenN|with_reducible apply q_blockN|exact P0|(with_reducible apply P1)|((with_reducible apply Norm.nil);exact rfl)|((with_reducible apply Norm.cons);exact rfl)|(apply t_mix (id:=10) [0,1,2,3,4,5,6,7,8,9,10,11,12,13,14,15] 1 #[false,false,false,false,false,false,false,false,false,false,false,false,false,false,false,false,true];kernel_rfl;kernel_rfl;exact rfl)|((with_reducible apply al_id);first|(apply al_done;decide +kernel)|(apply al_one 16;decide +kernel))|exact Nat.le_of_ble_eq_true rfl)
     refine ⟨3,by omega,by omega,?_,?_⟩
     · try simp only [List.cons_append,List.nil_append]
       (repeat first|exact FrSub.nil|(apply FrSub.cons;exact rfl))
     · try simp only [List.cons_append,List.nil_append]
       (repeat (first|exact HpSub.refl _|(apply HpSub.consE;(repeat first|exact P0|apply P1);exact rfl)|exact HpSub.nil))
   · repeat' (first|((with_reducible apply oq_id);first|(apply oq_fn;exact rfl;first|exact trivial|(and_intros<;>omega)|omega|skip)|((with_reducible apply oq_load);exact rfl;exact rfl)|(focus ((with_reducible apply oq_and1I);exact rfl;exact rfl;(refine ⟨?_,?_⟩<;>omega)))|((with_reducible apply oq_shr1I);exact rfl;exact rfl)|((with_reducible apply oq_shr2I);exact rfl;exact rfl)|((with_reducible apply oq_call (hc:=Try.call150));exact rfl;exact rfl;exact fun D w1 hw1=>share60_calls _ _ (by omega) (by omega) w1))|((with_reducible apply tl_id);first|(with_reducible apply tl_nil)|((with_reducible apply u_q);(iterate 4 exact rfl)))|((with_reducible apply gx_id);first|(with_reducible apply v_nil)|((with_reducible apply v_q);(iterate 3 exact rfl)))|((with_reducible apply os_id);first|((with_reducible apply os_storeAgg);(iterate 5 exact rfl)))|((with_reducible apply ai_id);first|((with_reducible apply ai_s0);(iterate 4 exact rfl)))|((with_reducible apply rd_id);first|(apply Rd.own;(repeat first|exact P0|apply P1);exact rfl;done))|((with_reducible apply t_id);first|(apply t_region;kernel_rfl))|with_reducible apply q_thenN|with_reducible apply q_blockN|exact P0|(with_reducible apply P1)|((with_reducible apply Norm.nil);exact rfl)|((with_reducible apply Norm.cons);exact rfl)|(apply t_mix (id:=10) [0,1,2,3,4,5,6,7,8,9,10,11,12,13,14,15] 1 #[false,false,false,false,false,false,false,false,false,false,false,false,false,false,false,false,true];kernel_rfl;kernel_rfl;exact rfl)|((with_reducible apply al_id);first|(apply al_done;decide +kernel)|(apply al_one 16;decide +kernel))|exact Nat.le_of_ble_eq_true rfl)
     refine ⟨4,by omega,by omega,?_,?_⟩
     · try simp only [List.cons_append,List.nil_append]
       (repeat first|exact FrSub.nil|(apply FrSub.cons;exact rfl))
     · try simp only [List.cons_append,List.nil_append]
       (repeat (first|exact HpSub.refl _|(apply HpSub.consE;(repeat first|exact P0|apply P1);exact rfl)|exact HpSub.nil))
   · repeat' (first|((with_reducible apply oq_id);first|(apply oq_fn;exact rfl;first|exact trivial|(and_intros<;>omega)|omega|skip)|((with_reducible apply oq_load);exact rfl;exact rfl)|(focus ((with_reducible apply oq_and1I);exact rfl;exact rfl;(refine ⟨?_,?_⟩<;>omega)))|((with_reducible apply oq_shr1I);exact rfl;exact rfl)|((with_reducible apply oq_shr2I);exact rfl;exact rfl)|((with_reducible apply oq_call (hc:=Try.call150));exact rfl;exact rfl;exact fun D w1 hw1=>share60_calls _ _ (by omega) (by omega) w1))|((with_reducible apply tl_id);first|(with_reducible apply tl_nil)|((with_reducible apply u_q);(iterate 4 exact rfl)))|((with_reducible apply gx_id);first|(with_reducible apply v_nil)|((with_reducible apply v_q);(iterate 3 exact rfl)))|((with_reducible apply os_id);first|((with_reducible apply os_storeAgg);(iterate 5 exact rfl)))|((with_reducible apply ai_id);first|((with_reducible apply ai_s0);(iterate 4 exact rfl)))|((with_reducible apply rd_id);first|(apply Rd.own;(repeat first|exact P0|apply P1);exact rfl;done))|((with_reducible apply t_id);first|(apply t_region;kernel_rfl))|with_reducible apply q_thenN|with_reducible apply q_blockN|exact P0|(with_reducible apply P1)|((with_reducible apply Norm.nil);exact rfl)|((with_reducible apply Norm.cons);exact rfl)|(apply t_mix (id:=10) [0,1,2,3,4,5,6,7,8,9,10,11,12,13,14,15] 1 #[false,false,false,false,false,false,false,false,false,false,false,false,false,false,false,false,true];kernel_rfl;kernel_rfl;exact rfl)|((with_reducible apply al_id);first|(apply al_done;decide +kernel)|(apply al_one 16;decide +kernel))|exact Nat.le_of_ble_eq_true rfl)
     refine ⟨5,by omega,by omega,?_,?_⟩
     · try simp only [List.cons_append,List.nil_append]
       (repeat first|exact FrSub.nil|(apply FrSub.cons;exact rfl))
     · try simp only [List.cons_append,List.nil_append]
       (repeat (first|exact HpSub.refl _|(apply HpSub.consE;(repeat first|exact P0|apply P1);exact rfl)|exact HpSub.nil))
   · repeat' (first|((with_reducible apply oq_id);first|(apply oq_fn;exact rfl;first|exact trivial|(and_intros<;>omega)|omega|skip)|((with_reducible apply oq_load);exact rfl;exact rfl)|(focus ((with_reducible apply oq_and1I);exact rfl;exact rfl;(refine ⟨?_,?_⟩<;>omega)))|((with_reducible apply oq_shr1I);exact rfl;exact rfl)|((with_reducible apply oq_shr2I);exact rfl;exact rfl)|((with_reducible apply oq_call (hc:=Try.call150));exact rfl;exact rfl;exact fun D w1 hw1=>share60_calls _ _ (by omega) (by omega) w1))|((with_reducible apply tl_id);first|(with_reducible apply tl_nil)|((with_reducible apply u_q);(iterate 4 exact rfl)))|((with_reducible apply gx_id);first|(with_reducible apply v_nil)|((with_reducible apply v_q);(iterate 3 exact rfl)))|((with_reducible apply os_id);first|((with_reducible apply os_storeAgg);(iterate 5 exact rfl)))|((with_reducible apply ai_id);first|((with_reducible apply ai_s0);(iterate 4 exact rfl)))|((with_reducible apply rd_id);first|(apply Rd.own;(repeat first|exact P0|apply P1);exact rfl;done))|((with_reducible apply t_id);first|(apply t_region;kernel_rfl))|with_reducible apply q_thenN|with_reducible apply q_blockN|exact P0|(with_reducible apply P1)|((with_reducible apply Norm.nil);exact rfl)|((with_reducible apply Norm.cons);exact rfl)|(apply t_mix (id:=10) [0,1,2,3,4,5,6,7,8,9,10,11,12,13,14,15] 1 #[false,false,false,false,false,false,false,false,false,false,false,false,false,false,false,false,true];kernel_rfl;kernel_rfl;exact rfl)|((with_reducible apply al_id);first|(apply al_done;decide +kernel)|(apply al_one 16;decide +kernel))|exact Nat.le_of_ble_eq_true rfl)
     refine ⟨6,by omega,by omega,?_,?_⟩
     · try simp only [List.cons_append,List.nil_append]
       (repeat first|exact FrSub.nil|(apply FrSub.cons;exact rfl))
     · try simp only [List.cons_append,List.nil_append]
       (repeat (first|exact HpSub.refl _|(apply HpSub.consE;(repeat first|exact P0|apply P1);exact rfl)|exact HpSub.nil))
   · repeat' (first|((with_reducible apply oq_id);first|(apply oq_fn;exact rfl;first|exact trivial|(and_intros<;>omega)|omega|skip)|((with_reducible apply oq_load);exact rfl;exact rfl)|(focus ((with_reducible apply oq_and1I);exact rfl;exact rfl;(refine ⟨?_,?_⟩<;>omega)))|((with_reducible apply oq_shr1I);exact rfl;exact rfl)|((with_reducible apply oq_shr2I);exact rfl;exact rfl)|((with_reducible apply oq_call (hc:=Try.call150));exact rfl;exact rfl;exact fun D w1 hw1=>share60_calls _ _ (by omega) (by omega) w1))|((with_reducible apply tl_id);first|(with_reducible apply tl_nil)|((with_reducible apply u_q);(iterate 4 exact rfl)))|((with_reducible apply gx_id);first|(with_reducible apply v_nil)|((with_reducible apply v_q);(iterate 3 exact rfl)))|((with_reducible apply os_id);first|((with_reducible apply os_storeAgg);(iterate 5 exact rfl)))|((with_reducible apply ai_id);first|((with_reducible apply ai_s0);(iterate 4 exact rfl)))|((with_reducible apply rd_id);first|(apply Rd.own;(repeat first|exact P0|apply P1);exact rfl;done))|((with_reducible apply t_id);first|(apply t_region;kernel_rfl))|with_reducible apply q_thenN|with_reducible apply q_blockN|exact P0|(with_reducible apply P1)|((with_reducible apply Norm.nil);exact rfl)|((with_reducible apply Norm.cons);exact rfl)|(apply t_mix (id:=10) [0,1,2,3,4,5,6,7,8,9,10,11,12,13,14,15] 1 #[false,false,false,false,false,false,false,false,false,false,false,false,false,false,false,false,true];kernel_rfl;kernel_rfl;exact rfl)|((with_reducible apply al_id);first|(apply al_done;decide +kernel)|(apply al_one 16;decide +kernel))|exact Nat.le_of_ble_eq_true rfl)
     refine ⟨7,by omega,by omega,?_,?_⟩
     · try simp only [List.cons_append,List.nil_append]
       (repeat first|exact FrSub.nil|(apply FrSub.cons;exact rfl))
     · try simp only [List.cons_append,List.nil_append]
       (repeat (first|exact HpSub.refl _|(apply HpSub.consE;(repeat first|exact P0|apply P1);exact rfl)|exact HpSub.nil))
   · repeat' (first|((with_reducible apply oq_id);first|(apply oq_fn;exact rfl;first|exact trivial|(and_intros<;>omega)|omega|skip)|((with_reducible apply oq_load);exact rfl;exact rfl)|(focus ((with_reducible apply oq_and1I);exact rfl;exact rfl;(refine ⟨?_,?_⟩<;>omega)))|((with_reducible apply oq_shr1I);exact rfl;exact rfl)|((with_reducible apply oq_shr2I);exact rfl;exact rfl)|((with_reducible apply oq_call (hc:=Try.call150));exact rfl;exact rfl;exact fun D w1 hw1=>share60_calls _ _ (by omega) (by omega) w1))|((with_reducible apply tl_id);first|(with_reducible apply tl_nil)|((with_reducible apply u_q);(iterate 4 exact rfl)))|((with_reducible apply gx_id);first|(with_reducible apply v_nil)|((with_reducible apply v_q);(iterate 3 exact rfl)))|((with_reducible apply os_id);first|((with_reducible apply os_storeAgg);(iterate 5 exact rfl)))|((with_reducible apply ai_id);first|((with_reducible apply ai_s0);(iterate 4 exact rfl)))|((with_reducible apply rd_id);first|(apply Rd.own;(repeat first|exact P0|apply P1);exact rfl;done))|((with_reducible apply t_id);first|(apply t_region;kernel_rfl))|with_reducible apply q_thenN|with_reducible apply q_blockN|exact P0|(with_reducible apply P1)|((with_reducible apply Norm.nil);exact rfl)|((with_reducible apply Norm.cons);exact rfl)|(apply t_mix (id:=10) [0,1,2,3,4,5,6,7,8,9,10,11,12,13,14,15] 1 #[false,false,false,false,false,false,false,false,false,false,false,false,false,false,false,false,true];kernel_rfl;kernel_rfl;exact rfl)|((with_reducible apply al_id);first|(apply al_done;decide +kernel)|(apply al_one 16;decide +kernel))|exact Nat.le_of_ble_eq_true rfl)
     refine ⟨8,by omega,by omega,?_,?_⟩
     · try simp only [List.cons_append,List.nil_append]
       (repeat first|exact FrSub.nil|(apply FrSub.cons;exact rfl))
     · try simp only [List.cons_append,List.nil_append]
       (repeat (first|exact HpSub.refl _|(apply HpSub.consE;(repeat first|exact P0|apply P1);exact rfl)|exact HpSub.nil))
 · obtain rfl:k=8:=by omega
   repeat' (first|((with_reducible apply oq_id);first|(apply oq_fn;exact rfl;first|exact trivial|(and_intros<;>omega)|omega|skip)|((with_reducible apply oq_sliceArr);(iterate 3 exact rfl))|((with_reducible apply oq_call (hc:=Try.call151));exact rfl;exact rfl;exact fun D w1 hw1=>HA w1 hw1 (by (repeat first|exact P0|apply P1)))|((with_reducible apply oq_call (hc:=Try.call129));exact rfl;exact rfl;exact fun D w1 hw1=>sized_calls _ _ (by omega) (by omega) w1))|((with_reducible apply tl_id);first|(with_reducible apply tl_nil)|((with_reducible apply u_q);(iterate 4 exact rfl))|((with_reducible apply u_s0);exact rfl;exact rfl))|((with_reducible apply os_id);first|((with_reducible apply os_storeAgg);(iterate 5 exact rfl)))|((with_reducible apply rd_id);first|(apply Rd.own;(repeat first|exact P0|apply P1);exact rfl;done))|((with_reducible apply t_id);first|(with_reducible apply t_seq)|(apply t_region;kernel_rfl)|((with_reducible apply t_condF);exact rfl)|(with_reducible apply t_ret)|(with_reducible apply t_exit))|with_reducible apply q_thenN|with_reducible apply q_thenE|((with_reducible apply q_blockE);exact rfl)|exact P0|(with_reducible apply P1)|exact Rdn.zero|apply Rdn.succ|((with_reducible apply Norm.nil);exact rfl)|((with_reducible apply Norm.cons);exact rfl)|(with_reducible apply end_ret)|exact rvs_nil|(with_reducible apply rvs_cons)|((with_reducible apply rv_tmp);exact rfl)|((with_reducible apply rv_cellAgg);exact rfl;exact rfl)|exact Nat.le_of_ble_eq_true rfl)
   rfl
end Go.Proofs.Ytcjkndjjbjoehaa
namespace Go.Proofs.Ytcjkndjjbjoehaa
open Go.RowKit
attribute [local irreducible] OQ OS OX Rd T TL GX GL AL AI RV wpG SAny Calls
theorem os_callS {c:Cx} {F:Fr} {H:Hp} {K:Value→Hp→Prop} {d:Option Tmp} {ty:TypeId} {pos:String} {af:Array Edge} {g:Option (Nat×Bool)} {f:Operand} {args:Array Operand} {T:Array TypeId} {k:Nat} {fst cap vs:List Value} {PV:Value→Hp→Prop} (hf:ev F f=some (.func (.func k) ⟨fst⟩ ⟨cap⟩)) (hc:∀ (a:Array Value) (w:World),(callFunc k a).run c.P w=.ok (.enter k a) w)
   (ha:evs F args.toList=some vs) (h:∀ D w,Has c.w0 ⟨c.M,D⟩ H w→Calls c.P k ⟨fst++vs++cap⟩ w fun e w'=>∃ v H',e=.returned v∧PV v H'∧Has w ⟨[],[]⟩ H' w')
   (hk:∀ v H',PV v H'→K v (H++H')):OS c ⟨d,.call ⟨.value f,args,T⟩,ty,pos,af,g⟩ F H K:=
 os_call hf hc ha fun D w hw=>(h D w hw).mono fun e w' ⟨v,H',h1,h2,h3⟩=>⟨v,H++H',h1,hk v H' h2,(hw.call h3).sub (hp_comm _ _)⟩
theorem legRz_ok {v q1 q2 q3 q4 g0 g1:Int} {z:Lg} {bk:Bool} {C:List Wn} (hcw:∀ x∈C,windB x.l=true) (hp:PaceOk v q1 q2 q3 q4 g0 g1) (hh : -500≤z.h∧z.h≤9000) (hw:WayIn z.x z.y):(∀ r∈legRz v q1 q2 q3 z bk C,RtOk r)∧(legRz v q1 q2 q3 z bk C).length≤C.length:=by
 obtain ⟨p1,p2,p3,p4,p5,p6⟩:=id hp
 have hup : -500≤upV q1 q2 z.h∧upV q1 q2 z.h≤20000:=by unfold upV;omega
 unfold legRz legR
 split
 · exact ⟨fun r h=>(by cases h),Nat.zero_le _⟩
 unfold ratesV
 split
 · refine ⟨fun r h=>?_,List.length_filterMap_le _ _⟩
   obtain ⟨x,hx,e⟩:=List.mem_filterMap.1 h
   rcases wn_both (hcw x hx) p1 hup (turn_way hw bk) with ⟨e1,_⟩|⟨s,f,e1,_,k1,k2,k3⟩
   · rw [e1] at e;cases e
   · rw [e1] at e
     obtain rfl:=Option.some.inj e
     exact ⟨k1,k2,k3⟩
 · exact ⟨fun r h=>(by cases h),Nat.zero_le _⟩
theorem rt_read {w:World} {A:Option Addr} {n:Nat} {l:List (Int×Int)} (h:RdS w 2 A n (l.map rtCells)) {i:Nat} (hi:i<n) :
   ∃ b o s f,A=some ⟨b,o,none⟩∧b<w.heap.size∧l[i]?=some (s,f)∧w.cell? ⟨b,o+i*2,none⟩=some (.int .i64 s)∧w.cell? ⟨b,o+i*2+1,none⟩=some (.int .i64 f):=by
 obtain ⟨b,o,cs,hA,hb,hx,_,hc⟩:=h.row hi
 simp only [List.getElem?_map,Option.map_eq_some_iff] at hx
 obtain ⟨⟨s,f⟩,hx,rfl⟩:=hx
 exact ⟨b,o,s,f,hA,hb,hx,hc 0 _ rfl,hc 1 _ rfl⟩
theorem aLH_zero (c d:Nat):aL 0 0 c d 8=0∧aH 0 0 c d 8=0:=by
 have hp:∀ k,prN 0 0 c d k=0:=fun k=>by unfold prN;rw [show (if k % 2=1 then 0 else 0)=0 by split<;>rfl,Nat.zero_mul]
 have key:∀ k,aL 0 0 c d k=0∧aH 0 0 c d k=0:=fun k=>by
   induction k with
   | zero=>simp [aL,aH,qf,qc]
   | succ k ih=>simp [aL,aH,ih.1,ih.2,hp,qf,qc]
 exact key 8
theorem DskR.find2 {w:World} {b bM:Nat} {AP AT:Option Addr} {m cM n cp:Nat} {v q1 q2 q3 q4 g0 g1:Int} {E:List En} {C:List Wn} {L:List Lg} {j nn:Nat} {z:Lg} (h:DskR w b bM AP AT m cM n cp v q1 q2 q3 q4 g0 g1 E) (hE:E.map keyOf=deskE v q1 q2 q3 C L nn) (hn:j<nn) (hz:L[j]?=some z) (bk:Bool) :
   ∃ (A:Option Addr) (cap:Nat),RdS w 2 A (legRz v q1 q2 q3 z bk C).length ((legRz v q1 q2 q3 z bk C).map rtCells) ∧
     ∀ (F:Fr) (H:Hp) (d:Option Tmp) (ty:TypeId) (pos:String) (af:Array Edge) (g:Option (Nat×Bool)) (x y:Operand) (w1:World) (N:Nat),Ext w w1→ev F x=some (.map (some bM))→ev F y=some (fk j bk)→OQ (cx w1 N) ⟨d,.lookup 196 x y false,ty,pos,af,g⟩ F H (.slice A (legRz v q1 q2 q3 z bk C).length cap):=by
 obtain ⟨o,h1,h2,h3⟩:=h.find hE hn hz bk
 rcases o with _|⟨g,cap⟩
 · have e:=h1 rfl
   rw [e] at h3 ⊢
   exact ⟨none,0,RdS.nil _ _ _,h3⟩
 · exact ⟨some ⟨g,0,none⟩,cap,h2 g cap rfl,h3⟩
theorem part59_calls (b bM:Nat) (AP AT:Option Addr) (m cM n cp:Nat) (v q1 q2 q3 q4:Int) (g0 g1:Nat) (E:List En) (C:List Wn) (L:List Lg) (j nn:Nat) (z:Lg) (me:Nat) (bk:Bool) (w:World) (hd:DskR w b bM AP AT m cM n cp v q1 q2 q3 q4 g0 g1 E) (hE:E.map keyOf=deskE v q1 q2 q3 C L nn) (hj:j<nn) (hz:L[j]?=some z) (hR:∀ r∈legRz v q1 q2 q3 z bk C,RtOk r) (hRl:(legRz v q1 q2 q3 z bk C).length≤1000) (hme:me≤1000000) (hg:g0≤g1∧g1≤1000000):Calls Try.prog 59 #[.pointer (some ⟨b,0,none⟩),fk j bk,.int .i64 (me:Nat)] w fun e w'=>e=.returned (partV (legRz v q1 q2 q3 z bk C) me g0 g1)∧Ext w w':=by
 obtain ⟨A,cap,hrd,hLk⟩:=hd.find2 hE hj hz bk
 obtain ⟨e0,e1,e2,e3,e4,e5,e6,c7,c8,c9,_,_,_,_⟩:=hd
 generalize legRz v q1 q2 q3 z bk C=R at *
 have hLk':=fun F H d ty pos af g x y=>hLk F H d ty pos af g x y w 76 (Ext.refl w)
 clear hLk
 unfold fk at *
 refine enterQ (c:=cx w 76) Try.func59 rfl rfl rfl rfl ?_
 repeat' (first|((with_reducible apply oq_id);first|((with_reducible apply hLk');exact rfl;exact rfl)|(apply oq_fn;exact rfl;first|exact trivial|(and_intros<;>omega)|omega|skip)|((with_reducible apply oq_load);exact rfl;exact rfl)|((with_reducible apply oq_loadAgg);exact rfl;exact rfl))|((with_reducible apply tl_id);first|(with_reducible apply tl_nil)|((with_reducible apply u_q);(iterate 4 exact rfl))|((with_reducible apply u_s);(iterate 3 exact rfl)))|((with_reducible apply gx_id);first|(with_reducible apply v_nil)|((with_reducible apply v_q);(iterate 3 exact rfl)))|((with_reducible apply os_id);first|((with_reducible apply os_x);exact rfl))|((with_reducible apply ox_id);first|((with_reducible apply ox_alloc);exact rfl;intro _)|((with_reducible apply ox_boxAgg);exact rfl;intro _))|((with_reducible apply rd_id);first|(apply Rd.own;(repeat first|exact P0|apply P1);exact rfl;done)|(apply Rd.old;(first|(with_reducible assumption)|exact c0|exact c1|exact c2|exact c3|exact c4|exact c5|exact c6|exact c7|exact c8|exact d0|exact d1|exact d2|exact d3|exact d4|exact d5);first|exact List.not_mem_nil|exact m0|exact m1|exact m2|exact m3|exact m4|exact m5|exact m6|exact m7|exact m8|exact m9))|((with_reducible apply t_id);first|(with_reducible apply t_seq)|(apply t_region;kernel_rfl)|(apply t_drawn;kernel_rfl;decide +kernel;try simp only [List.append_eq,List.cons_append,List.nil_append])|(with_reducible apply t_block))|with_reducible apply q_thenN|exact Rdn.zero|apply Rdn.succ)
 rename_i b4 b6 b7
 apply t_loopK (ι:=Nat) [0,2,4,6,7,8,18,19] (fun k=>[(20,.int .i64 ((k:Nat):Int))]) (fun k=>[(b4,[.int .i64 ((j:Nat):Int),.bool bk],some (134,2,1)),(b6,[.int .i64 ((hullT me (R.take k)).1:Nat),.int .i64 ((hullT me (R.take k)).2:Nat)],some (39,2,1)),(b7,[.int .i64 0,.int .i64 0],some (39,2,1))]) (fun k=>k≤R.length) (fun k=>R.length-k) (0)
 (repeat (first|exact KeepF.nil|(apply KeepF.cons;exact rfl)|apply KeepF.skip))
 (repeat first|exact FrSub.nil|(apply FrSub.cons;exact rfl))
 (repeat (first|exact HpSub.refl _|(apply HpSub.consE;(repeat first|exact P0|apply P1);exact rfl)|exact HpSub.nil))
 · exact Nat.zero_le _
 rintro k hk
 try simp only [List.cons_append,List.nil_append]
 by_cases hlt:k<R.length
 · obtain ⟨bA,oA,s,f,rfl,_,hr,c0,c1⟩:=rt_read hrd hlt
   have hok:=hR _ (List.mem_of_getElem? hr)
   obtain ⟨k1,k2,k3⟩:=id hok
   simp only at k1 k2 k3
   obtain ⟨s,rfl⟩:=Int.eq_ofNat_of_zero_le (show 0≤s by omega)
   obtain ⟨f,rfl⟩:=Int.eq_ofNat_of_zero_le (show 0≤f by omega)
   have eL:tLo me ((s:Int),(f:Int))=10*me / f:=rfl
   have eH:tHi me ((s:Int),(f:Int))=(10*me+s-1) / s:=rfl
   obtain ⟨tl,htl⟩:∃ t,10*me / f=t:=⟨_,rfl⟩
   obtain ⟨th,hth⟩:∃ t,(10*me+s-1) / s=t:=⟨_,rfl⟩
   have q1':tl≤10*me:=htl ▸ Nat.div_le_self _ _
   have q2':th≤10*me+s-1:=hth ▸ Nat.div_le_self _ _
   have ht:R.take (k+1)=R.take k++[((s:Int),(f:Int))]:=by rw [List.take_add_one,hr];rfl
   rw [htl] at eL
   rw [hth] at eH
   rcases Nat.eq_zero_or_pos k with rfl|hk0
   · have hone:=hullT_one me ((s:Int),(f:Int))
     rw [eL,eH] at hone
     rw [List.take_zero,List.nil_append] at ht
     repeat' (first|((with_reducible apply oq_id);first|(focus ((with_reducible apply oq_indexAddrN);(iterate 4 exact rfl);omega))|(focus ((with_reducible apply (oq_mulE (k:=((10*me:Nat):Int))));exact rfl;exact rfl;omega;(refine ⟨?_,?_⟩<;>omega)))|(focus ((with_reducible apply (oq_quoI (k:=((tl:Nat):Int))));exact rfl;exact rfl;exact ⟨(tdiv_nat rfl rfl).trans (by rw [htl]),by omega,by omega,by omega⟩))|(focus ((with_reducible apply (oq_quoI (k:=((th:Nat):Int))));exact rfl;exact rfl;exact ⟨(tdiv_nat rfl rfl).trans (by rw [hth]),by omega,by omega,by omega⟩))|(focus ((with_reducible apply (oq_addE (k:=((10*me+s:Nat):Int))));exact rfl;exact rfl;omega))|(focus ((with_reducible apply (oq_subE (k:=((10*me+s-1:Nat):Int))));exact rfl;exact rfl;omega))|((with_reducible apply (oq_min2E (k:=((tl:Nat):Int))));exact rfl;exact rfl;omega)|((with_reducible apply (oq_max2E (k:=((th:Nat):Int))));exact rfl;exact rfl;omega)|((with_reducible apply oq_lssT);exact rfl;exact rfl;omega)|((with_reducible apply oq_eqlT);exact rfl;exact rfl;omega)|(apply oq_fn;exact rfl;first|exact trivial|(and_intros<;>omega)|omega|skip)|((with_reducible apply oq_load);exact rfl;exact rfl)|((with_reducible apply oq_loadAgg);exact rfl;exact rfl)|((with_reducible apply oq_build);(iterate 3 exact rfl)))|((with_reducible apply tl_id);first|(with_reducible apply tl_nil)|((with_reducible apply u_q);(iterate 4 exact rfl))|((with_reducible apply u_s0);exact rfl;exact rfl)|((with_reducible apply u_s);(iterate 3 exact rfl)))|((with_reducible apply gx_id);first|(with_reducible apply v_nil)|((with_reducible apply v_q);(iterate 3 exact rfl)))|((with_reducible apply os_id);first|((with_reducible apply os_x);exact rfl)|((with_reducible apply os_store);(iterate 4 exact rfl))|((with_reducible apply os_storeAgg);(iterate 5 exact rfl)))|((with_reducible apply ox_id);first|((with_reducible apply ox_alloc);exact rfl;intro _))|((with_reducible apply rd_id);first|(apply Rd.own;(repeat first|exact P0|apply P1);exact rfl;done)|(apply Rd.old;(first|(with_reducible assumption)|exact c0|exact c1|exact c2|exact c3|exact c4|exact c5|exact c6|exact c7|exact c8|exact d0|exact d1|exact d2|exact d3|exact d4|exact d5);first|exact List.not_mem_nil|exact m0|exact m1|exact m2|exact m3|exact m4|exact m5|exact m6|exact m7|exact m8|exact m9))|((with_reducible apply t_id);first|(apply t_mix (id:=4) [0,1,2,3,4,5,6,7,8,9,10,11,12,13,14,15] 0 #[false,false,false,false,false,false,false,false,false,false,false,false,false,false,false,false];kernel_rfl;kernel_rfl;exact rfl)|(with_reducible apply t_seq)|(apply t_region;kernel_rfl)|((with_reducible apply t_condT);exact rfl)|(with_reducible apply t_skip)|(with_reducible apply t_block))|with_reducible apply q_thenN|with_reducible apply q_blockN|exact P0|(with_reducible apply P1)|exact Rdn.zero|apply Rdn.succ|((with_reducible apply Norm.nil);exact rfl)|((with_reducible apply Norm.cons);exact rfl)|((with_reducible apply al_id);first|(apply al_done;decide +kernel))|exact Nat.le_of_ble_eq_true rfl)
     all_goals (refine ⟨1,hlt,(by omega),?_,?_⟩<;>(try simp only [ht,hone])<;>(repeat' (first|exact FrSub.nil|(apply FrSub.cons;exact rfl)|(apply HpSub.consE;(repeat first|exact P0|apply P1);exact rfl)|exact HpSub.nil)))
   · have h0:R.take k≠[]:=fun e=>by
       have:=congrArg List.length e
       rw [List.length_take,List.length_nil] at this
       omega
     have hsn:=hullT_snoc (m:=me) h0 ((s:Int),(f:Int))
     rw [eL,eH,← ht] at hsn
     repeat' (first|((with_reducible apply oq_id);first|(focus ((with_reducible apply oq_indexAddrN);(iterate 4 exact rfl);omega))|(focus ((with_reducible apply (oq_mulE (k:=((10*me:Nat):Int))));exact rfl;exact rfl;omega;(refine ⟨?_,?_⟩<;>omega)))|(focus ((with_reducible apply (oq_quoI (k:=((tl:Nat):Int))));exact rfl;exact rfl;exact ⟨(tdiv_nat rfl rfl).trans (by rw [htl]),by omega,by omega,by omega⟩))|(focus ((with_reducible apply (oq_quoI (k:=((th:Nat):Int))));exact rfl;exact rfl;exact ⟨(tdiv_nat rfl rfl).trans (by rw [hth]),by omega,by omega,by omega⟩))|(focus ((with_reducible apply (oq_addE (k:=((10*me+s:Nat):Int))));exact rfl;exact rfl;omega))|(focus ((with_reducible apply (oq_subE (k:=((10*me+s-1:Nat):Int))));exact rfl;exact rfl;omega))|(focus ((with_reducible apply (oq_addE (k:=((k+1:Nat):Int))));exact rfl;exact rfl;omega))|((with_reducible apply (oq_min2E (k:=((min (hullT me (R.take k)).1 tl:Nat):Int))));exact rfl;exact rfl;omega)|((with_reducible apply (oq_max2E (k:=((max (hullT me (R.take k)).2 th:Nat):Int))));exact rfl;exact rfl;omega)|((with_reducible apply oq_lssT);exact rfl;exact rfl;omega)|((with_reducible apply oq_eqlF);exact rfl;exact rfl;omega)|(apply oq_fn;exact rfl;first|exact trivial|(and_intros<;>omega)|omega|skip)|((with_reducible apply oq_load);exact rfl;exact rfl)|((with_reducible apply oq_loadAgg);exact rfl;exact rfl))|((with_reducible apply tl_id);first|(with_reducible apply tl_nil)|((with_reducible apply u_q);(iterate 4 exact rfl))|((with_reducible apply u_s0);exact rfl;exact rfl)|((with_reducible apply u_s);(iterate 3 exact rfl)))|((with_reducible apply gx_id);first|(with_reducible apply v_nil)|((with_reducible apply v_q);(iterate 3 exact rfl)))|((with_reducible apply os_id);first|((with_reducible apply os_x);exact rfl)|((with_reducible apply os_store);(iterate 4 exact rfl))|((with_reducible apply os_storeAgg);(iterate 5 exact rfl)))|((with_reducible apply ox_id);first|((with_reducible apply ox_alloc);exact rfl;intro _))|((with_reducible apply rd_id);first|(apply Rd.own;(repeat first|exact P0|apply P1);exact rfl;done)|(apply Rd.old;(first|(with_reducible assumption)|exact c0|exact c1|exact c2|exact c3|exact c4|exact c5|exact c6|exact c7|exact c8|exact d0|exact d1|exact d2|exact d3|exact d4|exact d5);first|exact List.not_mem_nil|exact m0|exact m1|exact m2|exact m3|exact m4|exact m5|exact m6|exact m7|exact m8|exact m9))|((with_reducible apply t_id);first|(apply t_mix (id:=4) [0,1,2,3,4,5,6,7,8,9,10,11,12,13,14,15] 0 #[false,false,false,false,false,false,false,false,false,false,false,false,false,false,false,false];kernel_rfl;kernel_rfl;exact rfl)|(with_reducible apply t_seq)|(apply t_region;kernel_rfl)|((with_reducible apply t_condT);exact rfl)|((with_reducible apply t_condF);exact rfl)|(with_reducible apply t_skip)|(with_reducible apply t_block))|with_reducible apply q_thenN|with_reducible apply q_blockN|exact P0|(with_reducible apply P1)|exact Rdn.zero|apply Rdn.succ|((with_reducible apply Norm.nil);exact rfl)|((with_reducible apply Norm.cons);exact rfl)|((with_reducible apply al_id);first|(apply al_done;decide +kernel))|exact Nat.le_of_ble_eq_true rfl)
     all_goals (refine ⟨k+1,hlt,(by omega),?_,?_⟩<;>(try simp only [hsn])<;>(repeat' (first|exact FrSub.nil|(apply FrSub.cons;exact rfl)|(apply HpSub.consE;(repeat first|exact P0|apply P1);exact rfl)|exact HpSub.nil)))
 · obtain rfl:k=R.length:=by omega
   rw [List.take_length]
   have hb:=hullT_bound hme R hR
   have HO:=fun w1=>over60_calls (hullT me R).1 (hullT me R).2 g0 g1 hb.1 (by omega) hg.1 hg.2 w1
   by_cases h0:R=[]
   · subst h0
     rw [show hullT me []=(0,0) from rfl] at HO ⊢
     simp only [(aLH_zero g0 g1).1,(aLH_zero g0 g1).2] at HO
     simp only [List.length_nil]
     repeat' (first|((with_reducible apply oq_id);first|((with_reducible apply hLk');exact rfl;exact rfl)|((with_reducible apply oq_lssF);exact rfl;exact rfl;omega)|(apply oq_fn;exact rfl;first|exact trivial|(and_intros<;>omega)|omega|skip)|((with_reducible apply oq_load);exact rfl;exact rfl)|((with_reducible apply oq_loadAgg);exact rfl;exact rfl)|((with_reducible apply oq_call (hc:=Try.call116));exact rfl;exact rfl;exact fun D w1 hw1=>HO w1)|((with_reducible apply oq_build);(iterate 3 exact rfl)))|((with_reducible apply tl_id);first|(with_reducible apply tl_nil)|((with_reducible apply u_q);(iterate 4 exact rfl)))|((with_reducible apply gx_id);first|(with_reducible apply v_nil)|((with_reducible apply v_q);(iterate 3 exact rfl)))|((with_reducible apply os_id);first|((with_reducible apply os_storeAgg);(iterate 5 exact rfl)))|((with_reducible apply ai_id);first|((with_reducible apply ai_q);(iterate 5 exact rfl))|((with_reducible apply ai_s0);(iterate 4 exact rfl))|((with_reducible apply ai_n0);(iterate 3 exact rfl)))|((with_reducible apply al_keep);focus (repeat (first|exact HpSub.refl _|(apply HpSub.cons;(repeat first|exact P0|apply P1))|apply HpSub.skipX|exact HpSub.nil)))|((with_reducible apply rd_id);first|(apply Rd.own;(repeat first|exact P0|apply P1);exact rfl;done)|(apply Rd.old;(first|(with_reducible assumption)|exact c0|exact c1|exact c2|exact c3|exact c4|exact c5|exact c6|exact c7|exact c8|exact d0|exact d1|exact d2|exact d3|exact d4|exact d5);first|exact List.not_mem_nil|exact m0|exact m1|exact m2|exact m3|exact m4|exact m5|exact m6|exact m7|exact m8|exact m9))|((with_reducible apply t_id);first|(apply t_mix (id:=9) [0,1,2,3,4,5,6,7,8,9] 2 #[false,false,false,false,false,false,false,false,false,false,false,true];kernel_rfl;kernel_rfl;exact rfl)|(apply t_mix (id:=10) [0,1,2,3,4,5,6,7,8,9] 3 #[false,false,false,false,false,false,false,false,false,false,false,false,false];kernel_rfl;kernel_rfl;exact rfl)|(with_reducible apply t_seq)|(apply t_region;kernel_rfl)|((with_reducible apply t_condF);exact rfl)|(with_reducible apply t_ret)|(with_reducible apply t_exit))|with_reducible apply q_thenN|with_reducible apply q_thenE|((with_reducible apply q_blockE);exact rfl)|exact P0|(with_reducible apply P1)|exact Rdn.zero|apply Rdn.succ|((with_reducible apply Norm.nil);exact rfl)|((with_reducible apply Norm.cons);exact rfl)|(with_reducible apply end_ret)|exact rvs_nil|(with_reducible apply rvs_cons)|((with_reducible apply rv_tmp);exact rfl)|((with_reducible apply rv_cellAgg);exact rfl;exact rfl)|((with_reducible apply al_id);first|(apply al_done;decide +kernel)|(apply al_one 10;decide +kernel)|(apply al_one 11;decide +kernel)|(apply al_two 10 11;decide +kernel))|((with_reducible apply al_id);first|(apply al_one 12;decide +kernel))|exact Nat.le_of_ble_eq_true rfl)
     all_goals rfl
   · have hl0:0<R.length:=List.length_pos_iff.2 h0
     unfold partV
     rw [if_neg h0]
     repeat' (first|((with_reducible apply oq_id);first|((with_reducible apply hLk');exact rfl;exact rfl)|((with_reducible apply oq_lssF);exact rfl;exact rfl;omega)|((with_reducible apply oq_gtrT);exact rfl;exact rfl;omega)|(apply oq_fn;exact rfl;first|exact trivial|(and_intros<;>omega)|omega|skip)|((with_reducible apply oq_load);exact rfl;exact rfl)|((with_reducible apply oq_loadAgg);exact rfl;exact rfl)|((with_reducible apply oq_call (hc:=Try.call116));exact rfl;exact rfl;exact fun D w1 hw1=>HO w1)|((with_reducible apply oq_build);(iterate 3 exact rfl)))|((with_reducible apply tl_id);first|(with_reducible apply tl_nil)|((with_reducible apply u_q);(iterate 4 exact rfl)))|((with_reducible apply gx_id);first|(with_reducible apply v_nil)|((with_reducible apply v_q);(iterate 3 exact rfl)))|((with_reducible apply os_id);first|((with_reducible apply os_storeAgg);(iterate 5 exact rfl)))|((with_reducible apply ai_id);first|((with_reducible apply ai_q);(iterate 5 exact rfl))|((with_reducible apply ai_s0);(iterate 4 exact rfl))|((with_reducible apply ai_n0);(iterate 3 exact rfl)))|((with_reducible apply al_keep);focus (repeat (first|exact HpSub.refl _|(apply HpSub.cons;(repeat first|exact P0|apply P1))|apply HpSub.skipX|exact HpSub.nil)))|((with_reducible apply rd_id);first|(apply Rd.own;(repeat first|exact P0|apply P1);exact rfl;done)|(apply Rd.old;(first|(with_reducible assumption)|exact c0|exact c1|exact c2|exact c3|exact c4|exact c5|exact c6|exact c7|exact c8|exact d0|exact d1|exact d2|exact d3|exact d4|exact d5);first|exact List.not_mem_nil|exact m0|exact m1|exact m2|exact m3|exact m4|exact m5|exact m6|exact m7|exact m8|exact m9))|((with_reducible apply t_id);first|(apply t_mix (id:=9) [0,1,2,3,4,5,6,7,8,9] 2 #[false,false,false,false,false,false,false,false,false,false,false,true];kernel_rfl;kernel_rfl;exact rfl)|(apply t_mix (id:=10) [0,1,2,3,4,5,6,7,8,9] 3 #[false,false,false,false,false,false,false,false,false,false,false,false,false];kernel_rfl;kernel_rfl;exact rfl)|(with_reducible apply t_seq)|(apply t_region;kernel_rfl)|((with_reducible apply t_condF);exact rfl)|(with_reducible apply t_ret)|(with_reducible apply t_exit))|with_reducible apply q_thenN|with_reducible apply q_thenE|((with_reducible apply q_blockE);exact rfl)|exact P0|(with_reducible apply P1)|exact Rdn.zero|apply Rdn.succ|((with_reducible apply Norm.nil);exact rfl)|((with_reducible apply Norm.cons);exact rfl)|(with_reducible apply end_ret)|exact rvs_nil|(with_reducible apply rvs_cons)|((with_reducible apply rv_tmp);exact rfl)|((with_reducible apply rv_cellAgg);exact rfl;exact rfl)|((with_reducible apply al_id);first|(apply al_done;decide +kernel)|(apply al_one 10;decide +kernel)|(apply al_one 11;decide +kernel)|(apply al_two 10 11;decide +kernel))|((with_reducible apply al_id);first|(apply al_one 12;decide +kernel))|exact Nat.le_of_ble_eq_true rfl)
     all_goals rfl
theorem part16_calls (AM A:Option Addr) (m cM n cp:Nat) (L:List Lg) (w:World) (hr:RdS w 5 A n (L.map lgCells)) (hn:n≤1000000) (hm:m≤1000000) (v q1 q2 q3 q4 g0 g1:Int) (AC:Option Addr) (nC cC:Nat) (C:List Wn) (hrc:CastR w AC nC C) (hs:∀ z∈C,z.n≤1000000) (i:Int) (bk:Bool) (me:Int):Calls Try.prog 16 #[.agg #[.slice AM m cM,.slice A n cp],.agg #[.int .i64 v,.int .i64 q1,.int .i64 q2,.int .i64 q3,.int .i64 q4,.int .i64 g0,.int .i64 g1],.slice AC nC cC,.int .i64 i,.bool bk,.int .i64 me] w fun e w'=>e=.returned (partR m L v q1 q2 q3 q4 g0 g1 C i bk me)∧Ext w w':=by
 have hl:L.length=n:=by simpa using hr.len
 unfold partR
 by_cases hE:askE m L v q1 q2 q3 q4 g0 g1 C=0
 rotate_left
 · rw [if_neg hE]
   have HN:=fun w1 (hx:Ext w w1)=>open_no AM A m cM n cp L w1 (hr.ext hx) hn hm v q1 q2 q3 q4 g0 g1 AC nC cC C (hrc.ext hx) hs hE
   generalize askE m L v q1 q2 q3 q4 g0 g1 C=e at *
   refine enterQ (c:=cx w 67) Try.func16 rfl rfl rfl rfl ?_
   repeat' (first|((with_reducible apply oq_id);first|((with_reducible apply oq_neqT);exact rfl;exact rfl;omega)|(apply oq_fn;exact rfl;first|exact trivial|(and_intros<;>omega)|omega|skip)|((with_reducible apply oq_loadAgg);exact rfl;exact rfl)|((with_reducible apply oq_call (hc:=Try.call58));exact rfl;exact rfl;exact fun D w1 hw1=>HN w1 hw1.ext.ext)|((with_reducible apply oq_build);(iterate 3 exact rfl)))|((with_reducible apply tl_id);first|(with_reducible apply tl_nil)|((with_reducible apply u_q);(iterate 4 exact rfl))|((with_reducible apply u_s0);exact rfl;exact rfl)|((with_reducible apply u_s);(iterate 3 exact rfl)))|((with_reducible apply os_id);first|((with_reducible apply os_x);exact rfl)|((with_reducible apply os_storeAgg);(iterate 5 exact rfl)))|((with_reducible apply ox_id);first|((with_reducible apply ox_alloc);exact rfl;intro _)|((with_reducible apply ox_boxAgg);exact rfl;intro _))|((with_reducible apply rd_id);first|(apply Rd.own;(repeat first|exact P0|apply P1);exact rfl;done))|((with_reducible apply t_id);first|(with_reducible apply t_seq)|(apply t_region;kernel_rfl)|((with_reducible apply t_condT);exact rfl)|(with_reducible apply t_ret))|with_reducible apply q_thenN|with_reducible apply q_thenR|exact P0|(with_reducible apply P1)|exact Rdn.zero|apply Rdn.succ|((with_reducible apply Norm.nil);exact rfl)|((with_reducible apply Norm.cons);exact rfl)|(with_reducible apply end_ret)|exact rvs_nil|(with_reducible apply rvs_cons)|((with_reducible apply rv_tmp);exact rfl)|((with_reducible apply rv_cellAgg);exact rfl;exact rfl)|exact Nat.le_of_ble_eq_true rfl)
   all_goals rfl
 rw [if_pos hE]
 have HO:=fun w1 (hx:Ext w w1)=>open_ok AM A m cM n cp L w1 (hr.ext hx) hn hm v q1 q2 q3 q4 g0 g1 AC nC cC C (hrc.ext hx) hs hE
 obtain ⟨hch,hpk,hk0⟩:=askE_ok hE
 obtain ⟨hcl,hcw⟩:=castE_zero.1 hk0
 have hlc:=hrc.len
 clear hE
 by_cases hi:0≤i∧i≤(L.length:Int)-1
 rotate_left
 · rw [if_neg hi]
   refine enterQ (c:=cx w 67) Try.func16 rfl rfl rfl rfl ?_
   repeat' (first|((with_reducible apply oq_id);first|(focus ((with_reducible apply (oq_subE (k:=(n:Int)-1)));exact rfl;exact rfl;omega))|((with_reducible apply oq_neqF);exact rfl;exact rfl;omega)|(apply oq_fn;exact rfl;first|exact trivial|(and_intros<;>omega)|omega|skip)|((with_reducible apply oq_load);exact rfl;exact rfl)|((with_reducible apply oq_loadAgg);exact rfl;exact rfl)|((with_reducible apply oq_call (hc:=Try.call45));exact rfl;exact rfl;(intro D w1 hw1;refine rfrom1_f ?_ hw1 (by (repeat first|exact P0|apply P1));omega))|((with_reducible apply oq_build);(iterate 3 exact rfl)))|((with_reducible apply tl_id);first|(with_reducible apply tl_nil)|((with_reducible apply u_s);(iterate 3 exact rfl);(with_reducible apply os_callS (PV:=DskV AM _ m cM n cp v q1 q2 q3 q4 g0 g1 C L) (hc:=Try.call58));exact rfl;exact rfl;exact fun D w1 hw1=>HO w1 hw1.ext.ext;rintro _ _ ⟨bD,bM,E,rfl,rfl,hE2,hnl⟩;simp only [dkH,List.cons_append,List.nil_append])|((with_reducible apply u_q);(iterate 4 exact rfl))|((with_reducible apply u_s0);exact rfl;exact rfl)|((with_reducible apply u_s);(iterate 3 exact rfl))|((with_reducible apply u_skip);(iterate 3 exact rfl)))|((with_reducible apply os_id);first|((with_reducible apply os_x);exact rfl)|((with_reducible apply os_storeAgg);(iterate 5 exact rfl)))|((with_reducible apply ox_id);first|((with_reducible apply ox_alloc);exact rfl;intro _)|((with_reducible apply ox_boxAgg);exact rfl;intro _)|((with_reducible apply ox_buildSlice1);(iterate 6 exact rfl);intro _))|((with_reducible apply rd_id);first|(apply Rd.own;(repeat first|exact P0|apply P1);exact rfl;done))|((with_reducible apply t_id);first|(with_reducible apply t_seq)|(apply t_region;kernel_rfl)|((with_reducible apply t_condT);exact rfl)|((with_reducible apply t_condF);exact rfl)|(with_reducible apply t_ret)|(with_reducible apply t_skip))|with_reducible apply q_thenN|with_reducible apply q_thenR|exact P0|(with_reducible apply P1)|exact Rdn.zero|apply Rdn.succ|((with_reducible apply Norm.nil);exact rfl)|((with_reducible apply Norm.cons);exact rfl)|(with_reducible apply end_ret)|exact rvs_nil|(with_reducible apply rvs_cons)|((with_reducible apply rv_tmp);exact rfl)|((with_reducible apply rv_cellAgg);exact rfl;exact rfl)|exact Nat.le_of_ble_eq_true rfl)
   all_goals rfl
 rw [if_pos hi]
 obtain ⟨j,rfl⟩:=Int.eq_ofNat_of_zero_le hi.1
 obtain ⟨bA,oA,z,rfl,_,hz,c0,c1,c2,c3,c4⟩:=lg_read hr (show j<n by omega)
 obtain ⟨_,_,_,kx,ky,kz,kh⟩:=(chartB_iff.1 hch).2.2 z (List.mem_of_getElem? hz)
 have HL:=fun w1=>length_calls z.a z.b z.x z.y z.h kx ky w1
 have lb:=lenV_bound kx ky
 rw [Int.toNat_natCast,hz]
 simp only
 by_cases hme:0≤me∧me≤lenV z.x z.y
 rotate_left
 · rw [if_neg hme]
   refine enterQ (c:=cx w 67) Try.func16 rfl rfl rfl rfl ?_
   repeat' (first|((with_reducible apply oq_id);first|(focus ((with_reducible apply (oq_subE (k:=(n:Int)-1)));exact rfl;exact rfl;omega))|(focus ((with_reducible apply oq_indexAddrN (i:=j));(iterate 4 exact rfl);omega))|((with_reducible apply oq_neqF);exact rfl;exact rfl;omega)|(apply oq_fn;exact rfl;first|exact trivial|(and_intros<;>omega)|omega|skip)|((with_reducible apply oq_load);exact rfl;exact rfl)|((with_reducible apply oq_loadAgg);exact rfl;exact rfl)|((with_reducible apply oq_call (hc:=Try.call45));exact rfl;exact rfl;(intro D w1 hw1;refine rfrom1_t ?_ hw1 (by (repeat first|exact P0|apply P1));omega))|((with_reducible apply oq_call (hc:=Try.call45));exact rfl;exact rfl;(intro D w1 hw1;refine rfrom1_f ?_ hw1 (by (repeat first|exact P0|apply P1));omega))|((with_reducible apply oq_call (hc:=Try.call55));exact rfl;exact rfl;exact fun D w1 hw1=>HL w1)|((with_reducible apply oq_build);(iterate 3 exact rfl)))|((with_reducible apply tl_id);first|(with_reducible apply tl_nil)|((with_reducible apply u_s);(iterate 3 exact rfl);(with_reducible apply os_callS (PV:=DskV AM _ m cM n cp v q1 q2 q3 q4 g0 g1 C L) (hc:=Try.call58));exact rfl;exact rfl;exact fun D w1 hw1=>HO w1 hw1.ext.ext;rintro _ _ ⟨bD,bM,E,rfl,rfl,hE2,hnl⟩;simp only [dkH,List.cons_append,List.nil_append])|((with_reducible apply u_q);(iterate 4 exact rfl))|((with_reducible apply u_s0);exact rfl;exact rfl)|((with_reducible apply u_s);(iterate 3 exact rfl)))|((with_reducible apply os_id);first|((with_reducible apply os_x);exact rfl)|((with_reducible apply os_storeAgg);(iterate 5 exact rfl)))|((with_reducible apply ox_id);first|((with_reducible apply ox_alloc);exact rfl;intro _)|((with_reducible apply ox_boxAgg);exact rfl;intro _)|((with_reducible apply ox_buildSlice1);(iterate 6 exact rfl);intro _))|((with_reducible apply rd_id);first|(apply Rd.own;(repeat first|exact P0|apply P1);exact rfl;done)|(apply Rd.old;(first|(with_reducible assumption)|exact c0|exact c1|exact c2|exact c3|exact c4|exact c5|exact c6|exact c7|exact c8|exact d0|exact d1|exact d2|exact d3|exact d4|exact d5);first|exact List.not_mem_nil|exact m0|exact m1|exact m2|exact m3|exact m4|exact m5|exact m6|exact m7|exact m8|exact m9))|((with_reducible apply t_id);first|(with_reducible apply t_seq)|(apply t_region;kernel_rfl)|((with_reducible apply t_condT);exact rfl)|((with_reducible apply t_condF);exact rfl)|(with_reducible apply t_ret)|(with_reducible apply t_skip))|with_reducible apply q_thenN|with_reducible apply q_thenR|exact P0|(with_reducible apply P1)|exact Rdn.zero|apply Rdn.succ|((with_reducible apply Norm.nil);exact rfl)|((with_reducible apply Norm.cons);exact rfl)|(with_reducible apply end_ret)|exact rvs_nil|(with_reducible apply rvs_cons)|((with_reducible apply rv_tmp);exact rfl)|((with_reducible apply rv_cellAgg);exact rfl;exact rfl)|exact Nat.le_of_ble_eq_true rfl)
   all_goals rfl
 rw [if_pos hme]
 obtain ⟨me,rfl⟩:=Int.eq_ofNat_of_zero_le hme.1
 obtain ⟨pv,_,_,_,_,kg⟩:=id hpk
 obtain ⟨g0,rfl⟩:=Int.eq_ofNat_of_zero_le kg.1
 obtain ⟨g1,rfl⟩:=Int.eq_ofNat_of_zero_le (show 0≤g1 by omega)
 simp only [Int.toNat_natCast]
 obtain ⟨hR,hRl⟩:=legRz_ok (z:=z) (bk:=bk) hcw hpk kh ⟨kx,ky,kz⟩
 have hP59:=fun bD bM E w1 hd hE2=>part59_calls bD bM AM (some ⟨bA,oA,none⟩) m cM n cp v q1 q2 q3 q4 g0 g1 E C L j n z me bk w1 hd hE2 (by omega) hz hR (by omega) (by omega) (by omega)
 unfold fullV
 unfold partV fk at hP59
 generalize legRz v q1 q2 q3 z bk C=R at *
 by_cases hR:R=[]
 · rw [if_pos hR]
   simp only [if_pos hR] at hP59
   refine enterQ (c:=cx w 67) Try.func16 rfl rfl rfl rfl ?_
   repeat' (first|((with_reducible apply oq_id);first|(focus ((with_reducible apply (oq_subE (k:=(n:Int)-1)));exact rfl;exact rfl;omega))|(focus ((with_reducible apply oq_indexAddrN (i:=j));(iterate 4 exact rfl);omega))|((with_reducible apply oq_neqF);exact rfl;exact rfl;omega)|(apply oq_fn;exact rfl;first|exact trivial|(and_intros<;>omega)|omega|skip)|((with_reducible apply oq_load);exact rfl;exact rfl)|((with_reducible apply oq_loadAgg);exact rfl;exact rfl)|((with_reducible apply oq_call (hc:=Try.call45));exact rfl;exact rfl;(intro D w1 hw1;refine rfrom1_t ?_ hw1 (by (repeat first|exact P0|apply P1));omega))|((with_reducible apply oq_call (hc:=Try.call55));exact rfl;exact rfl;exact fun D w1 hw1=>HL w1)|((with_reducible apply oq_call (hc:=Try.call59));exact rfl;exact rfl;exact fun D w1 hw1=>hP59 bD bM E w1 (DskR.of_has (hw1.sub (by unfold dkH dkC;(repeat' (first|exact FrSub.nil|(apply FrSub.cons;exact rfl)|exact HpSub.refl _|(apply HpSub.consE;(repeat first|exact P0|apply P1);exact rfl)|apply HpSub.skipX|apply HpSub.skipX|exact HpSub.nil)))) hnl) hE2)|((with_reducible apply oq_build);(iterate 3 exact rfl)))|((with_reducible apply tl_id);first|(with_reducible apply tl_nil)|((with_reducible apply u_s);(iterate 3 exact rfl);(with_reducible apply os_callS (PV:=DskV AM _ m cM n cp v q1 q2 q3 q4 g0 g1 C L) (hc:=Try.call58));exact rfl;exact rfl;exact fun D w1 hw1=>HO w1 hw1.ext.ext;rintro _ _ ⟨bD,bM,E,rfl,rfl,hE2,hnl⟩;simp only [dkH,List.cons_append,List.nil_append])|((with_reducible apply u_q);(iterate 4 exact rfl))|((with_reducible apply u_s0);exact rfl;exact rfl)|((with_reducible apply u_s);(iterate 3 exact rfl)))|((with_reducible apply os_id);first|((with_reducible apply os_x);exact rfl)|((with_reducible apply os_storeAgg);(iterate 5 exact rfl)))|((with_reducible apply ox_id);first|((with_reducible apply ox_alloc);exact rfl;intro _)|((with_reducible apply ox_boxAgg);exact rfl;intro _)|((with_reducible apply ox_buildSlice1);(iterate 6 exact rfl);intro _))|((with_reducible apply rd_id);first|(apply Rd.own;(repeat first|exact P0|apply P1);exact rfl;done)|(apply Rd.old;(first|(with_reducible assumption)|exact c0|exact c1|exact c2|exact c3|exact c4|exact c5|exact c6|exact c7|exact c8|exact d0|exact d1|exact d2|exact d3|exact d4|exact d5);first|exact List.not_mem_nil|exact m0|exact m1|exact m2|exact m3|exact m4|exact m5|exact m6|exact m7|exact m8|exact m9))|((with_reducible apply t_id);first|(with_reducible apply t_seq)|(apply t_region;kernel_rfl)|((with_reducible apply t_condT);exact rfl)|((with_reducible apply t_condF);exact rfl)|(with_reducible apply t_ret)|(with_reducible apply t_skip))|with_reducible apply q_thenN|with_reducible apply q_thenR|exact P0|(with_reducible apply P1)|exact Rdn.zero|apply Rdn.succ|((with_reducible apply Norm.nil);exact rfl)|((with_reducible apply Norm.cons);exact rfl)|(with_reducible apply end_ret)|exact rvs_nil|(with_reducible apply rvs_cons)|((with_reducible apply rv_tmp);exact rfl)|((with_reducible apply rv_cellAgg);exact rfl;exact rfl)|exact Nat.le_of_ble_eq_true rfl)
   all_goals rfl
 · rw [if_neg hR]
   simp only [if_neg hR] at hP59
   refine enterQ (c:=cx w 67) Try.func16 rfl rfl rfl rfl ?_
   repeat' (first|((with_reducible apply oq_id);first|(focus ((with_reducible apply (oq_subE (k:=(n:Int)-1)));exact rfl;exact rfl;omega))|(focus ((with_reducible apply oq_indexAddrN (i:=j));(iterate 4 exact rfl);omega))|((with_reducible apply oq_neqF);exact rfl;exact rfl;omega)|(apply oq_fn;exact rfl;first|exact trivial|(and_intros<;>omega)|omega|skip)|((with_reducible apply oq_load);exact rfl;exact rfl)|((with_reducible apply oq_loadAgg);exact rfl;exact rfl)|((with_reducible apply oq_call (hc:=Try.call45));exact rfl;exact rfl;(intro D w1 hw1;refine rfrom1_t ?_ hw1 (by (repeat first|exact P0|apply P1));omega))|((with_reducible apply oq_call (hc:=Try.call55));exact rfl;exact rfl;exact fun D w1 hw1=>HL w1)|((with_reducible apply oq_call (hc:=Try.call59));exact rfl;exact rfl;exact fun D w1 hw1=>hP59 bD bM E w1 (DskR.of_has (hw1.sub (by unfold dkH dkC;(repeat' (first|exact FrSub.nil|(apply FrSub.cons;exact rfl)|exact HpSub.refl _|(apply HpSub.consE;(repeat first|exact P0|apply P1);exact rfl)|apply HpSub.skipX|apply HpSub.skipX|exact HpSub.nil)))) hnl) hE2)|((with_reducible apply oq_build);(iterate 3 exact rfl)))|((with_reducible apply tl_id);first|(with_reducible apply tl_nil)|((with_reducible apply u_s);(iterate 3 exact rfl);(with_reducible apply os_callS (PV:=DskV AM _ m cM n cp v q1 q2 q3 q4 g0 g1 C L) (hc:=Try.call58));exact rfl;exact rfl;exact fun D w1 hw1=>HO w1 hw1.ext.ext;rintro _ _ ⟨bD,bM,E,rfl,rfl,hE2,hnl⟩;simp only [dkH,List.cons_append,List.nil_append])|((with_reducible apply u_q);(iterate 4 exact rfl))|((with_reducible apply u_s0);exact rfl;exact rfl)|((with_reducible apply u_s);(iterate 3 exact rfl)))|((with_reducible apply gx_id);first|(with_reducible apply v_nil)|((with_reducible apply v_q);(iterate 3 exact rfl)))|((with_reducible apply os_id);first|((with_reducible apply os_x);exact rfl)|((with_reducible apply os_storeAgg);(iterate 5 exact rfl)))|((with_reducible apply ox_id);first|((with_reducible apply ox_alloc);exact rfl;intro _)|((with_reducible apply ox_boxAgg);exact rfl;intro _)|((with_reducible apply ox_buildSlice1);(iterate 6 exact rfl);intro _))|((with_reducible apply ai_id);first|((with_reducible apply ai_q);(iterate 5 exact rfl))|((with_reducible apply ai_n0);(iterate 3 exact rfl)))|((with_reducible apply al_keep);focus (repeat (first|exact HpSub.refl _|(apply HpSub.cons;(repeat first|exact P0|apply P1))|apply HpSub.skipX|exact HpSub.nil)))|((with_reducible apply rd_id);first|(apply Rd.own;(repeat first|exact P0|apply P1);exact rfl;done)|(apply Rd.old;(first|(with_reducible assumption)|exact c0|exact c1|exact c2|exact c3|exact c4|exact c5|exact c6|exact c7|exact c8|exact d0|exact d1|exact d2|exact d3|exact d4|exact d5);first|exact List.not_mem_nil|exact m0|exact m1|exact m2|exact m3|exact m4|exact m5|exact m6|exact m7|exact m8|exact m9))|((with_reducible apply t_id);first|(apply t_mix (id:=9) [0,1] 3 #[false,false,false,false,false];kernel_rfl;kernel_rfl;exact rfl)|(with_reducible apply t_seq)|(apply t_region;kernel_rfl)|((with_reducible apply t_condF);exact rfl)|(with_reducible apply t_ret)|(with_reducible apply t_skip))|with_reducible apply q_thenN|exact P0|(with_reducible apply P1)|exact Rdn.zero|apply Rdn.succ|((with_reducible apply Norm.nil);exact rfl)|((with_reducible apply Norm.cons);exact rfl)|(with_reducible apply end_ret)|exact rvs_nil|(with_reducible apply rvs_cons)|((with_reducible apply rv_tmp);exact rfl)|((with_reducible apply rv_cellAgg);exact rfl;exact rfl)|((with_reducible apply al_id);first|(apply al_done;decide +kernel)|(apply al_one 2;decide +kernel)|(apply al_one 3;decide +kernel)|(apply al_one 4;decide +kernel))|exact Nat.le_of_ble_eq_true rfl)
   all_goals rfl
section
variable {c:Cx} {S:WS c.P} {Q:QS} {F:Fr} {H:Hp} {x:Code}
theorem t_loopP {ι:Type} (keep:List Nat) (ch:ι→Fr) (hc:ι→Hp) (Pi:ι→Prop) (μ:ι→Nat) (i0:ι) {G:Fr} (hK:KeepF F keep G) (hF:FrSub F (ch i0)) (hH:HpSub H (hc i0)) (h0:Pi i0)
   (h:∀ i,Pi i→T c S x (thenQ (fun F' H'=>∃ j,Pi j∧μ j<μ i∧FrSub F' (ch j++G)∧HpSub H' (hc j)) Q) (ch i++G) (hc i)):T c S (.loop x) Q F H:=
 t_loop (fun i=>ch i++G) hc Pi μ i0 h0 (hF.append hK.sub) hH h
end
theorem oq_quoL {c:Cx} {F:Fr} {H:Hp} {d:Option Tmp} {ty t t':TypeId} {pos:String} {af:Array Edge} {g:Option (Nat×Bool)} {x y:Operand} {m n k:Int} (hx:ev F x=some (.int .i64 m)) (hy:ev F y=some (.int .i64 n)) (e:m.tdiv n=k∧n≠0∧-9223372036854775808≤k∧k≤9223372036854775807):OQ c ⟨d,.binOp .quo t x y t',ty,pos,af,g⟩ F H (.int .i64 k):=
 (oq_quo hx hy e.2.1 (by rw [e.1];exact ⟨e.2.2.1,e.2.2.2⟩)).as (by rw [e.1])
noncomputable def trkF (m:Nat) (L:List Lg) (v q1 q2 q3 q4 g0 g1:Int) (C:List Wn) (at_ i:Int):Option (Int×Int):=
 if chartB m L=true∧0≤i∧i≤(L.length:Int)-1 then (match L[i.toNat]? with
   | none=>none
   | some z=>if z.a≠at_∧z.b≠at_ then none else if askE m L v q1 q2 q3 q4 g0 g1 C≠0 then none else if legRz v q1 q2 q3 z (decide (z.b=at_)) C=[] then none else some ((((hullT (lenV z.x z.y).toNat (legRz v q1 q2 q3 z (decide (z.b=at_)) C)).2:Nat):Int),z.a+z.b-at_)) else none
noncomputable def lasS (m:Nat) (L:List Lg) (v q1 q2 q3 q4 g0 g1:Int) (C:List Wn) (s:Int) (l:List Int):Nat→Option (Int×Int)
 | 0=>some (0,s)
 | k+1=>match lasS m L v q1 q2 q3 q4 g0 g1 C s l k with
   | none=>none
   | some (sum,at_)=>match l[k]? with
     | none=>none
     | some i=>match trkF m L v q1 q2 q3 q4 g0 g1 C at_ i with
       | none=>none
       | some r=>some (sum+r.1,r.2)
noncomputable def lasV (m:Nat) (L:List Lg) (v q1 q2 q3 q4 g0 g1:Int) (C:List Wn) (s:Int) (l:List Int):Int×Bool:=match lasS m L v q1 q2 q3 q4 g0 g1 C s l l.length with
 | none=>(0,false)
 | some (sum,_)=>((sum+59).tdiv 60,true)
section
variable {m:Nat} {L:List Lg} {v q1 q2 q3 q4 g0 g1:Int} {C:List Wn} {s:Int} {l:List Int}
theorem lasS_none {k:Nat} (h:lasS m L v q1 q2 q3 q4 g0 g1 C s l k=none):∀ j,k≤j→lasS m L v q1 q2 q3 q4 g0 g1 C s l j=none
 | 0, hj => by obtain rfl : k = 0 := by omega
               exact h
 | j+1,hj=>by
   rcases Nat.lt_or_ge j k with h1|h1
   · obtain rfl:k=j+1:=by omega
     exact h
   · unfold lasS
     rw [lasS_none h j h1]
theorem lasS_next {k:Nat} {sum at_ i:Int} (h:lasS m L v q1 q2 q3 q4 g0 g1 C s l k=some (sum,at_)) (hi:l[k]?=some i):lasS m L v q1 q2 q3 q4 g0 g1 C s l (k+1)=match trkF m L v q1 q2 q3 q4 g0 g1 C at_ i with|none=>none|some r=>some (sum+r.1,r.2):=by
 rw [lasS,h]
 simp only [hi]
theorem lasV_no {k:Nat} {sum at_ i:Int} (h:lasS m L v q1 q2 q3 q4 g0 g1 C s l k=some (sum,at_)) (hi:l[k]?=some i) (hn:trkF m L v q1 q2 q3 q4 g0 g1 C at_ i=none):lasV m L v q1 q2 q3 q4 g0 g1 C s l=(0,false):=by
 have hk:=(List.getElem?_eq_some_iff.1 hi).1
 have h1:=lasS_next h hi
 rw [hn] at h1
 unfold lasV
 rw [lasS_none h1 l.length (by omega)]
theorem trkF_at {j:Nat} {z:Lg} {at_:Int} (hc:chartB m L=true) (hz:L[j]?=some z):trkF m L v q1 q2 q3 q4 g0 g1 C at_ (j:Int)=if z.a≠at_∧z.b≠at_ then none else if askE m L v q1 q2 q3 q4 g0 g1 C≠0 then none else if legRz v q1 q2 q3 z (decide (z.b=at_)) C=[] then none else some ((((hullT (lenV z.x z.y).toNat (legRz v q1 q2 q3 z (decide (z.b=at_)) C)).2:Nat):Int),z.a+z.b-at_):=by
 have:=(List.getElem?_eq_some_iff.1 hz).1
 unfold trkF
 rw [if_pos ⟨hc,by omega,by omega⟩,Int.toNat_natCast,hz]
theorem partR_at {j:Nat} {z:Lg} {bk:Bool} (hc:chartB m L=true) (hz:L[j]?=some z):partR m L v q1 q2 q3 q4 g0 g1 C (j:Int) bk (lenV z.x z.y)=if askE m L v q1 q2 q3 q4 g0 g1 C=0 then fullV (legRz v q1 q2 q3 z bk C) (lenV z.x z.y).toNat g0.toNat g1.toNat else no3 (askE m L v q1 q2 q3 q4 g0 g1 C):=by
 have:=(List.getElem?_eq_some_iff.1 hz).1
 obtain ⟨_,_,hL⟩:=chartB_iff.1 hc
 obtain ⟨_,_,_,kx,ky,_⟩:=hL z (List.mem_of_getElem? hz)
 have hb:=lenV_bound kx ky
 unfold partR
 split
 · rw [if_pos (by omega),Int.toNat_natCast,hz]
   simp only
   rw [if_pos ⟨hb.1,Int.le_refl _⟩]
 · rfl
theorem lasV_bound (hl:l.length≤20):0≤(lasV m L v q1 q2 q3 q4 g0 g1 C s l).1∧(lasV m L v q1 q2 q3 q4 g0 g1 C s l).1≤4000000:=by
 have hk:∀ k sum at_,lasS m L v q1 q2 q3 q4 g0 g1 C s l k=some (sum,at_)→0≤sum∧sum≤10000000*k:=by
   intro k
   induction k with
   | zero=>intro sum at_ h;obtain ⟨rfl,rfl⟩:=Prod.mk.inj (Option.some.inj h);omega
   | succ k ih=>
     intro sum at_ h
     unfold lasS at h
     split at h
     · cases h
     rename_i sum' at' h'
     have:=ih _ _ h'
     split at h
     · cases h
     split at h
     · cases h
     rename_i r hr
     obtain ⟨rfl,rfl⟩:=Prod.mk.inj (Option.some.inj h)
     unfold trkF at hr
     split at hr
     rotate_left
     · cases hr
     rename_i hc
     split at hr
     · cases hr
     rename_i z hz
     split at hr
     · cases hr
     split at hr
     · cases hr
     rename_i hE
     split at hr
     · cases hr
     obtain rfl:=Option.some.inj hr
     obtain ⟨hch,hpk,hk0⟩:=askE_ok (Classical.not_not.1 hE)
     obtain ⟨_,_,_,kx,ky,kz,kh⟩:=(chartB_iff.1 hch).2.2 z (List.mem_of_getElem? hz)
     obtain ⟨hR,_⟩:=legRz_ok (z:=z) (bk:=decide (z.b=at')) (castE_zero.1 hk0).2 hpk kh ⟨kx,ky,kz⟩
     have hb:=lenV_bound kx ky
     have:=(hullT_bound (m:=(lenV z.x z.y).toNat) (by omega) _ hR).2
     simp only
     omega
 unfold lasV
 split
 · exact ⟨by decide,by decide⟩
 · rename_i sum at_ h
   have:=hk _ _ _ h
   simp only
   rw [Int.tdiv_eq_ediv_of_nonneg (by omega)]
   omega
end
theorem lasts_calls (AM A:Option Addr) (m cM n cp:Nat) (L:List Lg) (w:World) (hr:RdS w 5 A n (L.map lgCells)) (hn:n≤1000000) (hm:m≤1000000) (v q1 q2 q3 q4 g0 g1:Int) (AC:Option Addr) (nC cC:Nat) (C:List Wn) (hrc:CastR w AC nC C) (hs:∀ z∈C,z.n≤1000000) (s:Int) (AL:Option Addr) (nl cl:Nat) (l:List Int) (hl:RdS w 1 AL nl (l.map inCells)) (hnl:nl≤20):Calls Try.prog 35 #[.agg #[.slice AM m cM,.slice A n cp],.agg #[.int .i64 v,.int .i64 q1,.int .i64 q2,.int .i64 q3,.int .i64 q4,.int .i64 g0,.int .i64 g1],.slice AC nC cC,.int .i64 s,.slice AL nl cl] w fun e w'=>e=.returned (.tuple #[.int .i64 (lasV m L v q1 q2 q3 q4 g0 g1 C s l).1,.bool (lasV m L v q1 q2 q3 q4 g0 g1 C s l).2])∧Ext w w':=by
 have hll:l.length=nl:=by simpa using hl.len
 have hLl:L.length=n:=by simpa using hr.len
 refine enterQ (c:=cx w 110) Try.func35 rfl rfl rfl rfl ?_
 refine t_cut (ι:=Nat×Nat) (fun z=>[(3,.int .i64 s),(2,.slice AC nC cC),(4,.slice AL nl cl),(5,.pointer (some ⟨z.1,0,none⟩)),(6,.pointer (some ⟨z.2,0,none⟩))]) (fun z=>(z.1,[.slice AM m cM,.slice A n cp],some (37,2,1))::(z.2,[.int .i64 v,.int .i64 q1,.int .i64 q2,.int .i64 q3,.int .i64 q4,.int .i64 g0,.int .i64 g1],some (41,7,1))::[]) (fun z=>True) ?_ ?_
 · repeat' (first|((with_reducible apply oq_id);first|(apply oq_fn;exact rfl;first|exact trivial|(and_intros<;>omega)|omega|skip))|((with_reducible apply tl_id);first|(with_reducible apply tl_nil)|((with_reducible apply u_q);(iterate 4 exact rfl))|((with_reducible apply u_s);(iterate 3 exact rfl)))|((with_reducible apply os_id);first|((with_reducible apply os_x);exact rfl))|((with_reducible apply ox_id);first|((with_reducible apply ox_boxAgg);exact rfl;intro _))|((with_reducible apply t_id);first|(apply t_region;kernel_rfl)))
   all_goals (rename_i bX bY;first|exact ⟨by trivial,(bX,bY),trivial,by (repeat' (first|exact FrSub.nil|(apply FrSub.cons;exact rfl))),by (repeat' (first|exact HpSub.refl _|(apply HpSub.consE;(repeat first|exact P0|apply P1);first|exact rfl|(simp;done))))⟩|exact ⟨by trivial,(bY,bX),trivial,by (repeat' (first|done)),by (repeat' (first|done))⟩)
 rintro ⟨b5,b6⟩ -
 try dsimp only
 repeat' (first|((with_reducible apply oq_id);first|(apply oq_fn;exact rfl;first|exact trivial|(and_intros<;>omega)|omega|skip))|((with_reducible apply tl_id);first|(with_reducible apply tl_nil)|((with_reducible apply u_q);(iterate 4 exact rfl)))|((with_reducible apply t_id);first|(with_reducible apply t_seq)|(apply t_region;kernel_rfl)|(with_reducible apply t_block))|with_reducible apply q_thenN)
 apply t_loopP (ι:=Nat×Int×Int) [2,4,5,6,22,23] (fun z=>[(12,.int .i64 z.2.1),(13,.int .i64 z.2.2),(24,.int .i64 ((z.1:Nat):Int))]) (fun _=>(b5,[.slice AM m cM,.slice A n cp],some (37,2,1))::(b6,[.int .i64 v,.int .i64 q1,.int .i64 q2,.int .i64 q3,.int .i64 q4,.int .i64 g0,.int .i64 g1],some (41,7,1))::[]) (fun z=>z.1≤nl∧lasS m L v q1 q2 q3 q4 g0 g1 C s l z.1=some (z.2.1,z.2.2)∧0≤z.2.1∧z.2.1≤10000000*z.1) (fun z=>nl-z.1) (0,0,s)
 (repeat (first|exact KeepF.nil|(apply KeepF.cons;exact rfl)|apply KeepF.skip))
 (repeat first|exact FrSub.nil|(apply FrSub.cons;exact rfl))
 (try simp only [List.cons_append,List.nil_append])
 (repeat' (first|exact HpSub.refl _))
 · exact ⟨Nat.zero_le _,rfl,Int.le_refl _,by simp⟩
 rintro ⟨k,sum,at_⟩ ⟨hk,hls,hs0,hs1⟩
 simp only at hk hls hs0 hs1
 try simp only [List.cons_append,List.nil_append]
 by_cases hkn:k<nl
 rotate_left
 · obtain rfl:k=nl:=by omega
   have hv:lasV m L v q1 q2 q3 q4 g0 g1 C s l=((sum+59).tdiv 60,true):=by
     unfold lasV
     rw [hll,hls]
   rw [hv]
   have hdv:(sum+59).tdiv 60=(sum+59) / 60:=Int.tdiv_eq_ediv_of_nonneg (by omega)
   repeat' (first|((with_reducible apply oq_id);first|(focus ((with_reducible apply (oq_quoL (k:=(sum+59).tdiv 60)));exact rfl;exact rfl;exact ⟨rfl,by decide,by omega,by omega⟩))|(focus ((with_reducible apply (oq_addE (k:=sum+59)));exact rfl;exact rfl;omega))|((with_reducible apply oq_lssF);exact rfl;exact rfl;omega)|(apply oq_fn;exact rfl;first|exact trivial|(and_intros<;>omega)|omega|skip))|((with_reducible apply tl_id);first|(with_reducible apply tl_nil)|((with_reducible apply u_q);(iterate 4 exact rfl)))|((with_reducible apply t_id);first|(with_reducible apply t_seq)|(apply t_region;kernel_rfl)|((with_reducible apply t_condF);exact rfl)|(with_reducible apply t_ret)|(with_reducible apply t_exit))|with_reducible apply q_thenN|with_reducible apply q_thenE|((with_reducible apply q_blockE);exact rfl)|(with_reducible apply end_ret)|exact rvs_nil|(with_reducible apply rvs_cons)|((with_reducible apply rv_tmp);exact rfl))
   all_goals rfl
 obtain ⟨bl,ol,i,rfl,_,hi,c0⟩:=in_read hl hkn
 have hno:=fun h=>lasV_no hls hi h
 obtain ⟨R,hR⟩:∃ R,lasV m L v q1 q2 q3 q4 g0 g1 C s l=R:=⟨_,rfl⟩
 rw [hR] at hno ⊢
 have HLn:=fun w1 (hx:Ext w w1)=>routeLength_calls AM A m cM n cp L w1 (hr.ext hx) hn hm i
 refine t_cut (ι:=Unit) (fun _=>[(2,.slice AC nC cC),(4,.slice (some ⟨bl,ol,none⟩) nl cl),(5,.pointer (some ⟨b5,0,none⟩)),(6,.pointer (some ⟨b6,0,none⟩)),(22,.slice (some ⟨bl,ol,none⟩) nl cl),(23,.int .i64 ((nl:Nat):Int)),(24,.int .i64 ((k:Nat):Int)),(12,.int .i64 sum),(13,.int .i64 at_),(25,.bool true)]) (fun _=>(b5,[.slice AM m cM,.slice A n cp],some (37,2,1))::(b6,[.int .i64 v,.int .i64 q1,.int .i64 q2,.int .i64 q3,.int .i64 q4,.int .i64 g0,.int .i64 g1],some (41,7,1))::[]) (fun _=>True) ?_ ?_
 · repeat' (first|((with_reducible apply oq_id);first|((with_reducible apply oq_lssT);exact rfl;exact rfl;omega))|((with_reducible apply tl_id);first|(with_reducible apply tl_nil)|((with_reducible apply u_q);(iterate 4 exact rfl)))|((with_reducible apply t_id);first|(apply t_region;kernel_rfl)))
   all_goals exact ⟨by trivial,(),trivial,by (repeat' (first|exact FrSub.nil|(apply FrSub.cons;exact rfl))),by (repeat' (first|exact HpSub.refl _))⟩
 rintro ⟨⟩ -
 try dsimp only
 refine t_cut (ι:=Unit) (fun _=>[(2,.slice AC nC cC),(4,.slice (some ⟨bl,ol,none⟩) nl cl),(5,.pointer (some ⟨b5,0,none⟩)),(6,.pointer (some ⟨b6,0,none⟩)),(22,.slice (some ⟨bl,ol,none⟩) nl cl),(23,.int .i64 ((nl:Nat):Int)),(24,.int .i64 ((k:Nat):Int)),(12,.int .i64 sum),(13,.int .i64 at_)]) (fun _=>(b5,[.slice AM m cM,.slice A n cp],some (37,2,1))::(b6,[.int .i64 v,.int .i64 q1,.int .i64 q2,.int .i64 q3,.int .i64 q4,.int .i64 g0,.int .i64 g1],some (41,7,1))::[]) (fun _=>True) ?_ ?_
 · repeat' (first|((with_reducible apply t_id);first|((with_reducible apply t_condT);exact rfl)|(with_reducible apply t_skip)))
   all_goals exact ⟨by trivial,(),trivial,by (repeat' (first|exact FrSub.nil|(apply FrSub.cons;exact rfl))),by (repeat' (first|exact HpSub.refl _))⟩
 rintro ⟨⟩ -
 try dsimp only
 with_reducible apply t_seq
 with_reducible apply t_block
 refine t_cut (ι:=Unit) (fun _=>[(2,.slice AC nC cC),(4,.slice (some ⟨bl,ol,none⟩) nl cl),(5,.pointer (some ⟨b5,0,none⟩)),(6,.pointer (some ⟨b6,0,none⟩)),(22,.slice (some ⟨bl,ol,none⟩) nl cl),(23,.int .i64 ((nl:Nat):Int)),(24,.int .i64 ((k:Nat):Int)),(12,.int .i64 sum),(13,.int .i64 at_),(15,.int .i64 i)]) (fun _=>(b5,[.slice AM m cM,.slice A n cp],some (37,2,1))::(b6,[.int .i64 v,.int .i64 q1,.int .i64 q2,.int .i64 q3,.int .i64 q4,.int .i64 g0,.int .i64 g1],some (41,7,1))::[]) (fun _=>True) ?_ ?_
 · repeat' (first|((with_reducible apply oq_id);first|(focus ((with_reducible apply oq_indexAddrN (i:=k));(iterate 4 exact rfl);omega))|(apply oq_fn;exact rfl;first|exact trivial|(and_intros<;>omega)|omega|skip)|((with_reducible apply oq_load);exact rfl;exact rfl))|((with_reducible apply tl_id);first|(with_reducible apply tl_nil)|((with_reducible apply u_q);(iterate 4 exact rfl)))|((with_reducible apply rd_id);first|(apply Rd.old;(first|(with_reducible assumption)|exact c0|exact c1|exact c2|exact c3|exact c4|exact c5|exact c6|exact c7|exact c8|exact d0|exact d1|exact d2|exact d3|exact d4|exact d5);first|exact List.not_mem_nil|exact m0|exact m1|exact m2|exact m3|exact m4|exact m5|exact m6|exact m7|exact m8|exact m9))|((with_reducible apply t_id);first|(apply t_region;kernel_rfl)))
   all_goals exact ⟨by trivial,(),trivial,by (repeat' (first|exact FrSub.nil|(apply FrSub.cons;exact rfl))),by (repeat' (first|exact HpSub.refl _))⟩
 rintro ⟨⟩ -
 try dsimp only
 cases hch:chartB m L with
 | false=>
   rw [lengthR_bad hch] at HLn
   rw [hno (by unfold trkF;rw [if_neg (fun e=>by rw [hch] at e;cases e.1)])]
   repeat' (first|((with_reducible apply oq_id);first|((with_reducible apply oq_neqT);exact rfl;exact rfl;omega)|(apply oq_fn;exact rfl;first|exact trivial|(and_intros<;>omega)|omega|skip)|((with_reducible apply oq_loadAgg);exact rfl;exact rfl)|((with_reducible apply oq_call (hc:=Try.call14));exact rfl;exact rfl;exact fun D w1 hw1=>HLn w1 hw1.ext.ext))|((with_reducible apply tl_id);first|(with_reducible apply tl_nil)|((with_reducible apply u_q);(iterate 4 exact rfl))|((with_reducible apply u_skip);(iterate 3 exact rfl)))|((with_reducible apply rd_id);first|(apply Rd.own;(repeat first|exact P0|apply P1);exact rfl;done))|((with_reducible apply t_id);first|(with_reducible apply t_seq)|(apply t_region;kernel_rfl)|((with_reducible apply t_condT);exact rfl)|(with_reducible apply t_ret))|with_reducible apply q_thenN|with_reducible apply q_thenR|with_reducible apply q_blockR|exact Rdn.zero|apply Rdn.succ|(with_reducible apply end_ret)|exact rvs_nil|(with_reducible apply rvs_cons)|((with_reducible apply rv_tmp);exact rfl))
   all_goals rfl
 | true=>
 by_cases hin:0≤i∧i≤(L.length:Int)-1
 rotate_left
 · rw [lengthR_out hch hin] at HLn
   rw [hno (by unfold trkF;rw [if_neg (fun e=>hin e.2)])]
   repeat' (first|((with_reducible apply oq_id);first|((with_reducible apply oq_neqT);exact rfl;exact rfl;omega)|(apply oq_fn;exact rfl;first|exact trivial|(and_intros<;>omega)|omega|skip)|((with_reducible apply oq_loadAgg);exact rfl;exact rfl)|((with_reducible apply oq_call (hc:=Try.call14));exact rfl;exact rfl;exact fun D w1 hw1=>HLn w1 hw1.ext.ext))|((with_reducible apply tl_id);first|(with_reducible apply tl_nil)|((with_reducible apply u_q);(iterate 4 exact rfl))|((with_reducible apply u_skip);(iterate 3 exact rfl)))|((with_reducible apply rd_id);first|(apply Rd.own;(repeat first|exact P0|apply P1);exact rfl;done))|((with_reducible apply t_id);first|(with_reducible apply t_seq)|(apply t_region;kernel_rfl)|((with_reducible apply t_condT);exact rfl)|(with_reducible apply t_ret))|with_reducible apply q_thenN|with_reducible apply q_thenR|with_reducible apply q_blockR|exact Rdn.zero|apply Rdn.succ|(with_reducible apply end_ret)|exact rvs_nil|(with_reducible apply rvs_cons)|((with_reducible apply rv_tmp);exact rfl))
   all_goals rfl
 obtain ⟨j,rfl⟩:=Int.eq_ofNat_of_zero_le hin.1
 obtain ⟨bA,oA,z,rfl,_,hz,c1,c2,_,_,_⟩:=lg_read hr (show j<n by omega)
 obtain ⟨ka,kb,kn,kx,ky,kz,kh⟩:=(chartB_iff.1 hch).2.2 z (List.mem_of_getElem? hz)
 obtain ⟨⟨km1,km2⟩,_,_⟩:=chartB_iff.1 hch
 rw [lengthR_in hch hz] at HLn
 rw [trkF_at hch hz] at hno
 have hnx:=lasS_next hls hi
 rw [trkF_at hch hz] at hnx
 obtain ⟨len,hlen⟩:∃ x,lenV z.x z.y=x:=⟨_,rfl⟩
 have hlb:=lenV_bound kx ky
 rw [hlen] at HLn
 refine t_cut (ι:=Unit) (fun _=>[(2,.slice AC nC cC),(4,.slice (some ⟨bl,ol,none⟩) nl cl),(5,.pointer (some ⟨b5,0,none⟩)),(6,.pointer (some ⟨b6,0,none⟩)),(22,.slice (some ⟨bl,ol,none⟩) nl cl),(23,.int .i64 ((nl:Nat):Int)),(24,.int .i64 ((k:Nat):Int)),(12,.int .i64 sum),(13,.int .i64 at_),(15,.int .i64 ((j:Nat):Int)),(16,.int .i64 len),(17,.int .i64 0)]) (fun _=>(b5,[.slice AM m cM,.slice (some ⟨bA,oA,none⟩) n cp],some (37,2,1))::(b6,[.int .i64 v,.int .i64 q1,.int .i64 q2,.int .i64 q3,.int .i64 q4,.int .i64 g0,.int .i64 g1],some (41,7,1))::[]) (fun _=>True) ?_ ?_
 · repeat' (first|((with_reducible apply oq_id);first|(apply oq_fn;exact rfl;first|exact trivial|(and_intros<;>omega)|omega|skip)|((with_reducible apply oq_loadAgg);exact rfl;exact rfl)|((with_reducible apply oq_call (hc:=Try.call14));exact rfl;exact rfl;exact fun D w1 hw1=>HLn w1 hw1.ext.ext))|((with_reducible apply tl_id);first|(with_reducible apply tl_nil)|((with_reducible apply u_q);(iterate 4 exact rfl)))|((with_reducible apply rd_id);first|(apply Rd.own;(repeat first|exact P0|apply P1);exact rfl;done))|((with_reducible apply t_id);first|(apply t_region;kernel_rfl))|exact Rdn.zero|apply Rdn.succ)
   all_goals exact ⟨by trivial,(),trivial,by (repeat' (first|exact FrSub.nil|(apply FrSub.cons;exact rfl))),by (repeat' (first|exact HpSub.refl _))⟩
 rintro ⟨⟩ -
 try dsimp only
 by_cases hat:z.a≠at_∧z.b≠at_
 · rw [hno (if_pos hat)]
   obtain ⟨ha1,ha2⟩:=hat
   repeat' (first|((with_reducible apply oq_id);first|(focus ((with_reducible apply oq_indexAddrN (i:=j));(iterate 4 exact rfl);omega))|((with_reducible apply oq_lssF);exact rfl;exact rfl;omega)|((with_reducible apply oq_neqT);exact rfl;exact rfl;omega)|((with_reducible apply oq_neqF);exact rfl;exact rfl;omega)|((with_reducible apply oq_geqF);exact rfl;exact rfl;omega)|(apply oq_fn;exact rfl;first|exact trivial|(and_intros<;>omega)|omega|skip)|((with_reducible apply oq_load);exact rfl;exact rfl))|((with_reducible apply tl_id);first|(with_reducible apply tl_nil)|((with_reducible apply u_q);(iterate 4 exact rfl)))|((with_reducible apply rd_id);first|(apply Rd.old;(first|exact c0|exact c1|exact c2);exact List.not_mem_nil)|(apply Rd.own;(repeat first|exact P0|apply P1);exact rfl;done))|((with_reducible apply t_id);first|(with_reducible apply t_seq)|(apply t_region;kernel_rfl)|((with_reducible apply t_condT);exact rfl)|(with_reducible apply t_ret))|with_reducible apply q_thenN|with_reducible apply q_thenR|with_reducible apply q_blockR|(with_reducible apply end_ret)|exact rvs_nil|(with_reducible apply rvs_cons)|((with_reducible apply rv_tmp);exact rfl))
   all_goals rfl
 obtain ⟨bk,hbk⟩:∃ b,decide (z.b=at_)=b:=⟨_,rfl⟩
 rw [if_neg hat,hbk] at hno hnx
 have HPt:=fun w1 (hx:Ext w w1)=>part16_calls AM (some ⟨bA,oA,none⟩) m cM n cp L w1 (hr.ext hx) hn hm v q1 q2 q3 q4 g0 g1 AC nC cC C (hrc.ext hx) hs ((j:Nat):Int) bk len
 rw [← hlen,partR_at hch hz,hlen] at HPt
 rw [hlen] at hno hnx
 refine t_cut (ι:=Unit) (fun _=>[(2,.slice AC nC cC),(4,.slice (some ⟨bl,ol,none⟩) nl cl),(5,.pointer (some ⟨b5,0,none⟩)),(6,.pointer (some ⟨b6,0,none⟩)),(22,.slice (some ⟨bl,ol,none⟩) nl cl),(23,.int .i64 ((nl:Nat):Int)),(24,.int .i64 ((k:Nat):Int)),(12,.int .i64 sum),(13,.int .i64 at_),(15,.int .i64 ((j:Nat):Int)),(16,.int .i64 len)]) (fun _=>(b5,[.slice AM m cM,.slice (some ⟨bA,oA,none⟩) n cp],some (37,2,1))::(b6,[.int .i64 v,.int .i64 q1,.int .i64 q2,.int .i64 q3,.int .i64 q4,.int .i64 g0,.int .i64 g1],some (41,7,1))::[]) (fun _=>True) ?_ ?_
 · by_cases ha:z.a=at_
   · repeat' (first|((with_reducible apply oq_id);first|(focus ((with_reducible apply oq_indexAddrN (i:=j));(iterate 4 exact rfl);omega))|((with_reducible apply oq_lssF);exact rfl;exact rfl;omega)|((with_reducible apply oq_neqF);exact rfl;exact rfl;omega)|((with_reducible apply oq_geqF);exact rfl;exact rfl;omega)|(apply oq_fn;exact rfl;first|exact trivial|(and_intros<;>omega)|omega|skip)|((with_reducible apply oq_load);exact rfl;exact rfl))|((with_reducible apply tl_id);first|(with_reducible apply tl_nil)|((with_reducible apply u_q);(iterate 4 exact rfl))|((with_reducible apply u_skip);(iterate 3 exact rfl)))|((with_reducible apply rd_id);first|(apply Rd.old;(first|exact c0|exact c1|exact c2);exact List.not_mem_nil)|(apply Rd.own;(repeat first|exact P0|apply P1);exact rfl;done))|((with_reducible apply t_id);first|(with_reducible apply t_seq)|(apply t_region;kernel_rfl)|((with_reducible apply t_condF);exact rfl)|(with_reducible apply t_skip))|with_reducible apply q_thenN)
     all_goals exact ⟨by trivial,(),trivial,by (repeat' (first|exact FrSub.nil|(apply FrSub.cons;exact rfl))),by (repeat' (first|exact HpSub.refl _))⟩
   · have hb:z.b=at_:=by omega
     repeat' (first|((with_reducible apply oq_id);first|(focus ((with_reducible apply oq_indexAddrN (i:=j));(iterate 4 exact rfl);omega))|((with_reducible apply oq_lssF);exact rfl;exact rfl;omega)|((with_reducible apply oq_neqT);exact rfl;exact rfl;omega)|((with_reducible apply oq_neqF);exact rfl;exact rfl;omega)|((with_reducible apply oq_geqF);exact rfl;exact rfl;omega)|(apply oq_fn;exact rfl;first|exact trivial|(and_intros<;>omega)|omega|skip)|((with_reducible apply oq_load);exact rfl;exact rfl))|((with_reducible apply tl_id);first|(with_reducible apply tl_nil)|((with_reducible apply u_q);(iterate 4 exact rfl)))|((with_reducible apply rd_id);first|(apply Rd.old;(first|exact c0|exact c1|exact c2);exact List.not_mem_nil)|(apply Rd.own;(repeat first|exact P0|apply P1);exact rfl;done))|((with_reducible apply t_id);first|(with_reducible apply t_seq)|(apply t_region;kernel_rfl)|((with_reducible apply t_condF);exact rfl)|(with_reducible apply t_skip))|with_reducible apply q_thenN)
     all_goals exact ⟨by trivial,(),trivial,by (repeat' (first|exact FrSub.nil|(apply FrSub.cons;exact rfl))),by (repeat' (first|exact HpSub.refl _))⟩
 rintro ⟨⟩ -
 try dsimp only
 obtain ⟨bv,hbv⟩:∃ x,(if askE m L v q1 q2 q3 q4 g0 g1 C=0 then fullV (legRz v q1 q2 q3 z bk C) len.toNat g0.toNat g1.toNat else no3 (askE m L v q1 q2 q3 q4 g0 g1 C))=x:=⟨_,rfl⟩
 obtain ⟨lo,hi',x1,x2,e,hval,hcase⟩:∃ lo hi' x1 x2 e:Int,bv=.tuple #[.agg #[.int .i64 lo,.int .i64 hi'],.agg #[.int .i64 x1,.int .i64 x2],.int .i64 e]∧((e≠0∧R=(0,false))∨(e=0∧lasS m L v q1 q2 q3 q4 g0 g1 C s l (k+1)=some (sum+hi',z.a+z.b-at_)∧0≤hi'∧hi'≤10000000)):=by
   rw [← hbv]
   by_cases hE:askE m L v q1 q2 q3 q4 g0 g1 C=0
   rotate_left
   · rw [if_neg hE]
     exact ⟨0,0,0,0,_,rfl,.inl ⟨hE,hno (if_pos hE)⟩⟩
   rw [if_pos hE]
   have hE2:¬ askE m L v q1 q2 q3 q4 g0 g1 C≠0:=fun h=>h hE
   rw [if_neg hE2] at hno hnx
   unfold fullV
   by_cases hRl:legRz v q1 q2 q3 z bk C=[]
   · rw [if_pos hRl]
     exact ⟨0,0,0,0,_,rfl,.inl ⟨by decide,hno (if_pos hRl)⟩⟩
   rw [if_neg hRl] at hnx ⊢
   obtain ⟨_,hpk,hk0⟩:=askE_ok hE
   obtain ⟨hRt,_⟩:=legRz_ok (z:=z) (bk:=bk) (castE_zero.1 hk0).2 hpk kh ⟨kx,ky,kz⟩
   have hb:=(hullT_bound (m:=len.toNat) (by omega) _ hRt).2
   exact ⟨_,_,_,_,_,rfl,.inr ⟨rfl,hnx,by omega,by omega⟩⟩
 rw [hbv,hval] at HPt
 clear hbv hval hno hnx
 refine t_cut (ι:=Nat) (fun z'=>[(2,.slice AC nC cC),(4,.slice (some ⟨bl,ol,none⟩) nl cl),(5,.pointer (some ⟨b5,0,none⟩)),(6,.pointer (some ⟨b6,0,none⟩)),(22,.slice (some ⟨bl,ol,none⟩) nl cl),(23,.int .i64 ((nl:Nat):Int)),(24,.int .i64 ((k:Nat):Int)),(12,.int .i64 sum),(13,.int .i64 at_),(15,.int .i64 ((j:Nat):Int)),(18,.pointer (some ⟨z',0,none⟩)),(20,.int .i64 e)]) (fun z'=>(z',[.int .i64 lo,.int .i64 hi'],some (39,2,1))::(b5,[.slice AM m cM,.slice (some ⟨bA,oA,none⟩) n cp],some (37,2,1))::(b6,[.int .i64 v,.int .i64 q1,.int .i64 q2,.int .i64 q3,.int .i64 q4,.int .i64 g0,.int .i64 g1],some (41,7,1))::[]) (fun _=>True) ?_ ?_
 · cases bk with
   | true=>
     have hb:z.b=at_:=of_decide_eq_true hbk
     repeat' (first|((with_reducible apply oq_id);first|(focus ((with_reducible apply oq_indexAddrN (i:=j));(iterate 4 exact rfl);omega))|((with_reducible apply oq_eqlT);exact rfl;exact rfl;omega)|(apply oq_fn;exact rfl;first|exact trivial|(and_intros<;>omega)|omega|skip)|((with_reducible apply oq_load);exact rfl;exact rfl)|((with_reducible apply oq_loadAgg);exact rfl;exact rfl)|((with_reducible apply oq_call (hc:=Try.call16));exact rfl;exact rfl;exact fun D w1 hw1=>HPt w1 hw1.ext.ext))|((with_reducible apply gx_id);first|(with_reducible apply v_nil)|((with_reducible apply v_q);(iterate 3 exact rfl)))|((with_reducible apply os_id);first|((with_reducible apply os_storeAgg);(iterate 5 exact rfl)))|((with_reducible apply ox_id);first|((with_reducible apply ox_alloc);exact rfl;intro _))|((with_reducible apply ai_id);first|((with_reducible apply ai_q);(iterate 5 exact rfl))|((with_reducible apply ai_x);(iterate 5 exact rfl))|((with_reducible apply ai_n0);(iterate 3 exact rfl)))|((with_reducible apply al_keep);focus (repeat (first|exact HpSub.refl _|(apply HpSub.cons;(repeat first|exact P0|apply P1))|apply HpSub.skipX|exact HpSub.nil)))|((with_reducible apply rd_id);first|(apply Rd.old;(first|exact c0|exact c1|exact c2);exact List.not_mem_nil)|(apply Rd.own;(repeat first|exact P0|apply P1);exact rfl;done))|((with_reducible apply t_id);first|(apply t_mix (id:=8) [0,1,2,3,4,5,6,7,8,9,10,11,12,13,14,15,16,17] 5 #[false,false,false,false,false,false,false,false,false,false,false,false,false,false,false,false,false,false,false,false,false,false,false];kernel_rfl;kernel_rfl;exact rfl))|exact P0|(with_reducible apply P1)|exact Rdn.zero|apply Rdn.succ|((with_reducible apply Norm.nil);exact rfl)|((with_reducible apply Norm.cons);exact rfl)|((with_reducible apply al_id);first|(apply al_done;decide +kernel)|(apply al_one 18;decide +kernel)|(apply al_one 19;decide +kernel)|(apply al_one 20;decide +kernel)|(apply al_one 21;decide +kernel)|(apply al_one 22;decide +kernel)|(apply al_two 18 19;decide +kernel))|exact Nat.le_of_ble_eq_true rfl)
     all_goals exact ⟨by trivial,_,trivial,by (repeat' (first|exact FrSub.nil|(apply FrSub.cons;exact rfl))),by (repeat' (first|exact HpSub.refl _|(apply HpSub.consE;(repeat first|exact P0|apply P1);first|exact rfl|(simp;done))|apply HpSub.skipX))⟩
   | false=>
     have hb:z.b≠at_:=of_decide_eq_false hbk
     repeat' (first|((with_reducible apply oq_id);first|(focus ((with_reducible apply oq_indexAddrN (i:=j));(iterate 4 exact rfl);omega))|((with_reducible apply oq_eqlF);exact rfl;exact rfl;omega)|(apply oq_fn;exact rfl;first|exact trivial|(and_intros<;>omega)|omega|skip)|((with_reducible apply oq_load);exact rfl;exact rfl)|((with_reducible apply oq_loadAgg);exact rfl;exact rfl)|((with_reducible apply oq_call (hc:=Try.call16));exact rfl;exact rfl;exact fun D w1 hw1=>HPt w1 hw1.ext.ext))|((with_reducible apply gx_id);first|(with_reducible apply v_nil)|((with_reducible apply v_q);(iterate 3 exact rfl)))|((with_reducible apply os_id);first|((with_reducible apply os_storeAgg);(iterate 5 exact rfl)))|((with_reducible apply ox_id);first|((with_reducible apply ox_alloc);exact rfl;intro _))|((with_reducible apply ai_id);first|((with_reducible apply ai_q);(iterate 5 exact rfl))|((with_reducible apply ai_x);(iterate 5 exact rfl))|((with_reducible apply ai_n0);(iterate 3 exact rfl)))|((with_reducible apply al_keep);focus (repeat (first|exact HpSub.refl _|(apply HpSub.cons;(repeat first|exact P0|apply P1))|apply HpSub.skipX|exact HpSub.nil)))|((with_reducible apply rd_id);first|(apply Rd.old;(first|exact c0|exact c1|exact c2);exact List.not_mem_nil)|(apply Rd.own;(repeat first|exact P0|apply P1);exact rfl;done))|((with_reducible apply t_id);first|(apply t_mix (id:=8) [0,1,2,3,4,5,6,7,8,9,10,11,12,13,14,15,16,17] 5 #[false,false,false,false,false,false,false,false,false,false,false,false,false,false,false,false,false,false,false,false,false,false,false];kernel_rfl;kernel_rfl;exact rfl))|exact P0|(with_reducible apply P1)|exact Rdn.zero|apply Rdn.succ|((with_reducible apply Norm.nil);exact rfl)|((with_reducible apply Norm.cons);exact rfl)|((with_reducible apply al_id);first|(apply al_done;decide +kernel)|(apply al_one 18;decide +kernel)|(apply al_one 19;decide +kernel)|(apply al_one 20;decide +kernel)|(apply al_one 21;decide +kernel)|(apply al_one 22;decide +kernel)|(apply al_two 18 19;decide +kernel))|exact Nat.le_of_ble_eq_true rfl)
     all_goals exact ⟨by trivial,_,trivial,by (repeat' (first|exact FrSub.nil|(apply FrSub.cons;exact rfl))),by (repeat' (first|exact HpSub.refl _|(apply HpSub.consE;(repeat first|exact P0|apply P1);first|exact rfl|(simp;done))|apply HpSub.skipX))⟩
 rintro b18 -
 try dsimp only
 rcases hcase with ⟨he,rfl⟩|⟨rfl,hnx,hh0,hh1⟩
 · repeat' (first|((with_reducible apply oq_id);first|((with_reducible apply oq_neqT);exact rfl;exact rfl;omega)|(apply oq_fn;exact rfl;first|exact trivial|(and_intros<;>omega)|omega|skip))|((with_reducible apply tl_id);first|(with_reducible apply tl_nil)|((with_reducible apply u_q);(iterate 4 exact rfl)))|((with_reducible apply t_id);first|(with_reducible apply t_seq)|(apply t_region;kernel_rfl)|((with_reducible apply t_condT);exact rfl)|(with_reducible apply t_ret))|with_reducible apply q_thenN|with_reducible apply q_thenR|with_reducible apply q_blockR|(with_reducible apply end_ret)|exact rvs_nil|(with_reducible apply rvs_cons)|((with_reducible apply rv_tmp);exact rfl))
   all_goals rfl
 refine t_cut (ι:=Unit) (fun _=>[(2,.slice AC nC cC),(4,.slice (some ⟨bl,ol,none⟩) nl cl),(5,.pointer (some ⟨b5,0,none⟩)),(6,.pointer (some ⟨b6,0,none⟩)),(22,.slice (some ⟨bl,ol,none⟩) nl cl),(23,.int .i64 ((nl:Nat):Int)),(24,.int .i64 ((k:Nat):Int)),(12,.int .i64 sum),(13,.int .i64 at_),(15,.int .i64 ((j:Nat):Int)),(18,.pointer (some ⟨b18,0,none⟩))]) (fun _=>(b18,[.int .i64 lo,.int .i64 hi'],some (39,2,1))::(b5,[.slice AM m cM,.slice (some ⟨bA,oA,none⟩) n cp],some (37,2,1))::(b6,[.int .i64 v,.int .i64 q1,.int .i64 q2,.int .i64 q3,.int .i64 q4,.int .i64 g0,.int .i64 g1],some (41,7,1))::[]) (fun _=>True) ?_ ?_
 · repeat' (first|((with_reducible apply oq_id);first|((with_reducible apply oq_neqF);exact rfl;exact rfl;omega)|(apply oq_fn;exact rfl;first|exact trivial|(and_intros<;>omega)|omega|skip))|((with_reducible apply tl_id);first|(with_reducible apply tl_nil)|((with_reducible apply u_q);(iterate 4 exact rfl)))|((with_reducible apply t_id);first|(with_reducible apply t_seq)|(apply t_region;kernel_rfl)|((with_reducible apply t_condF);exact rfl)|(with_reducible apply t_skip))|with_reducible apply q_thenN)
   all_goals exact ⟨by trivial,(),trivial,by (repeat' (first|exact FrSub.nil|(apply FrSub.cons;exact rfl))),by (repeat' (first|exact HpSub.refl _))⟩
 rintro ⟨⟩ -
 try dsimp only
 refine t_cut (ι:=Unit) (fun _=>[(2,.slice AC nC cC),(4,.slice (some ⟨bl,ol,none⟩) nl cl),(5,.pointer (some ⟨b5,0,none⟩)),(6,.pointer (some ⟨b6,0,none⟩)),(22,.slice (some ⟨bl,ol,none⟩) nl cl),(23,.int .i64 ((nl:Nat):Int)),(24,.int .i64 ((k:Nat):Int)),(13,.int .i64 at_),(12,.int .i64 (sum+hi')),(15,.int .i64 ((j:Nat):Int))]) (fun _=>(b5,[.slice AM m cM,.slice (some ⟨bA,oA,none⟩) n cp],some (37,2,1))::(b6,[.int .i64 v,.int .i64 q1,.int .i64 q2,.int .i64 q3,.int .i64 q4,.int .i64 g0,.int .i64 g1],some (41,7,1))::[]) (fun _=>True) ?_ ?_
 · repeat' (first|((with_reducible apply oq_id);first|(focus ((with_reducible apply (oq_addE (k:=sum+hi')));exact rfl;exact rfl;omega))|(apply oq_fn;exact rfl;first|exact trivial|(and_intros<;>omega)|omega|skip)|((with_reducible apply oq_load);exact rfl;exact rfl))|((with_reducible apply tl_id);first|(with_reducible apply tl_nil)|((with_reducible apply u_q);(iterate 4 exact rfl)))|((with_reducible apply rd_id);first|(apply Rd.own;(repeat first|exact P0|apply P1);exact rfl;done))|((with_reducible apply t_id);first|(apply t_region;kernel_rfl)))
   all_goals exact ⟨by trivial,(),trivial,by (repeat' (first|exact FrSub.nil|(apply FrSub.cons;exact rfl))),by (repeat' (first|exact HpSub.refl _|(apply HpSub.consE;(repeat first|exact P0|apply P1);first|exact rfl|(simp;done))|apply HpSub.skipX))⟩
 rintro ⟨⟩ -
 try dsimp only
 repeat' (first|((with_reducible apply oq_id);first|(focus ((with_reducible apply oq_indexAddrN (i:=j));(iterate 4 exact rfl);omega))|(focus ((with_reducible apply (oq_addE (k:=z.a+z.b)));exact rfl;exact rfl;omega))|(focus ((with_reducible apply (oq_subE (k:=z.a+z.b-at_)));exact rfl;exact rfl;omega))|(focus ((with_reducible apply (oq_addE (k:=((k+1:Nat):Int))));exact rfl;exact rfl;omega))|(apply oq_fn;exact rfl;first|exact trivial|(and_intros<;>omega)|omega|skip)|((with_reducible apply oq_load);exact rfl;exact rfl))|((with_reducible apply tl_id);first|(with_reducible apply tl_nil)|((with_reducible apply u_q);(iterate 4 exact rfl)))|((with_reducible apply gx_id);first|(with_reducible apply v_nil)|((with_reducible apply v_q);(iterate 3 exact rfl)))|((with_reducible apply rd_id);first|(apply Rd.old;(first|exact c0|exact c1|exact c2);exact List.not_mem_nil)|(apply Rd.own;(repeat first|exact P0|apply P1);exact rfl;done))|((with_reducible apply t_id);first|(apply t_mix (id:=12) [0,1,2,3,4,5,6,7,8,9,10,11,12,13,14,15] 0 #[false,false,false,false,false,false,false,false,false,false,false,false,false,false,false,false];kernel_rfl;kernel_rfl;exact rfl)|(apply t_region;kernel_rfl))|with_reducible apply q_thenN|with_reducible apply q_blockN|((with_reducible apply al_id);first|(apply al_done;decide +kernel)))
 all_goals (refine ⟨(k+1,sum+hi',z.a+z.b-at_),⟨(by simp only;omega),hnx,(by simp only;omega),(by simp only;omega)⟩,(by simp only;omega),?_,?_⟩<;>(repeat' (first|exact FrSub.nil|(apply FrSub.cons;exact rfl)|exact HpSub.refl _)))
theorem containsInt_calls (f:Nat) (caps:List Value) (p:Int→Bool) (A:Option Addr) (n c:Nat) (l:List Int) (w:World) (hr:RdS w 1 A n (l.map inCells)) (hn:n≤1000000) (hc:∀ (a:Array Value) (w:World),(callFunc f a).run Try.prog w=.ok (.enter f a) w)
   (hf:∀ x∈l,∀ w1,Ext w w1→Calls Try.prog f ⟨.int .i64 x::caps⟩ w1 fun e w'=>e=.returned (.bool (p x))∧Ext w1 w'):Calls Try.prog 110 #[.slice A n c,.func (.func f) #[] ⟨caps⟩] w fun e w'=>e=.returned (.bool (l.any p))∧Ext w w':=by
 
 refine enterQ (c:=cx w 9) Try.func110 rfl rfl rfl rfl ?_
 repeat' (first|((with_reducible apply oq_id);first|(apply oq_fn;exact rfl;first|exact trivial|(and_intros<;>omega)|omega|skip)|((with_reducible apply oq_call (hc:=Try.call48));exact rfl;exact rfl;exact fun D w1 hw1=>indexInt_calls f caps p A n c l w1 (hr.ext hw1.ext.ext) hn hc (fun x hx w2 h2=>hf x hx w2 (hw1.ext.ext.trans h2))))|((with_reducible apply tl_id);first|(with_reducible apply tl_nil)|((with_reducible apply u_q);(iterate 4 exact rfl)))|((with_reducible apply t_id);first|(with_reducible apply t_seq)|(apply t_region;kernel_rfl)|(with_reducible apply t_ret))|with_reducible apply q_thenN|(with_reducible apply end_ret)|exact rvs_nil|(with_reducible apply rvs_cons)|((with_reducible apply rv_tmp);exact rfl))
 all_goals (rw [← idxV_any];rfl)
def allFromK (lo hi:Int) (l:List Int):Bool:=l.all fun z=>decide (lo≤z) && decide (z≤hi)
def outOf (lo hi:Int) (z:Int):Bool:=decide (z<lo) || decide (hi<z)
theorem allFrom_anyK (lo hi:Int) (l:List Int):(!(l.any (outOf lo hi)))=allFromK lo hi l:=by
 unfold allFromK
 induction l with
 | nil=>rfl
 | cons z l ih=>
   simp only [List.any_cons,List.all_cons,Bool.not_or,ih]
   congr 1
   unfold outOf
   by_cases h1:z<lo<;>by_cases h2:hi<z<;>simp [h1,h2,Int.not_le.2,Int.not_lt.1]<;>omega
theorem from1_calls (b1 b2:Nat) (lo hi z:Int) (w:World) (c0:w.cell? ⟨b1,0,none⟩=some (.int .i64 lo)) (c1:w.cell? ⟨b2,0,none⟩=some (.int .i64 hi)) :
   Calls Try.prog 133 #[.int .i64 z,.pointer (some ⟨b1,0,none⟩),.pointer (some ⟨b2,0,none⟩)] w fun e w'=>e=.returned (.bool (outOf lo hi z))∧Ext w w':=by
 refine enterQ (c:=cx w 13) Try.func133 rfl rfl rfl rfl ?_
 repeat' (first|((with_reducible apply oq_id);first|(apply oq_fn;exact rfl;first|exact trivial|(and_intros<;>omega)|omega|skip)|((with_reducible apply oq_load);exact rfl;exact rfl))|((with_reducible apply tl_id);first|(with_reducible apply tl_nil)|((with_reducible apply u_q);(iterate 4 exact rfl))|((with_reducible apply u_skip);(iterate 3 exact rfl))|((with_reducible apply u_splitD);exact rfl;exact rfl;all_goals first|(intro hp;try (exfalso;omega))|skip))|((with_reducible apply rd_id);first|(apply Rd.old;(first|(with_reducible assumption)|exact c0|exact c1|exact c2|exact c3|exact c4|exact c5|exact c6|exact c7|exact c8|exact d0|exact d1|exact d2|exact d3|exact d4|exact d5);first|exact List.not_mem_nil|exact m0|exact m1|exact m2|exact m3|exact m4|exact m5|exact m6|exact m7|exact m8|exact m9))|((with_reducible apply t_id);first|(with_reducible apply t_seq)|(apply t_region;kernel_rfl)|(with_reducible apply t_ret))|with_reducible apply q_thenN|(with_reducible apply end_ret)|exact rvs_nil|(with_reducible apply rvs_cons)|((with_reducible apply rv_tmp);exact rfl))
 all_goals (unfold outOf;first|(rw [decide_eq_true hp];rfl)|(rw [decide_eq_false hp];rfl))
theorem from_callsK (lo hi:Int) (A:Option Addr) (n c:Nat) (l:List Int) (w:World) (hr:RdS w 1 A n (l.map inCells)) (hn:n≤1000000) :
   Calls Try.prog 87 #[.int .i64 lo,.int .i64 hi,.slice A n c] w fun e w'=>e=.returned (.bool (allFromK lo hi l))∧Ext w w':=by
 refine enterQ (c:=cx w 11) Try.func87 rfl rfl rfl rfl ?_
 repeat' (first|((with_reducible apply oq_id);first|(apply oq_fn;exact rfl;first|exact trivial|(and_intros<;>omega)|omega|skip)|((with_reducible apply oq_call (hc:=Try.call110));exact rfl;exact rfl;exact fun D w1 hw1=>containsInt_calls 133 [.pointer (some ⟨_,0,none⟩),.pointer (some ⟨_,0,none⟩)] (outOf lo hi) A n c l w1 (hr.ext hw1.ext.ext) hn Try.call133 (fun x hx w2 h2=>from1_calls _ _ lo hi x w2 (h2.cell (hw1.cellAt (by (repeat first|exact P0|apply P1)) rfl)) (h2.cell (hw1.cellAt (by (repeat first|exact P0|apply P1)) rfl)))))|((with_reducible apply tl_id);first|(with_reducible apply tl_nil)|((with_reducible apply u_q);(iterate 4 exact rfl))|((with_reducible apply u_s);(iterate 3 exact rfl)))|((with_reducible apply os_id);first|((with_reducible apply os_x);exact rfl))|((with_reducible apply ox_id);first|((with_reducible apply ox_box);exact rfl;exact rfl;intro _))|((with_reducible apply t_id);first|(with_reducible apply t_seq)|(apply t_region;kernel_rfl)|(with_reducible apply t_ret))|with_reducible apply q_thenN|(with_reducible apply end_ret)|exact rvs_nil|(with_reducible apply rvs_cons)|((with_reducible apply rv_tmp);exact rfl))
 all_goals (rw [← allFrom_anyK];rfl)
end Go.Proofs.Ytcjkndjjbjoehaa
namespace Go.Proofs.Ytcjkndjjbjoehaa
structure Dep where
 seats:Int
 price:Int
 leaves:Int
 state:Int
structure Bk where
 flight:Int
 state:Int
 kept:Int
def depCells (x:Dep):List Value:=[.int .i64 x.seats,.int .i64 x.price,.int .i64 x.leaves,.int .u8 x.state]
def bkCells (x:Bk):List Value:=[.int .i64 x.flight,.int .u8 x.state,.int .i64 x.kept]
def depOk (x:Dep):Bool:=decide (0≤x.seats) && decide (x.seats≤50) && (decide (0≤x.price) && decide (x.price≤1000000)) && (decide (0≤x.leaves) && decide (x.leaves≤1000000)) && decide (x.state≤2)
def isB (f s:Int) (x:Bk):Bool:=decide (x.flight=f) && decide (x.state=s)
def manyV (bk:List Bk) (f s:Int):Int:=((bk.filter (isB f s)).length:Nat)
def feeV (price fee:Int):Int:=(price*fee).tdiv 100
def fitB (g s:Int):Bool:=(decide (g=0) && (decide (s=1) || decide (s=2))) || (decide (g=1) && decide (s=3))
def bookedB (fl:List Dep) (fee:Int) (x:Bk):Bool:=
 if 0≤x.flight∧x.flight<(fl.length:Int) then
   match fl[x.flight.toNat]? with
   | none=>false
   | some d=>if x.state=4 then decide (0≤x.kept) && decide (x.kept≤feeV d.price fee) else fitB d.state x.state && decide (x.kept=0)
 else false
def prc (fl:List Dep) (x:Bk):Int:=match fl[x.flight.toNat]? with|some d=>d.price|none=>0
structure Sum4 where
 held:Int
 earned:Int
 kept:Int
 back:Int
def addB (fl:List Dep) (p:Sum4) (x:Bk):Sum4:=
 if x.state=1∨x.state=2 then ⟨p.held+prc fl x,p.earned,p.kept,p.back⟩
 else if x.state=3 then ⟨p.held,p.earned+prc fl x,p.kept,p.back⟩
 else if x.state=4 then ⟨p.held,p.earned,p.kept+x.kept,p.back+(prc fl x-x.kept)⟩
 else p
def sumsV (fl:List Dep) (bk:List Bk):Sum4:=bk.foldl (addB fl) ⟨0,0,0,0⟩
def seatB (fl:List Dep) (bk:List Bk) (i:Nat):Bool:=match fl[i]? with
 | none=>true
 | some d=>let s:=manyV bk i 1+manyV bk i 3
   decide (s≤d.seats) && (decide (s=d.seats) || decide (manyV bk i 2≤0))
structure Off where
 now:Int
 notice:Int
 fee:Int
 inn:Int
 out:Int
 fl:List Dep
 bk:List Bk
def moneyB (o:Off):Bool:=decide (o.inn=(sumsV o.fl o.bk).held+(sumsV o.fl o.bk).earned+(sumsV o.fl o.bk).kept+(sumsV o.fl o.bk).back) && decide (o.out=(sumsV o.fl o.bk).back)
end Go.Proofs.Ytcjkndjjbjoehaa
