/- A part of the proof: rules for walks, and contracts of functions (1). -/
import Derived.Test.YtcjkndjjbjoehaaGreatXBA
import Derived.Test.YtcjkndjjbjoehaaGreatXBB
import Derived.Test.YtcjkndjjbjoehaaGreatXBC
import Derived.Test.YtcjkndjjbjoehaaGreatXBD
import Derived.Test.YtcjkndjjbjoehaaGreatXBE
import Derived.Test.YtcjkndjjbjoehaaGreatXBF
import Derived.Test.YtcjkndjjbjoehaaGreatXBG
import Derived.Test.YtcjkndjjbjoehaaGreatXBH
import Derived.Test.YtcjkndjjbjoehaaGreatXBI
import Derived.Test.YtcjkndjjbjoehaaGreatXBJ
import Derived.Test.YtcjkndjjbjoehaaGreatXBK
import Derived.Test.YtcjkndjjbjoehaaGreatXBL
import Derived.Test.YtcjkndjjbjoehaaGreatXBM
import Derived.Test.YtcjkndjjbjoehaaGreatXBN
import Derived.Test.YtcjkndjjbjoehaaGreatXBO
import Derived.Test.YtcjkndjjbjoehaaGreatXBP
import Derived.Carry
import Derived.MapKept
import Derived.Test.YtcjkndjjbjoehaaGreatChecked
import Derived.Orders
import Derived.Still
import Derived.WalkKit
import Derived.Lib.Hide
import Derived.Laws.StructEq
import Derived.RangeFuncNested
import Derived.RangeFuncCalls
import Derived.LoopIn
import Derived.RangeFuncLeaves
import Derived.RangeFuncRecord
import Derived.Maps.AppendAt
import Derived.IntWalk
import Derived.OrdersIn
import Derived.TacticsIn
import Derived.Laws.MakeOwn
import Derived.Laws.IdiomCopy
import Derived.ProofKit
import Derived.Lib.SmallJoins
import Derived.RangeFuncBound
import Derived.Shelf.Abstract
import Derived.Shelf.RegionOpen
import Derived.OwnWalkIn
import Derived.TacticsInMore
import Derived.LoopNIn
set_option linter.unusedVariables false
set_option linter.unusedSimpArgs false
set_option maxRecDepth 100000
set_option maxHeartbeats 2000000
namespace Go.Proofs.YtcjkndjjbjoehaaGreat
open Go.RowKit
theorem inow_none {bs:_} {c:Int}:∀ (l:List MapEntry) (k:Nat),(∀ e∈l,∃ j:Int,e.key=.int .i64 j∧j≠c)→Instr.findNow (.int bs) (.int .i64 c) l k=some none
 | [],_,_=>rfl
 | e::l,k,h=>by
   obtain ⟨j,h1,h2⟩:=h e (List.mem_cons_self ..)
   unfold Instr.findNow
   have:Instr.sameNow (.int bs) (.int .i64 c) e.key=some false:=by
     rw [h1]
     simp [Instr.sameNow,Ne.symm h2]
   rw [this]
   exact inow_none l (k+1) fun e he=>h e (List.mem_cons_of_mem _ he)
theorem inow_some {bs:_} {c:Int}:∀ (l:List MapEntry) (k:Nat),(∀ e∈l,∃ j:Int,e.key=.int .i64 j∧e.val=.bool true)→(∃ e∈l,e.key=.int .i64 c)→∃ i,Instr.findNow (.int bs) (.int .i64 c) l k=some (some (i,.bool true))
 | [],_,_,h=>by obtain ⟨e,he,_⟩:=h;cases he
 | e::l,k,h,hc=>by
   obtain ⟨j,h1,h2⟩:=h e (List.mem_cons_self ..)
   unfold Instr.findNow
   by_cases hj:c=j
   · have:Instr.sameNow (.int bs) (.int .i64 c) e.key=some true:=by
       rw [h1]
       simp [Instr.sameNow,hj]
     rw [this,h2]
     exact ⟨k,rfl⟩
   · have:Instr.sameNow (.int bs) (.int .i64 c) e.key=some false:=by
       rw [h1]
       simp [Instr.sameNow,hj]
     rw [this]
     obtain ⟨e',he',hk⟩:=hc
     rcases List.mem_cons.1 he' with rfl|he'
     · rw [h1] at hk
       simp at hk
       exact absurd hk.symm hj
     · exact inow_some l (k+1) (fun e he=>h e (List.mem_cons_of_mem _ he)) ⟨e',he',hk⟩
theorem zero_b4 {w:World}:(zeroValue 4).run Tryz.prog w=.ok (.bool false) w:=by
 have e:Tryz.t4.zero=some (.bool false):=by first|rfl|kernel_rfl
 simp [zeroValue,Sem.run_bind,run_underlying Tryz.underlying4,Result.andThen,Sem.run_pure,go_sem,e]
theorem check_i {w:World} {i:Int} (e:Bool) (n:Nat):(Instr.checkKey e (n+1) 3 (.int .i64 i)).run Tryz.prog w=.ok () w:=by
 unfold Instr.checkKey
 simp only [Sem.run_bind,run_underlying Tryz.underlying3,Result.andThen]
 rfl
theorem update_i {w:World} {b clock:Nat} {es:Array MapEntry} {i:Int} {v:Value} (hb:w.heap[b]?=some (.map es clock)) (hk:∀ e∈es.toList,∃ j:Int,e.key=.int .i64 j∧j≠i) :
   (Instr.mapUpdate 73 (.map (some b)) (.int .i64 i) v).run Tryz.prog w=.ok () { w with heap:=w.heap.setIfInBounds b (.map (es.push { key:=.int .i64 i,val:=v,born:=clock }) (clock+1)) }:=by
 have hf:(Instr.findKey 3 (.int .i64 i) es.toList).run Tryz.prog w=.ok none w:=by
   simp [Instr.findKey,Sem.run_bind,run_underlying Tryz.underlying3,Result.andThen,inow_none es.toList 0 hk,Sem.run_pure]
 simp [Instr.mapUpdate,Sem.run_bind,run_underlying Tryz.underlying73,MapKept.run_getObj_map hb,check_i (n:=9999),hf,MapKept.run_setObj_map _ hb,Result.andThen]
theorem lookup_iN {w:World} {b clock:Nat} {es:Array MapEntry} {i:Int} (hb:w.heap[b]?=some (.map es clock)) (hk:∀ e∈es.toList,∃ j:Int,e.key=.int .i64 j∧j≠i) :
   (Instr.lookup 73 (.map (some b)) (.int .i64 i) false).run Tryz.prog w=.ok (.bool false) w:=by
 have hf:(Instr.findKey 3 (.int .i64 i) es.toList).run Tryz.prog w=.ok none w:=by
   simp [Instr.findKey,Sem.run_bind,run_underlying Tryz.underlying3,Result.andThen,inow_none es.toList 0 hk,Sem.run_pure]
 simp [Instr.lookup,Sem.run_bind,run_underlying Tryz.underlying73,MapKept.run_getObj_map hb,check_i (n:=9999),hf,zero_b4,Result.andThen,Sem.run_pure]
theorem lookup_iY {w:World} {b clock:Nat} {es:Array MapEntry} {i:Int} (hb:w.heap[b]?=some (.map es clock)) (hl:∀ e∈es.toList,∃ j:Int,e.key=.int .i64 j∧e.val=.bool true) (hc:∃ e∈es.toList,e.key=.int .i64 i) :
   (Instr.lookup 73 (.map (some b)) (.int .i64 i) false).run Tryz.prog w=.ok (.bool true) w:=by
 have hf:∃ r,(Instr.findKey 3 (.int .i64 i) es.toList).run Tryz.prog w=.ok (some (r,.bool true)) w:=by
   obtain ⟨r,hr⟩:=inow_some (bs:=.i64) es.toList 0 hl hc
   refine ⟨r,?_⟩
   simp [Instr.findKey,Sem.run_bind,run_underlying Tryz.underlying3,Result.andThen,hr,Sem.run_pure]
 obtain ⟨r,hf⟩:=hf
 simp [Instr.lookup,Sem.run_bind,run_underlying Tryz.underlying73,MapKept.run_getObj_map hb,check_i (n:=9999),hf,Result.andThen,Sem.run_pure]
attribute [local irreducible] mapTg
def sM (S:List Nat):Mc:=S.map fun c=>([0,c],[1,1])
theorem sM_mem {S:List Nat} {w:World} {b:Nat} {es:Array MapEntry} (h:es.toList.map (fun e=>(e.key,e.val))=(sM S).map fun p=>(decV p.1,decV p.2)):(∀ e∈es.toList,∃ c∈S,e.key=.int .i64 ((c:Nat):Int)∧e.val=.bool true)∧∀ c∈S,∃ e∈es.toList,e.key=.int .i64 ((c:Nat):Int):=by
 refine ⟨fun e he=>?_,fun c hc=>?_⟩
 · have h3:(e.key,e.val)∈es.toList.map (fun e=>(e.key,e.val)):=List.mem_map.2 ⟨e,he,rfl⟩
   rw [h,sM,List.map_map] at h3
   obtain ⟨c,hc1,hc2⟩:=List.mem_map.1 h3
   simp only [Function.comp,Prod.mk.injEq] at hc2
   exact ⟨c,hc1,hc2.1.symm,hc2.2.symm⟩
 · have h3:((.int .i64 ((c:Nat):Int):Value),(.bool true:Value))∈(sM S).map fun p=>(decV p.1,decV p.2):=by
     rw [sM,List.map_map]
     exact List.mem_map.2 ⟨c,hc,rfl⟩
   rw [← h] at h3
   obtain ⟨e,he,h4⟩:=List.mem_map.1 h3
   exact ⟨e,he,(Prod.mk.inj h4).1⟩
section
variable {F:Fr} {H H':Hp} {K:Value→Hp→Prop} {d:Option Tmp} {ty:TypeId} {pos:String} {af:Array Edge} {g:Option (Nat×Bool)} {x y z:Operand} {M:List Nat} {w0:World} {N:Nat} {S:List Nat} {b c:Nat}
theorem oq_seen (hx:ev F x=some (.map (some b))) (hy:ev F y=some (.int .i64 ((c:Nat):Int))) (hp:Pick H b [] (mapTg 73 (sM S)) H') :
   OQ (cxM M w0 N) ⟨d,.lookup 73 x y false,ty,pos,af,g⟩ F H (.bool (decide (c∈S))):=.of fun D a w ha hw=>by
 obtain ⟨es,ck,h1,h2⟩:=(hw.blk _ hp.mem).2.map
 obtain ⟨k1,k2⟩:=sM_mem (w:=w) (b:=b) h2
 by_cases hc:c∈S
 · rw [decide_eq_true hc]
   have r:=lookup_iY h1 (fun e he=>by obtain ⟨j,_,h3,h4⟩:=k1 e he;exact ⟨_,h3,h4⟩) (k2 c hc)
   simp only [execOp,ha.ev hx,ha.ev hy,Sem.run_bind,r,Result.andThen,Sem.run_pure]
 · rw [decide_eq_false hc]
   have r:=lookup_iN (i:=((c:Nat):Int)) h1 (fun e he=>by obtain ⟨j,h3,h4,_⟩:=k1 e he;exact ⟨_,h4,fun e=>hc (Int.ofNat.inj e ▸ h3)⟩)
   simp only [execOp,ha.ev hx,ha.ev hy,Sem.run_bind,r,Result.andThen,Sem.run_pure]
theorem os_mark (hx:ev F x=some (.map (some b))) (hy:ev F y=some (.int .i64 ((c:Nat):Int))) (hz:ev F z=some (.bool true)) (hp:Pick H b [] (mapTg 73 (sM S)) H') (hnew:c∉S)
   (k:K undef ((b,[],mapTg 73 (sM (S++[c])))::H')):OS (cxM M w0 N) ⟨d,.mapUpdate 73 x y z,ty,pos,af,g⟩ F H K:=by
 intro D a w ha hw
 have hw':=hw.perm hp.perm
 obtain ⟨es,ck,h1,h2⟩:=(hw'.blk _ (List.mem_cons_self ..)).2.map
 obtain ⟨k1,k2⟩:=sM_mem (w:=w) (b:=b) h2
 have r:=update_i (i:=((c:Nat):Int)) (v:=.bool true) h1 (fun e he=>by obtain ⟨j,h3,h4,_⟩:=k1 e he;exact ⟨_,h4,fun e=>hnew (Int.ofNat.inj e ▸ h3)⟩)
 have:(execOp a.eval ⟨d,.mapUpdate 73 x y z,ty,pos,af,g⟩).run (cxM M w0 N).P w=.ok .skip { w with heap:=w.heap.setIfInBounds b (.map (es.push { key:=.int .i64 ((c:Nat):Int),val:=.bool true,born:=ck }) (ck+1)) }:=by
   simp only [execOp,ha.ev hx,ha.ev hy,ha.ev hz,Sem.run_bind,r,Result.andThen,Sem.run_pure]
 rw [this]
 refine ⟨_,k,hw'.swapMap h1 (Or.inr ⟨rfl,73,sM (S++[c]),Eq.refl _,?_⟩)⟩
 refine ⟨_,_,(MapKept.heap_set h1).1,?_⟩
 simp only [Array.toList_push,List.map_append,h2,List.map_cons,List.map_nil,sM]
 rfl
end
inductive Wlk (W n:Nat) (g:List Int) (h:Int) (b:Nat):Nat→List Nat→Prop
 | done (hb:gr g b≤h):Wlk W n g h b b [b]
 | step {a c:Nat} {l:List Nat} (ha:gr g a≤h) (hn:c∈nb W n a) (k:Wlk W n g h b c l):Wlk W n g h b a (a::l)
section
variable {W Hh n:Nat} {g:List Int} {h:Int} {a b:Nat} {L P Q:List Nat}
theorem Wlk.rch (t:Ter W Hh n) (ha:a<n) (k:Wlk W n g h b a Q):Rch W n g h a b:=by
 induction k with
 | done hb=>exact .refl hb
 | step h1 hn k ih=>
   have hc:=nb_lt t ha hn
   have:=ih hc
   exact (Rch.step (.refl h1) hn this.src).trans this
theorem Wlk.len (t:Ter W Hh n) (d:Dist W n g h b L) (hb:b<n) (ha:a<n) (k:Wlk W n g h b a Q):0<L.getD a 0∧L.getD a 0≤Q.length:=by
 induction k with
 | done _=>
   have:=(d.one b hb).2 rfl
   simp only [List.length_singleton];omega
 | step h1 hn k ih=>
   have hc:=nb_lt t ha hn
   obtain ⟨i1,i2⟩:=ih hc
   have:=d.next _ hc i1 _ (nb_symm t ha hn) h1
   simp only [List.length_cons];omega
theorem Wlk.snoc {x:Nat} (k:Wlk W n g h b a Q) (hn:x∈nb W n b) (hx:gr g x≤h):Wlk W n g h x a (Q++[x]):=by
 induction k with
 | done hb=>exact .step hb hn (.done hx)
 | step h1 h2 k ih=>exact .step h1 h2 ih
theorem Wlk.rev (t:Ter W Hh n) (ha:a<n) (k:Wlk W n g h b a Q):Wlk W n g h a b Q.reverse:=by
 induction k with
 | done hb=>exact .done hb
 | step h1 hn k ih=>
   have hc:=nb_lt t ha hn
   rw [List.reverse_cons]
   exact (ih hc).snoc (nb_symm t ha hn) h1
theorem Pth.wlk (t:Ter W Hh n) (d:Dist W n g h b L) (hg:gr g b≤h) (ha:a<n) (h0:0<L.getD a 0) (p:Pth W n L b a P):Wlk W n g h b a P∧P.length=L.getD a 0∧∀ c∈P,L.getD c 0≤L.getD a 0∧c<n:=by
 induction p with
 | done=>
   refine ⟨.done hg,?_,fun c hc=>?_⟩
   · have:=(d.one _ ha).2 rfl
     rw [this];rfl
   · obtain rfl:=List.mem_singleton.1 hc
     exact ⟨Nat.le_refl _,ha⟩
 | next hne hn k ih=>
   rename_i a' c' l
   have h1:c'∈nb W n a':=List.mem_of_find?_eq_some hn
   have h2:L.getD c' 0+1=L.getD a' 0:=by simpa using List.find?_some hn
   have hc:=nb_lt t ha h1
   have h3:0<L.getD c' 0:=by
     have:=(d.one a' ha)
     have:L.getD a' 0≠1:=fun e=>hne (this.1 e)
     omega
   obtain ⟨i1,i2,i3⟩:=ih hc h3
   refine ⟨.step (d.low _ ha h0) h1 i1,by simp only [List.length_cons];omega,fun c hc=>?_⟩
   rcases List.mem_cons.1 hc with rfl|hc
   · exact ⟨Nat.le_refl _,ha⟩
   · have:=i3 c hc
     exact ⟨by omega,this.2⟩
theorem Pth.nodup (t:Ter W Hh n) (d:Dist W n g h b L) (hg:gr g b≤h) (ha:a<n) (h0:0<L.getD a 0) (p:Pth W n L b a P):P.Nodup:=by
 induction p with
 | done=>simp
 | next hne hn k ih=>
   rename_i a' c' l
   have h1:c'∈nb W n a':=List.mem_of_find?_eq_some hn
   have h2:L.getD c' 0+1=L.getD a' 0:=by simpa using List.find?_some hn
   have hc:=nb_lt t ha h1
   have h3:0<L.getD c' 0:=by
     have:=(d.one a' ha)
     have:L.getD a' 0≠1:=fun e=>hne (this.1 e)
     omega
   refine List.nodup_cons.2 ⟨fun hm=>?_,ih hc h3⟩
   have:=(k.wlk t d hg hc h3).2.2 a' hm
   omega
def sideB (W c p:Int):Bool:=decide ((c.tmod W-p.tmod W)*(c.tmod W-p.tmod W)+(c.tdiv W-p.tdiv W)*(c.tdiv W-p.tdiv W)=1)
theorem sq_one {x y:Int} (h:x*x+y*y=1):(x=0∧(y=1∨y=-1))∨(y=0∧(x=1∨x=-1)):=by
 have hx:0≤x*x:=by rcases Int.le_total 0 x with k|k;exact Int.mul_nonneg k k;exact Int.mul_nonneg_of_nonpos_of_nonpos k k
 have hy:0≤y*y:=by rcases Int.le_total 0 y with k|k;exact Int.mul_nonneg k k;exact Int.mul_nonneg_of_nonpos_of_nonpos k k
 have bnd:∀ z:Int,z*z≤1→z=0∨z=1∨z=-1:=fun z hz=>by
   rcases Int.lt_or_le 1 z with k|k
   · have:=Int.mul_le_mul (show 2≤z by omega) (show 2≤z by omega) (by omega) (by omega)
     omega
   · rcases Int.lt_or_le z (-1) with k2|k2
     · have:=Int.mul_le_mul (show 2≤-z by omega) (show 2≤-z by omega) (by omega) (by omega)
       rw [Int.neg_mul_neg] at this
       omega
     · omega
 rcases bnd x (by omega) with rfl|rfl|rfl<;>rcases bnd y (by omega) with rfl|rfl|rfl<;>simp at h ⊢
theorem side_nb (t:Ter W Hh n) {c p:Nat} (hc:c<n) (hp:p<n):sideB (W:Int) (c:Int) (p:Int)=true↔c∈nb W n p:=by
 have hw:=t.w1
 have e1:((c:Int).tmod (W:Int))=((c % W:Nat):Int):=rfl
 have e2:((p:Int).tmod (W:Int))=((p % W:Nat):Int):=rfl
 have e3:((c:Int).tdiv (W:Int))=((c / W:Nat):Int):=rfl
 have e4:((p:Int).tdiv (W:Int))=((p / W:Nat):Int):=rfl
 unfold sideB
 rw [e1,e2,e3,e4,decide_eq_true_eq]
 have d1:=Nat.div_add_mod c W
 have d2:=Nat.div_add_mod p W
 have m1:=Nat.mod_lt c (show 0<W by omega)
 have m2:=Nat.mod_lt p (show 0<W by omega)
 constructor
 · intro h
   rw [mem_nb]
   rcases sq_one h with ⟨hx,hy|hy⟩|⟨hy,hx|hx⟩
   · have hq:c / W=p / W+1:=by omega
     rw [hq,Nat.mul_add,Nat.mul_one] at d1
     exact .inr (.inr (.inr ⟨by omega,by omega⟩))
   · have hq:p / W=c / W+1:=by omega
     rw [hq,Nat.mul_add,Nat.mul_one] at d2
     exact .inl ⟨by omega,by omega⟩
   · have hq:c / W=p / W:=by omega
     rw [hq] at d1
     exact .inr (.inr (.inl ⟨by omega,by omega⟩))
   · have hq:c / W=p / W:=by omega
     rw [hq] at d1
     exact .inr (.inl ⟨by omega,by omega⟩)
 · intro h
   rw [mem_nb] at h
   rcases h with ⟨h,rfl⟩|⟨h,rfl⟩|⟨h,rfl⟩|⟨h,rfl⟩
   · have f1:(p-W) % W=p % W:=by
       conv=>rhs;rw [show p=p-W+W by omega,Nat.add_mod_right]
     have f2:(p-W) / W+1=p / W:=by
       conv=>rhs;rw [show p=p-W+W by omega,Nat.add_div_right _ (by omega)]
     rw [f1,← f2]
     have:(((p-W) / W:Nat):Int)-(((p-W) / W+1:Nat):Int)=-1:=by omega
     rw [this,Int.sub_self];rfl
   · have f1:=mod_dn hw h
     have f2:(p-1) / W=p / W:=by
       have h3:p-1=W*(p / W)+(p % W-1):=by omega
       rw [h3,Nat.mul_add_div (by omega),Nat.div_eq_of_lt (show p % W-1<W by omega)];omega
     rw [f2,← f1,Int.sub_self]
     have:(((p-1) % W:Nat):Int)-(((p-1) % W+1:Nat):Int)=-1:=by omega
     rw [this];rfl
   · have f1:=mod_up hw h
     have f2:(p+1) / W=p / W:=by
       have h3:p+1=W*(p / W)+(p % W+1):=by omega
       rw [h3,Nat.mul_add_div (by omega),Nat.div_eq_of_lt h];omega
     rw [f2,f1,Int.sub_self]
     have:((p % W+1:Nat):Int)-((p % W:Nat):Int)=1:=by omega
     rw [this];rfl
   · have f1:(p+W) % W=p % W:=Nat.add_mod_right _ _
     have f2:(p+W) / W=p / W+1:=Nat.add_div_right _ (by omega)
     rw [f1,f2,Int.sub_self]
     have:((p / W+1:Nat):Int)-((p / W:Nat):Int)=1:=by omega
     rw [this];rfl
end
def goS (W:Int) (g l:List Int):Nat→Option Int
 | 0=>some (-500)
 | k+1=>match goS W g l k with
   | none=>none
   | some h=>match l[k]? with
     | none=>none
     | some c=>if (0≤c∧c<(g.length:Int))∧c∉l.take k∧(k=0∨∃ p,l[k-1]?=some p∧sideB W c p=true) then some (max h (gr g c.toNat)) else none
def goR (W:Int) (g l:List Int) (a b:Int):Int×Bool:=if W<1∨l=[]∨l[0]?≠some a∨l[l.length-1]?≠some b then (0,false) else match goS W g l l.length with
 | none=>(0,false)
 | some h=>(h,true)
section
variable {W Hh n:Nat} {g:List Int}
theorem goS_in (t:Ter W Hh n) (hg:g.length=n) {l:List Int}:∀ k h,goS (W:Int) g l k=some h→-500≤h∧∀ i,i<k→∃ c:Nat,l[i]?=some (c:Int)∧c<n∧gr g c≤h∧(i=0∨∃ p:Nat,l[i-1]?=some (p:Int)∧p<n∧c∈nb W n p)
 | 0,h,e=>by
   obtain rfl:=Option.some.inj e
   exact ⟨Int.le_refl _,fun i hi=>absurd hi (Nat.not_lt_zero _)⟩
 | k+1,h,e=>by
   simp only [goS] at e
   split at e
   · cases e
   rename_i h' e'
   obtain ⟨i1,i2⟩:=goS_in t hg k h' e'
   split at e
   · cases e
   rename_i c hc
   split at e
   rotate_left
   · cases e
   rename_i hk
   obtain ⟨hk1,hk2,hk3⟩:=hk
   obtain rfl:=Option.some.inj e
   obtain ⟨c,rfl⟩:=Int.eq_ofNat_of_zero_le hk1.1
   rw [Int.toNat_natCast]
   refine ⟨by omega,fun i hi=>?_⟩
   rcases Nat.lt_or_ge i k with h1|h1
   · obtain ⟨x,x1,x2,x3,x4⟩:=i2 i h1
     exact ⟨x,x1,x2,by omega,x4⟩
   · obtain rfl:i=k:=by omega
     refine ⟨c,hc,by omega,by omega,?_⟩
     rcases hk3 with h2|⟨p,h2,h3⟩
     · exact .inl h2
     · rcases Nat.eq_zero_or_pos i with h4|h4
       · exact .inl h4
       · obtain ⟨q,q1,q2,_⟩:=i2 (i-1) (by omega)
         rw [h2] at q1
         obtain rfl:=Option.some.inj q1
         exact .inr ⟨q,h2,q2,(side_nb t (by omega) q2).1 h3⟩
theorem wlk_of (t:Ter W Hh n) {h:Int} {b:Nat}:∀ (l:List Int),l≠[]→l[l.length-1]?=some (b:Int)→(∀ i,i<l.length→∃ c:Nat,l[i]?=some (c:Int)∧c<n∧gr g c≤h∧(i=0∨∃ p:Nat,l[i-1]?=some (p:Int)∧p<n∧c∈nb W n p))→∃ (a:Nat) (Q:List Nat),l[0]?=some (a:Int)∧Q.length=l.length∧Wlk W n g h b a Q∧a<n
 | [],hne,_,_=>absurd rfl hne
 | [x],_,hb,hc=>by
   obtain ⟨c,h1,h2,h3,_⟩:=hc 0 (by simp)
   have:c=b:=by
     simp at hb h1
     omega
   subst this
   exact ⟨c,[c],h1,rfl,.done h3,h2⟩
 | x::y::l,_,hb,hc=>by
   obtain ⟨c,Q,h1,h2,h3,h4⟩:=wlk_of t (y::l) (by simp) (by simpa using hb) (fun i hi=>by
     obtain ⟨c,k1,k2,k3,k4⟩:=hc (i+1) (by simpa using hi)
     refine ⟨c,by simpa using k1,k2,k3,?_⟩
     rcases Nat.eq_zero_or_pos i with e|e
     · exact .inl e
     · rcases k4 with k4|⟨p,k4,k5⟩
       · omega
       · refine .inr ⟨p,?_,k5⟩
         rw [show i+1-1=i-1+1 by omega] at k4
         simpa using k4)
   obtain ⟨a,k1,k2,k3,_⟩:=hc 0 (by simp)
   obtain ⟨c',k4,_,_,k5⟩:=hc 1 (by simp)
   rcases k5 with k5|⟨p,k5,k6,k7⟩
   · omega
   · simp at k1 k4 k5 h1
     have e1:p=a:=by omega
     have e2:c'=c:=by omega
     subst e1 e2
     exact ⟨p,p::Q,by simp [k1],by simp [h2],.step k3 k7 h3,k2⟩
theorem other_path (t:Ter W Hh n) (hg:g.length=n) {a b:Nat} {h w:Int} {L:List Nat} {l:List Int} (hb:b<n) (hp:IsPass W n g a b h) (d:Dist W n g h b L) (e:goR (W:Int) g l (a:Int) (b:Int)=(w,true)):h≤w∧(w=h→L.getD a 0≤l.length):=by
 unfold goR at e
 split at e
 · cases (Prod.mk.inj e).2
 rename_i hn
 simp only [not_or,Classical.not_not] at hn
 obtain ⟨_,h1,h2,h3⟩:=hn
 split at e
 · cases (Prod.mk.inj e).2
 rename_i w' hs
 obtain rfl:=(Prod.mk.inj e).1
 obtain ⟨_,h4⟩:=goS_in t hg _ _ hs
 obtain ⟨a',Q,k1,k2,k3,k4⟩:=wlk_of t l h1 h3 h4
 rw [h2] at k1
 obtain rfl:a=a':=by have:=Option.some.inj k1;omega
 refine ⟨hp.least _ (k3.rch t k4),fun ew=>?_⟩
 subst ew
 rw [← k2]
 exact (k3.len t d hb k4).2
theorem goS_path (t:Ter W Hh n) (hg:g.length=n) {h:Int} {b a:Nat} {P:List Nat} (hP:Wlk W n g h b a P) (hnd:P.Nodup) (hlt:∀ c∈P,c<n) (h5 : -500≤h) (hall:∀ c∈P,gr g c≤h) (hadj:∀ i c p,P[i+1]?=some c→P[i]?=some p→c∈nb W n p):∀ k,k≤P.length→∃ w,goS (W:Int) g (cI P) k=some w∧w≤h
 | 0,_=>⟨-500,rfl,h5⟩
 | k+1,hk=>by
   obtain ⟨w,h1,h2⟩:=goS_path t hg hP hnd hlt h5 hall hadj k (by omega)
   obtain ⟨c,hc⟩:∃ c,P[k]?=some c:=⟨_,List.getElem?_eq_getElem (by omega)⟩
   have hcm:=List.mem_of_getElem? hc
   have hcl:=hlt c hcm
   have e:(cI P)[k]?=some (c:Int):=by simp [cI,hc]
   refine ⟨max w (gr g c),?_,by have:=hall c hcm;omega⟩
   simp only [goS]
   rw [h1,e]
   simp only
   rw [if_pos,Int.toNat_natCast]
   refine ⟨by omega,?_,?_⟩
   · intro hm
     obtain ⟨i,hi⟩:=List.getElem?_of_mem hm
     rw [List.getElem?_take] at hi
     split at hi
     · rename_i hik
       simp only [cI,List.getElem?_map] at hi
       cases hx:P[i]? with
       | none=>rw [hx] at hi;cases hi
       | some x=>
         rw [hx] at hi
         have:x=c:=by
           have e2:(x:Int)=(c:Int):=Option.some.inj hi
           omega
         subst this
         have hi':=(List.getElem?_eq_some_iff.1 hx).1
         have:=(List.getElem?_inj hi' hnd).1 (hx.trans hc.symm)
         omega
     · cases hi
   · rcases Nat.eq_zero_or_pos k with e0|e0
     · exact .inl e0
     · obtain ⟨p,hp⟩:∃ p,P[k-1]?=some p:=⟨_,List.getElem?_eq_getElem (by omega)⟩
       refine .inr ⟨(p:Int),by simp [cI,hp],?_⟩
       exact (side_nb t hcl (hlt p (List.mem_of_getElem? hp))).2 (hadj (k-1) c p (by rw [Nat.sub_add_cancel e0];exact hc) hp)
theorem Wlk.adj {h:Int} {b a:Nat} {P:List Nat} (k:Wlk W n g h b a P):(∀ i c p,P[i+1]?=some c→P[i]?=some p→c∈nb W n p)∧(∀ c∈P,gr g c≤h)∧P[0]?=some a∧P[P.length-1]?=some b:=by
 induction k with
 | done hb=>exact ⟨fun i c p h1 h2=>by simp at h1,fun c hc=>by obtain rfl:=List.mem_singleton.1 hc;exact hb,rfl,rfl⟩
 | step ha hn k ih=>
   rename_i a' c' l
   obtain ⟨i1,i2,i3,i4⟩:=ih
   refine ⟨fun i c p h1 h2=>?_,fun c hc=>?_,rfl,?_⟩
   · rcases i with _|i
     · simp at h1 h2
       rw [i3] at h1
       obtain rfl:=Option.some.inj h1
       subst h2
       exact hn
     · exact i1 i c p (by simpa using h1) (by simpa using h2)
   · rcases List.mem_cons.1 hc with rfl|hc
     · exact ha
     · exact i2 c hc
   · cases l with
     | nil=>simp at i3
     | cons x l=>simpa using i4
theorem own_path (t:Ter W Hh n) (hg:g.length=n) {a b:Nat} {h:Int} {L P:List Nat} (ha:a<n) (hb:b<n) (hgr:∀ c,c<n→-500≤gr g c) (hp:IsPass W n g a b h) (d:Dist W n g h b L) (p:Pth W n L b a P):goR (W:Int) g (cI P) (a:Int) (b:Int)=(h,true)∧P.length=L.getD a 0∧Wlk W n g h b a P:=by
 have hw:=t.w1
 have h0:=d.reach t hb (hp.is.symm t ha)
 obtain ⟨k1,k2,k3⟩:=p.wlk t d hp.is.dst ha h0
 have hnd:=p.nodup t d hp.is.dst ha h0
 obtain ⟨a1,a2,a3,a4⟩:=k1.adj
 have h5 : -500≤h:=by have:=hgr a ha;have:=hp.is.src;omega
 obtain ⟨w,w1,w2⟩:=goS_path t hg k1 hnd (fun c hc=>(k3 c hc).2) h5 a2 a1 P.length (Nat.le_refl _)
 have hlen:(cI P).length=P.length:=by simp [cI]
 have hne:P≠[]:=by intro e;rw [e] at a3;simp at a3
 have e:goR (W:Int) g (cI P) (a:Int) (b:Int)=(w,true):=by
   unfold goR
   rw [if_neg,hlen,w1]
   simp only [not_or,Classical.not_not]
   refine ⟨by omega,by simpa [cI] using hne,by simp [cI,a3],?_⟩
   rw [hlen]
   simp [cI,a4]
 have hle:=(other_path t hg hb hp d e).1
 obtain rfl:w=h:=by omega
 exact ⟨e,k2,k1⟩
theorem there_back (t:Ter W Hh n) {a b:Nat} {h h':Int} {L L' P P':List Nat} (ha:a<n) (hb:b<n) (hp:IsPass W n g a b h) (hp':IsPass W n g b a h') (d:Dist W n g h b L) (d':Dist W n g h' a L') (p:Pth W n L b a P) (p':Pth W n L' a b P'):h'=h∧P'.length=P.length:=by
 have e:h'=h:=Int.le_antisymm (hp'.least _ (hp.is.symm t ha)) (hp.least _ (hp'.is.symm t hb))
 subst e
 obtain ⟨k1,k2,_⟩:=p.wlk t d hp.is.dst ha (d.reach t hb (hp.is.symm t ha))
 obtain ⟨l1,l2,_⟩:=p'.wlk t d' hp'.is.dst hb (d'.reach t ha (hp'.is.symm t hb))
 have m1:=(k1.rev t ha).len t d' ha hb
 have m2:=(l1.rev t hb).len t d hb ha
 rw [List.length_reverse] at m1 m2
 exact ⟨rfl,by omega⟩
end
end Go.Proofs.YtcjkndjjbjoehaaGreat
namespace Go.Proofs.YtcjkndjjbjoehaaGreat
open Go.ChangeShapes Go.WideShapes Go.ChangeAt Go.RowKit
section
variable {H:Type} {enc:TypeId×Value→H} {P:Program} {W:World} {held:Bool}
theorem list3 {l:List Value} (h:l.length=3):∃ a b c,l=[a,b,c]:=by
 match l,h with
 | [a,b,c],_=>exact ⟨a,b,c,rfl⟩
theorem in_openO {x:List Value} (h:LfsOk [.int .i64] x):∃ y:Int,x=inCells y∧True:=by
 obtain ⟨z0,u0,rfl,_,h⟩:=h.int
 obtain rfl:=h.nil
 exact ⟨z0,rfl,trivial⟩
theorem open_ter {r:Reach} {b0:Nat} {v:Value} {d:DataW H} {p:List MemPlace} (hv:Value.okWide Tryz.prog W r b0 66 v) (h:DataW.Trod enc Tryz.prog W 0 (fun _=>true) held 66 v d p) :
   ∃ (w hh:Int) (g:List Int) (A:Option Addr) (n cp:Nat),v=.agg ⟨[.int .i64 w,.int .i64 hh,.slice A n cp]⟩∧RdS W 1 A n (g.map inCells):=by
 obtain ⟨cs,rfl,_⟩:=okWide_struct Tryz.underlying66 hv
 obtain ⟨fuel,hf⟩:=h
 obtain ⟨cs⟩:=cs
 have hf':DataW.trod enc Tryz.prog W 0 (fun _=>true) held fuel 66 cs=some (d,p):=hf
 obtain ⟨xs,k,_,_,hl,hlen,hx⟩:=DataW.trod_struct Tryz.underlying66 hf'
 have c24:Tryz.prog.cellsOf 66=3:=by kernel_rfl
 have c3:Tryz.prog.cellsOf 3=1:=by kernel_rfl
 have c22:Tryz.prog.cellsOf 31=1:=by kernel_rfl
 rw [c24] at hl
 obtain ⟨v0,v1,v2,rfl⟩:=list3 hl
 have h3:xs.length=3:=hlen
 have u3:Tryz.prog.underlying 3=some (.int .i64):=Tryz.underlying3
 have g0:=hx 0 _ rfl
 have g1:=hx 1 _ rfl
 have g2:=hx 2 _ rfl
 rw [List.getElem?_eq_getElem (by omega)] at g0 g1 g2
 obtain ⟨z0,e0,_,_⟩:=DataW.trod_int u3 g0
 obtain ⟨z1,e1,_,_⟩:=DataW.trod_int u3 g1
 obtain ⟨A,n1,cf,rows1,e2,hr1,hn1,hm1⟩:=open_rowsT Tryz.underlying31 (show ksOf Tryz.prog 6 3=some [.int .i64] by kernel_rfl) (by kernel_rfl) (by decide) g2
 obtain ⟨l1,rfl,hp1⟩:=rows_ofP (f:=inCells) (p:=fun _=>True) (fun x hx=>in_openO (hm1 x hx))
 have e0':[v0]=[.int .i64 z0]:=e0
 have e1':[v1]=[.int .i64 z1]:=e1
 have e2':[v2]=[.slice A n1 cf]:=e2
 clear e0 e1 e2 g0 g1 g2
 obtain rfl:=sing e0'
 obtain rfl:=sing e1'
 obtain rfl:=sing e2'
 exact ⟨z0,z1,l1,A,n1,cf,rfl,hr1⟩
end
end Go.Proofs.YtcjkndjjbjoehaaGreat
namespace Go.Proofs.YtcjkndjjbjoehaaGreat
open Go.RowKit
structure Spd (n q r s f A B:Int):Prop where
 a0:0≤A
 b0:0≤B
 aq:A*A≤q
 qb:q≤B*B
 lo:r*s≤n+A
 hi:n+B≤r*f
end Go.Proofs.YtcjkndjjbjoehaaGreat
namespace Go.Proofs.YtcjkndjjbjoehaaGreat
open Go.RowKit
attribute [local irreducible] OQ OS OX Rd T TL GX GL AL AI RV wpG SAny Calls
theorem oq_quoX {c:Cx} {F:Fr} {H:Hp} {d:Option Tmp} {ty t t':TypeId} {pos:String} {af:Array Edge} {g:Option (Nat×Bool)} {x y:Operand} {m n k:Int} (hx:ev F x=some (.int .i64 m)) (hy:ev F y=some (.int .i64 n)) (e:m.tdiv n=k∧n≠0) (hb : -9223372036854775808≤k∧k≤9223372036854775807):OQ c ⟨d,.binOp .quo t x y t',ty,pos,af,g⟩ F H (.int .i64 k):=
 oq_quoI hx hy ⟨e.1,e.2,hb.1,hb.2⟩
theorem oq_remX {c:Cx} {F:Fr} {H:Hp} {d:Option Tmp} {ty t t':TypeId} {pos:String} {af:Array Edge} {g:Option (Nat×Bool)} {x y:Operand} {m n k:Int} (hx:ev F x=some (.int .i64 m)) (hy:ev F y=some (.int .i64 n)) (e:m.tmod n=k∧n≠0):OQ c ⟨d,.binOp .rem t x y t',ty,pos,af,g⟩ F H (.int .i64 k):=
 (oq_rem hx hy e.2).as (by rw [e.1])
theorem os_mkM {c:Cx} {F:Fr} {H:Hp} {K:Value→Hp→Prop} {d:Option Tmp} {ty:TypeId} {pos:String} {af:Array Edge} {g:Option (Nat×Bool)} {t:TypeId} (k:∀ b,K (.map (some b)) ((b,[],mapTg t [])::H)):OS c ⟨d,.makeMap t none,ty,pos,af,g⟩ F H K:=.ofX (ox_makeMap k)
theorem oq_quoY {c:Cx} {F:Fr} {H:Hp} {d:Option Tmp} {ty t t':TypeId} {pos:String} {af:Array Edge} {g:Option (Nat×Bool)} {x y:Operand} {m n k:Int} (hx:ev F x=some (.int .i64 m)) (hy:ev F y=some (.int .i64 n)) (e:m.tdiv n=k∧n≠0) (hb : -9223372036854775808≤k∧k≤9223372036854775807):OQ c ⟨d,.binOp .quo t x y t',ty,pos,af,g⟩ F H (.int .i64 k):=oq_quoX hx hy e hb
theorem oq_remY {c:Cx} {F:Fr} {H:Hp} {d:Option Tmp} {ty t t':TypeId} {pos:String} {af:Array Edge} {g:Option (Nat×Bool)} {x y:Operand} {m n k:Int} (hx:ev F x=some (.int .i64 m)) (hy:ev F y=some (.int .i64 n)) (e:m.tmod n=k∧n≠0):OQ c ⟨d,.binOp .rem t x y t',ty,pos,af,g⟩ F H (.int .i64 k):=oq_remX hx hy e
section
attribute [local irreducible] mapTg
variable {F:Fr} {H H':Hp} {d:Option Tmp} {ty:TypeId} {pos:String} {af:Array Edge} {g:Option (Nat×Bool)} {x y:Operand} {M:List Nat} {w0:World} {N:Nat} {S:List Nat} {b c:Nat}
theorem oq_seenT (hx:ev F x=some (.map (some b))) (hy:ev F y=some (.int .i64 ((c:Nat):Int))) (hp:Pick H b [] (mapTg 73 (sM S)) H') (h:c∈S):OQ (cxM M w0 N) ⟨d,.lookup 73 x y false,ty,pos,af,g⟩ F H (.bool true):=by
 have r:=oq_seen (M:=M) (w0:=w0) (N:=N) (d:=d) (ty:=ty) (pos:=pos) (af:=af) (g:=g) hx hy hp
 rw [decide_eq_true h] at r
 exact r
theorem oq_seenF (hx:ev F x=some (.map (some b))) (hy:ev F y=some (.int .i64 ((c:Nat):Int))) (hp:Pick H b [] (mapTg 73 (sM S)) H') (h:c∉S):OQ (cxM M w0 N) ⟨d,.lookup 73 x y false,ty,pos,af,g⟩ F H (.bool false):=by
 have r:=oq_seen (M:=M) (w0:=w0) (N:=N) (d:=d) (ty:=ty) (pos:=pos) (af:=af) (g:=g) hx hy hp
 rw [decide_eq_false h] at r
 exact r
end
theorem goS_none {W:Int} {g l:List Int} {k:Nat} (h:goS W g l k=none):∀ m,k≤m→goS W g l m=none
 | 0, hm => by obtain rfl : k = 0 := by omega
               exact h
 | m+1,hm=>by
   rcases Nat.lt_or_ge m k with h1|h1
   · obtain rfl:k=m+1:=by omega
     exact h
   · unfold goS
     rw [goS_none h m h1]
theorem goS_next {W:Int} {g l:List Int} {k:Nat} {h x:Int} (e:goS W g l k=some h) (hx:l[k]?=some x):goS W g l (k+1)=if (0≤x∧x<(g.length:Int))∧x∉l.take k∧(k=0∨∃ p,l[k-1]?=some p∧sideB W x p=true) then some (max h (gr g x.toNat)) else none:=by
 rw [goS,e]
 simp only [hx]
theorem take_mem {l:List Int} {S:List Nat} {k c:Nat} (h:S.map (fun c=>((c:Nat):Int))=l.take k):((c:Nat):Int)∈l.take k↔c∈S:=by
 rw [← h,List.mem_map]
 exact ⟨fun ⟨d,hd,e⟩=>Int.ofNat.inj e ▸ hd,fun hc=>⟨c,hc,rfl⟩⟩
theorem goes_calls (A:Option Addr) (cp W Hh n:Nat) (g:List Int) (w:World) (t:Ter W Hh n) (hg:RdS w 1 A n (g.map inCells)) (hgr:∀ x∈g,-500≤x∧x≤9000) (AL:Option Addr) (nl cl:Nat) (l:List Int) (hl:RdS w 1 AL nl (l.map inCells)) (hnl:nl≤1000000) (a b:Int):Calls Tryz.prog 36 #[.agg #[.int .i64 ((W:Nat):Int),.int .i64 ((Hh:Nat):Int),.slice A n cp],.slice AL nl cl,.int .i64 a,.int .i64 b] w fun e w'=>e=.returned (.tuple #[.int .i64 (goR ((W:Nat):Int) g l a b).1,.bool (goR ((W:Nat):Int) g l a b).2])∧Ext w w':=by
 have hll:l.length=nl:=by simpa using hl.len
 have hgl:g.length=n:=by simpa using hg.len
 have tw:=t.w1
 have tw2:=t.w24
 have tn:=t.n576
 have tn0:=t.n0
 refine enterQ (c:=cx w 110) Tryz.func36 rfl rfl rfl rfl ?_
 refine t_cut (ι:=Nat) (fun z=>[(1,.slice AL nl cl),(2,.int .i64 a),(3,.int .i64 b),(4,.pointer (some ⟨z,0,none⟩))]) (fun z=>(z,[.int .i64 ((W:Nat):Int),.int .i64 ((Hh:Nat):Int),.slice A n cp],some (66,3,1))::[]) (fun _=>True) ?_ ?_
 · repeat' (first|((with_reducible apply oq_id);first|(apply oq_fn;exact rfl;first|exact trivial|(and_intros<;>omega)|omega|skip))|((with_reducible apply tl_id);first|(with_reducible apply tl_nil)|((with_reducible apply u_q);(iterate 4 exact rfl))|((with_reducible apply u_s);(iterate 3 exact rfl)))|((with_reducible apply os_id);first|((with_reducible apply os_x);exact rfl))|((with_reducible apply ox_id);first|((with_reducible apply ox_boxAgg);exact rfl;intro _))|((with_reducible apply t_id);first|(apply t_region;kernel_rfl)))
   all_goals exact ⟨by trivial,_,trivial,by (repeat first|exact FrSub.nil|(apply FrSub.cons;exact rfl)),by (repeat' (first|exact HpSub.refl _))⟩
 rintro b4 -
 try simp only
 by_cases h0:nl=0
 · have hgo:goR ((W:Nat):Int) g l a b=(0,false):=by
     unfold goR
     rw [if_pos (.inr (.inl (List.eq_nil_of_length_eq_zero (by omega))))]
   rw [hgo]
   repeat' (first|((with_reducible apply oq_id);first|((with_reducible apply oq_lssF);exact rfl;exact rfl;omega)|((with_reducible apply oq_eqlT);exact rfl;exact rfl;omega)|(apply oq_fn;exact rfl;first|exact trivial|(and_intros<;>omega)|omega|skip)|((with_reducible apply oq_load);exact rfl;exact rfl))|((with_reducible apply tl_id);first|(with_reducible apply tl_nil)|((with_reducible apply u_q);(iterate 4 exact rfl))|((with_reducible apply u_skip);(iterate 3 exact rfl)))|((with_reducible apply rd_id);first|(apply Rd.own;(repeat first|exact P0|apply P1);exact rfl;done))|((with_reducible apply t_id);first|(with_reducible apply t_seq)|(apply t_region;kernel_rfl)|((with_reducible apply t_condT);exact rfl)|(with_reducible apply t_ret))|with_reducible apply q_thenN|with_reducible apply q_thenR|(with_reducible apply end_ret)|exact rvs_nil|(with_reducible apply rvs_cons)|((with_reducible apply rv_tmp);exact rfl))
   all_goals rfl
 obtain ⟨bL,oL,x0,rfl,_,hx0,c0⟩:=in_read hl (show 0<nl by omega)
 have hln:l≠[]:=fun e=>by rw [e] at hll;simp at hll;omega
 by_cases ha:x0=a
 rotate_left
 · have hgo:goR ((W:Nat):Int) g l a b=(0,false):=by
     unfold goR
     rw [if_pos (.inr (.inr (.inl (by rw [hx0];simpa using ha))))]
   rw [hgo]
   repeat' (first|((with_reducible apply oq_id);first|(focus ((with_reducible apply oq_indexAddrN (i:=0));(iterate 4 exact rfl);omega))|((with_reducible apply oq_lssF);exact rfl;exact rfl;omega)|((with_reducible apply oq_eqlF);exact rfl;exact rfl;omega)|((with_reducible apply oq_neqT);exact rfl;exact rfl;omega)|(apply oq_fn;exact rfl;first|exact trivial|(and_intros<;>omega)|omega|skip)|((with_reducible apply oq_load);exact rfl;exact rfl))|((with_reducible apply tl_id);first|(with_reducible apply tl_nil)|((with_reducible apply u_q);(iterate 4 exact rfl))|((with_reducible apply u_skip);(iterate 3 exact rfl)))|((with_reducible apply rd_id);first|(apply Rd.own;(repeat first|exact P0|apply P1);exact rfl;done)|(apply Rd.old;(first|(with_reducible assumption)|exact c0|exact c1|exact c2|exact c3|exact c4|exact c5|exact c6|exact c7|exact c8|exact d0|exact d1|exact d2|exact d3|exact d4|exact d5);first|exact List.not_mem_nil|exact m0|exact m1|exact m2|exact m3|exact m4|exact m5|exact m6|exact m7|exact m8|exact m9))|((with_reducible apply t_id);first|(with_reducible apply t_seq)|(apply t_region;kernel_rfl)|((with_reducible apply t_condT);exact rfl)|(with_reducible apply t_ret))|with_reducible apply q_thenN|with_reducible apply q_thenR|(with_reducible apply end_ret)|exact rvs_nil|(with_reducible apply rvs_cons)|((with_reducible apply rv_tmp);exact rfl))
   all_goals rfl
 obtain ⟨bL',oL',xz,e,_,hxz,c1⟩:=in_read hl (show nl-1<nl by omega)
 cases e
 by_cases hb:xz=b
 rotate_left
 · have hgo:goR ((W:Nat):Int) g l a b=(0,false):=by
     unfold goR
     rw [if_pos (.inr (.inr (.inr (by rw [hll,hxz];simpa using hb))))]
   rw [hgo]
   repeat' (first|((with_reducible apply oq_id);first|(focus ((with_reducible apply oq_indexAddrN (i:=0));(iterate 4 exact rfl);omega))|(focus ((with_reducible apply oq_indexAddrN (i:=(nl-1)));(iterate 4 exact rfl);omega))|(focus ((with_reducible apply (oq_subE (k:=((nl-1:Nat):Int))));exact rfl;exact rfl;omega))|((with_reducible apply oq_lssF);exact rfl;exact rfl;omega)|((with_reducible apply oq_eqlF);exact rfl;exact rfl;omega)|((with_reducible apply oq_neqT);exact rfl;exact rfl;omega)|((with_reducible apply oq_neqF);exact rfl;exact rfl;omega)|(apply oq_fn;exact rfl;first|exact trivial|(and_intros<;>omega)|omega|skip)|((with_reducible apply oq_load);exact rfl;exact rfl))|((with_reducible apply tl_id);first|(with_reducible apply tl_nil)|((with_reducible apply u_q);(iterate 4 exact rfl)))|((with_reducible apply rd_id);first|(apply Rd.own;(repeat first|exact P0|apply P1);exact rfl;done)|(apply Rd.old;(first|(with_reducible assumption)|exact c0|exact c1|exact c2|exact c3|exact c4|exact c5|exact c6|exact c7|exact c8|exact d0|exact d1|exact d2|exact d3|exact d4|exact d5);first|exact List.not_mem_nil|exact m0|exact m1|exact m2|exact m3|exact m4|exact m5|exact m6|exact m7|exact m8|exact m9))|((with_reducible apply t_id);first|(with_reducible apply t_seq)|(apply t_region;kernel_rfl)|((with_reducible apply t_condT);exact rfl)|(with_reducible apply t_ret))|with_reducible apply q_thenN|with_reducible apply q_thenR|(with_reducible apply end_ret)|exact rvs_nil|(with_reducible apply rvs_cons)|((with_reducible apply rv_tmp);exact rfl))
   all_goals rfl
 refine t_cut (ι:=Unit) (fun _=>[(1,.slice (some ⟨bL,oL,none⟩) nl cl),(2,.int .i64 a),(3,.int .i64 b),(4,.pointer (some ⟨b4,0,none⟩))]) (fun _=>(b4,[.int .i64 ((W:Nat):Int),.int .i64 ((Hh:Nat):Int),.slice A n cp],some (66,3,1))::[]) (fun _=>True) ?_ ?_
 · repeat' (first|((with_reducible apply oq_id);first|(focus ((with_reducible apply oq_indexAddrN (i:=0));(iterate 4 exact rfl);omega))|(focus ((with_reducible apply oq_indexAddrN (i:=(nl-1)));(iterate 4 exact rfl);omega))|(focus ((with_reducible apply (oq_subE (k:=((nl-1:Nat):Int))));exact rfl;exact rfl;omega))|((with_reducible apply oq_lssF);exact rfl;exact rfl;omega)|((with_reducible apply oq_eqlF);exact rfl;exact rfl;omega)|((with_reducible apply oq_neqF);exact rfl;exact rfl;omega)|(apply oq_fn;exact rfl;first|exact trivial|(and_intros<;>omega)|omega|skip)|((with_reducible apply oq_load);exact rfl;exact rfl))|((with_reducible apply tl_id);first|(with_reducible apply tl_nil)|((with_reducible apply u_q);(iterate 4 exact rfl)))|((with_reducible apply rd_id);first|(apply Rd.own;(repeat first|exact P0|apply P1);exact rfl;done)|(apply Rd.old;(first|(with_reducible assumption)|exact c0|exact c1|exact c2|exact c3|exact c4|exact c5|exact c6|exact c7|exact c8|exact d0|exact d1|exact d2|exact d3|exact d4|exact d5);first|exact List.not_mem_nil|exact m0|exact m1|exact m2|exact m3|exact m4|exact m5|exact m6|exact m7|exact m8|exact m9))|((with_reducible apply t_id);first|(with_reducible apply t_seq)|(apply t_region;kernel_rfl)|((with_reducible apply t_condF);exact rfl)|(with_reducible apply t_skip))|with_reducible apply q_thenN)
   all_goals exact ⟨by trivial,(),trivial,by (repeat first|exact FrSub.nil|(apply FrSub.cons;exact rfl)),by (repeat' (first|exact HpSub.refl _))⟩
 rintro ⟨⟩ -
 have hgo:goR ((W:Nat):Int) g l a b=match goS ((W:Nat):Int) g l nl with|none=>(0,false)|some h=>(h,true):=by
   unfold goR
   rw [if_neg,hll]
   all_goals try (cases goS ((W:Nat):Int) g l nl<;>rfl)
   rintro (h|h|h|h)
   · omega
   · exact hln h
   · exact h (by rw [hx0,ha])
   · exact h (by rw [hll,hxz,hb])
 refine t_cut (ι:=Nat) (fun z=>[(1,.slice (some ⟨bL,oL,none⟩) nl cl),(2,.int .i64 a),(3,.int .i64 b),(4,.pointer (some ⟨b4,0,none⟩)),(10,.map (some z))]) (fun z=>(z,[],mapTg 73 (sM []))::(b4,[.int .i64 ((W:Nat):Int),.int .i64 ((Hh:Nat):Int),.slice A n cp],some (66,3,1))::[]) (fun _=>True) ?_ ?_
 · repeat' (first|((with_reducible apply oq_id);first|(apply oq_fn;exact rfl;first|exact trivial|(and_intros<;>omega)|omega|skip))|((with_reducible apply tl_id);first|(with_reducible apply tl_nil)|((with_reducible apply u_s);(iterate 3 exact rfl);((with_reducible apply os_mkM);intro _))|((with_reducible apply u_q);(iterate 4 exact rfl)))|((with_reducible apply t_id);first|(apply t_region;kernel_rfl)))
   all_goals exact ⟨by trivial,_,trivial,by (repeat first|exact FrSub.nil|(apply FrSub.cons;exact rfl)),by (repeat' (first|exact HpSub.refl _))⟩
 rintro bm -
 try simp only
 repeat' (first|((with_reducible apply oq_id);first|(apply oq_fn;exact rfl;first|exact trivial|(and_intros<;>omega)|omega|skip))|((with_reducible apply tl_id);first|(with_reducible apply tl_nil)|((with_reducible apply u_q);(iterate 4 exact rfl)))|((with_reducible apply t_id);first|(with_reducible apply t_seq)|(apply t_region;kernel_rfl)|(with_reducible apply t_block))|with_reducible apply q_thenN)
 apply t_loopP (ι:=Nat×Int×List Nat) [1,2,3,4,10,42,43] (fun z=>[(11,.int .i64 z.2.1),(44,.int .i64 ((z.1:Nat):Int))]) (fun z=>(bm,[],mapTg 73 (sM z.2.2))::(b4,[.int .i64 ((W:Nat):Int),.int .i64 ((Hh:Nat):Int),.slice A n cp],some (66,3,1))::[]) (fun z=>z.1≤nl∧goS ((W:Nat):Int) g l z.1=some z.2.1∧z.2.2.map (fun c=>((c:Nat):Int))=l.take z.1∧-500≤z.2.1∧z.2.1≤9000) (fun z=>nl-z.1) (0,-500,[])
 (repeat (first|exact KeepF.nil|(apply KeepF.cons;exact rfl)|apply KeepF.skip))
 (repeat first|exact FrSub.nil|(apply FrSub.cons;exact rfl))
 (try simp only [List.cons_append,List.nil_append])
 (repeat' (first|exact HpSub.refl _))
 · exact ⟨Nat.zero_le _,rfl,rfl,by decide,by decide⟩
 rintro ⟨i,h,S⟩ ⟨hi,hgs,hS,hh1,hh2⟩
 simp only at hi hgs hS hh1 hh2
 try simp only [List.cons_append,List.nil_append]
 by_cases hin:i<nl
 rotate_left
 · obtain rfl:i=nl:=by omega
   rw [hgo,hgs]
   repeat' (first|((with_reducible apply oq_id);first|((with_reducible apply oq_lssF);exact rfl;exact rfl;omega)|(apply oq_fn;exact rfl;first|exact trivial|(and_intros<;>omega)|omega|skip))|((with_reducible apply tl_id);first|(with_reducible apply tl_nil)|((with_reducible apply u_q);(iterate 4 exact rfl)))|((with_reducible apply t_id);first|(with_reducible apply t_seq)|(apply t_region;kernel_rfl)|((with_reducible apply t_condF);exact rfl)|(with_reducible apply t_ret)|(with_reducible apply t_exit))|with_reducible apply q_thenN|with_reducible apply q_thenE|((with_reducible apply q_blockE);exact rfl)|(with_reducible apply end_ret)|exact rvs_nil|(with_reducible apply rvs_cons)|((with_reducible apply rv_tmp);exact rfl))
   all_goals rfl
 obtain ⟨bL',oL',x,e,_,hx,c2⟩:=in_read hl hin
 cases e
 have hnx:=goS_next hgs hx
 rw [hgl] at hnx
 have hbad:goS ((W:Nat):Int) g l (i+1)=none→goR ((W:Nat):Int) g l a b=(0,false):=fun e=>by rw [hgo,goS_none e nl (by omega)]
 by_cases hx0':x<0
 · rw [hbad (by rw [hnx,if_neg (by omega)])]
   repeat' (first|((with_reducible apply oq_id);first|(focus ((with_reducible apply oq_indexAddrN (i:=i));(iterate 4 exact rfl);omega))|((with_reducible apply oq_lssT);exact rfl;exact rfl;omega)|(apply oq_fn;exact rfl;first|exact trivial|(and_intros<;>omega)|omega|skip)|((with_reducible apply oq_load);exact rfl;exact rfl))|((with_reducible apply tl_id);first|(with_reducible apply tl_nil)|((with_reducible apply u_q);(iterate 4 exact rfl))|((with_reducible apply u_skip);(iterate 3 exact rfl)))|((with_reducible apply rd_id);first|(apply Rd.old;(first|(with_reducible assumption)|exact c0|exact c1|exact c2|exact c3|exact c4|exact c5|exact c6|exact c7|exact c8|exact d0|exact d1|exact d2|exact d3|exact d4|exact d5);first|exact List.not_mem_nil|exact m0|exact m1|exact m2|exact m3|exact m4|exact m5|exact m6|exact m7|exact m8|exact m9))|((with_reducible apply t_id);first|(with_reducible apply t_seq)|(apply t_region;kernel_rfl)|((with_reducible apply t_condT);exact rfl)|(with_reducible apply t_ret)|(with_reducible apply t_skip)|(with_reducible apply t_block))|with_reducible apply q_thenN|with_reducible apply q_thenR|with_reducible apply q_blockR|(with_reducible apply end_ret)|exact rvs_nil|(with_reducible apply rvs_cons)|((with_reducible apply rv_tmp);exact rfl))
   all_goals rfl
 by_cases hxn:x≥(n:Int)
 · rw [hbad (by rw [hnx,if_neg (by omega)])]
   repeat' (first|((with_reducible apply oq_id);first|(focus ((with_reducible apply oq_indexAddrN (i:=i));(iterate 4 exact rfl);omega))|((with_reducible apply oq_lssT);exact rfl;exact rfl;omega)|((with_reducible apply oq_lssF);exact rfl;exact rfl;omega)|((with_reducible apply oq_geqT);exact rfl;exact rfl;omega)|(apply oq_fn;exact rfl;first|exact trivial|(and_intros<;>omega)|omega|skip)|((with_reducible apply oq_load);exact rfl;exact rfl))|((with_reducible apply tl_id);first|(with_reducible apply tl_nil)|((with_reducible apply u_q);(iterate 4 exact rfl))|((with_reducible apply u_skip);(iterate 3 exact rfl)))|((with_reducible apply rd_id);first|(apply Rd.own;(repeat first|exact P0|apply P1);exact rfl;done)|(apply Rd.old;(first|(with_reducible assumption)|exact c0|exact c1|exact c2|exact c3|exact c4|exact c5|exact c6|exact c7|exact c8|exact d0|exact d1|exact d2|exact d3|exact d4|exact d5);first|exact List.not_mem_nil|exact m0|exact m1|exact m2|exact m3|exact m4|exact m5|exact m6|exact m7|exact m8|exact m9))|((with_reducible apply t_id);first|(with_reducible apply t_seq)|(apply t_region;kernel_rfl)|((with_reducible apply t_condT);exact rfl)|(with_reducible apply t_ret)|(with_reducible apply t_skip)|(with_reducible apply t_block))|with_reducible apply q_thenN|with_reducible apply q_thenR|with_reducible apply q_blockR|(with_reducible apply end_ret)|exact rvs_nil|(with_reducible apply rvs_cons)|((with_reducible apply rv_tmp);exact rfl))
   all_goals rfl
 obtain ⟨c,rfl⟩:=Int.eq_ofNat_of_zero_le (show 0≤x by omega)
 have hcn:c<n:=by omega
 by_cases hcS:c∈S
 · rw [hbad (by rw [hnx,if_neg (fun e=>e.2.1 ((take_mem hS).2 hcS))])]
   repeat' (first|((with_reducible apply oq_id);first|(focus ((with_reducible apply oq_indexAddrN (i:=i));(iterate 4 exact rfl);omega))|((with_reducible apply (oq_seenT (h:=hcS)));exact rfl;exact rfl;(repeat first|exact P0|apply P1))|((with_reducible apply oq_lssT);exact rfl;exact rfl;omega)|((with_reducible apply oq_lssF);exact rfl;exact rfl;omega)|((with_reducible apply oq_geqF);exact rfl;exact rfl;omega)|(apply oq_fn;exact rfl;first|exact trivial|(and_intros<;>omega)|omega|skip)|((with_reducible apply oq_load);exact rfl;exact rfl))|((with_reducible apply tl_id);first|(with_reducible apply tl_nil)|((with_reducible apply u_q);(iterate 4 exact rfl)))|((with_reducible apply rd_id);first|(apply Rd.own;(repeat first|exact P0|apply P1);exact rfl;done)|(apply Rd.old;(first|(with_reducible assumption)|exact c0|exact c1|exact c2|exact c3|exact c4|exact c5|exact c6|exact c7|exact c8|exact d0|exact d1|exact d2|exact d3|exact d4|exact d5);first|exact List.not_mem_nil|exact m0|exact m1|exact m2|exact m3|exact m4|exact m5|exact m6|exact m7|exact m8|exact m9))|((with_reducible apply t_id);first|(with_reducible apply t_seq)|(apply t_region;kernel_rfl)|((with_reducible apply t_condT);exact rfl)|(with_reducible apply t_ret)|(with_reducible apply t_skip)|(with_reducible apply t_block))|with_reducible apply q_thenN|with_reducible apply q_thenR|with_reducible apply q_blockR|(with_reducible apply end_ret)|exact rvs_nil|(with_reducible apply rvs_cons)|((with_reducible apply rv_tmp);exact rfl))
   all_goals rfl
 have hcT:((c:Nat):Int)∉l.take i:=fun e=>hcS ((take_mem hS).1 e)
 obtain ⟨bG,oG,y,e,_,hy,c3⟩:=in_read hg hcn
 subst e
 have hyb:=hgr y (List.mem_of_getElem? hy)
 have hgy:gr g c=y:=by simp [gr,hy]
 obtain ⟨mx,hmx⟩:∃ m,max h y=m:=⟨_,rfl⟩
 have hmx1 : -500≤mx∧mx≤9000:=by omega
 have hSn:(S++[c]).map (fun c=>((c:Nat):Int))=l.take (i+1):=by
   rw [List.map_append,hS,List.take_add_one,hx]
   rfl
 refine t_cut (ι:=Unit) (fun _=>[(1,.slice (some ⟨bL,oL,none⟩) nl cl),(2,.int .i64 a),(3,.int .i64 b),(4,.pointer (some ⟨b4,0,none⟩)),(10,.map (some bm)),(42,.slice (some ⟨bL,oL,none⟩) nl cl),(43,.int .i64 ((nl:Nat):Int)),(44,.int .i64 ((i:Nat):Int)),(11,.int .i64 h),(45,.bool true)]) (fun _=>(bm,[],mapTg 73 (sM S))::(b4,[.int .i64 ((W:Nat):Int),.int .i64 ((Hh:Nat):Int),.slice (some ⟨bG,oG,none⟩) n cp],some (66,3,1))::[]) (fun _=>True) ?_ ?_
 · repeat' (first|((with_reducible apply oq_id);first|((with_reducible apply oq_lssT);exact rfl;exact rfl;omega))|((with_reducible apply tl_id);first|(with_reducible apply tl_nil)|((with_reducible apply u_q);(iterate 4 exact rfl)))|((with_reducible apply t_id);first|(apply t_region;kernel_rfl)))
   all_goals exact ⟨by trivial,(),trivial,by (repeat first|exact FrSub.nil|(apply FrSub.cons;exact rfl)),by (repeat' (first|exact HpSub.refl _))⟩
 rintro ⟨⟩ -
 refine t_cut (ι:=Unit) (fun _=>[(1,.slice (some ⟨bL,oL,none⟩) nl cl),(2,.int .i64 a),(3,.int .i64 b),(4,.pointer (some ⟨b4,0,none⟩)),(10,.map (some bm)),(42,.slice (some ⟨bL,oL,none⟩) nl cl),(43,.int .i64 ((nl:Nat):Int)),(44,.int .i64 ((i:Nat):Int)),(11,.int .i64 h)]) (fun _=>(bm,[],mapTg 73 (sM S))::(b4,[.int .i64 ((W:Nat):Int),.int .i64 ((Hh:Nat):Int),.slice (some ⟨bG,oG,none⟩) n cp],some (66,3,1))::[]) (fun _=>True) ?_ ?_
 · repeat' (first|((with_reducible apply t_id);first|((with_reducible apply t_condT);exact rfl)|(with_reducible apply t_skip)))
   all_goals exact ⟨by trivial,(),trivial,by (repeat first|exact FrSub.nil|(apply FrSub.cons;exact rfl)),by (repeat' (first|exact HpSub.refl _))⟩
 rintro ⟨⟩ -
 with_reducible apply t_seq
 with_reducible apply t_block
 refine t_cut (ι:=Unit) (fun _=>[(1,.slice (some ⟨bL,oL,none⟩) nl cl),(2,.int .i64 a),(3,.int .i64 b),(4,.pointer (some ⟨b4,0,none⟩)),(10,.map (some bm)),(42,.slice (some ⟨bL,oL,none⟩) nl cl),(43,.int .i64 ((nl:Nat):Int)),(44,.int .i64 ((i:Nat):Int)),(11,.int .i64 h),(12,.int .i64 ((i:Nat):Int)),(13,.int .i64 ((c:Nat):Int))]) (fun _=>(bm,[],mapTg 73 (sM S))::(b4,[.int .i64 ((W:Nat):Int),.int .i64 ((Hh:Nat):Int),.slice (some ⟨bG,oG,none⟩) n cp],some (66,3,1))::[]) (fun _=>True) ?_ ?_
 · repeat' (first|((with_reducible apply oq_id);first|(focus ((with_reducible apply oq_indexAddrN (i:=i));(iterate 4 exact rfl);omega))|(apply oq_fn;exact rfl;first|exact trivial|(and_intros<;>omega)|omega|skip)|((with_reducible apply oq_load);exact rfl;exact rfl))|((with_reducible apply tl_id);first|(with_reducible apply tl_nil)|((with_reducible apply u_q);(iterate 4 exact rfl)))|((with_reducible apply rd_id);first|(apply Rd.old;(first|(with_reducible assumption)|exact c0|exact c1|exact c2|exact c3|exact c4|exact c5|exact c6|exact c7|exact c8|exact d0|exact d1|exact d2|exact d3|exact d4|exact d5);first|exact List.not_mem_nil|exact m0|exact m1|exact m2|exact m3|exact m4|exact m5|exact m6|exact m7|exact m8|exact m9))|((with_reducible apply t_id);first|(apply t_region;kernel_rfl)))
   all_goals exact ⟨by trivial,(),trivial,by (repeat first|exact FrSub.nil|(apply FrSub.cons;exact rfl)),by (repeat' (first|exact HpSub.refl _))⟩
 rintro ⟨⟩ -
 refine t_cut (ι:=Unit) (fun _=>[(1,.slice (some ⟨bL,oL,none⟩) nl cl),(2,.int .i64 a),(3,.int .i64 b),(4,.pointer (some ⟨b4,0,none⟩)),(10,.map (some bm)),(42,.slice (some ⟨bL,oL,none⟩) nl cl),(43,.int .i64 ((nl:Nat):Int)),(44,.int .i64 ((i:Nat):Int)),(11,.int .i64 h),(12,.int .i64 ((i:Nat):Int)),(13,.int .i64 ((c:Nat):Int))]) (fun _=>(bm,[],mapTg 73 (sM S))::(b4,[.int .i64 ((W:Nat):Int),.int .i64 ((Hh:Nat):Int),.slice (some ⟨bG,oG,none⟩) n cp],some (66,3,1))::[]) (fun _=>True) ?_ ?_
 · repeat' (first|((with_reducible apply oq_id);first|((with_reducible apply (oq_seenF (h:=hcS)));exact rfl;exact rfl;(repeat first|exact P0|apply P1))|((with_reducible apply oq_lssF);exact rfl;exact rfl;omega)|((with_reducible apply oq_geqF);exact rfl;exact rfl;omega)|(apply oq_fn;exact rfl;first|exact trivial|(and_intros<;>omega)|omega|skip)|((with_reducible apply oq_load);exact rfl;exact rfl))|((with_reducible apply tl_id);first|(with_reducible apply tl_nil)|((with_reducible apply u_q);(iterate 4 exact rfl)))|((with_reducible apply rd_id);first|(apply Rd.own;(repeat first|exact P0|apply P1);exact rfl;done))|((with_reducible apply t_id);first|(with_reducible apply t_seq)|(apply t_region;kernel_rfl)|((with_reducible apply t_condF);exact rfl)|(with_reducible apply t_skip))|with_reducible apply q_thenN)
   all_goals exact ⟨by trivial,(),trivial,by (repeat first|exact FrSub.nil|(apply FrSub.cons;exact rfl)),by (repeat' (first|exact HpSub.refl _))⟩
 rintro ⟨⟩ -
 refine t_cut (ι:=Unit) (fun _=>[(1,.slice (some ⟨bL,oL,none⟩) nl cl),(2,.int .i64 a),(3,.int .i64 b),(4,.pointer (some ⟨b4,0,none⟩)),(10,.map (some bm)),(42,.slice (some ⟨bL,oL,none⟩) nl cl),(43,.int .i64 ((nl:Nat):Int)),(44,.int .i64 ((i:Nat):Int)),(11,.int .i64 h),(12,.int .i64 ((i:Nat):Int)),(13,.int .i64 ((c:Nat):Int))]) (fun _=>(bm,[],mapTg 73 (sM (S++[c])))::(b4,[.int .i64 ((W:Nat):Int),.int .i64 ((Hh:Nat):Int),.slice (some ⟨bG,oG,none⟩) n cp],some (66,3,1))::[]) (fun _=>True) ?_ ?_
 · repeat' (first|((with_reducible apply oq_id);first|(apply oq_fn;exact rfl;first|exact trivial|(and_intros<;>omega)|omega|skip))|((with_reducible apply tl_id);first|(with_reducible apply tl_nil)|((with_reducible apply u_q);(iterate 4 exact rfl))|((with_reducible apply u_s0);exact rfl;exact rfl))|((with_reducible apply os_id);first|((with_reducible apply (os_mark (hnew:=hcS)));(iterate 3 exact rfl);(repeat first|exact P0|apply P1)))|((with_reducible apply t_id);first|(apply t_region;kernel_rfl)))
   all_goals exact ⟨by trivial,(),trivial,by (repeat first|exact FrSub.nil|(apply FrSub.cons;exact rfl)),by (repeat' (first|exact HpSub.refl _))⟩
 rintro ⟨⟩ -
 refine t_cut (ι:=Unit) (fun _=>[(1,.slice (some ⟨bL,oL,none⟩) nl cl),(2,.int .i64 a),(3,.int .i64 b),(4,.pointer (some ⟨b4,0,none⟩)),(10,.map (some bm)),(42,.slice (some ⟨bL,oL,none⟩) nl cl),(43,.int .i64 ((nl:Nat):Int)),(44,.int .i64 ((i:Nat):Int)),(11,.int .i64 mx),(12,.int .i64 ((i:Nat):Int)),(13,.int .i64 ((c:Nat):Int))]) (fun _=>(bm,[],mapTg 73 (sM (S++[c])))::(b4,[.int .i64 ((W:Nat):Int),.int .i64 ((Hh:Nat):Int),.slice (some ⟨bG,oG,none⟩) n cp],some (66,3,1))::[]) (fun _=>True) ?_ ?_
 · repeat' (first|((with_reducible apply oq_id);first|(focus ((with_reducible apply oq_indexAddrN (i:=c));(iterate 4 exact rfl);omega))|((with_reducible apply (oq_max2E (k:=mx)));exact rfl;exact rfl;exact hmx)|(apply oq_fn;exact rfl;first|exact trivial|(and_intros<;>omega)|omega|skip)|((with_reducible apply oq_load);exact rfl;exact rfl))|((with_reducible apply tl_id);first|(with_reducible apply tl_nil)|((with_reducible apply u_q);(iterate 4 exact rfl)))|((with_reducible apply rd_id);first|(apply Rd.own;(repeat first|exact P0|apply P1);exact rfl;done)|(apply Rd.old;(first|(with_reducible assumption)|exact c0|exact c1|exact c2|exact c3|exact c4|exact c5|exact c6|exact c7|exact c8|exact d0|exact d1|exact d2|exact d3|exact d4|exact d5);first|exact List.not_mem_nil|exact m0|exact m1|exact m2|exact m3|exact m4|exact m5|exact m6|exact m7|exact m8|exact m9))|((with_reducible apply t_id);first|(apply t_region;kernel_rfl)))
   all_goals exact ⟨by trivial,(),trivial,by (repeat first|exact FrSub.nil|(apply FrSub.cons;exact rfl)),by (repeat' (first|exact HpSub.refl _))⟩
 rintro ⟨⟩ -
 by_cases hi0:i=0
 · subst hi0
   have hnx':goS ((W:Nat):Int) g l 1=some mx:=by
     rw [show (1:Nat)=0+1 from rfl,hnx,if_pos ⟨⟨by omega,by omega⟩,hcT,.inl rfl⟩,← hmx]
     show some (max h (gr g ((c:Nat):Int).toNat))=_
     rw [Int.toNat_natCast,hgy]
   repeat' (first|((with_reducible apply oq_id);first|(focus ((with_reducible apply (oq_addE (k:=((0+1:Nat):Int))));exact rfl;exact rfl;omega))|((with_reducible apply oq_gtrF);exact rfl;exact rfl;omega)|(apply oq_fn;exact rfl;first|exact trivial|(and_intros<;>omega)|omega|skip))|((with_reducible apply tl_id);first|(with_reducible apply tl_nil)|((with_reducible apply u_q);(iterate 4 exact rfl)))|((with_reducible apply t_id);first|(with_reducible apply t_seq)|(apply t_region;kernel_rfl)|((with_reducible apply t_condF);exact rfl)|(with_reducible apply t_skip))|with_reducible apply q_thenN|with_reducible apply q_blockN)
   all_goals (refine ⟨(1,mx,S++[c]),⟨by simp only;omega,hnx',hSn,hmx1.1,hmx1.2⟩,by simp only;omega,?_,?_⟩<;>(repeat' (first|exact FrSub.nil|(apply FrSub.cons;exact rfl)|exact HpSub.refl _)))
 obtain ⟨bL',oL',p,e,_,hp,c4⟩:=in_read hl (show i-1<nl by omega)
 cases e
 obtain ⟨p',hp',rfl⟩:∃ p':Nat,p'<n∧p=(p':Int):=by
   have h1:p∈l.take i:=List.mem_of_getElem? (i:=i-1) (by rw [List.getElem?_take,if_pos (by omega)];exact hp)
   rw [← hS] at h1
   obtain ⟨q,_,rfl⟩:=List.mem_map.1 h1
   obtain ⟨_,h2⟩:=goS_in t hgl i h hgs
   obtain ⟨q',h3,h4,_⟩:=h2 (i-1) (by omega)
   rw [hp] at h3
   have:=Int.ofNat.inj (Option.some.inj h3)
   exact ⟨q,by omega,rfl⟩
 have m1:((c:Nat):Int).tmod ((W:Nat):Int)=((c % W:Nat):Int):=rfl
 have m2:((p':Nat):Int).tmod ((W:Nat):Int)=((p' % W:Nat):Int):=rfl
 have d1:((c:Nat):Int).tdiv ((W:Nat):Int)=((c / W:Nat):Int):=rfl
 have d2:((p':Nat):Int).tdiv ((W:Nat):Int)=((p' / W:Nat):Int):=rfl
 have b1:c % W<W:=Nat.mod_lt _ (by omega)
 have b2:p' % W<W:=Nat.mod_lt _ (by omega)
 have b3:c / W≤c:=Nat.div_le_self _ _
 have b4':p' / W≤p':=Nat.div_le_self _ _
 have hsd:sideB ((W:Nat):Int) ((c:Nat):Int) ((p':Nat):Int)=decide ((((c % W:Nat):Int)-((p' % W:Nat):Int))*(((c % W:Nat):Int)-((p' % W:Nat):Int))+(((c / W:Nat):Int)-((p' / W:Nat):Int))*(((c / W:Nat):Int)-((p' / W:Nat):Int))=1):=rfl
 obtain ⟨cm,hcm⟩:∃ x,c % W=x:=⟨_,rfl⟩
 obtain ⟨pm,hpm⟩:∃ x,p' % W=x:=⟨_,rfl⟩
 obtain ⟨cd,hcd⟩:∃ x,c / W=x:=⟨_,rfl⟩
 obtain ⟨pd,hpd⟩:∃ x,p' / W=x:=⟨_,rfl⟩
 rw [hcm] at m1 b1
 rw [hpm] at m2 b2
 rw [hcd] at d1 b3
 rw [hpd] at d2 b4'
 rw [hcm,hpm,hcd,hpd] at hsd
 obtain ⟨dx,hdx⟩:∃ x,((cm:Nat):Int)-((pm:Nat):Int)=x:=⟨_,rfl⟩
 obtain ⟨dy,hdy⟩:∃ x,((cd:Nat):Int)-((pd:Nat):Int)=x:=⟨_,rfl⟩
 rw [hdx,hdy] at hsd
 have e1:=mul_abs (x:=dx) (y:=dx) (a:=1000) (b:=1000) (by omega) (by omega)
 have e2:=mul_abs (x:=dy) (y:=dy) (a:=1000) (b:=1000) (by omega) (by omega)
 obtain ⟨XX,hXX⟩:∃ x,dx*dx=x:=⟨_,rfl⟩
 obtain ⟨YY,hYY⟩:∃ x,dy*dy=x:=⟨_,rfl⟩
 rw [hXX,hYY] at hsd
 rw [hXX] at e1
 rw [hYY] at e2
 refine t_cut (ι:=Unit) (fun _=>[(1,.slice (some ⟨bL,oL,none⟩) nl cl),(2,.int .i64 a),(3,.int .i64 b),(4,.pointer (some ⟨b4,0,none⟩)),(10,.map (some bm)),(42,.slice (some ⟨bL,oL,none⟩) nl cl),(43,.int .i64 ((nl:Nat):Int)),(44,.int .i64 ((i:Nat):Int)),(11,.int .i64 mx),(12,.int .i64 ((i:Nat):Int)),(13,.int .i64 ((c:Nat):Int)),(73,.bool true)]) (fun _=>(bm,[],mapTg 73 (sM (S++[c])))::(b4,[.int .i64 ((W:Nat):Int),.int .i64 ((Hh:Nat):Int),.slice (some ⟨bG,oG,none⟩) n cp],some (66,3,1))::[]) (fun _=>True) ?_ ?_
 · repeat' (first|((with_reducible apply oq_id);first|((with_reducible apply oq_gtrT);exact rfl;exact rfl;omega)|(apply oq_fn;exact rfl;first|exact trivial|(and_intros<;>omega)|omega|skip))|((with_reducible apply tl_id);first|(with_reducible apply tl_nil)|((with_reducible apply u_q);(iterate 4 exact rfl)))|((with_reducible apply t_id);first|(apply t_region;kernel_rfl)))
   all_goals exact ⟨by trivial,(),trivial,by (repeat first|exact FrSub.nil|(apply FrSub.cons;exact rfl)),by (repeat' (first|exact HpSub.refl _))⟩
 rintro ⟨⟩ -
 with_reducible apply t_condT
 · exact rfl
 refine t_cut (ι:=Unit) (fun _=>[(1,.slice (some ⟨bL,oL,none⟩) nl cl),(2,.int .i64 a),(3,.int .i64 b),(4,.pointer (some ⟨b4,0,none⟩)),(10,.map (some bm)),(42,.slice (some ⟨bL,oL,none⟩) nl cl),(43,.int .i64 ((nl:Nat):Int)),(44,.int .i64 ((i:Nat):Int)),(11,.int .i64 mx),(12,.int .i64 ((i:Nat):Int)),(13,.int .i64 ((c:Nat):Int)),(14,.int .i64 dx),(15,.int .i64 dy)]) (fun _=>(bm,[],mapTg 73 (sM (S++[c])))::(b4,[.int .i64 ((W:Nat):Int),.int .i64 ((Hh:Nat):Int),.slice (some ⟨bG,oG,none⟩) n cp],some (66,3,1))::[]) (fun _=>True) ?_ ?_
 · repeat' (first|((with_reducible apply oq_id);first|(focus ((with_reducible apply oq_indexAddrN (i:=(i-1)));(iterate 4 exact rfl);omega))|(focus ((with_reducible apply (oq_subE (k:=((i-1:Nat):Int))));exact rfl;exact rfl;omega))|(focus ((with_reducible apply (oq_subE (k:=dx)));exact rfl;exact rfl;omega))|(focus ((with_reducible apply (oq_subE (k:=dy)));exact rfl;exact rfl;omega))|(focus ((with_reducible apply (oq_remY (k:=((cm:Nat):Int))));exact rfl;exact rfl;exact ⟨by first|assumption|rfl,by omega⟩))|(focus ((with_reducible apply (oq_remY (k:=((pm:Nat):Int))));exact rfl;exact rfl;exact ⟨by first|assumption|rfl,by omega⟩))|(focus ((with_reducible apply (oq_quoY (k:=((cd:Nat):Int))));exact rfl;exact rfl;exact ⟨by first|assumption|rfl,by omega⟩;omega))|(focus ((with_reducible apply (oq_quoY (k:=((pd:Nat):Int))));exact rfl;exact rfl;exact ⟨by first|assumption|rfl,by omega⟩;omega))|(apply oq_fn;exact rfl;first|exact trivial|(and_intros<;>omega)|omega|skip)|((with_reducible apply oq_load);exact rfl;exact rfl))|((with_reducible apply gx_id);first|(with_reducible apply v_nil)|((with_reducible apply v_q);(iterate 3 exact rfl)))|((with_reducible apply rd_id);first|(apply Rd.own;(repeat first|exact P0|apply P1);exact rfl;done)|(apply Rd.old;(first|(with_reducible assumption)|exact c0|exact c1|exact c2|exact c3|exact c4|exact c5|exact c6|exact c7|exact c8|exact d0|exact d1|exact d2|exact d3|exact d4|exact d5);first|exact List.not_mem_nil|exact m0|exact m1|exact m2|exact m3|exact m4|exact m5|exact m6|exact m7|exact m8|exact m9))|((with_reducible apply t_id);first|(apply t_drawn;kernel_rfl;decide +kernel;try simp only [List.append_eq,List.cons_append,List.nil_append])))
   all_goals exact ⟨by trivial,(),trivial,by (repeat first|exact FrSub.nil|(apply FrSub.cons;exact rfl)),by (repeat' (first|exact HpSub.refl _))⟩
 rintro ⟨⟩ -
 by_cases h1:XX+YY=1
 · rw [decide_eq_true h1] at hsd
   have hnx':goS ((W:Nat):Int) g l (i+1)=some mx:=by
     rw [hnx,if_pos ⟨⟨by omega,by omega⟩,hcT,.inr ⟨_,hp,hsd⟩⟩,← hmx]
     show some (max h (gr g ((c:Nat):Int).toNat))=_
     rw [Int.toNat_natCast,hgy]
   repeat' (first|((with_reducible apply oq_id);first|(focus ((with_reducible apply (oq_mulE (k:=XX)));exact rfl;exact rfl;exact hXX;omega))|(focus ((with_reducible apply (oq_mulE (k:=YY)));exact rfl;exact rfl;exact hYY;omega))|(focus ((with_reducible apply (oq_addE (k:=((i+1:Nat):Int))));exact rfl;exact rfl;omega))|(focus ((with_reducible apply (oq_addE (k:=XX+YY)));exact rfl;exact rfl;omega))|((with_reducible apply oq_neqF);exact rfl;exact rfl;omega)|(apply oq_fn;exact rfl;first|exact trivial|(and_intros<;>omega)|omega|skip))|((with_reducible apply tl_id);first|(with_reducible apply tl_nil)|((with_reducible apply u_q);(iterate 4 exact rfl)))|((with_reducible apply t_id);first|(with_reducible apply t_seq)|(apply t_region;kernel_rfl)|((with_reducible apply t_condF);exact rfl)|(with_reducible apply t_skip))|with_reducible apply q_thenN|with_reducible apply q_blockN)
   all_goals (refine ⟨(i+1,mx,S++[c]),⟨by simp only;omega,hnx',hSn,hmx1.1,hmx1.2⟩,by simp only;omega,?_,?_⟩<;>(repeat' (first|exact FrSub.nil|(apply FrSub.cons;exact rfl)|exact HpSub.refl _)))
 · rw [decide_eq_false h1] at hsd
   rw [hbad (by rw [hnx,if_neg (fun e=>by
     rcases e.2.2 with e|⟨q,e,e'⟩
     · exact hi0 e
     · rw [hp] at e
       obtain rfl:=Option.some.inj e
       rw [hsd] at e'
       cases e')])]
   repeat' (first|((with_reducible apply oq_id);first|(focus ((with_reducible apply (oq_mulE (k:=XX)));exact rfl;exact rfl;exact hXX;omega))|(focus ((with_reducible apply (oq_mulE (k:=YY)));exact rfl;exact rfl;exact hYY;omega))|(focus ((with_reducible apply (oq_addE (k:=XX+YY)));exact rfl;exact rfl;omega))|((with_reducible apply oq_neqT);exact rfl;exact rfl;omega)|(apply oq_fn;exact rfl;first|exact trivial|(and_intros<;>omega)|omega|skip))|((with_reducible apply tl_id);first|(with_reducible apply tl_nil)|((with_reducible apply u_q);(iterate 4 exact rfl)))|((with_reducible apply t_id);first|(with_reducible apply t_seq)|(apply t_region;kernel_rfl)|((with_reducible apply t_condT);exact rfl)|(with_reducible apply t_ret))|with_reducible apply q_thenN|with_reducible apply q_thenR|with_reducible apply q_blockR|(with_reducible apply end_ret)|exact rvs_nil|(with_reducible apply rvs_cons)|((with_reducible apply rv_tmp);exact rfl))
   all_goals rfl
end Go.Proofs.YtcjkndjjbjoehaaGreat
namespace Go.Proofs.YtcjkndjjbjoehaaGreat
open Go.RowKit
theorem nodup_le:∀ (n:Nat) (P:List Nat),P.Nodup→(∀ c∈P,c<n)→P.length≤n
 | 0,P,_,h=>by
   cases P with
   | nil=>exact Nat.le_refl _
   | cons a l=>exact absurd (h a (List.mem_cons_self ..)) (by omega)
 | n+1,P,hn,h=>by
   have h1:=nodup_le n (P.erase n) (hn.erase n) fun c hc=>by
     have h2:=(hn.mem_erase_iff).1 hc
     have:=h c h2.2
     have:=h2.1
     omega
   rw [List.length_erase] at h1
   split at h1<;>omega
structure Both (W Hh:Int) (g:List Int) (a b e' h h':Int) (P P':List Nat) (w hh x y:Nat) (L:List Nat):Prop where
 e0:e'=0
 eW:W=(w:Int)
 eH:Hh=(hh:Int)
 ea:a=(x:Int)
 eb:b=(y:Int)
 t:Ter w hh g.length
 xn:x<g.length
 yn:y<g.length
 hp:IsPass w g.length g x y h
 d:Dist w g.length g h y L
 eh:h'=h
 el:P'.length=P.length
 ne:P≠[]
 len:P.length=L.getD x 0
 le:P.length≤g.length
 go:goR (w:Int) g (cI P) (x:Int) (y:Int)=(h,true)
 gr:∀ c,c<g.length→-500≤gr g c∧Go.Proofs.YtcjkndjjbjoehaaGreat.gr g c≤9000
theorem isP_both {W Hh:Int} {g:List Int} {a b e h e' h':Int} {P P':List Nat} (p:IsP W Hh g a b e h P) (p':IsP W Hh g b a e' h' P'):(e≠0∧P=[])∨(e=0∧∃ w hh x y L,Both W Hh g a b e' h h' P P' w hh x y L):=by
 cases p with
 | ground h=>exact .inl ⟨by decide,rfl⟩
 | arg h ha=>exact .inl ⟨by decide,rfl⟩
 | @ok w n x y k _ L _ hT hw hn hx hy xn yn hh hB hD hP=>
   refine .inr ⟨rfl,?_⟩
   subst hn
   obtain ⟨w2,hh2,e1,rfl,t,hgr⟩:=ter_of hT
   subst hw
   obtain rfl:=Int.ofNat.inj e1
   subst hx
   subst hy
   obtain ⟨o1,o2,o3⟩:=own_path t rfl xn yn (fun c hc=>(hgr c hc).1) hh hD hP
   have hle:P.length≤g.length:=by
     obtain ⟨_,_,k3⟩:=hP.wlk t hD hh.is.dst xn (hD.reach t yn (hh.is.symm t xn))
     exact nodup_le _ _ (hP.nodup t hD hh.is.dst xn (hD.reach t yn (hh.is.symm t xn))) fun c hc=>(k3 c hc).2
   have hne:P≠[]:=fun e=>by
     rw [e] at o1
     unfold goR at o1
     rw [if_pos (.inr (.inl rfl))] at o1
     cases o1
   cases p' with
   | ground h=>rw [hT] at h;cases h
   | arg h ha=>exact absurd ⟨⟨by omega,by omega⟩,by omega,by omega⟩ ha
   | @ok w' n' x' y' k' _ L' _ hT' hw' hn' hx' hy' xn' yn' hh' hB' hD' hP'=>
     obtain rfl:=Int.ofNat.inj hw'
     subst hn'
     obtain rfl:=Int.ofNat.inj hx'
     obtain rfl:=Int.ofNat.inj hy'
     obtain ⟨b1,b2⟩:=there_back t xn yn hh hh' hD hD' hP hP'
     exact ⟨w,hh2,x,y,L,⟨rfl,rfl,rfl,rfl,rfl,t,xn,yn,hh,hD,b1,b2,hne,o2,hle,o1,hgr⟩⟩
theorem Both.other {W Hh:Int} {g:List Int} {a b e' h h' v:Int} {P P':List Nat} {w hh x y:Nat} {L:List Nat} {l:List Int} (k:Both W Hh g a b e' h h' P P' w hh x y L) (e:goR (w:Int) g l (x:Int) (y:Int)=(v,true)):h≤v∧(v=h→P.length≤l.length):=by
 obtain ⟨h1,h2⟩:=other_path k.t rfl k.yn k.hp k.d e
 exact ⟨h1,fun hv=>k.len ▸ h2 hv⟩
theorem Both.cut {W Hh:Int} {g:List Int} {a b e' h h':Int} {P P':List Nat} {w hh x y:Nat} {L:List Nat} {S:List Nat} (k:Both W Hh g a b e' h h' P P' w hh x y L) (hS:∀ c∈S,Rch w g.length g (h-1) x c):y∉S:=fun hy=>by
 have:=k.hp.least _ (hS y hy)
 omega
theorem nb_of {W Hh n:Nat} (t:Ter W Hh n) {a c:Nat} (ha:a<n) (hc:c<n) (h:(c:Int)=(a:Int)-W∨(c:Int)=(a:Int)+W∨(c:Int)=(a:Int)-1∨(c:Int)=(a:Int)+1) (hx:¬ (1<W∧(((c:Int)=(a:Int)-1∧a % W=0)∨((c:Int)=(a:Int)+1∧c % W=0)))):c∈nb W n a:=by
 have tw:=t.w1
 rw [mem_nb]
 by_cases h1:W=1
 · subst h1
   rcases h with h|h|h|h
   · exact .inl ⟨by omega,by omega⟩
   · exact .inr (.inr (.inr ⟨by omega,by omega⟩))
   · exact .inl ⟨by omega,by omega⟩
   · exact .inr (.inr (.inr ⟨by omega,by omega⟩))
 have hW:1<W:=by omega
 rcases h with h|h|h|h
 · exact .inl ⟨by omega,by omega⟩
 · exact .inr (.inr (.inr ⟨by omega,by omega⟩))
 · refine .inr (.inl ⟨?_,by omega⟩)
   rcases Nat.eq_zero_or_pos (a % W) with h2|h2
   · exact absurd ⟨hW,.inl ⟨h,h2⟩⟩ hx
   · exact h2
 · refine .inr (.inr (.inl ⟨?_,by omega⟩))
   rcases Nat.lt_or_ge (a % W+1) W with h2|h2
   · exact h2
   · refine absurd ⟨hW,.inr ⟨h,?_⟩⟩ hx
     have h3:a % W<W:=Nat.mod_lt _ (by omega)
     have h4:=Nat.div_add_mod a W
     have h5:c=W*(a / W+1):=by rw [Nat.mul_add];omega
     rw [h5]
     exact Nat.mul_mod_right _ _
structure Srch (W n:Nat) (g:List Int) (h:Int) (p:Nat) (S u:List Nat):Prop where
 lt:∀ c∈S,c<n
 rch:∀ c∈S,Rch W n g h p c
 nd:S.Nodup
 suf:∃ pre,S=pre++u
section
variable {W Hh n:Nat} {g:List Int} {h:Int} {p:Nat} {S u:List Nat}
theorem Srch.nil:Srch W n g h p [] []:=⟨fun c hc=>(nomatch hc),fun c hc=>(nomatch hc),List.nodup_nil,[],rfl⟩
theorem Srch.one (hp:p<n) (hg:gr g p≤h):Srch W n g h p [p] [p]:=⟨fun c hc=>(by rw [List.mem_singleton.1 hc];exact hp),fun c hc=>(by rw [List.mem_singleton.1 hc];exact .refl hg),by simp,[],rfl⟩
theorem Srch.len (k:Srch W n g h p S u):u.length≤S.length∧S.length≤n:=by
 refine ⟨?_,nodup_le _ _ k.nd k.lt⟩
 obtain ⟨pre,e⟩:=k.suf
 rw [e,List.length_append]
 omega
theorem Srch.hd {a:Nat} (k:Srch W n g h p S (a::u)):a∈S:=by
 obtain ⟨pre,e⟩:=k.suf
 rw [e]
 simp
theorem Srch.tl {a:Nat} (k:Srch W n g h p S (a::u)):Srch W n g h p S u:=by
 obtain ⟨pre,e⟩:=k.suf
 exact ⟨k.lt,k.rch,k.nd,pre++[a],by rw [e];simp⟩
theorem Srch.add {a c:Nat} (k:Srch W n g h p S u) (ha:a∈S) (hc:c<n) (hn:c∈nb W n a) (hg:gr g c≤h) (hS:c∉S):Srch W n g h p (S++[c]) (u++[c]):=by
 obtain ⟨pre,e⟩:=k.suf
 refine ⟨fun z hz=>?_,fun z hz=>?_,?_,pre,by rw [e];simp⟩
 · rcases List.mem_append.1 hz with hz|hz
   · exact k.lt z hz
   · obtain rfl:=List.mem_singleton.1 hz
     exact hc
 · rcases List.mem_append.1 hz with hz|hz
   · exact k.rch z hz
   · obtain rfl:=List.mem_singleton.1 hz
     exact .step (k.rch a ha) hn hg
 · rw [List.nodup_append]
   refine ⟨k.nd,by simp,fun x hx y hy e=>?_⟩
   obtain rfl:=List.mem_singleton.1 hy
   exact hS (e ▸ hx)
end
end Go.Proofs.YtcjkndjjbjoehaaGreat
