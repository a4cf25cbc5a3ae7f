/- A part of the proof: rules for walks, and contracts of functions (1). -/
import Derived.WalkKit
import Derived.Lib.Hide
import Derived.Orders
import Derived.Still
import Derived.Test.YtcjkndjjbjoehaaChecked
import Derived.IntWalk
import Derived.Maps.AppendAt
import Derived.OrdersIn
import Derived.TacticsIn
import Derived.RangeFuncCalls
set_option linter.unusedVariables false
set_option linter.unusedSimpArgs false
set_option maxRecDepth 100000
set_option maxHeartbeats 2000000
namespace Go.Proofs.Ytcjkndjjbjoehaa
open Go.RowKit
def Ext (w w':World):Prop:=Below w.heap.size w w'
theorem Ext.refl (w:World):Ext w w:=Below.refl _ _
theorem Ext.size {a b:World} (h:Ext a b):a.heap.size≤b.heap.size:=Below.size h
theorem Ext.trans {a b c:World} (h:Ext a b) (k:Ext b c):Ext a c:=Below.trans h (Below.mono k h.size)
theorem Ext.drew {a b:World} (h:Ext a b):Ext a b.drew:=Below.drew h
theorem Ext.alloc {a b:World} (h:Ext a b) (o:Obj):Ext a (b.alloc o):=Below.alloc h h.size o
theorem Ext.setCell {a b:World} (h:Ext a b) {p:Addr} (hp:a.heap.size≤p.block) (u:Value):Ext a (b.setCell p u):=Below.setCell h hp u
theorem Ext.of_alloc {a b:World} {o:Obj} (h:Ext (a.alloc o) b):Ext a b:=Ext.trans ((Ext.refl a).alloc o) h
theorem cell_lt {a:World} {p:Addr} {v:Value} (hc:a.cell? p=some v):p.block<a.heap.size:=by
 unfold World.cell? at hc
 rcases Nat.lt_or_ge p.block a.heap.size with h1|h1
 · exact h1
 · rw [Array.getElem?_eq_none h1] at hc;cases hc
theorem Ext.cell {a b:World} (h:Ext a b) {p:Addr} {v:Value} (hc:a.cell? p=some v):b.cell? p=some v:=by
 rw [Below.cell h (cell_lt hc)];exact hc
/-! What is known behind a call, as rules for the walk -/
theorem Ext.rules {w w':World} (h:Ext w w'):(∀ b o,b<w.heap.size→w'.cell? ⟨b,o,none⟩=w.cell? ⟨b,o,none⟩)∧(∀ b,b<w.heap.size→b<w'.heap.size):=
 ⟨fun b o hb=>Below.cell (p:=⟨b,o,none⟩) h hb,fun _ hb=>Nat.lt_of_lt_of_le hb h.size⟩
theorem Ext.frz {w w':World} (h:Ext w w'):∀ b o,b<w.heap.size→w'.frozen? ⟨b,o,none⟩=w.frozen? ⟨b,o,none⟩:=
 fun b o hb=>Below.frozen (p:=⟨b,o,none⟩) h hb
def isNew (w:World) (b:Nat) (C:Array Value):Prop:=(∀ o,w.cell? ⟨b,o,none⟩=C[o]?)∧(∀ o,w.frozen? ⟨b,o,none⟩=false)∧b<w.heap.size
theorem Ext.new {w w':World} {C:Array Value} {t:TypeId} (h:Ext (w.alloc (.cells C t)) w'):isNew w' w.heap.size C:=
  ⟨fun o=>by rw [Below.cell (p:=⟨w.heap.size,o,none⟩) h (by simp)];simp,
   fun o=>by rw [Below.frozen (p:=⟨w.heap.size,o,none⟩) h (by simp)];simp [go_sem],
   Nat.lt_of_lt_of_le (by simp) h.size⟩
theorem isNew.ext {w w':World} {b:Nat} {C:Array Value} (h:isNew w b C) (he:Ext w w'):isNew w' b C:=
 ⟨fun o=>(Below.cell (p:=⟨b,o,none⟩) he h.2.2).trans (h.1 o),fun o=>(Below.frozen (p:=⟨b,o,none⟩) he h.2.2).trans (h.2.1 o),Nat.lt_of_lt_of_le h.2.2 he.size⟩
theorem Ext.blk {w w':World} {b:Nat} {C:Array Value} (he:Ext w w') (h:(∀ o,w.cell? ⟨b,o,none⟩=C[o]?)∧(∀ o,w.frozen? ⟨b,o,none⟩=false)∧b<w.heap.size) :
   (∀ o,w'.cell? ⟨b,o,none⟩=C[o]?)∧(∀ o,w'.frozen? ⟨b,o,none⟩=false)∧b<w'.heap.size:=isNew.ext h he
def isOld (w w':World):Prop:=(∀ b o,b<w.heap.size→w'.cell? ⟨b,o,none⟩=w.cell? ⟨b,o,none⟩)∧(∀ b o,b<w.heap.size→w'.frozen? ⟨b,o,none⟩=w.frozen? ⟨b,o,none⟩)∧(∀ b,b<w.heap.size→b<w'.heap.size)
theorem Ext.old {w w':World} (h:Ext w w'):isOld w w':=
 ⟨h.rules.1,h.frz,h.rules.2⟩
theorem Ext.use {w w':World} {M:Prop} (h:Ext w w') (k:Ext w w'→((∀ b o,b<w.heap.size→w'.cell? ⟨b,o,none⟩=w.cell? ⟨b,o,none⟩)∧(∀ b o,b<w.heap.size→w'.frozen? ⟨b,o,none⟩=w.frozen? ⟨b,o,none⟩)∧(∀ b,b<w.heap.size→b<w'.heap.size))→M):M:=k h h.old
theorem Ext.use1 {w w':World} {M:Prop} {C1:Array Value} {t1:TypeId} (h:Ext (w.alloc (.cells C1 t1)) w')
   (k:Ext w w'→((∀ b o,b<w.heap.size→w'.cell? ⟨b,o,none⟩=w.cell? ⟨b,o,none⟩)∧(∀ b o,b<w.heap.size→w'.frozen? ⟨b,o,none⟩=w.frozen? ⟨b,o,none⟩)∧(∀ b,b<w.heap.size→b<w'.heap.size))→((∀ o,w'.cell? ⟨w.heap.size,o,none⟩=C1[o]?)∧(∀ o,w'.frozen? ⟨w.heap.size,o,none⟩=false)∧w.heap.size<w'.heap.size)→M):M:=
 k h.of_alloc h.of_alloc.old h.new
theorem Ext.use2 {w w':World} {M:Prop} {C1 C2:Array Value} {t1 t2:TypeId} (h:Ext ((w.alloc (.cells C1 t1)).alloc (.cells C2 t2)) w')
   (k:Ext w w'→((∀ b o,b<w.heap.size→w'.cell? ⟨b,o,none⟩=w.cell? ⟨b,o,none⟩)∧(∀ b o,b<w.heap.size→w'.frozen? ⟨b,o,none⟩=w.frozen? ⟨b,o,none⟩)∧(∀ b,b<w.heap.size→b<w'.heap.size))→((∀ o,w'.cell? ⟨w.heap.size,o,none⟩=C1[o]?)∧(∀ o,w'.frozen? ⟨w.heap.size,o,none⟩=false)∧w.heap.size<w'.heap.size)→((∀ o,w'.cell? ⟨w.heap.size+1,o,none⟩=C2[o]?)∧(∀ o,w'.frozen? ⟨w.heap.size+1,o,none⟩=false)∧w.heap.size+1<w'.heap.size)→M):M:=
 h.of_alloc.use1 fun x y a=>k x y a (by simpa [isNew] using h.new)
theorem Ext.use3 {w w':World} {M:Prop} {C1 C2 C3:Array Value} {t1 t2 t3:TypeId} (h:Ext (((w.alloc (.cells C1 t1)).alloc (.cells C2 t2)).alloc (.cells C3 t3)) w')
   (k:Ext w w'→((∀ b o,b<w.heap.size→w'.cell? ⟨b,o,none⟩=w.cell? ⟨b,o,none⟩)∧(∀ b o,b<w.heap.size→w'.frozen? ⟨b,o,none⟩=w.frozen? ⟨b,o,none⟩)∧(∀ b,b<w.heap.size→b<w'.heap.size))→((∀ o,w'.cell? ⟨w.heap.size,o,none⟩=C1[o]?)∧(∀ o,w'.frozen? ⟨w.heap.size,o,none⟩=false)∧w.heap.size<w'.heap.size)→((∀ o,w'.cell? ⟨w.heap.size+1,o,none⟩=C2[o]?)∧(∀ o,w'.frozen? ⟨w.heap.size+1,o,none⟩=false)∧w.heap.size+1<w'.heap.size)→((∀ o,w'.cell? ⟨w.heap.size+2,o,none⟩=C3[o]?)∧(∀ o,w'.frozen? ⟨w.heap.size+2,o,none⟩=false)∧w.heap.size+2<w'.heap.size)→M):M:=
 h.of_alloc.use2 fun x y a b=>k x y a b (by simpa [isNew] using h.new)
theorem Ext.use4 {w w':World} {M:Prop} {C1 C2 C3 C4:Array Value} {t1 t2 t3 t4:TypeId} (h:Ext ((((w.alloc (.cells C1 t1)).alloc (.cells C2 t2)).alloc (.cells C3 t3)).alloc (.cells C4 t4)) w')
   (k:Ext w w'→((∀ b o,b<w.heap.size→w'.cell? ⟨b,o,none⟩=w.cell? ⟨b,o,none⟩)∧(∀ b o,b<w.heap.size→w'.frozen? ⟨b,o,none⟩=w.frozen? ⟨b,o,none⟩)∧(∀ b,b<w.heap.size→b<w'.heap.size))→((∀ o,w'.cell? ⟨w.heap.size,o,none⟩=C1[o]?)∧(∀ o,w'.frozen? ⟨w.heap.size,o,none⟩=false)∧w.heap.size<w'.heap.size)→((∀ o,w'.cell? ⟨w.heap.size+1,o,none⟩=C2[o]?)∧(∀ o,w'.frozen? ⟨w.heap.size+1,o,none⟩=false)∧w.heap.size+1<w'.heap.size)→((∀ o,w'.cell? ⟨w.heap.size+2,o,none⟩=C3[o]?)∧(∀ o,w'.frozen? ⟨w.heap.size+2,o,none⟩=false)∧w.heap.size+2<w'.heap.size)→((∀ o,w'.cell? ⟨w.heap.size+3,o,none⟩=C4[o]?)∧(∀ o,w'.frozen? ⟨w.heap.size+3,o,none⟩=false)∧w.heap.size+3<w'.heap.size)→M):M:=
 h.of_alloc.use3 fun x y a b c=>k x y a b c (by simpa [isNew] using h.new)
theorem Ext.use5 {w w':World} {M:Prop} {C1 C2 C3 C4 C5:Array Value} {t1 t2 t3 t4 t5:TypeId} (h:Ext (((((w.alloc (.cells C1 t1)).alloc (.cells C2 t2)).alloc (.cells C3 t3)).alloc (.cells C4 t4)).alloc (.cells C5 t5)) w')
   (k:Ext w w'→((∀ b o,b<w.heap.size→w'.cell? ⟨b,o,none⟩=w.cell? ⟨b,o,none⟩)∧(∀ b o,b<w.heap.size→w'.frozen? ⟨b,o,none⟩=w.frozen? ⟨b,o,none⟩)∧(∀ b,b<w.heap.size→b<w'.heap.size))→((∀ o,w'.cell? ⟨w.heap.size,o,none⟩=C1[o]?)∧(∀ o,w'.frozen? ⟨w.heap.size,o,none⟩=false)∧w.heap.size<w'.heap.size)→((∀ o,w'.cell? ⟨w.heap.size+1,o,none⟩=C2[o]?)∧(∀ o,w'.frozen? ⟨w.heap.size+1,o,none⟩=false)∧w.heap.size+1<w'.heap.size)→((∀ o,w'.cell? ⟨w.heap.size+2,o,none⟩=C3[o]?)∧(∀ o,w'.frozen? ⟨w.heap.size+2,o,none⟩=false)∧w.heap.size+2<w'.heap.size)→((∀ o,w'.cell? ⟨w.heap.size+3,o,none⟩=C4[o]?)∧(∀ o,w'.frozen? ⟨w.heap.size+3,o,none⟩=false)∧w.heap.size+3<w'.heap.size)→((∀ o,w'.cell? ⟨w.heap.size+4,o,none⟩=C5[o]?)∧(∀ o,w'.frozen? ⟨w.heap.size+4,o,none⟩=false)∧w.heap.size+4<w'.heap.size)→M):M:=
 h.of_alloc.use4 fun x y a b c d=>k x y a b c d (by simpa [isNew] using h.new)
theorem Ext.use6 {w w':World} {M:Prop} {C1 C2 C3 C4 C5 C6:Array Value} {t1 t2 t3 t4 t5 t6:TypeId} (h:Ext ((((((w.alloc (.cells C1 t1)).alloc (.cells C2 t2)).alloc (.cells C3 t3)).alloc (.cells C4 t4)).alloc (.cells C5 t5)).alloc (.cells C6 t6)) w')
   (k:Ext w w'→((∀ b o,b<w.heap.size→w'.cell? ⟨b,o,none⟩=w.cell? ⟨b,o,none⟩)∧(∀ b o,b<w.heap.size→w'.frozen? ⟨b,o,none⟩=w.frozen? ⟨b,o,none⟩)∧(∀ b,b<w.heap.size→b<w'.heap.size))→((∀ o,w'.cell? ⟨w.heap.size,o,none⟩=C1[o]?)∧(∀ o,w'.frozen? ⟨w.heap.size,o,none⟩=false)∧w.heap.size<w'.heap.size)→((∀ o,w'.cell? ⟨w.heap.size+1,o,none⟩=C2[o]?)∧(∀ o,w'.frozen? ⟨w.heap.size+1,o,none⟩=false)∧w.heap.size+1<w'.heap.size)→((∀ o,w'.cell? ⟨w.heap.size+2,o,none⟩=C3[o]?)∧(∀ o,w'.frozen? ⟨w.heap.size+2,o,none⟩=false)∧w.heap.size+2<w'.heap.size)→((∀ o,w'.cell? ⟨w.heap.size+3,o,none⟩=C4[o]?)∧(∀ o,w'.frozen? ⟨w.heap.size+3,o,none⟩=false)∧w.heap.size+3<w'.heap.size)→((∀ o,w'.cell? ⟨w.heap.size+4,o,none⟩=C5[o]?)∧(∀ o,w'.frozen? ⟨w.heap.size+4,o,none⟩=false)∧w.heap.size+4<w'.heap.size)→((∀ o,w'.cell? ⟨w.heap.size+5,o,none⟩=C6[o]?)∧(∀ o,w'.frozen? ⟨w.heap.size+5,o,none⟩=false)∧w.heap.size+5<w'.heap.size)→M):M:=
 h.of_alloc.use5 fun x y a b c d e=>k x y a b c d e (by simpa [isNew] using h.new)
structure RdS (w:World) (k:Nat) (A:Option Addr) (n:Nat) (xs:List (List Value)):Prop where
 len:xs.length=n
 at_:0<n→∃ b o,A=some ⟨b,o,none⟩∧b<w.heap.size∧∀ (i:Nat) (x:List Value),xs[i]?=some x→x.length=k∧∀ (j:Nat) (u:Value),x[j]?=some u→w.cell? ⟨b,o+i*k+j,none⟩=some u
theorem RdS.ext {w w':World} {k:Nat} {A:Option Addr} {n:Nat} {xs:List (List Value)} (h:RdS w k A n xs) (he:Ext w w'):RdS w' k A n xs:=
 ⟨h.len,fun hn=>by
   obtain ⟨b,o,rfl,hb,hc⟩:=h.at_ hn
   exact ⟨b,o,rfl,Nat.lt_of_lt_of_le hb he.size,fun i x hx=>⟨(hc i x hx).1,fun j u hu=>he.cell ((hc i x hx).2 j u hu)⟩⟩⟩
theorem RdS.nil (w:World) (k:Nat) (A:Option Addr):RdS w k A 0 []:=⟨rfl,fun h=>absurd h (by omega)⟩
theorem RdS.row1 {w:World} {b n:Nat} {xs:List Value} {t:TypeId} (hb:b=w.heap.size) (hn:n=xs.length):RdS (w.alloc (.cells xs.toArray t)) 1 (some ⟨b,0,none⟩) n (xs.map fun x=>[x]):=by
 subst hb hn
 refine ⟨by simp,fun _=>⟨_,_,rfl,by simp,fun i y hy=>?_⟩⟩
 simp only [List.getElem?_map,Option.map_eq_some_iff] at hy
 obtain ⟨x,hx,rfl⟩:=hy
 refine ⟨rfl,fun j u hu=>?_⟩
 match j,hu with
 | 0,hu=>
   obtain rfl:x=u:=by simpa using hu
   simpa using hx
/-! max and min, without a parting of the ways -/
theorem max_ite (a b:Int):(if a<b then b else a)=max a b:=by omega
theorem min_ite (a b:Int):(if b<a then b else a)=min a b:=by omega
@[go_sem ↓] theorem run_max2 {P:Program} (T:Array TypeId) (t:TypeId) (a b:Int) (w:World):(Builtin.max_ T t #[.int .i64 a,.int .i64 b]).run P w=.ok (.int .i64 (max a b)) w:=by
 rw [← max_ite]
 go_simp
@[go_sem ↓] theorem run_min2 {P:Program} (T:Array TypeId) (t:TypeId) (a b:Int) (w:World):(Builtin.min_ T t #[.int .i64 a,.int .i64 b]).run P w=.ok (.int .i64 (min a b)) w:=by
 rw [← min_ite]
 go_simp
@[go_sem ↓] theorem run_max3 {P:Program} (T:Array TypeId) (t:TypeId) (a b c:Int) (w:World):(Builtin.max_ T t #[.int .i64 a,.int .i64 b,.int .i64 c]).run P w=.ok (.int .i64 (max (max a b) c)) w:=by
 rw [← max_ite,← max_ite]
 simp [Builtin.max_,Builtin.max2,go_sem]
@[go_sem ↓] theorem run_min3 {P:Program} (T:Array TypeId) (t:TypeId) (a b c:Int) (w:World):(Builtin.min_ T t #[.int .i64 a,.int .i64 b,.int .i64 c]).run P w=.ok (.int .i64 (min (min a b) c)) w:=by
 rw [← min_ite,← min_ite]
 simp [Builtin.min_,Builtin.min2,go_sem]
theorem RdS.row {w:World} {k:Nat} {A:Option Addr} {n:Nat} {xs:List (List Value)} (h:RdS w k A n xs) {i:Nat} (hi:i<n) :
   ∃ b o x,A=some ⟨b,o,none⟩∧b<w.heap.size∧xs[i]?=some x∧x.length=k∧∀ (j:Nat) (u:Value),x[j]?=some u→w.cell? ⟨b,o+i*k+j,none⟩=some u:=by
 obtain ⟨b,o,hA,hb,hc⟩:=h.at_ (by omega)
 have hl:i<xs.length:=by have:=h.len;omega
 exact ⟨b,o,xs[i],hA,hb,List.getElem?_eq_getElem hl,(hc i _ (List.getElem?_eq_getElem hl)).1,(hc i _ (List.getElem?_eq_getElem hl)).2⟩
theorem ret_bool {a b:Bool} (h:a=b):Ending.returned (.bool a)=.returned (.bool b):=by rw [h]
def QF:Exit→Act→World→Prop:=fun _ _ _=>False
section
variable {P:Program} {ops:Array Oper}
theorem wp_of_QF {o:Oper} {a:Act} {w:World} {K:Act→World→Prop} {Q:Exit→Act→World→Prop} (hh:o.wp P a w K QF):o.wp P a w K Q:=by
 unfold Oper.wp at *
 generalize (execOp a.eval o).run P w=r at *
 cases r with
 | ok n w'=>
   cases n<;>simp only [Oper.upon] at hh ⊢ <;>
     first
       | exact hh
       | exact Calls.mono hh (fun e w'' he=>by cases e<;>first|exact he|exact he.elim|exact (he.elim fun _ h=>h.elim fun _ h=>h.elim))
 | halt x w'=>cases x<;>simp only [Oper.upon] at hh ⊢<;>first|exact hh|exact hh.elim
theorem wpOp_of_QF {i:Nat} {a:Act} {w:World} {K:Act→World→Prop} {Q:Exit→Act→World→Prop} (hh:wpOp P ops QF i K a w):wpOp P ops Q i K a w:=by
 unfold wpOp at *
 split
 · rename_i ho;simp only [ho] at hh;exact hh
 · rename_i o ho
   simp only [ho] at hh
   split
   · rename_i hw
     simp only [hw,if_true] at hh
     rcases hh with h|⟨_,_,_,h⟩
     · exact .inl (wp_of_QF h)
     · exact h.elim
   · rename_i hw;simp only [hw] at hh;exact hh
def givesUpon (P:Program) (K:Value→World→Prop):Result Next→Prop
 | .ok (.value u) w'=>K u w'
 | .ok .skip w'=>K undef w'
 | .ok (.enter f args) w'=>Calls P f args w' fun e w''=>∃ v,e=.returned v∧K v w''
 | .ok (.row row args) w'=>Rows P row args w' K
 | _=>False
def GQ (P:Program) (o:Oper) (a:Act) (W:World) (v:Value):Prop:=∀ w,Ext W w→givesUpon P (fun u w'=>u=v∧Ext w w') ((execOp a.eval o).run P w)
theorem wpOp_put2 {S:Act→Prop} {j:Nat} {oi oj:Oper} {v:Value} (hj:ops[j]?=some oj) (hap:oi.apart ops oj=true) (hsj:∀ cs b,oj.op≠.select cs b)
   (keep:∀ a u,S a→S (a.put oj.dst u)) (keepD:∀ (a:Act) d,S a→S { a with defers:=d::a.defers }) {K:Act→World→Prop} {a:Act} {w:World}
   (hy:S a) (h:wpOp P ops QF j K (a.put oi.dst v) w):wpOp P ops QF j (fun a' w'=>S a'∧K (a'.put oi.dst v) w') a w:=by
 obtain ⟨h1,h2,h3⟩:=Oper.apart_spec hap
 unfold wpOp at *
 simp only [hj] at *
 rw [wanted_put oj a oi.dst v h1] at h
 split
 · rename_i hw
   simp only [hw,if_true] at h
   rcases h with h|⟨_,_,_,h⟩
   case inr=>exact h.elim
   refine .inl ?_
   unfold Oper.wp at *
   rw [execOp_put oj hsj a oi.dst v h1] at h
   generalize (execOp a.eval oj).run P w=r at *
   cases r with
   | ok n w'=>
     cases n<;>simp only [Oper.upon] at h ⊢
     case value u=>exact ⟨keep a u hy,by rw [← Act.put_comm a v u h2];exact h⟩
     case skip=>exact ⟨keep a _ hy,by rw [← Act.put_comm a v undef h2];exact h⟩
     case defer d=>
       refine ⟨keep _ _ (keepD _ d hy),?_⟩
       rw [← Act.put_comm _ v undef h2,← Act.put_defers]
       exact h
     case enter f args=>
       refine Calls.mono h fun e w'' he=>?_
       cases e with
       | returned u=>exact ⟨keep a u hy,by rw [← Act.put_comm a v u h2];exact he⟩
       | panicked c=>exact he
       | outgrown=>obtain ⟨_,_,h⟩:=he;exact h.elim
     case row row args=>exact Rows.mono h fun u w'' he=>⟨keep a u hy,by rw [← Act.put_comm a v u h2];exact he⟩
   | halt x w'=>
     cases x<;>simp only [Oper.upon] at h ⊢
     case panic u=>exact h
 · rename_i hw
   simp only [hw] at h
   exact ⟨keep a _ hy,by rw [← Act.put_comm a v undef h2];exact h⟩
def SAny (P:Program) (ops:Array Oper) (cov:Array Bool) (Q:Act→World→Prop):Nat→Array Bool→Act→World→Prop
 | 0,listed,a,w=>Region.ready .any ops listed=[]∧Q a w
 | n+1,listed,a,w=>(Region.ready .any ops listed=[]→Q a w) ∧
     ∀ i∈Region.ready .any ops listed,wpOp P ops QF i (fun a' w'=>(cov.getD i false=false→Ext w w')∧∀ w'',Ext w' w''→SAny P ops cov Q n (listed.setIfInBounds i true) a' w'') a w
def Down (ops:Array Oper) (listed:Array Bool):Prop:=
 ∀ (k:Nat) (o:Oper),listed.getD k false=true→ops[k]?=some o→∀ e∈o.after,Region.binds .any e=true→listed.getD e.on false=true
theorem Down.none (n:Nat):Down ops (Array.replicate n false):=by
 intro k o hk
 by_cases hkn:k<n<;>simp [hkn] at hk
theorem Down.set {listed:Array Bool} {j:Nat} (h:Down ops listed) (hj:j∈Region.ready .any ops listed):Down ops (listed.setIfInBounds j true):=by
 intro k o hk ho e he hb
 by_cases hkj:j=k
 · subst hkj
   obtain ⟨_,o',ho',hall⟩:=mem_ready.1 hj
   rw [ho'] at ho
   obtain rfl:=Option.some.inj ho
   exact getD_set_true (hall e he hb)
 · rw [getD_set_ne false hkj] at hk
   exact getD_set_true (h k o hk ho e he hb)
def markAll (es:List Edge) (m:Array Bool):Array Bool:=es.foldl (fun m e=>if Region.binds .any e then m.setIfInBounds e.on true else m) m
def marksTo (ops:Array Oper):Nat→Array Bool→Array Bool
 | 0,m=>m
 | k+1,m=>marksTo ops k (if m.getD k false then (match ops[k]? with|some o=>markAll o.after.toList m|none=>m) else m)
def waitsFor (ops:Array Oper) (j:Nat):Array Bool:=
 match ops[j]? with
 | some o=>marksTo ops ops.size (markAll o.after.toList (Array.replicate ops.size false))
 | none=>#[]
theorem markAll_listed {listed:Array Bool}:∀ (es:List Edge) (m:Array Bool),(∀ e∈es,Region.binds .any e=true→listed.getD e.on false=true)→(∀ k,m.getD k false=true→listed.getD k false=true) →
   ∀ k,(markAll es m).getD k false=true→listed.getD k false=true
 | [],_,_,hm=>hm
 | e::es,m,he,hm=>by
   refine markAll_listed es _ (fun e' h'=>he e' (List.mem_cons_of_mem _ h')) ?_
   intro k hk
   dsimp only at hk
   split at hk
   · rename_i hb
     by_cases hke:e.on=k
     · subst hke;exact he e (List.mem_cons_self ..) hb
     · rw [getD_set_ne false hke] at hk;exact hm k hk
   · exact hm k hk
theorem marksTo_listed {listed:Array Bool} (h:Down ops listed):∀ (n:Nat) (m:Array Bool),(∀ k,m.getD k false=true→listed.getD k false=true)→∀ k,(marksTo ops n m).getD k false=true→listed.getD k false=true
 | 0,_,hm=>hm
 | n+1,m,hm=>by
   refine marksTo_listed h n _ ?_
   intro k hk
   split at hk
   · rename_i hn
     split at hk
     · rename_i o ho
       exact markAll_listed _ _ (fun e he hb=>h n o (hm n hn) ho e (by simpa using he) hb) hm k hk
     · exact hm k hk
   · exact hm k hk
def covFor (ops:Array Oper) (cov:Array Bool) (i:Nat):Bool:=(List.range ops.size).all fun j=>!cov.getD j false || (waitsFor ops j).getD i false
theorem covFor_spec {cov:Array Bool} {i j:Nat} {listed:Array Bool} (h:covFor ops cov i=true) (hd:Down ops listed) (hj:j∈Region.ready .any ops listed) (hi:listed.getD i false=false):cov.getD j false=false:=by
 obtain ⟨_,o,ho,hall⟩:=mem_ready.1 hj
 have hlt:j<ops.size:=(Array.getElem?_eq_some_iff.1 ho).1
 simp only [covFor,List.all_eq_true,List.mem_range] at h
 have h1:=h j hlt
 simp only [Bool.or_eq_true,Bool.not_eq_true'] at h1
 rcases h1 with h1|h1
 · exact h1
 · have:listed.getD i false=true:=by
     unfold waitsFor at h1
     rw [ho] at h1
     refine marksTo_listed hd ops.size _ ?_ i h1
     refine markAll_listed _ _ (fun e he hb=>hall e (by simpa using he) hb) ?_
     intro k hk
     by_cases hkn:k<ops.size<;>simp [hkn] at hk
   rw [this] at hi
   cases hi
def wpG (P:Program) (ops:Array Oper) (W:World) (Q:Act→Prop):List Nat→Act→Prop
 | [],a=>Q a
 | i::rest,a=>match ops[i]? with
   | none=>False
   | some o=>if Region.wanted o (yielded ops a.tmps) then ∃ v,GQ P o a W v∧wpG P ops W Q rest (a.put o.dst v) else wpG P ops W Q rest (a.put o.dst undef)
def lexOk (ops:Array Oper) (cov:Array Bool):List Nat→Array Bool→Bool
 | [],_=>true
 | i::r,listed=>(Region.ready .any ops listed).contains i && Region.free .any ops listed i && covFor ops cov i && lexOk ops cov r (listed.setIfInBounds i true)
def listedBy:List Nat→Array Bool→Array Bool
 | [],listed=>listed
 | i::r,listed=>listedBy r (listed.setIfInBounds i true)
end
end Go.Proofs.Ytcjkndjjbjoehaa
namespace Go.Proofs.Ytcjkndjjbjoehaa
open Go.RowKit
attribute [local irreducible] wpG SAny
/-! ### from: are all numbers from lo to hi? -/
theorem from_in (n lo hi:Int) (a b:Addr) (w:World) (ha:w.cell? a=some (.int .i64 lo)) (hb:w.cell? b=some (.int .i64 hi)) :
   Calls Try.prog 128 #[.int .i64 n,.pointer (some a),.pointer (some b)] w fun e w'=>e=.returned (.bool (decide (n<lo) || decide (hi<n)))∧w=w':=by
 by_cases h1:n<lo
 · go_enter Try.func128,Try.ntmps128
   go_wp2
   go_ret
   simp [h1]
 · go_enter Try.func128,Try.ntmps128
   go_wp2
   go_ret
   simp
   omega
structure PredInt (w:World) (g:Nat) (caps:Array Value) (p:Int→Bool):Prop where
 run:∀ args w',(callFunc g args).run Try.prog w'=.ok (.enter g args) w'
 calls:∀ (n:Int) (w':World),Ext w w'→Calls Try.prog g (#[.int .i64 n]++caps) w' fun e w''=>e=.returned (.bool (p n))∧Ext w' w''
def idxOf {α:Type} (p:α→Bool) (zs:List α):Int:=match zs.findIdx? p with|some i=>(i:Int)|none=>-1
theorem idx_yes {α:Type} (p:α→Bool) (zs:List α) (k:Nat) (z:α) (hk:zs[k]?=some z) (hz:∀ z∈zs.take k,p z=false) (h:p z=true):idxOf p zs=k:=by
 obtain ⟨hlt,rfl⟩:=List.getElem?_eq_some_iff.1 hk
 unfold idxOf
 have:zs.findIdx? p=some k:=by
   rw [List.findIdx?_eq_some_iff_getElem]
   refine ⟨hlt,h,fun j hj=>?_⟩
   have:=hz (zs[j]) (List.mem_take_iff_getElem.2 ⟨j,by omega,rfl⟩)
   simp [this]
 rw [this]
theorem idx_no {α:Type} (p:α→Bool) (zs:List α) (hz:∀ z∈zs,p z=false):idxOf p zs=-1:=by
 unfold idxOf
 have:zs.findIdx? p=none:=by
   rw [List.findIdx?_eq_none_iff];exact hz
 rw [this]
theorem take_more {α:Type} (p:α→Bool) (b:Bool) (zs:List α) (k:Nat) (z:α) (hk:zs[k]?=some z) (hz:∀ z∈zs.take k,p z=b) (h:p z=b):∀ z∈zs.take (k+1),p z=b:=by
 obtain ⟨hlt,rfl⟩:=List.getElem?_eq_some_iff.1 hk
 intro z hzm
 rw [List.take_succ_eq_append_getElem hlt] at hzm
 rcases List.mem_append.1 hzm with h1|h1
 · exact hz z h1
 · simp at h1;rw [h1];exact h
theorem any_idx {α:Type} (p:α→Bool) (zs:List α):decide (0≤idxOf p zs)=zs.any p:=by
 unfold idxOf
 cases h:zs.findIdx? p with
 | none=>
   rw [List.findIdx?_eq_none_iff] at h
   symm
   simpa using h
 | some i=>
   rw [List.findIdx?_eq_some_iff_getElem] at h
   obtain ⟨h1,h2,_⟩:=h
   symm
   simp
   exact ⟨_,List.getElem_mem h1,h2⟩
theorem indexFunc_int (A:Option Addr) (n c:Nat) (zs:List Int) (g:Nat) (caps:Array Value) (p:Int→Bool) (w:World)
   (hr:RdS w 1 A n (zs.map fun z=>[.int .i64 z])) (hp:PredInt w g caps p) (hn:n≤1000000000) :
   Calls Try.prog 48 #[.slice A n c,.func (.func g) #[] caps] w fun e w'=>e=.returned (.int .i64 (idxOf p zs))∧Ext w w':=by
 have hrun:=hp.run
 have hl:=hr.len
 simp at hl
 go_enter Try.func48,Try.ntmps48
 go_wp2
 go_loopw [8] (fun i wr=>∃ k:Nat,k≤n∧i=.int .i64 k∧(∀ z∈zs.take k,p z=false)∧Ext w wr) (fun i _=>n-(intOf i).toNat)
 case atStart=>exact ⟨0,by omega,rfl,by simp,Ext.refl _⟩
 case round=>
   obtain ⟨k,hk,rfl,hz,hx⟩:=hrel
   by_cases hlt:k<n
   · obtain ⟨b,o,cs,rfl,hb,hcs,_,hc⟩:=(hr.ext hx).row hlt
     simp only [List.getElem?_map,Option.map_eq_some_iff] at hcs
     obtain ⟨z,hkz,rfl⟩:=hcs
     have hcell:=hc 0 _ rfl
     simp only [Nat.mul_one,Nat.add_zero] at hcell
     have hp1:=hp.calls z wr hx
     have H:=Lib.hid (And.intro hz (And.intro hl (And.intro hr (And.intro hp (And.intro hx hkz)))))
     clear hz hl hc hr hp hx hkz
     go_wp2_with fail
     refine hp1.mono ?_
     rintro e w' ⟨rfl,hx'⟩
     by_cases hpk:p z=true
     · go_wp2
       go_ret
       obtain ⟨hz,hl,hr,hp,hx,hkz⟩:=H.out
       exact ⟨by rw [idx_yes p zs k z hkz hz hpk];rfl,hx.trans hx'⟩
     · go_wp2
       go_roundw
       case rel=>
         obtain ⟨hz,hl,hr,hp,hx,hkz⟩:=H.out
         exact ⟨k+1,by omega,by go_num,take_more p false zs k z hkz hz (by simpa using hpk),hx.trans hx'⟩
       case measure=>simp [intOf];omega
   · go_wp2
     go_ret
     exact ⟨by rw [idx_no p zs (by rw [List.take_of_length_le (by omega)] at hz;exact hz)];rfl,hx⟩
theorem containsFunc_int (A:Option Addr) (n c:Nat) (zs:List Int) (g:Nat) (caps:Array Value) (p:Int→Bool) (w:World)
   (hr:RdS w 1 A n (zs.map fun z=>[.int .i64 z])) (hp:PredInt w g caps p) (hn:n≤1000000000) :
   Calls Try.prog 110 #[.slice A n c,.func (.func g) #[] caps] w fun e w'=>e=.returned (.bool (zs.any p))∧Ext w w':=by
 have hc:=indexFunc_int A n c zs g caps p w hr hp hn
 have H:=Lib.hid hc
 clear hc hr hp hn
 go_enter Try.func110,Try.ntmps110
 go_wp2_with (go_at_call 48;refine H.out.mono ?_;rintro e w' ⟨rfl,hx⟩)
 go_ret
 refine ⟨?_,hx⟩
 show Ending.returned (.bool (decide (0≤idxOf p zs)))=_
 rw [any_idx]
def allFrom (lo hi:Int) (zs:List Int):Bool:=zs.all fun z=>decide (lo≤z∧z≤hi)
theorem allFrom_any (lo hi:Int) (zs:List Int):(!zs.any fun n=>decide (n<lo) || decide (hi<n))=allFrom lo hi zs:=by
 unfold allFrom
 induction zs with
 | nil=>rfl
 | cons z zs ih=>
   simp only [List.any_cons,List.all_cons,Bool.not_or,ih]
   congr 1
   by_cases h1:z<lo<;>by_cases h2:hi<z<;>simp [h1,h2]<;>omega
theorem from_calls (lo hi:Int) (A:Option Addr) (n c:Nat) (zs:List Int) (w:World)
   (hr:RdS w 1 A n (zs.map fun z=>[.int .i64 z])) (hn:n≤1000000000) :
   Calls Try.prog 75 #[.int .i64 lo,.int .i64 hi,.slice A n c] w fun e w'=>e=.returned (.bool (allFrom lo hi zs))∧Ext w w':=by
 have hc:=fun caps w1 hx hp=>containsFunc_int A n c zs 128 caps (fun n=>decide (n<lo) || decide (hi<n)) w1 (hr.ext hx) hp hn
 have H:=Lib.hid hc
 clear hc hr hn
 go_enter Try.func75,Try.ntmps75
 go_wp2_with fail
 refine (H.out _ _ (((Ext.refl w).alloc _).alloc _) ⟨fun args w'=>by go_simp,fun n w' hx=>?_⟩).mono ?_
 · refine (from_in n lo hi _ _ w' (hx.cell ?_) (hx.cell ?_)).mono fun e w'' ⟨h1,h2⟩=>⟨h1,h2 ▸ Ext.refl _⟩
   · go_simp
   · go_simp
 · rintro e w' ⟨rfl,hx⟩
   go_wp2
   go_ret
   refine ⟨?_,hx.of_alloc.of_alloc⟩
   show Ending.returned (.bool (!zs.any fun n=>decide (n<lo) || decide (hi<n)))=_
   rw [allFrom_any]
theorem from2 (lo hi x0 x1:Int) (b:Nat) (t:TypeId) (w:World) (hb:b=w.heap.size) :
   Calls Try.prog 75 #[.int .i64 lo,.int .i64 hi,.slice (some ⟨b,0,none⟩) 2 2] (w.alloc (.cells #[.int .i64 x0,.int .i64 x1] t)) fun e w'=>e=.returned (.bool (allFrom lo hi [x0,x1]))∧Ext w w':=by
 have hr:RdS (w.alloc (.cells #[.int .i64 x0,.int .i64 x1] t)) 1 (some ⟨b,0,none⟩) 2 ([x0,x1].map fun z=>[Value.int .i64 z]):=RdS.row1 (xs:=[.int .i64 x0,.int .i64 x1]) hb rfl
 exact (from_calls lo hi (some ⟨b,0,none⟩) 2 2 [x0,x1] _ hr (by omega)).mono fun e w' ⟨h1,h2⟩=>⟨h1,h2.of_alloc⟩
def insideB (x y lo hi:Int):Bool:=decide (x≤y∧lo≤x∧y≤hi)
theorem inside_calls (x y lo hi:Int) (w:World) :
   Calls Try.prog 120 #[.agg #[.int .i64 x,.int .i64 y],.int .i64 lo,.int .i64 hi] w fun e w'=>e=.returned (.bool (insideB x y lo hi))∧Ext w w':=by
 by_cases h:x≤y
 · go_enter Try.func120,Try.ntmps120
   go_wp2_with (go_at_call 75;(with_reducible refine (from2 _ _ _ _ _ _ _ ?_).mono ?_);(next=>(go_simp;done));rintro e w1 ⟨rfl,hx⟩;(first|(with_reducible refine Ext.use6 hx ?_;intro hE;(try replace c0:=Ext.cell hE c0;try replace c1:=Ext.cell hE c1;try replace c2:=Ext.cell hE c2;try replace c3:=Ext.cell hE c3;try replace c4:=Ext.cell hE c4;try replace c5:=Ext.cell hE c5;try replace d0:=Ext.cell hE d0;try replace d1:=Ext.cell hE d1;try replace d2:=Ext.cell hE d2;try replace d3:=Ext.cell hE d3;try replace d4:=Ext.cell hE d4;try replace d5:=Ext.cell hE d5;try replace hb:=Nat.lt_of_lt_of_le hb (Ext.size hE);try replace hb':=Nat.lt_of_lt_of_le hb' (Ext.size hE);try replace e1:=Ext.blk hE e1;try replace e2:=Ext.blk hE e2;try replace e3:=Ext.blk hE e3;try replace e4:=Ext.blk hE e4;try replace e5:=Ext.blk hE e5;try replace e6:=Ext.blk hE e6;try replace k1:=Ext.blk hE k1;try replace k2:=Ext.blk hE k2;try replace k3:=Ext.blk hE k3;try replace k4:=Ext.blk hE k4;try replace k5:=Ext.blk hE k5;try replace k6:=Ext.blk hE k6);intro k0 k1 k2 k3 k4 k5 k6)|(with_reducible refine Ext.use5 hx ?_;intro hE;(try replace c0:=Ext.cell hE c0;try replace c1:=Ext.cell hE c1;try replace c2:=Ext.cell hE c2;try replace c3:=Ext.cell hE c3;try replace c4:=Ext.cell hE c4;try replace c5:=Ext.cell hE c5;try replace d0:=Ext.cell hE d0;try replace d1:=Ext.cell hE d1;try replace d2:=Ext.cell hE d2;try replace d3:=Ext.cell hE d3;try replace d4:=Ext.cell hE d4;try replace d5:=Ext.cell hE d5;try replace hb:=Nat.lt_of_lt_of_le hb (Ext.size hE);try replace hb':=Nat.lt_of_lt_of_le hb' (Ext.size hE);try replace e1:=Ext.blk hE e1;try replace e2:=Ext.blk hE e2;try replace e3:=Ext.blk hE e3;try replace e4:=Ext.blk hE e4;try replace e5:=Ext.blk hE e5;try replace e6:=Ext.blk hE e6;try replace k1:=Ext.blk hE k1;try replace k2:=Ext.blk hE k2;try replace k3:=Ext.blk hE k3;try replace k4:=Ext.blk hE k4;try replace k5:=Ext.blk hE k5;try replace k6:=Ext.blk hE k6);intro k0 k1 k2 k3 k4 k5)|(with_reducible refine Ext.use4 hx ?_;intro hE;(try replace c0:=Ext.cell hE c0;try replace c1:=Ext.cell hE c1;try replace c2:=Ext.cell hE c2;try replace c3:=Ext.cell hE c3;try replace c4:=Ext.cell hE c4;try replace c5:=Ext.cell hE c5;try replace d0:=Ext.cell hE d0;try replace d1:=Ext.cell hE d1;try replace d2:=Ext.cell hE d2;try replace d3:=Ext.cell hE d3;try replace d4:=Ext.cell hE d4;try replace d5:=Ext.cell hE d5;try replace hb:=Nat.lt_of_lt_of_le hb (Ext.size hE);try replace hb':=Nat.lt_of_lt_of_le hb' (Ext.size hE);try replace e1:=Ext.blk hE e1;try replace e2:=Ext.blk hE e2;try replace e3:=Ext.blk hE e3;try replace e4:=Ext.blk hE e4;try replace e5:=Ext.blk hE e5;try replace e6:=Ext.blk hE e6;try replace k1:=Ext.blk hE k1;try replace k2:=Ext.blk hE k2;try replace k3:=Ext.blk hE k3;try replace k4:=Ext.blk hE k4;try replace k5:=Ext.blk hE k5;try replace k6:=Ext.blk hE k6);intro k0 k1 k2 k3 k4)|(with_reducible refine Ext.use3 hx ?_;intro hE;(try replace c0:=Ext.cell hE c0;try replace c1:=Ext.cell hE c1;try replace c2:=Ext.cell hE c2;try replace c3:=Ext.cell hE c3;try replace c4:=Ext.cell hE c4;try replace c5:=Ext.cell hE c5;try replace d0:=Ext.cell hE d0;try replace d1:=Ext.cell hE d1;try replace d2:=Ext.cell hE d2;try replace d3:=Ext.cell hE d3;try replace d4:=Ext.cell hE d4;try replace d5:=Ext.cell hE d5;try replace hb:=Nat.lt_of_lt_of_le hb (Ext.size hE);try replace hb':=Nat.lt_of_lt_of_le hb' (Ext.size hE);try replace e1:=Ext.blk hE e1;try replace e2:=Ext.blk hE e2;try replace e3:=Ext.blk hE e3;try replace e4:=Ext.blk hE e4;try replace e5:=Ext.blk hE e5;try replace e6:=Ext.blk hE e6;try replace k1:=Ext.blk hE k1;try replace k2:=Ext.blk hE k2;try replace k3:=Ext.blk hE k3;try replace k4:=Ext.blk hE k4;try replace k5:=Ext.blk hE k5;try replace k6:=Ext.blk hE k6);intro k0 k1 k2 k3)|(with_reducible refine Ext.use2 hx ?_;intro hE;(try replace c0:=Ext.cell hE c0;try replace c1:=Ext.cell hE c1;try replace c2:=Ext.cell hE c2;try replace c3:=Ext.cell hE c3;try replace c4:=Ext.cell hE c4;try replace c5:=Ext.cell hE c5;try replace d0:=Ext.cell hE d0;try replace d1:=Ext.cell hE d1;try replace d2:=Ext.cell hE d2;try replace d3:=Ext.cell hE d3;try replace d4:=Ext.cell hE d4;try replace d5:=Ext.cell hE d5;try replace hb:=Nat.lt_of_lt_of_le hb (Ext.size hE);try replace hb':=Nat.lt_of_lt_of_le hb' (Ext.size hE);try replace e1:=Ext.blk hE e1;try replace e2:=Ext.blk hE e2;try replace e3:=Ext.blk hE e3;try replace e4:=Ext.blk hE e4;try replace e5:=Ext.blk hE e5;try replace e6:=Ext.blk hE e6;try replace k1:=Ext.blk hE k1;try replace k2:=Ext.blk hE k2;try replace k3:=Ext.blk hE k3;try replace k4:=Ext.blk hE k4;try replace k5:=Ext.blk hE k5;try replace k6:=Ext.blk hE k6);intro k0 k1 k2)|(with_reducible refine Ext.use1 hx ?_;intro hE;(try replace c0:=Ext.cell hE c0;try replace c1:=Ext.cell hE c1;try replace c2:=Ext.cell hE c2;try replace c3:=Ext.cell hE c3;try replace c4:=Ext.cell hE c4;try replace c5:=Ext.cell hE c5;try replace d0:=Ext.cell hE d0;try replace d1:=Ext.cell hE d1;try replace d2:=Ext.cell hE d2;try replace d3:=Ext.cell hE d3;try replace d4:=Ext.cell hE d4;try replace d5:=Ext.cell hE d5;try replace hb:=Nat.lt_of_lt_of_le hb (Ext.size hE);try replace hb':=Nat.lt_of_lt_of_le hb' (Ext.size hE);try replace e1:=Ext.blk hE e1;try replace e2:=Ext.blk hE e2;try replace e3:=Ext.blk hE e3;try replace e4:=Ext.blk hE e4;try replace e5:=Ext.blk hE e5;try replace e6:=Ext.blk hE e6;try replace k1:=Ext.blk hE k1;try replace k2:=Ext.blk hE k2;try replace k3:=Ext.blk hE k3;try replace k4:=Ext.blk hE k4;try replace k5:=Ext.blk hE k5;try replace k6:=Ext.blk hE k6);intro k0 k1)|(with_reducible refine Ext.use hx ?_;intro hE;(try replace c0:=Ext.cell hE c0;try replace c1:=Ext.cell hE c1;try replace c2:=Ext.cell hE c2;try replace c3:=Ext.cell hE c3;try replace c4:=Ext.cell hE c4;try replace c5:=Ext.cell hE c5;try replace d0:=Ext.cell hE d0;try replace d1:=Ext.cell hE d1;try replace d2:=Ext.cell hE d2;try replace d3:=Ext.cell hE d3;try replace d4:=Ext.cell hE d4;try replace d5:=Ext.cell hE d5;try replace hb:=Nat.lt_of_lt_of_le hb (Ext.size hE);try replace hb':=Nat.lt_of_lt_of_le hb' (Ext.size hE);try replace e1:=Ext.blk hE e1;try replace e2:=Ext.blk hE e2;try replace e3:=Ext.blk hE e3;try replace e4:=Ext.blk hE e4;try replace e5:=Ext.blk hE e5;try replace e6:=Ext.blk hE e6;try replace k1:=Ext.blk hE k1;try replace k2:=Ext.blk hE k2;try replace k3:=Ext.blk hE k3;try replace k4:=Ext.blk hE k4;try replace k5:=Ext.blk hE k5;try replace k6:=Ext.blk hE k6);intro k0)))
   go_ret
   refine ⟨?_,by (repeat (first|exact Ext.refl _|assumption|refine Ext.alloc ?_ _|refine Ext.drew ?_|(refine Ext.setCell ?_ (by first|(simp;done)|(simp;omega)|omega) _)|refine Ext.trans ?_ (by assumption)))⟩
   refine ret_bool (Bool.eq_iff_iff.2 ?_)
   simp [allFrom,insideB]<;>omega
 · go_enter Try.func120,Try.ntmps120
   go_wp2_with (go_at_call 75;(with_reducible refine (from2 _ _ _ _ _ _ _ ?_).mono ?_);(next=>(go_simp;done));rintro e w1 ⟨rfl,hx⟩;(first|(with_reducible refine Ext.use6 hx ?_;intro hE;(try replace c0:=Ext.cell hE c0;try replace c1:=Ext.cell hE c1;try replace c2:=Ext.cell hE c2;try replace c3:=Ext.cell hE c3;try replace c4:=Ext.cell hE c4;try replace c5:=Ext.cell hE c5;try replace d0:=Ext.cell hE d0;try replace d1:=Ext.cell hE d1;try replace d2:=Ext.cell hE d2;try replace d3:=Ext.cell hE d3;try replace d4:=Ext.cell hE d4;try replace d5:=Ext.cell hE d5;try replace hb:=Nat.lt_of_lt_of_le hb (Ext.size hE);try replace hb':=Nat.lt_of_lt_of_le hb' (Ext.size hE);try replace e1:=Ext.blk hE e1;try replace e2:=Ext.blk hE e2;try replace e3:=Ext.blk hE e3;try replace e4:=Ext.blk hE e4;try replace e5:=Ext.blk hE e5;try replace e6:=Ext.blk hE e6;try replace k1:=Ext.blk hE k1;try replace k2:=Ext.blk hE k2;try replace k3:=Ext.blk hE k3;try replace k4:=Ext.blk hE k4;try replace k5:=Ext.blk hE k5;try replace k6:=Ext.blk hE k6);intro k0 k1 k2 k3 k4 k5 k6)|(with_reducible refine Ext.use5 hx ?_;intro hE;(try replace c0:=Ext.cell hE c0;try replace c1:=Ext.cell hE c1;try replace c2:=Ext.cell hE c2;try replace c3:=Ext.cell hE c3;try replace c4:=Ext.cell hE c4;try replace c5:=Ext.cell hE c5;try replace d0:=Ext.cell hE d0;try replace d1:=Ext.cell hE d1;try replace d2:=Ext.cell hE d2;try replace d3:=Ext.cell hE d3;try replace d4:=Ext.cell hE d4;try replace d5:=Ext.cell hE d5;try replace hb:=Nat.lt_of_lt_of_le hb (Ext.size hE);try replace hb':=Nat.lt_of_lt_of_le hb' (Ext.size hE);try replace e1:=Ext.blk hE e1;try replace e2:=Ext.blk hE e2;try replace e3:=Ext.blk hE e3;try replace e4:=Ext.blk hE e4;try replace e5:=Ext.blk hE e5;try replace e6:=Ext.blk hE e6;try replace k1:=Ext.blk hE k1;try replace k2:=Ext.blk hE k2;try replace k3:=Ext.blk hE k3;try replace k4:=Ext.blk hE k4;try replace k5:=Ext.blk hE k5;try replace k6:=Ext.blk hE k6);intro k0 k1 k2 k3 k4 k5)|(with_reducible refine Ext.use4 hx ?_;intro hE;(try replace c0:=Ext.cell hE c0;try replace c1:=Ext.cell hE c1;try replace c2:=Ext.cell hE c2;try replace c3:=Ext.cell hE c3;try replace c4:=Ext.cell hE c4;try replace c5:=Ext.cell hE c5;try replace d0:=Ext.cell hE d0;try replace d1:=Ext.cell hE d1;try replace d2:=Ext.cell hE d2;try replace d3:=Ext.cell hE d3;try replace d4:=Ext.cell hE d4;try replace d5:=Ext.cell hE d5;try replace hb:=Nat.lt_of_lt_of_le hb (Ext.size hE);try replace hb':=Nat.lt_of_lt_of_le hb' (Ext.size hE);try replace e1:=Ext.blk hE e1;try replace e2:=Ext.blk hE e2;try replace e3:=Ext.blk hE e3;try replace e4:=Ext.blk hE e4;try replace e5:=Ext.blk hE e5;try replace e6:=Ext.blk hE e6;try replace k1:=Ext.blk hE k1;try replace k2:=Ext.blk hE k2;try replace k3:=Ext.blk hE k3;try replace k4:=Ext.blk hE k4;try replace k5:=Ext.blk hE k5;try replace k6:=Ext.blk hE k6);intro k0 k1 k2 k3 k4)|(with_reducible refine Ext.use3 hx ?_;intro hE;(try replace c0:=Ext.cell hE c0;try replace c1:=Ext.cell hE c1;try replace c2:=Ext.cell hE c2;try replace c3:=Ext.cell hE c3;try replace c4:=Ext.cell hE c4;try replace c5:=Ext.cell hE c5;try replace d0:=Ext.cell hE d0;try replace d1:=Ext.cell hE d1;try replace d2:=Ext.cell hE d2;try replace d3:=Ext.cell hE d3;try replace d4:=Ext.cell hE d4;try replace d5:=Ext.cell hE d5;try replace hb:=Nat.lt_of_lt_of_le hb (Ext.size hE);try replace hb':=Nat.lt_of_lt_of_le hb' (Ext.size hE);try replace e1:=Ext.blk hE e1;try replace e2:=Ext.blk hE e2;try replace e3:=Ext.blk hE e3;try replace e4:=Ext.blk hE e4;try replace e5:=Ext.blk hE e5;try replace e6:=Ext.blk hE e6;try replace k1:=Ext.blk hE k1;try replace k2:=Ext.blk hE k2;try replace k3:=Ext.blk hE k3;try replace k4:=Ext.blk hE k4;try replace k5:=Ext.blk hE k5;try replace k6:=Ext.blk hE k6);intro k0 k1 k2 k3)|(with_reducible refine Ext.use2 hx ?_;intro hE;(try replace c0:=Ext.cell hE c0;try replace c1:=Ext.cell hE c1;try replace c2:=Ext.cell hE c2;try replace c3:=Ext.cell hE c3;try replace c4:=Ext.cell hE c4;try replace c5:=Ext.cell hE c5;try replace d0:=Ext.cell hE d0;try replace d1:=Ext.cell hE d1;try replace d2:=Ext.cell hE d2;try replace d3:=Ext.cell hE d3;try replace d4:=Ext.cell hE d4;try replace d5:=Ext.cell hE d5;try replace hb:=Nat.lt_of_lt_of_le hb (Ext.size hE);try replace hb':=Nat.lt_of_lt_of_le hb' (Ext.size hE);try replace e1:=Ext.blk hE e1;try replace e2:=Ext.blk hE e2;try replace e3:=Ext.blk hE e3;try replace e4:=Ext.blk hE e4;try replace e5:=Ext.blk hE e5;try replace e6:=Ext.blk hE e6;try replace k1:=Ext.blk hE k1;try replace k2:=Ext.blk hE k2;try replace k3:=Ext.blk hE k3;try replace k4:=Ext.blk hE k4;try replace k5:=Ext.blk hE k5;try replace k6:=Ext.blk hE k6);intro k0 k1 k2)|(with_reducible refine Ext.use1 hx ?_;intro hE;(try replace c0:=Ext.cell hE c0;try replace c1:=Ext.cell hE c1;try replace c2:=Ext.cell hE c2;try replace c3:=Ext.cell hE c3;try replace c4:=Ext.cell hE c4;try replace c5:=Ext.cell hE c5;try replace d0:=Ext.cell hE d0;try replace d1:=Ext.cell hE d1;try replace d2:=Ext.cell hE d2;try replace d3:=Ext.cell hE d3;try replace d4:=Ext.cell hE d4;try replace d5:=Ext.cell hE d5;try replace hb:=Nat.lt_of_lt_of_le hb (Ext.size hE);try replace hb':=Nat.lt_of_lt_of_le hb' (Ext.size hE);try replace e1:=Ext.blk hE e1;try replace e2:=Ext.blk hE e2;try replace e3:=Ext.blk hE e3;try replace e4:=Ext.blk hE e4;try replace e5:=Ext.blk hE e5;try replace e6:=Ext.blk hE e6;try replace k1:=Ext.blk hE k1;try replace k2:=Ext.blk hE k2;try replace k3:=Ext.blk hE k3;try replace k4:=Ext.blk hE k4;try replace k5:=Ext.blk hE k5;try replace k6:=Ext.blk hE k6);intro k0 k1)|(with_reducible refine Ext.use hx ?_;intro hE;(try replace c0:=Ext.cell hE c0;try replace c1:=Ext.cell hE c1;try replace c2:=Ext.cell hE c2;try replace c3:=Ext.cell hE c3;try replace c4:=Ext.cell hE c4;try replace c5:=Ext.cell hE c5;try replace d0:=Ext.cell hE d0;try replace d1:=Ext.cell hE d1;try replace d2:=Ext.cell hE d2;try replace d3:=Ext.cell hE d3;try replace d4:=Ext.cell hE d4;try replace d5:=Ext.cell hE d5;try replace hb:=Nat.lt_of_lt_of_le hb (Ext.size hE);try replace hb':=Nat.lt_of_lt_of_le hb' (Ext.size hE);try replace e1:=Ext.blk hE e1;try replace e2:=Ext.blk hE e2;try replace e3:=Ext.blk hE e3;try replace e4:=Ext.blk hE e4;try replace e5:=Ext.blk hE e5;try replace e6:=Ext.blk hE e6;try replace k1:=Ext.blk hE k1;try replace k2:=Ext.blk hE k2;try replace k3:=Ext.blk hE k3;try replace k4:=Ext.blk hE k4;try replace k5:=Ext.blk hE k5;try replace k6:=Ext.blk hE k6);intro k0)))
   go_ret
   refine ⟨?_,by (repeat (first|exact Ext.refl _|assumption|refine Ext.alloc ?_ _|refine Ext.drew ?_|(refine Ext.setCell ?_ (by first|(simp;done)|(simp;omega)|omega) _)|refine Ext.trans ?_ (by assumption)))⟩
   refine ret_bool (Bool.eq_iff_iff.2 ?_)
   simp [insideB]<;>omega
/-! ### Reports: are they valid? -/
end Go.Proofs.Ytcjkndjjbjoehaa
namespace Go.Proofs.Ytcjkndjjbjoehaa
open Go.RowKit
abbrev Fr:=List (Nat×Value)
abbrev Tg:=Option (Nat×Nat×Nat)
abbrev Hp:=List (Nat×List Value×Tg)
def look:Fr→Nat→Option Value
 | [],_=>none
 | (d,v)::F,t=>match Nat.beq d t with|true=>some v|false=>look F t
inductive TyK where
 | struct (fs:List (Nat×Nat×Bool))
 | slice (e:Nat)
 | array (n e:Nat)
 | ptr (e:Nat)
 | int (k:IntKind)
 | other
structure TyI where
 agg:Bool
 size:Nat
 zero:List Value
 kind:TyK
def KindOk (P:Program) (t:Nat):TyK→Prop
 | .struct fs=>∃ ds:Array Field,(∀ w,(underlying t).run P w=.ok (.struct ds) w)∧ds.size=fs.length∧∀ (f off n:Nat) (g:Bool),fs[f]?=some (off,n,g) →
     ∃ d:Field,ds[f]?=some d∧d.offset=off∧(∀ w,(sizeOf d.type).run P w=.ok n w)∧∀ w,(isAgg d.type).run P w=.ok g w
 | .slice e=>∀ w,(underlying t).run P w=.ok (.slice e) w
 | .array n e=>∀ w,(underlying t).run P w=.ok (.array n e) w
 | .ptr e=>∀ w,(underlying t).run P w=.ok (.pointer e) w
 | .int k=>∀ w,(underlying t).run P w=.ok (.int k) w
 | .other=>True
structure TyOk (P:Program) (t:Nat) (i:TyI):Prop where
 agg:∀ w,(isAgg t).run P w=.ok i.agg w
 size:∀ w,(sizeOf t).run P w=.ok i.size w
 zero:∀ w,∃ z,(zeroValue t).run P w=.ok z w∧z.cells=i.zero.toArray
 zlen:i.zero.length=i.size
 kind:KindOk P t i.kind
def tyAt:List (Nat×TyI)→Nat→Option TyI
 | [],_=>none
 | (d,v)::F,t=>match Nat.beq d t with|true=>some v|false=>tyAt F t
theorem tyAt_mem {l:List (Nat×TyI)} {t:Nat} {i:TyI} (h:tyAt l t=some i):(t,i)∈l:=by
 induction l with
 | nil=>cases h
 | cons x l ih=>
   obtain ⟨d,v⟩:=x
   unfold tyAt at h
   split at h
   · rename_i hb
     have hd:=Nat.eq_of_beq_eq_true hb
     subst hd
     obtain rfl:=Option.some.inj h
     exact List.mem_cons_self ..
   · exact List.mem_cons_of_mem _ (ih h)
structure Ms where
 wr:List Nat
 dk:List Nat
def dmark (D:Nat):Deferred:={ target:=.collected D,args:=#[] }
structure Cx where
 P:Program
 tys:List (Nat×TyI)
 ok:∀ x∈tys,TyOk P x.1 x.2
 w0:World
 M:List Nat
 N:Nat
theorem Cx.ty (c:Cx) {t:Nat} {i:TyI} (h:tyAt c.tys t=some i):TyOk c.P t i:=c.ok _ (tyAt_mem h)
def ev (F:Fr):Operand→Option Value
 | .tmp t=>look F t
 | .const v=>some v
 | .global g=>some (.pointer (some ⟨g,0,none⟩))
 | .func f=>some (.func (.func f) #[] #[])
def evs (F:Fr):List Operand→Option (List Value)
 | []=>some []
 | x::l=>match ev F x,evs F l with
   | some v,some vs=>some (v::vs)
   | _,_=>none
structure Frm (D:List Nat) (N:Nat) (F:Fr) (a:Act):Prop where
 size:a.tmps.size=N
 defers:a.defers=D.map dmark
 at_:∀ d v,look F d=some v→a.tmps[d]?=some v
theorem Frm.ev {D:List Nat} {N:Nat} {F:Fr} {a:Act} (h:Frm D N F a) {x:Operand} {v:Value} (hx:ev F x=some v):a.eval x=v:=by
 cases x with
 | tmp t=>simp only [Ytcjkndjjbjoehaa.ev] at hx;have:=h.at_ t v hx;simp [Act.eval,Array.getD_eq_getD_getElem?,this]
 | const u=>exact Option.some.inj hx
 | global g=>exact Option.some.inj hx
 | func f=>exact Option.some.inj hx
theorem Frm.evs {D:List Nat} {N:Nat} {F:Fr} {a:Act} (h:Frm D N F a):∀ {l:List Operand} {vs:List Value},evs F l=some vs→l.map a.eval=vs
 | [],_,hx=>Option.some.inj hx
 | x::l,vs,hx=>by
   simp only [Ytcjkndjjbjoehaa.evs] at hx
   split at hx
   · rename_i v us h1 h2
     obtain rfl:=Option.some.inj hx
     rw [List.map_cons,h.ev h1,h.evs h2]
   · cases hx
theorem look_cons_self (F:Fr) (d:Nat) (v:Value):look ((d,v)::F) d=some v:=by
 have:Nat.beq d d=true:=by simp
 simp only [look,this]
theorem look_cons_ne (F:Fr) {d t:Nat} (v:Value) (h:d≠t):look ((d,v)::F) t=look F t:=by
 have:Nat.beq d t=false:=by
   cases hb:Nat.beq d t with
   | false=>rfl
   | true=>exact absurd (Nat.eq_of_beq_eq_true hb) h
 simp only [look,this]
theorem Frm.put {D:List Nat} {N:Nat} {F:Fr} {a:Act} (h:Frm D N F a) {d:Nat} (hd:Nat.blt d N=true) (v:Value):Frm D N ((d,v)::F) (a.put (some d) v):=by
 have hd':d<N:=by simpa [Nat.blt_eq] using hd
 refine ⟨by simp [Act.put,h.size],h.defers,fun t u hu=>?_⟩
 simp only [Act.put,Array.getElem?_setIfInBounds]
 by_cases hdt:d=t
 · subst hdt
   rw [look_cons_self] at hu
   rw [if_pos rfl,if_pos (by rw [h.size];exact hd')]
   exact hu
 · rw [look_cons_ne F v hdt] at hu
   rw [if_neg hdt]
   exact h.at_ t u hu
theorem Frm.putNone {D:List Nat} {N:Nat} {F:Fr} {a:Act} (h:Frm D N F a) (v:Value):Frm D N F (a.put none v):=h
def TgOk (c:Array Value) (t:TypeId):Tg→Prop
 | none=>True
 | some (e,s,cap)=>t=e∧c.size=cap*s∧cap≤maxLen
def enc:List Nat→Nat
 | []=>0
 | x::l=>2 ^ x*(2*enc l+1)
theorem enc_pos (x:Nat) (l:List Nat):0<enc (x::l):=Nat.mul_pos (Nat.two_pow_pos x) (by omega)
theorem odd_inj:∀ {x y a b:Nat},2 ^ x*(2*a+1)=2 ^ y*(2*b+1)→x=y∧a=b
 | 0,0,a,b,h=>by simp at h;exact ⟨rfl,by omega⟩
 | 0,y+1,a,b,h=>by
   rw [Nat.pow_succ,Nat.mul_comm (2 ^ y) 2,Nat.mul_assoc,Nat.pow_zero,Nat.one_mul] at h
   omega
 | x+1,0,a,b,h=>by
   rw [Nat.pow_succ,Nat.mul_comm (2 ^ x) 2,Nat.mul_assoc,Nat.pow_zero,Nat.one_mul] at h
   omega
 | x+1,y+1,a,b,h=>by
   rw [Nat.pow_succ,Nat.mul_comm (2 ^ x) 2,Nat.mul_assoc,Nat.pow_succ,Nat.mul_comm (2 ^ y) 2,Nat.mul_assoc] at h
   have:=odd_inj (Nat.eq_of_mul_eq_mul_left (by omega) h)
   exact ⟨by omega,this.2⟩
theorem enc_inj:∀ {l m:List Nat},enc l=enc m→l=m
 | [],[],_=>rfl
 | [],y::m,h=>by have:=enc_pos y m;rw [← h] at this;simp [enc] at this
 | x::l,[],h=>by have:=enc_pos x l;rw [h] at this;simp [enc] at this
 | x::l,y::m,h=>by
   obtain ⟨rfl,h2⟩:=odd_inj h
   rw [enc_inj h2]
def decV:List Nat→Value
 | [0,n]=>.int .i64 n
 | [1,b]=>.bool (b == 1)
 | [2,i,b]=>.agg #[.int .i64 i,.bool (b == 1)]
 | [3,b,o,n,cap]=>.slice (some ⟨b,o,none⟩) n cap
 | _=>.slice none 0 0
abbrev Mc:=List (List Nat×List Nat)
def mcode (L:Mc):Nat:=enc (L.flatMap fun p=>[enc p.1,enc p.2])
theorem flat_inj:∀ {L L':Mc},(L.flatMap fun p=>[enc p.1,enc p.2])=(L'.flatMap fun p=>[enc p.1,enc p.2])→L=L'
 | [],[],_=>rfl
 | [],y::L',h=>by simp at h
 | x::L,[],h=>by simp at h
 | x::L,y::L',h=>by
   simp only [List.flatMap_cons,List.cons_append,List.nil_append,List.cons.injEq] at h
   obtain ⟨h1,h2,h3⟩:=h
   rw [flat_inj h3,show x=y from Prod.ext (enc_inj h1) (enc_inj h2)]
theorem mcode_inj {L L':Mc} (h:mcode L=mcode L'):L=L':=flat_inj (enc_inj h)
def mapTg (t:Nat) (L:Mc):Tg:=some (t,0,maxLen+1+mcode L)
theorem mapTg_inj {t t':Nat} {L L':Mc} (h:mapTg t L=mapTg t' L'):t=t'∧L=L':=by
 simp only [mapTg,Option.some.injEq,Prod.mk.injEq] at h
 exact ⟨h.1,mcode_inj (by omega)⟩
def IsMap (w:World) (b:Nat) (L:Mc):Prop:=∃ es clock,w.heap[b]?=some (.map es clock)∧es.toList.map (fun e=>(e.key,e.val))=L.map fun p=>(decV p.1,decV p.2)
def Blk (w:World) (b:Nat) (C:List Value) (g:Tg):Prop:=
 (∃ c t,w.heap[b]?=some (.cells c t (0,0))∧(∀ (o:Nat) (v:Value),C[o]?=some v→c[o]?=some v)∧TgOk c t g)∨(C=[]∧∃ t L,g=mapTg t L∧IsMap w b L)
theorem TgOk.noMap {c:Array Value} {t t':Nat} {L:Mc} (h:TgOk c t (mapTg t' L)):False:=by
 simp only [mapTg,TgOk] at h
 omega
theorem Blk.map {w:World} {b t:Nat} {L:Mc} {C:List Value} (h:Blk w b C (mapTg t L)):IsMap w b L:=by
 rcases h with ⟨c,t',_,_,h⟩|⟨_,t',L',h1,h2⟩
 · exact h.noMap.elim
 · rw [(mapTg_inj h1).2];exact h2
theorem Blk.lt {w:World} {b:Nat} {C:List Value} {g:Tg} (h:Blk w b C g):b<w.heap.size:=by
 rcases h with ⟨c,t,h,_⟩|⟨_,t,L,_,es,ck,h,_⟩
 · exact (Array.getElem?_eq_some_iff.1 h).1
 · exact (Array.getElem?_eq_some_iff.1 h).1
theorem Blk.cell {w:World} {b:Nat} {C:List Value} {g:Tg} (h:Blk w b C g) {o:Nat} {v:Value} (ho:C[o]?=some v):w.cell? ⟨b,o,none⟩=some v:=by
 rcases h with ⟨c,t,h,hc,_⟩|⟨rfl,_⟩
 · simp only [World.cell?,h]
   exact hc o v ho
 · simp at ho
theorem Blk.free {w:World} {b:Nat} {C:List Value} {g:Tg} (h:Blk w b C g) (o:Nat):w.frozen? ⟨b,o,none⟩=false:=by
 rcases h with ⟨c,t,h,hc⟩|⟨_,t,L,_,es,ck,h,_⟩
 · simp [World.frozen?,h]
 · simp [World.frozen?,h]
theorem Blk.same {w w':World} {b:Nat} {C:List Value} {g:Tg} (h:Blk w b C g) (e:w'.heap[b]?=w.heap[b]?):Blk w' b C g:=by
 unfold Blk IsMap;rw [e];exact h
structure ExtM (M:List Nat) (w w':World):Prop where
 os:w'.os=w.os
 tape:w'.tape=w.tape
 output:w'.output=w.output
 size:w.heap.size≤w'.heap.size
 block:∀ b,b<w.heap.size→b∉M→w'.heap[b]?=w.heap[b]?
theorem Ext.toM {w w':World} (h:Ext w w') (M:List Nat):ExtM M w w':=⟨h.os,h.tape,h.output,h.size,fun b hb _=>h.block b hb⟩
theorem ExtM.ext {w w':World} (h:ExtM [] w w'):Ext w w':=⟨h.os,h.tape,h.output,h.size,fun b hb=>h.block b hb (List.not_mem_nil)⟩
theorem ExtM.refl (M:List Nat) (w:World):ExtM M w w:=(Ext.refl w).toM M
theorem ExtM.trans {M:List Nat} {a b c:World} (h:ExtM M a b) (k:ExtM M b c):ExtM M a c:=
 ⟨k.os.trans h.os,k.tape.trans h.tape,k.output.trans h.output,Nat.le_trans h.size k.size,fun i hi hm=>(k.block i (Nat.lt_of_lt_of_le hi h.size) hm).trans (h.block i hi hm)⟩
structure Has (w0:World) (M:Ms) (H:Hp) (w:World):Prop where
 ext:ExtM M.wr w0 w
 blk:∀ x∈H,(w0.heap.size≤x.1∨x.1∈M.wr)∧Blk w x.1 x.2.1 x.2.2
 nodup:(H.map Prod.fst).Nodup
 marks:M.dk.Nodup∧∀ k∈M.dk,w0.heap.size≤k∧w.heap[k]?=some (.deferred (some []))
theorem mark_lt {w:World} {k:Nat} {o:Obj} (h:w.heap[k]?=some o):k<w.heap.size:=(Array.getElem?_eq_some_iff.1 h).1
theorem Has.grow {w0:World} {M:Ms} {H:Hp} {w w':World} (h:Has w0 M H w) (e:Ext w w'):Has w0 M H w':=
 ⟨h.ext.trans (e.toM M.wr),fun x hx=>⟨(h.blk x hx).1,(h.blk x hx).2.same (e.block _ (h.blk x hx).2.lt)⟩,h.nodup,h.marks.1,fun k hk=>⟨(h.marks.2 k hk).1,(e.block k (mark_lt (h.marks.2 k hk).2)).trans (h.marks.2 k hk).2⟩⟩
/-! Reading -/
def Rd (c:Cx) (H:Hp) (p:Addr) (v:Value):Prop:=∀ D w,Has c.w0 ⟨c.M,D⟩ H w→w.cell? p=some v
theorem Rd.old {c:Cx} {H:Hp} {b o:Nat} {v:Value} (h:c.w0.cell? ⟨b,o,none⟩=some v) (hm:b∉c.M):Rd c H ⟨b,o,none⟩ v:=fun D w hw=>by
 have hb:=cell_lt h
 rw [World.cell?_of_block (w:=c.w0) (a:=⟨b,o,none⟩) (hw.ext.block b hb hm)]
 exact h
inductive Pick:Hp→Nat→List Value→Tg→Hp→Prop
 | head (b:Nat) (C:List Value) (g:Tg) (H:Hp):Pick ((b,C,g)::H) b C g H
 | tail {x:Nat×List Value×Tg} {H H':Hp} {b:Nat} {C:List Value} {g:Tg} (h:Pick H b C g H'):Pick (x::H) b C g (x::H')
theorem Pick.perm {H H':Hp} {b:Nat} {C:List Value} {g:Tg} (h:Pick H b C g H'):H.Perm ((b,C,g)::H'):=by
 induction h with
 | head b C g H=>exact List.Perm.refl _
 | tail _ ih=>exact (List.Perm.cons _ ih).trans (List.Perm.swap ..)
theorem Pick.mem {H H':Hp} {b:Nat} {C:List Value} {g:Tg} (h:Pick H b C g H'):(b,C,g)∈H:=h.perm.mem_iff.2 (List.mem_cons_self ..)
theorem Rd.own {c:Cx} {H H':Hp} {b o:Nat} {C:List Value} {g:Tg} {v:Value} (h:Pick H b C g H') (ho:C[o]?=some v):Rd c H ⟨b,o,none⟩ v:=fun D w hw=>(hw.blk _ h.mem).2.cell ho
def Rds (c:Cx) (H:Hp) (b:Nat):Nat→List Value→Prop
 | _,[]=>True
 | o,v::vs=>Rd c H ⟨b,o,none⟩ v∧Rds c H b (o+1) vs
inductive Rdn (c:Cx) (H:Hp) (b:Nat):Nat→Nat→List Value→Prop
 | zero {o:Nat}:Rdn c H b o 0 []
 | succ {o n:Nat} {v:Value} {vs:List Value} (h:Rd c H ⟨b,o,none⟩ v) (k:Rdn c H b (o+1) n vs):Rdn c H b o (n+1) (v::vs)
theorem Rdn.spec {c:Cx} {H:Hp} {b o n:Nat} {vs:List Value} (h:Rdn c H b o n vs):Rds c H b o vs∧vs.length=n:=by
 induction h with
 | zero=>exact ⟨trivial,rfl⟩
 | succ h _ ih=>exact ⟨⟨h,ih.1⟩,by simp [ih.2]⟩
theorem run_bind' {α β:Type} (P:Program) (x:Sem α) (f:α→Sem β) (w:World) (a:α) (w':World) (h:x.run P w=.ok a w'):(x >>= f).run P w=(f a).run P w':=by
 rw [Sem.run_bind,h];rfl
theorem run_load (P:Program) (a:Addr) (w:World) (v:Value) (h:w.cell? a=some v):(Go.load a).run P w=.ok v w:=by
 simp [Go.load,Sem.run,h]
theorem run_loadCellsFrom (P:Program) (w:World) (b o:Nat):∀ (vs:List Value) (i:Nat) (acc:Array Value),(∀ j v,vs[j]?=some v→w.cell? ⟨b,o+(i+j),none⟩=some v) →
   (loadCellsFrom ⟨b,o,none⟩ i vs.length acc).run P w=.ok (acc++vs.toArray) w
 | [],i,acc,_=>by simp [loadCellsFrom,Sem.run_pure]
 | v::vs,i,acc,h=>by
   unfold loadCellsFrom
   have h0:=h 0 v rfl
   have ha:(Addr.add ⟨b,o,none⟩ i)=⟨b,o+i,none⟩:=by
     unfold Addr.add;split
     · rename_i hi;subst hi;rfl
     · rfl
   rw [List.length_cons]
   simp only []
   rw [run_bind' P _ _ w v w (run_load P _ w v (by rw [ha];simpa using h0))]
   rw [run_loadCellsFrom P w b o vs (i+1) (acc.push v) (fun j u hj=>by have:=h (j+1) u (by simpa using hj);rw [← this];congr 2;omega)]
   simp
theorem Rds.at_ {c:Cx} {H:Hp} {D:List Nat} {b:Nat} {w:World} (hw:Has c.w0 ⟨c.M,D⟩ H w):∀ (vs:List Value) (o:Nat),Rds c H b o vs→∀ j v,vs[j]?=some v→w.cell? ⟨b,o+j,none⟩=some v
 | [],_,_,j,v,h=>by simp at h
 | u::vs,o,hr,0,v,h=>by
   obtain rfl:u=v:=by simpa using h
   exact hr.1 D w hw
 | u::vs,o,hr,j+1,v,h=>by
   have:=Rds.at_ hw vs (o+1) hr.2 j v (by simpa using h)
   rw [← this];congr 2;omega
def OQ (c:Cx) (o:Oper) (F:Fr) (H:Hp) (v:Value):Prop:=
 ∀ D a w,Frm D c.N F a→Has c.w0 ⟨c.M,D⟩ H w→givesUpon c.P (fun u w'=>u=v∧Ext w w') ((execOp a.eval o).run c.P w)
def InR (z:Int):Prop:=-9223372036854775808≤z∧z≤9223372036854775807
theorem wrap_in {z:Int} (h:InR z):IntKind.i64.wrap z=z:=IntWalk.i64_in _ h
inductive Norm:List Value→List Value→Prop
 | nil {l:List Value} (h:l=[]):Norm l []
 | cons {l l' r:List Value} {v:Value} (h:l=v::l') (k:Norm l' r):Norm l (v::r)
theorem Norm.eq {l r:List Value} (h:Norm l r):l=r:=by
 induction h with
 | nil h=>exact h
 | cons h _ ih=>rw [h,ih]
section
variable {c:Cx} {F:Fr} {H:Hp} {d:Option Tmp} {ty:TypeId} {pos:String} {af:Array Edge} {g:Option (Nat×Bool)} {t t':TypeId} {x y z:Operand} {v u:Value} {m n:Int}
def Ev (F:Fr) (ρ:Operand→Value):Prop:=∀ x v,ev F x=some v→ρ x=v
theorem Ev.ev {ρ:Operand→Value} (h:Ev F ρ) (hx:ev F x=some v):ρ x=v:=h x v hx
theorem Ev.evs {ρ:Operand→Value} (h:Ev F ρ):∀ {l:List Operand} {vs:List Value},evs F l=some vs→l.map ρ=vs
 | [],_,hx=>Option.some.inj hx
 | x::l,vs,hx=>by
   simp only [Ytcjkndjjbjoehaa.evs] at hx
   split at hx
   · rename_i v us h1 h2
     obtain rfl:=Option.some.inj hx
     rw [List.map_cons,h.ev h1,h.evs h2]
   · cases hx
theorem OQ.of {o:Oper} (h:∀ D ρ w,Ev F ρ→Has c.w0 ⟨c.M,D⟩ H w→(execOp ρ o).run c.P w=.ok (.value v) w):OQ c o F H v:=by
 intro D a w ha hw
 rw [h D a.eval w (fun x v hx=>ha.ev hx) hw]
 exact ⟨rfl,Ext.refl _⟩
theorem oq_move (hx:ev F x=some v):OQ c ⟨d,.move x,ty,pos,af,g⟩ F H v:=.of fun D a w ha _=>by
 simp [execOp,ha.ev hx,go_sem]
theorem oq_assign (hx:ev F x=some v):OQ c ⟨d,.assign x,ty,pos,af,g⟩ F H v:=.of fun D a w ha _=>by
 simp [execOp,ha.ev hx,go_sem]
theorem oq_pickT (hc:ev F z=some (.bool true)) (hx:ev F x=some v):OQ c ⟨d,.pick z x y,ty,pos,af,g⟩ F H v:=.of fun D a w ha _=>by
 simp [execOp,ha.ev hx,ha.ev hc,go_sem]
theorem oq_pickF (hc:ev F z=some (.bool false)) (hy:ev F y=some v):OQ c ⟨d,.pick z x y,ty,pos,af,g⟩ F H v:=.of fun D a w ha _=>by
 simp [execOp,ha.ev hy,ha.ev hc,go_sem]
theorem oq_add (hx:ev F x=some (.int .i64 m)) (hy:ev F y=some (.int .i64 n)) (hr:InR (m+n)):OQ c ⟨d,.binOp .add t x y t',ty,pos,af,g⟩ F H (.int .i64 (m+n)):=.of fun D a w ha _=>by
 have:=wrap_in hr
 simp [execOp,ha.ev hx,ha.ev hy,eqGuard,binOp,Op.intArith,go_sem,this]
theorem oq_sub (hx:ev F x=some (.int .i64 m)) (hy:ev F y=some (.int .i64 n)) (hr:InR (m-n)):OQ c ⟨d,.binOp .sub t x y t',ty,pos,af,g⟩ F H (.int .i64 (m-n)):=.of fun D a w ha _=>by
 have:=wrap_in hr
 simp [execOp,ha.ev hx,ha.ev hy,eqGuard,binOp,Op.intArith,go_sem,this]
theorem oq_mul (hx:ev F x=some (.int .i64 m)) (hy:ev F y=some (.int .i64 n)) (hr:InR (m*n)):OQ c ⟨d,.binOp .mul t x y t',ty,pos,af,g⟩ F H (.int .i64 (m*n)):=.of fun D a w ha _=>by
 have:=wrap_in hr
 simp [execOp,ha.ev hx,ha.ev hy,eqGuard,binOp,Op.intArith,go_sem,this]
theorem oq_quo (hx:ev F x=some (.int .i64 m)) (hy:ev F y=some (.int .i64 n)) (h0:n≠0) (hr:InR (m.tdiv n)):OQ c ⟨d,.binOp .quo t x y t',ty,pos,af,g⟩ F H (.int .i64 (m.tdiv n)):=.of fun D a w ha _=>by
 have:=wrap_in hr
 simp [execOp,ha.ev hx,ha.ev hy,eqGuard,binOp,Op.intDiv,go_sem,this,h0]
theorem oq_rem (hx:ev F x=some (.int .i64 m)) (hy:ev F y=some (.int .i64 n)) (h0:n≠0):OQ c ⟨d,.binOp .rem t x y t',ty,pos,af,g⟩ F H (.int .i64 (m.tmod n)):=.of fun D a w ha _=>by
 simp [execOp,ha.ev hx,ha.ev hy,eqGuard,binOp,Op.intDiv,go_sem,h0]
theorem oq_lss {k:IntKind} (hx:ev F x=some (.int k m)) (hy:ev F y=some (.int k n)):OQ c ⟨d,.binOp .lss t x y t',ty,pos,af,g⟩ F H (.bool (decide (m<n))):=.of fun D a w ha _=>by
 simp [execOp,ha.ev hx,ha.ev hy,eqGuard,binOp,Op.intCmp,go_sem]
theorem oq_leq {k:IntKind} (hx:ev F x=some (.int k m)) (hy:ev F y=some (.int k n)):OQ c ⟨d,.binOp .leq t x y t',ty,pos,af,g⟩ F H (.bool (decide (m≤n))):=.of fun D a w ha _=>by
 simp [execOp,ha.ev hx,ha.ev hy,eqGuard,binOp,Op.intCmp,go_sem]
theorem oq_gtr {k:IntKind} (hx:ev F x=some (.int k m)) (hy:ev F y=some (.int k n)):OQ c ⟨d,.binOp .gtr t x y t',ty,pos,af,g⟩ F H (.bool (decide (n<m))):=.of fun D a w ha _=>by
 simp [execOp,ha.ev hx,ha.ev hy,eqGuard,binOp,Op.intCmp,go_sem]
theorem oq_geq {k:IntKind} (hx:ev F x=some (.int k m)) (hy:ev F y=some (.int k n)):OQ c ⟨d,.binOp .geq t x y t',ty,pos,af,g⟩ F H (.bool (decide (n≤m))):=.of fun D a w ha _=>by
 simp [execOp,ha.ev hx,ha.ev hy,eqGuard,binOp,Op.intCmp,go_sem]
theorem oq_eql {k:IntKind} (hx:ev F x=some (.int k m)) (hy:ev F y=some (.int k n)):OQ c ⟨d,.binOp .eql t x y t',ty,pos,af,g⟩ F H (.bool (decide (m=n))):=.of fun D a w ha _=>by
 have:(m == n)=decide (m=n):=rfl
 simp [execOp,ha.ev hx,ha.ev hy,eqGuard,binOp,Op.intCmp,go_sem,this]
theorem oq_neq {k:IntKind} (hx:ev F x=some (.int k m)) (hy:ev F y=some (.int k n)):OQ c ⟨d,.binOp .neq t x y t',ty,pos,af,g⟩ F H (.bool (!decide (m=n))):=.of fun D a w ha _=>by
 have:(m != n) = !decide (m=n):=rfl
 simp [execOp,ha.ev hx,ha.ev hy,eqGuard,binOp,Op.intCmp,go_sem,this]
theorem oq_neg (hx:ev F x=some (.int .i64 m)) (hr:InR (-m)):OQ c ⟨d,.unOp .neg t x,ty,pos,af,g⟩ F H (.int .i64 (-m)):=.of fun D a w ha _=>by
 have:=wrap_in hr
 simp [execOp,ha.ev hx,Op.unary,Op.intArith,go_sem,this]
theorem oq_not {b:Bool} (hx:ev F x=some (.bool b)):OQ c ⟨d,.unOp .not t x,ty,pos,af,g⟩ F H (.bool (!b)):=.of fun D a w ha _=>by
 simp [execOp,ha.ev hx,Op.unary,go_sem]
theorem oq_extract {vs:Array Value} {i:Nat} (hx:ev F x=some (.tuple vs)) (hi:vs[i]?=some v):OQ c ⟨d,.extract x i,ty,pos,af,g⟩ F H v:=.of fun D a w ha _=>by
 simp [execOp,ha.ev hx,Instr.extract,go_sem,hi]
theorem oq_nilCheck {p:Addr} (hx:ev F x=some (.pointer (some p))):OQ c ⟨d,.nilCheck x,ty,pos,af,g⟩ F H (.pointer (some p)):=.of fun D a w ha _=>by
 simp [execOp,ha.ev hx,go_sem]
theorem oq_len {A:Option Addr} {k cap e s0:Nat} {a0:Bool} {z0:List Value} (ht:tyAt c.tys t=some ⟨a0,s0,z0,.slice e⟩) (hx:ev F x=some (.slice A k cap)) :
   OQ c ⟨d,.call ⟨.builtin .len,#[x],#[t]⟩,ty,pos,af,g⟩ F H (.int .i64 k):=.of fun D a w ha _=>by
 have h:=(c.ty ht).kind
 have h':=h w
 simp [execOp,resolve,invoke,builtin,ha.ev hx,Builtin.len_,go_sem,h',goInt]
theorem oq_max2 (hx:ev F x=some (.int .i64 m)) (hy:ev F y=some (.int .i64 n)) {T:Array TypeId}:OQ c ⟨d,.call ⟨.builtin .max,#[x,y],T⟩,ty,pos,af,g⟩ F H (.int .i64 (max m n)):=.of fun D a w ha _=>by
 have h:=run_max2 (P:=c.P) T ty m n w
 simp [execOp,resolve,invoke,builtin,ha.ev hx,ha.ev hy,Sem.run_bind,Sem.run_pure,h,Result.andThen]
theorem oq_min2 (hx:ev F x=some (.int .i64 m)) (hy:ev F y=some (.int .i64 n)) {T:Array TypeId}:OQ c ⟨d,.call ⟨.builtin .min,#[x,y],T⟩,ty,pos,af,g⟩ F H (.int .i64 (min m n)):=.of fun D a w ha _=>by
 have h:=run_min2 (P:=c.P) T ty m n w
 simp [execOp,resolve,invoke,builtin,ha.ev hx,ha.ev hy,Sem.run_bind,Sem.run_pure,h,Result.andThen]
theorem oq_max3 {k:Int} (hx:ev F x=some (.int .i64 m)) (hy:ev F y=some (.int .i64 n)) (hz:ev F z=some (.int .i64 k)) {T:Array TypeId}:OQ c ⟨d,.call ⟨.builtin .max,#[x,y,z],T⟩,ty,pos,af,g⟩ F H (.int .i64 (max (max m n) k)):=.of fun D a w ha _=>by
 have h:=run_max3 (P:=c.P) T ty m n k w
 simp [execOp,resolve,invoke,builtin,ha.ev hx,ha.ev hy,ha.ev hz,Sem.run_bind,Sem.run_pure,h,Result.andThen]
theorem oq_min3 {k:Int} (hx:ev F x=some (.int .i64 m)) (hy:ev F y=some (.int .i64 n)) (hz:ev F z=some (.int .i64 k)) {T:Array TypeId}:OQ c ⟨d,.call ⟨.builtin .min,#[x,y,z],T⟩,ty,pos,af,g⟩ F H (.int .i64 (min (min m n) k)):=.of fun D a w ha _=>by
 have h:=run_min3 (P:=c.P) T ty m n k w
 simp [execOp,resolve,invoke,builtin,ha.ev hx,ha.ev hy,ha.ev hz,Sem.run_bind,Sem.run_pure,h,Result.andThen]
theorem add_eq (b o n:Nat):Addr.add ⟨b,o,none⟩ n=⟨b,o+n,none⟩:=by
 unfold Addr.add
 split
 · rename_i h;subst h;rfl
 · rfl
theorem oq_fieldAddr {a0:Bool} {s0:Nat} {z0:List Value} {fs:List (Nat×Nat×Bool)} {f off k:Nat} {gg:Bool} {b o:Nat} (ht:tyAt c.tys t=some ⟨a0,s0,z0,.struct fs⟩) (hf:fs[f]?=some (off,k,gg)) (h0:Nat.beq k 0=false)
   (hx:ev F x=some (.pointer (some ⟨b,o,none⟩))):OQ c ⟨d,.fieldAddr t x f,ty,pos,af,g⟩ F H (.pointer (some ⟨b,o+off,none⟩)):=.of fun D a w ha _=>by
 have h:=(c.ty ht).kind
 obtain ⟨ds,h1,_,h2⟩:=h
 obtain ⟨dd,h3,h4,h5,h6⟩:=h2 f off k gg hf
 have hne:k≠0:=fun e=>by subst e;cases h0
 simp [execOp,ha.ev hx,Instr.fieldAt,Instr.sureAddr,fieldPlace,go_sem,h1,h3,h4,h5,hne,add_eq]
theorem oq_field {a0:Bool} {s0:Nat} {z0:List Value} {fs:List (Nat×Nat×Bool)} {f off k:Nat} {cs:Array Value} (ht:tyAt c.tys t=some ⟨a0,s0,z0,.struct fs⟩) (hf:fs[f]?=some (off,k,false))
   (hx:ev F x=some (.agg cs)) (hv:cs[off]?=some v):OQ c ⟨d,.field t x f,ty,pos,af,g⟩ F H v:=.of fun D a w ha _=>by
 have h:=(c.ty ht).kind
 obtain ⟨ds,h1,_,h2⟩:=h
 obtain ⟨dd,h3,h4,h5,h6⟩:=h2 f off k false hf
 simp [execOp,ha.ev hx,Instr.field,go_sem,h1,h3,h4,h5,h6,part,asAgg,hv]
theorem oq_indexAddr {a0 a1:Bool} {s0 s1:Nat} {z0 z1:List Value} {k1:TyK} {e b o k cap:Nat} {i:Int} (ht:tyAt c.tys t=some ⟨a0,s0,z0,.slice e⟩) (he:tyAt c.tys e=some ⟨a1,s1,z1,k1⟩)
   (hx:ev F x=some (.slice (some ⟨b,o,none⟩) k cap)) (hy:ev F y=some (.int .i64 i)) (h0:0≤i) (h1:i<k):OQ c ⟨d,.indexAddr t x y,ty,pos,af,g⟩ F H (.pointer (some ⟨b,o+i.toNat*s1,none⟩)):=.of fun D a w ha _=>by
 have h:=(c.ty ht).kind
 have h2:=h w
 have h3:=(c.ty he).size w
 simp [execOp,ha.ev hx,ha.ev hy,Instr.indexAt,go_sem,h2,h3,asIntOf,h0,h1,add_eq]
theorem oq_indexAddrN {a0 a1:Bool} {s0 s1:Nat} {z0 z1:List Value} {k1:TyK} {e b o k cap:Nat} {i:Nat} (ht:tyAt c.tys t=some ⟨a0,s0,z0,.slice e⟩) (he:tyAt c.tys e=some ⟨a1,s1,z1,k1⟩)
   (hx:ev F x=some (.slice (some ⟨b,o,none⟩) k cap)) (hy:ev F y=some (.int .i64 (i:Int))) (h1:i<k):OQ c ⟨d,.indexAddr t x y,ty,pos,af,g⟩ F H (.pointer (some ⟨b,o+i*s1,none⟩)):=by
 have:=oq_indexAddr (d:=d) (ty:=ty) (pos:=pos) (af:=af) (g:=g) (H:=H) ht he hx hy (by omega) (by omega)
 simpa using this
theorem oq_indexAddrA {a0 a1:Bool} {s0 s1:Nat} {z0 z1:List Value} {k1:TyK} {e b o k:Nat} {i:Int} (ht:tyAt c.tys t=some ⟨a0,s0,z0,.array k e⟩) (he:tyAt c.tys e=some ⟨a1,s1,z1,k1⟩)
   (hx:ev F x=some (.pointer (some ⟨b,o,none⟩))) (hy:ev F y=some (.int .i64 i)) (h0:0≤i) (h1:i<k):OQ c ⟨d,.indexAddr t x y,ty,pos,af,g⟩ F H (.pointer (some ⟨b,o+i.toNat*s1,none⟩)):=.of fun D a w ha _=>by
 have h:=(c.ty ht).kind
 have h2:=h w
 have h3:=(c.ty he).size w
 simp [execOp,ha.ev hx,ha.ev hy,Instr.indexAt,Instr.sureAddr,go_sem,h2,h3,asIntOf,h0,h1,add_eq]
theorem oq_index {a0:Bool} {s0 s1:Nat} {z0 z1:List Value} {k1:TyK} {e k:Nat} {i:Int} {cs:Array Value} (ht:tyAt c.tys t=some ⟨a0,s0,z0,.array k e⟩) (he:tyAt c.tys e=some ⟨false,s1,z1,k1⟩)
   (hx:ev F x=some (.agg cs)) (hy:ev F y=some (.int .i64 i)) (hv:cs[i.toNat*s1]?=some v) (h0:0≤i) (h1:i<k):OQ c ⟨d,.index t x y,ty,pos,af,g⟩ F H v:=.of fun D a w ha _=>by
 have h:=(c.ty ht).kind
 have h2:=h w
 have h3:=(c.ty he).size w
 have h4:=(c.ty he).agg w
 simp [execOp,ha.ev hx,ha.ev hy,Instr.index,go_sem,h2,h3,h4,asIntOf,h0,h1,part,hv]
theorem oq_indexAgg {a0:Bool} {s0 s1:Nat} {z0 z1:List Value} {k1:TyK} {e k:Nat} {i:Int} {l vs:List Value} (ht:tyAt c.tys t=some ⟨a0,s0,z0,.array k e⟩) (he:tyAt c.tys e=some ⟨true,s1,z1,k1⟩)
   (hx:ev F x=some (.agg ⟨l⟩)) (hy:ev F y=some (.int .i64 i)) (hv:Norm ((l.drop (i.toNat*s1)).take s1) vs) (h0:0≤i) (h1:i<k):OQ c ⟨d,.index t x y,ty,pos,af,g⟩ F H (.agg ⟨vs⟩):=.of fun D a w ha _=>by
 have h:=(c.ty ht).kind
 have h2:=h w
 have h3:=(c.ty he).size w
 have h4:=(c.ty he).agg w
 have hv':=hv.eq
 simp [execOp,ha.ev hx,ha.ev hy,Instr.index,go_sem,h2,h3,h4,asIntOf,h0,h1,part,hv']
theorem oq_makeFunc {fn:Fn} {cap:Array Operand} {vs:List Value} (hc:evs F cap.toList=some vs):OQ c ⟨d,.makeFunc fn #[] cap,ty,pos,af,g⟩ F H (.func fn #[] vs.toArray):=.of fun D a w ha _=>by
 have:=ha.evs hc
 have h2:cap.map a=vs.toArray:=by rw [← this];cases cap;simp
 simp [execOp,Instr.makeFunc,go_sem,h2]
theorem oq_conv64 {a0 a1:Bool} {s0 s1:Nat} {z0 z1:List Value} {k:IntKind} (ht:tyAt c.tys t=some ⟨a0,s0,z0,.int k⟩) (ht':tyAt c.tys t'=some ⟨a1,s1,z1,.int .i64⟩) (hx:ev F x=some (.int k m)) (hr:InR m) :
   OQ c ⟨d,.convert t t' x,ty,pos,af,g⟩ F H (.int .i64 m):=.of fun D a w ha _=>by
 have h:=(c.ty ht).kind
 have h2:=h w
 have h':=(c.ty ht').kind
 have h3:=h' w
 have:=wrap_in hr
 simp [execOp,ha.ev hx,convert,go_sem,h2,h3,Conv.intToInt,this]
theorem run_loadCells_eq (P:Program) (w:World) (b o:Nat) (vs:List Value) (h:∀ j v,vs[j]?=some v→w.cell? ⟨b,o+j,none⟩=some v):(loadCells ⟨b,o,none⟩ vs.length).run P w=.ok vs.toArray w:=by
 unfold loadCells
 rw [run_loadCellsFrom P w b o vs 0 #[] (fun j v hj=>by rw [Nat.zero_add];exact h j v hj)]
 simp
theorem oq_load {s0:Nat} {z0:List Value} {k0:TyK} {p:Addr} (ht:tyAt c.tys t=some ⟨false,s0,z0,k0⟩) (hx:ev F x=some (.pointer (some p))) (hv:Rd c H p v):OQ c ⟨d,.load t x,ty,pos,af,g⟩ F H v:=.of fun D a w ha hw=>by
 have h1:=(c.ty ht).agg w
 have h2:=run_load c.P p w v (hv D w hw)
 simp [execOp,ha.ev hx,Instr.loadAt,Instr.sureAddr,loadVar,Sem.run_bind,Sem.run_pure,h1,h2,Result.andThen]
theorem oq_loadAgg {z0:List Value} {k0:TyK} {b o k:Nat} {vs:List Value} (ht:tyAt c.tys t=some ⟨true,k,z0,k0⟩) (hx:ev F x=some (.pointer (some ⟨b,o,none⟩))) (hr:Rdn c H b o k vs) :
   OQ c ⟨d,.load t x,ty,pos,af,g⟩ F H (.agg ⟨vs⟩):=.of fun D a w ha hw=>by
 obtain ⟨hv,hl⟩:=hr.spec
 have h1:=(c.ty ht).agg w
 have h3:=(c.ty ht).size w
 rw [← hl] at h3
 have h2:=run_loadCells_eq c.P w b o vs (fun j v hj=>Rds.at_ hw vs o hv j v hj)
 simp [execOp,ha.ev hx,Instr.loadAt,Instr.sureAddr,loadVar,Sem.run_bind,Sem.run_pure,h1,h2,h3,Result.andThen]
/-! Composite values -/
def cellsL:Value→List Value
 | .agg c=>c.toList
 | v=>[v]
theorem cellsL_eq (v:Value):v.cells=(cellsL v).toArray:=by cases v<;>simp [Value.cells,cellsL]
def evp (F:Fr):List (Nat×Operand)→Option (List (Nat×Value))
 | []=>some []
 | (i,x)::l=>match ev F x,evp F l with
   | some v,some vs=>some ((i,v)::vs)
   | _,_=>none
theorem Ev.evp {ρ:Operand→Value} (h:Ev F ρ):∀ {l:List (Nat×Operand)} {vs:List (Nat×Value)},evp F l=some vs→l.map (fun p=>(p.1,ρ p.2))=vs
 | [],_,hx=>Option.some.inj hx
 | (i,x)::l,vs,hx=>by
   simp only [Ytcjkndjjbjoehaa.evp] at hx
   split at hx
   · rename_i v us h1 h2
     obtain rfl:=Option.some.inj hx
     rw [List.map_cons,h.ev h1,h.evp h2]
   · cases hx
def setL:List Value→Nat→List Value→List Value
 | C,_,[]=>C
 | C,o,v::l=>setL (C.set o v) (o+1) l
theorem setL_length:∀ (l:List Value) (C:List Value) (o:Nat),(setL C o l).length=C.length
 | [],_,_=>rfl
 | v::l,C,o=>by simp only [setL];rw [setL_length l];simp
def fillL (place:Nat→Option (Nat×Nat)):List Value→List (Nat×Value)→Option (List Value)
 | C,[]=>some C
 | C,(i,v)::r=>match place i with
   | none=>none
   | some (off,n)=>match Nat.beq (cellsL v).length n && Nat.ble (off+n) C.length with
     | true=>fillL place (setL C off (cellsL v)) r
     | false=>none
theorem foldl_setL:∀ (vs:List Value) (k off:Nat) (C:List Value),((vs.zipIdx k).foldl (fun (cs:Array Value) (p:Value×Nat)=>cs.setIfInBounds (off+p.2) p.1) ⟨C⟩)=⟨setL C (off+k) vs⟩
 | [],_,_,_=>rfl
 | v::vs,k,off,C=>by
   rw [List.zipIdx_cons,List.foldl_cons]
   have:=foldl_setL vs (k+1) off (C.set (off+k) v)
   simp only [setL]
   rw [← Nat.add_assoc] at this
   rw [← this]
   congr 1
   simp
theorem fill_of (place:Nat→Option (Nat×Nat)):∀ (parts:List (Nat×Value)) (C r:List Value),fillL place C parts=some r→Instr.fill place ⟨C⟩ parts=some ⟨r⟩
 | [],C,r,h=>by simp only [fillL] at h;obtain rfl:=Option.some.inj h;rfl
 | (i,v)::parts,C,r,h=>by
   unfold fillL at h
   unfold Instr.fill
   cases hp:place i with
   | none=>rw [hp] at h;cases h
   | some q=>
     obtain ⟨off,n⟩:=q
     rw [hp] at h
     simp only at h ⊢
     split at h
     · rename_i hb
       simp only [Bool.and_eq_true,Nat.beq_eq,Nat.ble_eq] at hb
       have hs:v.cells.size=n:=by rw [cellsL_eq];simpa using hb.1
       rw [hs]
       have hz:¬ (off+n > C.length):=by omega
       simp only [ne_eq,not_true_eq_false,decide_false,Bool.false_or,List.size_toArray,hz,Bool.false_eq_true,if_false]
       have h2:=foldl_setL (cellsL v) 0 off C
       have h3:(v.cells.zipIdx.foldl (fun (cs:Array Value) (p:Value×Nat)=>cs.setIfInBounds (off+p.2) p.1) ⟨C⟩)=⟨setL C off (cellsL v)⟩:=by
         rw [cellsL_eq,← Array.foldl_toList]
         simpa using h2
       have h4:=fill_of place parts (setL C off (cellsL v)) r h
       rw [← h3] at h4
       exact h4
     · cases h
theorem run_mapM_ok {α β:Type} (P:Program) (w:World) (f:α→Sem β):∀ (l:List α) (r:List β),l.length=r.length→(∀ (i:Nat) x y,l[i]?=some x→r[i]?=some y→(f x).run P w=.ok y w)→(l.mapM f).run P w=.ok r w
 | [],[],_,_=>by simp [Sem.run_pure]
 | [],_::_,h,_=>by simp at h
 | _::_,[],h,_=>by simp at h
 | x::l,y::r,hl,h=>by
   have h0:=h 0 x y rfl rfl
   have h1:=run_mapM_ok P w f l r (by simpa using hl) (fun i r' v' hr hv=>h (i+1) r' v' (by simpa using hr) (by simpa using hv))
   simp [List.mapM_cons,Sem.run_bind,Sem.run_pure,h0,h1,Result.andThen]
def placeS (fs:List (Nat×Nat×Bool)) (i:Nat):Option (Nat×Nat):=match fs[i]? with|some (o,n,_)=>some (o,n)|none=>none
theorem oq_build {a0:Bool} {s0:Nat} {z0 r l:List Value} {fs:List (Nat×Nat×Bool)} {parts:List (Nat×Operand)} {vs:List (Nat×Value)} (ht:tyAt c.tys t=some ⟨a0,s0,z0,.struct fs⟩) (hp:evp F parts=some vs)
   (hf:fillL (placeS fs) z0 vs=some l) (hn:Norm l r):OQ c ⟨d,.build t ⟨parts⟩,ty,pos,af,g⟩ F H (.agg ⟨r⟩):=.of fun D a w ha _=>by
 have h:=(c.ty ht).kind
 obtain ⟨ds,h1,hl,h2⟩:=h
 obtain ⟨zz,h3,h4⟩:=(c.ty ht).zero w
 have h5:=ha.evp hp
 have h6:=fill_of _ _ _ _ hf
 have hm:(ds.toList.mapM fun f=>(do pure (f.offset,← sizeOf f.type):Sem (Nat×Nat))).run c.P w=.ok (fs.map fun p=>(p.1,p.2.1)) w:=by
   refine run_mapM_ok c.P w _ _ _ (by simp [hl]) (fun i x y hx hy=>?_)
   simp only [List.getElem?_map,Option.map_eq_some_iff] at hy
   obtain ⟨⟨o,n,gg⟩,hy,rfl⟩:=hy
   obtain ⟨dd,k1,k2,k3,_⟩:=h2 i o n gg hy
   obtain rfl:dd=x:=by simpa [k1] using hx
   simp [Sem.run_bind,Sem.run_pure,k3,k2,Result.andThen]
 have hpl:(fun i=>((fs.map fun p=>(p.1,p.2.1)).toArray)[i]?)=placeS fs:=by
   funext i
   simp only [placeS,List.getElem?_toArray,List.getElem?_map]
   cases fs[i]?<;>rfl
 have hq:=h5
 simp only [execOp,Instr.build,Sem.run_bind,Sem.run_pure,h3,h1 w,Result.andThen,Array.mapM_eq_mapM_toList,map_eq_pure_bind,hm]
 have h7:(Array.map (fun x=>(x.fst,a x.snd)) (⟨parts⟩:Array (Nat×Operand))).toList=vs:=by simpa using h5
 rw [h4]
 simp only [h7,hpl,h6,Sem.run_pure,Result.andThen,hn.eq]
theorem oq_buildA {a0 a1:Bool} {s0 s1 n0 e:Nat} {z0 z1 r l:List Value} {k1:TyK} {parts:List (Nat×Operand)} {vs:List (Nat×Value)} (ht:tyAt c.tys t=some ⟨a0,s0,z0,.array n0 e⟩) (he:tyAt c.tys e=some ⟨a1,s1,z1,k1⟩) (hp:evp F parts=some vs)
   (hf:fillL (fun i=>some (i*s1,s1)) z0 vs=some l) (hn:Norm l r):OQ c ⟨d,.build t ⟨parts⟩,ty,pos,af,g⟩ F H (.agg ⟨r⟩):=.of fun D a w ha _=>by
 have h1:=(c.ty ht).kind w
 obtain ⟨zz,h3,h4⟩:=(c.ty ht).zero w
 have h2:=(c.ty he).size w
 have h5:=ha.evp hp
 have h6:=fill_of _ _ _ _ hf
 simp only [execOp,Instr.build,Sem.run_bind,Sem.run_pure,h3,h1,h2,Result.andThen]
 have h7:(Array.map (fun x=>(x.fst,a x.snd)) (⟨parts⟩:Array (Nat×Operand))).toList=vs:=by simpa using h5
 rw [h4]
 simp only [h7,h6,Sem.run_pure,Result.andThen,hn.eq]
theorem oq_call {f:Operand} {args:Array Operand} {T:Array TypeId} {k:Nat} {fst cap vs:List Value} (hf:ev F f=some (.func (.func k) ⟨fst⟩ ⟨cap⟩)) (hc:∀ (a:Array Value) (w:World),(callFunc k a).run c.P w=.ok (.enter k a) w)
   (ha:evs F args.toList=some vs) (h:∀ D w,Has c.w0 ⟨c.M,D⟩ H w→Calls c.P k ⟨fst++vs++cap⟩ w fun e w'=>e=.returned v∧Ext w w'):OQ c ⟨d,.call ⟨.value f,args,T⟩,ty,pos,af,g⟩ F H v:=by
 intro D a w hA hw
 have h1:=hA.evs ha
 have h2:args.map a.eval=vs.toArray:=by rw [← h1];cases args;simp
 have:(execOp a.eval ⟨d,.call ⟨.value f,args,T⟩,ty,pos,af,g⟩).run c.P w=.ok (.enter k ⟨fst++vs++cap⟩) w:=by
   simp [execOp,resolve,invoke,hA.ev hf,Deferred.ofValue,Sem.run_bind,Sem.run_pure,h2,Result.andThen,hc]
 rw [this]
 exact (h D w hw).mono fun e w' he=>⟨v,he.1,rfl,he.2⟩
def cmpV (op:BinOp) (k:IntKind) (m n:Int):Option (Value×Prop):=
 match op with
 | .lss=>some (.bool (decide (m<n)),True)
 | .leq=>some (.bool (decide (m≤n)),True)
 | .gtr=>some (.bool (decide (n<m)),True)
 | .geq=>some (.bool (decide (n≤m)),True)
 | .eql=>some (.bool (decide (m=n)),True)
 | .neq=>some (.bool (!decide (m=n)),True)
 | .add=>match k with|.i64=>some (.int .i64 (m+n),InR (m+n))|_=>none
 | .sub=>match k with|.i64=>some (.int .i64 (m-n),InR (m-n))|_=>none
 | .mul=>match k with|.i64=>some (.int .i64 (m*n),InR (m*n))|_=>none
 | .quo=>match k with|.i64=>some (.int .i64 (m.tdiv n),n≠0∧InR (m.tdiv n))|_=>none
 | .rem=>match k with|.i64=>some (.int .i64 (m.tmod n),n≠0)|_=>none
 | _=>none
def builtinV (tys:List (Nat×TyI)) (F:Fr) (b:Builtin) (args:List Operand) (T:List TypeId):Option (Value×Prop):=
 match b,args with
 | .len,[x]=>match T with
   | [t]=>match tyAt tys t with
     | some ⟨_,_,_,.slice _⟩=>match ev F x with
       | some (.slice _ k _)=>some (.int .i64 (k:Int),True)
       | _=>none
     | _=>none
   | _=>none
 | .max,[x,y]=>match ev F x,ev F y with|some (.int .i64 m),some (.int .i64 n)=>some (.int .i64 (max m n),True)|_,_=>none
 | .min,[x,y]=>match ev F x,ev F y with|some (.int .i64 m),some (.int .i64 n)=>some (.int .i64 (min m n),True)|_,_=>none
 | .max,[x,y,z]=>match ev F x,ev F y,ev F z with|some (.int .i64 m),some (.int .i64 n),some (.int .i64 k)=>some (.int .i64 (max (max m n) k),True)|_,_,_=>none
 | .min,[x,y,z]=>match ev F x,ev F y,ev F z with|some (.int .i64 m),some (.int .i64 n),some (.int .i64 k)=>some (.int .i64 (min (min m n) k),True)|_,_,_=>none
 | _,_=>none
def opV (tys:List (Nat×TyI)) (F:Fr) (o:Op):Option (Value×Prop):=
 match o with
 | .move x=>match ev F x with|some v=>some (v,True)|none=>none
 | .assign x=>match ev F x with|some v=>some (v,True)|none=>none
 | .pick z x y=>match ev F z with
   | some (.bool true)=>match ev F x with|some v=>some (v,True)|none=>none
   | some (.bool false)=>match ev F y with|some v=>some (v,True)|none=>none
   | _=>none
 | .binOp op _ x y _=>match ev F x,ev F y with
   | some (.int k m),some (.int k' n)=>match decEq k' k with|.isTrue _=>cmpV op k m n|.isFalse _=>none
   | _,_=>none
 | .unOp .neg _ x=>match ev F x with|some (.int .i64 m)=>some (.int .i64 (-m),InR (-m))|_=>none
 | .unOp .not _ x=>match ev F x with|some (.bool b)=>some (.bool (!b),True)|_=>none
 | .extract x i=>match ev F x with|some (.tuple vs)=>(match vs[i]? with|some v=>some (v,True)|none=>none)|_=>none
 | .nilCheck x=>match ev F x with|some (.pointer (some p))=>some (.pointer (some p),True)|_=>none
 | .fieldAddr t x f=>match tyAt tys t with
   | some ⟨_,_,_,.struct fs⟩=>match fs[f]? with
     | some (off,k,_)=>match h:Nat.beq k 0 with
       | false=>match ev F x with|some (.pointer (some ⟨b,o,none⟩))=>some (.pointer (some ⟨b,o+off,none⟩),True)|_=>none
       | true=>none
     | none=>none
   | _=>none
 | .field t x f=>match tyAt tys t with
   | some ⟨_,_,_,.struct fs⟩=>match fs[f]? with
     | some (off,_,false)=>match ev F x with|some (.agg cs)=>(match cs[off]? with|some v=>some (v,True)|none=>none)|_=>none
     | _=>none
   | _=>none
 | .indexAddr t x y=>match tyAt tys t with
   | some ⟨_,_,_,.slice e⟩=>match tyAt tys e with
     | some ⟨_,s,_,_⟩=>match ev F x,ev F y with
       | some (.slice (some ⟨b,o,none⟩) k _),some (.int .i64 i)=>some (.pointer (some ⟨b,o+i.toNat*s,none⟩),0≤i∧i<k)
       | _,_=>none
     | none=>none
   | some ⟨_,_,_,.array k e⟩=>match tyAt tys e with
     | some ⟨_,s,_,_⟩=>match ev F x,ev F y with
       | some (.pointer (some ⟨b,o,none⟩)),some (.int .i64 i)=>some (.pointer (some ⟨b,o+i.toNat*s,none⟩),0≤i∧i<k)
       | _,_=>none
     | none=>none
   | _=>none
 | .index t x y=>match tyAt tys t with
   | some ⟨_,_,_,.array k e⟩=>match tyAt tys e with
     | some ⟨false,s,_,_⟩=>match ev F x,ev F y with
       | some (.agg cs),some (.int .i64 i)=>(match cs[i.toNat*s]? with|some v=>some (v,0≤i∧i<k)|none=>none)
       | _,_=>none
     | _=>none
   | _=>none
 | .makeFunc fn ⟨[]⟩ cap=>match evs F cap.toList with|some vs=>some (.func fn #[] ⟨vs⟩,True)|none=>none
 | .convert t t' x=>match tyAt tys t,tyAt tys t' with
   | some ⟨_,_,_,.int k⟩,some ⟨_,_,_,.int .i64⟩=>match ev F x with
     | some (.int k' m)=>(match decEq k' k with|.isTrue _=>some (.int .i64 m,InR m)|.isFalse _=>none)
     | _=>none
   | _,_=>none
 | .call ⟨.builtin b,⟨args⟩,⟨T⟩⟩=>builtinV tys F b args T
 | _=>none
theorem oq_cmp {op:BinOp} {k:IntKind} {C:Prop} (hx:ev F x=some (.int k m)) (hy:ev F y=some (.int k n)) (h:cmpV op k m n=some (v,C)) (hC:C):OQ c ⟨d,.binOp op t x y t',ty,pos,af,g⟩ F H v:=by
 unfold cmpV at h
 cases op<;>simp only at h<;>first
   | (cases h;done)
   | (cases h;first
     | exact oq_lss ‹_› ‹_›
     | exact oq_leq ‹_› ‹_›
     | exact oq_gtr ‹_› ‹_›
     | exact oq_geq ‹_› ‹_›
     | exact oq_eql ‹_› ‹_›
     | exact oq_neq ‹_› ‹_›)
   | (cases k<;>simp only at h<;>first
     | (cases h;done)
     | (cases h;first
       | exact oq_add ‹_› ‹_› hC
       | exact oq_sub ‹_› ‹_› hC
       | exact oq_mul ‹_› ‹_› hC
       | exact oq_quo ‹_› ‹_› hC.1 hC.2
       | exact oq_rem ‹_› ‹_› hC))
theorem oq_builtin {b:Builtin} {args:List Operand} {T:List TypeId} {C:Prop} (h:builtinV c.tys F b args T=some (v,C)) (hC:C):OQ c ⟨d,.call ⟨.builtin b,⟨args⟩,⟨T⟩⟩,ty,pos,af,g⟩ F H v:=by
 unfold builtinV at h
 split at h
 all_goals (repeat' split at h)
 all_goals first
   | (cases h;done)
   | (cases h;first
     | exact oq_len ‹_› ‹_›
     | exact oq_max2 ‹_› ‹_›
     | exact oq_min2 ‹_› ‹_›
     | exact oq_max3 ‹_› ‹_› ‹_›
     | exact oq_min3 ‹_› ‹_› ‹_›)
set_option maxHeartbeats 4000000 in
theorem oq_fn {o:Oper} {C:Prop} (h:opV c.tys F o.op=some (v,C)) (hC:C):OQ c o F H v:=by
 obtain ⟨d,op,ty,pos,af,g⟩:=o
 simp only at h
 unfold opV at h
 split at h
 all_goals (repeat' split at h)
 all_goals first
   | (cases h;done)
   | exact oq_builtin h hC
   | (subst_vars;first
     | exact oq_cmp ‹_› ‹_› h hC
     | (cases h;first
       | exact oq_move ‹_›
       | exact oq_assign ‹_›
       | exact oq_pickT ‹_› ‹_›
       | exact oq_pickF ‹_› ‹_›
       | exact oq_neg ‹_› hC
       | exact oq_not ‹_›
       | exact oq_extract ‹_› ‹_›
       | exact oq_nilCheck ‹_›
       | exact oq_fieldAddr ‹_› ‹_› ‹_› ‹_›
       | exact oq_field ‹_› ‹_› ‹_› ‹_›
       | exact oq_indexAddr ‹_› ‹_› ‹_› ‹_› hC.1 hC.2
       | exact oq_indexAddrA ‹_› ‹_› ‹_› ‹_› hC.1 hC.2
       | exact oq_index ‹_› ‹_› ‹_› ‹_› ‹_› hC.1 hC.2
       | exact oq_makeFunc ‹_›
       | exact oq_conv64 ‹_› ‹_› ‹_› hC))
theorem oq_id {o:Oper} (h:OQ c o F H v):OQ c o F H v:=h
theorem rd_id {p:Addr} (h:Rd c H p v):Rd c H p v:=h
end
theorem Has.perm {w0:World} {M:Ms} {H H':Hp} {w:World} (h:Has w0 M H w) (p:H.Perm H'):Has w0 M H' w:=
 ⟨h.ext,fun x hx=>h.blk x (p.mem_iff.2 hx),(p.map _).nodup_iff.1 h.nodup,h.marks⟩
theorem Has.fresh {w0:World} {M:Ms} {H:Hp} {w w':World} (h:Has w0 M H w) (e:Ext w w') {b:Nat} {C:List Value} {g:Tg} (hb:w.heap.size≤b) (k:Blk w' b C g):Has w0 M ((b,C,g)::H) w':=by
 have h':=h.grow e
 refine ⟨h'.ext,fun x hx=>?_,?_,h'.marks⟩
 · rcases List.mem_cons.1 hx with rfl|hx
   · exact ⟨.inl (Nat.le_trans h.ext.size hb),k⟩
   · exact h'.blk x hx
 · rw [List.map_cons,List.nodup_cons]
   refine ⟨fun hm=>?_,h.nodup⟩
   obtain ⟨x,hx,hx2⟩:=List.mem_map.1 hm
   have:=(h.blk x hx).2.lt
   simp only at hx2
   omega
theorem mark_ne {w:World} {b k:Nat} {C:List Value} {g:Tg} (h:Blk w b C g) (hk:w.heap[k]?=some (.deferred (some []))) (e:k=b):False:=by
 subst e
 rcases h with ⟨c,t,h1,_⟩|⟨_,t,L,_,es,ck,h1,_⟩
 · rw [h1] at hk;cases hk
 · rw [h1] at hk;cases hk
theorem Has.wrote {w0:World} {M:Ms} {H:Hp} {w w':World} {b:Nat} {C C':List Value} {g g':Tg} (h:Has w0 M ((b,C,g)::H) w) (e:ExtM [b] w w') (k:Blk w' b C' g'):Has w0 M ((b,C',g')::H) w':=by
 have hb:=(h.blk _ (List.mem_cons_self ..)).1
 refine ⟨⟨e.os.trans h.ext.os,e.tape.trans h.ext.tape,e.output.trans h.ext.output,Nat.le_trans h.ext.size e.size,fun i hi hm=>?_⟩,fun x hx=>?_,h.nodup,h.marks.1,fun k hk=>⟨(h.marks.2 k hk).1,(e.block k (mark_lt (h.marks.2 k hk).2) (fun hm=>mark_ne (h.blk _ (List.mem_cons_self ..)).2 (h.marks.2 k hk).2 (by simpa using hm))).trans (h.marks.2 k hk).2⟩⟩
 · rw [e.block i (Nat.lt_of_lt_of_le hi h.ext.size) (fun hmem=>?_),h.ext.block i hi hm]
   obtain rfl:i=b:=by simpa using hmem
   rcases hb with hb|hb
   · exact absurd hi (by simp only at hb;omega)
   · exact hm hb
 · rcases List.mem_cons.1 hx with rfl|hx'
   · exact ⟨hb,k⟩
   · have hx:=List.mem_cons_of_mem (b,C,g) hx'
     refine ⟨(h.blk x hx).1,(h.blk x hx).2.same (e.block _ (h.blk x hx).2.lt fun hmem=>?_)⟩
     have hne:=(List.nodup_cons.1 h.nodup).1
     obtain hxb:x.1=b:=by simpa using hmem
     exact hne (List.mem_map.2 ⟨x,hx',hxb⟩)
theorem Blk.row (w:World) (C:List Value) (t s n:Nat) (hs:C.length=n*s) (hn:n≤maxLen):Blk (w.alloc (.cells C.toArray t)) w.heap.size C (some (t,s,n)):=
 .inl ⟨C.toArray,t,heap_alloc_new w _,fun o v h=>by simpa using h,rfl,by simpa using hs,hn⟩
theorem Blk.set {w:World} {b:Nat} {C:List Value} {g:Tg} (h:Blk w b C g) (o:Nat) (v:Value) (ho:o<C.length):Blk (w.setCell ⟨b,o,none⟩ v) b (C.set o v) g:=by
 obtain ⟨c,t,h1,h2,h3⟩|⟨rfl,_⟩:=h
 rotate_left
 · simp at ho
 refine .inl ⟨c.setIfInBounds o v,t,?_,fun i u hi=>?_,?_⟩
 · simp [World.setCell,Array.getElem?_modify,h1]
 · rw [Array.getElem?_setIfInBounds]
   rw [List.getElem?_set] at hi
   split
   · rename_i hoi
     subst hoi
     rw [if_pos rfl,if_pos ho] at hi
     have:=h2 o C[o] (by simp [ho])
     have hlt2:=(Array.getElem?_eq_some_iff.1 this).1
     rw [if_pos hlt2];exact hi
   · rename_i hoi
     rw [if_neg hoi] at hi
     exact h2 i u hi
 · cases g with
   | none=>trivial
   | some g=>
     obtain ⟨e,s,cap⟩:=g
     simpa [TgOk] using h3
theorem ExtM.setCell (w:World) (b o:Nat) (v:Value):ExtM [b] w (w.setCell ⟨b,o,none⟩ v):=
 ⟨rfl,rfl,rfl,by simp [World.setCell],fun i hi hm=>Below.heap_setCell w _ v i (fun e=>hm (by rw [e];simp))⟩
theorem run_store (P:Program) (w:World) (p:Addr) (v u:Value) (hv:v.oneCell'=true) (hc:w.cell? p=some u) (hf:w.frozen? p=false):(Go.store p v).run P w=.ok () (w.setCell p v):=by
 cases v<;>first|(simp [Go.store,Sem.run,hc,hf];done)|(simp [Value.oneCell'] at hv)
theorem run_storeCells (P:Program) (b o:Nat):∀ (l:List Value) (i:Nat) (w:World) (C:List Value) (g:Tg),Blk w b C g→o+i+l.length≤C.length→(∀ v∈l,v.oneCell'=true) →
   ∃ w',(storeCells ⟨b,o,none⟩ l i).run P w=.ok () w'∧Blk w' b (setL C (o+i) l) g∧ExtM [b] w w'
 | [],i,w,C,g,hb,_,_=>⟨w,by simp [storeCells,Sem.run_pure],hb,ExtM.refl _ _⟩
 | v::l,i,w,C,g,hb,hl,hv=>by
   have hlt:o+i<C.length:=by simp at hl;omega
   have hcell:=hb.cell (o:=o+i) (v:=C[o+i]) (by simp [hlt])
   have h1:=run_store P w ⟨b,o+i,none⟩ v _ (hv v (List.mem_cons_self ..)) hcell (hb.free _)
   obtain ⟨w',h2,h3,h4⟩:=run_storeCells P b o l (i+1) (w.setCell ⟨b,o+i,none⟩ v) (C.set (o+i) v) g (hb.set _ _ hlt) (by simp at hl ⊢;omega) (fun u hu=>hv u (List.mem_cons_of_mem _ hu))
   refine ⟨w',?_,by simpa [setL,Nat.add_assoc] using h3,(ExtM.setCell ..).trans h4⟩
   unfold storeCells
   rw [add_eq,run_bind' P _ _ w () _ h1]
   exact h2
def OS (c:Cx) (o:Oper) (F:Fr) (H:Hp) (K:Value→Hp→Prop):Prop:=
 ∀ D a w,Frm D c.N F a→Has c.w0 ⟨c.M,D⟩ H w→givesUpon c.P (fun u w'=>∃ H',K u H'∧Has c.w0 ⟨c.M,D⟩ H' w') ((execOp a.eval o).run c.P w)
section
variable {c:Cx} {F:Fr} {H H':Hp} {K:Value→Hp→Prop} {d:Option Tmp} {ty:TypeId} {pos:String} {af:Array Edge} {g:Option (Nat×Bool)} {t t':TypeId} {x y z:Operand} {v u:Value} {m n:Int} {a0:Bool} {s0:Nat} {z0:List Value} {k0:TyK} {b o:Nat} {C C':List Value} {tg:Tg}
def OX (c:Cx) (o:Oper) (F:Fr) (H:Hp) (K:Value→Hp→Prop):Prop:=
 ∀ D a w,Frm D c.N F a→Has c.w0 ⟨c.M,D⟩ H w→givesUpon c.P (fun u w'=>(∃ H',K u H'∧Has c.w0 ⟨c.M,D⟩ H' w')∧Ext w w') ((execOp a.eval o).run c.P w)
theorem givesUpon.mono {P:Program} {R R':Value→World→Prop} (hr:∀ v w,R v w→R' v w) {r:Result Next} (h:givesUpon P R r):givesUpon P R' r:=by
 cases r with
 | ok n w'=>
   cases n<;>simp only [givesUpon] at h ⊢<;>first
     | exact hr _ _ h
     | exact h.mono fun e w2 ⟨u,he,hu⟩=>⟨u,he,hr _ _ hu⟩
     | exact h.mono fun u w2 hu=>hr _ _ hu
 | halt h0 w'=>cases h0<;>exact h.elim
theorem OS.ofX {o:Oper} (h:OX c o F H K):OS c o F H K:=fun D a w ha hw=>givesUpon.mono (fun _ _ h=>h.1) (h D a w ha hw)
theorem run_new (P:Program) (w:World) (C:Array Value) (e:TypeId):(newRow e C).run P w=.ok ⟨w.heap.size,0,none⟩ (w.alloc (.cells C e)):=by
 simp [newRow,newObj,Sem.run_bind,Sem.run_pure,Result.andThen]
 rfl
theorem ox_alloc (ht:tyAt c.tys t=some ⟨a0,s0,z0,k0⟩) (k:∀ b,K (.pointer (some ⟨b,0,none⟩)) ((b,z0,some (t,s0,1))::H)):OX c ⟨d,.alloc t,ty,pos,af,g⟩ F H K:=by
 intro D a w ha hw
 obtain ⟨zz,h1,h2⟩:=(c.ty ht).zero w
 have:(execOp a.eval ⟨d,.alloc t,ty,pos,af,g⟩).run c.P w=.ok (.value (.pointer (some ⟨w.heap.size,0,none⟩))) (w.alloc (.cells z0.toArray t)):=by
   simp [execOp,Instr.alloc,newVar,Sem.run_bind,Sem.run_pure,h1,Result.andThen,h2,run_new]
 rw [this]
 exact ⟨⟨_,k w.heap.size,hw.fresh ((Ext.refl w).alloc _) (Nat.le_refl _) (Blk.row w z0 t s0 1 (by have:=(c.ty ht).zlen;simpa using this) (by unfold maxLen;omega))⟩,(Ext.refl w).alloc _⟩
theorem ox_box (hx:ev F x=some v) (hv:v.oneCell'=true) (k:∀ b,K (.pointer (some ⟨b,0,none⟩)) ((b,[v],some (t,1,1))::H)):OX c ⟨d,.box t x,ty,pos,af,g⟩ F H K:=by
 intro D a w ha hw
 have hc:v.cells = #[v]:=by cases v<;>first|rfl|(simp [Value.oneCell'] at hv)
 have:(execOp a.eval ⟨d,.box t x,ty,pos,af,g⟩).run c.P w=.ok (.value (.pointer (some ⟨w.heap.size,0,none⟩))) (w.alloc (.cells [v].toArray t)):=by
   simp [execOp,Instr.box,newVar,Sem.run_bind,Sem.run_pure,ha.ev hx,hc,Result.andThen,run_new]
 rw [this]
 exact ⟨⟨_,k w.heap.size,hw.fresh ((Ext.refl w).alloc _) (Nat.le_refl _) (Blk.row w [v] t 1 1 rfl (by unfold maxLen;omega))⟩,(Ext.refl w).alloc _⟩
theorem ox_boxAgg {l:List Value} (hx:ev F x=some (.agg ⟨l⟩)) (k:∀ b,K (.pointer (some ⟨b,0,none⟩)) ((b,l,some (t,l.length,1))::H)):OX c ⟨d,.box t x,ty,pos,af,g⟩ F H K:=by
 intro D a w ha hw
 have:(execOp a.eval ⟨d,.box t x,ty,pos,af,g⟩).run c.P w=.ok (.value (.pointer (some ⟨w.heap.size,0,none⟩))) (w.alloc (.cells l.toArray t)):=by
   simp [execOp,Instr.box,newVar,Sem.run_bind,Sem.run_pure,ha.ev hx,Value.cells,Result.andThen,run_new]
 rw [this]
 exact ⟨⟨_,k w.heap.size,hw.fresh ((Ext.refl w).alloc _) (Nat.le_refl _) (Blk.row w l t l.length 1 (by omega) (by unfold maxLen;omega))⟩,(Ext.refl w).alloc _⟩
theorem store_gen {vs:List Value} (ht:tyAt c.tys t=some ⟨a0,s0,z0,k0⟩) (hx:ev F x=some (.pointer (some ⟨b,o,none⟩))) (hy:ev F y=some v) (hv:v.cells=vs.toArray) (hl:vs.length=s0) (h1:∀ u∈vs,u.oneCell'=true)
   (hp:Pick H b C tg H') (ho:o+s0≤C.length) (k:K undef ((b,setL C o vs,tg)::H')):OS c ⟨d,.store t x y,ty,pos,af,g⟩ F H K:=by
 intro D a w ha hw
 have hw':=hw.perm hp.perm
 have hb:=(hw'.blk _ (List.mem_cons_self ..)).2
 obtain ⟨w',h2,h3,h4⟩:=run_storeCells c.P b o vs 0 w C tg hb (by rw [hl];omega) h1
 have h5:=(c.ty ht).size w
 have hsz:v.cells.size=s0:=by rw [hv];simpa using hl
 have:(execOp a.eval ⟨d,.store t x y,ty,pos,af,g⟩).run c.P w=.ok .skip w':=by
   simp only [execOp,Instr.storeAt,Instr.sureAddr,storeVar,ha.ev hx,ha.ev hy,Sem.run_bind,Sem.run_pure,Result.andThen,h5,hsz]
   simp [Sem.run_bind,Sem.run_pure,Result.andThen,h2,hv]
 rw [this]
 exact ⟨_,k,hw'.wrote h4 h3⟩
theorem os_store (ht:tyAt c.tys t=some ⟨a0,1,z0,k0⟩) (hx:ev F x=some (.pointer (some ⟨b,o,none⟩))) (hy:ev F y=some v) (hv:v.oneCell'=true)
   (hp:Pick H b C tg H') (ho:o+1≤C.length) (hC:Norm (C.set o v) C') (k:K undef ((b,C',tg)::H')):OS c ⟨d,.store t x y,ty,pos,af,g⟩ F H K:=
 store_gen (vs:=[v]) ht hx hy (by cases v<;>first|rfl|(simp [Value.oneCell'] at hv)) rfl (by simpa using hv) hp ho (by rw [← hC.eq] at k;exact k)
theorem os_storeAgg {l:List Value} (ht:tyAt c.tys t=some ⟨a0,s0,z0,k0⟩) (hx:ev F x=some (.pointer (some ⟨b,o,none⟩))) (hy:ev F y=some (.agg ⟨l⟩)) (hl:l.length=s0) (h1:(l.all fun u=>u.oneCell')=true)
   (hp:Pick H b C tg H') (ho:o+s0≤C.length) (hC:Norm (setL C o l) C') (k:K undef ((b,C',tg)::H')):OS c ⟨d,.store t x y,ty,pos,af,g⟩ F H K:=
 store_gen (vs:=l) ht hx hy rfl hl (by simpa using h1) hp ho (by rw [← hC.eq] at k;exact k)
theorem ox_buildSlice {a1:Bool} {s1 e len:Nat} {z1 l r:List Value} {k1:TyK} {parts:List (Nat×Operand)} {vs:List (Nat×Value)} (ht:tyAt c.tys t=some ⟨a0,s0,z0,.slice e⟩) (he:tyAt c.tys e=some ⟨a1,s1,z1,k1⟩) (hp:evp F parts=some vs)
   (hf:fillL (fun i=>some (i*s1,s1)) ((List.range (len*s1)).map fun j=>z1.toArray[j % z1.toArray.size]!) vs=some l) (hn:Norm l r) (hb:Nat.ble (len*s1) 1000000=true) (hs:Nat.beq r.length (len*s1)=true) (hs1:Nat.ble 1 s1=true)
   (k:∀ b,K (.slice (some ⟨b,0,none⟩) len len) ((b,r,some (e,s1,len))::H)):OX c ⟨d,.buildSlice t len ⟨parts⟩,ty,pos,af,g⟩ F H K:=by
 intro D a w ha hw
 have h1:=(c.ty ht).kind w
 have h2:=(c.ty he).size w
 obtain ⟨zz,h3,h4⟩:=(c.ty he).zero w
 have hE:Ev F a.eval:=fun x v hx=>ha.ev hx
 have h5:=hE.evp hp
 have h6:=fill_of _ _ _ _ hf
 have hlen:=Nat.eq_of_beq_eq_true hs
 have hlt:¬ (len*s1 > 2 ^ 24):=by have:=Nat.le_of_ble_eq_true hb;omega
 have hs1':=Nat.le_of_ble_eq_true hs1
 have h7:(Array.map (fun x=>(x.fst,a.eval x.snd)) (⟨parts⟩:Array (Nat×Operand))).toList=vs:=by simpa using h5
 have hmax:len≤maxLen:=by
   have:=Nat.le_of_ble_eq_true hb
   have h9:len*1≤len*s1:=Nat.mul_le_mul_left _ hs1'
   unfold maxLen;omega
 have:(execOp a.eval ⟨d,.buildSlice t len ⟨parts⟩,ty,pos,af,g⟩).run c.P w=.ok (.value (.slice (some ⟨w.heap.size,0,none⟩) len len)) (w.alloc (.cells r.toArray e)):=by
   simp only [execOp,Instr.buildSlice,Sem.run_bind,Sem.run_pure,h1,h2,Result.andThen]
   rw [if_neg hlt]
   by_cases hz:len*s1=0
   · rw [if_pos hz]
     rw [hz] at h6
     have:(Array.range (len*s1)).map (fun x=>(#[]:Array Value)[x % 0]!)=⟨(List.range 0).map fun j=>z1.toArray[j % z1.toArray.size]!⟩:=by rw [hz];simp
     simp only [Sem.run_bind,Sem.run_pure,Result.andThen,h7,List.size_toArray,List.length_nil]
     rw [this,h6]
     simp only [Sem.run_bind,Sem.run_pure,Result.andThen,run_new,hn.eq]
   · rw [if_neg hz]
     have:(Array.range (len*s1)).map (fun x=>z1.toArray[x % z1.toArray.size]!)=⟨(List.range (len*s1)).map fun j=>z1.toArray[j % z1.toArray.size]!⟩:=by
       rw [← Array.toList_inj];simp
     simp only [Sem.run_bind,Sem.run_pure,Result.andThen,h3,h4,h7]
     rw [this,h6]
     simp only [Sem.run_bind,Sem.run_pure,Result.andThen,run_new,hn.eq]
 rw [this]
 exact ⟨⟨_,k w.heap.size,hw.fresh ((Ext.refl w).alloc _) (Nat.le_refl _) (Blk.row w r e s1 len hlen hmax)⟩,(Ext.refl w).alloc _⟩
structure AppOk (P:Program) (t e size bytes:Nat):Prop where
 und:P.underlying t=some (.slice e)
 info:∃ i z,P.info? e=some i∧i.zero=some z∧i.size=size∧i.bytes=bytes∧z.cells.size=size
 pos:0<size
theorem Has.lost {w0:World} {M:Ms} {H:Hp} {w w':World} {b:Nat} {C:List Value} {g:Tg} (h:Has w0 M ((b,C,g)::H) w) (e:ExtM [b] w w'):Has w0 M H w':=by
 have hb:=(h.blk _ (List.mem_cons_self ..)).1
 refine ⟨⟨e.os.trans h.ext.os,e.tape.trans h.ext.tape,e.output.trans h.ext.output,Nat.le_trans h.ext.size e.size,fun i hi hm=>?_⟩,fun x hx=>?_,(List.nodup_cons.1 h.nodup).2,h.marks.1,fun k hk=>⟨(h.marks.2 k hk).1,(e.block k (mark_lt (h.marks.2 k hk).2) (fun hm=>mark_ne (h.blk _ (List.mem_cons_self ..)).2 (h.marks.2 k hk).2 (by simpa using hm))).trans (h.marks.2 k hk).2⟩⟩
 · rw [e.block i (Nat.lt_of_lt_of_le hi h.ext.size) (fun hmem=>?_),h.ext.block i hi hm]
   obtain rfl:i=b:=by simpa using hmem
   rcases hb with hb|hb
   · exact absurd hi (by simp only at hb;omega)
   · exact hm hb
 · have hx':=List.mem_cons_of_mem (b,C,g) hx
   refine ⟨(h.blk x hx').1,(h.blk x hx').2.same (e.block _ (h.blk x hx').2.lt fun hmem=>?_)⟩
   have hne:=(List.nodup_cons.1 h.nodup).1
   obtain hxb:x.1=b:=by simpa using hmem
   exact hne (List.mem_map.2 ⟨x,hx,hxb⟩)
theorem Has.fresh' {w0:World} {M:Ms} {H:Hp} {w w':World} (h':Has w0 M H w') {n:Nat} (hs:w0.heap.size≤n) (hlt:∀ x∈H,x.1<n) {C:List Value} {g:Tg} (k:Blk w' n C g):Has w0 M ((n,C,g)::H) w':=by
 refine ⟨h'.ext,fun x hx=>?_,?_,h'.marks⟩
 · rcases List.mem_cons.1 hx with rfl|hx
   · exact ⟨.inl hs,k⟩
   · exact h'.blk x hx
 · rw [List.map_cons,List.nodup_cons]
   refine ⟨fun hm=>?_,h'.nodup⟩
   obtain ⟨x,hx,hx2⟩:=List.mem_map.1 hm
   have:=hlt x hx
   simp only at hx2
   omega
theorem own_of_blk {w:World} {g e size n cap:Nat} {C:List Value} (h:Blk w g C (some (e,size,cap))) (hl:C.length=n*size) (hs:0<size):w.ownsRow 0 e size (.slice (some ⟨g,0,none⟩) n cap) n C:=by
 obtain ⟨c,t,h1,h2,rfl,h4,h5⟩|⟨_,t,L,h1,_⟩:=h
 rotate_left
 · simp only [mapTg,Option.some.injEq,Prod.mk.injEq] at h1
   omega
 refine ⟨hl,.inr ⟨g,cap,c,rfl,Nat.zero_le _,h1,?_,h5,h4,?_⟩⟩
 · rcases Nat.eq_zero_or_pos n with h0|h0
   · omega
   · have hlt:C.length-1<C.length:=by have:=Nat.mul_pos h0 hs;omega
     have:=h2 (C.length-1) _ (List.getElem?_eq_getElem hlt)
     have:=(Array.getElem?_eq_some_iff.1 this).1
     rw [h4,hl] at this
     have h9:n*size≤cap*size:=by omega
     exact Nat.le_of_mul_le_mul_right h9 hs
 · apply List.ext_getElem?
   intro i
   rw [List.getElem?_take]
   split
   · rename_i hi
     have hi':i<C.length:=by omega
     rw [List.getElem?_eq_getElem hi']
     have:=h2 i _ (List.getElem?_eq_getElem hi')
     simpa using this
   · rename_i hi
     rw [List.getElem?_eq_none (by omega)]
theorem blk_of_own {w:World} {e size n:Nat} {v:Value} {C:List Value} (h:w.ownsRow 0 e size v n C) (hne:¬ v=.slice none 0 0):∃ g cap,v=.slice (some ⟨g,0,none⟩) n cap∧Blk w g C (some (e,size,cap)):=by
 obtain ⟨hl,h|⟨g,cap,cur,hv,_,h1,h2,h3,h4,h5⟩⟩:=h
 · exact absurd h.1 hne
 · refine ⟨g,cap,hv,.inl ⟨cur,e,h1,fun o v ho=>?_,rfl,h4,h3⟩⟩
   have:(cur.toList.take (n*size))[o]?=some v:=by rw [h5];exact ho
   rw [List.getElem?_take] at this
   split at this
   · simpa using this
   · cases this
theorem append_run {g0:Option (Nat×Bool)} {s x:Operand} {t e size bytes m c2 b2 o2 n:Nat} {a:Act} {w:World} {v:Value} {C news:List Value} (hk:AppOk c.P t e size bytes) (hs:a.eval s=v) (hown:w.ownsRow 0 e size v n C)
   (hx:a.eval x=.slice (some ⟨b2,o2,none⟩) m c2) (hl:news.length=m*size) (hnews:∀ j u,news[j]?=some u→w.cell? ⟨b2,o2+j,none⟩=some u) (h1:∀ u∈news,u.oneCell'=true) (hm:0<m) (hb:(n+m)*bytes≤140737488355328) (hmax:n+m≤9223372036854775807) :
   ∃ g cap w',(execOp a.eval ⟨d,.call ⟨.builtin .append,#[s,x],#[t,t]⟩,ty,pos,af,g0⟩).run c.P w=.ok (.value (.slice (some ⟨g,0,none⟩) (n+m) cap)) w'∧Blk w' g (C++news) (some (e,size,cap))∧w.grownBy w' v.ownBlock∧(some g=v.ownBlock∨g=w.heap.size):=by
 obtain ⟨i,z,k1,k2,k3,k4,k5⟩:=hk.info
 obtain ⟨v',w',r1,r2,r3,r4,r5⟩:=run_append_own_at (P:=c.P) w 0 t ty e i z size bytes hk.und k1 k2 k3 k4 k5 hk.pos v n C hown ⟨b2,o2,none⟩ m c2 news hl (fun j u hj=>by rw [add_eq];exact hnews j u hj) h1 (by unfold maxLen;omega) hb (Nat.zero_le _)
 obtain ⟨g,cap,rfl,r6⟩:=blk_of_own r2 (fun e=>by have:=(r4.1 e).2;omega)
 refine ⟨g,cap,w',?_,r6,r3,?_⟩
 · simp [execOp,resolve,invoke,builtin,Sem.run_bind,Sem.run_pure,Result.andThen,hs,hx,r1]
 · rcases r5 with r5|r5
   · exact .inl r5
   · exact .inr (Option.some.inj r5)
theorem ExtM.of_grown {w w':World} {row:Option Nat} (h:w.grownBy w' row) {b:Nat} (hr:∀ k,row=some k→k=b):ExtM [b] w w':=
 ⟨h.os,h.tape,h.output,h.size,fun i hi hm=>h.block i hi fun e=>hm (by rw [hr i e.symm];simp)⟩
theorem Ext.of_grown {w w':World} (h:w.grownBy w' none):Ext w w':=⟨h.os,h.tape,h.output,h.size,fun i hi=>h.block i hi (fun e=>by cases e)⟩
theorem os_append {s x:Operand} {t e size bytes m c2 b2 o2 n cap gb:Nat} {news:List Value} (hk:AppOk c.P t e size bytes) (hs:ev F s=some (.slice (some ⟨gb,0,none⟩) n cap)) (hx:ev F x=some (.slice (some ⟨b2,o2,none⟩) m c2))
   (hp:Pick H gb C (some (e,size,cap)) H') (hr:Rdn c H b2 o2 (m*size) news) (hC:C.length=n*size) (h1:(news.all fun u=>u.oneCell')=true) (hm:0<m) (hb:(n+m)*bytes≤140737488355328) (hmax:n+m≤9223372036854775807)
   (k:∀ b cap',K (.slice (some ⟨b,0,none⟩) (n+m) cap') ((b,C++news,some (e,size,cap'))::H')):OS c ⟨d,.call ⟨.builtin .append,#[s,x],#[t,t]⟩,ty,pos,af,g⟩ F H K:=by
 intro D a w ha hw
 have hw':=hw.perm hp.perm
 obtain ⟨hr1,hr2⟩:=hr.spec
 obtain ⟨g',cap',w',r1,r2,r3,r4⟩:=append_run (d:=d) (ty:=ty) (pos:=pos) (af:=af) (g0:=g) hk (ha.ev hs) (own_of_blk (hw'.blk _ (List.mem_cons_self ..)).2 hC hk.pos) (ha.ev hx) hr2 (fun j u hj=>Rds.at_ hw news o2 hr1 j u hj) (by simpa using h1) hm hb hmax
 rw [r1]
 have he:ExtM [gb] w w':=ExtM.of_grown r3 (fun k e=>by simpa [Value.ownBlock] using e.symm)
 refine ⟨_,k g' cap',?_⟩
 rcases r4 with r4|r4
 · obtain rfl:g'=gb:=by simpa [Value.ownBlock] using r4
   exact hw'.wrote he r2
 · subst r4
   exact (hw'.lost he).fresh' (w:=w) hw.ext.size (fun y hy=>(hw'.blk y (List.mem_cons_of_mem _ hy)).2.lt) r2
theorem os_appendNil {s x:Operand} {t e size bytes m c2 b2 o2:Nat} {news:List Value} (hk:AppOk c.P t e size bytes) (hs:ev F s=some (.slice none 0 0)) (hx:ev F x=some (.slice (some ⟨b2,o2,none⟩) m c2))
   (hr:Rdn c H b2 o2 (m*size) news) (h1:(news.all fun u=>u.oneCell')=true) (hm:0<m) (hb:(0+m)*bytes≤140737488355328) (hmax:0+m≤9223372036854775807)
   (k:∀ b cap',K (.slice (some ⟨b,0,none⟩) (0+m) cap') ((b,news,some (e,size,cap'))::H)):OS c ⟨d,.call ⟨.builtin .append,#[s,x],#[t,t]⟩,ty,pos,af,g⟩ F H K:=by
 intro D a w ha hw
 obtain ⟨hr1,hr2⟩:=hr.spec
 obtain ⟨g',cap',w',r1,r2,r3,r4⟩:=append_run (d:=d) (ty:=ty) (pos:=pos) (af:=af) (g0:=g) hk (ha.ev hs) (World.ownsRow_nil w 0 e size) (ha.ev hx) hr2 (fun j u hj=>Rds.at_ hw news o2 hr1 j u hj) (by simpa using h1) hm hb hmax
 rw [r1]
 refine ⟨_,k g' cap',?_⟩
 rcases r4 with r4|r4
 · simp [Value.ownBlock] at r4
 · subst r4
   exact hw.fresh (Ext.of_grown r3) (Nat.le_refl _) r2
theorem os_call {f:Operand} {args:Array Operand} {T:Array TypeId} {k:Nat} {fst cap vs:List Value} (hf:ev F f=some (.func (.func k) ⟨fst⟩ ⟨cap⟩)) (hc:∀ (a:Array Value) (w:World),(callFunc k a).run c.P w=.ok (.enter k a) w)
   (ha:evs F args.toList=some vs) (h:∀ D w,Has c.w0 ⟨c.M,D⟩ H w→Calls c.P k ⟨fst++vs++cap⟩ w fun e w'=>∃ v H',e=.returned v∧K v H'∧Has c.w0 ⟨c.M,D⟩ H' w'):OS c ⟨d,.call ⟨.value f,args,T⟩,ty,pos,af,g⟩ F H K:=by
 intro D a w hA hw
 have h1:=hA.evs ha
 have h2:args.map a.eval=vs.toArray:=by rw [← h1];cases args;simp
 have:(execOp a.eval ⟨d,.call ⟨.value f,args,T⟩,ty,pos,af,g⟩).run c.P w=.ok (.enter k ⟨fst++vs++cap⟩) w:=by
   simp [execOp,resolve,invoke,hA.ev hf,Deferred.ofValue,Sem.run_bind,Sem.run_pure,h2,Result.andThen,hc]
 rw [this]
 exact (h D w hw).mono fun e w' ⟨v,H',h1,h2,h3⟩=>⟨v,h1,H',h2,h3⟩
end
theorem rowsIn_of {n:Nat} {P:Program} {row:String} {args:Array Value} {w:World} {R:Value→World→Prop} (h:Rows P row args w R):RowsIn Fence.wide n P row args w R:=
 fun c cs _=>let ⟨v,w',r,s⟩:=h c cs;⟨v,w',r,stepsIn_wide.2 s⟩
theorem wpIn_of_wp {l n:Nat} {P:Program} {o:Oper} {a:Act} {w:World} {K:Act→World→Prop} {Q:Exit→Act→World→Prop} (hd:∀ c,o.op≠.defer c) (h:o.wp P a w K QF) :
   o.wpIn (Fence.wide.inRound l) n P a w K Q:=by
 unfold Oper.wpIn
 refine ⟨fun _ _=>trivial,?_⟩
 rw [Fence.inRound_round,Oper.semAt_some l _ _ hd]
 unfold Oper.wp at h
 generalize (execOp a.eval o).run P w=r at *
 cases r with
 | ok nx w'=>
   cases nx<;>simp only [Oper.upon] at h<;>simp only [Oper.uponIn]
   case value u=>exact h
   case skip=>exact h
   case defer d=>exact h
   case enter f args=>
     refine ⟨fun h0=>by simp [Fence.wide] at h0,CallsIn.inRound l (callsIn_wide.2 (Calls.mono h fun e w'' he=>?_))⟩
     cases e with
     | returned u=>exact he
     | panicked c=>exact he.elim
     | outgrown=>obtain ⟨_,_,h⟩:=he;exact h.elim
   case row row args=>exact ⟨fun h0=>by simp [Fence.wide] at h0,rowsIn_of h⟩
 | halt x w'=>cases x<;>simp only [Oper.upon] at h<;>exact h.elim
def noDefer (ops:Array Oper):Bool:=ops.all fun o=>match o.op with|.defer _=>false|_=>true
theorem noDefer_spec {ops:Array Oper} (h:noDefer ops=true) {i:Nat} {o:Oper} (ho:ops[i]?=some o):∀ c,o.op≠.defer c:=by
 intro c hc
 obtain ⟨hi,rfl⟩:=Array.getElem?_eq_some_iff.1 ho
 have:=Array.all_eq_true.1 h i hi
 rw [hc] at this
 cases this
section
variable {P:Program} {ops:Array Oper}
theorem wpOpIn_of {l n i:Nat} {a:Act} {w:World} {K:Act→World→Prop} {Q:Exit→Act→World→Prop} (hd:noDefer ops=true) (hh:wpOp P ops QF i K a w):wpOpIn (Fence.wide.inRound l) n P ops Q i K a w:=by
 unfold wpOp at hh
 unfold wpOpIn
 split
 · rename_i ho;simp only [ho] at hh;exact hh
 · rename_i o ho
   simp only [ho] at hh
   split
   · rename_i hw
     simp only [hw,if_true] at hh
     rcases hh with h|⟨_,_,_,h⟩
     · exact wpIn_of_wp (noDefer_spec hd ho) h
     · exact h.elim
   · rename_i hw;simp only [hw] at hh;exact ⟨fun _ _=>trivial,hh⟩
end
section
variable {P:Program} {ops:Array Oper}
def Up (I:World→Prop):Prop:=∀ w w',I w→Ext w w'→I w'
def GQI (P:Program) (o:Oper) (a:Act) (I:World→Prop) (v:Value):Prop:=∀ w,I w→givesUpon P (fun u w'=>u=v∧Ext w w') ((execOp a.eval o).run P w)
def YGI (P:Program) (ops:Array Oper) (I:World→Prop) (o:Oper) (v:Value) (a:Act):Prop:=
 (Region.wanted o (yielded ops a.tmps)=true∧GQI P o a I v)∨(Region.wanted o (yielded ops a.tmps)=false∧v=undef)
theorem YGI.of_same {I:World→Prop} {o:Oper} {v:Value} {a a':Act} (hy:YGI P ops I o v a) (he:execOp a'.eval o=execOp a.eval o)
   (hw:Region.wanted o (yielded ops a'.tmps)=Region.wanted o (yielded ops a.tmps)):YGI P ops I o v a':=by
 unfold YGI GQI at *
 rw [he,hw]
 exact hy
theorem YGI.wpOp {I:World→Prop} {w:World} {i:Nat} {o:Oper} {v:Value} {a:Act} (hi:ops[i]?=some o) (hy:YGI P ops I o v a) (hW:I w) {K:Act→World→Prop}
   (h:∀ w',Ext w w'→K (a.put o.dst v) w'):wpOp P ops QF i K a w:=by
 unfold Go.wpOp
 simp only [hi]
 rcases hy with ⟨hw,hv⟩|⟨hw,rfl⟩
 · simp only [hw,if_true]
   left
   have h1:=hv w hW
   unfold Oper.wp
   generalize (execOp a.eval o).run P w=r at *
   cases r with
   | ok n w'=>
     cases n<;>simp only [givesUpon] at h1<;>simp only [Oper.upon]
     case value u=>obtain ⟨rfl,h2⟩:=h1;exact h _ h2
     case skip=>obtain ⟨rfl,h2⟩:=h1;exact h _ h2
     case enter f args=>
       refine Calls.mono h1 fun e w'' he=>?_
       obtain ⟨v',rfl,rfl,h2⟩:=he
       exact h _ h2
     case row row args=>exact Rows.mono h1 fun u w'' he=>by obtain ⟨rfl,h2⟩:=he;exact h _ h2
   | halt x w'=>cases x<;>simp only [givesUpon] at h1
 · simp only [hw,Bool.false_eq_true,if_false];exact h _ (Ext.refl _)
def SAnyI (P:Program) (ops:Array Oper) (cov:Array Bool) (I:World→Prop) (Q:Act→World→Prop):Nat→Array Bool→Act→World→Prop
 | 0,listed,a,w=>Region.ready .any ops listed=[]∧Q a w
 | n+1,listed,a,w=>(Region.ready .any ops listed=[]→Q a w) ∧
     ∀ i∈Region.ready .any ops listed,wpOp P ops QF i (fun a' w'=>(cov.getD i false=false→I w→I w')∧∀ w'',Ext w' w''→SAnyI P ops cov I Q n (listed.setIfInBounds i true) a' w'') a w
theorem wpAny_of_SAnyI {cov:Array Bool} {I:World→Prop} {Q:Act→World→Prop} {Q':Exit→Act→World→Prop} (hQ:∀ a w,Q a w→Q' .normal a w) :
   ∀ (n:Nat) (listed:Array Bool) (a:Act) (w:World),SAnyI P ops cov I Q n listed a w→wpAny P .any ops Q' n listed a w
 | 0,_,_,_,h=>⟨h.1,hQ _ _ h.2⟩
 | n+1,_,_,_,h=>⟨fun h0=>hQ _ _ (h.1 h0),fun i hi=>wpOp_of_QF (wpOp_mono (fun _ w' h2=>wpAny_of_SAnyI hQ n _ _ w' (h2.2 w' (Ext.refl _))) (h.2 i hi))⟩
theorem SAnyI_first {cov:Array Bool} {Q:Act→World→Prop} {I:World→Prop} (hU:Up I) {i:Nat} {oi:Oper} {v:Value} (hi:ops[i]?=some oi) (hsel:∀ (j:Nat) (o:Oper) cs b,ops[j]?=some o→o.op≠.select cs b)
   (hcov:covFor ops cov i=true) :
   ∀ (n:Nat) (listed:Array Bool) (a:Act) (w0:World),I w0→Down ops listed →
     (∀ j oj,ops[j]?=some oj→j≠i→listed.getD j true=false→(∀ e∈oj.after,Region.binds .any e=true→e.on≠i)→oi.apart ops oj=true) →
     i∈Region.ready .any ops listed→YGI P ops I oi v a →
     (∀ w,Ext w0 w→SAnyI P ops cov I Q n (listed.setIfInBounds i true) (a.put oi.dst v) w)→∀ w,Ext w0 w→SAnyI P ops cov I Q (n+1) listed a w:=by
 intro n
 induction n with
 | zero=>
   intro listed a w0 hW hd _ hr hy H w hw
   refine ⟨fun h=>(by rw [h] at hr;cases hr),fun j hj=>?_⟩
   by_cases hji:j=i
   · subst hji
     exact hy.wpOp hi (hU _ _ hW hw) fun w' hw'=>⟨fun _ hI=>hU _ _ hI hw',fun w'' hw''=>H _ ((hw.trans hw').trans hw'')⟩
   · have:=ready_mono hj hji
     rw [(H w hw).1] at this
     cases this
 | succ n ih=>
   intro listed a w0 hW hd hfree hr hy H w hw
   refine ⟨fun h=>(by rw [h] at hr;cases hr),fun j hj=>?_⟩
   by_cases hji:j=i
   · subst hji
     exact hy.wpOp hi (hU _ _ hW hw) fun w' hw'=>⟨fun _ hI=>hU _ _ hI hw',fun w'' hw''=>H _ ((hw.trans hw').trans hw'')⟩
   · have h1:=(H w hw).2 j (ready_mono hj hji)
     obtain ⟨hjun,oj,hoj,hall⟩:=mem_ready.1 hj
     have hiun:listed.getD i false=false:=by
       have h0:=(mem_ready.1 hr).1
       rcases Nat.lt_or_ge i listed.size with h'|h'
       · simp [h'] at h0 ⊢;exact h0
       · simp [Array.getElem?_eq_none h'] at h0
     have hnot:∀ e∈oj.after,Region.binds .any e=true→e.on≠i:=fun e he hb heq=>by
       have h1:=hall e he hb
       rw [heq,hiun] at h1
       cases h1
     have hap:=hfree j oj hoj hji hjun hnot
     obtain ⟨_,_,h3⟩:=Oper.apart_spec hap
     have h2:=wpOp_put2 (S:=YGI P ops I oi v) hoj hap (fun cs b=>hsel j oj cs b hoj)
       (fun a u hS=>hS.of_same (execOp_put oi (fun cs b=>hsel i oi cs b hi) a oj.dst u h3) (wanted_put oi a oj.dst u h3)) (fun a d hS=>hS.of_same rfl rfl) hy h1
     have hfree':∀ k ok,ops[k]?=some ok→k≠i→(listed.setIfInBounds j true).getD k true=false →
         (∀ e∈ok.after,Region.binds .any e=true→e.on≠i)→oi.apart ops ok=true:=fun k ok hk hki hun hno=>by
       refine hfree k ok hk hki ?_ hno
       by_cases hjk:j=k
       · subst hjk;exact hjun
       · rw [getD_set_ne true hjk] at hun;exact hun
     have hc:=covFor_spec hcov hd hj hiun
     refine wpOp_mono (fun a' w' h3=>?_) h2
     obtain ⟨hS,hcv,hrest⟩:=h3
     have hww:=hcv hc (hU _ _ hW hw)
     refine ⟨fun _ _=>hww,fun w'' hw''=>ih (listed.setIfInBounds j true) a' w' hww (hd.set hj) hfree' (ready_mono hr (Ne.symm hji)) hS ?_ w'' hw''⟩
     intro w2 hw2
     rw [Array.setIfInBounds_comm _ _ hji]
     exact hrest w2 hw2
def wpGI (P:Program) (ops:Array Oper) (I:World→Prop) (Q:Act→Prop):List Nat→Act→Prop
 | [],a=>Q a
 | i::rest,a=>match ops[i]? with
   | none=>False
   | some o=>if Region.wanted o (yielded ops a.tmps) then ∃ v,GQI P o a I v∧wpGI P ops I Q rest (a.put o.dst v) else wpGI P ops I Q rest (a.put o.dst undef)
theorem wpGI_nil {I:World→Prop} {Q:Act→Prop} {a:Act} (h:Q a):wpGI P ops I Q [] a:=h
theorem wpGI_step {I:World→Prop} {Q:Act→Prop} {a:Act} {i:Nat} {rest:List Nat} {o:Oper} {v:Value} (ho:ops[i]?=some o) (hw:Region.wanted o (yielded ops a.tmps)=true) (h:GQI P o a I v)
   (hn:wpGI P ops I Q rest (a.put o.dst v)):wpGI P ops I Q (i::rest) a:=by
 unfold wpGI
 simp only [ho,hw,if_true]
 exact ⟨v,h,hn⟩
theorem wpGI_skip {I:World→Prop} {Q:Act→Prop} {a:Act} {i:Nat} {rest:List Nat} {o:Oper} {d:Tmp} (ho:ops[i]?=some o) (hw:Region.wanted o (yielded ops a.tmps)=false) (hd:o.dst=some d)
   (hn:wpGI P ops I Q rest (a.put (some d) undef)):wpGI P ops I Q (i::rest) a:=by
 unfold wpGI
 simp only [ho,hw,Bool.false_eq_true,if_false]
 rw [hd];exact hn
theorem SAnyI_lex {cov:Array Bool} {Q:Act→World→Prop} {I:World→Prop} (hU:Up I) (hs:Region.noSelect ops=true) (n:Nat):∀ (l:List Nat) (listed:Array Bool) (a:Act),lexOk ops cov l listed=true→Down ops listed →
   wpGI P ops I (fun a'=>∀ w,I w→SAnyI P ops cov I Q n (listedBy l listed) a' w) l a→∀ w,I w→SAnyI P ops cov I Q (n+l.length) listed a w
 | [],_,_,_,_,h=>h
 | i::l,listed,a,hB,hd,h=>by
   intro w hw0
   simp only [lexOk,Bool.and_eq_true] at hB
   obtain ⟨⟨⟨hr,hf⟩,hc⟩,hB'⟩:=hB
   have hr':i∈Region.ready .any ops listed:=by simpa using hr
   unfold wpGI at h
   cases ho:ops[i]? with
   | none=>simp only [ho] at h
   | some o=>
     simp only [ho] at h
     by_cases hw:Region.wanted o (yielded ops a.tmps)=true
     · simp only [hw,if_true] at h
       obtain ⟨v,hv,hK⟩:=h
       exact SAnyI_first hU ho (Region.noSelect_spec hs) hc (n+l.length) listed a w hw0 hd (Region.free_spec ho hf) hr' (.inl ⟨hw,hv⟩) (fun w' hw'=>SAnyI_lex hU hs n l _ _ hB' (hd.set hr') hK w' (hU _ _ hw0 hw')) w (Ext.refl _)
     · simp only [hw] at h
       exact SAnyI_first hU ho (Region.noSelect_spec hs) hc (n+l.length) listed a w hw0 hd (Region.free_spec ho hf) hr' (.inr ⟨by simpa using hw,rfl⟩) (fun w' hw'=>SAnyI_lex hU hs n l _ _ hB' (hd.set hr') h w' (hU _ _ hw0 hw')) w (Ext.refl _)
theorem wpI_mixed {id:Nat} {I:World→Prop} (hU:Up I) {Q:Exit→Act→World→Prop} {a:Act} {w:World} (hI:I w) (l:List Nat) (n:Nat) (cov:Array Bool) (hm:P.follows .mixedOrders=true)
   (hB:(Region.noSelect ops && (n+l.length == ops.size) && lexOk ops cov l (Array.replicate ops.size false))=true)
   (h:wpGI P ops I (fun a'=>∀ w',I w'→SAnyI P ops cov I (Q .normal) n (listedBy l (Array.replicate ops.size false)) a' w') l a):(Code.region id ops true).wp P Q a w:=by
 simp only [Bool.and_eq_true,beq_iff_eq] at hB
 obtain ⟨⟨hs,hn⟩,hl⟩:=hB
 refine wp_region_any hm (wpAny_of_SAnyI (Q:=Q .normal) (I:=I) (cov:=cov) (fun _ _ h=>h) _ _ _ _ ?_)
 rw [← hn]
 have:=SAnyI_lex (P:=P) (Q:=Q .normal) hU hs n l (Array.replicate ops.size false) a hl (Down.none _) h w.drew (hU _ _ hI (Ext.refl w).drew)
 simpa [hn] using this
theorem wpAnyIn_of_SAnyI {l m:Nat} {cov:Array Bool} {I:World→Prop} {Q:Act→World→Prop} {Q':Exit→Act→World→Prop} (hd:noDefer ops=true) (hQ:∀ a w,Q a w→Q' .normal a w) :
   ∀ (n:Nat) (listed:Array Bool) (a:Act) (w:World),SAnyI P ops cov I Q n listed a w→wpAnyIn (Fence.wide.inRound l) m P .any ops Q' n listed a w
 | 0,_,_,_,h=>⟨h.1,hQ _ _ h.2⟩
 | n+1,_,_,_,h=>⟨fun h0=>hQ _ _ (h.1 h0),fun i hi=>wpOpIn_mono (fun _ w' h2=>wpAnyIn_of_SAnyI hd hQ n _ _ w' (h2.2 w' (Ext.refl _))) (wpOpIn_of hd (h.2 i hi))⟩
theorem wpInI_mixed {r m id:Nat} {I:World→Prop} (hU:Up I) {Q:Exit→Act→World→Prop} {a:Act} {w:World} (hI:I w) (l:List Nat) (n:Nat) (cov:Array Bool) (hm:P.follows .mixedOrders=true)
   (hB:(Region.noSelect ops && (n+l.length == ops.size) && lexOk ops cov l (Array.replicate ops.size false) && noDefer ops)=true)
   (h:wpGI P ops I (fun a'=>∀ w',I w'→SAnyI P ops cov I (Q .normal) n (listedBy l (Array.replicate ops.size false)) a' w') l a):(Code.region id ops true).wpIn (Fence.wide.inRound r) m P Q a w:=by
 simp only [Bool.and_eq_true,beq_iff_eq] at hB
 obtain ⟨⟨⟨hs,hn⟩,hl⟩,hd⟩:=hB
 refine wpIn_region_any hm (wpAnyIn_of_SAnyI (Q:=Q .normal) (I:=I) (cov:=cov) hd (fun _ _ h=>h) _ _ _ _ ?_)
 rw [← hn]
 have:=SAnyI_lex (P:=P) (Q:=Q .normal) hU hs n l (Array.replicate ops.size false) a hl (Down.none _) h w.drew (hU _ _ hI (Ext.refl w).drew)
 simpa [hn] using this
theorem wpGI_mono {I:World→Prop} {Q1 Q2:Act→Prop} (hq:∀ a,Q1 a→Q2 a):∀ (l:List Nat) (a:Act),wpGI P ops I Q1 l a→wpGI P ops I Q2 l a
 | [],a,h=>hq a h
 | i::r,a,h=>by
   unfold wpGI at *
   cases ho:ops[i]? with
   | none=>simp only [ho] at h
   | some o=>
     simp only [ho] at h ⊢
     by_cases hw:Region.wanted o (yielded ops a.tmps)=true
     · simp only [hw,if_true] at h ⊢
       obtain ⟨v,h1,h2⟩:=h
       exact ⟨v,h1,wpGI_mono hq r _ h2⟩
     · simp only [hw] at h ⊢
       exact wpGI_mono hq r _ h
theorem SAnyI_done {cov:Array Bool} {I:World→Prop} {Q:Act→World→Prop} {n:Nat} {listed:Array Bool} {a:Act} {w:World} (hr:Region.ready .any ops listed=[]) (h:Q a w):SAnyI P ops cov I Q n listed a w:=by
 match n with
 | 0=>exact ⟨hr,h⟩
 | n+1=>exact ⟨fun _=>h,fun i hi=>by rw [hr] at hi;cases hi⟩
end
section
variable {P:Program} {ops:Array Oper}
end
end Go.Proofs.Ytcjkndjjbjoehaa
