/- A part of the proof: rules for walks, and contracts of functions (1). -/
import Derived.WalkKit
import Derived.Lib.Hide
import Derived.Orders
import Derived.Still
import Derived.IntWalk
import Derived.Maps.AppendAt
import Derived.OrdersIn
import Derived.TacticsIn
import Derived.RangeFuncCalls
import Derived.LoopIn
import Derived.RangeFuncLeaves
import Derived.RangeFuncRecord
import Derived.RangeFuncNested
set_option linter.unusedVariables false
set_option linter.unusedSimpArgs false
set_option maxRecDepth 100000
set_option maxHeartbeats 2000000
namespace Go.Proofs.Ytcjkndjjbjoehaa
open Go.RowKit
def Ext (w w':World):Prop:=Below w.heap.size w w'
theorem Ext.refl (w:World):Ext w w:=Below.refl _ _
theorem Ext.size {a b:World} (h:Ext a b):a.heap.size≤b.heap.size:=Below.size h
theorem Ext.trans {a b c:World} (h:Ext a b) (k:Ext b c):Ext a c:=Below.trans h (Below.mono k h.size)
theorem Ext.drew {a b:World} (h:Ext a b):Ext a b.drew:=Below.drew h
theorem Ext.alloc {a b:World} (h:Ext a b) (o:Obj):Ext a (b.alloc o):=Below.alloc h h.size o
theorem cell_lt {a:World} {p:Addr} {v:Value} (hc:a.cell? p=some v):p.block<a.heap.size:=by
 unfold World.cell? at hc
 rcases Nat.lt_or_ge p.block a.heap.size with h1|h1
 · exact h1
 · rw [Array.getElem?_eq_none h1] at hc;cases hc
theorem Ext.cell {a b:World} (h:Ext a b) {p:Addr} {v:Value} (hc:a.cell? p=some v):b.cell? p=some v:=by
 rw [Below.cell h (cell_lt hc)];exact hc
/-! What is known behind a call, as rules for the walk -/
structure RdS (w:World) (k:Nat) (A:Option Addr) (n:Nat) (xs:List (List Value)):Prop where
 len:xs.length=n
 at_:0<n→∃ b o,A=some ⟨b,o,none⟩∧b<w.heap.size∧∀ (i:Nat) (x:List Value),xs[i]?=some x→x.length=k∧∀ (j:Nat) (u:Value),x[j]?=some u→w.cell? ⟨b,o+i*k+j,none⟩=some u
theorem RdS.ext {w w':World} {k:Nat} {A:Option Addr} {n:Nat} {xs:List (List Value)} (h:RdS w k A n xs) (he:Ext w w'):RdS w' k A n xs:=
 ⟨h.len,fun hn=>by
   obtain ⟨b,o,rfl,hb,hc⟩:=h.at_ hn
   exact ⟨b,o,rfl,Nat.lt_of_lt_of_le hb he.size,fun i x hx=>⟨(hc i x hx).1,fun j u hu=>he.cell ((hc i x hx).2 j u hu)⟩⟩⟩
theorem RdS.nil (w:World) (k:Nat) (A:Option Addr):RdS w k A 0 []:=⟨rfl,fun h=>absurd h (by omega)⟩
/-! max and min, without a parting of the ways -/
theorem max_ite (a b:Int):(if a<b then b else a)=max a b:=by omega
theorem min_ite (a b:Int):(if b<a then b else a)=min a b:=by omega
@[go_sem ↓] theorem run_max2 {P:Program} (T:Array TypeId) (t:TypeId) (a b:Int) (w:World):(Builtin.max_ T t #[.int .i64 a,.int .i64 b]).run P w=.ok (.int .i64 (max a b)) w:=by
 rw [← max_ite]
 go_simp
@[go_sem ↓] theorem run_min2 {P:Program} (T:Array TypeId) (t:TypeId) (a b:Int) (w:World):(Builtin.min_ T t #[.int .i64 a,.int .i64 b]).run P w=.ok (.int .i64 (min a b)) w:=by
 rw [← min_ite]
 go_simp
@[go_sem ↓] theorem run_max3 {P:Program} (T:Array TypeId) (t:TypeId) (a b c:Int) (w:World):(Builtin.max_ T t #[.int .i64 a,.int .i64 b,.int .i64 c]).run P w=.ok (.int .i64 (max (max a b) c)) w:=by
 rw [← max_ite,← max_ite]
 simp [Builtin.max_,Builtin.max2,go_sem]
@[go_sem ↓] theorem run_min3 {P:Program} (T:Array TypeId) (t:TypeId) (a b c:Int) (w:World):(Builtin.min_ T t #[.int .i64 a,.int .i64 b,.int .i64 c]).run P w=.ok (.int .i64 (min (min a b) c)) w:=by
 rw [← min_ite,← min_ite]
 simp [Builtin.min_,Builtin.min2,go_sem]
theorem RdS.row {w:World} {k:Nat} {A:Option Addr} {n:Nat} {xs:List (List Value)} (h:RdS w k A n xs) {i:Nat} (hi:i<n) :
   ∃ b o x,A=some ⟨b,o,none⟩∧b<w.heap.size∧xs[i]?=some x∧x.length=k∧∀ (j:Nat) (u:Value),x[j]?=some u→w.cell? ⟨b,o+i*k+j,none⟩=some u:=by
 obtain ⟨b,o,hA,hb,hc⟩:=h.at_ (by omega)
 have hl:i<xs.length:=by have:=h.len;omega
 exact ⟨b,o,xs[i],hA,hb,List.getElem?_eq_getElem hl,(hc i _ (List.getElem?_eq_getElem hl)).1,(hc i _ (List.getElem?_eq_getElem hl)).2⟩
def QF:Exit→Act→World→Prop:=fun _ _ _=>False
section
variable {P:Program} {ops:Array Oper}
theorem wp_of_QF {o:Oper} {a:Act} {w:World} {K:Act→World→Prop} {Q:Exit→Act→World→Prop} (hh:o.wp P a w K QF):o.wp P a w K Q:=by
 unfold Oper.wp at *
 generalize (execOp a.eval o).run P w=r at *
 cases r with
 | ok n w'=>
   cases n<;>simp only [Oper.upon] at hh ⊢ <;>
     first
       | exact hh
       | exact Calls.mono hh (fun e w'' he=>by cases e<;>first|exact he|exact he.elim|exact (he.elim fun _ h=>h.elim fun _ h=>h.elim))
 | halt x w'=>cases x<;>simp only [Oper.upon] at hh ⊢<;>first|exact hh|exact hh.elim
theorem wpOp_of_QF {i:Nat} {a:Act} {w:World} {K:Act→World→Prop} {Q:Exit→Act→World→Prop} (hh:wpOp P ops QF i K a w):wpOp P ops Q i K a w:=by
 unfold wpOp at *
 split
 · rename_i ho;simp only [ho] at hh;exact hh
 · rename_i o ho
   simp only [ho] at hh
   split
   · rename_i hw
     simp only [hw,if_true] at hh
     rcases hh with h|⟨_,_,_,h⟩
     · exact .inl (wp_of_QF h)
     · exact h.elim
   · rename_i hw;simp only [hw] at hh;exact hh
def givesUpon (P:Program) (K:Value→World→Prop):Result Next→Prop
 | .ok (.value u) w'=>K u w'
 | .ok .skip w'=>K undef w'
 | .ok (.enter f args) w'=>Calls P f args w' fun e w''=>∃ v,e=.returned v∧K v w''
 | .ok (.row row args) w'=>Rows P row args w' K
 | _=>False
def GQ (P:Program) (o:Oper) (a:Act) (W:World) (v:Value):Prop:=∀ w,Ext W w→givesUpon P (fun u w'=>u=v∧Ext w w') ((execOp a.eval o).run P w)
theorem wpOp_put2 {S:Act→Prop} {j:Nat} {oi oj:Oper} {v:Value} (hj:ops[j]?=some oj) (hap:oi.apart ops oj=true) (hsj:∀ cs b,oj.op≠.select cs b)
   (keep:∀ a u,S a→S (a.put oj.dst u)) (keepD:∀ (a:Act) d,S a→S { a with defers:=d::a.defers }) {K:Act→World→Prop} {a:Act} {w:World}
   (hy:S a) (h:wpOp P ops QF j K (a.put oi.dst v) w):wpOp P ops QF j (fun a' w'=>S a'∧K (a'.put oi.dst v) w') a w:=by
 obtain ⟨h1,h2,h3⟩:=Oper.apart_spec hap
 unfold wpOp at *
 simp only [hj] at *
 rw [wanted_put oj a oi.dst v h1] at h
 split
 · rename_i hw
   simp only [hw,if_true] at h
   rcases h with h|⟨_,_,_,h⟩
   case inr=>exact h.elim
   refine .inl ?_
   unfold Oper.wp at *
   rw [execOp_put oj hsj a oi.dst v h1] at h
   generalize (execOp a.eval oj).run P w=r at *
   cases r with
   | ok n w'=>
     cases n<;>simp only [Oper.upon] at h ⊢
     case value u=>exact ⟨keep a u hy,by rw [← Act.put_comm a v u h2];exact h⟩
     case skip=>exact ⟨keep a _ hy,by rw [← Act.put_comm a v undef h2];exact h⟩
     case defer d=>
       refine ⟨keep _ _ (keepD _ d hy),?_⟩
       rw [← Act.put_comm _ v undef h2,← Act.put_defers]
       exact h
     case enter f args=>
       refine Calls.mono h fun e w'' he=>?_
       cases e with
       | returned u=>exact ⟨keep a u hy,by rw [← Act.put_comm a v u h2];exact he⟩
       | panicked c=>exact he
       | outgrown=>obtain ⟨_,_,h⟩:=he;exact h.elim
     case row row args=>exact Rows.mono h fun u w'' he=>⟨keep a u hy,by rw [← Act.put_comm a v u h2];exact he⟩
   | halt x w'=>
     cases x<;>simp only [Oper.upon] at h ⊢
     case panic u=>exact h
 · rename_i hw
   simp only [hw] at h
   exact ⟨keep a _ hy,by rw [← Act.put_comm a v undef h2];exact h⟩
def SAny (P:Program) (ops:Array Oper) (cov:Array Bool) (Q:Act→World→Prop):Nat→Array Bool→Act→World→Prop
 | 0,listed,a,w=>Region.ready .any ops listed=[]∧Q a w
 | n+1,listed,a,w=>(Region.ready .any ops listed=[]→Q a w) ∧
     ∀ i∈Region.ready .any ops listed,wpOp P ops QF i (fun a' w'=>(cov.getD i false=false→Ext w w')∧∀ w'',Ext w' w''→SAny P ops cov Q n (listed.setIfInBounds i true) a' w'') a w
def Down (ops:Array Oper) (listed:Array Bool):Prop:=
 ∀ (k:Nat) (o:Oper),listed.getD k false=true→ops[k]?=some o→∀ e∈o.after,Region.binds .any e=true→listed.getD e.on false=true
theorem Down.none (n:Nat):Down ops (Array.replicate n false):=by
 intro k o hk
 by_cases hkn:k<n<;>simp [hkn] at hk
theorem Down.set {listed:Array Bool} {j:Nat} (h:Down ops listed) (hj:j∈Region.ready .any ops listed):Down ops (listed.setIfInBounds j true):=by
 intro k o hk ho e he hb
 by_cases hkj:j=k
 · subst hkj
   obtain ⟨_,o',ho',hall⟩:=mem_ready.1 hj
   rw [ho'] at ho
   obtain rfl:=Option.some.inj ho
   exact getD_set_true (hall e he hb)
 · rw [getD_set_ne false hkj] at hk
   exact getD_set_true (h k o hk ho e he hb)
def markAll (es:List Edge) (m:Array Bool):Array Bool:=es.foldl (fun m e=>if Region.binds .any e then m.setIfInBounds e.on true else m) m
def marksTo (ops:Array Oper):Nat→Array Bool→Array Bool
 | 0,m=>m
 | k+1,m=>marksTo ops k (if m.getD k false then (match ops[k]? with|some o=>markAll o.after.toList m|none=>m) else m)
def waitsFor (ops:Array Oper) (j:Nat):Array Bool:=
 match ops[j]? with
 | some o=>marksTo ops ops.size (markAll o.after.toList (Array.replicate ops.size false))
 | none=>#[]
theorem markAll_listed {listed:Array Bool}:∀ (es:List Edge) (m:Array Bool),(∀ e∈es,Region.binds .any e=true→listed.getD e.on false=true)→(∀ k,m.getD k false=true→listed.getD k false=true) →
   ∀ k,(markAll es m).getD k false=true→listed.getD k false=true
 | [],_,_,hm=>hm
 | e::es,m,he,hm=>by
   refine markAll_listed es _ (fun e' h'=>he e' (List.mem_cons_of_mem _ h')) ?_
   intro k hk
   dsimp only at hk
   split at hk
   · rename_i hb
     by_cases hke:e.on=k
     · subst hke;exact he e (List.mem_cons_self ..) hb
     · rw [getD_set_ne false hke] at hk;exact hm k hk
   · exact hm k hk
theorem marksTo_listed {listed:Array Bool} (h:Down ops listed):∀ (n:Nat) (m:Array Bool),(∀ k,m.getD k false=true→listed.getD k false=true)→∀ k,(marksTo ops n m).getD k false=true→listed.getD k false=true
 | 0,_,hm=>hm
 | n+1,m,hm=>by
   refine marksTo_listed h n _ ?_
   intro k hk
   split at hk
   · rename_i hn
     split at hk
     · rename_i o ho
       exact markAll_listed _ _ (fun e he hb=>h n o (hm n hn) ho e (by simpa using he) hb) hm k hk
     · exact hm k hk
   · exact hm k hk
def covFor (ops:Array Oper) (cov:Array Bool) (i:Nat):Bool:=(List.range ops.size).all fun j=>!cov.getD j false || (waitsFor ops j).getD i false
theorem covFor_spec {cov:Array Bool} {i j:Nat} {listed:Array Bool} (h:covFor ops cov i=true) (hd:Down ops listed) (hj:j∈Region.ready .any ops listed) (hi:listed.getD i false=false):cov.getD j false=false:=by
 obtain ⟨_,o,ho,hall⟩:=mem_ready.1 hj
 have hlt:j<ops.size:=(Array.getElem?_eq_some_iff.1 ho).1
 simp only [covFor,List.all_eq_true,List.mem_range] at h
 have h1:=h j hlt
 simp only [Bool.or_eq_true,Bool.not_eq_true'] at h1
 rcases h1 with h1|h1
 · exact h1
 · have:listed.getD i false=true:=by
     unfold waitsFor at h1
     rw [ho] at h1
     refine marksTo_listed hd ops.size _ ?_ i h1
     refine markAll_listed _ _ (fun e he hb=>hall e (by simpa using he) hb) ?_
     intro k hk
     by_cases hkn:k<ops.size<;>simp [hkn] at hk
   rw [this] at hi
   cases hi
def wpG (P:Program) (ops:Array Oper) (W:World) (Q:Act→Prop):List Nat→Act→Prop
 | [],a=>Q a
 | i::rest,a=>match ops[i]? with
   | none=>False
   | some o=>if Region.wanted o (yielded ops a.tmps) then ∃ v,GQ P o a W v∧wpG P ops W Q rest (a.put o.dst v) else wpG P ops W Q rest (a.put o.dst undef)
def lexOk (ops:Array Oper) (cov:Array Bool):List Nat→Array Bool→Bool
 | [],_=>true
 | i::r,listed=>(Region.ready .any ops listed).contains i && Region.free .any ops listed i && covFor ops cov i && lexOk ops cov r (listed.setIfInBounds i true)
def listedBy:List Nat→Array Bool→Array Bool
 | [],listed=>listed
 | i::r,listed=>listedBy r (listed.setIfInBounds i true)
end
abbrev Fr:=List (Nat×Value)
abbrev Tg:=Option (Nat×Nat×Nat)
abbrev Hp:=List (Nat×List Value×Tg)
def look:Fr→Nat→Option Value
 | [],_=>none
 | (d,v)::F,t=>match Nat.beq d t with|true=>some v|false=>look F t
inductive TyK where
 | struct (fs:List (Nat×Nat×Bool))
 | slice (e:Nat)
 | array (n e:Nat)
 | ptr (e:Nat)
 | int (k:IntKind)
 | other
structure TyI where
 agg:Bool
 size:Nat
 zero:List Value
 kind:TyK
def KindOk (P:Program) (t:Nat):TyK→Prop
 | .struct fs=>∃ ds:Array Field,(∀ w,(underlying t).run P w=.ok (.struct ds) w)∧ds.size=fs.length∧∀ (f off n:Nat) (g:Bool),fs[f]?=some (off,n,g) →
     ∃ d:Field,ds[f]?=some d∧d.offset=off∧(∀ w,(sizeOf d.type).run P w=.ok n w)∧∀ w,(isAgg d.type).run P w=.ok g w
 | .slice e=>∀ w,(underlying t).run P w=.ok (.slice e) w
 | .array n e=>∀ w,(underlying t).run P w=.ok (.array n e) w
 | .ptr e=>∀ w,(underlying t).run P w=.ok (.pointer e) w
 | .int k=>∀ w,(underlying t).run P w=.ok (.int k) w
 | .other=>True
structure TyOk (P:Program) (t:Nat) (i:TyI):Prop where
 agg:∀ w,(isAgg t).run P w=.ok i.agg w
 size:∀ w,(sizeOf t).run P w=.ok i.size w
 zero:∀ w,∃ z,(zeroValue t).run P w=.ok z w∧z.cells=i.zero.toArray
 zlen:i.zero.length=i.size
 kind:KindOk P t i.kind
def tyAt:List (Nat×TyI)→Nat→Option TyI
 | [],_=>none
 | (d,v)::F,t=>match Nat.beq d t with|true=>some v|false=>tyAt F t
theorem tyAt_mem {l:List (Nat×TyI)} {t:Nat} {i:TyI} (h:tyAt l t=some i):(t,i)∈l:=by
 induction l with
 | nil=>cases h
 | cons x l ih=>
   obtain ⟨d,v⟩:=x
   unfold tyAt at h
   split at h
   · rename_i hb
     have hd:=Nat.eq_of_beq_eq_true hb
     subst hd
     obtain rfl:=Option.some.inj h
     exact List.mem_cons_self ..
   · exact List.mem_cons_of_mem _ (ih h)
structure Ms where
 wr:List Nat
 dk:List Nat
def dmark (D:Nat):Deferred:={ target:=.collected D,args:=#[] }
structure Cx where
 P:Program
 tys:List (Nat×TyI)
 ok:∀ x∈tys,TyOk P x.1 x.2
 w0:World
 M:List Nat
 N:Nat
theorem Cx.ty (c:Cx) {t:Nat} {i:TyI} (h:tyAt c.tys t=some i):TyOk c.P t i:=c.ok _ (tyAt_mem h)
def ev (F:Fr):Operand→Option Value
 | .tmp t=>look F t
 | .const v=>some v
 | .global g=>some (.pointer (some ⟨g,0,none⟩))
 | .func f=>some (.func (.func f) #[] #[])
def evs (F:Fr):List Operand→Option (List Value)
 | []=>some []
 | x::l=>match ev F x,evs F l with
   | some v,some vs=>some (v::vs)
   | _,_=>none
structure Frm (D:List Nat) (N:Nat) (F:Fr) (a:Act):Prop where
 size:a.tmps.size=N
 defers:a.defers=D.map dmark
 at_:∀ d v,look F d=some v→a.tmps[d]?=some v
theorem Frm.ev {D:List Nat} {N:Nat} {F:Fr} {a:Act} (h:Frm D N F a) {x:Operand} {v:Value} (hx:ev F x=some v):a.eval x=v:=by
 cases x with
 | tmp t=>simp only [Ytcjkndjjbjoehaa.ev] at hx;have:=h.at_ t v hx;simp [Act.eval,Array.getD_eq_getD_getElem?,this]
 | const u=>exact Option.some.inj hx
 | global g=>exact Option.some.inj hx
 | func f=>exact Option.some.inj hx
theorem Frm.evs {D:List Nat} {N:Nat} {F:Fr} {a:Act} (h:Frm D N F a):∀ {l:List Operand} {vs:List Value},evs F l=some vs→l.map a.eval=vs
 | [],_,hx=>Option.some.inj hx
 | x::l,vs,hx=>by
   simp only [Ytcjkndjjbjoehaa.evs] at hx
   split at hx
   · rename_i v us h1 h2
     obtain rfl:=Option.some.inj hx
     rw [List.map_cons,h.ev h1,h.evs h2]
   · cases hx
theorem look_cons_self (F:Fr) (d:Nat) (v:Value):look ((d,v)::F) d=some v:=by
 have:Nat.beq d d=true:=by simp
 simp only [look,this]
theorem look_cons_ne (F:Fr) {d t:Nat} (v:Value) (h:d≠t):look ((d,v)::F) t=look F t:=by
 have:Nat.beq d t=false:=by
   cases hb:Nat.beq d t with
   | false=>rfl
   | true=>exact absurd (Nat.eq_of_beq_eq_true hb) h
 simp only [look,this]
theorem Frm.put {D:List Nat} {N:Nat} {F:Fr} {a:Act} (h:Frm D N F a) {d:Nat} (hd:Nat.blt d N=true) (v:Value):Frm D N ((d,v)::F) (a.put (some d) v):=by
 have hd':d<N:=by simpa [Nat.blt_eq] using hd
 refine ⟨by simp [Act.put,h.size],h.defers,fun t u hu=>?_⟩
 simp only [Act.put,Array.getElem?_setIfInBounds]
 by_cases hdt:d=t
 · subst hdt
   rw [look_cons_self] at hu
   rw [if_pos rfl,if_pos (by rw [h.size];exact hd')]
   exact hu
 · rw [look_cons_ne F v hdt] at hu
   rw [if_neg hdt]
   exact h.at_ t u hu
theorem Frm.putNone {D:List Nat} {N:Nat} {F:Fr} {a:Act} (h:Frm D N F a) (v:Value):Frm D N F (a.put none v):=h
def TgOk (c:Array Value) (t:TypeId):Tg→Prop
 | none=>True
 | some (e,s,cap)=>t=e∧c.size=cap*s∧cap≤maxLen
def enc:List Nat→Nat
 | []=>0
 | x::l=>2 ^ x*(2*enc l+1)
def decV:List Nat→Value
 | [0,n]=>.int .i64 n
 | [1,b]=>.bool (b == 1)
 | [2,i,b]=>.agg #[.int .i64 i,.bool (b == 1)]
 | [3,b,o,n,cap]=>.slice (some ⟨b,o,none⟩) n cap
 | _=>.slice none 0 0
abbrev Mc:=List (List Nat×List Nat)
def mcode (L:Mc):Nat:=enc (L.flatMap fun p=>[enc p.1,enc p.2])
def mapTg (t:Nat) (L:Mc):Tg:=some (t,0,maxLen+1+mcode L)
def IsMap (w:World) (b:Nat) (L:Mc):Prop:=∃ es clock,w.heap[b]?=some (.map es clock)∧es.toList.map (fun e=>(e.key,e.val))=L.map fun p=>(decV p.1,decV p.2)
def Blk (w:World) (b:Nat) (C:List Value) (g:Tg):Prop:=
 (∃ c t,w.heap[b]?=some (.cells c t (0,0))∧(∀ (o:Nat) (v:Value),C[o]?=some v→c[o]?=some v)∧TgOk c t g)∨(C=[]∧∃ t L,g=mapTg t L∧IsMap w b L)
theorem Blk.lt {w:World} {b:Nat} {C:List Value} {g:Tg} (h:Blk w b C g):b<w.heap.size:=by
 rcases h with ⟨c,t,h,_⟩|⟨_,t,L,_,es,ck,h,_⟩
 · exact (Array.getElem?_eq_some_iff.1 h).1
 · exact (Array.getElem?_eq_some_iff.1 h).1
theorem Blk.cell {w:World} {b:Nat} {C:List Value} {g:Tg} (h:Blk w b C g) {o:Nat} {v:Value} (ho:C[o]?=some v):w.cell? ⟨b,o,none⟩=some v:=by
 rcases h with ⟨c,t,h,hc,_⟩|⟨rfl,_⟩
 · simp only [World.cell?,h]
   exact hc o v ho
 · simp at ho
theorem Blk.free {w:World} {b:Nat} {C:List Value} {g:Tg} (h:Blk w b C g) (o:Nat):w.frozen? ⟨b,o,none⟩=false:=by
 rcases h with ⟨c,t,h,hc⟩|⟨_,t,L,_,es,ck,h,_⟩
 · simp [World.frozen?,h]
 · simp [World.frozen?,h]
theorem Blk.same {w w':World} {b:Nat} {C:List Value} {g:Tg} (h:Blk w b C g) (e:w'.heap[b]?=w.heap[b]?):Blk w' b C g:=by
 unfold Blk IsMap;rw [e];exact h
structure ExtM (M:List Nat) (w w':World):Prop where
 os:w'.os=w.os
 tape:w'.tape=w.tape
 output:w'.output=w.output
 size:w.heap.size≤w'.heap.size
 block:∀ b,b<w.heap.size→b∉M→w'.heap[b]?=w.heap[b]?
theorem Ext.toM {w w':World} (h:Ext w w') (M:List Nat):ExtM M w w':=⟨h.os,h.tape,h.output,h.size,fun b hb _=>h.block b hb⟩
theorem ExtM.ext {w w':World} (h:ExtM [] w w'):Ext w w':=⟨h.os,h.tape,h.output,h.size,fun b hb=>h.block b hb (List.not_mem_nil)⟩
theorem ExtM.refl (M:List Nat) (w:World):ExtM M w w:=(Ext.refl w).toM M
theorem ExtM.trans {M:List Nat} {a b c:World} (h:ExtM M a b) (k:ExtM M b c):ExtM M a c:=
 ⟨k.os.trans h.os,k.tape.trans h.tape,k.output.trans h.output,Nat.le_trans h.size k.size,fun i hi hm=>(k.block i (Nat.lt_of_lt_of_le hi h.size) hm).trans (h.block i hi hm)⟩
structure Has (w0:World) (M:Ms) (H:Hp) (w:World):Prop where
 ext:ExtM M.wr w0 w
 blk:∀ x∈H,(w0.heap.size≤x.1∨x.1∈M.wr)∧Blk w x.1 x.2.1 x.2.2
 nodup:(H.map Prod.fst).Nodup
 marks:M.dk.Nodup∧∀ k∈M.dk,w0.heap.size≤k∧w.heap[k]?=some (.deferred (some []))
theorem mark_lt {w:World} {k:Nat} {o:Obj} (h:w.heap[k]?=some o):k<w.heap.size:=(Array.getElem?_eq_some_iff.1 h).1
theorem Has.grow {w0:World} {M:Ms} {H:Hp} {w w':World} (h:Has w0 M H w) (e:Ext w w'):Has w0 M H w':=
 ⟨h.ext.trans (e.toM M.wr),fun x hx=>⟨(h.blk x hx).1,(h.blk x hx).2.same (e.block _ (h.blk x hx).2.lt)⟩,h.nodup,h.marks.1,fun k hk=>⟨(h.marks.2 k hk).1,(e.block k (mark_lt (h.marks.2 k hk).2)).trans (h.marks.2 k hk).2⟩⟩
/-! Reading -/
def Rd (c:Cx) (H:Hp) (p:Addr) (v:Value):Prop:=∀ D w,Has c.w0 ⟨c.M,D⟩ H w→w.cell? p=some v
theorem Rd.old {c:Cx} {H:Hp} {b o:Nat} {v:Value} (h:c.w0.cell? ⟨b,o,none⟩=some v) (hm:b∉c.M):Rd c H ⟨b,o,none⟩ v:=fun D w hw=>by
 have hb:=cell_lt h
 rw [World.cell?_of_block (w:=c.w0) (a:=⟨b,o,none⟩) (hw.ext.block b hb hm)]
 exact h
inductive Pick:Hp→Nat→List Value→Tg→Hp→Prop
 | head (b:Nat) (C:List Value) (g:Tg) (H:Hp):Pick ((b,C,g)::H) b C g H
 | tail {x:Nat×List Value×Tg} {H H':Hp} {b:Nat} {C:List Value} {g:Tg} (h:Pick H b C g H'):Pick (x::H) b C g (x::H')
theorem Pick.perm {H H':Hp} {b:Nat} {C:List Value} {g:Tg} (h:Pick H b C g H'):H.Perm ((b,C,g)::H'):=by
 induction h with
 | head b C g H=>exact List.Perm.refl _
 | tail _ ih=>exact (List.Perm.cons _ ih).trans (List.Perm.swap ..)
theorem Pick.mem {H H':Hp} {b:Nat} {C:List Value} {g:Tg} (h:Pick H b C g H'):(b,C,g)∈H:=h.perm.mem_iff.2 (List.mem_cons_self ..)
theorem Rd.own {c:Cx} {H H':Hp} {b o:Nat} {C:List Value} {g:Tg} {v:Value} (h:Pick H b C g H') (ho:C[o]?=some v):Rd c H ⟨b,o,none⟩ v:=fun D w hw=>(hw.blk _ h.mem).2.cell ho
def Rds (c:Cx) (H:Hp) (b:Nat):Nat→List Value→Prop
 | _,[]=>True
 | o,v::vs=>Rd c H ⟨b,o,none⟩ v∧Rds c H b (o+1) vs
inductive Rdn (c:Cx) (H:Hp) (b:Nat):Nat→Nat→List Value→Prop
 | zero {o:Nat}:Rdn c H b o 0 []
 | succ {o n:Nat} {v:Value} {vs:List Value} (h:Rd c H ⟨b,o,none⟩ v) (k:Rdn c H b (o+1) n vs):Rdn c H b o (n+1) (v::vs)
theorem Rdn.spec {c:Cx} {H:Hp} {b o n:Nat} {vs:List Value} (h:Rdn c H b o n vs):Rds c H b o vs∧vs.length=n:=by
 induction h with
 | zero=>exact ⟨trivial,rfl⟩
 | succ h _ ih=>exact ⟨⟨h,ih.1⟩,by simp [ih.2]⟩
theorem run_bind' {α β:Type} (P:Program) (x:Sem α) (f:α→Sem β) (w:World) (a:α) (w':World) (h:x.run P w=.ok a w'):(x >>= f).run P w=(f a).run P w':=by
 rw [Sem.run_bind,h];rfl
theorem run_load (P:Program) (a:Addr) (w:World) (v:Value) (h:w.cell? a=some v):(Go.load a).run P w=.ok v w:=by
 simp [Go.load,Sem.run,h]
theorem run_loadCellsFrom (P:Program) (w:World) (b o:Nat):∀ (vs:List Value) (i:Nat) (acc:Array Value),(∀ j v,vs[j]?=some v→w.cell? ⟨b,o+(i+j),none⟩=some v) →
   (loadCellsFrom ⟨b,o,none⟩ i vs.length acc).run P w=.ok (acc++vs.toArray) w
 | [],i,acc,_=>by simp [loadCellsFrom,Sem.run_pure]
 | v::vs,i,acc,h=>by
   unfold loadCellsFrom
   have h0:=h 0 v rfl
   have ha:(Addr.add ⟨b,o,none⟩ i)=⟨b,o+i,none⟩:=by
     unfold Addr.add;split
     · rename_i hi;subst hi;rfl
     · rfl
   rw [List.length_cons]
   simp only []
   rw [run_bind' P _ _ w v w (run_load P _ w v (by rw [ha];simpa using h0))]
   rw [run_loadCellsFrom P w b o vs (i+1) (acc.push v) (fun j u hj=>by have:=h (j+1) u (by simpa using hj);rw [← this];congr 2;omega)]
   simp
theorem Rds.at_ {c:Cx} {H:Hp} {D:List Nat} {b:Nat} {w:World} (hw:Has c.w0 ⟨c.M,D⟩ H w):∀ (vs:List Value) (o:Nat),Rds c H b o vs→∀ j v,vs[j]?=some v→w.cell? ⟨b,o+j,none⟩=some v
 | [],_,_,j,v,h=>by simp at h
 | u::vs,o,hr,0,v,h=>by
   obtain rfl:u=v:=by simpa using h
   exact hr.1 D w hw
 | u::vs,o,hr,j+1,v,h=>by
   have:=Rds.at_ hw vs (o+1) hr.2 j v (by simpa using h)
   rw [← this];congr 2;omega
def OQ (c:Cx) (o:Oper) (F:Fr) (H:Hp) (v:Value):Prop:=
 ∀ D a w,Frm D c.N F a→Has c.w0 ⟨c.M,D⟩ H w→givesUpon c.P (fun u w'=>u=v∧Ext w w') ((execOp a.eval o).run c.P w)
def InR (z:Int):Prop:=-9223372036854775808≤z∧z≤9223372036854775807
theorem wrap_in {z:Int} (h:InR z):IntKind.i64.wrap z=z:=IntWalk.i64_in _ h
inductive Norm:List Value→List Value→Prop
 | nil {l:List Value} (h:l=[]):Norm l []
 | cons {l l' r:List Value} {v:Value} (h:l=v::l') (k:Norm l' r):Norm l (v::r)
theorem Norm.eq {l r:List Value} (h:Norm l r):l=r:=by
 induction h with
 | nil h=>exact h
 | cons h _ ih=>rw [h,ih]
section
variable {c:Cx} {F:Fr} {H:Hp} {d:Option Tmp} {ty:TypeId} {pos:String} {af:Array Edge} {g:Option (Nat×Bool)} {t t':TypeId} {x y z:Operand} {v u:Value} {m n:Int}
def Ev (F:Fr) (ρ:Operand→Value):Prop:=∀ x v,ev F x=some v→ρ x=v
theorem Ev.ev {ρ:Operand→Value} (h:Ev F ρ) (hx:ev F x=some v):ρ x=v:=h x v hx
theorem Ev.evs {ρ:Operand→Value} (h:Ev F ρ):∀ {l:List Operand} {vs:List Value},evs F l=some vs→l.map ρ=vs
 | [],_,hx=>Option.some.inj hx
 | x::l,vs,hx=>by
   simp only [Ytcjkndjjbjoehaa.evs] at hx
   split at hx
   · rename_i v us h1 h2
     obtain rfl:=Option.some.inj hx
     rw [List.map_cons,h.ev h1,h.evs h2]
   · cases hx
theorem OQ.of {o:Oper} (h:∀ D ρ w,Ev F ρ→Has c.w0 ⟨c.M,D⟩ H w→(execOp ρ o).run c.P w=.ok (.value v) w):OQ c o F H v:=by
 intro D a w ha hw
 rw [h D a.eval w (fun x v hx=>ha.ev hx) hw]
 exact ⟨rfl,Ext.refl _⟩
theorem oq_move (hx:ev F x=some v):OQ c ⟨d,.move x,ty,pos,af,g⟩ F H v:=.of fun D a w ha _=>by
 simp [execOp,ha.ev hx,go_sem]
theorem oq_assign (hx:ev F x=some v):OQ c ⟨d,.assign x,ty,pos,af,g⟩ F H v:=.of fun D a w ha _=>by
 simp [execOp,ha.ev hx,go_sem]
theorem oq_pickT (hc:ev F z=some (.bool true)) (hx:ev F x=some v):OQ c ⟨d,.pick z x y,ty,pos,af,g⟩ F H v:=.of fun D a w ha _=>by
 simp [execOp,ha.ev hx,ha.ev hc,go_sem]
theorem oq_pickF (hc:ev F z=some (.bool false)) (hy:ev F y=some v):OQ c ⟨d,.pick z x y,ty,pos,af,g⟩ F H v:=.of fun D a w ha _=>by
 simp [execOp,ha.ev hy,ha.ev hc,go_sem]
theorem oq_add (hx:ev F x=some (.int .i64 m)) (hy:ev F y=some (.int .i64 n)) (hr:InR (m+n)):OQ c ⟨d,.binOp .add t x y t',ty,pos,af,g⟩ F H (.int .i64 (m+n)):=.of fun D a w ha _=>by
 have:=wrap_in hr
 simp [execOp,ha.ev hx,ha.ev hy,eqGuard,binOp,Op.intArith,go_sem,this]
theorem oq_sub (hx:ev F x=some (.int .i64 m)) (hy:ev F y=some (.int .i64 n)) (hr:InR (m-n)):OQ c ⟨d,.binOp .sub t x y t',ty,pos,af,g⟩ F H (.int .i64 (m-n)):=.of fun D a w ha _=>by
 have:=wrap_in hr
 simp [execOp,ha.ev hx,ha.ev hy,eqGuard,binOp,Op.intArith,go_sem,this]
theorem oq_mul (hx:ev F x=some (.int .i64 m)) (hy:ev F y=some (.int .i64 n)) (hr:InR (m*n)):OQ c ⟨d,.binOp .mul t x y t',ty,pos,af,g⟩ F H (.int .i64 (m*n)):=.of fun D a w ha _=>by
 have:=wrap_in hr
 simp [execOp,ha.ev hx,ha.ev hy,eqGuard,binOp,Op.intArith,go_sem,this]
theorem oq_quo (hx:ev F x=some (.int .i64 m)) (hy:ev F y=some (.int .i64 n)) (h0:n≠0) (hr:InR (m.tdiv n)):OQ c ⟨d,.binOp .quo t x y t',ty,pos,af,g⟩ F H (.int .i64 (m.tdiv n)):=.of fun D a w ha _=>by
 have:=wrap_in hr
 simp [execOp,ha.ev hx,ha.ev hy,eqGuard,binOp,Op.intDiv,go_sem,this,h0]
theorem oq_rem (hx:ev F x=some (.int .i64 m)) (hy:ev F y=some (.int .i64 n)) (h0:n≠0):OQ c ⟨d,.binOp .rem t x y t',ty,pos,af,g⟩ F H (.int .i64 (m.tmod n)):=.of fun D a w ha _=>by
 simp [execOp,ha.ev hx,ha.ev hy,eqGuard,binOp,Op.intDiv,go_sem,h0]
theorem oq_lss {k:IntKind} (hx:ev F x=some (.int k m)) (hy:ev F y=some (.int k n)):OQ c ⟨d,.binOp .lss t x y t',ty,pos,af,g⟩ F H (.bool (decide (m<n))):=.of fun D a w ha _=>by
 simp [execOp,ha.ev hx,ha.ev hy,eqGuard,binOp,Op.intCmp,go_sem]
theorem oq_leq {k:IntKind} (hx:ev F x=some (.int k m)) (hy:ev F y=some (.int k n)):OQ c ⟨d,.binOp .leq t x y t',ty,pos,af,g⟩ F H (.bool (decide (m≤n))):=.of fun D a w ha _=>by
 simp [execOp,ha.ev hx,ha.ev hy,eqGuard,binOp,Op.intCmp,go_sem]
theorem oq_gtr {k:IntKind} (hx:ev F x=some (.int k m)) (hy:ev F y=some (.int k n)):OQ c ⟨d,.binOp .gtr t x y t',ty,pos,af,g⟩ F H (.bool (decide (n<m))):=.of fun D a w ha _=>by
 simp [execOp,ha.ev hx,ha.ev hy,eqGuard,binOp,Op.intCmp,go_sem]
theorem oq_geq {k:IntKind} (hx:ev F x=some (.int k m)) (hy:ev F y=some (.int k n)):OQ c ⟨d,.binOp .geq t x y t',ty,pos,af,g⟩ F H (.bool (decide (n≤m))):=.of fun D a w ha _=>by
 simp [execOp,ha.ev hx,ha.ev hy,eqGuard,binOp,Op.intCmp,go_sem]
theorem oq_eql {k:IntKind} (hx:ev F x=some (.int k m)) (hy:ev F y=some (.int k n)):OQ c ⟨d,.binOp .eql t x y t',ty,pos,af,g⟩ F H (.bool (decide (m=n))):=.of fun D a w ha _=>by
 have:(m == n)=decide (m=n):=rfl
 simp [execOp,ha.ev hx,ha.ev hy,eqGuard,binOp,Op.intCmp,go_sem,this]
theorem oq_neq {k:IntKind} (hx:ev F x=some (.int k m)) (hy:ev F y=some (.int k n)):OQ c ⟨d,.binOp .neq t x y t',ty,pos,af,g⟩ F H (.bool (!decide (m=n))):=.of fun D a w ha _=>by
 have:(m != n) = !decide (m=n):=rfl
 simp [execOp,ha.ev hx,ha.ev hy,eqGuard,binOp,Op.intCmp,go_sem,this]
theorem oq_neg (hx:ev F x=some (.int .i64 m)) (hr:InR (-m)):OQ c ⟨d,.unOp .neg t x,ty,pos,af,g⟩ F H (.int .i64 (-m)):=.of fun D a w ha _=>by
 have:=wrap_in hr
 simp [execOp,ha.ev hx,Op.unary,Op.intArith,go_sem,this]
theorem oq_not {b:Bool} (hx:ev F x=some (.bool b)):OQ c ⟨d,.unOp .not t x,ty,pos,af,g⟩ F H (.bool (!b)):=.of fun D a w ha _=>by
 simp [execOp,ha.ev hx,Op.unary,go_sem]
theorem oq_extract {vs:Array Value} {i:Nat} (hx:ev F x=some (.tuple vs)) (hi:vs[i]?=some v):OQ c ⟨d,.extract x i,ty,pos,af,g⟩ F H v:=.of fun D a w ha _=>by
 simp [execOp,ha.ev hx,Instr.extract,go_sem,hi]
theorem oq_nilCheck {p:Addr} (hx:ev F x=some (.pointer (some p))):OQ c ⟨d,.nilCheck x,ty,pos,af,g⟩ F H (.pointer (some p)):=.of fun D a w ha _=>by
 simp [execOp,ha.ev hx,go_sem]
theorem oq_len {A:Option Addr} {k cap e s0:Nat} {a0:Bool} {z0:List Value} (ht:tyAt c.tys t=some ⟨a0,s0,z0,.slice e⟩) (hx:ev F x=some (.slice A k cap)) :
   OQ c ⟨d,.call ⟨.builtin .len,#[x],#[t]⟩,ty,pos,af,g⟩ F H (.int .i64 k):=.of fun D a w ha _=>by
 have h:=(c.ty ht).kind
 have h':=h w
 simp [execOp,resolve,invoke,builtin,ha.ev hx,Builtin.len_,go_sem,h',goInt]
theorem oq_max2 (hx:ev F x=some (.int .i64 m)) (hy:ev F y=some (.int .i64 n)) {T:Array TypeId}:OQ c ⟨d,.call ⟨.builtin .max,#[x,y],T⟩,ty,pos,af,g⟩ F H (.int .i64 (max m n)):=.of fun D a w ha _=>by
 have h:=run_max2 (P:=c.P) T ty m n w
 simp [execOp,resolve,invoke,builtin,ha.ev hx,ha.ev hy,Sem.run_bind,Sem.run_pure,h,Result.andThen]
theorem oq_min2 (hx:ev F x=some (.int .i64 m)) (hy:ev F y=some (.int .i64 n)) {T:Array TypeId}:OQ c ⟨d,.call ⟨.builtin .min,#[x,y],T⟩,ty,pos,af,g⟩ F H (.int .i64 (min m n)):=.of fun D a w ha _=>by
 have h:=run_min2 (P:=c.P) T ty m n w
 simp [execOp,resolve,invoke,builtin,ha.ev hx,ha.ev hy,Sem.run_bind,Sem.run_pure,h,Result.andThen]
theorem oq_max3 {k:Int} (hx:ev F x=some (.int .i64 m)) (hy:ev F y=some (.int .i64 n)) (hz:ev F z=some (.int .i64 k)) {T:Array TypeId}:OQ c ⟨d,.call ⟨.builtin .max,#[x,y,z],T⟩,ty,pos,af,g⟩ F H (.int .i64 (max (max m n) k)):=.of fun D a w ha _=>by
 have h:=run_max3 (P:=c.P) T ty m n k w
 simp [execOp,resolve,invoke,builtin,ha.ev hx,ha.ev hy,ha.ev hz,Sem.run_bind,Sem.run_pure,h,Result.andThen]
theorem oq_min3 {k:Int} (hx:ev F x=some (.int .i64 m)) (hy:ev F y=some (.int .i64 n)) (hz:ev F z=some (.int .i64 k)) {T:Array TypeId}:OQ c ⟨d,.call ⟨.builtin .min,#[x,y,z],T⟩,ty,pos,af,g⟩ F H (.int .i64 (min (min m n) k)):=.of fun D a w ha _=>by
 have h:=run_min3 (P:=c.P) T ty m n k w
 simp [execOp,resolve,invoke,builtin,ha.ev hx,ha.ev hy,ha.ev hz,Sem.run_bind,Sem.run_pure,h,Result.andThen]
theorem add_eq (b o n:Nat):Addr.add ⟨b,o,none⟩ n=⟨b,o+n,none⟩:=by
 unfold Addr.add
 split
 · rename_i h;subst h;rfl
 · rfl
theorem oq_fieldAddr {a0:Bool} {s0:Nat} {z0:List Value} {fs:List (Nat×Nat×Bool)} {f off k:Nat} {gg:Bool} {b o:Nat} (ht:tyAt c.tys t=some ⟨a0,s0,z0,.struct fs⟩) (hf:fs[f]?=some (off,k,gg)) (h0:Nat.beq k 0=false)
   (hx:ev F x=some (.pointer (some ⟨b,o,none⟩))):OQ c ⟨d,.fieldAddr t x f,ty,pos,af,g⟩ F H (.pointer (some ⟨b,o+off,none⟩)):=.of fun D a w ha _=>by
 have h:=(c.ty ht).kind
 obtain ⟨ds,h1,_,h2⟩:=h
 obtain ⟨dd,h3,h4,h5,h6⟩:=h2 f off k gg hf
 have hne:k≠0:=fun e=>by subst e;cases h0
 simp [execOp,ha.ev hx,Instr.fieldAt,Instr.sureAddr,fieldPlace,go_sem,h1,h3,h4,h5,hne,add_eq]
theorem oq_field {a0:Bool} {s0:Nat} {z0:List Value} {fs:List (Nat×Nat×Bool)} {f off k:Nat} {cs:Array Value} (ht:tyAt c.tys t=some ⟨a0,s0,z0,.struct fs⟩) (hf:fs[f]?=some (off,k,false))
   (hx:ev F x=some (.agg cs)) (hv:cs[off]?=some v):OQ c ⟨d,.field t x f,ty,pos,af,g⟩ F H v:=.of fun D a w ha _=>by
 have h:=(c.ty ht).kind
 obtain ⟨ds,h1,_,h2⟩:=h
 obtain ⟨dd,h3,h4,h5,h6⟩:=h2 f off k false hf
 simp [execOp,ha.ev hx,Instr.field,go_sem,h1,h3,h4,h5,h6,part,asAgg,hv]
theorem oq_indexAddr {a0 a1:Bool} {s0 s1:Nat} {z0 z1:List Value} {k1:TyK} {e b o k cap:Nat} {i:Int} (ht:tyAt c.tys t=some ⟨a0,s0,z0,.slice e⟩) (he:tyAt c.tys e=some ⟨a1,s1,z1,k1⟩)
   (hx:ev F x=some (.slice (some ⟨b,o,none⟩) k cap)) (hy:ev F y=some (.int .i64 i)) (h0:0≤i) (h1:i<k):OQ c ⟨d,.indexAddr t x y,ty,pos,af,g⟩ F H (.pointer (some ⟨b,o+i.toNat*s1,none⟩)):=.of fun D a w ha _=>by
 have h:=(c.ty ht).kind
 have h2:=h w
 have h3:=(c.ty he).size w
 simp [execOp,ha.ev hx,ha.ev hy,Instr.indexAt,go_sem,h2,h3,asIntOf,h0,h1,add_eq]
theorem oq_indexAddrN {a0 a1:Bool} {s0 s1:Nat} {z0 z1:List Value} {k1:TyK} {e b o k cap:Nat} {i:Nat} (ht:tyAt c.tys t=some ⟨a0,s0,z0,.slice e⟩) (he:tyAt c.tys e=some ⟨a1,s1,z1,k1⟩)
   (hx:ev F x=some (.slice (some ⟨b,o,none⟩) k cap)) (hy:ev F y=some (.int .i64 (i:Int))) (h1:i<k):OQ c ⟨d,.indexAddr t x y,ty,pos,af,g⟩ F H (.pointer (some ⟨b,o+i*s1,none⟩)):=by
 have:=oq_indexAddr (d:=d) (ty:=ty) (pos:=pos) (af:=af) (g:=g) (H:=H) ht he hx hy (by omega) (by omega)
 simpa using this
theorem oq_indexAddrA {a0 a1:Bool} {s0 s1:Nat} {z0 z1:List Value} {k1:TyK} {e b o k:Nat} {i:Int} (ht:tyAt c.tys t=some ⟨a0,s0,z0,.array k e⟩) (he:tyAt c.tys e=some ⟨a1,s1,z1,k1⟩)
   (hx:ev F x=some (.pointer (some ⟨b,o,none⟩))) (hy:ev F y=some (.int .i64 i)) (h0:0≤i) (h1:i<k):OQ c ⟨d,.indexAddr t x y,ty,pos,af,g⟩ F H (.pointer (some ⟨b,o+i.toNat*s1,none⟩)):=.of fun D a w ha _=>by
 have h:=(c.ty ht).kind
 have h2:=h w
 have h3:=(c.ty he).size w
 simp [execOp,ha.ev hx,ha.ev hy,Instr.indexAt,Instr.sureAddr,go_sem,h2,h3,asIntOf,h0,h1,add_eq]
theorem oq_index {a0:Bool} {s0 s1:Nat} {z0 z1:List Value} {k1:TyK} {e k:Nat} {i:Int} {cs:Array Value} (ht:tyAt c.tys t=some ⟨a0,s0,z0,.array k e⟩) (he:tyAt c.tys e=some ⟨false,s1,z1,k1⟩)
   (hx:ev F x=some (.agg cs)) (hy:ev F y=some (.int .i64 i)) (hv:cs[i.toNat*s1]?=some v) (h0:0≤i) (h1:i<k):OQ c ⟨d,.index t x y,ty,pos,af,g⟩ F H v:=.of fun D a w ha _=>by
 have h:=(c.ty ht).kind
 have h2:=h w
 have h3:=(c.ty he).size w
 have h4:=(c.ty he).agg w
 simp [execOp,ha.ev hx,ha.ev hy,Instr.index,go_sem,h2,h3,h4,asIntOf,h0,h1,part,hv]
theorem oq_makeFunc {fn:Fn} {cap:Array Operand} {vs:List Value} (hc:evs F cap.toList=some vs):OQ c ⟨d,.makeFunc fn #[] cap,ty,pos,af,g⟩ F H (.func fn #[] vs.toArray):=.of fun D a w ha _=>by
 have:=ha.evs hc
 have h2:cap.map a=vs.toArray:=by rw [← this];cases cap;simp
 simp [execOp,Instr.makeFunc,go_sem,h2]
theorem oq_conv64 {a0 a1:Bool} {s0 s1:Nat} {z0 z1:List Value} {k:IntKind} (ht:tyAt c.tys t=some ⟨a0,s0,z0,.int k⟩) (ht':tyAt c.tys t'=some ⟨a1,s1,z1,.int .i64⟩) (hx:ev F x=some (.int k m)) (hr:InR m) :
   OQ c ⟨d,.convert t t' x,ty,pos,af,g⟩ F H (.int .i64 m):=.of fun D a w ha _=>by
 have h:=(c.ty ht).kind
 have h2:=h w
 have h':=(c.ty ht').kind
 have h3:=h' w
 have:=wrap_in hr
 simp [execOp,ha.ev hx,convert,go_sem,h2,h3,Conv.intToInt,this]
theorem run_loadCells_eq (P:Program) (w:World) (b o:Nat) (vs:List Value) (h:∀ j v,vs[j]?=some v→w.cell? ⟨b,o+j,none⟩=some v):(loadCells ⟨b,o,none⟩ vs.length).run P w=.ok vs.toArray w:=by
 unfold loadCells
 rw [run_loadCellsFrom P w b o vs 0 #[] (fun j v hj=>by rw [Nat.zero_add];exact h j v hj)]
 simp
theorem oq_load {s0:Nat} {z0:List Value} {k0:TyK} {p:Addr} (ht:tyAt c.tys t=some ⟨false,s0,z0,k0⟩) (hx:ev F x=some (.pointer (some p))) (hv:Rd c H p v):OQ c ⟨d,.load t x,ty,pos,af,g⟩ F H v:=.of fun D a w ha hw=>by
 have h1:=(c.ty ht).agg w
 have h2:=run_load c.P p w v (hv D w hw)
 simp [execOp,ha.ev hx,Instr.loadAt,Instr.sureAddr,loadVar,Sem.run_bind,Sem.run_pure,h1,h2,Result.andThen]
theorem oq_loadAgg {z0:List Value} {k0:TyK} {b o k:Nat} {vs:List Value} (ht:tyAt c.tys t=some ⟨true,k,z0,k0⟩) (hx:ev F x=some (.pointer (some ⟨b,o,none⟩))) (hr:Rdn c H b o k vs) :
   OQ c ⟨d,.load t x,ty,pos,af,g⟩ F H (.agg ⟨vs⟩):=.of fun D a w ha hw=>by
 obtain ⟨hv,hl⟩:=hr.spec
 have h1:=(c.ty ht).agg w
 have h3:=(c.ty ht).size w
 rw [← hl] at h3
 have h2:=run_loadCells_eq c.P w b o vs (fun j v hj=>Rds.at_ hw vs o hv j v hj)
 simp [execOp,ha.ev hx,Instr.loadAt,Instr.sureAddr,loadVar,Sem.run_bind,Sem.run_pure,h1,h2,h3,Result.andThen]
/-! Composite values -/
def cellsL:Value→List Value
 | .agg c=>c.toList
 | v=>[v]
theorem cellsL_eq (v:Value):v.cells=(cellsL v).toArray:=by cases v<;>simp [Value.cells,cellsL]
def evp (F:Fr):List (Nat×Operand)→Option (List (Nat×Value))
 | []=>some []
 | (i,x)::l=>match ev F x,evp F l with
   | some v,some vs=>some ((i,v)::vs)
   | _,_=>none
theorem Ev.evp {ρ:Operand→Value} (h:Ev F ρ):∀ {l:List (Nat×Operand)} {vs:List (Nat×Value)},evp F l=some vs→l.map (fun p=>(p.1,ρ p.2))=vs
 | [],_,hx=>Option.some.inj hx
 | (i,x)::l,vs,hx=>by
   simp only [Ytcjkndjjbjoehaa.evp] at hx
   split at hx
   · rename_i v us h1 h2
     obtain rfl:=Option.some.inj hx
     rw [List.map_cons,h.ev h1,h.evp h2]
   · cases hx
def setL:List Value→Nat→List Value→List Value
 | C,_,[]=>C
 | C,o,v::l=>setL (C.set o v) (o+1) l
theorem setL_length:∀ (l:List Value) (C:List Value) (o:Nat),(setL C o l).length=C.length
 | [],_,_=>rfl
 | v::l,C,o=>by simp only [setL];rw [setL_length l];simp
def fillL (place:Nat→Option (Nat×Nat)):List Value→List (Nat×Value)→Option (List Value)
 | C,[]=>some C
 | C,(i,v)::r=>match place i with
   | none=>none
   | some (off,n)=>match Nat.beq (cellsL v).length n && Nat.ble (off+n) C.length with
     | true=>fillL place (setL C off (cellsL v)) r
     | false=>none
theorem foldl_setL:∀ (vs:List Value) (k off:Nat) (C:List Value),((vs.zipIdx k).foldl (fun (cs:Array Value) (p:Value×Nat)=>cs.setIfInBounds (off+p.2) p.1) ⟨C⟩)=⟨setL C (off+k) vs⟩
 | [],_,_,_=>rfl
 | v::vs,k,off,C=>by
   rw [List.zipIdx_cons,List.foldl_cons]
   have:=foldl_setL vs (k+1) off (C.set (off+k) v)
   simp only [setL]
   rw [← Nat.add_assoc] at this
   rw [← this]
   congr 1
   simp
theorem fill_of (place:Nat→Option (Nat×Nat)):∀ (parts:List (Nat×Value)) (C r:List Value),fillL place C parts=some r→Instr.fill place ⟨C⟩ parts=some ⟨r⟩
 | [],C,r,h=>by simp only [fillL] at h;obtain rfl:=Option.some.inj h;rfl
 | (i,v)::parts,C,r,h=>by
   unfold fillL at h
   unfold Instr.fill
   cases hp:place i with
   | none=>rw [hp] at h;cases h
   | some q=>
     obtain ⟨off,n⟩:=q
     rw [hp] at h
     simp only at h ⊢
     split at h
     · rename_i hb
       simp only [Bool.and_eq_true,Nat.beq_eq,Nat.ble_eq] at hb
       have hs:v.cells.size=n:=by rw [cellsL_eq];simpa using hb.1
       rw [hs]
       have hz:¬ (off+n > C.length):=by omega
       simp only [ne_eq,not_true_eq_false,decide_false,Bool.false_or,List.size_toArray,hz,Bool.false_eq_true,if_false]
       have h2:=foldl_setL (cellsL v) 0 off C
       have h3:(v.cells.zipIdx.foldl (fun (cs:Array Value) (p:Value×Nat)=>cs.setIfInBounds (off+p.2) p.1) ⟨C⟩)=⟨setL C off (cellsL v)⟩:=by
         rw [cellsL_eq,← Array.foldl_toList]
         simpa using h2
       have h4:=fill_of place parts (setL C off (cellsL v)) r h
       rw [← h3] at h4
       exact h4
     · cases h
theorem run_mapM_ok {α β:Type} (P:Program) (w:World) (f:α→Sem β):∀ (l:List α) (r:List β),l.length=r.length→(∀ (i:Nat) x y,l[i]?=some x→r[i]?=some y→(f x).run P w=.ok y w)→(l.mapM f).run P w=.ok r w
 | [],[],_,_=>by simp [Sem.run_pure]
 | [],_::_,h,_=>by simp at h
 | _::_,[],h,_=>by simp at h
 | x::l,y::r,hl,h=>by
   have h0:=h 0 x y rfl rfl
   have h1:=run_mapM_ok P w f l r (by simpa using hl) (fun i r' v' hr hv=>h (i+1) r' v' (by simpa using hr) (by simpa using hv))
   simp [List.mapM_cons,Sem.run_bind,Sem.run_pure,h0,h1,Result.andThen]
def placeS (fs:List (Nat×Nat×Bool)) (i:Nat):Option (Nat×Nat):=match fs[i]? with|some (o,n,_)=>some (o,n)|none=>none
theorem oq_build {a0:Bool} {s0:Nat} {z0 r l:List Value} {fs:List (Nat×Nat×Bool)} {parts:List (Nat×Operand)} {vs:List (Nat×Value)} (ht:tyAt c.tys t=some ⟨a0,s0,z0,.struct fs⟩) (hp:evp F parts=some vs)
   (hf:fillL (placeS fs) z0 vs=some l) (hn:Norm l r):OQ c ⟨d,.build t ⟨parts⟩,ty,pos,af,g⟩ F H (.agg ⟨r⟩):=.of fun D a w ha _=>by
 have h:=(c.ty ht).kind
 obtain ⟨ds,h1,hl,h2⟩:=h
 obtain ⟨zz,h3,h4⟩:=(c.ty ht).zero w
 have h5:=ha.evp hp
 have h6:=fill_of _ _ _ _ hf
 have hm:(ds.toList.mapM fun f=>(do pure (f.offset,← sizeOf f.type):Sem (Nat×Nat))).run c.P w=.ok (fs.map fun p=>(p.1,p.2.1)) w:=by
   refine run_mapM_ok c.P w _ _ _ (by simp [hl]) (fun i x y hx hy=>?_)
   simp only [List.getElem?_map,Option.map_eq_some_iff] at hy
   obtain ⟨⟨o,n,gg⟩,hy,rfl⟩:=hy
   obtain ⟨dd,k1,k2,k3,_⟩:=h2 i o n gg hy
   obtain rfl:dd=x:=by simpa [k1] using hx
   simp [Sem.run_bind,Sem.run_pure,k3,k2,Result.andThen]
 have hpl:(fun i=>((fs.map fun p=>(p.1,p.2.1)).toArray)[i]?)=placeS fs:=by
   funext i
   simp only [placeS,List.getElem?_toArray,List.getElem?_map]
   cases fs[i]?<;>rfl
 have hq:=h5
 simp only [execOp,Instr.build,Sem.run_bind,Sem.run_pure,h3,h1 w,Result.andThen,Array.mapM_eq_mapM_toList,map_eq_pure_bind,hm]
 have h7:(Array.map (fun x=>(x.fst,a x.snd)) (⟨parts⟩:Array (Nat×Operand))).toList=vs:=by simpa using h5
 rw [h4]
 simp only [h7,hpl,h6,Sem.run_pure,Result.andThen,hn.eq]
theorem oq_call {f:Operand} {args:Array Operand} {T:Array TypeId} {k:Nat} {fst cap vs:List Value} (hf:ev F f=some (.func (.func k) ⟨fst⟩ ⟨cap⟩)) (hc:∀ (a:Array Value) (w:World),(callFunc k a).run c.P w=.ok (.enter k a) w)
   (ha:evs F args.toList=some vs) (h:∀ D w,Has c.w0 ⟨c.M,D⟩ H w→Calls c.P k ⟨fst++vs++cap⟩ w fun e w'=>e=.returned v∧Ext w w'):OQ c ⟨d,.call ⟨.value f,args,T⟩,ty,pos,af,g⟩ F H v:=by
 intro D a w hA hw
 have h1:=hA.evs ha
 have h2:args.map a.eval=vs.toArray:=by rw [← h1];cases args;simp
 have:(execOp a.eval ⟨d,.call ⟨.value f,args,T⟩,ty,pos,af,g⟩).run c.P w=.ok (.enter k ⟨fst++vs++cap⟩) w:=by
   simp [execOp,resolve,invoke,hA.ev hf,Deferred.ofValue,Sem.run_bind,Sem.run_pure,h2,Result.andThen,hc]
 rw [this]
 exact (h D w hw).mono fun e w' he=>⟨v,he.1,rfl,he.2⟩
def cmpV (op:BinOp) (k:IntKind) (m n:Int):Option (Value×Prop):=
 match op with
 | .lss=>some (.bool (decide (m<n)),True)
 | .leq=>some (.bool (decide (m≤n)),True)
 | .gtr=>some (.bool (decide (n<m)),True)
 | .geq=>some (.bool (decide (n≤m)),True)
 | .eql=>some (.bool (decide (m=n)),True)
 | .neq=>some (.bool (!decide (m=n)),True)
 | .add=>match k with|.i64=>some (.int .i64 (m+n),InR (m+n))|_=>none
 | .sub=>match k with|.i64=>some (.int .i64 (m-n),InR (m-n))|_=>none
 | .mul=>match k with|.i64=>some (.int .i64 (m*n),InR (m*n))|_=>none
 | .quo=>match k with|.i64=>some (.int .i64 (m.tdiv n),n≠0∧InR (m.tdiv n))|_=>none
 | .rem=>match k with|.i64=>some (.int .i64 (m.tmod n),n≠0)|_=>none
 | _=>none
def builtinV (tys:List (Nat×TyI)) (F:Fr) (b:Builtin) (args:List Operand) (T:List TypeId):Option (Value×Prop):=
 match b,args with
 | .len,[x]=>match T with
   | [t]=>match tyAt tys t with
     | some ⟨_,_,_,.slice _⟩=>match ev F x with
       | some (.slice _ k _)=>some (.int .i64 (k:Int),True)
       | _=>none
     | _=>none
   | _=>none
 | .max,[x,y]=>match ev F x,ev F y with|some (.int .i64 m),some (.int .i64 n)=>some (.int .i64 (max m n),True)|_,_=>none
 | .min,[x,y]=>match ev F x,ev F y with|some (.int .i64 m),some (.int .i64 n)=>some (.int .i64 (min m n),True)|_,_=>none
 | .max,[x,y,z]=>match ev F x,ev F y,ev F z with|some (.int .i64 m),some (.int .i64 n),some (.int .i64 k)=>some (.int .i64 (max (max m n) k),True)|_,_,_=>none
 | .min,[x,y,z]=>match ev F x,ev F y,ev F z with|some (.int .i64 m),some (.int .i64 n),some (.int .i64 k)=>some (.int .i64 (min (min m n) k),True)|_,_,_=>none
 | _,_=>none
def opV (tys:List (Nat×TyI)) (F:Fr) (o:Op):Option (Value×Prop):=
 match o with
 | .move x=>match ev F x with|some v=>some (v,True)|none=>none
 | .assign x=>match ev F x with|some v=>some (v,True)|none=>none
 | .pick z x y=>match ev F z with
   | some (.bool true)=>match ev F x with|some v=>some (v,True)|none=>none
   | some (.bool false)=>match ev F y with|some v=>some (v,True)|none=>none
   | _=>none
 | .binOp op _ x y _=>match ev F x,ev F y with
   | some (.int k m),some (.int k' n)=>match decEq k' k with|.isTrue _=>cmpV op k m n|.isFalse _=>none
   | _,_=>none
 | .unOp .neg _ x=>match ev F x with|some (.int .i64 m)=>some (.int .i64 (-m),InR (-m))|_=>none
 | .unOp .not _ x=>match ev F x with|some (.bool b)=>some (.bool (!b),True)|_=>none
 | .extract x i=>match ev F x with|some (.tuple vs)=>(match vs[i]? with|some v=>some (v,True)|none=>none)|_=>none
 | .nilCheck x=>match ev F x with|some (.pointer (some p))=>some (.pointer (some p),True)|_=>none
 | .fieldAddr t x f=>match tyAt tys t with
   | some ⟨_,_,_,.struct fs⟩=>match fs[f]? with
     | some (off,k,_)=>match h:Nat.beq k 0 with
       | false=>match ev F x with|some (.pointer (some ⟨b,o,none⟩))=>some (.pointer (some ⟨b,o+off,none⟩),True)|_=>none
       | true=>none
     | none=>none
   | _=>none
 | .field t x f=>match tyAt tys t with
   | some ⟨_,_,_,.struct fs⟩=>match fs[f]? with
     | some (off,_,false)=>match ev F x with|some (.agg cs)=>(match cs[off]? with|some v=>some (v,True)|none=>none)|_=>none
     | _=>none
   | _=>none
 | .indexAddr t x y=>match tyAt tys t with
   | some ⟨_,_,_,.slice e⟩=>match tyAt tys e with
     | some ⟨_,s,_,_⟩=>match ev F x,ev F y with
       | some (.slice (some ⟨b,o,none⟩) k _),some (.int .i64 i)=>some (.pointer (some ⟨b,o+i.toNat*s,none⟩),0≤i∧i<k)
       | _,_=>none
     | none=>none
   | some ⟨_,_,_,.array k e⟩=>match tyAt tys e with
     | some ⟨_,s,_,_⟩=>match ev F x,ev F y with
       | some (.pointer (some ⟨b,o,none⟩)),some (.int .i64 i)=>some (.pointer (some ⟨b,o+i.toNat*s,none⟩),0≤i∧i<k)
       | _,_=>none
     | none=>none
   | _=>none
 | .index t x y=>match tyAt tys t with
   | some ⟨_,_,_,.array k e⟩=>match tyAt tys e with
     | some ⟨false,s,_,_⟩=>match ev F x,ev F y with
       | some (.agg cs),some (.int .i64 i)=>(match cs[i.toNat*s]? with|some v=>some (v,0≤i∧i<k)|none=>none)
       | _,_=>none
     | _=>none
   | _=>none
 | .makeFunc fn ⟨[]⟩ cap=>match evs F cap.toList with|some vs=>some (.func fn #[] ⟨vs⟩,True)|none=>none
 | .convert t t' x=>match tyAt tys t,tyAt tys t' with
   | some ⟨_,_,_,.int k⟩,some ⟨_,_,_,.int .i64⟩=>match ev F x with
     | some (.int k' m)=>(match decEq k' k with|.isTrue _=>some (.int .i64 m,InR m)|.isFalse _=>none)
     | _=>none
   | _,_=>none
 | .call ⟨.builtin b,⟨args⟩,⟨T⟩⟩=>builtinV tys F b args T
 | _=>none
theorem oq_cmp {op:BinOp} {k:IntKind} {C:Prop} (hx:ev F x=some (.int k m)) (hy:ev F y=some (.int k n)) (h:cmpV op k m n=some (v,C)) (hC:C):OQ c ⟨d,.binOp op t x y t',ty,pos,af,g⟩ F H v:=by
 unfold cmpV at h
 cases op<;>simp only at h<;>first
   | (cases h;done)
   | (cases h;first
     | exact oq_lss ‹_› ‹_›
     | exact oq_leq ‹_› ‹_›
     | exact oq_gtr ‹_› ‹_›
     | exact oq_geq ‹_› ‹_›
     | exact oq_eql ‹_› ‹_›
     | exact oq_neq ‹_› ‹_›)
   | (cases k<;>simp only at h<;>first
     | (cases h;done)
     | (cases h;first
       | exact oq_add ‹_› ‹_› hC
       | exact oq_sub ‹_› ‹_› hC
       | exact oq_mul ‹_› ‹_› hC
       | exact oq_quo ‹_› ‹_› hC.1 hC.2
       | exact oq_rem ‹_› ‹_› hC))
theorem oq_builtin {b:Builtin} {args:List Operand} {T:List TypeId} {C:Prop} (h:builtinV c.tys F b args T=some (v,C)) (hC:C):OQ c ⟨d,.call ⟨.builtin b,⟨args⟩,⟨T⟩⟩,ty,pos,af,g⟩ F H v:=by
 unfold builtinV at h
 split at h
 all_goals (repeat' split at h)
 all_goals first
   | (cases h;done)
   | (cases h;first
     | exact oq_len ‹_› ‹_›
     | exact oq_max2 ‹_› ‹_›
     | exact oq_min2 ‹_› ‹_›
     | exact oq_max3 ‹_› ‹_› ‹_›
     | exact oq_min3 ‹_› ‹_› ‹_›)
set_option maxHeartbeats 4000000 in
theorem oq_fn {o:Oper} {C:Prop} (h:opV c.tys F o.op=some (v,C)) (hC:C):OQ c o F H v:=by
 obtain ⟨d,op,ty,pos,af,g⟩:=o
 simp only at h
 unfold opV at h
 split at h
 all_goals (repeat' split at h)
 all_goals first
   | (cases h;done)
   | exact oq_builtin h hC
   | (subst_vars;first
     | exact oq_cmp ‹_› ‹_› h hC
     | (cases h;first
       | exact oq_move ‹_›
       | exact oq_assign ‹_›
       | exact oq_pickT ‹_› ‹_›
       | exact oq_pickF ‹_› ‹_›
       | exact oq_neg ‹_› hC
       | exact oq_not ‹_›
       | exact oq_extract ‹_› ‹_›
       | exact oq_nilCheck ‹_›
       | exact oq_fieldAddr ‹_› ‹_› ‹_› ‹_›
       | exact oq_field ‹_› ‹_› ‹_› ‹_›
       | exact oq_indexAddr ‹_› ‹_› ‹_› ‹_› hC.1 hC.2
       | exact oq_indexAddrA ‹_› ‹_› ‹_› ‹_› hC.1 hC.2
       | exact oq_index ‹_› ‹_› ‹_› ‹_› ‹_› hC.1 hC.2
       | exact oq_makeFunc ‹_›
       | exact oq_conv64 ‹_› ‹_› ‹_› hC))
theorem oq_id {o:Oper} (h:OQ c o F H v):OQ c o F H v:=h
theorem rd_id {p:Addr} (h:Rd c H p v):Rd c H p v:=h
end
theorem Has.perm {w0:World} {M:Ms} {H H':Hp} {w:World} (h:Has w0 M H w) (p:H.Perm H'):Has w0 M H' w:=
 ⟨h.ext,fun x hx=>h.blk x (p.mem_iff.2 hx),(p.map _).nodup_iff.1 h.nodup,h.marks⟩
theorem Has.fresh {w0:World} {M:Ms} {H:Hp} {w w':World} (h:Has w0 M H w) (e:Ext w w') {b:Nat} {C:List Value} {g:Tg} (hb:w.heap.size≤b) (k:Blk w' b C g):Has w0 M ((b,C,g)::H) w':=by
 have h':=h.grow e
 refine ⟨h'.ext,fun x hx=>?_,?_,h'.marks⟩
 · rcases List.mem_cons.1 hx with rfl|hx
   · exact ⟨.inl (Nat.le_trans h.ext.size hb),k⟩
   · exact h'.blk x hx
 · rw [List.map_cons,List.nodup_cons]
   refine ⟨fun hm=>?_,h.nodup⟩
   obtain ⟨x,hx,hx2⟩:=List.mem_map.1 hm
   have:=(h.blk x hx).2.lt
   simp only at hx2
   omega
theorem mark_ne {w:World} {b k:Nat} {C:List Value} {g:Tg} (h:Blk w b C g) (hk:w.heap[k]?=some (.deferred (some []))) (e:k=b):False:=by
 subst e
 rcases h with ⟨c,t,h1,_⟩|⟨_,t,L,_,es,ck,h1,_⟩
 · rw [h1] at hk;cases hk
 · rw [h1] at hk;cases hk
theorem Has.wrote {w0:World} {M:Ms} {H:Hp} {w w':World} {b:Nat} {C C':List Value} {g g':Tg} (h:Has w0 M ((b,C,g)::H) w) (e:ExtM [b] w w') (k:Blk w' b C' g'):Has w0 M ((b,C',g')::H) w':=by
 have hb:=(h.blk _ (List.mem_cons_self ..)).1
 refine ⟨⟨e.os.trans h.ext.os,e.tape.trans h.ext.tape,e.output.trans h.ext.output,Nat.le_trans h.ext.size e.size,fun i hi hm=>?_⟩,fun x hx=>?_,h.nodup,h.marks.1,fun k hk=>⟨(h.marks.2 k hk).1,(e.block k (mark_lt (h.marks.2 k hk).2) (fun hm=>mark_ne (h.blk _ (List.mem_cons_self ..)).2 (h.marks.2 k hk).2 (by simpa using hm))).trans (h.marks.2 k hk).2⟩⟩
 · rw [e.block i (Nat.lt_of_lt_of_le hi h.ext.size) (fun hmem=>?_),h.ext.block i hi hm]
   obtain rfl:i=b:=by simpa using hmem
   rcases hb with hb|hb
   · exact absurd hi (by simp only at hb;omega)
   · exact hm hb
 · rcases List.mem_cons.1 hx with rfl|hx'
   · exact ⟨hb,k⟩
   · have hx:=List.mem_cons_of_mem (b,C,g) hx'
     refine ⟨(h.blk x hx).1,(h.blk x hx).2.same (e.block _ (h.blk x hx).2.lt fun hmem=>?_)⟩
     have hne:=(List.nodup_cons.1 h.nodup).1
     obtain hxb:x.1=b:=by simpa using hmem
     exact hne (List.mem_map.2 ⟨x,hx',hxb⟩)
theorem Blk.row (w:World) (C:List Value) (t s n:Nat) (hs:C.length=n*s) (hn:n≤maxLen):Blk (w.alloc (.cells C.toArray t)) w.heap.size C (some (t,s,n)):=
 .inl ⟨C.toArray,t,heap_alloc_new w _,fun o v h=>by simpa using h,rfl,by simpa using hs,hn⟩
theorem Blk.set {w:World} {b:Nat} {C:List Value} {g:Tg} (h:Blk w b C g) (o:Nat) (v:Value) (ho:o<C.length):Blk (w.setCell ⟨b,o,none⟩ v) b (C.set o v) g:=by
 obtain ⟨c,t,h1,h2,h3⟩|⟨rfl,_⟩:=h
 rotate_left
 · simp at ho
 refine .inl ⟨c.setIfInBounds o v,t,?_,fun i u hi=>?_,?_⟩
 · simp [World.setCell,Array.getElem?_modify,h1]
 · rw [Array.getElem?_setIfInBounds]
   rw [List.getElem?_set] at hi
   split
   · rename_i hoi
     subst hoi
     rw [if_pos rfl,if_pos ho] at hi
     have:=h2 o C[o] (by simp [ho])
     have hlt2:=(Array.getElem?_eq_some_iff.1 this).1
     rw [if_pos hlt2];exact hi
   · rename_i hoi
     rw [if_neg hoi] at hi
     exact h2 i u hi
 · cases g with
   | none=>trivial
   | some g=>
     obtain ⟨e,s,cap⟩:=g
     simpa [TgOk] using h3
theorem ExtM.setCell (w:World) (b o:Nat) (v:Value):ExtM [b] w (w.setCell ⟨b,o,none⟩ v):=
 ⟨rfl,rfl,rfl,by simp [World.setCell],fun i hi hm=>Below.heap_setCell w _ v i (fun e=>hm (by rw [e];simp))⟩
theorem run_store (P:Program) (w:World) (p:Addr) (v u:Value) (hv:v.oneCell'=true) (hc:w.cell? p=some u) (hf:w.frozen? p=false):(Go.store p v).run P w=.ok () (w.setCell p v):=by
 cases v<;>first|(simp [Go.store,Sem.run,hc,hf];done)|(simp [Value.oneCell'] at hv)
theorem run_storeCells (P:Program) (b o:Nat):∀ (l:List Value) (i:Nat) (w:World) (C:List Value) (g:Tg),Blk w b C g→o+i+l.length≤C.length→(∀ v∈l,v.oneCell'=true) →
   ∃ w',(storeCells ⟨b,o,none⟩ l i).run P w=.ok () w'∧Blk w' b (setL C (o+i) l) g∧ExtM [b] w w'
 | [],i,w,C,g,hb,_,_=>⟨w,by simp [storeCells,Sem.run_pure],hb,ExtM.refl _ _⟩
 | v::l,i,w,C,g,hb,hl,hv=>by
   have hlt:o+i<C.length:=by simp at hl;omega
   have hcell:=hb.cell (o:=o+i) (v:=C[o+i]) (by simp [hlt])
   have h1:=run_store P w ⟨b,o+i,none⟩ v _ (hv v (List.mem_cons_self ..)) hcell (hb.free _)
   obtain ⟨w',h2,h3,h4⟩:=run_storeCells P b o l (i+1) (w.setCell ⟨b,o+i,none⟩ v) (C.set (o+i) v) g (hb.set _ _ hlt) (by simp at hl ⊢;omega) (fun u hu=>hv u (List.mem_cons_of_mem _ hu))
   refine ⟨w',?_,by simpa [setL,Nat.add_assoc] using h3,(ExtM.setCell ..).trans h4⟩
   unfold storeCells
   rw [add_eq,run_bind' P _ _ w () _ h1]
   exact h2
def OS (c:Cx) (o:Oper) (F:Fr) (H:Hp) (K:Value→Hp→Prop):Prop:=
 ∀ D a w,Frm D c.N F a→Has c.w0 ⟨c.M,D⟩ H w→givesUpon c.P (fun u w'=>∃ H',K u H'∧Has c.w0 ⟨c.M,D⟩ H' w') ((execOp a.eval o).run c.P w)
section
variable {c:Cx} {F:Fr} {H H':Hp} {K:Value→Hp→Prop} {d:Option Tmp} {ty:TypeId} {pos:String} {af:Array Edge} {g:Option (Nat×Bool)} {t t':TypeId} {x y z:Operand} {v u:Value} {m n:Int} {a0:Bool} {s0:Nat} {z0:List Value} {k0:TyK} {b o:Nat} {C C':List Value} {tg:Tg}
def OX (c:Cx) (o:Oper) (F:Fr) (H:Hp) (K:Value→Hp→Prop):Prop:=
 ∀ D a w,Frm D c.N F a→Has c.w0 ⟨c.M,D⟩ H w→givesUpon c.P (fun u w'=>(∃ H',K u H'∧Has c.w0 ⟨c.M,D⟩ H' w')∧Ext w w') ((execOp a.eval o).run c.P w)
theorem givesUpon.mono {P:Program} {R R':Value→World→Prop} (hr:∀ v w,R v w→R' v w) {r:Result Next} (h:givesUpon P R r):givesUpon P R' r:=by
 cases r with
 | ok n w'=>
   cases n<;>simp only [givesUpon] at h ⊢<;>first
     | exact hr _ _ h
     | exact h.mono fun e w2 ⟨u,he,hu⟩=>⟨u,he,hr _ _ hu⟩
     | exact h.mono fun u w2 hu=>hr _ _ hu
 | halt h0 w'=>cases h0<;>exact h.elim
theorem OS.ofX {o:Oper} (h:OX c o F H K):OS c o F H K:=fun D a w ha hw=>givesUpon.mono (fun _ _ h=>h.1) (h D a w ha hw)
theorem run_new (P:Program) (w:World) (C:Array Value) (e:TypeId):(newRow e C).run P w=.ok ⟨w.heap.size,0,none⟩ (w.alloc (.cells C e)):=by
 simp [newRow,newObj,Sem.run_bind,Sem.run_pure,Result.andThen]
 rfl
theorem ox_alloc (ht:tyAt c.tys t=some ⟨a0,s0,z0,k0⟩) (k:∀ b,K (.pointer (some ⟨b,0,none⟩)) ((b,z0,some (t,s0,1))::H)):OX c ⟨d,.alloc t,ty,pos,af,g⟩ F H K:=by
 intro D a w ha hw
 obtain ⟨zz,h1,h2⟩:=(c.ty ht).zero w
 have:(execOp a.eval ⟨d,.alloc t,ty,pos,af,g⟩).run c.P w=.ok (.value (.pointer (some ⟨w.heap.size,0,none⟩))) (w.alloc (.cells z0.toArray t)):=by
   simp [execOp,Instr.alloc,newVar,Sem.run_bind,Sem.run_pure,h1,Result.andThen,h2,run_new]
 rw [this]
 exact ⟨⟨_,k w.heap.size,hw.fresh ((Ext.refl w).alloc _) (Nat.le_refl _) (Blk.row w z0 t s0 1 (by have:=(c.ty ht).zlen;simpa using this) (by unfold maxLen;omega))⟩,(Ext.refl w).alloc _⟩
theorem ox_box (hx:ev F x=some v) (hv:v.oneCell'=true) (k:∀ b,K (.pointer (some ⟨b,0,none⟩)) ((b,[v],some (t,1,1))::H)):OX c ⟨d,.box t x,ty,pos,af,g⟩ F H K:=by
 intro D a w ha hw
 have hc:v.cells = #[v]:=by cases v<;>first|rfl|(simp [Value.oneCell'] at hv)
 have:(execOp a.eval ⟨d,.box t x,ty,pos,af,g⟩).run c.P w=.ok (.value (.pointer (some ⟨w.heap.size,0,none⟩))) (w.alloc (.cells [v].toArray t)):=by
   simp [execOp,Instr.box,newVar,Sem.run_bind,Sem.run_pure,ha.ev hx,hc,Result.andThen,run_new]
 rw [this]
 exact ⟨⟨_,k w.heap.size,hw.fresh ((Ext.refl w).alloc _) (Nat.le_refl _) (Blk.row w [v] t 1 1 rfl (by unfold maxLen;omega))⟩,(Ext.refl w).alloc _⟩
theorem ox_boxAgg {l:List Value} (hx:ev F x=some (.agg ⟨l⟩)) (k:∀ b,K (.pointer (some ⟨b,0,none⟩)) ((b,l,some (t,l.length,1))::H)):OX c ⟨d,.box t x,ty,pos,af,g⟩ F H K:=by
 intro D a w ha hw
 have:(execOp a.eval ⟨d,.box t x,ty,pos,af,g⟩).run c.P w=.ok (.value (.pointer (some ⟨w.heap.size,0,none⟩))) (w.alloc (.cells l.toArray t)):=by
   simp [execOp,Instr.box,newVar,Sem.run_bind,Sem.run_pure,ha.ev hx,Value.cells,Result.andThen,run_new]
 rw [this]
 exact ⟨⟨_,k w.heap.size,hw.fresh ((Ext.refl w).alloc _) (Nat.le_refl _) (Blk.row w l t l.length 1 (by omega) (by unfold maxLen;omega))⟩,(Ext.refl w).alloc _⟩
theorem store_gen {vs:List Value} (ht:tyAt c.tys t=some ⟨a0,s0,z0,k0⟩) (hx:ev F x=some (.pointer (some ⟨b,o,none⟩))) (hy:ev F y=some v) (hv:v.cells=vs.toArray) (hl:vs.length=s0) (h1:∀ u∈vs,u.oneCell'=true)
   (hp:Pick H b C tg H') (ho:o+s0≤C.length) (k:K undef ((b,setL C o vs,tg)::H')):OS c ⟨d,.store t x y,ty,pos,af,g⟩ F H K:=by
 intro D a w ha hw
 have hw':=hw.perm hp.perm
 have hb:=(hw'.blk _ (List.mem_cons_self ..)).2
 obtain ⟨w',h2,h3,h4⟩:=run_storeCells c.P b o vs 0 w C tg hb (by rw [hl];omega) h1
 have h5:=(c.ty ht).size w
 have hsz:v.cells.size=s0:=by rw [hv];simpa using hl
 have:(execOp a.eval ⟨d,.store t x y,ty,pos,af,g⟩).run c.P w=.ok .skip w':=by
   simp only [execOp,Instr.storeAt,Instr.sureAddr,storeVar,ha.ev hx,ha.ev hy,Sem.run_bind,Sem.run_pure,Result.andThen,h5,hsz]
   simp [Sem.run_bind,Sem.run_pure,Result.andThen,h2,hv]
 rw [this]
 exact ⟨_,k,hw'.wrote h4 h3⟩
theorem os_store (ht:tyAt c.tys t=some ⟨a0,1,z0,k0⟩) (hx:ev F x=some (.pointer (some ⟨b,o,none⟩))) (hy:ev F y=some v) (hv:v.oneCell'=true)
   (hp:Pick H b C tg H') (ho:o+1≤C.length) (hC:Norm (C.set o v) C') (k:K undef ((b,C',tg)::H')):OS c ⟨d,.store t x y,ty,pos,af,g⟩ F H K:=
 store_gen (vs:=[v]) ht hx hy (by cases v<;>first|rfl|(simp [Value.oneCell'] at hv)) rfl (by simpa using hv) hp ho (by rw [← hC.eq] at k;exact k)
theorem os_storeAgg {l:List Value} (ht:tyAt c.tys t=some ⟨a0,s0,z0,k0⟩) (hx:ev F x=some (.pointer (some ⟨b,o,none⟩))) (hy:ev F y=some (.agg ⟨l⟩)) (hl:l.length=s0) (h1:(l.all fun u=>u.oneCell')=true)
   (hp:Pick H b C tg H') (ho:o+s0≤C.length) (hC:Norm (setL C o l) C') (k:K undef ((b,C',tg)::H')):OS c ⟨d,.store t x y,ty,pos,af,g⟩ F H K:=
 store_gen (vs:=l) ht hx hy rfl hl (by simpa using h1) hp ho (by rw [← hC.eq] at k;exact k)
theorem ox_buildSlice {a1:Bool} {s1 e len:Nat} {z1 l r:List Value} {k1:TyK} {parts:List (Nat×Operand)} {vs:List (Nat×Value)} (ht:tyAt c.tys t=some ⟨a0,s0,z0,.slice e⟩) (he:tyAt c.tys e=some ⟨a1,s1,z1,k1⟩) (hp:evp F parts=some vs)
   (hf:fillL (fun i=>some (i*s1,s1)) ((List.range (len*s1)).map fun j=>z1.toArray[j % z1.toArray.size]!) vs=some l) (hn:Norm l r) (hb:Nat.ble (len*s1) 1000000=true) (hs:Nat.beq r.length (len*s1)=true) (hs1:Nat.ble 1 s1=true)
   (k:∀ b,K (.slice (some ⟨b,0,none⟩) len len) ((b,r,some (e,s1,len))::H)):OX c ⟨d,.buildSlice t len ⟨parts⟩,ty,pos,af,g⟩ F H K:=by
 intro D a w ha hw
 have h1:=(c.ty ht).kind w
 have h2:=(c.ty he).size w
 obtain ⟨zz,h3,h4⟩:=(c.ty he).zero w
 have hE:Ev F a.eval:=fun x v hx=>ha.ev hx
 have h5:=hE.evp hp
 have h6:=fill_of _ _ _ _ hf
 have hlen:=Nat.eq_of_beq_eq_true hs
 have hlt:¬ (len*s1 > 2 ^ 24):=by have:=Nat.le_of_ble_eq_true hb;omega
 have hs1':=Nat.le_of_ble_eq_true hs1
 have h7:(Array.map (fun x=>(x.fst,a.eval x.snd)) (⟨parts⟩:Array (Nat×Operand))).toList=vs:=by simpa using h5
 have hmax:len≤maxLen:=by
   have:=Nat.le_of_ble_eq_true hb
   have h9:len*1≤len*s1:=Nat.mul_le_mul_left _ hs1'
   unfold maxLen;omega
 have:(execOp a.eval ⟨d,.buildSlice t len ⟨parts⟩,ty,pos,af,g⟩).run c.P w=.ok (.value (.slice (some ⟨w.heap.size,0,none⟩) len len)) (w.alloc (.cells r.toArray e)):=by
   simp only [execOp,Instr.buildSlice,Sem.run_bind,Sem.run_pure,h1,h2,Result.andThen]
   rw [if_neg hlt]
   by_cases hz:len*s1=0
   · rw [if_pos hz]
     rw [hz] at h6
     have:(Array.range (len*s1)).map (fun x=>(#[]:Array Value)[x % 0]!)=⟨(List.range 0).map fun j=>z1.toArray[j % z1.toArray.size]!⟩:=by rw [hz];simp
     simp only [Sem.run_bind,Sem.run_pure,Result.andThen,h7,List.size_toArray,List.length_nil]
     rw [this,h6]
     simp only [Sem.run_bind,Sem.run_pure,Result.andThen,run_new,hn.eq]
   · rw [if_neg hz]
     have:(Array.range (len*s1)).map (fun x=>z1.toArray[x % z1.toArray.size]!)=⟨(List.range (len*s1)).map fun j=>z1.toArray[j % z1.toArray.size]!⟩:=by
       rw [← Array.toList_inj];simp
     simp only [Sem.run_bind,Sem.run_pure,Result.andThen,h3,h4,h7]
     rw [this,h6]
     simp only [Sem.run_bind,Sem.run_pure,Result.andThen,run_new,hn.eq]
 rw [this]
 exact ⟨⟨_,k w.heap.size,hw.fresh ((Ext.refl w).alloc _) (Nat.le_refl _) (Blk.row w r e s1 len hlen hmax)⟩,(Ext.refl w).alloc _⟩
structure AppOk (P:Program) (t e size bytes:Nat):Prop where
 und:P.underlying t=some (.slice e)
 info:∃ i z,P.info? e=some i∧i.zero=some z∧i.size=size∧i.bytes=bytes∧z.cells.size=size
 pos:0<size
theorem Has.lost {w0:World} {M:Ms} {H:Hp} {w w':World} {b:Nat} {C:List Value} {g:Tg} (h:Has w0 M ((b,C,g)::H) w) (e:ExtM [b] w w'):Has w0 M H w':=by
 have hb:=(h.blk _ (List.mem_cons_self ..)).1
 refine ⟨⟨e.os.trans h.ext.os,e.tape.trans h.ext.tape,e.output.trans h.ext.output,Nat.le_trans h.ext.size e.size,fun i hi hm=>?_⟩,fun x hx=>?_,(List.nodup_cons.1 h.nodup).2,h.marks.1,fun k hk=>⟨(h.marks.2 k hk).1,(e.block k (mark_lt (h.marks.2 k hk).2) (fun hm=>mark_ne (h.blk _ (List.mem_cons_self ..)).2 (h.marks.2 k hk).2 (by simpa using hm))).trans (h.marks.2 k hk).2⟩⟩
 · rw [e.block i (Nat.lt_of_lt_of_le hi h.ext.size) (fun hmem=>?_),h.ext.block i hi hm]
   obtain rfl:i=b:=by simpa using hmem
   rcases hb with hb|hb
   · exact absurd hi (by simp only at hb;omega)
   · exact hm hb
 · have hx':=List.mem_cons_of_mem (b,C,g) hx
   refine ⟨(h.blk x hx').1,(h.blk x hx').2.same (e.block _ (h.blk x hx').2.lt fun hmem=>?_)⟩
   have hne:=(List.nodup_cons.1 h.nodup).1
   obtain hxb:x.1=b:=by simpa using hmem
   exact hne (List.mem_map.2 ⟨x,hx,hxb⟩)
theorem Has.fresh' {w0:World} {M:Ms} {H:Hp} {w w':World} (h':Has w0 M H w') {n:Nat} (hs:w0.heap.size≤n) (hlt:∀ x∈H,x.1<n) {C:List Value} {g:Tg} (k:Blk w' n C g):Has w0 M ((n,C,g)::H) w':=by
 refine ⟨h'.ext,fun x hx=>?_,?_,h'.marks⟩
 · rcases List.mem_cons.1 hx with rfl|hx
   · exact ⟨.inl hs,k⟩
   · exact h'.blk x hx
 · rw [List.map_cons,List.nodup_cons]
   refine ⟨fun hm=>?_,h'.nodup⟩
   obtain ⟨x,hx,hx2⟩:=List.mem_map.1 hm
   have:=hlt x hx
   simp only at hx2
   omega
theorem own_of_blk {w:World} {g e size n cap:Nat} {C:List Value} (h:Blk w g C (some (e,size,cap))) (hl:C.length=n*size) (hs:0<size):w.ownsRow 0 e size (.slice (some ⟨g,0,none⟩) n cap) n C:=by
 obtain ⟨c,t,h1,h2,rfl,h4,h5⟩|⟨_,t,L,h1,_⟩:=h
 rotate_left
 · simp only [mapTg,Option.some.injEq,Prod.mk.injEq] at h1
   omega
 refine ⟨hl,.inr ⟨g,cap,c,rfl,Nat.zero_le _,h1,?_,h5,h4,?_⟩⟩
 · rcases Nat.eq_zero_or_pos n with h0|h0
   · omega
   · have hlt:C.length-1<C.length:=by have:=Nat.mul_pos h0 hs;omega
     have:=h2 (C.length-1) _ (List.getElem?_eq_getElem hlt)
     have:=(Array.getElem?_eq_some_iff.1 this).1
     rw [h4,hl] at this
     have h9:n*size≤cap*size:=by omega
     exact Nat.le_of_mul_le_mul_right h9 hs
 · apply List.ext_getElem?
   intro i
   rw [List.getElem?_take]
   split
   · rename_i hi
     have hi':i<C.length:=by omega
     rw [List.getElem?_eq_getElem hi']
     have:=h2 i _ (List.getElem?_eq_getElem hi')
     simpa using this
   · rename_i hi
     rw [List.getElem?_eq_none (by omega)]
theorem blk_of_own {w:World} {e size n:Nat} {v:Value} {C:List Value} (h:w.ownsRow 0 e size v n C) (hne:¬ v=.slice none 0 0):∃ g cap,v=.slice (some ⟨g,0,none⟩) n cap∧Blk w g C (some (e,size,cap)):=by
 obtain ⟨hl,h|⟨g,cap,cur,hv,_,h1,h2,h3,h4,h5⟩⟩:=h
 · exact absurd h.1 hne
 · refine ⟨g,cap,hv,.inl ⟨cur,e,h1,fun o v ho=>?_,rfl,h4,h3⟩⟩
   have:(cur.toList.take (n*size))[o]?=some v:=by rw [h5];exact ho
   rw [List.getElem?_take] at this
   split at this
   · simpa using this
   · cases this
theorem append_run {g0:Option (Nat×Bool)} {s x:Operand} {t e size bytes m c2 b2 o2 n:Nat} {a:Act} {w:World} {v:Value} {C news:List Value} (hk:AppOk c.P t e size bytes) (hs:a.eval s=v) (hown:w.ownsRow 0 e size v n C)
   (hx:a.eval x=.slice (some ⟨b2,o2,none⟩) m c2) (hl:news.length=m*size) (hnews:∀ j u,news[j]?=some u→w.cell? ⟨b2,o2+j,none⟩=some u) (h1:∀ u∈news,u.oneCell'=true) (hm:0<m) (hb:(n+m)*bytes≤140737488355328) (hmax:n+m≤9223372036854775807) :
   ∃ g cap w',(execOp a.eval ⟨d,.call ⟨.builtin .append,#[s,x],#[t,t]⟩,ty,pos,af,g0⟩).run c.P w=.ok (.value (.slice (some ⟨g,0,none⟩) (n+m) cap)) w'∧Blk w' g (C++news) (some (e,size,cap))∧w.grownBy w' v.ownBlock∧(some g=v.ownBlock∨g=w.heap.size):=by
 obtain ⟨i,z,k1,k2,k3,k4,k5⟩:=hk.info
 obtain ⟨v',w',r1,r2,r3,r4,r5⟩:=run_append_own_at (P:=c.P) w 0 t ty e i z size bytes hk.und k1 k2 k3 k4 k5 hk.pos v n C hown ⟨b2,o2,none⟩ m c2 news hl (fun j u hj=>by rw [add_eq];exact hnews j u hj) h1 (by unfold maxLen;omega) hb (Nat.zero_le _)
 obtain ⟨g,cap,rfl,r6⟩:=blk_of_own r2 (fun e=>by have:=(r4.1 e).2;omega)
 refine ⟨g,cap,w',?_,r6,r3,?_⟩
 · simp [execOp,resolve,invoke,builtin,Sem.run_bind,Sem.run_pure,Result.andThen,hs,hx,r1]
 · rcases r5 with r5|r5
   · exact .inl r5
   · exact .inr (Option.some.inj r5)
theorem ExtM.of_grown {w w':World} {row:Option Nat} (h:w.grownBy w' row) {b:Nat} (hr:∀ k,row=some k→k=b):ExtM [b] w w':=
 ⟨h.os,h.tape,h.output,h.size,fun i hi hm=>h.block i hi fun e=>hm (by rw [hr i e.symm];simp)⟩
theorem Ext.of_grown {w w':World} (h:w.grownBy w' none):Ext w w':=⟨h.os,h.tape,h.output,h.size,fun i hi=>h.block i hi (fun e=>by cases e)⟩
theorem os_append {s x:Operand} {t e size bytes m c2 b2 o2 n cap gb:Nat} {news:List Value} (hk:AppOk c.P t e size bytes) (hs:ev F s=some (.slice (some ⟨gb,0,none⟩) n cap)) (hx:ev F x=some (.slice (some ⟨b2,o2,none⟩) m c2))
   (hp:Pick H gb C (some (e,size,cap)) H') (hr:Rdn c H b2 o2 (m*size) news) (hC:C.length=n*size) (h1:(news.all fun u=>u.oneCell')=true) (hm:0<m) (hb:(n+m)*bytes≤140737488355328) (hmax:n+m≤9223372036854775807)
   (k:∀ b cap',K (.slice (some ⟨b,0,none⟩) (n+m) cap') ((b,C++news,some (e,size,cap'))::H')):OS c ⟨d,.call ⟨.builtin .append,#[s,x],#[t,t]⟩,ty,pos,af,g⟩ F H K:=by
 intro D a w ha hw
 have hw':=hw.perm hp.perm
 obtain ⟨hr1,hr2⟩:=hr.spec
 obtain ⟨g',cap',w',r1,r2,r3,r4⟩:=append_run (d:=d) (ty:=ty) (pos:=pos) (af:=af) (g0:=g) hk (ha.ev hs) (own_of_blk (hw'.blk _ (List.mem_cons_self ..)).2 hC hk.pos) (ha.ev hx) hr2 (fun j u hj=>Rds.at_ hw news o2 hr1 j u hj) (by simpa using h1) hm hb hmax
 rw [r1]
 have he:ExtM [gb] w w':=ExtM.of_grown r3 (fun k e=>by simpa [Value.ownBlock] using e.symm)
 refine ⟨_,k g' cap',?_⟩
 rcases r4 with r4|r4
 · obtain rfl:g'=gb:=by simpa [Value.ownBlock] using r4
   exact hw'.wrote he r2
 · subst r4
   exact (hw'.lost he).fresh' (w:=w) hw.ext.size (fun y hy=>(hw'.blk y (List.mem_cons_of_mem _ hy)).2.lt) r2
theorem os_appendNil {s x:Operand} {t e size bytes m c2 b2 o2:Nat} {news:List Value} (hk:AppOk c.P t e size bytes) (hs:ev F s=some (.slice none 0 0)) (hx:ev F x=some (.slice (some ⟨b2,o2,none⟩) m c2))
   (hr:Rdn c H b2 o2 (m*size) news) (h1:(news.all fun u=>u.oneCell')=true) (hm:0<m) (hb:(0+m)*bytes≤140737488355328) (hmax:0+m≤9223372036854775807)
   (k:∀ b cap',K (.slice (some ⟨b,0,none⟩) (0+m) cap') ((b,news,some (e,size,cap'))::H)):OS c ⟨d,.call ⟨.builtin .append,#[s,x],#[t,t]⟩,ty,pos,af,g⟩ F H K:=by
 intro D a w ha hw
 obtain ⟨hr1,hr2⟩:=hr.spec
 obtain ⟨g',cap',w',r1,r2,r3,r4⟩:=append_run (d:=d) (ty:=ty) (pos:=pos) (af:=af) (g0:=g) hk (ha.ev hs) (World.ownsRow_nil w 0 e size) (ha.ev hx) hr2 (fun j u hj=>Rds.at_ hw news o2 hr1 j u hj) (by simpa using h1) hm hb hmax
 rw [r1]
 refine ⟨_,k g' cap',?_⟩
 rcases r4 with r4|r4
 · simp [Value.ownBlock] at r4
 · subst r4
   exact hw.fresh (Ext.of_grown r3) (Nat.le_refl _) r2
theorem os_call {f:Operand} {args:Array Operand} {T:Array TypeId} {k:Nat} {fst cap vs:List Value} (hf:ev F f=some (.func (.func k) ⟨fst⟩ ⟨cap⟩)) (hc:∀ (a:Array Value) (w:World),(callFunc k a).run c.P w=.ok (.enter k a) w)
   (ha:evs F args.toList=some vs) (h:∀ D w,Has c.w0 ⟨c.M,D⟩ H w→Calls c.P k ⟨fst++vs++cap⟩ w fun e w'=>∃ v H',e=.returned v∧K v H'∧Has c.w0 ⟨c.M,D⟩ H' w'):OS c ⟨d,.call ⟨.value f,args,T⟩,ty,pos,af,g⟩ F H K:=by
 intro D a w hA hw
 have h1:=hA.evs ha
 have h2:args.map a.eval=vs.toArray:=by rw [← h1];cases args;simp
 have:(execOp a.eval ⟨d,.call ⟨.value f,args,T⟩,ty,pos,af,g⟩).run c.P w=.ok (.enter k ⟨fst++vs++cap⟩) w:=by
   simp [execOp,resolve,invoke,hA.ev hf,Deferred.ofValue,Sem.run_bind,Sem.run_pure,h2,Result.andThen,hc]
 rw [this]
 exact (h D w hw).mono fun e w' ⟨v,H',h1,h2,h3⟩=>⟨v,h1,H',h2,h3⟩
end
theorem rowsIn_of {n:Nat} {P:Program} {row:String} {args:Array Value} {w:World} {R:Value→World→Prop} (h:Rows P row args w R):RowsIn Fence.wide n P row args w R:=
 fun c cs _=>let ⟨v,w',r,s⟩:=h c cs;⟨v,w',r,stepsIn_wide.2 s⟩
theorem wpIn_of_wp {l n:Nat} {P:Program} {o:Oper} {a:Act} {w:World} {K:Act→World→Prop} {Q:Exit→Act→World→Prop} (hd:∀ c,o.op≠.defer c) (h:o.wp P a w K QF) :
   o.wpIn (Fence.wide.inRound l) n P a w K Q:=by
 unfold Oper.wpIn
 refine ⟨fun _ _=>trivial,?_⟩
 rw [Fence.inRound_round,Oper.semAt_some l _ _ hd]
 unfold Oper.wp at h
 generalize (execOp a.eval o).run P w=r at *
 cases r with
 | ok nx w'=>
   cases nx<;>simp only [Oper.upon] at h<;>simp only [Oper.uponIn]
   case value u=>exact h
   case skip=>exact h
   case defer d=>exact h
   case enter f args=>
     refine ⟨fun h0=>by simp [Fence.wide] at h0,CallsIn.inRound l (callsIn_wide.2 (Calls.mono h fun e w'' he=>?_))⟩
     cases e with
     | returned u=>exact he
     | panicked c=>exact he.elim
     | outgrown=>obtain ⟨_,_,h⟩:=he;exact h.elim
   case row row args=>exact ⟨fun h0=>by simp [Fence.wide] at h0,rowsIn_of h⟩
 | halt x w'=>cases x<;>simp only [Oper.upon] at h<;>exact h.elim
def noDefer (ops:Array Oper):Bool:=ops.all fun o=>match o.op with|.defer _=>false|_=>true
theorem noDefer_spec {ops:Array Oper} (h:noDefer ops=true) {i:Nat} {o:Oper} (ho:ops[i]?=some o):∀ c,o.op≠.defer c:=by
 intro c hc
 obtain ⟨hi,rfl⟩:=Array.getElem?_eq_some_iff.1 ho
 have:=Array.all_eq_true.1 h i hi
 rw [hc] at this
 cases this
section
variable {P:Program} {ops:Array Oper}
theorem wpOpIn_of {l n i:Nat} {a:Act} {w:World} {K:Act→World→Prop} {Q:Exit→Act→World→Prop} (hd:noDefer ops=true) (hh:wpOp P ops QF i K a w):wpOpIn (Fence.wide.inRound l) n P ops Q i K a w:=by
 unfold wpOp at hh
 unfold wpOpIn
 split
 · rename_i ho;simp only [ho] at hh;exact hh
 · rename_i o ho
   simp only [ho] at hh
   split
   · rename_i hw
     simp only [hw,if_true] at hh
     rcases hh with h|⟨_,_,_,h⟩
     · exact wpIn_of_wp (noDefer_spec hd ho) h
     · exact h.elim
   · rename_i hw;simp only [hw] at hh;exact ⟨fun _ _=>trivial,hh⟩
end
section
variable {P:Program} {ops:Array Oper}
def Up (I:World→Prop):Prop:=∀ w w',I w→Ext w w'→I w'
def GQI (P:Program) (o:Oper) (a:Act) (I:World→Prop) (v:Value):Prop:=∀ w,I w→givesUpon P (fun u w'=>u=v∧Ext w w') ((execOp a.eval o).run P w)
def YGI (P:Program) (ops:Array Oper) (I:World→Prop) (o:Oper) (v:Value) (a:Act):Prop:=
 (Region.wanted o (yielded ops a.tmps)=true∧GQI P o a I v)∨(Region.wanted o (yielded ops a.tmps)=false∧v=undef)
theorem YGI.of_same {I:World→Prop} {o:Oper} {v:Value} {a a':Act} (hy:YGI P ops I o v a) (he:execOp a'.eval o=execOp a.eval o)
   (hw:Region.wanted o (yielded ops a'.tmps)=Region.wanted o (yielded ops a.tmps)):YGI P ops I o v a':=by
 unfold YGI GQI at *
 rw [he,hw]
 exact hy
theorem YGI.wpOp {I:World→Prop} {w:World} {i:Nat} {o:Oper} {v:Value} {a:Act} (hi:ops[i]?=some o) (hy:YGI P ops I o v a) (hW:I w) {K:Act→World→Prop}
   (h:∀ w',Ext w w'→K (a.put o.dst v) w'):wpOp P ops QF i K a w:=by
 unfold Go.wpOp
 simp only [hi]
 rcases hy with ⟨hw,hv⟩|⟨hw,rfl⟩
 · simp only [hw,if_true]
   left
   have h1:=hv w hW
   unfold Oper.wp
   generalize (execOp a.eval o).run P w=r at *
   cases r with
   | ok n w'=>
     cases n<;>simp only [givesUpon] at h1<;>simp only [Oper.upon]
     case value u=>obtain ⟨rfl,h2⟩:=h1;exact h _ h2
     case skip=>obtain ⟨rfl,h2⟩:=h1;exact h _ h2
     case enter f args=>
       refine Calls.mono h1 fun e w'' he=>?_
       obtain ⟨v',rfl,rfl,h2⟩:=he
       exact h _ h2
     case row row args=>exact Rows.mono h1 fun u w'' he=>by obtain ⟨rfl,h2⟩:=he;exact h _ h2
   | halt x w'=>cases x<;>simp only [givesUpon] at h1
 · simp only [hw,Bool.false_eq_true,if_false];exact h _ (Ext.refl _)
def SAnyI (P:Program) (ops:Array Oper) (cov:Array Bool) (I:World→Prop) (Q:Act→World→Prop):Nat→Array Bool→Act→World→Prop
 | 0,listed,a,w=>Region.ready .any ops listed=[]∧Q a w
 | n+1,listed,a,w=>(Region.ready .any ops listed=[]→Q a w) ∧
     ∀ i∈Region.ready .any ops listed,wpOp P ops QF i (fun a' w'=>(cov.getD i false=false→I w→I w')∧∀ w'',Ext w' w''→SAnyI P ops cov I Q n (listed.setIfInBounds i true) a' w'') a w
theorem wpAny_of_SAnyI {cov:Array Bool} {I:World→Prop} {Q:Act→World→Prop} {Q':Exit→Act→World→Prop} (hQ:∀ a w,Q a w→Q' .normal a w) :
   ∀ (n:Nat) (listed:Array Bool) (a:Act) (w:World),SAnyI P ops cov I Q n listed a w→wpAny P .any ops Q' n listed a w
 | 0,_,_,_,h=>⟨h.1,hQ _ _ h.2⟩
 | n+1,_,_,_,h=>⟨fun h0=>hQ _ _ (h.1 h0),fun i hi=>wpOp_of_QF (wpOp_mono (fun _ w' h2=>wpAny_of_SAnyI hQ n _ _ w' (h2.2 w' (Ext.refl _))) (h.2 i hi))⟩
theorem SAnyI_first {cov:Array Bool} {Q:Act→World→Prop} {I:World→Prop} (hU:Up I) {i:Nat} {oi:Oper} {v:Value} (hi:ops[i]?=some oi) (hsel:∀ (j:Nat) (o:Oper) cs b,ops[j]?=some o→o.op≠.select cs b)
   (hcov:covFor ops cov i=true) :
   ∀ (n:Nat) (listed:Array Bool) (a:Act) (w0:World),I w0→Down ops listed →
     (∀ j oj,ops[j]?=some oj→j≠i→listed.getD j true=false→(∀ e∈oj.after,Region.binds .any e=true→e.on≠i)→oi.apart ops oj=true) →
     i∈Region.ready .any ops listed→YGI P ops I oi v a →
     (∀ w,Ext w0 w→SAnyI P ops cov I Q n (listed.setIfInBounds i true) (a.put oi.dst v) w)→∀ w,Ext w0 w→SAnyI P ops cov I Q (n+1) listed a w:=by
 intro n
 induction n with
 | zero=>
   intro listed a w0 hW hd _ hr hy H w hw
   refine ⟨fun h=>(by rw [h] at hr;cases hr),fun j hj=>?_⟩
   by_cases hji:j=i
   · subst hji
     exact hy.wpOp hi (hU _ _ hW hw) fun w' hw'=>⟨fun _ hI=>hU _ _ hI hw',fun w'' hw''=>H _ ((hw.trans hw').trans hw'')⟩
   · have:=ready_mono hj hji
     rw [(H w hw).1] at this
     cases this
 | succ n ih=>
   intro listed a w0 hW hd hfree hr hy H w hw
   refine ⟨fun h=>(by rw [h] at hr;cases hr),fun j hj=>?_⟩
   by_cases hji:j=i
   · subst hji
     exact hy.wpOp hi (hU _ _ hW hw) fun w' hw'=>⟨fun _ hI=>hU _ _ hI hw',fun w'' hw''=>H _ ((hw.trans hw').trans hw'')⟩
   · have h1:=(H w hw).2 j (ready_mono hj hji)
     obtain ⟨hjun,oj,hoj,hall⟩:=mem_ready.1 hj
     have hiun:listed.getD i false=false:=by
       have h0:=(mem_ready.1 hr).1
       rcases Nat.lt_or_ge i listed.size with h'|h'
       · simp [h'] at h0 ⊢;exact h0
       · simp [Array.getElem?_eq_none h'] at h0
     have hnot:∀ e∈oj.after,Region.binds .any e=true→e.on≠i:=fun e he hb heq=>by
       have h1:=hall e he hb
       rw [heq,hiun] at h1
       cases h1
     have hap:=hfree j oj hoj hji hjun hnot
     obtain ⟨_,_,h3⟩:=Oper.apart_spec hap
     have h2:=wpOp_put2 (S:=YGI P ops I oi v) hoj hap (fun cs b=>hsel j oj cs b hoj)
       (fun a u hS=>hS.of_same (execOp_put oi (fun cs b=>hsel i oi cs b hi) a oj.dst u h3) (wanted_put oi a oj.dst u h3)) (fun a d hS=>hS.of_same rfl rfl) hy h1
     have hfree':∀ k ok,ops[k]?=some ok→k≠i→(listed.setIfInBounds j true).getD k true=false →
         (∀ e∈ok.after,Region.binds .any e=true→e.on≠i)→oi.apart ops ok=true:=fun k ok hk hki hun hno=>by
       refine hfree k ok hk hki ?_ hno
       by_cases hjk:j=k
       · subst hjk;exact hjun
       · rw [getD_set_ne true hjk] at hun;exact hun
     have hc:=covFor_spec hcov hd hj hiun
     refine wpOp_mono (fun a' w' h3=>?_) h2
     obtain ⟨hS,hcv,hrest⟩:=h3
     have hww:=hcv hc (hU _ _ hW hw)
     refine ⟨fun _ _=>hww,fun w'' hw''=>ih (listed.setIfInBounds j true) a' w' hww (hd.set hj) hfree' (ready_mono hr (Ne.symm hji)) hS ?_ w'' hw''⟩
     intro w2 hw2
     rw [Array.setIfInBounds_comm _ _ hji]
     exact hrest w2 hw2
def wpGI (P:Program) (ops:Array Oper) (I:World→Prop) (Q:Act→Prop):List Nat→Act→Prop
 | [],a=>Q a
 | i::rest,a=>match ops[i]? with
   | none=>False
   | some o=>if Region.wanted o (yielded ops a.tmps) then ∃ v,GQI P o a I v∧wpGI P ops I Q rest (a.put o.dst v) else wpGI P ops I Q rest (a.put o.dst undef)
theorem wpGI_nil {I:World→Prop} {Q:Act→Prop} {a:Act} (h:Q a):wpGI P ops I Q [] a:=h
theorem wpGI_step {I:World→Prop} {Q:Act→Prop} {a:Act} {i:Nat} {rest:List Nat} {o:Oper} {v:Value} (ho:ops[i]?=some o) (hw:Region.wanted o (yielded ops a.tmps)=true) (h:GQI P o a I v)
   (hn:wpGI P ops I Q rest (a.put o.dst v)):wpGI P ops I Q (i::rest) a:=by
 unfold wpGI
 simp only [ho,hw,if_true]
 exact ⟨v,h,hn⟩
theorem wpGI_skip {I:World→Prop} {Q:Act→Prop} {a:Act} {i:Nat} {rest:List Nat} {o:Oper} {d:Tmp} (ho:ops[i]?=some o) (hw:Region.wanted o (yielded ops a.tmps)=false) (hd:o.dst=some d)
   (hn:wpGI P ops I Q rest (a.put (some d) undef)):wpGI P ops I Q (i::rest) a:=by
 unfold wpGI
 simp only [ho,hw,Bool.false_eq_true,if_false]
 rw [hd];exact hn
theorem SAnyI_lex {cov:Array Bool} {Q:Act→World→Prop} {I:World→Prop} (hU:Up I) (hs:Region.noSelect ops=true) (n:Nat):∀ (l:List Nat) (listed:Array Bool) (a:Act),lexOk ops cov l listed=true→Down ops listed →
   wpGI P ops I (fun a'=>∀ w,I w→SAnyI P ops cov I Q n (listedBy l listed) a' w) l a→∀ w,I w→SAnyI P ops cov I Q (n+l.length) listed a w
 | [],_,_,_,_,h=>h
 | i::l,listed,a,hB,hd,h=>by
   intro w hw0
   simp only [lexOk,Bool.and_eq_true] at hB
   obtain ⟨⟨⟨hr,hf⟩,hc⟩,hB'⟩:=hB
   have hr':i∈Region.ready .any ops listed:=by simpa using hr
   unfold wpGI at h
   cases ho:ops[i]? with
   | none=>simp only [ho] at h
   | some o=>
     simp only [ho] at h
     by_cases hw:Region.wanted o (yielded ops a.tmps)=true
     · simp only [hw,if_true] at h
       obtain ⟨v,hv,hK⟩:=h
       exact SAnyI_first hU ho (Region.noSelect_spec hs) hc (n+l.length) listed a w hw0 hd (Region.free_spec ho hf) hr' (.inl ⟨hw,hv⟩) (fun w' hw'=>SAnyI_lex hU hs n l _ _ hB' (hd.set hr') hK w' (hU _ _ hw0 hw')) w (Ext.refl _)
     · simp only [hw] at h
       exact SAnyI_first hU ho (Region.noSelect_spec hs) hc (n+l.length) listed a w hw0 hd (Region.free_spec ho hf) hr' (.inr ⟨by simpa using hw,rfl⟩) (fun w' hw'=>SAnyI_lex hU hs n l _ _ hB' (hd.set hr') h w' (hU _ _ hw0 hw')) w (Ext.refl _)
theorem wpI_mixed {id:Nat} {I:World→Prop} (hU:Up I) {Q:Exit→Act→World→Prop} {a:Act} {w:World} (hI:I w) (l:List Nat) (n:Nat) (cov:Array Bool) (hm:P.follows .mixedOrders=true)
   (hB:(Region.noSelect ops && (n+l.length == ops.size) && lexOk ops cov l (Array.replicate ops.size false))=true)
   (h:wpGI P ops I (fun a'=>∀ w',I w'→SAnyI P ops cov I (Q .normal) n (listedBy l (Array.replicate ops.size false)) a' w') l a):(Code.region id ops true).wp P Q a w:=by
 simp only [Bool.and_eq_true,beq_iff_eq] at hB
 obtain ⟨⟨hs,hn⟩,hl⟩:=hB
 refine wp_region_any hm (wpAny_of_SAnyI (Q:=Q .normal) (I:=I) (cov:=cov) (fun _ _ h=>h) _ _ _ _ ?_)
 rw [← hn]
 have:=SAnyI_lex (P:=P) (Q:=Q .normal) hU hs n l (Array.replicate ops.size false) a hl (Down.none _) h w.drew (hU _ _ hI (Ext.refl w).drew)
 simpa [hn] using this
theorem wpAnyIn_of_SAnyI {l m:Nat} {cov:Array Bool} {I:World→Prop} {Q:Act→World→Prop} {Q':Exit→Act→World→Prop} (hd:noDefer ops=true) (hQ:∀ a w,Q a w→Q' .normal a w) :
   ∀ (n:Nat) (listed:Array Bool) (a:Act) (w:World),SAnyI P ops cov I Q n listed a w→wpAnyIn (Fence.wide.inRound l) m P .any ops Q' n listed a w
 | 0,_,_,_,h=>⟨h.1,hQ _ _ h.2⟩
 | n+1,_,_,_,h=>⟨fun h0=>hQ _ _ (h.1 h0),fun i hi=>wpOpIn_mono (fun _ w' h2=>wpAnyIn_of_SAnyI hd hQ n _ _ w' (h2.2 w' (Ext.refl _))) (wpOpIn_of hd (h.2 i hi))⟩
theorem wpInI_mixed {r m id:Nat} {I:World→Prop} (hU:Up I) {Q:Exit→Act→World→Prop} {a:Act} {w:World} (hI:I w) (l:List Nat) (n:Nat) (cov:Array Bool) (hm:P.follows .mixedOrders=true)
   (hB:(Region.noSelect ops && (n+l.length == ops.size) && lexOk ops cov l (Array.replicate ops.size false) && noDefer ops)=true)
   (h:wpGI P ops I (fun a'=>∀ w',I w'→SAnyI P ops cov I (Q .normal) n (listedBy l (Array.replicate ops.size false)) a' w') l a):(Code.region id ops true).wpIn (Fence.wide.inRound r) m P Q a w:=by
 simp only [Bool.and_eq_true,beq_iff_eq] at hB
 obtain ⟨⟨⟨hs,hn⟩,hl⟩,hd⟩:=hB
 refine wpIn_region_any hm (wpAnyIn_of_SAnyI (Q:=Q .normal) (I:=I) (cov:=cov) hd (fun _ _ h=>h) _ _ _ _ ?_)
 rw [← hn]
 have:=SAnyI_lex (P:=P) (Q:=Q .normal) hU hs n l (Array.replicate ops.size false) a hl (Down.none _) h w.drew (hU _ _ hI (Ext.refl w).drew)
 simpa [hn] using this
theorem wpGI_mono {I:World→Prop} {Q1 Q2:Act→Prop} (hq:∀ a,Q1 a→Q2 a):∀ (l:List Nat) (a:Act),wpGI P ops I Q1 l a→wpGI P ops I Q2 l a
 | [],a,h=>hq a h
 | i::r,a,h=>by
   unfold wpGI at *
   cases ho:ops[i]? with
   | none=>simp only [ho] at h
   | some o=>
     simp only [ho] at h ⊢
     by_cases hw:Region.wanted o (yielded ops a.tmps)=true
     · simp only [hw,if_true] at h ⊢
       obtain ⟨v,h1,h2⟩:=h
       exact ⟨v,h1,wpGI_mono hq r _ h2⟩
     · simp only [hw] at h ⊢
       exact wpGI_mono hq r _ h
theorem SAnyI_done {cov:Array Bool} {I:World→Prop} {Q:Act→World→Prop} {n:Nat} {listed:Array Bool} {a:Act} {w:World} (hr:Region.ready .any ops listed=[]) (h:Q a w):SAnyI P ops cov I Q n listed a w:=by
 match n with
 | 0=>exact ⟨hr,h⟩
 | n+1=>exact ⟨fun _=>h,fun i hi=>by rw [hr] at hi;cases hi⟩
end
section
variable {P:Program} {ops:Array Oper}
end
def chain (P:Program) (ops:Array Oper) (R:Act→World→Prop):List Nat→Act→World→Prop
 | [],a,w=>R a w
 | i::rest,a,w=>match ops[i]? with
   | none=>chain P ops R rest a w
   | some o=>if Region.wanted o (yielded ops a.tmps) then o.wp P a w (chain P ops R rest) QF else chain P ops R rest (a.put o.dst undef) w
theorem wpOps_of_chain {P:Program} {ops:Array Oper} {R:Act→World→Prop} {Q:Exit→Act→World→Prop} (hQ:∀ a w,R a w→Q .normal a w) :
   ∀ (l:List Nat) (a:Act) (w:World),chain P ops R l a w→wpOps P ops Q l a w
 | [],a,w,h=>hQ a w h
 | i::rest,a,w,h=>by
   unfold chain at h
   unfold wpOps
   cases ho:ops[i]? with
   | none=>simp only [ho] at h ⊢;exact wpOps_of_chain hQ rest a w h
   | some o=>
     simp only [ho] at h ⊢
     split
     · rename_i hw
       simp only [hw,if_true] at h
       exact .inl (wp_of_QF (Oper.wp_mono' (wpOps_of_chain hQ rest) h))
     · rename_i hw
       simp only [hw] at h
       exact wpOps_of_chain hQ rest _ w h
where
 Oper.wp_mono' {o:Oper} {a:Act} {w:World} {K K':Act→World→Prop} (hk:∀ a w,K a w→K' a w) (h:o.wp P a w K QF):o.wp P a w K' QF:=by
   unfold Oper.wp at *
   generalize (execOp a.eval o).run P w=r at *
   cases r with
   | ok n w'=>
     cases n<;>simp only [Oper.upon] at h ⊢<;>first
       | exact hk _ _ h
       | exact h.mono fun e w2 he=>by cases e<;>first|exact hk _ _ he|exact he
       | exact h.mono fun u w2 he=>hk _ _ he
   | halt x w'=>cases x<;>simp only [Oper.upon] at h ⊢<;>exact h
theorem chain_mono {P:Program} {ops:Array Oper} {R R':Act→World→Prop} (hR:∀ a w,R a w→R' a w):∀ (l:List Nat) (a:Act) (w:World),chain P ops R l a w→chain P ops R' l a w
 | [],a,w,h=>hR a w h
 | i::rest,a,w,h=>by
   unfold chain at h ⊢
   cases ho:ops[i]? with
   | none=>simp only [ho] at h ⊢;exact chain_mono hR rest a w h
   | some o=>
     simp only [ho] at h ⊢
     split
     · rename_i hw
       simp only [hw,if_true] at h
       exact wpOps_of_chain.Oper.wp_mono' (chain_mono hR rest) h
     · rename_i hw
       simp only [hw] at h
       exact chain_mono hR rest _ w h
theorem wpOpsIn_of_chain {l m:Nat} {P:Program} {ops:Array Oper} {R:Act→World→Prop} {Q:Exit→Act→World→Prop} (hd:noDefer ops=true) (hQ:∀ a w,R a w→Q .normal a w) :
   ∀ (r:List Nat) (a:Act) (w:World),chain P ops R r a w→wpOpsIn (Fence.wide.inRound l) m P ops Q r a w
 | [],a,w,h=>hQ a w h
 | i::rest,a,w,h=>by
   unfold chain at h
   unfold wpOpsIn
   cases ho:ops[i]? with
   | none=>simp only [ho] at h ⊢;exact wpOpsIn_of_chain hd hQ rest a w h
   | some o=>
     simp only [ho] at h ⊢
     split
     · rename_i hw
       simp only [hw,if_true] at h
       exact wpIn_of_wp (noDefer_spec hd ho) (wpOps_of_chain.Oper.wp_mono' (wpOpsIn_of_chain hd hQ rest) h)
     · rename_i hw
       simp only [hw] at h
       exact ⟨fun _ _=>trivial,wpOpsIn_of_chain hd hQ rest _ w h⟩
structure WS (P:Program) where
 W:Code→(Exit→Act→World→Prop)→Act→World→Prop
 mono:∀ {c:Code} {Q Q':Exit→Act→World→Prop} {a:Act} {w:World},W c Q a w→(∀ e a w,Q e a w→Q' e a w)→W c Q' a w
 skip:∀ {Q:Exit→Act→World→Prop} {a:Act} {w:World},Q .normal a w→W .skip Q a w
 exit:∀ {Q:Exit→Act→World→Prop} {a:Act} {w:World} {id:Nat},Q (.exit id) a w→W (.exit id) Q a w
 ret:∀ {Q:Exit→Act→World→Prop} {a:Act} {w:World},Q .ret a w→W .ret Q a w
 seq:∀ {Q:Exit→Act→World→Prop} {a:Act} {w:World} {x y:Code},W x (Exit.then (W y Q) Q) a w→W (.seq x y) Q a w
 cond:∀ {Q:Exit→Act→World→Prop} {a:Act} {w:World} {c:Operand} {x y:Code} {t:Bool},a.eval c=.bool t→W (if t then x else y) Q a w→W (.cond c x y) Q a w
 block:∀ {Q:Exit→Act→World→Prop} {a:Act} {w:World} {id:Nat} {c:Code},W c (Exit.inBlock id Q) a w→W (.block id c) Q a w
 loop:∀ {Q:Exit→Act→World→Prop} {a:Act} {w:World} {c:Code} (I:Act→World→Prop) (μ:Act→World→Nat),I a w→(∀ a w,I a w→W c (Exit.then (fun a' w'=>I a' w'∧μ a' w'<μ a w) Q) a w)→W (.loop c) Q a w
 region:∀ {Q:Exit→Act→World→Prop} {a:Act} {w:World} {id:Nat} {ops:Array Oper},noDefer ops=true→chain P ops (Q .normal) (List.range ops.size) a w→W (.region id ops false) Q a w
 mixed:∀ {Q:Exit→Act→World→Prop} {a:Act} {w:World} {id:Nat} {ops:Array Oper} {I:World→Prop} (l:List Nat) (n:Nat) (cov:Array Bool),Up I→I w→P.follows .mixedOrders=true →
   (Region.noSelect ops && (n+l.length == ops.size) && lexOk ops cov l (Array.replicate ops.size false) && noDefer ops)=true →
   wpGI P ops I (fun a'=>∀ w',I w'→SAnyI P ops cov I (Q .normal) n (listedBy l (Array.replicate ops.size false)) a' w') l a→W (.region id ops true) Q a w
def WS.own (P:Program):WS P where
 W c Q a w:=c.wp P Q a w
 mono:=wp_mono
 skip:=wp_skip
 exit:=wp_exit
 ret:=wp_ret
 seq:=wp_seq
 cond:=wp_cond
 block:=wp_block
 loop:=wp_loop
 region hd h:=wp_region (wpOps_of_chain (fun _ _ h=>h) _ _ _ h)
 mixed l n cov hU hI hm hB h:=by
   simp only [Bool.and_eq_true] at hB
   exact wpI_mixed hU hI l n cov hm (by simp only [Bool.and_eq_true];exact hB.1) h
def WS.round (P:Program) (l m:Nat):WS P where
 W c Q a w:=c.wpIn (Fence.wide.inRound l) m P Q a w
 mono:=wpIn_mono
 skip:=wpIn_skip
 exit:=wpIn_exit
 ret:=wpIn_ret
 seq:=wpIn_seq
 cond:=wpIn_cond
 block:=wpIn_block
 loop:=wpIn_loop
 region hd h:=wpIn_region (wpOpsIn_of_chain hd (fun _ _ h=>h) _ _ _ h)
 mixed l n cov hU hI hm hB h:=wpInI_mixed hU hI l n cov hm hB h
abbrev QS:=Exit→Fr→Hp→Prop
def cv (c:Cx) (Q:QS):Exit→Act→World→Prop:=fun e a w=>∃ D F H,Q e F H∧Frm D c.N F a∧Has c.w0 ⟨c.M,D⟩ H w
def T (c:Cx) (S:WS c.P) (k:Code) (Q:QS) (F:Fr) (H:Hp):Prop:=∀ D a w,Frm D c.N F a→Has c.w0 ⟨c.M,D⟩ H w→S.W k (cv c Q) a w
def thenQ (K:Fr→Hp→Prop) (Q:QS):QS
 | .normal,F,H=>K F H
 | e,F,H=>Q e F H
def blockQ (id:Nat) (Q:QS):QS
 | .exit i,F,H=>match Nat.beq i id with|true=>Q .normal F H|false=>Q (.exit i) F H
 | e,F,H=>Q e F H
section
variable {c:Cx} {S:WS c.P} {Q:QS} {F F':Fr} {H H':Hp} {x y:Code} {K:Fr→Hp→Prop}
theorem cv_then {e:Exit} {a:Act} {w:World} (h:cv c (thenQ K Q) e a w):Exit.then (fun a w=>∃ D F H,K F H∧Frm D c.N F a∧Has c.w0 ⟨c.M,D⟩ H w) (cv c Q) e a w:=by
 obtain ⟨D,F,H,h1,h2,h3⟩:=h
 cases e<;>exact ⟨D,F,H,h1,h2,h3⟩
theorem t_seq (h:T c S x (thenQ (T c S y Q) Q) F H):T c S (.seq x y) Q F H:=fun D a w ha hw=>
 S.seq (S.mono (h D a w ha hw) fun e a w he=>by
   have:=cv_then he
   cases e<;>first
     | exact this
     | (obtain ⟨D,F,H,h1,h2,h3⟩:=this;exact h1 D a w h2 h3))
theorem t_skip (h:Q .normal F H):T c S .skip Q F H:=fun D a w ha hw=>S.skip ⟨D,F,H,h,ha,hw⟩
theorem t_exit {id:Nat} (h:Q (.exit id) F H):T c S (.exit id) Q F H:=fun D a w ha hw=>S.exit ⟨D,F,H,h,ha,hw⟩
theorem t_ret (h:Q .ret F H):T c S .ret Q F H:=fun D a w ha hw=>S.ret ⟨D,F,H,h,ha,hw⟩
theorem t_block {id:Nat} (h:T c S x (blockQ id Q) F H):T c S (.block id x) Q F H:=fun D a w ha hw=>
 S.block (S.mono (h D a w ha hw) fun e a w he=>by
   obtain ⟨D,F,H,h1,h2,h3⟩:=he
   cases e with
   | exit i=>
     simp only [blockQ] at h1
     simp only [Exit.inBlock]
     split at h1
     · rename_i hb
       rw [if_pos (Nat.eq_of_beq_eq_true hb)]
       exact ⟨D,F,H,h1,h2,h3⟩
     · rename_i hb
       rw [if_neg (fun e=>by subst e;simp at hb)]
       exact ⟨D,F,H,h1,h2,h3⟩
   | _=>exact ⟨D,F,H,h1,h2,h3⟩)
theorem t_condT {o:Operand} (ho:ev F o=some (.bool true)) (h:T c S x Q F H):T c S (.cond o x y) Q F H:=fun D a w ha hw=>S.cond (ha.ev ho) (h D a w ha hw)
theorem t_condF {o:Operand} (ho:ev F o=some (.bool false)) (h:T c S y Q F H):T c S (.cond o x y) Q F H:=fun D a w ha hw=>S.cond (ha.ev ho) (h D a w ha hw)
def FrSub (F:Fr):Fr→Prop
 | []=>True
 | (d,v)::G=>look F d=some v∧FrSub F G
theorem FrSub.nil {F:Fr}:FrSub F []:=trivial
theorem FrSub.cons {F G:Fr} {d:Nat} {v:Value} (h:look F d=some v) (k:FrSub F G):FrSub F ((d,v)::G):=⟨h,k⟩
theorem FrSub.consE {F G:Fr} {d:Nat} {v u:Value} (h:look F d=some u) (e:u=v) (k:FrSub F G):FrSub F ((d,v)::G):=⟨e ▸ h,k⟩
theorem FrSub.look {F:Fr}:∀ {G:Fr},FrSub F G→∀ d v,Ytcjkndjjbjoehaa.look G d=some v→Ytcjkndjjbjoehaa.look F d=some v
 | [],_,d,v,hv=>by cases hv
 | (e,u)::G,h,d,v,hv=>by
   simp only [Ytcjkndjjbjoehaa.look] at hv
   split at hv
   · rename_i hb
     obtain rfl:=Nat.eq_of_beq_eq_true hb
     obtain rfl:=Option.some.inj hv
     exact h.1
   · exact h.2.look d v hv
theorem Frm.sub {D:List Nat} {N:Nat} {a:Act} (h:Frm D N F a) (k:FrSub F F'):Frm D N F' a:=⟨h.size,h.defers,fun d v hv=>h.at_ d v (k.look d v hv)⟩
inductive HpSub:Hp→Hp→Prop
 | nil {H:Hp}:HpSub H []
 | cons {H H' G:Hp} {b:Nat} {C:List Value} {g:Tg} (h:Pick H b C g H') (k:HpSub H' G):HpSub H ((b,C,g)::G)
theorem HpSub.consE {H H' G:Hp} {b:Nat} {C C':List Value} {g:Tg} (h:Pick H b C g H') (e:C=C') (k:HpSub H' G):HpSub H ((b,C',g)::G):=e ▸ .cons h k
theorem Has.sub {w0:World} {M:Ms} {w:World} (k:HpSub H H') (h:Has w0 M H w):Has w0 M H' w:=by
 have key:∀ {H G:Hp},HpSub H G→∃ R,H.Perm (G++R):=by
   intro H G k
   induction k with
   | nil=>exact ⟨_,List.Perm.refl _⟩
   | cons p _ ih=>
     obtain ⟨R,ih⟩:=ih
     exact ⟨R,p.perm.trans (List.Perm.cons _ ih)⟩
 obtain ⟨R,hp⟩:=key k
 have h':=h.perm hp
 refine ⟨h'.ext,fun x hx=>h'.blk x (List.mem_append_left _ hx),?_,h'.marks⟩
 have:=h'.nodup
 rw [List.map_append] at this
 exact (List.nodup_append.1 this).1
theorem t_loop {ι:Type} (fr:ι→Fr) (hp:ι→Hp) (Pi:ι→Prop) (μ:ι→Nat) (i0:ι) (h0:Pi i0) (hF:FrSub F (fr i0)) (hH:HpSub H (hp i0))
    (h:∀ i,Pi i→T c S x (thenQ (fun F' H'=>∃ j,Pi j∧μ j<μ i∧FrSub F' (fr j)∧HpSub H' (hp j)) Q) (fr i) (hp i)):T c S (.loop x) Q F H:=by
  intro D a w ha hw
  let I:Act→World→Nat→Prop:=fun a w n=>∃ D i,Pi i∧μ i=n∧Frm D c.N (fr i) a∧Has c.w0 ⟨c.M,D⟩ (hp i) w
  -- the least measure of an index that fits
  have ex:∀ a w,(∃ n,I a w n)→∃ n,I a w n∧∀ m,I a w m→n≤m:=fun a w ⟨n,hn⟩=>by
    induction n using Nat.strongRecOn with
    | _ n ih=>
      by_cases hs:∃ m,m<n∧I a w m
      · obtain ⟨m,hm,hi⟩:=hs;exact ih m hm hi
      · exact ⟨n,hn,fun m hm=>by rcases Nat.lt_or_ge m n with h|h;exact absurd ⟨m,h,hm⟩ hs;exact h⟩
  let mm:Act→World→Nat:=fun a w=>open Classical in if h:∃ n,I a w n then Classical.choose (ex a w h) else 0
  have hmm:∀ a w n,I a w n→I a w (mm a w)∧mm a w≤n:=fun a w n hn=>by
    have hx:∃ n,I a w n:=⟨n,hn⟩
    have h1:=Classical.choose_spec (ex a w hx)
    have h2:mm a w=Classical.choose (ex a w hx):=dif_pos hx
    rw [h2]
    exact ⟨h1.1,h1.2 n hn⟩
  refine S.loop (fun a w=>∃ n,I a w n) mm ⟨_,D,i0,h0,rfl,ha.sub hF,hw.sub hH⟩ ?_
  intro a w ⟨n,hn⟩
  obtain ⟨⟨D,i,hi,hμ,hfa,hhw⟩,_⟩:=hmm a w n hn
  refine S.mono (h i hi D a w hfa hhw) fun e a' w' he=>?_
  have:=cv_then he
  cases e<;>first
    | exact this
    | (obtain ⟨D',F',H',⟨j,hj,hlt,hF',hH'⟩,h2,h3⟩:=this
       have hI:I a' w' (μ j):=⟨D',j,hj,rfl,h2.sub hF',h3.sub hH'⟩
       exact ⟨⟨_,hI⟩,by have:=(hmm a' w' _ hI).2;omega⟩)
end
inductive KeepF (F:Fr):List Nat→Fr→Prop
 | nil:KeepF F [] []
 | cons {s:Nat} {v:Value} {l:List Nat} {G:Fr} (h:look F s=some v) (k:KeepF F l G):KeepF F (s::l) ((s,v)::G)
 | skip {s:Nat} {l:List Nat} {G:Fr} (k:KeepF F l G):KeepF F (s::l) G
theorem KeepF.sub {F G:Fr} {l:List Nat} (h:KeepF F l G):FrSub F G:=by
 induction h with
 | nil=>exact .nil
 | cons h _ ih=>exact .cons h ih
 | skip _ ih=>exact ih
theorem FrSub.append {F:Fr}:∀ {A B:Fr},FrSub F A→FrSub F B→FrSub F (A++B)
 | [],_,_,h=>h
 | (_,_)::_,_,h,k=>⟨h.1,FrSub.append h.2 k⟩
theorem HpSub.refl:∀ (H:Hp),HpSub H H
 | []=>.nil
 | (b,C,g)::H=>.cons (.head b C g H) (HpSub.refl H)
section
variable {c:Cx} {S:WS c.P} {Q:QS} {F:Fr} {H:Hp} {x:Code}
theorem t_loopK {ι:Type} (keep:List Nat) (ch:ι→Fr) (hc:ι→Hp) (Pi:ι→Prop) (μ:ι→Nat) (i0:ι) {G:Fr} {GH:Hp} (hK:KeepF F keep G) (hF:FrSub F (ch i0)) (hH:HpSub H (hc i0++GH)) (h0:Pi i0)
   (h:∀ i,Pi i→T c S x (thenQ (fun F' H'=>∃ j,Pi j∧μ j<μ i∧FrSub F' (ch j++G)∧HpSub H' (hc j++GH)) Q) (ch i++G) (hc i++GH)):T c S (.loop x) Q F H:=
 t_loop (fun i=>ch i++G) (fun i=>hc i++GH) Pi μ i0 h0 (hF.append hK.sub) hH h
end
/-! A region's operations, one behind the other -/
def TL (c:Cx) (ops:Array Oper) (rest:List Oper) (R:Fr→Hp→Prop) (F:Fr) (H:Hp):Prop:=
 ∀ i,ops.toList.drop i=rest→∀ D a w,Frm D c.N F a→Has c.w0 ⟨c.M,D⟩ H w→chain c.P ops (fun a w=>∃ F H,R F H∧Frm D c.N F a∧Has c.w0 ⟨c.M,D⟩ H w) (List.range' i (ops.size-i)) a w
theorem drop_cons {ops:Array Oper} {i:Nat} {o:Oper} {rest:List Oper} (h:ops.toList.drop i=o::rest):ops[i]?=some o∧ops.toList.drop (i+1)=rest∧List.range' i (ops.size-i)=i::List.range' (i+1) (ops.size-(i+1)):=by
 have hlt:i<ops.toList.length:=by
   rcases Nat.lt_or_ge i ops.toList.length with h1|h1
   · exact h1
   · rw [List.drop_eq_nil_of_le h1] at h;cases h
 have h2:ops.toList[i]?=some o:=by
   have:(ops.toList.drop i)[0]?=some o:=by rw [h];rfl
   simpa using this
 refine ⟨by simpa using h2,?_,?_⟩
 · have:(ops.toList.drop i).drop 1=rest:=by rw [h];rfl
   simpa [List.drop_drop] using this
 · have hs:i<ops.size:=by simpa using hlt
   rw [show ops.size-i=(ops.size-(i+1))+1 by omega,List.range'_succ]
theorem givesUpon_wp {P:Program} {o:Oper} {a:Act} {w:World} {R:Value→World→Prop} {K:Act→World→Prop} (h:givesUpon P R ((execOp a.eval o).run P w)) (k:∀ v w',R v w'→K (a.put o.dst v) w'):o.wp P a w K QF:=by
 unfold Oper.wp
 generalize (execOp a.eval o).run P w=r at *
 cases r with
 | ok n w'=>
   cases n<;>simp only [givesUpon] at h<;>simp only [Oper.upon]<;>first
     | exact k _ _ h
     | exact h.mono fun e w2 ⟨u,he,hu⟩=>by subst he;exact k _ _ hu
     | exact h.mono fun u w2 hu=>k _ _ hu
 | halt x w'=>cases x<;>exact h.elim
section
variable {c:Cx} {S:WS c.P} {Q:QS} {F:Fr} {H:Hp} {ops:Array Oper} {o:Oper} {rest:List Oper} {R:Fr→Hp→Prop} {d:Nat} {v:Value}
theorem t_region {id:Nat} {l:List Oper} (hd:noDefer ⟨l⟩=true) (h:TL c ⟨l⟩ l (fun F H=>Q .normal F H) F H):T c S (.region id ⟨l⟩ false) Q F H:=fun D a w ha hw=>by
 refine S.region hd ?_
 have:=h 0 rfl D a w ha hw
 rw [List.range_eq_range']
 exact chain_mono (fun a w ⟨F,H,h1,h2,h3⟩=>⟨D,F,H,h1,h2,h3⟩) _ _ _ this
theorem tl_nil (h:R F H):TL c ops [] R F H:=fun i hi D a w ha hw=>by
 have:ops.size-i=0:=by
   have:=List.drop_eq_nil_iff.1 hi
   simp at this;omega
 rw [this]
 exact ⟨F,H,h,ha,hw⟩
theorem wanted_none {y:Nat→Option Bool} (h:o.guard=none):Region.wanted o y=true:=by unfold Region.wanted;rw [h]
def gslot (ops:Array Oper) (j:Nat):Option Nat:=(ops[j]?).bind (·.dst)
theorem yielded_at {j s:Nat} {b:Bool} {D:List Nat} {N:Nat} {a:Act} (ha:Frm D N F a) (hs:gslot ops j=some s) (hb:look F s=some (.bool b)):yielded ops a.tmps j=some b:=by
 unfold gslot at hs
 unfold yielded
 rw [hs]
 simp [ha.at_ s _ hb]
theorem wanted_T {j s:Nat} {b:Bool} {D:List Nat} {N:Nat} {a:Act} (ha:Frm D N F a) (hg:o.guard=some (j,b)) (hs:gslot ops j=some s) (hb:look F s=some (.bool b)):Region.wanted o (yielded ops a.tmps)=true:=by
 unfold Region.wanted
 rw [hg]
 simp [yielded_at ha hs hb]
theorem wanted_F {j s:Nat} {b b':Bool} {D:List Nat} {N:Nat} {a:Act} (ha:Frm D N F a) (hg:o.guard=some (j,b)) (hs:gslot ops j=some s) (hb:look F s=some (.bool b')) (hne:(b' == b)=false):Region.wanted o (yielded ops a.tmps)=false:=by
 unfold Region.wanted
 rw [hg]
 simp only [yielded_at ha hs hb]
 cases b<;>cases b'<;>first|rfl|cases hne
def runs (ops:Array Oper) (F:Fr) (o:Oper):Option Bool:=
 match o.guard with
 | none=>some true
 | some (j,want)=>match gslot ops j with
   | none=>none
   | some s=>match look F s with
     | some (.bool b)=>match b,want with
       | true,true=>some true
       | false,false=>some true
       | true,false=>some false
       | false,true=>some false
     | some (.tuple ⟨[]⟩)=>some false
     | _=>none
theorem wanted_U {j s:Nat} {b:Bool} {D:List Nat} {N:Nat} {a:Act} (ha:Frm D N F a) (hg:o.guard=some (j,b)) (hs:gslot ops j=some s) (hb:look F s=some (.tuple ⟨[]⟩)):Region.wanted o (yielded ops a.tmps)=false:=by
 have hy:yielded ops a.tmps j=none:=by
   unfold gslot at hs
   unfold yielded
   rw [hs]
   simp [ha.at_ s _ hb]
 unfold Region.wanted
 rw [hg]
 simp [hy]
theorem runs_spec {D:List Nat} {N:Nat} {a:Act} {r:Bool} (ha:Frm D N F a) (h:runs ops F o=some r):Region.wanted o (yielded ops a.tmps)=r:=by
 unfold runs at h
 split at h
 · rename_i hg
   cases h
   exact wanted_none hg
 · rename_i j want hg
   split at h
   · cases h
   · rename_i s hs
     split at h
     · rename_i b hb
       cases b<;>cases want<;>cases h<;>first
         | exact wanted_T ha hg hs hb
         | exact wanted_F ha hg hs hb rfl
     · rename_i hb
       cases h
       exact wanted_U ha hg hs hb
     · cases h
def isX:Op→Bool
 | .alloc _|.box ..|.buildSlice ..=>true
 | _=>false
def isW:Op→Bool
 | .alloc _|.box ..|.buildSlice ..|.store ..|.makeSlice ..=>true
 | .call ⟨.builtin .append,_,_⟩=>true
 | _=>false
theorem u_q (hr:runs ops F o=some true) (_hw:isW o.op=false) (hd:o.dst=some d) (hN:Nat.blt d c.N=true) (h:OQ c o F H v) (k:TL c ops rest R ((d,v)::F) H):TL c ops (o::rest) R F H:=fun i hi D a w ha hw=>by
 obtain ⟨h1,h2,h3⟩:=drop_cons hi
 rw [h3]
 simp only [chain,h1,runs_spec ha hr,if_true]
 refine givesUpon_wp (h D a w ha hw) fun u w' ⟨hu,hx⟩=>?_
 subst hu
 rw [hd]
 exact k _ h2 _ _ _ (ha.put hN _) (hw.grow hx)
theorem u_s (hr:runs ops F o=some true) (hd:o.dst=some d) (hN:Nat.blt d c.N=true) (h:OS c o F H (fun v H'=>TL c ops rest R ((d,v)::F) H')):TL c ops (o::rest) R F H:=fun i hi D a w ha hw=>by
 obtain ⟨h1,h2,h3⟩:=drop_cons hi
 rw [h3]
 simp only [chain,h1,runs_spec ha hr,if_true]
 refine givesUpon_wp (h D a w ha hw) fun u w' ⟨H',hu,hx⟩=>?_
 rw [hd]
 exact hu _ h2 _ _ _ (ha.put hN _) hx
theorem u_s0 (hr:runs ops F o=some true) (hd:o.dst=none) (h:OS c o F H (fun _ H'=>TL c ops rest R F H')):TL c ops (o::rest) R F H:=fun i hi D a w ha hw=>by
 obtain ⟨h1,h2,h3⟩:=drop_cons hi
 rw [h3]
 simp only [chain,h1,runs_spec ha hr,if_true]
 refine givesUpon_wp (h D a w ha hw) fun u w' ⟨H',hu,hx⟩=>?_
 rw [hd]
 exact hu _ h2 _ _ _ (ha.putNone _) hx
theorem u_skip (hr:runs ops F o=some false) (hd:o.dst=some d) (hN:Nat.blt d c.N=true) (k:TL c ops rest R ((d,undef)::F) H):TL c ops (o::rest) R F H:=fun i hi D a w ha hw=>by
 obtain ⟨h1,h2,h3⟩:=drop_cons hi
 rw [h3]
 simp only [chain,h1,runs_spec ha hr,Bool.false_eq_true,if_false]
 rw [hd]
 exact k _ h2 _ _ _ (ha.put hN _) hw
/-! A region that draws its order: the quiet operations -/
theorem Has.up {w0:World} {M:Ms} {H:Hp}:Up (Has w0 M H):=fun _ _ h e=>h.grow e
def GL (c:Cx) (ops:Array Oper) (rest:List Nat) (R:Fr→Prop) (F:Fr) (H:Hp):Prop:=
 ∀ D a,Frm D c.N F a→wpGI c.P ops (Has c.w0 ⟨c.M,D⟩ H) (fun a'=>∃ F',R F'∧Frm D c.N F' a') rest a
theorem gl_nil {R:Fr→Prop} (h:R F):GL c ops [] R F H:=fun D a ha=>wpGI_nil ⟨F,h,ha⟩
theorem gl_go {i:Nat} {rest:List Nat} {R:Fr→Prop} (ho:ops[i]?=some o) (hw0:∀ D a,Frm D c.N F a→Region.wanted o (yielded ops a.tmps)=true) (hd:o.dst=some d) (hN:Nat.blt d c.N=true) (h:OQ c o F H v) (k:GL c ops rest R ((d,v)::F) H):GL c ops (i::rest) R F H:=fun D a ha=>
 wpGI_step (v:=v) ho (hw0 D a ha) (fun w hw=>h D a w ha hw) (by rw [hd];exact k _ _ (ha.put hN _))
def GX (c:Cx) (ops:Array Oper) (rest:List Oper) (R:Fr→Prop) (F:Fr) (H:Hp):Prop:=
 ∀ l:List Nat,l.map (fun i=>ops[i]?)=rest.map some→GL c ops l R F H
theorem map_cons {l:List Nat} (h:l.map (fun i=>ops[i]?)=(o::rest).map some):∃ i l',l=i::l'∧ops[i]?=some o∧l'.map (fun i=>ops[i]?)=rest.map some:=by
 cases l with
 | nil=>cases h
 | cons i l=>
   rw [List.map_cons,List.map_cons] at h
   injection h with h1 h2
   exact ⟨i,l,rfl,h1,h2⟩
theorem v_nil {R:Fr→Prop} (h:R F):GX c ops [] R F H:=fun l hl=>by
 obtain rfl:l=[]:=by simpa using hl
 exact gl_nil h
theorem v_q {R:Fr→Prop} (hr:runs ops F o=some true) (hd:o.dst=some d) (hN:Nat.blt d c.N=true) (h:OQ c o F H v) (k:GX c ops rest R ((d,v)::F) H):GX c ops (o::rest) R F H:=fun l hl=>by
 obtain ⟨i,l,rfl,h1,h2⟩:=map_cons hl
 exact gl_go h1 (fun D a ha=>runs_spec ha hr) hd hN h (k l h2)
theorem v_skip {R:Fr→Prop} (hr:runs ops F o=some false) (hd:o.dst=some d) (hN:Nat.blt d c.N=true) (k:GX c ops rest R ((d,undef)::F) H):GX c ops (o::rest) R F H:=fun l hl=>by
 obtain ⟨i,l,rfl,h1,h2⟩:=map_cons hl
 exact fun D a ha=>wpGI_skip h1 (runs_spec ha hr) hd (k l h2 _ _ (ha.put hN _))
def nthO:List Oper→Nat→Option Oper
 | [],_=>none
 | o::_,0=>some o
 | _::l,n+1=>nthO l n
theorem nthO_spec {l:List Oper} {i:Nat} {o:Oper} (h:nthO l i=some o):l[i]?=some o:=by
 induction l generalizing i with
 | nil=>cases h
 | cons x l ih=>
   cases i with
   | zero=>simpa [nthO] using h
   | succ i=>simpa using ih h
def pickOps (l:List Oper):List Nat→Option (List Oper)
 | []=>some []
 | i::r=>match nthO l i,pickOps l r with
   | some o,some os=>some (o::os)
   | _,_=>none
theorem pickOps_spec {l:List Oper}:∀ {r:List Nat} {os:List Oper},pickOps l r=some os→r.map (fun i=>(Array.mk l)[i]?)=os.map some
 | [],os,h=>by obtain rfl:=Option.some.inj h;rfl
 | i::r,os,h=>by
   unfold pickOps at h
   split at h
   · rename_i o os' h1 h2
     obtain rfl:=Option.some.inj h
     rw [List.map_cons,List.map_cons,pickOps_spec h2]
     simp [nthO_spec h1]
   · cases h
def AL (c:Cx) (ops:Array Oper) (cov:Array Bool) (H0:Hp) (n:Nat) (listed:Array Bool) (R:Fr→Hp→Prop) (F:Fr) (H:Hp):Prop:=
 ∀ D a w,Frm D c.N F a→Has c.w0 ⟨c.M,D⟩ H w→SAnyI c.P ops cov (Has c.w0 ⟨c.M,D⟩ H0) (fun a w=>∃ D F H,R F H∧Frm D c.N F a∧Has c.w0 ⟨c.M,D⟩ H w) n listed a w
theorem t_mixed {id:Nat} (l:List Nat) (n:Nat) (cov:Array Bool) (hm:c.P.follows .mixedOrders=true) (hB:(Region.noSelect ops && (n+l.length == ops.size) && lexOk ops cov l (Array.replicate ops.size false) && noDefer ops)=true)
   (h:GL c ops l (fun F'=>AL c ops cov H n (listedBy l (Array.replicate ops.size false)) (fun F H=>Q .normal F H) F' H) F H):T c S (.region id ops true) Q F H:=fun D a w ha hw=>by
 refine S.mixed l n cov (Has.up (M:=⟨c.M,D⟩)) hw hm hB (wpGI_mono (fun a' ⟨F',h1,h2⟩ w' hw'=>?_) l a (h D a ha))
 exact h1 D a' w' h2 hw'
theorem al_done {cov:Array Bool} {H0:Hp} {n:Nat} {listed:Array Bool} (hr:Region.ready .any ops listed=[]) (h:R F H):AL c ops cov H0 n listed R F H:=fun D a w ha hw=>SAnyI_done hr ⟨D,F,H,h,ha,hw⟩
theorem t_quiet {id:Nat} (l:List Nat) (hm:c.P.follows .mixedOrders=true)
   (hB:(Region.noSelect ops && (0+l.length == ops.size) && lexOk ops #[] l (Array.replicate ops.size false) && noDefer ops && (Region.ready .any ops (listedBy l (Array.replicate ops.size false))).isEmpty)=true)
   (h:GL c ops l (fun F'=>Q .normal F' H) F H):T c S (.region id ops true) Q F H:=by
 simp only [Bool.and_eq_true] at hB
 refine t_mixed l 0 #[] hm (by simp only [Bool.and_eq_true];exact hB.1) ?_
 have hr:Region.ready .any ops (listedBy l (Array.replicate ops.size false))=[]:=by simpa using hB.2
 intro D a ha
 exact wpGI_mono (fun a' ⟨F',h1,h2⟩=>⟨F',al_done hr h1,h2⟩) l a (h D a ha)
def quietOk (ops:Array Oper):Bool:=
 let l:=List.range' 0 ops.size
 Region.noSelect ops && (0+l.length == ops.size) && lexOk ops #[] l (Array.replicate ops.size false) && noDefer ops && (Region.ready .any ops (listedBy l (Array.replicate ops.size false))).isEmpty && ops.all fun o=>!isW o.op
theorem range_map (l:List Oper):(List.range' 0 (Array.mk l).size).map (fun i=>(Array.mk l)[i]?)=l.map some:=by
 apply List.ext_getElem?
 intro i
 simp only [List.getElem?_map,List.getElem?_range']
 by_cases h:i<l.length
 · simp [h]
 · simp [h]
theorem t_drawn {id:Nat} {l:List Oper} (hm:c.P.follows .mixedOrders=true) (hB:quietOk ⟨l⟩=true) (h:GX c ⟨l⟩ l (fun F'=>Q .normal F' H) F H):T c S (.region id ⟨l⟩ true) Q F H:=
 t_quiet (List.range' 0 (Array.mk l).size) hm (by unfold quietOk at hB;simp only [Bool.and_eq_true] at hB ⊢;exact hB.1) (h _ (range_map l))
theorem t_mix {id:Nat} {l ql:List Oper} (q:List Nat) (n:Nat) (cov:Array Bool) (hm:c.P.follows .mixedOrders=true) (hB:(Region.noSelect ⟨l⟩ && (n+q.length == (Array.mk l).size) && lexOk ⟨l⟩ cov q (Array.replicate (Array.mk l).size false) && noDefer ⟨l⟩)=true) (hq:pickOps l q=some ql)
   (h:GX c ⟨l⟩ ql (fun F'=>AL c ⟨l⟩ cov H n (listedBy q (Array.replicate (Array.mk l).size false)) (fun F H=>Q .normal F H) F' H) F H):T c S (.region id ⟨l⟩ true) Q F H:=
 t_mixed q n cov hm hB (h q (pickOps_spec hq))
def AI (c:Cx) (ops:Array Oper) (cov:Array Bool) (H0:Hp) (n:Nat) (listed:Array Bool) (i:Nat) (R:Fr→Hp→Prop) (F:Fr) (H:Hp):Prop:=
 ∀ D a w,Frm D c.N F a→Has c.w0 ⟨c.M,D⟩ H w→wpOp c.P ops QF i (fun a' w'=>(cov.getD i false=false→Has c.w0 ⟨c.M,D⟩ H0 w→Has c.w0 ⟨c.M,D⟩ H0 w')∧∀ w'',Ext w' w''→SAnyI c.P ops cov (Has c.w0 ⟨c.M,D⟩ H0) (fun a w=>∃ D F H,R F H∧Frm D c.N F a∧Has c.w0 ⟨c.M,D⟩ H w) n (listed.setIfInBounds i true) a' w'') a w
section
variable {cov:Array Bool} {H0:Hp} {n:Nat} {listed:Array Bool}
theorem al_list {rs:List Nat} (hr:Region.ready .any ops listed=rs) (hne:rs≠[]) (h:∀ j∈rs,AI c ops cov H0 n listed j R F H):AL c ops cov H0 (n+1) listed R F H:=fun D a w ha hw=>
 ⟨fun h0=>absurd (hr.symm.trans h0) hne,fun j hj=>h j (hr ▸ hj) D a w ha hw⟩
theorem al_one (i:Nat) (hr:Region.ready .any ops listed=[i]) (h:AI c ops cov H0 n listed i R F H):AL c ops cov H0 (n+1) listed R F H:=
 al_list hr (by simp) fun j hj=>by
   obtain rfl:j=i:=by simpa using hj
   exact h
theorem al_two (i k:Nat) (hr:Region.ready .any ops listed=[i,k]) (h:AI c ops cov H0 n listed i R F H) (h':AI c ops cov H0 n listed k R F H):AL c ops cov H0 (n+1) listed R F H:=
 al_list hr (by simp) fun j hj=>by
   rcases (by simpa using hj:j=i∨j=k) with rfl|rfl
   · exact h
   · exact h'
theorem wpOp_go {P:Program} {i:Nat} {l:List Oper} {a:Act} {w:World} {K:Act→World→Prop} (ho:nthO l i=some o) (hw:Region.wanted o (yielded ⟨l⟩ a.tmps)=true) (h:o.wp P a w K QF):wpOp P ⟨l⟩ QF i K a w:=by
 have ho:(Array.mk l)[i]?=some o:=by simpa using nthO_spec ho
 unfold wpOp
 simp only [ho,hw,if_true]
 exact .inl h
theorem ai_q {i:Nat} {l:List Oper} (ho:nthO l i=some o) (_:isW o.op=false) (hr:runs ⟨l⟩ F o=some true) (hd:o.dst=some d) (hN:Nat.blt d c.N=true)
   (h:OQ c o F H v) (k:AL c ⟨l⟩ cov H0 n (listed.setIfInBounds i true) R ((d,v)::F) H):AI c ⟨l⟩ cov H0 n listed i R F H:=fun D a w ha hw=>by
 refine wpOp_go ho (runs_spec ha hr) (givesUpon_wp (h D a w ha hw) fun u w' ⟨hu,hx⟩=>?_)
 subst hu
 rw [hd]
 exact ⟨fun _ hI=>hI.grow hx,fun w'' hw''=>k _ _ _ (ha.put hN _) ((hw.grow hx).grow hw'')⟩
theorem ai_s {i:Nat} {l:List Oper} (ho:nthO l i=some o) (hr:runs ⟨l⟩ F o=some true) (hd:o.dst=some d) (hN:Nat.blt d c.N=true) (hc:cov.getD i false=true)
   (h:OS c o F H (fun v H'=>AL c ⟨l⟩ cov H0 n (listed.setIfInBounds i true) R ((d,v)::F) H')):AI c ⟨l⟩ cov H0 n listed i R F H:=fun D a w ha hw=>by
 refine wpOp_go ho (runs_spec ha hr) (givesUpon_wp (h D a w ha hw) fun u w' ⟨H',hu,hx⟩=>?_)
 rw [hd]
 exact ⟨fun h=>by rw [hc] at h;(cases h),fun w'' hw''=>hu _ _ _ (ha.put hN _) (hx.grow hw'')⟩
theorem ai_x {i:Nat} {l:List Oper} (ho:nthO l i=some o) (_:isX o.op=true) (hr:runs ⟨l⟩ F o=some true) (hd:o.dst=some d) (hN:Nat.blt d c.N=true)
   (h:OX c o F H (fun v H'=>AL c ⟨l⟩ cov H0 n (listed.setIfInBounds i true) R ((d,v)::F) H')):AI c ⟨l⟩ cov H0 n listed i R F H:=fun D a w ha hw=>by
 refine wpOp_go ho (runs_spec ha hr) (givesUpon_wp (h D a w ha hw) fun u w' ⟨⟨H',hu,hx⟩,he⟩=>?_)
 rw [hd]
 exact ⟨fun _ hI=>hI.grow he,fun w'' hw''=>hu _ _ _ (ha.put hN _) (hx.grow hw'')⟩
theorem ai_s0 {i:Nat} {l:List Oper} (ho:nthO l i=some o) (hr:runs ⟨l⟩ F o=some true) (hd:o.dst=none) (hc:cov.getD i false=true)
   (h:OS c o F H (fun _ H'=>AL c ⟨l⟩ cov H0 n (listed.setIfInBounds i true) R F H')):AI c ⟨l⟩ cov H0 n listed i R F H:=fun D a w ha hw=>by
 refine wpOp_go ho (runs_spec ha hr) (givesUpon_wp (h D a w ha hw) fun u w' ⟨H',hu,hx⟩=>?_)
 rw [hd]
 exact ⟨fun h=>by rw [hc] at h;(cases h),fun w'' hw''=>hu _ _ _ (ha.putNone _) (hx.grow hw'')⟩
theorem ai_n0 {i:Nat} {l:List Oper} (ho:nthO l i=some o) (hr:runs ⟨l⟩ F o=some true) (hd:o.dst=none)
   (h:OS c o F H (fun _ H'=>HpSub H' H0∧AL c ⟨l⟩ cov H0 n (listed.setIfInBounds i true) R F H')):AI c ⟨l⟩ cov H0 n listed i R F H:=fun D a w ha hw=>by
 refine wpOp_go ho (runs_spec ha hr) (givesUpon_wp (h D a w ha hw) fun u w' ⟨H',⟨hs,hu⟩,hx⟩=>?_)
 rw [hd]
 exact ⟨fun _ _=>hx.sub hs,fun w'' hw''=>hu _ _ _ (ha.putNone _) (hx.grow hw'')⟩
theorem al_id (h:AL c ops cov H0 n listed R F H):AL c ops cov H0 n listed R F H:=h
theorem al_keep {G:Hp} (h:HpSub H G) (k:AL c ops cov H0 n listed R F H):HpSub H G∧AL c ops cov H0 n listed R F H:=⟨h,k⟩
theorem ai_id {i:Nat} (h:AI c ops cov H0 n listed i R F H):AI c ops cov H0 n listed i R F H:=h
end
theorem t_cut {ι:Type} {x y:Code} (fr:ι→Fr) (hp:ι→Hp) (Pi:ι→Prop) (h1:T c S x (fun e F' H'=>e=.normal∧∃ i,Pi i∧FrSub F' (fr i)∧HpSub H' (hp i)) F H) (h2:∀ i,Pi i→T c S y Q (fr i) (hp i)):T c S (.seq x y) Q F H:=by
 refine t_seq fun D a w ha hw=>S.mono (h1 D a w ha hw) fun e a' w' he=>?_
 obtain ⟨D',F',H',⟨rfl,i,hi,hF,hH⟩,h3,h4⟩:=he
 exact ⟨D',_,_,h2 i hi,h3.sub hF,h4.sub hH⟩
/-! The end of a function -/
def RV (c:Cx) (F:Fr) (H:Hp) (r:ResultVar) (v:Value):Prop:=
 ∀ D a w,Frm D c.N F a→Has c.w0 ⟨c.M,D⟩ H w→((match r with|.tmp t=>pure (a.tmps.getD t undef)|.cell x t=>do loadVar t (← asAddr (a.tmps.getD x undef)):Sem Value)).run c.P w=.ok v w
theorem rv_tmp {t:Nat} (h:look F t=some v):RV c F H (.tmp t) v:=fun D a w ha hw=>by
 have:=ha.at_ t v h
 simp [Sem.run_pure,Array.getD_eq_getD_getElem?,this]
theorem rv_cell {t s0 x:Nat} {p:Addr} {z0:List Value} {k0:TyK} (ht:tyAt c.tys t=some ⟨false,s0,z0,k0⟩) (h:look F x=some (.pointer (some p))) (hv:Rd c H p v):RV c F H (.cell x t) v:=fun D a w ha hw=>by
 have h0:=ha.at_ x _ h
 have h1:=(c.ty ht).agg w
 have h2:=run_load c.P p w v (hv D w hw)
 simp [Array.getD_eq_getD_getElem?,h0,asAddr,loadVar,Sem.run_bind,Sem.run_pure,h1,h2,Result.andThen]
theorem rv_cellAgg {t k x b o:Nat} {z0:List Value} {k0:TyK} {vs:List Value} (ht:tyAt c.tys t=some ⟨true,k,z0,k0⟩) (h:look F x=some (.pointer (some ⟨b,o,none⟩))) (hr:Rdn c H b o k vs):RV c F H (.cell x t) (.agg ⟨vs⟩):=fun D a w ha hw=>by
 obtain ⟨hv,hl⟩:=hr.spec
 have h0:=ha.at_ x _ h
 have h1:=(c.ty ht).agg w
 have h3:=(c.ty ht).size w
 rw [← hl] at h3
 have h2:=run_loadCells_eq c.P w b o vs (fun j v hj=>Rds.at_ hw vs o hv j v hj)
 simp [Array.getD_eq_getD_getElem?,h0,asAddr,loadVar,Sem.run_bind,Sem.run_pure,h1,h2,h3,Result.andThen]
def RVs (c:Cx) (F:Fr) (H:Hp):List ResultVar→List Value→Prop
 | [],[]=>True
 | r::rs,v::vs=>RV c F H r v∧RVs c F H rs vs
 | _,_=>False
theorem rvs_nil:RVs c F H [] []:=trivial
theorem rvs_cons {r:ResultVar} {rs:List ResultVar} {vs:List Value} (h:RV c F H r v) (k:RVs c F H rs vs):RVs c F H (r::rs) (v::vs):=⟨h,k⟩
def retOf:List Value→Value
 | [v]=>v
 | vs=>.tuple ⟨vs⟩
def endQ (c:Cx) (rs:List ResultVar) (PV:Value→Hp→Prop):QS:=fun e F H=>(e=.normal∨e=.ret)∧∃ vs,RVs c F H rs vs∧PV (retOf vs) H
theorem end_ret {rs:List ResultVar} {vs:List Value} {PV:Value→Hp→Prop} (h:RVs c F H rs vs) (k:PV (retOf vs) H):endQ c rs PV .ret F H:=⟨.inr rfl,vs,h,k⟩
theorem end_normal {rs:List ResultVar} {vs:List Value} {PV:Value→Hp→Prop} (h:RVs c F H rs vs) (k:PV (retOf vs) H):endQ c rs PV .normal F H:=⟨.inl rfl,vs,h,k⟩
theorem run_mapM (P:Program) (w:World) (f:ResultVar→Sem Value):∀ (rs:List ResultVar) (vs:List Value),rs.length=vs.length→(∀ (i:Nat) r v,rs[i]?=some r→vs[i]?=some v→(f r).run P w=.ok v w)→(rs.mapM f).run P w=.ok vs w
 | [],[],_,_=>by simp [Sem.run_pure]
 | [],_::_,h,_=>by simp at h
 | _::_,[],h,_=>by simp at h
 | r::rs,v::vs,hl,h=>by
   have h0:=h 0 r v rfl rfl
   have h1:=run_mapM P w f rs vs (by simpa using hl) (fun i r' v' hr hv=>h (i+1) r' v' (by simpa using hr) (by simpa using hv))
   simp [List.mapM_cons,Sem.run_bind,Sem.run_pure,h0,h1,Result.andThen]
theorem RVs.run {D:List Nat} {a:Act} {w:World} (ha:Frm D c.N F a) (hw:Has c.w0 ⟨c.M,D⟩ H w):∀ {rs:List ResultVar} {vs:List Value},RVs c F H rs vs→rs.length=vs.length∧∀ (i:Nat) r v,rs[i]?=some r→vs[i]?=some v →
   ((match r with|.tmp t=>pure (a.tmps.getD t undef)|.cell x t=>do loadVar t (← asAddr (a.tmps.getD x undef)):Sem Value)).run c.P w=.ok v w
 | [],[],_=>⟨rfl,fun i r v h=>by simp at h⟩
 | [],_::_,h=>h.elim
 | _::_,[],h=>h.elim
 | r::rs,v::vs,h=>by
   have ih:=RVs.run ha hw h.2
   refine ⟨by simpa using ih.1,fun i r' v' hr hv=>?_⟩
   cases i with
   | zero=>
     obtain rfl:r=r':=by simpa using hr
     obtain rfl:v=v':=by simpa using hv
     exact h.1 D a w ha hw
   | succ i=>exact ih.2 i r' v' (by simpa using hr) (by simpa using hv)
theorem results_run {fn:Func} {rs:List ResultVar} {D:List Nat} {a:Act} {w:World} {vs:List Value} (hrs:fn.results=⟨rs⟩) (ha:Frm D c.N F a) (hw:Has c.w0 ⟨c.M,D⟩ H w) (h:RVs c F H rs vs):(results fn a.tmps).run c.P w=.ok (retOf vs) w:=by
 obtain ⟨h1,h2⟩:=RVs.run ha hw h
 have h3:=run_mapM c.P w _ _ _ h1 h2
 unfold results
 rw [Sem.run_bind,hrs,Array.mapM_eq_mapM_toList,map_eq_pure_bind,Sem.run_bind]
 refine (congrArg (fun r=>((Result.andThen r (fun a w'=>Sem.run c.P (pure a.toArray) w')).andThen fun a w'=>Sem.run c.P (pure (if h:a.size=1 then a[0] else Value.tuple a)) w')) h3).trans ?_
 simp only [Result.andThen,Sem.run_pure]
 match vs with
 | []=>rfl
 | [v]=>rfl
 | v::v1::vs=>simp [retOf]
theorem Has.take {w0:World} {M:List Nat} {k:Nat} {D:List Nat} {H:Hp} {w:World} (h:Has w0 ⟨M,k::D⟩ H w):(Instr.takeDeferred k).run c.P w=.ok [] (w.putObj k (.deferred none))∧Has w0 ⟨M,D⟩ H (w.putObj k (.deferred none)):=by
 have hk:=h.marks.2 k (List.mem_cons_self ..)
 have hd:=List.nodup_cons.1 h.marks.1
 refine ⟨run_takeDeferred hk.2,⟨h.ext.os,h.ext.tape,h.ext.output,by simpa using h.ext.size,fun b hb hm=>?_⟩,fun x hx=>⟨(h.blk x hx).1,(h.blk x hx).2.same (World.putObj_heap_other fun e=>?_)⟩,h.nodup,hd.2,fun j hj=>?_⟩
 · rw [World.putObj_heap_other (fun e=>by have:=hk.1;omega)]
   exact h.ext.block b hb hm
 · exact mark_ne (h.blk x hx).2 hk.2 e.symm
 · have hj':=h.marks.2 j (List.mem_cons_of_mem _ hj)
   refine ⟨hj'.1,?_⟩
   rw [World.putObj_heap_other (fun e:j=k=>hd.1 (by rw [← e];exact hj))]
   exact hj'.2
theorem leaves_marks {fn:Func} {R:Ending→World→Prop} {tmps:Array Value} {v:Value} (n:Nat):∀ (D:List Nat) (w:World),Has c.w0 ⟨c.M,D⟩ H w→(∀ w',Has c.w0 ⟨c.M,[]⟩ H w'→(results fn tmps).run c.P w'=.ok v w'∧R (.returned v) w') →
   LeavesInM Fence.wide n c.P fn tmps R (D.map dmark) .returning w
 | [],w,h,hr=>⟨v,hr w h⟩
 | k::D,w,h,hr=>by
   have ht:=Has.take (c:=c) h
   exact ⟨(fun e=>by cases e),.inl ⟨k,_,rfl,ht.1,leaves_marks n D _ ht.2 hr⟩⟩
theorem enter {k:FuncId} {fn:Func} {code:Code} {rs:List ResultVar} {args:List Value} {PV:Value→Hp→Prop} (hf:c.P.funcs[k]?=some fn) (hb:fn.body=some code) (hrs:fn.results=⟨rs⟩) (hN:c.N=args.length+(fn.ntmps-args.length))
   (hF:∀ d v,look F d=some v→args[d]?=some v) (hw:Has c.w0 ⟨c.M,[]⟩ H c.w0)
   (h:T c (WS.own c.P) code (endQ c rs PV) F H):Calls c.P k ⟨args⟩ c.w0 fun e w'=>∃ v H',e=.returned v∧PV v H'∧Has c.w0 ⟨c.M,[]⟩ H' w':=by
 refine (callsIn_wide (n:=0)).1 (callsIn_of_wp_marks hf hb trivial ?_)
 have ha:Frm [] c.N F { tmps:=(⟨args⟩:Array Value)++Array.replicate (fn.ntmps-(⟨args⟩:Array Value).size) undef,defers:=[] }:=by
   refine ⟨by simp [hN],rfl,fun d v hv=>?_⟩
   have:=hF d v hv
   have hlt:d<args.length:=(List.getElem?_eq_some_iff.1 this).1
   rw [Array.getElem?_append_left (by simpa using hlt)]
   simpa using this
 have h0:=h [] _ _ ha hw
 refine wpIn_wide.2 (wp_mono h0 fun e a w' ⟨D,F',H',⟨he,vs,h1,h2⟩,h3,h4⟩=>?_)
 have key:LeavesInM Fence.wide 0 c.P fn a.tmps (fun e w'=>∃ v H',e=.returned v∧PV v H'∧Has c.w0 ⟨c.M,[]⟩ H' w') a.defers .returning w':=by
   rw [h3.defers]
   refine leaves_marks (v:=retOf vs) 0 D w' h4 fun w'' h5=>⟨?_,_,H',rfl,h2,h5⟩
   exact results_run (a:={ a with defers:=[] }) (D:=[]) hrs ⟨h3.size,rfl,h3.at_⟩ h5 h1
 rcases he with rfl|rfl
 · exact key
 · exact key
theorem Has.start (w:World):Has w ⟨[],[]⟩ [] w:=⟨ExtM.refl _ _,fun x hx=>(List.not_mem_nil hx).elim,List.nodup_nil,List.nodup_nil,fun k hk=>(List.not_mem_nil hk).elim⟩
def frOf:Nat→List Value→Fr
 | _,[]=>[]
 | i,v::vs=>(i,v)::frOf (i+1) vs
theorem look_frOf:∀ (vs:List Value) (i d:Nat) (v:Value),look (frOf i vs) d=some v→i≤d∧vs[d-i]?=some v
 | [],i,d,v,h=>by cases h
 | u::vs,i,d,v,h=>by
   by_cases hd:i=d
   · subst hd
     simp only [frOf] at h
     rw [look_cons_self] at h
     exact ⟨Nat.le_refl _,by simpa using h⟩
   · simp only [frOf] at h
     rw [look_cons_ne _ _ hd] at h
     obtain ⟨h1,h2⟩:=look_frOf vs (i+1) d v h
     refine ⟨by omega,?_⟩
     rw [show d-i=(d-(i+1))+1 by omega]
     simpa using h2
theorem enterQ {k:FuncId} {fn:Func} {code:Code} {rs:List ResultVar} {args:List Value} {V:Value} (hf:c.P.funcs[k]?=some fn) (hb:fn.body=some code) (hrs:fn.results=⟨rs⟩) (hN:c.N=args.length+(fn.ntmps-args.length)) (hM:c.M=[])
   (h:T c (WS.own c.P) code (endQ c rs fun v _=>v=V) (frOf 0 args) []):Calls c.P k ⟨args⟩ c.w0 fun e w'=>e=.returned V∧Ext c.w0 w':=
 (enter hf hb hrs hN (fun d v hv=>(look_frOf args 0 d v hv).2) (by rw [hM];exact Has.start _) h).mono fun e w' ⟨v,H',h1,h2,h3⟩=>⟨by rw [h1,h2],by have:=h3.ext;rw [hM] at this;exact this.ext⟩
theorem q_thenN {K:Fr→Hp→Prop} (h:K F H):thenQ K Q .normal F H:=h
theorem q_thenR {K:Fr→Hp→Prop} (h:Q .ret F H):thenQ K Q .ret F H:=h
theorem q_thenE {K:Fr→Hp→Prop} {i:Nat} (h:Q (.exit i) F H):thenQ K Q (.exit i) F H:=h
theorem q_blockN {id:Nat} (h:Q .normal F H):blockQ id Q .normal F H:=h
theorem q_blockR {id:Nat} (h:Q .ret F H):blockQ id Q .ret F H:=h
theorem q_blockE {i id:Nat} (hb:Nat.beq i id=true) (h:Q .normal F H):blockQ id Q (.exit i) F H:=by
 simp only [blockQ,hb];exact h
theorem q_blockO {i id:Nat} (hb:Nat.beq i id=false) (h:Q (.exit i) F H):blockQ id Q (.exit i) F H:=by
 simp only [blockQ,hb];exact h
theorem t_id {k:Code} (h:T c S k Q F H):T c S k Q F H:=h
theorem tl_id {l:List Oper} (h:TL c ops l R F H):TL c ops l R F H:=h
theorem gx_id {l:List Oper} {R:Fr→Prop} (h:GX c ops l R F H):GX c ops l R F H:=h
theorem os_id {K:Value→Hp→Prop} (h:OS c o F H K):OS c o F H K:=h
theorem ox_id {K:Value→Hp→Prop} (h:OX c o F H K):OX c o F H K:=h
theorem os_x {K:Value→Hp→Prop} (_:isX o.op=true) (h:OX c o F H K):OS c o F H K:=.ofX h
end
theorem P0 {b:Nat} {C:List Value} {g:Tg} {H:Hp}:Pick ((b,C,g)::H) b C g H:=.head b C g H
theorem P1 {x:Nat×List Value×Tg} {H H':Hp} {b:Nat} {C:List Value} {g:Tg} (h:Pick H b C g H'):Pick (x::H) b C g (x::H'):=.tail h
def KeepB (Mi:Nat→Prop) (W W':World):Prop:=∀ b,Mi b→W'.heap[b]?=W.heap[b]?
structure Blks (n:Nat) (H:Hp) (W:World):Prop where
 blk:∀ x∈H,n≤x.1∧Blk W x.1 x.2.1 x.2.2
 nodup:(H.map Prod.fst).Nodup
def NoM (H:Hp):Prop:=∀ x∈H,∀ t L,x.2.2≠mapTg t L
theorem NoM.nil:NoM []:=fun x hx=>(List.not_mem_nil hx).elim
theorem NoM.some {b t0 s cap:Nat} {C:List Value} {H:Hp} (h:NoM H) (hs:Nat.beq s 0=false):NoM ((b,C,some (t0,s,cap))::H):=fun x hx t L e=>by
 rcases List.mem_cons.1 hx with rfl|hx
 · simp only [mapTg,Option.some.injEq,Prod.mk.injEq] at e
   rw [e.2.1] at hs
   simp at hs
 · exact h x hx t L e
theorem NoM.app {H G:Hp} (h:NoM H) (k:NoM G):NoM (H++G):=fun x hx=>(List.mem_append.1 hx).elim (h x) (k x)
theorem NoM.cells {H:Hp} (n:NoM H) {x:Nat×List Value×Tg} (hx:x∈H) {W:World} (h:Blk W x.1 x.2.1 x.2.2):∃ c t,W.heap[x.1]?=Option.some (.cells c t (0,0)):=by
 rcases h with ⟨c,t,h,_⟩|⟨_,t,L,e,_⟩
 · exact ⟨c,t,h⟩
 · exact (n x hx t L e).elim
theorem Has.grown {w0:World} {M:Ms} {H:Hp} {W W':World} {row:Option Nat} (nm:NoM H) (h:Has w0 M H W) (hg:W.grownBy W' row) (hr:∀ r,row=some r→w0.heap.size≤r∧r∉M.dk∧∃ o:Obj,W.heap[r]?=some o∧o.isCells=false):Has w0 M H W':=by
 refine ⟨⟨hg.os.trans h.ext.os,hg.tape.trans h.ext.tape,hg.output.trans h.ext.output,Nat.le_trans h.ext.size hg.size,fun b hb hm=>?_⟩,fun x hx=>⟨(h.blk x hx).1,(h.blk x hx).2.same (hg.block _ (h.blk x hx).2.lt fun e=>?_)⟩,h.nodup,h.marks.1,fun k hk=>⟨(h.marks.2 k hk).1,?_⟩⟩
 · rw [hg.block b (Nat.lt_of_lt_of_le hb h.ext.size) (fun e=>by have:=(hr b e.symm).1;omega)]
   exact h.ext.block b hb hm
 · obtain ⟨_,_,o,ho,hc⟩:=hr _ e.symm
   obtain ⟨c,t,h1⟩:=nm.cells hx (h.blk x hx).2
   rw [h1] at ho;cases ho;cases hc
 · rw [hg.block k (mark_lt (h.marks.2 k hk).2) (fun e=>(hr k e.symm).2.1 hk)]
   exact (h.marks.2 k hk).2
theorem Blks.grown {n:Nat} {H:Hp} {W W':World} {row:Option Nat} (nm:NoM H) (h:Blks n H W) (hg:W.grownBy W' row) (hr:∀ r,row=some r→∃ o:Obj,W.heap[r]?=some o∧o.isCells=false):Blks n H W':=
 ⟨fun x hx=>⟨(h.blk x hx).1,(h.blk x hx).2.same (hg.block _ (h.blk x hx).2.lt fun e=>by
   obtain ⟨o,ho,hc⟩:=hr _ e.symm
   obtain ⟨c,t,h1⟩:=nm.cells hx (h.blk x hx).2
   rw [h1] at ho;cases ho;cases hc)⟩,h.nodup⟩
theorem Blk.ne {W:World} {b b' e s c e' s' c':Nat} {C C':List Value} (h:Blk W b C (some (e,s,c))) (h':Blk W b' C' (some (e',s',c'))) (hne:e≠e') (hs:s≠0:=by decide) (hs':s'≠0:=by decide):b≠b':=by
 rintro rfl
 obtain ⟨x,t,h1,_,h2,_⟩|⟨_,t,L,h1,_⟩:=h
 rotate_left
 · simp only [mapTg,Option.some.injEq,Prod.mk.injEq] at h1
   exact (hs h1.2.1).elim
 obtain ⟨x',t',h1',_,h2',_⟩|⟨_,t',L,h1',_⟩:=h'
 rotate_left
 · simp only [mapTg,Option.some.injEq,Prod.mk.injEq] at h1'
   exact (hs' h1'.2.1).elim
 rw [h1] at h1'
 cases h1'
 exact hne (h2.symm.trans h2')
theorem ExtM.keeps {M:List Nat} {W W':World} {n:Nat} (h:ExtM M W W') (hc:∀ b∈M,∃ c t,W.heap[b]?=some (.cells c t (0,0))):KeepsFrom n W W':=
 ⟨h.size,fun k o hk h0 ho=>(h.block k (mark_lt h0) (fun hm=>by obtain ⟨c,t,h1⟩:=hc k hm;rw [h1] at h0;cases h0;cases ho)).trans h0⟩
theorem Has.cells {w0:World} {M:Ms} {H:Hp} {W:World} (h:Has w0 M H W) {b:Nat} (hb:b∈H.map Prod.fst):(∃ c t,W.heap[b]?=some (.cells c t (0,0)))∨∃ es ck,W.heap[b]?=some (.map es ck):=by
 obtain ⟨x,hx,rfl⟩:=List.mem_map.1 hb
 rcases (h.blk x hx).2 with ⟨c,t,h1,_⟩|⟨_,t,L,_,es,ck,h1,_⟩
 · exact .inl ⟨c,t,h1⟩
 · exact .inr ⟨es,ck,h1⟩
theorem Has.comp {w0:World} {M D M':List Nat} {H H':Hp} {W W':World} (h:Has w0 ⟨M,D⟩ H W) (k:Has W ⟨M',[]⟩ H' W') (hM:∀ b∈M',b∈H.map Prod.fst):Has w0 ⟨M,D⟩ H' W':=by
 have own:∀ b∈M',w0.heap.size≤b∨b∈M:=fun b hb=>by
   obtain ⟨x,hx,rfl⟩:=List.mem_map.1 (hM b hb)
   exact (h.blk x hx).1
 refine ⟨⟨k.ext.os.trans h.ext.os,k.ext.tape.trans h.ext.tape,k.ext.output.trans h.ext.output,Nat.le_trans h.ext.size k.ext.size,fun b hb hm=>?_⟩,fun x hx=>⟨?_,(k.blk x hx).2⟩,k.nodup,h.marks.1,fun m hm=>⟨(h.marks.2 m hm).1,?_⟩⟩
 · rw [k.ext.block b (Nat.lt_of_lt_of_le hb h.ext.size) (fun e=>by rcases own b e with h1|h1;omega;exact hm h1)]
   exact h.ext.block b hb hm
 · rcases (k.blk x hx).1 with h1|h1
   · exact .inl (Nat.le_trans h.ext.size h1)
   · exact own _ h1
 · have h1:=(h.marks.2 m hm).2
   rw [k.ext.block m (mark_lt h1) (fun e=>by
     rcases h.cells (hM m e) with ⟨c,t,h2⟩|⟨c,t,h2⟩<;>(rw [h2] at h1;cases h1))]
   exact h1
theorem Has.join {w0:World} {M:Ms} {H B:Hp} {W:World} {n:Nat} (h:Has w0 M H W) (hb:Blks n B W) (hn:w0.heap.size≤n) (hd:∀ x∈B,∀ y∈H,x.1≠y.1):Has w0 M (B++H) W:=by
 refine ⟨h.ext,fun x hx=>?_,?_,h.marks⟩
 · rcases List.mem_append.1 hx with hx|hx
   · exact ⟨.inl (Nat.le_trans hn (hb.blk x hx).1),(hb.blk x hx).2⟩
   · exact h.blk x hx
 · rw [List.map_append,List.nodup_append]
   refine ⟨hb.nodup,h.nodup,fun a ha b hbm=>?_⟩
   obtain ⟨x,hx,rfl⟩:=List.mem_map.1 ha
   obtain ⟨y,hy,rfl⟩:=List.mem_map.1 hbm
   exact hd x hx y hy
def parF:List (Nat×Value)→Fr→Fr
 | [],F=>F
 | (p,v)::l,F=>parF l ((p,v)::F)
theorem Frm.par {D:List Nat} {N:Nat}:∀ (l:List (Nat×Value)) {F:Fr} {tmps:Array Value},(∀ p∈l,Nat.blt p.1 N=true)→Frm D N F ⟨tmps,D.map dmark⟩→Frm [] N (parF l F) ⟨l.foldl (fun t p=>t.setIfInBounds p.1 p.2) tmps,[]⟩
 | [],F,tmps,_,h=>⟨h.size,rfl,h.at_⟩
 | (p,v)::l,F,tmps,hl,h=>by
   have:=h.put (hl (p,v) (List.mem_cons_self ..)) v
   exact Frm.par (D:=D) l (fun q hq=>hl q (List.mem_cons_of_mem _ hq)) this
def QB {α ι κ:Type} (hp:ι→Hp) (Pi:List α→ι→Prop) (hl:κ→Hp) (Pl:Code→List α→κ→Prop) (xs:List α):QS
 | .normal,_,H'=>∃ j,Pi xs j∧HpSub H' (hp j)
 | .ret,_,H'=>∃ j,Pl .ret xs j∧HpSub H' (hl j)
 | .exit id,_,H'=>∃ j,Pl (.exit id) xs j∧HpSub H' (hl j)
 | _,_,_=>False
section
variable {c:Cx} {F:Fr} {H:Hp} {g:Operand} {ps:Array Tmp} {assign body:Code} {α ι κ β:Type} {Q:QS}
def SL0 (c:Cx):Code→(Fr→Hp→Prop)→Fr→Hp→Prop
 | .region _ ops false,R,F,H=>noDefer ops=true∧TL c ops ops.toList R F H
 | .seq x y,R,F,H=>SL0 c x (fun F H=>SL0 c y R F H) F H
 | _,_,_,_=>False
theorem sl0_region {id:Nat} {l:List Oper} {R:Fr→Hp→Prop} (h1:noDefer ⟨l⟩=true) (h2:TL c ⟨l⟩ l R F H):SL0 c (.region id ⟨l⟩ false) R F H:=⟨h1,h2⟩
theorem sl0_seq {x y:Code} {R:Fr→Hp→Prop} (h:SL0 c x (fun F H=>SL0 c y R F H) F H):SL0 c (.seq x y) R F H:=h
theorem SL0.wpIn {l m:Nat}:∀ (k:Code) {R:Fr→Hp→Prop} {F:Fr} {H:Hp},SL0 c k R F H→∀ (D:List Nat) (a:Act) (w:World),Frm D c.N F a→Has c.w0 ⟨c.M,D⟩ H w →
   k.wpIn (Fence.wide.inRound l) m c.P (fun e a' w'=>e=.normal∧∃ F' H',R F' H'∧Frm D c.N F' a'∧Has c.w0 ⟨c.M,D⟩ H' w') a w
 | .region _ ops false,R,F,H,h,D,a,w,ha,hw=>by
   have:=h.2 0 rfl D a w ha hw
   exact wpIn_region (wpOpsIn_of_chain (R:=fun a' W'=>∃ F' H',R F' H'∧Frm D c.N F' a'∧Has c.w0 ⟨c.M,D⟩ H' W') h.1 (fun a' W' he=>⟨rfl,he⟩) _ _ _ (by rw [List.range_eq_range'];exact this))
 | .seq x y,R,F,H,h,D,a,w,ha,hw=>by
   refine wpIn_seq (wpIn_mono (SL0.wpIn x h D a w ha hw) fun e a' w' ⟨he,F',H',h1,h2,h3⟩=>?_)
   subst he
   exact SL0.wpIn y h1 D a' w' h2 h3
 | .region _ _ true,_,_,_,h,_,_,_,_,_=>h.elim
 | .skip,_,_,_,h,_,_,_,_,_=>h.elim
 | .cond _ _ _,_,_,_,h,_,_,_,_,_=>h.elim
 | .block _ _,_,_,_,h,_,_,_,_,_=>h.elim
 | .loop _,_,_,_,h,_,_,_,_,_=>h.elim
 | .rangeFunc _ _ _ _,_,_,_,h,_,_,_,_,_=>h.elim
 | .exit _,_,_,_,h,_,_,_,_,_=>h.elim
 | .scope _,_,_,_,h,_,_,_,_,_=>h.elim
 | .label _,_,_,_,h,_,_,_,_,_=>h.elim
 | .goto _,_,_,_,h,_,_,_,_,_=>h.elim
 | .ret,_,_,_,h,_,_,_,_,_=>h.elim
 | .refuse _,_,_,_,h,_,_,_,_,_=>h.elim
def MiOf (c:Cx) (hk:Hp) (b:Nat):Prop:=(b<c.w0.heap.size∧b∉c.M)∨b∈hk.map Prod.fst
structure RangeOk (c:Cx) (F:Fr) (ns:List Nat) (hk:Hp) (ps:Array Tmp) (assign body:Code) (m:Nat) (encs:α→List Value) (N:Nat)
   (hp:ι→Hp) (Pi:List α→ι→Prop) (bx:α→β→Hp) (fx:α→β→Fr) (hl:κ→Hp) (Pl:Code→List α→κ→Prop):Prop where
 size:∀ x,(encs x).length=ps.size
 slots:(ps.toList.all fun p=>Nat.blt p c.N)=true
 assign_:∀ (x:α) (W:World),SL0 { c with w0:=W,M:=[] } assign (fun F' H'=>∃ bs,FrSub F' (fx x bs)∧HpSub H' (bx x bs)) (parF (ps.toList.zip (encs x)) F) []
 disj:∀ x bs i n W D,Blks n (bx x bs) W→Has c.w0 ⟨c.M,D⟩ (hp i++hk) W→(∀ b∈ns,b<n)→∀ y∈bx x bs,∀ z∈hp i++hk,y.1≠z.1
 body_:∀ (l:Nat) (pre:List α) (x:α) (i:ι) (bs:β) (W:World) (D:List Nat),Pi pre i→Has c.w0 ⟨c.M,D⟩ (bx x bs++hp i++hk) W→pre.length<N→(∃ r,W.heap[l]?=some (.loop r)) →
   T { c with w0:=W,M:=(bx x bs++hp i).map Prod.fst } (WS.round c.P l m) body (QB hp Pi hl Pl (pre++[x])) (fx x bs) (bx x bs++hp i)
 nob:∀ x bs,NoM (bx x bs)
 nop:∀ i,NoM (hp i)
 nok:NoM hk
 nol:∀ j,NoM (hl j)
theorem range_assign {m N:Nat} {ns:List Nat} {hk:Hp} {encs:α→List Value} {hp:ι→Hp} {Pi:List α→ι→Prop} {bx:α→β→Hp} {fx:α→β→Fr} {hl:κ→Hp} {Pl:Code→List α→κ→Prop}
   (R:RangeOk c F ns hk ps assign body m encs N hp Pi bx fx hl Pl) {D:List Nat} {a:Act} (ha:Frm D c.N F a) (l:Nat) (x:α) (W:World) (n0:Nat) (hn0:n0≤W.heap.size) (K:Act→World→Prop)
   (hK:∀ a' W' bs,Ext W W'→Frm [] c.N (fx x bs) a'→Blks n0 (bx x bs) W'→K a' W') :
   assign.wpIn (Fence.wide.inRound l) m c.P (Exit.then K (fun _ _ _=>False)) { tmps:=(ps.zip ⟨encs x⟩).foldl (fun t (p,v)=>t.setIfInBounds p v) a.tmps,defers:=[] } W:=by
 have hF:Frm [] c.N (parF (ps.toList.zip (encs x)) F) { tmps:=(ps.zip ⟨encs x⟩).foldl (fun t (p,v)=>t.setIfInBounds p v) a.tmps,defers:=[] }:=by
   have h1:Frm D c.N F ⟨a.tmps,D.map dmark⟩:=⟨ha.size,rfl,ha.at_⟩
   have:=Frm.par (ps.toList.zip (encs x)) (fun p hp=>by
     have h2:=List.all_eq_true.1 R.slots
     exact h2 p.1 (List.of_mem_zip hp).1) h1
   have e:(ps.zip ⟨encs x⟩).foldl (fun t (p,v)=>t.setIfInBounds p v) a.tmps=(ps.toList.zip (encs x)).foldl (fun t p=>t.setIfInBounds p.1 p.2) a.tmps:=by
     rw [← Array.foldl_toList,Array.toList_zip]
   rw [e];exact this
 have h0:Has W ⟨[],[]⟩ [] W:=Has.start W
 refine wpIn_mono (SL0.wpIn assign (R.assign_ x W) [] _ W hF h0) fun e a' W' he=>?_
 obtain ⟨rfl,F',H',⟨bs,h1,h2⟩,h3,h4⟩:=he
 have h5:=h4.sub h2
 refine hK a' W' bs h4.ext.ext (h3.sub h1) ⟨fun y hy=>⟨?_,(h5.blk y hy).2⟩,h5.nodup⟩
 rcases (h5.blk y hy).1 with h6|h6
 · exact Nat.le_trans hn0 h6
 · exact (List.not_mem_nil h6).elim
theorem Has.comp2 {w0:World} {M D:List Nat} {X hk H':Hp} {W W':World} (h:Has w0 ⟨M,D⟩ (X++hk) W) (k:Has W ⟨X.map Prod.fst,[]⟩ H' W'):Has w0 ⟨M,D⟩ (H'++hk) W':=by
 have h1:=h.comp (H':=H') k (fun b hb=>by rw [List.map_append];exact List.mem_append_left _ hb)
 have hnd:=h.nodup
 rw [List.map_append,List.nodup_append] at hnd
 have kept:∀ x∈hk,x.1∉X.map Prod.fst:=fun x hx hm=>hnd.2.2 _ hm _ (List.mem_map.2 ⟨x,hx,rfl⟩) rfl
 refine ⟨h1.ext,fun x hx=>?_,?_,h1.marks⟩
 · rcases List.mem_append.1 hx with hx|hx
   · exact h1.blk x hx
   · have h2:=h.blk x (List.mem_append_right _ hx)
     exact ⟨h2.1,h2.2.same (k.ext.block _ h2.2.lt (kept x hx))⟩
 · rw [List.map_append,List.nodup_append]
   refine ⟨k.nodup,hnd.2.1,fun a ha b hb=>?_⟩
   obtain ⟨x,hx,rfl⟩:=List.mem_map.1 ha
   obtain ⟨y,hy,rfl⟩:=List.mem_map.1 hb
   intro e
   have h2:=(h.blk y (List.mem_append_right _ hy)).2.lt
   rcases (k.blk x hx).1 with h3|h3
   · omega
   · exact kept y hy (e ▸ h3)
theorem range_body {m N:Nat} {ns:List Nat} {hk:Hp} {encs:α→List Value} {hp:ι→Hp} {Pi:List α→ι→Prop} {bx:α→β→Hp} {fx:α→β→Fr} {hl:κ→Hp} {Pl:Code→List α→κ→Prop}
   (R:RangeOk c F ns hk ps assign body m encs N hp Pi bx fx hl Pl) {D:List Nat} (n0:Nat) (l:Nat) (pre:List α) (x:α) (i:ι) (bs:β) (a':Act) (W:World) (hi:Pi pre i) (hw:Has c.w0 ⟨c.M,D⟩ (bx x bs++hp i++hk) W) (hlen:pre.length<N) (hr:∃ r,W.heap[l]?=some (.loop r)) (hmi:∀ b,MiOf c hk b→b<n0)
   (ha:Frm [] c.N (fx x bs) a') (hn:n0≤W.heap.size) :
   body.wpIn (Fence.wide.inRound l) m c.P (ownPostG n0 (KeepB (MiOf c hk)) (fun xs W'=>∃ j,Pi xs j∧Has c.w0 ⟨c.M,D⟩ (hp j++hk) W'∧n0≤W'.heap.size) (fun k xs W'=>∃ j,Pl k xs j∧Has c.w0 ⟨c.M,D⟩ (hl j++hk) W') (pre++[x]) W) a' W:=by
 have hself:Has W ⟨(bx x bs++hp i).map Prod.fst,[]⟩ (bx x bs++hp i) W:=by
   refine ⟨ExtM.refl _ _,fun y hy=>⟨.inr (List.mem_map.2 ⟨y,hy,rfl⟩),(hw.blk y (List.mem_append_left _ hy)).2⟩,?_,List.nodup_nil,fun k hk=>(List.not_mem_nil hk).elim⟩
   have:=hw.nodup
   rw [List.map_append,List.nodup_append] at this
   exact this.1
 have h:=R.body_ l pre x i bs W D hi hw hlen hr [] a' W ha hself
 refine wpIn_mono h fun e a2 W' he=>?_
 obtain ⟨D',F',H',h1,h2,h3⟩:=he
 have hk0:KeepsFrom n0 W W':=h3.ext.keeps (fun b hb=>by
   obtain ⟨x0,hx0,rfl⟩:=List.mem_map.1 hb
   exact ((R.nob x bs).app (R.nop i)).cells hx0 (hw.blk x0 (List.mem_append_left _ hx0)).2)
 have hB:KeepB (MiOf c hk) W W':=fun b hb=>h3.ext.block b (Nat.lt_of_lt_of_le (hmi b hb) hn) (fun hm=>by
   rcases hb with hb|hb
   · obtain ⟨y,hy,rfl⟩:=List.mem_map.1 hm
     rcases (hw.blk y (List.mem_append_left _ hy)).1 with h4|h4
     · omega
     · exact hb.2 h4
   · have:=hw.nodup
     rw [List.map_append,List.nodup_append] at this
     exact this.2.2 _ hm _ hb rfl)
 have h3':Has W ⟨(bx x bs++hp i).map Prod.fst,[]⟩ H' W':=⟨h3.ext,h3.blk,h3.nodup,List.nodup_nil,fun k hk=>(List.not_mem_nil hk).elim⟩
 cases e with
 | normal=>
   obtain ⟨j,hj,hs⟩:=h1
   exact ⟨hk0,hB,j,hj,hw.comp2 (h3'.sub hs),Nat.le_trans hn h3.ext.size⟩
 | ret=>
   obtain ⟨j,hj,hs⟩:=h1
   exact ⟨hk0,j,hj,hw.comp2 (h3'.sub hs)⟩
 | exit id=>
   obtain ⟨j,hj,hs⟩:=h1
   exact ⟨hk0,j,hj,hw.comp2 (h3'.sub hs)⟩
 | goto _=>exact h1.elim
 | panic _=>exact h1.elim
 | outgrown=>exact h1.elim
theorem mi_lt {hk H X:Hp} {D:List Nat} {w:World} (hw:Has c.w0 ⟨c.M,D⟩ H w) (hH:HpSub H (X++hk)) (b:Nat) (hb:MiOf c hk b):b<w.heap.size:=by
 rcases hb with hb|hb
 · exact Nat.lt_of_lt_of_le hb.1 hw.ext.size
 · obtain ⟨y,hy,rfl⟩:=List.mem_map.1 hb
   exact ((hw.sub hH).blk y (List.mem_append_right _ hy)).2.lt
theorem t_range {N m gf:Nat} {lb:List Value} {encs:α→List Value} {S Sp:List α→Prop} {hk:Hp} (hp:ι→Hp) (Pi:List α→ι→Prop) (bx:α→β→Hp) (fx:α→β→Fr) (hl:κ→Hp) (Pl:Code→List α→κ→Prop) (i0:ι)
   (hev:ev F g=some (.func (.func gf) #[] ⟨lb⟩)) (eg:∀ (args:Array Value) (w:World),(callFunc gf args).run c.P w=.ok (.enter gf args) w)
   (hseq:∀ D w,Has c.w0 ⟨c.M,D⟩ H w→SeqStopsK Fence.wide (m+1) c.P gf ⟨lb⟩ (fun x=>⟨encs x⟩) (KeepB (MiOf c hk)) S Sp N w)
   (h0:Pi [] i0) (hH:HpSub H (hp i0++hk)) (R:RangeOk c F (H.map Prod.fst) hk ps assign body m encs N hp Pi bx fx hl Pl)
   (hdone:∀ xs i,S xs→Pi xs i→Q .normal F (hp i++hk)) (hstop:∀ k pre j,Sp pre→Pl k pre j→T c (WS.own c.P) k Q F (hl j++hk)):T c (WS.own c.P) (.rangeFunc g ps assign body) Q F H:=by
 intro D a w ha hw
 refine (wpIn_wide (n:=m+2)).1 ?_
 have hD:∀ k∈D,k<w.heap.size:=fun k hk=>mark_lt (hw.marks.2 k hk).2
 have stab:∀ (X:Hp) (A B:World) (row:Option Nat),NoM X→Has c.w0 ⟨c.M,D⟩ X A→A.grownBy B row→(∀ r,row=some r→w.heap.size≤r∧∃ o:Obj,A.heap[r]?=some o∧o.isCells=false)→Has c.w0 ⟨c.M,D⟩ X B:=fun X A B row nm h hg hr=>
   Has.grown nm h hg fun r e=>⟨Nat.le_trans hw.ext.size (hr r e).1,fun hm=>by have:=hD r hm;have:=(hr r e).1;omega,(hr r e).2⟩
 refine wpIn_rangeFunc_ownH (F:=Fence.wide) (encs:=fun x=>⟨encs x⟩) (Kp:=KeepB (MiOf c hk)) (S:=S) (Sp:=Sp) (N:=N) (w0:=w) rfl (by omega) (gf:=gf) (lb:=⟨lb⟩) (ha.ev hev) trivial eg (hseq D w hw) (fun h k b hb=>(k b hb).trans (h b hb))
   (fun W l o o' hl ho hc hwk b hb=>by have:=mi_lt hw hH b hb;exact World.putObj_heap_other (by omega)) (Below.refl _ _) (fun x=>by simpa using R.size x)
   (fun xs W'=>∃ j,Pi xs j∧Has c.w0 ⟨c.M,D⟩ (hp j++hk) W'∧w.heap.size≤W'.heap.size) (fun k xs W'=>∃ j,Pl k xs j∧Has c.w0 ⟨c.M,D⟩ (hl j++hk) W')
   (fun s A B row ⟨j,h1,h2,h3⟩ hg hr=>⟨j,h1,stab _ A B row ((R.nop j).app R.nok) h2 hg hr,Nat.le_trans h3 hg.size⟩) (fun k s A B row ⟨j,h1,h2⟩ hg hr=>⟨j,h1,stab _ A B row ((R.nol j).app R.nok) h2 hg hr⟩) ⟨i0,h0,hw.sub hH,Nat.le_refl _⟩
   (fun x a' W=>∃ bs,Frm [] c.N (fx x bs) a'∧Blks w.heap.size (bx x bs) W) (fun x a' _ A B row ⟨bs,h1,h2⟩ hg hr=>⟨bs,h1,Blks.grown (R.nob x bs) h2 hg fun r e=>(hr r e).2⟩) ?_ ?_ ?_ ?_
 · intro l pre x W K ⟨j,h1,h2,h3⟩ hK
   refine range_assign R ha l x W w.heap.size h3 K fun a' W' bs he hf hb=>hK a' W' ?_ ?_ ⟨j,h1,h2.grow he,Nat.le_trans h3 he.size⟩ ⟨bs,hf,hb⟩
   · exact (he.toM []).keeps (fun b hb=>(List.not_mem_nil hb).elim)
   · exact fun b hb=>he.block b (Nat.lt_of_lt_of_le (mi_lt hw hH b hb) h3)
 · intro l pre x a' W hl' hr ⟨j,h1,h2,h3⟩ ⟨bs,h4,h5⟩ hlen
   have hj:=h2.join h5 hw.ext.size (R.disj x bs j _ W D h5 h2 (fun b hb=>by obtain ⟨y,hy,rfl⟩:=List.mem_map.1 hb;exact (hw.blk y hy).2.lt))
   rw [← List.append_assoc] at hj
   exact range_body R w.heap.size l pre x j bs a' W h1 hj hlen hr (fun b hb=>mi_lt hw hH b hb) h4 h3
 · intro D' xs W hD' hS ⟨j,h1,h2,h3⟩ hm
   refine ⟨D'::D,F,hp j++hk,hdone xs j hS h1,⟨ha.size,by simp [ha.defers,dmark],ha.at_⟩,h2.ext,h2.blk,h2.nodup,List.nodup_cons.2 ⟨fun hmem=>by have:=hD _ hmem;omega,h2.marks.1⟩,fun k hk=>?_⟩
   rcases List.mem_cons.1 hk with rfl|hk
   · exact ⟨Nat.le_trans hw.ext.size hD',hm⟩
   · exact h2.marks.2 k hk
 · intro D' k pre W hD' hS ⟨j,h1,h2⟩ hm
   refine wpIn_wide.2 (hstop k pre j hS h1 (D'::D) _ W ⟨ha.size,by simp [ha.defers,dmark],ha.at_⟩ ⟨h2.ext,h2.blk,h2.nodup,List.nodup_cons.2 ⟨fun hmem=>by have:=hD _ hmem;omega,h2.marks.1⟩,fun k hk=>?_⟩)
   rcases List.mem_cons.1 hk with rfl|hk
   · exact ⟨Nat.le_trans hw.ext.size hD',hm⟩
   · exact h2.marks.2 k hk
end
/-! Calls that hand out memory -/
theorem Has.call {w0:World} {M D:List Nat} {H H':Hp} {w w':World} (h:Has w0 ⟨M,D⟩ H w) (k:Has w ⟨[],[]⟩ H' w'):Has w0 ⟨M,D⟩ (H'++H) w':=by
 have h':=h.grow k.ext.ext
 have own:∀ x∈H',w.heap.size≤x.1:=fun x hx=>by
   rcases (k.blk x hx).1 with h1|h1
   · exact h1
   · exact (List.not_mem_nil h1).elim
 refine ⟨h'.ext,fun x hx=>?_,?_,h'.marks⟩
 · rcases List.mem_append.1 hx with hx|hx
   · exact ⟨.inl (Nat.le_trans h.ext.size (own x hx)),(k.blk x hx).2⟩
   · exact h'.blk x hx
 · rw [List.map_append,List.nodup_append]
   refine ⟨k.nodup,h.nodup,fun a ha b hb=>?_⟩
   obtain ⟨x,hx,rfl⟩:=List.mem_map.1 ha
   obtain ⟨y,hy,rfl⟩:=List.mem_map.1 hb
   have h1:=own x hx
   have h2:=(h.blk y hy).2.lt
   omega
section
variable {c:Cx} {F:Fr} {H:Hp} {K:Value→Hp→Prop} {d:Option Tmp} {ty:TypeId} {pos:String} {af:Array Edge} {g:Option (Nat×Bool)}
theorem os_callF {f:Operand} {args:Array Operand} {T:Array TypeId} {k:Nat} {fst cap vs:List Value} {PV:Value→Hp→Prop} (hf:ev F f=some (.func (.func k) ⟨fst⟩ ⟨cap⟩)) (hc:∀ (a:Array Value) (w:World),(callFunc k a).run c.P w=.ok (.enter k a) w)
   (ha:evs F args.toList=some vs) (h:∀ D w,Has c.w0 ⟨c.M,D⟩ H w→Calls c.P k ⟨fst++vs++cap⟩ w fun e w'=>∃ v H',e=.returned v∧PV v H'∧Has w ⟨[],[]⟩ H' w')
   (hk:∀ v H',PV v H'→K v (H'++H)):OS c ⟨d,.call ⟨.value f,args,T⟩,ty,pos,af,g⟩ F H K:=
 os_call hf hc ha fun D w hw=>(h D w hw).mono fun e w' ⟨v,H',h1,h2,h3⟩=>⟨v,H'++H,h1,hk v H' h2,hw.call h3⟩
end
theorem Blk.rows {w:World} {b n k:Nat} {rows:List (List Value)} {g:Tg} (h:Blk w b rows.flatten g) (hl:rows.length=n) (hk:∀ r∈rows,r.length=k):RdS w k (some ⟨b,0,none⟩) n rows:=by
 refine ⟨hl,fun _=>⟨b,0,rfl,h.lt,fun i x hx=>⟨hk x (List.mem_of_getElem? hx),fun j u hu=>?_⟩⟩⟩
 refine h.cell ?_
 rw [Nat.zero_add]
 clear h hl
 induction rows generalizing i with
 | nil=>simp at hx
 | cons r rows ih=>
   have hr:=hk r (List.mem_cons_self ..)
   cases i with
   | zero=>
     obtain rfl:r=x:=by simpa using hx
     have hj:=(List.getElem?_eq_some_iff.1 hu).1
     simp only [List.flatten_cons,Nat.zero_mul,Nat.zero_add]
     rw [List.getElem?_append_left hj];exact hu
   | succ i=>
     have:=ih (fun r hr=>hk r (List.mem_cons_of_mem _ hr)) i (by simpa using hx)
     simp only [List.flatten_cons]
     rw [List.getElem?_append_right (by rw [hr,Nat.succ_mul];omega)]
     rw [← this];congr 1;rw [hr,Nat.succ_mul];omega
theorem Has.cellAt {w0:World} {M:Ms} {H H':Hp} {w:World} {b o:Nat} {C:List Value} {g:Tg} {v:Value} (h:Has w0 M H w) (p:Pick H b C g H') (ho:C[o]?=some v):w.cell? ⟨b,o,none⟩=some v:=(h.blk _ p.mem).2.cell ho
theorem Has.off {w0:World} {M:Ms} {X K:Hp} {w:World} (h:Has w0 M (X++K) w) {b:Nat} (hb:b∈K.map Prod.fst):b∉X.map Prod.fst:=fun hm=>by
 have:=h.nodup
 rw [List.map_append,List.nodup_append] at this
 exact this.2.2 _ hm _ hb rfl
theorem enterF {c:Cx} {k:FuncId} {fn:Func} {code:Code} {rs:List ResultVar} {args:List Value} {PV:Value→Hp→Prop} (hf:c.P.funcs[k]?=some fn) (hb:fn.body=some code) (hrs:fn.results=⟨rs⟩) (hN:c.N=args.length+(fn.ntmps-args.length)) (hM:c.M=[])
   (h:T c (WS.own c.P) code (endQ c rs fun v H=>∃ H',PV v H'∧HpSub H H') (frOf 0 args) []):Calls c.P k ⟨args⟩ c.w0 fun e w'=>∃ v H',e=.returned v∧PV v H'∧Has c.w0 ⟨[],[]⟩ H' w':=
 (enter hf hb hrs hN (fun d v hv=>(look_frOf args 0 d v hv).2) (by rw [hM];exact Has.start _) h).mono fun e w' ⟨v,H',h1,⟨G,h2,h3⟩,h4⟩=>⟨v,G,h1,h2,by rw [hM] at h4;exact h4.sub h3⟩
theorem Norm.self:∀ (l:List Value),Norm l l
 | []=>.nil rfl
 | _::l=>.cons rfl (Norm.self l)
def flatV:Value→Bool
 | .agg _=>false
 | _=>true
theorem flatV_cells {v:Value} (h:flatV v=true):cellsL v=[v]:=by
 cases v<;>first|rfl|cases h
def pickV:List (Nat×Value)→Nat→Option (List Value)
 | [],_=>some []
 | (j,v)::l,i=>match Nat.beq j i && flatV v,pickV l (i+1) with
   | true,some r=>some (v::r)
   | _,_=>none
theorem pickV_fill:∀ (vs:List (Nat×Value)) (k:Nat) (C r:List Value),pickV vs k=some r→k+vs.length=C.length→r.length=vs.length∧fillL (fun i=>some (i*1,1)) C vs=some (C.take k++r)
 | [],k,C,r,h,hl=>by
   simp only [pickV,Option.some.injEq] at h
   subst h
   simp at hl
   subst hl
   exact ⟨rfl,by simp [fillL]⟩
 | (j,v)::l,k,C,r,h,hl=>by
   simp only [pickV] at h
   split at h
   · rename_i r' h1 h2
     simp only [Bool.and_eq_true] at h1
     have hj:j=k:=Nat.eq_of_beq_eq_true h1.1
     subst hj
     cases h
     have hC:(setL C j [v]).length=C.length:=setL_length _ _ _
     simp only [List.length_cons] at hl
     obtain ⟨g1,g2⟩:=pickV_fill l (j+1) (setL C j [v]) r' h2 (by omega)
     refine ⟨by simp [g1],?_⟩
     simp only [fillL,flatV_cells h1.2,Nat.mul_one]
     have hb:Nat.ble (j+1) C.length=true:=Nat.ble_eq_true_of_le (by omega)
     have hb2:(Nat.beq [v].length 1 && Nat.ble (j+1) C.length)=true:=by rw [hb];rfl
     rw [hb2]
     simp only [Nat.mul_one] at g2
     rw [g2]
     simp only [setL]
     congr 1
     rw [List.take_add_one,List.getElem?_set_self (by omega),List.take_set_of_le (Nat.le_refl _)]
     simp
   · cases h
section
variable {c:Cx} {F:Fr} {H:Hp} {K:Value→Hp→Prop} {d:Option Tmp} {ty:TypeId} {pos:String} {af:Array Edge} {g:Option (Nat×Bool)}
theorem ox_buildSlice1 {t:Nat} {a0 a1:Bool} {s0 e len:Nat} {z0 z1 r:List Value} {k1:TyK} {parts:List (Nat×Operand)} {vs:List (Nat×Value)} (ht:tyAt c.tys t=some ⟨a0,s0,z0,.slice e⟩) (he:tyAt c.tys e=some ⟨a1,1,z1,k1⟩) (hp:evp F parts=some vs)
   (hf:pickV vs 0=some r) (hb:Nat.ble len 1000000=true) (hs:Nat.beq vs.length len=true)
   (k:∀ b,K (.slice (some ⟨b,0,none⟩) len len) ((b,r,some (e,1,len))::H)):OX c ⟨d,.buildSlice t len ⟨parts⟩,ty,pos,af,g⟩ F H K:=by
 have hl:vs.length=len:=Nat.eq_of_beq_eq_true hs
 obtain ⟨h1,h2⟩:=pickV_fill vs 0 ((List.range (len*1)).map fun j=>z1.toArray[j % z1.toArray.size]!) r hf (by simp [hl])
 exact ox_buildSlice ht he hp h2 (Norm.self _) (by simpa using hb) (by rw [List.take_zero,List.nil_append,h1,hl,Nat.mul_one];exact Nat.beq_refl _) rfl (fun b=>by simpa using k b)
end
end Go.Proofs.Ytcjkndjjbjoehaa
