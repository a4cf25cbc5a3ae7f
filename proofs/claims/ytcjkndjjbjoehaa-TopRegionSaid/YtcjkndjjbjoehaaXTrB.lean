/- A part of the proof: rules for walks, and contracts of functions (2). -/
import Derived.Test.YtcjkndjjbjoehaaXTrA
import Derived.Test.YtcjkndjjbjoehaaChecked
import Derived.Laws.StructEq
import Derived.Laws.MakeOwn
import Derived.LoopN
set_option linter.unusedVariables false
set_option linter.unusedSimpArgs false
set_option maxRecDepth 100000
set_option maxHeartbeats 2000000
namespace Go.Proofs.Ytcjkndjjbjoehaa
open Go.RowKit
theorem setL_eq:∀ (l C:List Value) (o:Nat),o+l.length≤C.length→setL C o l=C.take o++l++C.drop (o+l.length)
 | [],C,o,_=>by simp [setL]
 | v::l,C,o,h=>by
   simp only [List.length_cons] at h
   have ih:=setL_eq l (C.set o v) (o+1) (by simp;omega)
   simp only [setL]
   rw [ih,List.take_add_one,List.getElem?_set_self (by omega),List.take_set_of_le (Nat.le_refl _),List.drop_set_of_lt (by omega)]
   simp only [List.length_cons,Option.toList,List.append_assoc,List.cons_append,List.nil_append]
   rw [show o+1+l.length=o+(l.length+1) by omega]
def pick2:List (Nat×Value)→Nat→Option (List Value)
 | [],_=>some []
 | (j,v)::l,i=>match Nat.beq j i,v,pick2 l (i+1) with
   | true,.agg ⟨[a,b]⟩,some r=>some (a::b::r)
   | _,_,_=>none
theorem pick2_fill:∀ (vs:List (Nat×Value)) (k:Nat) (C r:List Value),pick2 vs k=some r→(k+vs.length)*2=C.length→r.length=vs.length*2∧fillL (fun i=>some (i*2,2)) C vs=some (C.take (k*2)++r)
 | [],k,C,r,h,hl=>by
   simp only [pick2,Option.some.injEq] at h
   subst h
   simp at hl
   exact ⟨rfl,by simp [fillL,hl]⟩
 | (j,v)::l,k,C,r,h,hl=>by
   simp only [pick2] at h
   split at h
   · rename_i a b r' h1 h2
     have hj:j=k:=Nat.eq_of_beq_eq_true h1
     subst hj
     cases h
     simp only [List.length_cons] at hl
     have hC:(setL C (j*2) [a,b]).length=C.length:=setL_length _ _ _
     obtain ⟨g1,g2⟩:=pick2_fill l (j+1) (setL C (j*2) [a,b]) r' h2 (by omega)
     refine ⟨by simp [g1];omega,?_⟩
     have hb2:(Nat.beq (cellsL (.agg ⟨[a,b]⟩)).length 2 && Nat.ble (j*2+2) C.length)=true:=by
       rw [Nat.ble_eq_true_of_le (by omega)];rfl
     simp only [fillL]
     rw [hb2]
     simp only
     rw [show cellsL (.agg ⟨[a,b]⟩)=[a,b] from rfl,g2,setL_eq _ _ _ (by simp;omega)]
     have ht:(C.take (j*2)++[a,b]++C.drop (j*2+[a,b].length)).take ((j+1)*2)=C.take (j*2)++[a,b]:=by
       rw [List.take_append_of_le_length (by simp;omega)]
       exact List.take_of_length_le (by simp;omega)
     rw [ht]
     simp
   · cases h
section
variable {c:Cx} {F:Fr} {H:Hp} {K:Value→Hp→Prop} {d:Option Tmp} {ty:TypeId} {pos:String} {af:Array Edge} {g:Option (Nat×Bool)}
theorem ox_buildSlice2 {t:Nat} {a0 a1:Bool} {s0 e len:Nat} {z0 z1 r:List Value} {k1:TyK} {parts:List (Nat×Operand)} {vs:List (Nat×Value)} (ht:tyAt c.tys t=some ⟨a0,s0,z0,.slice e⟩) (he:tyAt c.tys e=some ⟨a1,2,z1,k1⟩) (hp:evp F parts=some vs)
   (hf:pick2 vs 0=some r) (hb:Nat.ble (len*2) 1000000=true) (hs:Nat.beq vs.length len=true)
   (k:∀ b,K (.slice (some ⟨b,0,none⟩) len len) ((b,r,some (e,2,len))::H)):OX c ⟨d,.buildSlice t len ⟨parts⟩,ty,pos,af,g⟩ F H K:=by
 have hl:vs.length=len:=Nat.eq_of_beq_eq_true hs
 obtain ⟨h1,h2⟩:=pick2_fill vs 0 ((List.range (len*2)).map fun j=>z1.toArray[j % z1.toArray.size]!) r hf (by simp [hl])
 exact ox_buildSlice ht he hp h2 (Norm.self _) hb (by rw [Nat.zero_mul,List.take_zero,List.nil_append,h1,hl];exact Nat.beq_refl _) rfl (fun b=>by simpa using k b)
end
def InU (z:Int):Prop:=0≤z∧z≤18446744073709551615
theorem wrapU {z:Int} (h:InU z):IntKind.u64.wrap z=z:=IntWalk.u64_in _ h
section
variable {c:Cx} {F:Fr} {H:Hp} {d:Option Tmp} {ty t t':TypeId} {pos:String} {af:Array Edge} {g:Option (Nat×Bool)} {x y:Operand} {m n:Int}
theorem oq_shr {k k':IntKind} (hx:ev F x=some (.int k m)) (hy:ev F y=some (.int k' n)) (h0:0≤n):OQ c ⟨d,.binOp .shr t x y t',ty,pos,af,g⟩ F H (.int k (m.fdiv (2 ^ (min n.toNat k.bits)))):=.of fun D a w ha _=>by
 have:¬ n<0:=by omega
 simp [execOp,ha.ev hx,ha.ev hy,eqGuard,binOp,Op.shift,go_sem,this]
theorem and_mask {a:Int} {j:Nat} (h:InU a) (hj:j<64):(BitVec.ofInt 64 a &&& BitVec.ofInt 64 (2 ^ j-1)).toNat=(a % 2 ^ j).toNat:=by
 have h1:((2:Int) ^ j-1)=((2 ^ j-1:Nat):Int):=by
   have:0<2 ^ j:=Nat.pow_pos (by omega)
   rw [Int.ofNat_sub (by omega)];simp
 have ha:a=(a.toNat:Int):=(Int.toNat_of_nonneg h.1).symm
 have hlt:a.toNat<2 ^ 64:=by have:=h.2;omega
 have hp:2 ^ j-1<2 ^ 64:=by
   have:2 ^ j<2 ^ 64:=Nat.pow_lt_pow_right (by omega) hj
   omega
 rw [h1,ha,BitVec.ofInt_natCast,BitVec.ofInt_natCast,BitVec.toNat_and,BitVec.toNat_ofNat,BitVec.toNat_ofNat,Nat.mod_eq_of_lt hlt,Nat.mod_eq_of_lt hp,Nat.and_two_pow_sub_one_eq_mod]
 have:((a.toNat:Int) % 2 ^ j)=((a.toNat % 2 ^ j:Nat):Int):=by simp
 rw [this,Int.toNat_natCast]
theorem oq_andU {j:Nat} (hx:ev F x=some (.int .u64 m)) (hy:ev F y=some (.int .u64 (2 ^ j-1))) (h:InU m) (hj:j<64):OQ c ⟨d,.binOp .and t x y t',ty,pos,af,g⟩ F H (.int .u64 (m % 2 ^ j)):=.of fun D a w ha _=>by
 have hm:=and_mask h hj
 have hp:(0:Int)<2 ^ j:=Int.pow_pos (by omega)
 have h0:=Int.emod_nonneg m (Int.ne_of_gt hp)
 have h1:m % 2 ^ j≤m:=by
   rw [Int.emod_def]
   exact Int.sub_le_self _ (Int.mul_nonneg (Int.le_of_lt hp) (Int.ediv_nonneg h.1 (Int.le_of_lt hp)))
 have hw:IntKind.u64.wrap (((BitVec.ofInt IntKind.u64.bits m &&& BitVec.ofInt IntKind.u64.bits (2 ^ j-1)).toNat:Nat):Int)=m % 2 ^ j:=by
   rw [show (BitVec.ofInt IntKind.u64.bits m &&& BitVec.ofInt IntKind.u64.bits (2 ^ j-1)).toNat=(m % 2 ^ j).toNat from hm,Int.toNat_of_nonneg h0]
   exact wrapU ⟨h0,by have:=h.2;omega⟩
 simp only [execOp,ha.ev hx,ha.ev hy,eqGuard,binOp,Op.intBits]
 rw [hw]
 simp [go_sem]
theorem oq_convU {a0 a1:Bool} {s0 s1:Nat} {z0 z1:List Value} {k:IntKind} (ht:tyAt c.tys t=some ⟨a0,s0,z0,.int k⟩) (ht':tyAt c.tys t'=some ⟨a1,s1,z1,.int .u64⟩) (hx:ev F x=some (.int k m)) (hr:InU m) :
   OQ c ⟨d,.convert t t' x,ty,pos,af,g⟩ F H (.int .u64 m):=.of fun D a w ha _=>by
 have h:=(c.ty ht).kind
 have h2:=h w
 have h':=(c.ty ht').kind
 have h3:=h' w
 have:=wrapU hr
 simp [execOp,ha.ev hx,convert,go_sem,h2,h3,Conv.intToInt,this]
end
section
variable {c:Cx} {F:Fr} {H:Hp} {d:Option Tmp} {ty t:TypeId} {pos:String} {af:Array Edge} {g:Option (Nat×Bool)} {x y:Operand}
theorem oq_sliceL {a0 a1:Bool} {s0 s1 e b o len cap l:Nat} {z0 z1:List Value} {k1:TyK} {k:IntKind} {li:Int} (ht:tyAt c.tys t=some ⟨a0,s0,z0,.slice e⟩) (he:tyAt c.tys e=some ⟨a1,s1,z1,k1⟩)
   (hx:ev F x=some (.slice (some ⟨b,o,none⟩) len cap)) (hy:ev F y=some (.int k li)) (hl:li=l) (h1:l≤len) (h2:cap≠l) :
   OQ c ⟨d,.slice t x (some y) none none,ty,pos,af,g⟩ F H (.slice (some ⟨b,o+l*s1,none⟩) (len-l) (cap-l)):=.of fun D a w ha _=>by
 subst hl
 have hk:=(c.ty ht).kind w
 have hs:=(c.ty he).size w
 simp only [execOp,Option.map,ha.ev hx,ha.ev hy]
 simp [Instr.sliceAt,Instr.slice,Instr.sliceBounds,Instr.sliceBound,asIntOf,Sem.run_bind,hk,hs,h1,h2,Result.andThen,go_sem,add_eq]
end
section
variable {c:Cx} {F:Fr} {H:Hp} {d:Option Tmp} {ty t t':TypeId} {pos:String} {af:Array Edge} {g:Option (Nat×Bool)} {x y:Operand} {m n:Int}
theorem oq_shr1U {k':IntKind} (hx:ev F x=some (.int .u64 m)) (hy:ev F y=some (.int k' 1)) (_:0≤m):OQ c ⟨d,.binOp .shr t x y t',ty,pos,af,g⟩ F H (.int .u64 (m / 2)):=by
 have:=oq_shr (c:=c) (d:=d) (ty:=ty) (t:=t) (t':=t') (pos:=pos) (af:=af) (g:=g) (H:=H) hx hy (by omega)
 rw [show (2:Int) ^ (min (1:Int).toNat IntKind.u64.bits)=2 from rfl,Int.fdiv_eq_ediv_of_nonneg _ (by omega)] at this
 exact this
end
section
variable {c:Cx} {S:WS c.P} {Q:QS} {F:Fr} {H:Hp}
end
section
variable {c:Cx} {F:Fr} {H:Hp} {d:Option Tmp} {ty t t':TypeId} {pos:String} {af:Array Edge} {g:Option (Nat×Bool)} {x y:Operand} {m n k:Int} {v u:Value}
theorem OQ.as {o:Oper} (h:OQ c o F H u) (e:u=v):OQ c o F H v:=e ▸ h
theorem oq_subE (hx:ev F x=some (.int .i64 m)) (hy:ev F y=some (.int .i64 n)) (e:m-n=k∧-9223372036854775808≤k∧k≤9223372036854775807):OQ c ⟨d,.binOp .sub t x y t',ty,pos,af,g⟩ F H (.int .i64 k):=
 (oq_sub hx hy ⟨by omega,by omega⟩).as (by rw [e.1])
theorem oq_addE (hx:ev F x=some (.int .i64 m)) (hy:ev F y=some (.int .i64 n)) (e:m+n=k∧-9223372036854775808≤k∧k≤9223372036854775807):OQ c ⟨d,.binOp .add t x y t',ty,pos,af,g⟩ F H (.int .i64 k):=
 (oq_add hx hy ⟨by omega,by omega⟩).as (by rw [e.1])
theorem oq_shr1N {k':IntKind} {a:Nat} (hx:ev F x=some (.int .u64 m)) (hy:ev F y=some (.int k' 1)) (e:m=(a:Int)):OQ c ⟨d,.binOp .shr t x y t',ty,pos,af,g⟩ F H (.int .u64 ((a / 2:Nat):Int)):=
 (oq_shr1U hx hy (by omega)).as (by subst e;simp)
end
def FOk (P:Program):List Field→List (Nat×Nat×Bool)→Prop
 | [],[]=>True
 | d::ds,(off,n,g)::fs=>d.offset=off∧(∀ w,(sizeOf d.type).run P w=.ok n w)∧(∀ w,(isAgg d.type).run P w=.ok g w)∧FOk P ds fs
 | _,_=>False
theorem FOk.len {P:Program} {ds:Array Field} {fs:List (Nat×Nat×Bool)} (h:FOk P ds.toList fs):ds.size=fs.length:=by
 have:∀ (l:List Field) (fs:List (Nat×Nat×Bool)),FOk P l fs→l.length=fs.length:=by
   intro l
   induction l with
   | nil=>intro fs h;cases fs with|nil=>rfl|cons a b=>exact h.elim
   | cons d l ih=>intro fs h;cases fs with|nil=>exact h.elim|cons a b=>obtain ⟨x,y,z⟩:=a;simp [ih b h.2.2.2]
 simpa using this _ _ h
theorem FOk.at_ {P:Program}:∀ {ds:List Field} {fs:List (Nat×Nat×Bool)},FOk P ds fs→∀ (f off n:Nat) (g:Bool),fs[f]?=some (off,n,g) →
     ∃ d:Field,ds[f]?=some d∧d.offset=off∧(∀ w,(sizeOf d.type).run P w=.ok n w)∧∀ w,(isAgg d.type).run P w=.ok g w
 | [],[],_,f,off,n,g,h=>by simp at h
 | [],_::_,h,_,_,_,_,_=>h.elim
 | _::_,[],h,_,_,_,_,_=>h.elim
 | d::ds,(off',n',g')::fs,h,0,off,n,g,hf=>by
   obtain ⟨rfl,rfl,rfl⟩:off'=off∧n'=n∧g'=g:=by simpa using hf
   exact ⟨d,rfl,h.1,h.2.1,h.2.2.1⟩
 | d::ds,(off',n',g')::fs,h,f+1,off,n,g,hf=>by
   obtain ⟨d',h1,h2⟩:=FOk.at_ h.2.2.2 f off n g (by simpa using hf)
   exact ⟨d',by simpa using h1,h2⟩
theorem struct_ok {P:Program} {t:Nat} {ds:Array Field} {fs:List (Nat×Nat×Bool)} (hu:∀ w,(underlying t).run P w=.ok (.struct ds) w) (h:FOk P ds.toList fs):KindOk P t (.struct fs):=
 ⟨ds,hu,h.len,fun f off n g hf=>by
   obtain ⟨d,h1,h2⟩:=h.at_ f off n g hf
   exact ⟨d,by simpa using h1,h2⟩⟩
theorem ty_ok3 : TyOk Try.prog 3 ⟨false, 1, [(.int .i64 0)], .int .i64⟩ := ⟨Try.isAgg3, Try.sizeOf3, fun w => ⟨_, Try.zeroValue3 w, rfl⟩, rfl, Try.runUnderlying3⟩ -- int
theorem ty_ok4 : TyOk Try.prog 4 ⟨false, 1, [(.bool false)], .other⟩ := ⟨Try.isAgg4, Try.sizeOf4, fun w => ⟨_, Try.zeroValue4 w, rfl⟩, rfl, trivial⟩ -- bool
theorem ty_ok5 : TyOk Try.prog 5 ⟨false, 1, [(.int .u8 0)], .int .u8⟩ := ⟨Try.isAgg5, Try.sizeOf5, fun w => ⟨_, Try.zeroValue5 w, rfl⟩, rfl, Try.runUnderlying5⟩ -- uint8
theorem ty_ok9 : TyOk Try.prog 9 ⟨false, 1, [(.string { data := #[] })], .other⟩ := ⟨Try.isAgg9, Try.sizeOf9, fun w => ⟨_, Try.zeroValue9 w, rfl⟩, rfl, trivial⟩ -- string
theorem ty_ok20 : TyOk Try.prog 20 ⟨false, 1, [.nilIface], .other⟩ := ⟨Try.isAgg20, Try.sizeOf20, fun w => ⟨_, Try.zeroValue20 w, rfl⟩, rfl, trivial⟩ -- interface {}
theorem ty_ok22 : TyOk Try.prog 22 ⟨false, 1, [(.slice none 0 0)], .slice 3⟩ := ⟨Try.isAgg22, Try.sizeOf22, fun w => ⟨_, Try.zeroValue22 w, rfl⟩, rfl, Try.runUnderlying22⟩ -- []int
theorem ty_ok24 : TyOk Try.prog 24 ⟨true, 3, [.int .i64 0, .int .i64 0, .slice none 0 0], .struct [(0, 1, false), (1, 1, false), (2, 1, false)]⟩ := ⟨Try.isAgg24, Try.sizeOf24, fun w => ⟨_, Try.zeroValue24 w, rfl⟩, rfl, struct_ok Try.runUnderlying24 ⟨rfl, Try.sizeOf3, Try.isAgg3, ⟨rfl, Try.sizeOf3, Try.isAgg3, ⟨rfl, Try.sizeOf22, Try.isAgg22, trivial⟩⟩⟩⟩ -- api.Terrain
theorem ty_ok25 : TyOk Try.prog 25 ⟨false, 1, [(.int .i64 0)], .int .i64⟩ := ⟨Try.isAgg25, Try.sizeOf25, fun w => ⟨_, Try.zeroValue25 w, rfl⟩, rfl, Try.runUnderlying25⟩ -- api.Errno
theorem ty_ok34 : TyOk Try.prog 34 ⟨false, 1, [(.slice none 0 0)], .slice 4⟩ := ⟨Try.isAgg34, Try.sizeOf34, fun w => ⟨_, Try.zeroValue34 w, rfl⟩, rfl, Try.runUnderlying34⟩ -- []bool
theorem ty_ok35 : TyOk Try.prog 35 ⟨false, 1, [(.slice none 0 0)], .slice 126⟩ := ⟨Try.isAgg35, Try.sizeOf35, fun w => ⟨_, Try.zeroValue35 w, rfl⟩, rfl, Try.runUnderlying35⟩ -- []api.Track
theorem ty_ok37 : TyOk Try.prog 37 ⟨true, 2, [.slice none 0 0, .slice none 0 0], .struct [(0, 1, false), (1, 1, false)]⟩ := ⟨Try.isAgg37, Try.sizeOf37, fun w => ⟨_, Try.zeroValue37 w, rfl⟩, rfl, struct_ok Try.runUnderlying37 ⟨rfl, Try.sizeOf34, Try.isAgg34, ⟨rfl, Try.sizeOf35, Try.isAgg35, trivial⟩⟩⟩ -- api.Chart
theorem ty_ok39 : TyOk Try.prog 39 ⟨true, 2, [.int .i64 0, .int .i64 0], .struct [(0, 1, false), (1, 1, false)]⟩ := ⟨Try.isAgg39, Try.sizeOf39, fun w => ⟨_, Try.zeroValue39 w, rfl⟩, rfl, struct_ok Try.runUnderlying39 ⟨rfl, Try.sizeOf3, Try.isAgg3, ⟨rfl, Try.sizeOf3, Try.isAgg3, trivial⟩⟩⟩ -- api.Span
theorem ty_ok41 : TyOk Try.prog 41 ⟨true, 7, [.int .i64 0, .int .i64 0, .int .i64 0, .int .i64 0, .int .i64 0, .int .i64 0, .int .i64 0], .struct [(0, 1, false), (1, 1, false), (2, 1, false), (3, 1, false), (4, 1, false), (5, 2, true)]⟩ := ⟨Try.isAgg41, Try.sizeOf41, fun w => ⟨_, Try.zeroValue41 w, rfl⟩, rfl, struct_ok Try.runUnderlying41 ⟨rfl, Try.sizeOf3, Try.isAgg3, ⟨rfl, Try.sizeOf3, Try.isAgg3, ⟨rfl, Try.sizeOf3, Try.isAgg3, ⟨rfl, Try.sizeOf3, Try.isAgg3, ⟨rfl, Try.sizeOf3, Try.isAgg3, ⟨rfl, Try.sizeOf39, Try.isAgg39, trivial⟩⟩⟩⟩⟩⟩⟩ -- api.Pace
theorem ty_ok42 : TyOk Try.prog 42 ⟨false, 1, [(.slice none 0 0)], .slice 59⟩ := ⟨Try.isAgg42, Try.sizeOf42, fun w => ⟨_, Try.zeroValue42 w, rfl⟩, rfl, Try.runUnderlying42⟩ -- [][]api.Gale
theorem ty_ok59 : TyOk Try.prog 59 ⟨false, 1, [(.slice none 0 0)], .slice 142⟩ := ⟨Try.isAgg59, Try.sizeOf59, fun w => ⟨_, Try.zeroValue59 w, rfl⟩, rfl, Try.runUnderlying59⟩ -- []api.Gale
theorem ty_ok61 : TyOk Try.prog 61 ⟨true, 2, [.int .i64 0, .int .i64 0], .struct [(0, 1, false), (1, 1, false)]⟩ := ⟨Try.isAgg61, Try.sizeOf61, fun w => ⟨_, Try.zeroValue61 w, rfl⟩, rfl, struct_ok Try.runUnderlying61 ⟨rfl, Try.sizeOf3, Try.isAgg3, ⟨rfl, Try.sizeOf3, Try.isAgg3, trivial⟩⟩⟩ -- api.Axis
theorem ty_ok62 : TyOk Try.prog 62 ⟨false, 1, [(.int .u16 0)], .int .u16⟩ := ⟨Try.isAgg62, Try.sizeOf62, fun w => ⟨_, Try.zeroValue62 w, rfl⟩, rfl, Try.runUnderlying62⟩ -- uint16
theorem ty_ok67 : TyOk Try.prog 67 ⟨true, 4, [.int .i64 0, .int .i64 0, .int .i64 0, .int .i64 0], .struct [(0, 2, true), (2, 2, true)]⟩ := ⟨Try.isAgg67, Try.sizeOf67, fun w => ⟨_, Try.zeroValue67 w, rfl⟩, rfl, struct_ok Try.runUnderlying67 ⟨rfl, Try.sizeOf39, Try.isAgg39, ⟨rfl, Try.sizeOf39, Try.isAgg39, trivial⟩⟩⟩ -- api.Wind
theorem ty_ok80 : TyOk Try.prog 80 ⟨true, 4, [.int .i64 0, .int .i64 0, .int .i64 0, .int .i64 0], .struct [(0, 1, false), (1, 1, false), (2, 1, false), (3, 1, false)]⟩ := ⟨Try.isAgg80, Try.sizeOf80, fun w => ⟨_, Try.zeroValue80 w, rfl⟩, rfl, struct_ok Try.runUnderlying80 ⟨rfl, Try.sizeOf3, Try.isAgg3, ⟨rfl, Try.sizeOf3, Try.isAgg3, ⟨rfl, Try.sizeOf3, Try.isAgg3, ⟨rfl, Try.sizeOf3, Try.isAgg3, trivial⟩⟩⟩⟩⟩ -- api.Duty
theorem ty_ok81 : TyOk Try.prog 81 ⟨false, 1, [(.slice none 0 0)], .slice 91⟩ := ⟨Try.isAgg81, Try.sizeOf81, fun w => ⟨_, Try.zeroValue81 w, rfl⟩, rfl, Try.runUnderlying81⟩ -- []api.Shift
theorem ty_ok84 : TyOk Try.prog 84 ⟨false, 1, [(.slice none 0 0)], .slice 22⟩ := ⟨Try.isAgg84, Try.sizeOf84, fun w => ⟨_, Try.zeroValue84 w, rfl⟩, rfl, Try.runUnderlying84⟩ -- [][]int
theorem ty_ok88 : TyOk Try.prog 88 ⟨true, 3, [.int .i64 0, .int .i64 0, .int .i64 0], .struct [(0, 1, false), (1, 1, false), (2, 1, false)]⟩ := ⟨Try.isAgg88, Try.sizeOf88, fun w => ⟨_, Try.zeroValue88 w, rfl⟩, rfl, struct_ok Try.runUnderlying88 ⟨rfl, Try.sizeOf3, Try.isAgg3, ⟨rfl, Try.sizeOf3, Try.isAgg3, ⟨rfl, Try.sizeOf3, Try.isAgg3, trivial⟩⟩⟩⟩ -- api.Trip
theorem ty_ok89 : TyOk Try.prog 89 ⟨false, 1, [(.slice none 0 0)], .slice 88⟩ := ⟨Try.isAgg89, Try.sizeOf89, fun w => ⟨_, Try.zeroValue89 w, rfl⟩, rfl, Try.runUnderlying89⟩ -- []api.Trip
theorem ty_ok91 : TyOk Try.prog 91 ⟨true, 3, [.int .i64 0, .int .i64 0, .int .i64 0], .struct [(0, 1, false), (1, 1, false), (2, 1, false)]⟩ := ⟨Try.isAgg91, Try.sizeOf91, fun w => ⟨_, Try.zeroValue91 w, rfl⟩, rfl, struct_ok Try.runUnderlying91 ⟨rfl, Try.sizeOf3, Try.isAgg3, ⟨rfl, Try.sizeOf3, Try.isAgg3, ⟨rfl, Try.sizeOf3, Try.isAgg3, trivial⟩⟩⟩⟩ -- api.Shift
theorem ty_ok92 : TyOk Try.prog 92 ⟨false, 1, [(.slice none 0 0)], .slice 222⟩ := ⟨Try.isAgg92, Try.sizeOf92, fun w => ⟨_, Try.zeroValue92 w, rfl⟩, rfl, Try.runUnderlying92⟩ -- []api.Tired
theorem ty_ok96 : TyOk Try.prog 96 ⟨false, 1, [(.slice none 0 0)], .slice 113⟩ := ⟨Try.isAgg96, Try.sizeOf96, fun w => ⟨_, Try.zeroValue96 w, rfl⟩, rfl, Try.runUnderlying96⟩ -- []api.Load
theorem ty_ok98 : TyOk Try.prog 98 ⟨true, 3, [.int .i64 0, .int .i64 0, .int .i64 0], .struct [(0, 1, false), (1, 1, false), (2, 1, false)]⟩ := ⟨Try.isAgg98, Try.sizeOf98, fun w => ⟨_, Try.zeroValue98 w, rfl⟩, rfl, struct_ok Try.runUnderlying98 ⟨rfl, Try.sizeOf3, Try.isAgg3, ⟨rfl, Try.sizeOf3, Try.isAgg3, ⟨rfl, Try.sizeOf3, Try.isAgg3, trivial⟩⟩⟩⟩ -- api.Limit
theorem ty_ok99 : TyOk Try.prog 99 ⟨false, 1, [(.slice none 0 0)], .slice 5⟩ := ⟨Try.isAgg99, Try.sizeOf99, fun w => ⟨_, Try.zeroValue99 w, rfl⟩, rfl, Try.runUnderlying99⟩ -- []uint8
theorem ty_ok101 : TyOk Try.prog 101 ⟨false, 1, [(.slice none 0 0)], .slice 111⟩ := ⟨Try.isAgg101, Try.sizeOf101, fun w => ⟨_, Try.zeroValue101 w, rfl⟩, rfl, Try.runUnderlying101⟩ -- []api.Corner
theorem ty_ok105 : TyOk Try.prog 105 ⟨true, 3, [.int .i64 0, .int .i64 0, .int .i64 0], .struct [(0, 1, false), (1, 1, false), (2, 1, false)]⟩ := ⟨Try.isAgg105, Try.sizeOf105, fun w => ⟨_, Try.zeroValue105 w, rfl⟩, rfl, struct_ok Try.runUnderlying105 ⟨rfl, Try.sizeOf3, Try.isAgg3, ⟨rfl, Try.sizeOf3, Try.isAgg3, ⟨rfl, Try.sizeOf3, Try.isAgg3, trivial⟩⟩⟩⟩ -- struct { dx int; dy int; want int }
theorem ty_ok106 : TyOk Try.prog 106 ⟨false, 1, [(.slice none 0 0)], .slice 105⟩ := ⟨Try.isAgg106, Try.sizeOf106, fun w => ⟨_, Try.zeroValue106 w, rfl⟩, rfl, Try.runUnderlying106⟩ -- []struct { dx int; dy int; want int }
theorem ty_ok108 : TyOk Try.prog 108 ⟨false, 1, [(.slice none 0 0)], .slice 228⟩ := ⟨Try.isAgg108, Try.sizeOf108, fun w => ⟨_, Try.zeroValue108 w, rfl⟩, rfl, Try.runUnderlying108⟩ -- []api.Put
theorem ty_ok111 : TyOk Try.prog 111 ⟨true, 2, [.int .i64 0, .int .i64 0], .struct [(0, 1, false), (1, 1, false)]⟩ := ⟨Try.isAgg111, Try.sizeOf111, fun w => ⟨_, Try.zeroValue111 w, rfl⟩, rfl, struct_ok Try.runUnderlying111 ⟨rfl, Try.sizeOf3, Try.isAgg3, ⟨rfl, Try.sizeOf3, Try.isAgg3, trivial⟩⟩⟩ -- api.Corner
theorem ty_ok113 : TyOk Try.prog 113 ⟨true, 4, [.int .i64 0, .int .i64 0, .int .i64 0, .int .i64 0], .struct [(0, 2, true), (2, 2, true)]⟩ := ⟨Try.isAgg113, Try.sizeOf113, fun w => ⟨_, Try.zeroValue113 w, rfl⟩, rfl, struct_ok Try.runUnderlying113 ⟨rfl, Try.sizeOf39, Try.isAgg39, ⟨rfl, Try.sizeOf39, Try.isAgg39, trivial⟩⟩⟩ -- api.Load
theorem ty_ok120 : TyOk Try.prog 120 ⟨false, 1, [.nilFunc], .other⟩ := ⟨Try.isAgg120, Try.sizeOf120, fun w => ⟨_, Try.zeroValue120 w, rfl⟩, rfl, trivial⟩ -- func(int) bool
theorem ty_ok126 : TyOk Try.prog 126 ⟨true, 5, [.int .i64 0, .int .i64 0, .int .i64 0, .int .i64 0, .int .i64 0], .struct [(0, 1, false), (1, 1, false), (2, 1, false), (3, 1, false), (4, 1, false)]⟩ := ⟨Try.isAgg126, Try.sizeOf126, fun w => ⟨_, Try.zeroValue126 w, rfl⟩, rfl, struct_ok Try.runUnderlying126 ⟨rfl, Try.sizeOf3, Try.isAgg3, ⟨rfl, Try.sizeOf3, Try.isAgg3, ⟨rfl, Try.sizeOf3, Try.isAgg3, ⟨rfl, Try.sizeOf3, Try.isAgg3, ⟨rfl, Try.sizeOf3, Try.isAgg3, trivial⟩⟩⟩⟩⟩⟩ -- api.Track
theorem ty_ok128 : TyOk Try.prog 128 ⟨false, 1, [(.pointer none)], .ptr 198⟩ := ⟨Try.isAgg128, Try.sizeOf128, fun w => ⟨_, Try.zeroValue128 w, rfl⟩, rfl, Try.runUnderlying128⟩ -- *route.desk
theorem ty_ok134 : TyOk Try.prog 134 ⟨true, 2, [.int .i64 0, .bool false], .struct [(0, 1, false), (1, 1, false)]⟩ := ⟨Try.isAgg134, Try.sizeOf134, fun w => ⟨_, Try.zeroValue134 w, rfl⟩, rfl, struct_ok Try.runUnderlying134 ⟨rfl, Try.sizeOf3, Try.isAgg3, ⟨rfl, Try.sizeOf4, Try.isAgg4, trivial⟩⟩⟩ -- route.flown
theorem ty_ok142 : TyOk Try.prog 142 ⟨true, 6, [.int .i64 0, .int .i64 0, .int .i64 0, .int .i64 0, .int .i64 0, .int .i64 0], .struct [(0, 1, false), (1, 4, true), (5, 1, false)]⟩ := ⟨Try.isAgg142, Try.sizeOf142, fun w => ⟨_, Try.zeroValue142 w, rfl⟩, rfl, struct_ok Try.runUnderlying142 ⟨rfl, Try.sizeOf3, Try.isAgg3, ⟨rfl, Try.sizeOf67, Try.isAgg67, ⟨rfl, Try.sizeOf3, Try.isAgg3, trivial⟩⟩⟩⟩ -- api.Gale
theorem ty_ok145 : TyOk Try.prog 145 ⟨false, 1, [.nilFunc], .other⟩ := ⟨Try.isAgg145, Try.sizeOf145, fun w => ⟨_, Try.zeroValue145 w, rfl⟩, rfl, trivial⟩ -- func(api.Wind) api.Span
theorem ty_ok147 : TyOk Try.prog 147 ⟨true, 4, [.int .i64 0, .int .i64 0, .int .i64 0, .int .i64 0], .array 2 39⟩ := ⟨Try.isAgg147, Try.sizeOf147, fun w => ⟨_, Try.zeroValue147 w, rfl⟩, rfl, Try.runUnderlying147⟩ -- [2]api.Span
theorem ty_ok157 : TyOk Try.prog 157 ⟨false, 1, [.nilFunc], .other⟩ := ⟨Try.isAgg157, Try.sizeOf157, fun w => ⟨_, Try.zeroValue157 w, rfl⟩, rfl, trivial⟩ -- func(api.Trip) bool
theorem ty_ok159 : TyOk Try.prog 159 ⟨false, 1, [.nilFunc], .other⟩ := ⟨Try.isAgg159, Try.sizeOf159, fun w => ⟨_, Try.zeroValue159 w, rfl⟩, rfl, trivial⟩ -- func(int, int, []api.Shift) bool
theorem ty_ok165 : TyOk Try.prog 165 ⟨false, 1, [.nilFunc], .other⟩ := ⟨Try.isAgg165, Try.sizeOf165, fun w => ⟨_, Try.zeroValue165 w, rfl⟩, rfl, trivial⟩ -- func(api.Load) bool
theorem ty_ok170 : TyOk Try.prog 170 ⟨false, 1, [.nilFunc], .other⟩ := ⟨Try.isAgg170, Try.sizeOf170, fun w => ⟨_, Try.zeroValue170 w, rfl⟩, rfl, trivial⟩ -- func(api.Load) api.Span
theorem ty_ok178 : TyOk Try.prog 178 ⟨false, 1, [.nilFunc], .other⟩ := ⟨Try.isAgg178, Try.sizeOf178, fun w => ⟨_, Try.zeroValue178 w, rfl⟩, rfl, trivial⟩ -- func(api.Load) (api.Put, int)
theorem ty_ok180 : TyOk Try.prog 180 ⟨true, 3, [.int .i64 0, .int .i64 0, .int .i64 0], .struct [(0, 3, true)]⟩ := ⟨Try.isAgg180, Try.sizeOf180, fun w => ⟨_, Try.zeroValue180 w, rfl⟩, rfl, struct_ok Try.runUnderlying180 ⟨rfl, Try.sizeOf98, Try.isAgg98, trivial⟩⟩ -- trim.side
theorem ty_ok186 : TyOk Try.prog 186 ⟨true, 3, [.int .i64 0, .int .i64 0, .int .i64 0], .struct [(0, 1, false), (1, 1, false), (2, 1, false)]⟩ := ⟨Try.isAgg186, Try.sizeOf186, fun w => ⟨_, Try.zeroValue186 w, rfl⟩, rfl, struct_ok Try.runUnderlying186 ⟨rfl, Try.sizeOf3, Try.isAgg3, ⟨rfl, Try.sizeOf3, Try.isAgg3, ⟨rfl, Try.sizeOf3, Try.isAgg3, trivial⟩⟩⟩⟩ -- route.reached
theorem ty_ok188 : TyOk Try.prog 188 ⟨false, 1, [(.slice none 0 0)], .slice 186⟩ := ⟨Try.isAgg188, Try.sizeOf188, fun w => ⟨_, Try.zeroValue188 w, rfl⟩, rfl, Try.runUnderlying188⟩ -- route.front
theorem ty_ok191 : TyOk Try.prog 191 ⟨true, 2, [.int .i64 0, .bool false], .struct [(0, 1, false), (1, 1, false)]⟩ := ⟨Try.isAgg191, Try.sizeOf191, fun w => ⟨_, Try.zeroValue191 w, rfl⟩, rfl, struct_ok Try.runUnderlying191 ⟨rfl, Try.sizeOf3, Try.isAgg3, ⟨rfl, Try.sizeOf4, Try.isAgg4, trivial⟩⟩⟩ -- struct { cell int; is bool }
theorem ty_ok192 : TyOk Try.prog 192 ⟨true, 8, [.int .i64 0, .bool false, .int .i64 0, .bool false, .int .i64 0, .bool false, .int .i64 0, .bool false], .array 4 191⟩ := ⟨Try.isAgg192, Try.sizeOf192, fun w => ⟨_, Try.zeroValue192 w, rfl⟩, rfl, Try.runUnderlying192⟩ -- [4]struct { cell int; is bool }
theorem ty_ok195 : TyOk Try.prog 195 ⟨true, 3, [.int .i64 0, .int .i64 0, .int .i64 0], .array 3 25⟩ := ⟨Try.isAgg195, Try.sizeOf195, fun w => ⟨_, Try.zeroValue195 w, rfl⟩, rfl, Try.runUnderlying195⟩ -- [3]api.Errno
theorem ty_ok196 : TyOk Try.prog 196 ⟨false, 1, [(.map none)], .other⟩ := ⟨Try.isAgg196, Try.sizeOf196, fun w => ⟨_, Try.zeroValue196 w, rfl⟩, rfl, trivial⟩ -- map[route.flown][]route.rate
theorem ty_ok198 : TyOk Try.prog 198 ⟨true, 10, [.slice none 0 0, .slice none 0 0, .int .i64 0, .int .i64 0, .int .i64 0, .int .i64 0, .int .i64 0, .int .i64 0, .int .i64 0, .map none], .struct [(0, 2, true), (2, 7, true), (9, 1, false)]⟩ := ⟨Try.isAgg198, Try.sizeOf198, fun w => ⟨_, Try.zeroValue198 w, rfl⟩, rfl, struct_ok Try.runUnderlying198 ⟨rfl, Try.sizeOf37, Try.isAgg37, ⟨rfl, Try.sizeOf41, Try.isAgg41, ⟨rfl, Try.sizeOf196, Try.isAgg196, trivial⟩⟩⟩⟩ -- route.desk
theorem ty_ok199 : TyOk Try.prog 199 ⟨false, 1, [(.slice none 0 0)], .slice 202⟩ := ⟨Try.isAgg199, Try.sizeOf199, fun w => ⟨_, Try.zeroValue199 w, rfl⟩, rfl, Try.runUnderlying199⟩ -- []route.rate
theorem ty_ok202 : TyOk Try.prog 202 ⟨true, 2, [.int .i64 0, .int .i64 0], .struct [(0, 1, false), (1, 1, false)]⟩ := ⟨Try.isAgg202, Try.sizeOf202, fun w => ⟨_, Try.zeroValue202 w, rfl⟩, rfl, struct_ok Try.runUnderlying202 ⟨rfl, Try.sizeOf3, Try.isAgg3, ⟨rfl, Try.sizeOf3, Try.isAgg3, trivial⟩⟩⟩ -- route.rate
theorem ty_ok208 : TyOk Try.prog 208 ⟨false, 1, [(.int .u64 0)], .int .u64⟩ := ⟨Try.isAgg208, Try.sizeOf208, fun w => ⟨_, Try.zeroValue208 w, rfl⟩, rfl, Try.runUnderlying208⟩ -- uint
theorem ty_ok209 : TyOk Try.prog 209 ⟨false, 1, [(.slice none 0 0)], .slice 211⟩ := ⟨Try.isAgg209, Try.sizeOf209, fun w => ⟨_, Try.zeroValue209 w, rfl⟩, rfl, Try.runUnderlying209⟩ -- []api.Knot
theorem ty_ok211 : TyOk Try.prog 211 ⟨true, 3, [.int .i64 0, .int .i64 0, .int .i64 0], .struct [(0, 1, false), (1, 2, true)]⟩ := ⟨Try.isAgg211, Try.sizeOf211, fun w => ⟨_, Try.zeroValue211 w, rfl⟩, rfl, struct_ok Try.runUnderlying211 ⟨rfl, Try.sizeOf3, Try.isAgg3, ⟨rfl, Try.sizeOf39, Try.isAgg39, trivial⟩⟩⟩ -- api.Knot
theorem ty_ok215 : TyOk Try.prog 215 ⟨false, 1, [(.slice none 0 0)], .slice 25⟩ := ⟨Try.isAgg215, Try.sizeOf215, fun w => ⟨_, Try.zeroValue215 w, rfl⟩, rfl, Try.runUnderlying215⟩ -- []api.Errno
theorem ty_ok218 : TyOk Try.prog 218 ⟨false, 1, [.nilFunc], .other⟩ := ⟨Try.isAgg218, Try.sizeOf218, fun w => ⟨_, Try.zeroValue218 w, rfl⟩, rfl, trivial⟩ -- func(api.Shift, api.Shift) int
theorem ty_ok219 : TyOk Try.prog 219 ⟨true, 2, [.int .i64 0, .bool false], .struct [(0, 1, false), (1, 1, false)]⟩ := ⟨Try.isAgg219, Try.sizeOf219, fun w => ⟨_, Try.zeroValue219 w, rfl⟩, rfl, struct_ok Try.runUnderlying219 ⟨rfl, Try.sizeOf3, Try.isAgg3, ⟨rfl, Try.sizeOf4, Try.isAgg4, trivial⟩⟩⟩ -- struct { kind int; is bool }
theorem ty_ok220 : TyOk Try.prog 220 ⟨true, 6, [.int .i64 0, .bool false, .int .i64 0, .bool false, .int .i64 0, .bool false], .array 3 219⟩ := ⟨Try.isAgg220, Try.sizeOf220, fun w => ⟨_, Try.zeroValue220 w, rfl⟩, rfl, Try.runUnderlying220⟩ -- [3]struct { kind int; is bool }
theorem ty_ok222 : TyOk Try.prog 222 ⟨true, 3, [.int .i64 0, .int .i64 0, .int .i64 0], .struct [(0, 1, false), (1, 1, false), (2, 1, false)]⟩ := ⟨Try.isAgg222, Try.sizeOf222, fun w => ⟨_, Try.zeroValue222 w, rfl⟩, rfl, struct_ok Try.runUnderlying222 ⟨rfl, Try.sizeOf3, Try.isAgg3, ⟨rfl, Try.sizeOf3, Try.isAgg3, ⟨rfl, Try.sizeOf3, Try.isAgg3, trivial⟩⟩⟩⟩ -- api.Tired
theorem ty_ok228 : TyOk Try.prog 228 ⟨true, 2, [.int .i64 0, .int .i64 0], .struct [(0, 1, false), (1, 1, false)]⟩ := ⟨Try.isAgg228, Try.sizeOf228, fun w => ⟨_, Try.zeroValue228 w, rfl⟩, rfl, struct_ok Try.runUnderlying228 ⟨rfl, Try.sizeOf3, Try.isAgg3, ⟨rfl, Try.sizeOf3, Try.isAgg3, trivial⟩⟩⟩ -- api.Put
theorem ty_ok235 : TyOk Try.prog 235 ⟨false, 1, [.nilFunc], .other⟩ := ⟨Try.isAgg235, Try.sizeOf235, fun w => ⟨_, Try.zeroValue235 w, rfl⟩, rfl, trivial⟩ -- func(api.Corner, api.Corner) int
theorem ty_ok237 : TyOk Try.prog 237 ⟨false, 1, [.nilIface], .other⟩ := ⟨Try.isAgg237, Try.sizeOf237, fun w => ⟨_, Try.zeroValue237 w, rfl⟩, rfl, trivial⟩ -- heap.Interface
theorem ty_ok245 : TyOk Try.prog 245 ⟨true, 16, [.int .i64 0, .int .i64 0, .int .i64 0, .int .i64 0, .int .i64 0, .int .i64 0, .int .i64 0, .int .i64 0, .int .i64 0, .int .i64 0, .int .i64 0, .int .i64 0, .int .i64 0, .int .i64 0, .int .i64 0, .int .i64 0], .array 8 39⟩ := ⟨Try.isAgg245, Try.sizeOf245, fun w => ⟨_, Try.zeroValue245 w, rfl⟩, rfl, Try.runUnderlying245⟩ -- [8]api.Span
theorem ty_ok246 : TyOk Try.prog 246 ⟨true, 2, [.int .i64 0, .int .i64 0], .array 2 3⟩ := ⟨Try.isAgg246, Try.sizeOf246, fun w => ⟨_, Try.zeroValue246 w, rfl⟩, rfl, Try.runUnderlying246⟩ -- [2]int
theorem ty_ok249 : TyOk Try.prog 249 ⟨false, 1, [(.slice none 0 0)], .slice 39⟩ := ⟨Try.isAgg249, Try.sizeOf249, fun w => ⟨_, Try.zeroValue249 w, rfl⟩, rfl, Try.runUnderlying249⟩ -- []api.Span
theorem ty_ok261 : TyOk Try.prog 261 ⟨false, 1, [(.slice none 0 0)], .slice 101⟩ := ⟨Try.isAgg261, Try.sizeOf261, fun w => ⟨_, Try.zeroValue261 w, rfl⟩, rfl, Try.runUnderlying261⟩ -- [][]api.Corner
theorem ty_ok265 : TyOk Try.prog 265 ⟨false, 1, [(.int .u64 0)], .int .u64⟩ := ⟨Try.isAgg265, Try.sizeOf265, fun w => ⟨_, Try.zeroValue265 w, rfl⟩, rfl, Try.runUnderlying265⟩ -- uint64
theorem ty_ok281 : TyOk Try.prog 281 ⟨false, 1, [.nilIface], .other⟩ := ⟨Try.isAgg281, Try.sizeOf281, fun w => ⟨_, Try.zeroValue281 w, rfl⟩, rfl, trivial⟩ -- error
theorem ty_ok287 : TyOk Try.prog 287 ⟨false, 1, [(.int .i64 0)], .int .i64⟩ := ⟨Try.isAgg287, Try.sizeOf287, fun w => ⟨_, Try.zeroValue287 w, rfl⟩, rfl, Try.runUnderlying287⟩ -- slices.sortedHint
theorem ty_ok294 : TyOk Try.prog 294 ⟨false, 1, [(.int .u32 0)], .int .u32⟩ := ⟨Try.isAgg294, Try.sizeOf294, fun w => ⟨_, Try.zeroValue294 w, rfl⟩, rfl, Try.runUnderlying294⟩ -- uint32
theorem ty_ok297 : TyOk Try.prog 297 ⟨false, 1, [(.int .u64 0)], .int .u64⟩ := ⟨Try.isAgg297, Try.sizeOf297, fun w => ⟨_, Try.zeroValue297 w, rfl⟩, rfl, Try.runUnderlying297⟩ -- slices.xorshift
theorem ty_ok301 : TyOk Try.prog 301 ⟨false, 1, [(.pointer none)], .ptr 3⟩ := ⟨Try.isAgg301, Try.sizeOf301, fun w => ⟨_, Try.zeroValue301 w, rfl⟩, rfl, Try.runUnderlying301⟩ -- *int
def tys:List (Nat×TyI):=[(3,⟨false,1,[(.int .i64 0)],.int .i64⟩),
 (4,⟨false,1,[(.bool false)],.other⟩),
 (5,⟨false,1,[(.int .u8 0)],.int .u8⟩),
 (9,⟨false,1,[(.string { data:=#[] })],.other⟩),
 (20,⟨false,1,[.nilIface],.other⟩),
 (22,⟨false,1,[(.slice none 0 0)],.slice 3⟩),
 (24,⟨true,3,[.int .i64 0,.int .i64 0,.slice none 0 0],.struct [(0,1,false),(1,1,false),(2,1,false)]⟩),
 (25,⟨false,1,[(.int .i64 0)],.int .i64⟩),
 (34,⟨false,1,[(.slice none 0 0)],.slice 4⟩),
 (35,⟨false,1,[(.slice none 0 0)],.slice 126⟩),
 (37,⟨true,2,[.slice none 0 0,.slice none 0 0],.struct [(0,1,false),(1,1,false)]⟩),
 (39,⟨true,2,[.int .i64 0,.int .i64 0],.struct [(0,1,false),(1,1,false)]⟩),
 (41,⟨true,7,[.int .i64 0,.int .i64 0,.int .i64 0,.int .i64 0,.int .i64 0,.int .i64 0,.int .i64 0],.struct [(0,1,false),(1,1,false),(2,1,false),(3,1,false),(4,1,false),(5,2,true)]⟩),
 (42,⟨false,1,[(.slice none 0 0)],.slice 59⟩),
 (59,⟨false,1,[(.slice none 0 0)],.slice 142⟩),
 (61,⟨true,2,[.int .i64 0,.int .i64 0],.struct [(0,1,false),(1,1,false)]⟩),
 (62,⟨false,1,[(.int .u16 0)],.int .u16⟩),
 (67,⟨true,4,[.int .i64 0,.int .i64 0,.int .i64 0,.int .i64 0],.struct [(0,2,true),(2,2,true)]⟩),
 (80,⟨true,4,[.int .i64 0,.int .i64 0,.int .i64 0,.int .i64 0],.struct [(0,1,false),(1,1,false),(2,1,false),(3,1,false)]⟩),
 (81,⟨false,1,[(.slice none 0 0)],.slice 91⟩),
 (84,⟨false,1,[(.slice none 0 0)],.slice 22⟩),
 (88,⟨true,3,[.int .i64 0,.int .i64 0,.int .i64 0],.struct [(0,1,false),(1,1,false),(2,1,false)]⟩),
 (89,⟨false,1,[(.slice none 0 0)],.slice 88⟩),
 (91,⟨true,3,[.int .i64 0,.int .i64 0,.int .i64 0],.struct [(0,1,false),(1,1,false),(2,1,false)]⟩),
 (92,⟨false,1,[(.slice none 0 0)],.slice 222⟩),
 (96,⟨false,1,[(.slice none 0 0)],.slice 113⟩),
 (98,⟨true,3,[.int .i64 0,.int .i64 0,.int .i64 0],.struct [(0,1,false),(1,1,false),(2,1,false)]⟩),
 (99,⟨false,1,[(.slice none 0 0)],.slice 5⟩),
 (101,⟨false,1,[(.slice none 0 0)],.slice 111⟩),
 (105,⟨true,3,[.int .i64 0,.int .i64 0,.int .i64 0],.struct [(0,1,false),(1,1,false),(2,1,false)]⟩),
 (106,⟨false,1,[(.slice none 0 0)],.slice 105⟩),
 (108,⟨false,1,[(.slice none 0 0)],.slice 228⟩),
 (111,⟨true,2,[.int .i64 0,.int .i64 0],.struct [(0,1,false),(1,1,false)]⟩),
 (113,⟨true,4,[.int .i64 0,.int .i64 0,.int .i64 0,.int .i64 0],.struct [(0,2,true),(2,2,true)]⟩),
 (120,⟨false,1,[.nilFunc],.other⟩),
 (126,⟨true,5,[.int .i64 0,.int .i64 0,.int .i64 0,.int .i64 0,.int .i64 0],.struct [(0,1,false),(1,1,false),(2,1,false),(3,1,false),(4,1,false)]⟩),
 (128,⟨false,1,[(.pointer none)],.ptr 198⟩),
 (134,⟨true,2,[.int .i64 0,.bool false],.struct [(0,1,false),(1,1,false)]⟩),
 (142,⟨true,6,[.int .i64 0,.int .i64 0,.int .i64 0,.int .i64 0,.int .i64 0,.int .i64 0],.struct [(0,1,false),(1,4,true),(5,1,false)]⟩),
 (145,⟨false,1,[.nilFunc],.other⟩),
 (147,⟨true,4,[.int .i64 0,.int .i64 0,.int .i64 0,.int .i64 0],.array 2 39⟩),
 (157,⟨false,1,[.nilFunc],.other⟩),
 (159,⟨false,1,[.nilFunc],.other⟩),
 (165,⟨false,1,[.nilFunc],.other⟩),
 (170,⟨false,1,[.nilFunc],.other⟩),
 (178,⟨false,1,[.nilFunc],.other⟩),
 (180,⟨true,3,[.int .i64 0,.int .i64 0,.int .i64 0],.struct [(0,3,true)]⟩),
 (186,⟨true,3,[.int .i64 0,.int .i64 0,.int .i64 0],.struct [(0,1,false),(1,1,false),(2,1,false)]⟩),
 (188,⟨false,1,[(.slice none 0 0)],.slice 186⟩),
 (191,⟨true,2,[.int .i64 0,.bool false],.struct [(0,1,false),(1,1,false)]⟩),
 (192,⟨true,8,[.int .i64 0,.bool false,.int .i64 0,.bool false,.int .i64 0,.bool false,.int .i64 0,.bool false],.array 4 191⟩),
 (195,⟨true,3,[.int .i64 0,.int .i64 0,.int .i64 0],.array 3 25⟩),
 (196,⟨false,1,[(.map none)],.other⟩),
 (198,⟨true,10,[.slice none 0 0,.slice none 0 0,.int .i64 0,.int .i64 0,.int .i64 0,.int .i64 0,.int .i64 0,.int .i64 0,.int .i64 0,.map none],.struct [(0,2,true),(2,7,true),(9,1,false)]⟩),
 (199,⟨false,1,[(.slice none 0 0)],.slice 202⟩),
 (202,⟨true,2,[.int .i64 0,.int .i64 0],.struct [(0,1,false),(1,1,false)]⟩),
 (208,⟨false,1,[(.int .u64 0)],.int .u64⟩),
 (209,⟨false,1,[(.slice none 0 0)],.slice 211⟩),
 (211,⟨true,3,[.int .i64 0,.int .i64 0,.int .i64 0],.struct [(0,1,false),(1,2,true)]⟩),
 (215,⟨false,1,[(.slice none 0 0)],.slice 25⟩),
 (218,⟨false,1,[.nilFunc],.other⟩),
 (219,⟨true,2,[.int .i64 0,.bool false],.struct [(0,1,false),(1,1,false)]⟩),
 (220,⟨true,6,[.int .i64 0,.bool false,.int .i64 0,.bool false,.int .i64 0,.bool false],.array 3 219⟩),
 (222,⟨true,3,[.int .i64 0,.int .i64 0,.int .i64 0],.struct [(0,1,false),(1,1,false),(2,1,false)]⟩),
 (228,⟨true,2,[.int .i64 0,.int .i64 0],.struct [(0,1,false),(1,1,false)]⟩),
 (235,⟨false,1,[.nilFunc],.other⟩),
 (237,⟨false,1,[.nilIface],.other⟩),
 (245,⟨true,16,[.int .i64 0,.int .i64 0,.int .i64 0,.int .i64 0,.int .i64 0,.int .i64 0,.int .i64 0,.int .i64 0,.int .i64 0,.int .i64 0,.int .i64 0,.int .i64 0,.int .i64 0,.int .i64 0,.int .i64 0,.int .i64 0],.array 8 39⟩),
 (246,⟨true,2,[.int .i64 0,.int .i64 0],.array 2 3⟩),
 (249,⟨false,1,[(.slice none 0 0)],.slice 39⟩),
 (261,⟨false,1,[(.slice none 0 0)],.slice 101⟩),
 (265,⟨false,1,[(.int .u64 0)],.int .u64⟩),
 (281,⟨false,1,[.nilIface],.other⟩),
 (287,⟨false,1,[(.int .i64 0)],.int .i64⟩),
 (294,⟨false,1,[(.int .u32 0)],.int .u32⟩),
 (297,⟨false,1,[(.int .u64 0)],.int .u64⟩),
 (301,⟨false,1,[(.pointer none)],.ptr 3⟩)]
theorem tys_ok:∀ x∈tys,TyOk Try.prog x.1 x.2:=by
 unfold tys
 refine List.forall_mem_cons.2 ⟨ty_ok3,?_⟩
 refine List.forall_mem_cons.2 ⟨ty_ok4,?_⟩
 refine List.forall_mem_cons.2 ⟨ty_ok5,?_⟩
 refine List.forall_mem_cons.2 ⟨ty_ok9,?_⟩
 refine List.forall_mem_cons.2 ⟨ty_ok20,?_⟩
 refine List.forall_mem_cons.2 ⟨ty_ok22,?_⟩
 refine List.forall_mem_cons.2 ⟨ty_ok24,?_⟩
 refine List.forall_mem_cons.2 ⟨ty_ok25,?_⟩
 refine List.forall_mem_cons.2 ⟨ty_ok34,?_⟩
 refine List.forall_mem_cons.2 ⟨ty_ok35,?_⟩
 refine List.forall_mem_cons.2 ⟨ty_ok37,?_⟩
 refine List.forall_mem_cons.2 ⟨ty_ok39,?_⟩
 refine List.forall_mem_cons.2 ⟨ty_ok41,?_⟩
 refine List.forall_mem_cons.2 ⟨ty_ok42,?_⟩
 refine List.forall_mem_cons.2 ⟨ty_ok59,?_⟩
 refine List.forall_mem_cons.2 ⟨ty_ok61,?_⟩
 refine List.forall_mem_cons.2 ⟨ty_ok62,?_⟩
 refine List.forall_mem_cons.2 ⟨ty_ok67,?_⟩
 refine List.forall_mem_cons.2 ⟨ty_ok80,?_⟩
 refine List.forall_mem_cons.2 ⟨ty_ok81,?_⟩
 refine List.forall_mem_cons.2 ⟨ty_ok84,?_⟩
 refine List.forall_mem_cons.2 ⟨ty_ok88,?_⟩
 refine List.forall_mem_cons.2 ⟨ty_ok89,?_⟩
 refine List.forall_mem_cons.2 ⟨ty_ok91,?_⟩
 refine List.forall_mem_cons.2 ⟨ty_ok92,?_⟩
 refine List.forall_mem_cons.2 ⟨ty_ok96,?_⟩
 refine List.forall_mem_cons.2 ⟨ty_ok98,?_⟩
 refine List.forall_mem_cons.2 ⟨ty_ok99,?_⟩
 refine List.forall_mem_cons.2 ⟨ty_ok101,?_⟩
 refine List.forall_mem_cons.2 ⟨ty_ok105,?_⟩
 refine List.forall_mem_cons.2 ⟨ty_ok106,?_⟩
 refine List.forall_mem_cons.2 ⟨ty_ok108,?_⟩
 refine List.forall_mem_cons.2 ⟨ty_ok111,?_⟩
 refine List.forall_mem_cons.2 ⟨ty_ok113,?_⟩
 refine List.forall_mem_cons.2 ⟨ty_ok120,?_⟩
 refine List.forall_mem_cons.2 ⟨ty_ok126,?_⟩
 refine List.forall_mem_cons.2 ⟨ty_ok128,?_⟩
 refine List.forall_mem_cons.2 ⟨ty_ok134,?_⟩
 refine List.forall_mem_cons.2 ⟨ty_ok142,?_⟩
 refine List.forall_mem_cons.2 ⟨ty_ok145,?_⟩
 refine List.forall_mem_cons.2 ⟨ty_ok147,?_⟩
 refine List.forall_mem_cons.2 ⟨ty_ok157,?_⟩
 refine List.forall_mem_cons.2 ⟨ty_ok159,?_⟩
 refine List.forall_mem_cons.2 ⟨ty_ok165,?_⟩
 refine List.forall_mem_cons.2 ⟨ty_ok170,?_⟩
 refine List.forall_mem_cons.2 ⟨ty_ok178,?_⟩
 refine List.forall_mem_cons.2 ⟨ty_ok180,?_⟩
 refine List.forall_mem_cons.2 ⟨ty_ok186,?_⟩
 refine List.forall_mem_cons.2 ⟨ty_ok188,?_⟩
 refine List.forall_mem_cons.2 ⟨ty_ok191,?_⟩
 refine List.forall_mem_cons.2 ⟨ty_ok192,?_⟩
 refine List.forall_mem_cons.2 ⟨ty_ok195,?_⟩
 refine List.forall_mem_cons.2 ⟨ty_ok196,?_⟩
 refine List.forall_mem_cons.2 ⟨ty_ok198,?_⟩
 refine List.forall_mem_cons.2 ⟨ty_ok199,?_⟩
 refine List.forall_mem_cons.2 ⟨ty_ok202,?_⟩
 refine List.forall_mem_cons.2 ⟨ty_ok208,?_⟩
 refine List.forall_mem_cons.2 ⟨ty_ok209,?_⟩
 refine List.forall_mem_cons.2 ⟨ty_ok211,?_⟩
 refine List.forall_mem_cons.2 ⟨ty_ok215,?_⟩
 refine List.forall_mem_cons.2 ⟨ty_ok218,?_⟩
 refine List.forall_mem_cons.2 ⟨ty_ok219,?_⟩
 refine List.forall_mem_cons.2 ⟨ty_ok220,?_⟩
 refine List.forall_mem_cons.2 ⟨ty_ok222,?_⟩
 refine List.forall_mem_cons.2 ⟨ty_ok228,?_⟩
 refine List.forall_mem_cons.2 ⟨ty_ok235,?_⟩
 refine List.forall_mem_cons.2 ⟨ty_ok237,?_⟩
 refine List.forall_mem_cons.2 ⟨ty_ok245,?_⟩
 refine List.forall_mem_cons.2 ⟨ty_ok246,?_⟩
 refine List.forall_mem_cons.2 ⟨ty_ok249,?_⟩
 refine List.forall_mem_cons.2 ⟨ty_ok261,?_⟩
 refine List.forall_mem_cons.2 ⟨ty_ok265,?_⟩
 refine List.forall_mem_cons.2 ⟨ty_ok281,?_⟩
 refine List.forall_mem_cons.2 ⟨ty_ok287,?_⟩
 refine List.forall_mem_cons.2 ⟨ty_ok294,?_⟩
 refine List.forall_mem_cons.2 ⟨ty_ok297,?_⟩
 refine List.forall_mem_cons.2 ⟨ty_ok301,?_⟩
 exact fun x hx=>(List.not_mem_nil hx).elim
theorem app_ok101:AppOk Try.prog 101 111 2 16:=⟨Try.underlying101,⟨Try.t111,_,(by kernel_rfl),rfl,rfl,rfl,rfl⟩,by decide⟩
theorem app_ok108:AppOk Try.prog 108 228 2 16:=⟨Try.underlying108,⟨Try.t228,_,(by kernel_rfl),rfl,rfl,rfl,rfl⟩,by decide⟩
@[reducible] noncomputable def cx (w:World) (N:Nat):Cx:=⟨Try.prog,tys,tys_ok,w,[],N⟩
@[reducible] noncomputable def cxM (M:List Nat) (w:World) (N:Nat):Cx:=⟨Try.prog,tys,tys_ok,w,M,N⟩
section
variable {c:Cx} {F:Fr} {H H':Hp} {K:Value→Hp→Prop} {d:Option Tmp} {ty:TypeId} {pos:String} {af:Array Edge} {g:Option (Nat×Bool)} {C C':List Value} {b:Nat} {tg:Tg} {v:Value}
theorem os_callW {f:Operand} {args:Array Operand} {T:Array TypeId} {k:Nat} {fst cap vs:List Value} (hf:ev F f=some (.func (.func k) ⟨fst⟩ ⟨cap⟩)) (hc:∀ (a:Array Value) (w:World),(callFunc k a).run c.P w=.ok (.enter k a) w)
   (ha:evs F args.toList=some vs) (hp:Pick H b C tg H') (h:∀ D w,Has c.w0 ⟨c.M,D⟩ H w→Calls c.P k ⟨fst++vs++cap⟩ w fun e w'=>e=.returned v∧ExtM [b] w w'∧Blk w' b C' tg)
   (hk:K v ((b,C',tg)::H')):OS c ⟨d,.call ⟨.value f,args,T⟩,ty,pos,af,g⟩ F H K:=
 os_call hf hc ha fun D w hw=>(h D w hw).mono fun e w' ⟨h1,h2,h3⟩=>⟨v,_,h1,hk,(hw.perm hp.perm).wrote h2 h3⟩
theorem enterW {k:FuncId} {fn:Func} {code:Code} {rs:List ResultVar} {args:List Value} {V:Value} (hf:c.P.funcs[k]?=some fn) (hb:fn.body=some code) (hrs:fn.results=⟨rs⟩) (hN:c.N=args.length+(fn.ntmps-args.length)) (hM:c.M=[b]) (hB:Blk c.w0 b C tg)
   (h:T c (WS.own c.P) code (endQ c rs fun v H=>v=V∧HpSub H [(b,C',tg)]) (frOf 0 args) [(b,C,tg)]):Calls c.P k ⟨args⟩ c.w0 fun e w'=>e=.returned V∧ExtM [b] c.w0 w'∧Blk w' b C' tg:=by
 refine (enter hf hb hrs hN (fun d v hv=>(look_frOf args 0 d v hv).2) ?_ h).mono fun e w' ⟨v,H',h1,⟨h2,h3⟩,h4⟩=>⟨by rw [h1,h2],?_,?_⟩
 · rw [hM]
   refine ⟨ExtM.refl _ _,fun x hx=>?_,by simp,List.nodup_nil,fun k hk=>(List.not_mem_nil hk).elim⟩
   obtain rfl:x=_:=by simpa using hx
   exact ⟨.inr (by simp),hB⟩
 · have:=h4.ext;rw [hM] at this;exact this
 · exact ((h4.sub h3).blk _ (List.mem_cons_self ..)).2
end
theorem eqF_cons {P:Program} {w:World} {d:Nat} {xs ys:Array Value} {f:Field} {fs:List Field} {u v:Value} {q:Bool} (hn:(f.name == "_")=false) (hx:(part f.type xs f.offset).run P w=.ok u w) (hy:(part f.type ys f.offset).run P w=.ok v w)
   (he:(Op.equalIn d f.type u v).run P w=.ok q w):(Op.eqFields d xs ys (f::fs)).run P w=if q then (Op.eqFields d xs ys fs).run P w else .ok false w:=by
 have hn':f.name ≠ "_" := by simpa using hn
 simp only [Op.eqFields,hn',ne_eq,not_false_eq_true,if_true,Sem.run_bind,hx,hy,he,Result.andThen_ok]
 cases q<;>simp [Sem.run_pure]
theorem part_cell {P:Program} {w:World} {t o:Nat} {xs:List Value} {v:Value} (ha:(isAgg t).run P w=.ok false w) (hv:xs[o]?=some v):(part t ⟨xs⟩ o).run P w=.ok v w:=by
 simp [part,Sem.run_bind,ha,Result.andThen,go_sem,hv]
theorem eq_int3 {w:World} {d:Nat} {a b:Int}:(Op.equalIn (d+1) 3 (.int .i64 a) (.int .i64 b)).run Try.prog w=.ok (decide (a=b)) w:=by
 rw [run_equalIn_int w d 3 .i64 .i64 a b Try.underlying3]
 rfl
theorem eqF_int {w:World} {d o:Nat} {xs ys:List Value} {f:Field} {fs:List Field} {a b:Int} {q:Bool} (hn:(f.name == "_")=false) (ht:f.type=3) (ho:f.offset=o) (hx:xs[o]?=some (.int .i64 a)) (hy:ys[o]?=some (.int .i64 b))
   (hr:(Op.eqFields (d+1) ⟨xs⟩ ⟨ys⟩ fs).run Try.prog w=.ok q w):(Op.eqFields (d+1) ⟨xs⟩ ⟨ys⟩ (f::fs)).run Try.prog w=.ok (decide (a=b) && q) w:=by
 rw [eqF_cons hn (by rw [ht,ho];exact part_cell (Try.isAgg3 w) hx) (by rw [ht,ho];exact part_cell (Try.isAgg3 w) hy) (by rw [ht];exact eq_int3),hr]
 by_cases h:a=b<;>simp [h]
theorem eqF_nil {w:World} {d:Nat} {xs ys:Array Value}:(Op.eqFields d xs ys []).run Try.prog w=.ok true w:=by simp [Op.eqFields,Sem.run_pure]
section
variable {w:World} {N:Nat} {F:Fr} {H:Hp} {M:List Nat} {d:Option Tmp} {ty t':TypeId} {pos:String} {af:Array Edge} {g:Option (Nat×Bool)} {x y:Operand} {a0 a1 a2 a3 a4 b0 b1 b2 b3 b4:Int}
theorem oq_eqS {t:TypeId} {xs ys:Array Value} {q:Bool} (hm:Try.prog.eqGuardType Try.prog.depth t=false) (he:∀ w,(Op.equalIn 10000 t (.agg xs) (.agg ys)).run Try.prog w=.ok q w) (hx:ev F x=some (.agg xs)) (hy:ev F y=some (.agg ys)) :
   OQ (cxM M w N) ⟨d,.binOp .eql t x y t',ty,pos,af,g⟩ F H (.bool q):=.of fun D a w ha _=>by
 simp only [execOp,ha.ev hx,ha.ev hy,Sem.run_bind,run_eqGuard_agg _ _ _ _ _ _ _ hm,Result.andThen]
 rw [run_eql_struct,he]
 rfl
theorem oq_neS {t:TypeId} {xs ys:Array Value} {q:Bool} (hm:Try.prog.eqGuardType Try.prog.depth t=false) (he:∀ w,(Op.equalIn 10000 t (.agg xs) (.agg ys)).run Try.prog w=.ok q w) (hx:ev F x=some (.agg xs)) (hy:ev F y=some (.agg ys)) :
   OQ (cxM M w N) ⟨d,.binOp .neq t x y t',ty,pos,af,g⟩ F H (.bool (!q)):=.of fun D a w ha _=>by
 simp only [execOp,ha.ev hx,ha.ev hy,Sem.run_bind,run_eqGuard_agg _ _ _ _ _ _ _ hm,Result.andThen]
 rw [run_neq_struct,he]
 rfl
end
theorem oq_eqNil {c:Cx} {F:Fr} {H:Hp} {d:Option Tmp} {ty t t':TypeId} {pos:String} {af:Array Edge} {g:Option (Nat×Bool)} {x y:Operand} {p:Addr} {n cp e s0:Nat} {a0:Bool} {z0:List Value} (ht:tyAt c.tys t=some ⟨a0,s0,z0,.slice e⟩)
   (hx:ev F x=some (.slice (some p) n cp)) (hy:ev F y=some (.slice none 0 0)):OQ c ⟨d,.binOp .eql t x y t',ty,pos,af,g⟩ F H (.bool false):=.of fun D a w ha _=>by
 have hk:=(c.ty ht).kind w
 have e0:(Op.equalIn 10000 t (.slice (some p) n cp) (.slice none 0 0)).run c.P w=.ok false w:=by
   have key:∀ d:Nat,(Op.equalIn (d+1) t (.slice (some p) n cp) (.slice none 0 0)).run c.P w=.ok false w:=fun d=>by
     simp only [Op.equalIn,Sem.run_bind,hk,Result.andThen,Sem.run_pure]
   exact key 9999
 have e:(binOp .eql t (.slice (some p) n cp) (.slice none 0 0)).run c.P w=.ok (.bool false) w:=by
   simp only [binOp,Op.equal,Op.maxDepth,Sem.run_bind,e0,Result.andThen,Sem.run_pure]
 have e1:(eqGuard .eql t x y (.slice (some p) n cp) (.slice none 0 0)).run c.P w=.ok () w:=by simp [eqGuard,go_sem]
 simp only [execOp,ha.ev hx,ha.ev hy,Sem.run_bind,e,e1,Result.andThen,Sem.run_pure]
end Go.Proofs.Ytcjkndjjbjoehaa
namespace Go.Proofs.Ytcjkndjjbjoehaa
open Go.RowKit
attribute [local irreducible] wpG SAny
/-! ### from: are all numbers from lo to hi? -/
structure PredInt (w:World) (g:Nat) (caps:Array Value) (p:Int→Bool):Prop where
 run:∀ args w',(callFunc g args).run Try.prog w'=.ok (.enter g args) w'
 calls:∀ (n:Int) (w':World),Ext w w'→Calls Try.prog g (#[.int .i64 n]++caps) w' fun e w''=>e=.returned (.bool (p n))∧Ext w' w''
/-! ### Reports: are they valid? -/
end Go.Proofs.Ytcjkndjjbjoehaa
namespace Go.Proofs.Ytcjkndjjbjoehaa
open Go.RowKit
theorem Has.blkP {w0:World} {M:Ms} {H H':Hp} {w:World} {b:Nat} {C:List Value} {tg:Tg} (h:Has w0 M H w) (p:Pick H b C tg H'):Blk w b C tg:=(h.blk _ p.mem).2
theorem Has.left {w0:World} {M:Ms} {w:World} {G H:Hp} (h:Has w0 M (G++H) w):Has w0 M G w:=
 ⟨h.ext,fun x hx=>h.blk x (List.mem_append_left _ hx),by have:=h.nodup;rw [List.map_append,List.nodup_append] at this;exact this.1,h.marks⟩
theorem Has.ownG {w0:World} {M:Ms} {H G:Hp} {w:World} (h:Has w0 M H w) (p:HpSub H G):Has w ⟨G.map Prod.fst,[]⟩ G w:=by
 have h':=h.sub p
 exact ⟨ExtM.refl _ _,fun x hx=>⟨.inr (List.mem_map.2 ⟨x,hx,rfl⟩),(h'.blk x hx).2⟩,h'.nodup,List.nodup_nil,fun k hk=>(List.not_mem_nil hk).elim⟩
theorem Has.called {w0:World} {M:Ms} {G R H1:Hp} {w w':World} (h:Has w0 M (G++R) w) (k:Has w ⟨G.map Prod.fst,[]⟩ H1 w'):Has w0 M (H1++R) w':=by
 have hn:=h.nodup
 rw [List.map_append,List.nodup_append] at hn
 have hG:∀ b,b∈G.map Prod.fst→(w0.heap.size≤b∨b∈M.wr)∧∃ C g,Blk w b C g:=fun b hb=>by
   obtain ⟨x,hx,rfl⟩:=List.mem_map.1 hb
   have hh:=h.blk x (List.mem_append_left _ hx)
   exact ⟨hh.1,_,_,hh.2⟩
 refine ⟨⟨k.ext.os.trans h.ext.os,k.ext.tape.trans h.ext.tape,k.ext.output.trans h.ext.output,Nat.le_trans h.ext.size k.ext.size,fun b hb hm=>?_⟩,fun x hx=>?_,?_,h.marks.1,fun d hd=>⟨(h.marks.2 d hd).1,?_⟩⟩
 · rw [k.ext.block b (Nat.lt_of_lt_of_le hb h.ext.size) (fun hg=>by
     rcases (hG b hg).1 with h1|h1
     · omega
     · exact hm h1)]
   exact h.ext.block b hb hm
 · rcases List.mem_append.1 hx with hx|hx
   · have hh:=k.blk x hx
     refine ⟨?_,hh.2⟩
     rcases hh.1 with h1|h1
     · exact .inl (Nat.le_trans h.ext.size h1)
     · exact (hG _ h1).1
   · have hh:=h.blk x (List.mem_append_right _ hx)
     refine ⟨hh.1,hh.2.same (k.ext.block _ hh.2.lt fun hg=>?_)⟩
     exact hn.2.2 _ hg _ (List.mem_map.2 ⟨x,hx,rfl⟩) rfl
 · rw [List.map_append,List.nodup_append]
   refine ⟨k.nodup,hn.2.1,fun a ha b hb e=>?_⟩
   obtain ⟨x,hx,rfl⟩:=List.mem_map.1 ha
   obtain ⟨y,hy,rfl⟩:=List.mem_map.1 hb
   have hlt:=(h.blk y (List.mem_append_right _ hy)).2.lt
   rcases (k.blk x hx).1 with h1|h1
   · omega
   · exact hn.2.2 _ h1 _ (List.mem_map.2 ⟨y,hy,rfl⟩) e
 · have hd':=(h.marks.2 d hd).2
   rw [k.ext.block d (mark_lt hd') (fun hg=>by
     obtain ⟨_,C,g,h1⟩:=hG d hg
     exact mark_ne h1 hd' rfl)]
   exact hd'
theorem HpSub.skipX {x:Nat×List Value×Tg} {H G:Hp} (h:HpSub H G):HpSub (x::H) G:=by
 induction h with
 | nil=>exact .nil
 | cons p _ ih=>exact .cons (.tail p) ih
def HpW (H G:Hp):Prop:=∀ w0 M w,Has w0 M H w→Has w0 M G w
theorem HpSub.w {H G:Hp} (h:HpSub H G):HpW H G:=fun _ _ _ hw=>hw.sub h
theorem HpW.refl (H:Hp):HpW H H:=fun _ _ _ h=>h
theorem HpW.trans {H G K:Hp} (h:HpW H G) (k:HpW G K):HpW H K:=fun _ _ _ hw=>k _ _ _ (h _ _ _ hw)
theorem Blk.pre {w:World} {b:Nat} {C D:List Value} {tg:Tg} (h:Blk w b (C++D) tg):Blk w b C tg:=by
 rcases h with ⟨c,t,e1,e2,e3⟩|⟨e,h⟩
 · exact .inl ⟨c,t,e1,fun o v ho=>e2 o v (by
     have:=(List.getElem?_eq_some_iff.1 ho).1
     rw [List.getElem?_append_left this];exact ho),e3⟩
 · exact .inr ⟨(List.append_eq_nil_iff.1 e).1,h⟩
theorem HpW.pre {b:Nat} {C D:List Value} {tg:Tg} {H:Hp}:HpW ((b,C++D,tg)::H) ((b,C,tg)::H):=fun w0 M w h=>by
 refine ⟨h.ext,fun x hx=>?_,h.nodup,h.marks⟩
 rcases List.mem_cons.1 hx with rfl|hx
 · have h1:=h.blk _ (List.mem_cons_self ..)
   exact ⟨h1.1,h1.2.pre⟩
 · exact h.blk _ (List.mem_cons_of_mem _ hx)
section
variable {c:Cx} {S:WS c.P} {Q:QS} {F:Fr} {H G R:Hp} {x y:Code} {K:Value→Hp→Prop} {d:Option Tmp} {ty:TypeId} {pos:String} {af:Array Edge} {g:Option (Nat×Bool)} {PV:Value→Hp→Prop} {v:Value}
theorem t_subW (hH:HpW H G) (h:T c S x Q F G):T c S x Q F H:=fun D a w ha hw=>h D a w ha (hH _ _ _ hw)
theorem t_fact {P:Prop} (hf:∀ M w,Has c.w0 M H w→P) (h:P→T c S x Q F H):T c S x Q F H:=fun D a w ha hw=>h (hf _ _ hw) D a w ha hw
theorem os_callM {f:Operand} {args:Array Operand} {T:Array TypeId} {k:Nat} {fst cap vs:List Value} (hf:ev F f=some (.func (.func k) ⟨fst⟩ ⟨cap⟩)) (hc:∀ (a:Array Value) (w:World),(callFunc k a).run c.P w=.ok (.enter k a) w)
   (ha:evs F args.toList=some vs) (hp:HpSub H (G++R)) (h:∀ D w,Has c.w0 ⟨c.M,D⟩ H w→Has w ⟨G.map Prod.fst,[]⟩ G w→Calls c.P k ⟨fst++vs++cap⟩ w fun e w'=>∃ v H1,e=.returned v∧PV v H1∧Has w ⟨G.map Prod.fst,[]⟩ H1 w')
   (hk:∀ v H1,PV v H1→K v (H1++R)):OS c ⟨d,.call ⟨.value f,args,T⟩,ty,pos,af,g⟩ F H K:=
 os_call hf hc ha fun D w hw=>(h D w hw ((hw.sub hp).left.ownG (HpSub.refl _))).mono fun e w' ⟨v,H1,h1,h2,h3⟩=>⟨v,_,h1,hk v H1 h2,(hw.sub hp).called h3⟩
theorem enterM {k:FuncId} {fn:Func} {code:Code} {rs:List ResultVar} {args:List Value} (hf:c.P.funcs[k]?=some fn) (hb:fn.body=some code) (hrs:fn.results=⟨rs⟩) (hN:c.N=args.length+(fn.ntmps-args.length)) (hG:Has c.w0 ⟨c.M,[]⟩ G c.w0)
   (h:T c (WS.own c.P) code (endQ c rs fun v H=>∃ H1,PV v H1∧HpW H H1) (frOf 0 args) G):Calls c.P k ⟨args⟩ c.w0 fun e w'=>∃ v H1,e=.returned v∧PV v H1∧Has c.w0 ⟨c.M,[]⟩ H1 w':=
 (enter hf hb hrs hN (fun d v hv=>(look_frOf args 0 d v hv).2) hG h).mono fun e w' ⟨v,H',h1,⟨H1,h2,h3⟩,h4⟩=>⟨v,H1,h1,h2,h3 _ _ _ h4⟩
/-! Interfaces -/
end
end Go.Proofs.Ytcjkndjjbjoehaa
namespace Go.Proofs.Ytcjkndjjbjoehaa
structure Dep where
 seats:Int
 price:Int
 leaves:Int
 state:Int
structure Bk where
 flight:Int
 state:Int
 kept:Int
def depCells (x:Dep):List Value:=[.int .i64 x.seats,.int .i64 x.price,.int .i64 x.leaves,.int .u8 x.state]
def bkCells (x:Bk):List Value:=[.int .i64 x.flight,.int .u8 x.state,.int .i64 x.kept]
def depOk (x:Dep):Bool:=decide (0≤x.seats) && decide (x.seats≤50) && (decide (0≤x.price) && decide (x.price≤1000000)) && (decide (0≤x.leaves) && decide (x.leaves≤1000000)) && decide (x.state≤2)
def isB (f s:Int) (x:Bk):Bool:=decide (x.flight=f) && decide (x.state=s)
def manyV (bk:List Bk) (f s:Int):Int:=((bk.filter (isB f s)).length:Nat)
def feeV (price fee:Int):Int:=(price*fee).tdiv 100
def fitB (g s:Int):Bool:=(decide (g=0) && (decide (s=1) || decide (s=2))) || (decide (g=1) && decide (s=3))
def bookedB (fl:List Dep) (fee:Int) (x:Bk):Bool:=
 if 0≤x.flight∧x.flight<(fl.length:Int) then
   match fl[x.flight.toNat]? with
   | none=>false
   | some d=>if x.state=4 then decide (0≤x.kept) && decide (x.kept≤feeV d.price fee) else fitB d.state x.state && decide (x.kept=0)
 else false
def prc (fl:List Dep) (x:Bk):Int:=match fl[x.flight.toNat]? with|some d=>d.price|none=>0
structure Sum4 where
 held:Int
 earned:Int
 kept:Int
 back:Int
def addB (fl:List Dep) (p:Sum4) (x:Bk):Sum4:=
 if x.state=1∨x.state=2 then ⟨p.held+prc fl x,p.earned,p.kept,p.back⟩
 else if x.state=3 then ⟨p.held,p.earned+prc fl x,p.kept,p.back⟩
 else if x.state=4 then ⟨p.held,p.earned,p.kept+x.kept,p.back+(prc fl x-x.kept)⟩
 else p
def sumsV (fl:List Dep) (bk:List Bk):Sum4:=bk.foldl (addB fl) ⟨0,0,0,0⟩
def seatB (fl:List Dep) (bk:List Bk) (i:Nat):Bool:=match fl[i]? with
 | none=>true
 | some d=>let s:=manyV bk i 1+manyV bk i 3
   decide (s≤d.seats) && (decide (s=d.seats) || decide (manyV bk i 2≤0))
structure Off where
 now:Int
 notice:Int
 fee:Int
 inn:Int
 out:Int
 fl:List Dep
 bk:List Bk
def moneyB (o:Off):Bool:=decide (o.inn=(sumsV o.fl o.bk).held+(sumsV o.fl o.bk).earned+(sumsV o.fl o.bk).kept+(sumsV o.fl o.bk).back) && decide (o.out=(sumsV o.fl o.bk).back)
section
variable {c:Cx} {F:Fr} {H:Hp} {d:Option Tmp} {ty t t':TypeId} {pos:String} {af:Array Edge} {g:Option (Nat×Bool)} {x y:Operand} {k:IntKind} {m n:Int}
theorem oq_leqT (hx:ev F x=some (.int k m)) (hy:ev F y=some (.int k n)) (h:m≤n):OQ c ⟨d,.binOp .leq t x y t',ty,pos,af,g⟩ F H (.bool true):=(oq_leq hx hy).as (by simp [h])
theorem oq_leqF (hx:ev F x=some (.int k m)) (hy:ev F y=some (.int k n)) (h:¬ m≤n):OQ c ⟨d,.binOp .leq t x y t',ty,pos,af,g⟩ F H (.bool false):=(oq_leq hx hy).as (by simp [h])
theorem oq_lssT (hx:ev F x=some (.int k m)) (hy:ev F y=some (.int k n)) (h:m<n):OQ c ⟨d,.binOp .lss t x y t',ty,pos,af,g⟩ F H (.bool true):=(oq_lss hx hy).as (by simp [h])
theorem oq_lssF (hx:ev F x=some (.int k m)) (hy:ev F y=some (.int k n)) (h:¬ m<n):OQ c ⟨d,.binOp .lss t x y t',ty,pos,af,g⟩ F H (.bool false):=(oq_lss hx hy).as (by simp [h])
theorem oq_gtrT (hx:ev F x=some (.int k m)) (hy:ev F y=some (.int k n)) (h:n<m):OQ c ⟨d,.binOp .gtr t x y t',ty,pos,af,g⟩ F H (.bool true):=(oq_gtr hx hy).as (by simp [h])
theorem oq_gtrF (hx:ev F x=some (.int k m)) (hy:ev F y=some (.int k n)) (h:¬ n<m):OQ c ⟨d,.binOp .gtr t x y t',ty,pos,af,g⟩ F H (.bool false):=(oq_gtr hx hy).as (by simp [h])
theorem oq_geqT (hx:ev F x=some (.int k m)) (hy:ev F y=some (.int k n)) (h:n≤m):OQ c ⟨d,.binOp .geq t x y t',ty,pos,af,g⟩ F H (.bool true):=(oq_geq hx hy).as (by simp [h])
theorem oq_geqF (hx:ev F x=some (.int k m)) (hy:ev F y=some (.int k n)) (h:¬ n≤m):OQ c ⟨d,.binOp .geq t x y t',ty,pos,af,g⟩ F H (.bool false):=(oq_geq hx hy).as (by simp [h])
theorem oq_eqlT (hx:ev F x=some (.int k m)) (hy:ev F y=some (.int k n)) (h:m=n):OQ c ⟨d,.binOp .eql t x y t',ty,pos,af,g⟩ F H (.bool true):=(oq_eql hx hy).as (by simp [h])
theorem oq_eqlF (hx:ev F x=some (.int k m)) (hy:ev F y=some (.int k n)) (h:¬ m=n):OQ c ⟨d,.binOp .eql t x y t',ty,pos,af,g⟩ F H (.bool false):=(oq_eql hx hy).as (by simp [h])
theorem oq_neqT (hx:ev F x=some (.int k m)) (hy:ev F y=some (.int k n)) (h:¬ m=n):OQ c ⟨d,.binOp .neq t x y t',ty,pos,af,g⟩ F H (.bool true):=(oq_neq hx hy).as (by simp [h])
theorem oq_neqF (hx:ev F x=some (.int k m)) (hy:ev F y=some (.int k n)) (h:m=n):OQ c ⟨d,.binOp .neq t x y t',ty,pos,af,g⟩ F H (.bool false):=(oq_neq hx hy).as (by simp [h])
end
theorem oq_mulE {c:Cx} {F:Fr} {H:Hp} {d:Option Tmp} {ty t t':TypeId} {pos:String} {af:Array Edge} {g:Option (Nat×Bool)} {x y:Operand} {m n k:Int} (hx:ev F x=some (.int .i64 m)) (hy:ev F y=some (.int .i64 n)) (e:m*n=k) (hk : -9223372036854775808≤k∧k≤9223372036854775807):OQ c ⟨d,.binOp .mul t x y t',ty,pos,af,g⟩ F H (.int .i64 k):=by
 subst e
 exact oq_mul hx hy ⟨hk.1,hk.2⟩
end Go.Proofs.Ytcjkndjjbjoehaa
namespace Go.Proofs.Ytcjkndjjbjoehaa
open Go.RowKit
attribute [local irreducible] OQ OS OX Rd T TL GX GL AL AI RV wpG SAny Calls
def DepsOk (fl:List Dep):Prop:=∀ d∈fl,depOk d=true∧0≤d.state
def BksOk (fl:List Dep) (bk:List Bk):Prop:=∀ x∈bk,0≤x.flight∧x.flight<(fl.length:Int)∧0≤x.kept∧x.kept≤1000000
def u8Cells (z:Int):List Value:=[.int .u8 z]
structure Desk (w:World) (bd:Nat) (o:Off) (A:Option Addr) (cf:Nat) (B:Option Addr) (cb:Nat):Prop where
 now:w.cell? ⟨bd,0,none⟩=some (.int .i64 o.now)
 notice:w.cell? ⟨bd,1,none⟩=some (.int .i64 o.notice)
 fee:w.cell? ⟨bd,2,none⟩=some (.int .i64 o.fee)
 fls:w.cell? ⟨bd,3,none⟩=some (.slice A o.fl.length cf)
 bks:w.cell? ⟨bd,4,none⟩=some (.slice B o.bk.length cb)
 inn:w.cell? ⟨bd,5,none⟩=some (.int .i64 o.inn)
 out:w.cell? ⟨bd,6,none⟩=some (.int .i64 o.out)
 fl:RdS w 4 A o.fl.length (o.fl.map depCells)
 bk:RdS w 3 B o.bk.length (o.bk.map bkCells)
end Go.Proofs.Ytcjkndjjbjoehaa
namespace Go.Proofs.Ytcjkndjjbjoehaa
open Go.RowKit
theorem flatten_at {k:Nat}:∀ {rows:List (List Value)},(∀ r∈rows,r.length=k)→∀ {j:Nat} {u:Value},rows.flatten[j]?=some u→∃ i r j',rows[i]?=some r∧r[j']?=some u∧j=i*k+j'
 | [],_,j,u,h=>by simp at h
 | r::rows,hk,j,u,h=>by
   simp only [List.flatten_cons] at h
   have hr:=hk r (List.mem_cons_self ..)
   by_cases hj:j<r.length
   · rw [List.getElem?_append_left hj] at h
     exact ⟨0,r,j,rfl,h,by simp⟩
   · rw [List.getElem?_append_right (by omega)] at h
     obtain ⟨i,r',j',h1,h2,h3⟩:=flatten_at (fun r hr=>hk r (List.mem_cons_of_mem _ hr)) h
     exact ⟨i+1,r',j',by simpa using h1,h2,by rw [Nat.succ_mul];omega⟩
theorem flatten_len {k:Nat}:∀ {rows:List (List Value)},(∀ r∈rows,r.length=k)→rows.flatten.length=rows.length*k
 | [],_=>by simp
 | r::rows,hk=>by
   rw [List.flatten_cons,List.length_append,hk r (List.mem_cons_self ..),flatten_len fun r hr=>hk r (List.mem_cons_of_mem _ hr),List.length_cons,Nat.succ_mul]
   omega
section
variable {c:Cx} {F:Fr} {H H':Hp} {C:List Value} {K:Value→Hp→Prop} {d:Option Tmp} {ty:TypeId} {pos:String} {af:Array Edge} {g:Option (Nat×Bool)}
theorem append_run0 {g0:Option (Nat×Bool)} {s x:Operand} {t e size bytes c2 n cap gb:Nat} {A:Option Addr} {a:Act} {w:World} (hk:AppOk c.P t e size bytes) (hs:a.eval s=.slice (some ⟨gb,0,none⟩) n cap)
   (hx:a.eval x=.slice A 0 c2) (hn:n≤cap):(execOp a.eval ⟨d,.call ⟨.builtin .append,#[s,x],#[t,t]⟩,ty,pos,af,g0⟩).run c.P w=.ok (.value (.slice (some ⟨gb,0,none⟩) n cap)) w:=by
 obtain ⟨i,z,k1,k2,k3,k4,k5⟩:=hk.info
 have ht:=hk.und
 cases A <;>
 simp [execOp,resolve,invoke,builtin,Sem.run_bind,Sem.run_pure,Result.andThen,hs,hx,Builtin.append_,run_underlying ht,sizeOf,typeInfo,k1,Builtin.lenOf,Builtin.firstCells,loadCells,loadCellsFrom,hn,storeCells]
theorem os_appendRows {s x:Operand} {t e size bytes m c2 n cap gb:Nat} {A:Option Addr} {rows:List (List Value)} (hk:AppOk c.P t e size bytes) (hs:ev F s=some (.slice (some ⟨gb,0,none⟩) n cap)) (hx:ev F x=some (.slice A m c2))
   (hp:Pick H gb C (some (e,size,cap)) H') (hr:∀ D w,Has c.w0 ⟨c.M,D⟩ H w→RdS w size A m rows) (hrk:∀ r∈rows,r.length=size) (hC:C.length=n*size) (h1:∀ r∈rows,∀ u∈r,u.oneCell'=true) (hn:n≤cap) (hb:(n+m)*bytes≤140737488355328) (hmax:n+m≤9223372036854775807)
   (k:∀ b cap',K (.slice (some ⟨b,0,none⟩) (n+m) cap') ((b,C++rows.flatten,some (e,size,cap'))::H')):OS c ⟨d,.call ⟨.builtin .append,#[s,x],#[t,t]⟩,ty,pos,af,g⟩ F H K:=by
 intro D a w ha hw
 have hw':=hw.perm hp.perm
 have hR:=hr D w hw
 have hlen:=hR.len
 by_cases hm:m=0
 · subst hm
   have:rows=[]:=List.eq_nil_of_length_eq_zero hlen
   subst this
   rw [append_run0 (d:=d) (ty:=ty) (pos:=pos) (af:=af) (g0:=g) hk (ha.ev hs) (ha.ev hx) hn]
   exact ⟨_,k gb cap,by simpa using hw'⟩
 · obtain ⟨b2,o2,rfl,_,hc⟩:=hR.at_ (by omega)
   obtain ⟨g',cap',w',r1,r2,r3,r4⟩:=append_run (d:=d) (ty:=ty) (pos:=pos) (af:=af) (g0:=g) (news:=rows.flatten) hk (ha.ev hs) (own_of_blk (hw'.blk _ (List.mem_cons_self ..)).2 hC hk.pos) (ha.ev hx) (by rw [flatten_len hrk,hlen])
     (fun j u hj=>by
       obtain ⟨i,r,j',h2,h3,rfl⟩:=flatten_at hrk hj
       have:=(hc i r h2).2 j' u h3
       rw [Nat.add_assoc] at this
       exact this)
     (fun u hu=>by
       obtain ⟨r,h2,h3⟩:=List.mem_flatten.1 hu
       exact h1 r h2 u h3) (by omega) hb hmax
   rw [r1]
   have he:ExtM [gb] w w':=ExtM.of_grown r3 (fun k e=>by simpa [Value.ownBlock] using e.symm)
   refine ⟨_,k g' cap',?_⟩
   rcases r4 with r4|r4
   · obtain rfl:g'=gb:=by simpa [Value.ownBlock] using r4
     exact hw'.wrote he r2
   · subst r4
     exact (hw'.lost he).fresh' (w:=w) hw.ext.size (fun y hy=>(hw'.blk y (List.mem_cons_of_mem _ hy)).2.lt) r2
end
structure Abide {β:Type} (n0:Nat) (I:β→World→Prop):Prop where
 ext:∀ s A B,I s A→Ext A B→I s B
 put:∀ s A l o o',I s A→n0≤l→A.heap[l]?=some o→o.isCells=false→I s (A.putObj l o')
section
variable {c:Cx} {Q:QS} {F:Fr} {H:Hp} {g:Operand} {ps:Array Tmp} {assign body:Code} {ι κ α β:Type}
def SLV (c:Cx) (k:Code) (R:Fr→Hp→Prop) (F:Fr) (H:Hp):Prop:=(k=.skip∧R F H)∨SL0 c k R F H
structure RangeOkV (c:Cx) (F:Fr) (ns:List Nat) (hk:Hp) (ps:Array Tmp) (assign body:Code) (m:Nat) (encs:α→List Value) (G:List α→α→World→Prop)
   (hp:ι→Hp) (Pi:List α→ι→Prop) (bx:α→β→Hp) (fx:α→β→Fr) (hl:κ→Hp) (Pl:Code→List α→κ→Prop):Prop where
 size:∀ x,(encs x).length=ps.size
 slots:(ps.toList.all fun p=>Nat.blt p c.N)=true
 assign_:∀ (x:α) (W:World),SLV { c with w0:=W,M:=[] } assign (fun F' H'=>∃ bs,FrSub F' (fx x bs)∧HpSub H' (bx x bs)) (parF (ps.toList.zip (encs x)) F) []
 disj:∀ x bs i n W D,Blks n (bx x bs) W→Has c.w0 ⟨c.M,D⟩ (hp i++hk) W→(∀ b∈ns,b<n)→∀ y∈bx x bs,∀ z∈hp i++hk,y.1≠z.1
 body_:∀ (l:Nat) (pre:List α) (x:α) (i:ι) (bs:β) (W:World) (D:List Nat),Pi pre i→Has c.w0 ⟨c.M,D⟩ (bx x bs++hp i++hk) W→G pre x W→(∃ r,W.heap[l]?=some (.loop r)) →
   T { c with w0:=W,M:=(bx x bs++hp i).map Prod.fst } (WS.round c.P l m) body (QB hp Pi hl Pl (pre++[x])) (fx x bs) (bx x bs++hp i)
end
end Go.Proofs.Ytcjkndjjbjoehaa
namespace Go.Proofs.Ytcjkndjjbjoehaa
open Go.RowKit
attribute [local irreducible] OQ OS OX Rd T TL GX GL AL AI RV wpG SAny Calls
structure OfAt (b0 b1 b2 bd:Nat) (B:Option Addr) (nb cb:Nat) (f:Int) (S:Option Addr) (ns cs:Nat) (sts:List Int) (W:World):Prop where
 x0:W.cell? ⟨b0,0,none⟩=some (.pointer (some ⟨bd,0,none⟩))
 x1:W.cell? ⟨b1,0,none⟩=some (.int .i64 f)
 x2:W.cell? ⟨b2,0,none⟩=some (.slice S ns cs)
 st:RdS W 1 S ns (sts.map u8Cells)
 bks:W.cell? ⟨bd,4,none⟩=some (.slice B nb cb)
 bk:∃ bk:List Bk,RdS W 3 B nb (bk.map bkCells)
def clA:Option (Nat×Nat)→Option Addr
 | none=>none
 | some (g,_)=>some ⟨g,0,none⟩
def clC:Option (Nat×Nat)→Nat
 | none=>0
 | some (_,c)=>c
def clH (e s:Nat) (C:List Value):Option (Nat×Nat)→Hp
 | none=>[]
 | some (g,c)=>[(g,C,some (e,s,c))]
end Go.Proofs.Ytcjkndjjbjoehaa
namespace Go.Proofs.Ytcjkndjjbjoehaa
open Go.RowKit
theorem flat_at {α:Type} {f:α→List Value} {s:Nat} (hf:∀ x,(f x).length=s):∀ {l:List α} {i:Nat} {x:α},l[i]?=some x→∀ {j:Nat} {v:Value},(f x)[j]?=some v→((l.map f).flatten)[i*s+j]?=some v
 | [],i,x,h,_,_,_=>by simp at h
 | y::l,0,x,h,j,v,hv=>by
   obtain rfl:y=x:=by simpa using h
   have hj:=(List.getElem?_eq_some_iff.1 hv).1
   rw [List.map_cons,List.flatten_cons,Nat.zero_mul,Nat.zero_add,List.getElem?_append_left hj]
   exact hv
 | y::l,i+1,x,h,j,v,hv=>by
   have h':l[i]?=some x:=by simpa using h
   have:=flat_at hf h' hv
   rw [List.map_cons,List.flatten_cons,List.getElem?_append_right (by rw [hf];rw [Nat.succ_mul];omega),hf]
   rw [show (i+1)*s+j-s=i*s+j by rw [Nat.succ_mul];omega]
   exact this
theorem flat_len {α:Type} {f:α→List Value} {s:Nat} (hf:∀ x,(f x).length=s):∀ (l:List α),((l.map f).flatten).length=l.length*s
 | []=>by simp
 | x::l=>by
   simp only [List.map_cons,List.flatten_cons,List.length_append,hf,flat_len hf l,List.length_cons,Nat.add_mul]
   omega
section
variable {c:Cx} {F:Fr} {H H':Hp} {K:Value→Hp→Prop} {d:Option Tmp} {ty t:TypeId} {pos:String} {af:Array Edge} {g:Option (Nat×Bool)} {x y:Operand} {v:Value} {a0:Bool} {z0:List Value} {k0:TyK} {b o:Nat} {C C':List Value} {tg:Tg}
end
end Go.Proofs.Ytcjkndjjbjoehaa
namespace Go.Proofs.Ytcjkndjjbjoehaa
def TR (c:Cx) (n:Nat) (x:Code) (Q:QS) (F:Fr) (H:Hp):Prop:=∀ D a w,Frm D c.N F a→Has c.w0 ⟨c.M,D⟩ H w→Code.rounds c.P x (cv c Q) n a w
section
variable {c:Cx} {Q:QS} {F:Fr} {H:Hp} {x:Code} {n:Nat}
theorem t_rounds (n:Nat) (h:TR c n x Q F H):T c (WS.own c.P) (.loop x) Q F H:=fun D a w ha hw=>wp_loop_rounds n (h D a w ha hw)
theorem tr_succ (h:T c (WS.own c.P) x (thenQ (fun F' H'=>TR c n x Q F' H') Q) F H):TR c (n+1) x Q F H:=fun D a w ha hw=>by
 rw [rounds_succ]
 refine wp_mono (h D a w ha hw) fun e a w ⟨D,F,H,h1,h2,h3⟩=>?_
 cases e<;>first
   | exact ⟨D,F,H,h1,h2,h3⟩
   | exact h1 D a w h2 h3
theorem tr_id (h:TR c n x Q F H):TR c n x Q F H:=h
end
end Go.Proofs.Ytcjkndjjbjoehaa
namespace Go.Proofs.Ytcjkndjjbjoehaa
open Go.RowKit
attribute [local irreducible] TR OQ OS OX Rd T TL GX GL AL AI RV wpG SAny Calls
theorem isNaN_calls (z:Int) (w:World):Calls Try.prog 187 #[.int .i64 z] w fun e w'=>e=.returned (.bool false)∧Ext w w':=by
 refine enterQ (c:=cx w 6) Try.func187 rfl rfl rfl rfl ?_
 repeat' (first|((with_reducible apply oq_id);first|((with_reducible apply oq_neqF);exact rfl;exact rfl;omega)|(apply oq_fn;exact rfl;first|exact trivial|(and_intros<;>omega)|omega|skip))|((with_reducible apply tl_id);first|(with_reducible apply tl_nil)|((with_reducible apply u_q);(iterate 4 exact rfl)))|((with_reducible apply t_id);first|(with_reducible apply t_seq)|(apply t_region;kernel_rfl)|(with_reducible apply t_ret))|with_reducible apply q_thenN|(with_reducible apply end_ret)|exact rvs_nil|(with_reducible apply rvs_cons)|((with_reducible apply rv_tmp);exact rfl))
 all_goals rfl
def ordV (a b:Int):Int:=if a<b then -1 else if b<a then 1 else 0
theorem cmp_calls (a b:Int) (w:World):Calls Try.prog 160 #[.int .i64 a,.int .i64 b] w fun e w'=>e=.returned (.int .i64 (ordV a b))∧Ext w w':=by
 unfold ordV
 by_cases h1:a<b
 · rw [if_pos h1]
   refine enterQ (c:=cx w 20) Try.func160 rfl rfl rfl rfl ?_
   repeat' (first|((with_reducible apply oq_id);first|((with_reducible apply oq_lssT);exact rfl;exact rfl;omega)|(apply oq_fn;exact rfl;first|exact trivial|(and_intros<;>omega)|omega|skip)|((with_reducible apply oq_call (hc:=Try.call187));exact rfl;exact rfl;exact fun D w1 hw1=>isNaN_calls _ w1))|((with_reducible apply tl_id);first|(with_reducible apply tl_nil)|((with_reducible apply u_q);(iterate 4 exact rfl)))|((with_reducible apply t_id);first|(with_reducible apply t_seq)|(apply t_region;kernel_rfl)|((with_reducible apply t_condT);exact rfl)|((with_reducible apply t_condF);exact rfl)|(with_reducible apply t_ret)|(with_reducible apply t_skip))|with_reducible apply q_thenN|with_reducible apply q_thenR|(with_reducible apply end_ret)|exact rvs_nil|(with_reducible apply rvs_cons)|((with_reducible apply rv_tmp);exact rfl))
   all_goals rfl
 · rw [if_neg h1]
   by_cases h2:b<a
   · rw [if_pos h2]
     refine enterQ (c:=cx w 20) Try.func160 rfl rfl rfl rfl ?_
     repeat' (first|((with_reducible apply oq_id);first|((with_reducible apply oq_lssF);exact rfl;exact rfl;omega)|((with_reducible apply oq_gtrT);exact rfl;exact rfl;omega)|(apply oq_fn;exact rfl;first|exact trivial|(and_intros<;>omega)|omega|skip)|((with_reducible apply oq_call (hc:=Try.call187));exact rfl;exact rfl;exact fun D w1 hw1=>isNaN_calls _ w1))|((with_reducible apply tl_id);first|(with_reducible apply tl_nil)|((with_reducible apply u_q);(iterate 4 exact rfl)))|((with_reducible apply t_id);first|(with_reducible apply t_seq)|(apply t_region;kernel_rfl)|((with_reducible apply t_condT);exact rfl)|((with_reducible apply t_condF);exact rfl)|(with_reducible apply t_ret)|(with_reducible apply t_skip))|with_reducible apply q_thenN|with_reducible apply q_thenR|(with_reducible apply end_ret)|exact rvs_nil|(with_reducible apply rvs_cons)|((with_reducible apply rv_tmp);exact rfl))
     all_goals rfl
   · rw [if_neg h2]
     refine enterQ (c:=cx w 20) Try.func160 rfl rfl rfl rfl ?_
     repeat' (first|((with_reducible apply oq_id);first|((with_reducible apply oq_lssF);exact rfl;exact rfl;omega)|((with_reducible apply oq_gtrF);exact rfl;exact rfl;omega)|(apply oq_fn;exact rfl;first|exact trivial|(and_intros<;>omega)|omega|skip)|((with_reducible apply oq_call (hc:=Try.call187));exact rfl;exact rfl;exact fun D w1 hw1=>isNaN_calls _ w1))|((with_reducible apply tl_id);first|(with_reducible apply tl_nil)|((with_reducible apply u_q);(iterate 4 exact rfl)))|((with_reducible apply t_id);first|(with_reducible apply t_seq)|(apply t_region;kernel_rfl)|((with_reducible apply t_condF);exact rfl)|(with_reducible apply t_ret)|(with_reducible apply t_skip))|with_reducible apply q_thenN|(with_reducible apply end_ret)|exact rvs_nil|(with_reducible apply rvs_cons)|((with_reducible apply rv_tmp);exact rfl))
     all_goals rfl
theorem or_calls (a b:Int) (A:Nat) (cp:Nat) (w:World) (c0:w.cell? ⟨A,0,none⟩=some (.int .i64 a)) (c1:w.cell? ⟨A,1,none⟩=some (.int .i64 b)):Calls Try.prog 159 #[.slice (some ⟨A,0,none⟩) 2 cp] w fun e w'=>e=.returned (.int .i64 (if a=0 then b else a))∧Ext w w':=by
 by_cases ha:a=0
 · rw [if_pos ha]
   by_cases hb:b=0
   · subst hb
     refine enterQ (c:=cx w 18) Try.func159 rfl rfl rfl rfl ?_
     repeat' (first|((with_reducible apply oq_id);first|((with_reducible apply oq_lssT);exact rfl;exact rfl;omega)|((with_reducible apply oq_lssF);exact rfl;exact rfl;omega)|((with_reducible apply oq_neqF);exact rfl;exact rfl;omega)|(apply oq_fn;exact rfl;first|exact trivial|(and_intros<;>omega)|omega|skip)|((with_reducible apply oq_load);exact rfl;exact rfl))|((with_reducible apply tl_id);first|(with_reducible apply tl_nil)|((with_reducible apply u_q);(iterate 4 exact rfl)))|((with_reducible apply rd_id);first|(apply Rd.old;(first|(with_reducible assumption)|exact c0|exact c1|exact c2|exact c3|exact c4|exact c5|exact c6|exact c7|exact c8|exact d0|exact d1|exact d2|exact d3|exact d4|exact d5);first|exact List.not_mem_nil|exact m0|exact m1|exact m2|exact m3|exact m4|exact m5|exact m6|exact m7|exact m8|exact m9))|((with_reducible apply t_id);first|(with_reducible apply t_seq)|(apply t_region;kernel_rfl)|((with_reducible apply t_condT);exact rfl)|((with_reducible apply t_condF);exact rfl)|(with_reducible apply t_ret)|(with_reducible apply t_skip)|(with_reducible apply t_exit)|(with_reducible apply t_block)|(apply t_rounds 8))|with_reducible apply q_thenN|with_reducible apply q_blockN|with_reducible apply q_thenE|((with_reducible apply q_blockE);exact rfl)|(with_reducible apply end_ret)|exact rvs_nil|(with_reducible apply rvs_cons)|((with_reducible apply rv_tmp);exact rfl)|((with_reducible apply tr_id);apply tr_succ))
     all_goals rfl
   · refine enterQ (c:=cx w 18) Try.func159 rfl rfl rfl rfl ?_
     repeat' (first|((with_reducible apply oq_id);first|((with_reducible apply oq_lssT);exact rfl;exact rfl;omega)|((with_reducible apply oq_neqT);exact rfl;exact rfl;omega)|((with_reducible apply oq_neqF);exact rfl;exact rfl;omega)|(apply oq_fn;exact rfl;first|exact trivial|(and_intros<;>omega)|omega|skip)|((with_reducible apply oq_load);exact rfl;exact rfl))|((with_reducible apply tl_id);first|(with_reducible apply tl_nil)|((with_reducible apply u_q);(iterate 4 exact rfl)))|((with_reducible apply rd_id);first|(apply Rd.old;(first|(with_reducible assumption)|exact c0|exact c1|exact c2|exact c3|exact c4|exact c5|exact c6|exact c7|exact c8|exact d0|exact d1|exact d2|exact d3|exact d4|exact d5);first|exact List.not_mem_nil|exact m0|exact m1|exact m2|exact m3|exact m4|exact m5|exact m6|exact m7|exact m8|exact m9))|((with_reducible apply t_id);first|(with_reducible apply t_seq)|(apply t_region;kernel_rfl)|((with_reducible apply t_condT);exact rfl)|((with_reducible apply t_condF);exact rfl)|(with_reducible apply t_ret)|(with_reducible apply t_skip)|(with_reducible apply t_block)|(apply t_rounds 8))|with_reducible apply q_thenN|with_reducible apply q_thenR|with_reducible apply q_blockR|with_reducible apply q_blockN|(with_reducible apply end_ret)|exact rvs_nil|(with_reducible apply rvs_cons)|((with_reducible apply rv_tmp);exact rfl)|((with_reducible apply tr_id);apply tr_succ))
     all_goals rfl
 · rw [if_neg ha]
   refine enterQ (c:=cx w 18) Try.func159 rfl rfl rfl rfl ?_
   repeat' (first|((with_reducible apply oq_id);first|((with_reducible apply oq_lssT);exact rfl;exact rfl;omega)|((with_reducible apply oq_neqT);exact rfl;exact rfl;omega)|(apply oq_fn;exact rfl;first|exact trivial|(and_intros<;>omega)|omega|skip)|((with_reducible apply oq_load);exact rfl;exact rfl))|((with_reducible apply tl_id);first|(with_reducible apply tl_nil)|((with_reducible apply u_q);(iterate 4 exact rfl)))|((with_reducible apply rd_id);first|(apply Rd.old;(first|(with_reducible assumption)|exact c0|exact c1|exact c2|exact c3|exact c4|exact c5|exact c6|exact c7|exact c8|exact d0|exact d1|exact d2|exact d3|exact d4|exact d5);first|exact List.not_mem_nil|exact m0|exact m1|exact m2|exact m3|exact m4|exact m5|exact m6|exact m7|exact m8|exact m9))|((with_reducible apply t_id);first|(with_reducible apply t_seq)|(apply t_region;kernel_rfl)|((with_reducible apply t_condT);exact rfl)|(with_reducible apply t_ret)|(with_reducible apply t_skip)|(with_reducible apply t_block)|(apply t_rounds 8))|with_reducible apply q_thenN|with_reducible apply q_thenR|with_reducible apply q_blockR|(with_reducible apply end_ret)|exact rvs_nil|(with_reducible apply rvs_cons)|((with_reducible apply rv_tmp);exact rfl)|((with_reducible apply tr_id);apply tr_succ))
   all_goals rfl
end Go.Proofs.Ytcjkndjjbjoehaa
namespace Go.Proofs.Ytcjkndjjbjoehaa
section
variable {α:Type} (lt:α→α→Bool)
def mrg:List α→List α→List α
 | [],r=>r
 | a::l,[]=>a::l
 | a::l,b::r=>if lt b a=true then b::mrg (a::l) r else a::mrg l (b::r)
termination_by l r=>l.length+r.length
variable {lt}
theorem mrg_nil (r:List α):mrg lt [] r=r:=by unfold mrg;rfl
theorem mrg_right (l:List α):mrg lt l []=l:=by cases l<;>(unfold mrg;rfl)
theorem mrg_lt {a b:α} {l r:List α} (h:lt b a=true):mrg lt (a::l) (b::r)=b::mrg lt (a::l) r:=by
 rw [mrg,if_pos h]
theorem mrg_ge {a b:α} {l r:List α} (h:lt b a=false):mrg lt (a::l) (b::r)=a::mrg lt l (b::r):=by
 rw [mrg,if_neg (by rw [h];decide)]
theorem mrg_len:∀ (l r:List α),(mrg lt l r).length=l.length+r.length
 | [],r=>by rw [mrg_nil];simp
 | a::l,[]=>by rw [mrg_right];simp
 | a::l,b::r=>by
   cases h:lt b a with
   | true=>rw [mrg_lt h,List.length_cons,mrg_len (a::l) r];simp;omega
   | false=>rw [mrg_ge h,List.length_cons,mrg_len l (b::r)];simp;omega
termination_by l r=>l.length+r.length
theorem mrg_perm:∀ (l r:List α),(mrg lt l r).Perm (l++r)
 | [],r=>by rw [mrg_nil];exact List.Perm.refl _
 | a::l,[]=>by rw [mrg_right,List.append_nil]
 | a::l,b::r=>by
   cases h:lt b a with
   | true=>
     rw [mrg_lt h]
     exact ((mrg_perm (a::l) r).cons b).trans List.perm_middle.symm
   | false=>
     rw [mrg_ge h]
     exact (mrg_perm l (b::r)).cons a
termination_by l r=>l.length+r.length
theorem mrg_split:∀ (u v u' v':List α),(∀ x∈u,∀ y∈v',lt y x=false)→(∀ y∈v,∀ x∈u',lt y x=true)→mrg lt (u++u') (v++v')=mrg lt u v++mrg lt u' v'
 | [],[],u',v',_,_=>by rw [mrg_nil];rfl
 | [],b::v,[],v',_,_=>by rw [mrg_nil,mrg_nil,List.append_nil,mrg_nil]
 | [],b::v,a::u',v',h1,h2=>by
   have ih:=mrg_split [] v (a::u') v' (by simp) (fun y hy=>h2 y (List.mem_cons_of_mem _ hy))
   rw [List.nil_append] at ih ⊢
   rw [List.cons_append,mrg_lt (h2 b List.mem_cons_self a List.mem_cons_self),ih,mrg_nil,mrg_nil]
   rfl
 | a::u,[],u',[],h1,h2=>by rw [List.nil_append,mrg_right,mrg_right,mrg_right]
 | a::u,[],u',b::v',h1,h2=>by
   have ih:=mrg_split u [] u' (b::v') (fun x hx=>h1 x (List.mem_cons_of_mem _ hx)) (by simp)
   rw [List.nil_append] at ih ⊢
   rw [List.cons_append,mrg_ge (h1 a List.mem_cons_self b List.mem_cons_self),ih,mrg_right,mrg_right]
   rfl
 | a::u,b::v,u',v',h1,h2=>by
   cases h:lt b a with
   | true=>
     have ih:=mrg_split (a::u) v u' v' h1 (fun y hy=>h2 y (List.mem_cons_of_mem _ hy))
     rw [mrg_lt h,List.cons_append,List.cons_append,List.cons_append,mrg_lt h,← List.cons_append,ih]
   | false=>
     have ih:=mrg_split u (b::v) u' v' (fun x hx=>h1 x (List.mem_cons_of_mem _ hx)) h2
     rw [mrg_ge h,List.cons_append,List.cons_append,List.cons_append,mrg_ge h,← List.cons_append,ih]
termination_by u v=>u.length+v.length
structure Wo (lt:α→α→Bool):Prop where
 asym:∀ a b,lt a b=true→lt b a=false
 tr:∀ a b c,lt b a=false→lt c b=false→lt c a=false
theorem Wo.irr (h:Wo lt) (a:α):lt a a=false:=by
 cases h1:lt a a with
 | false=>rfl
 | true=>have:=h.asym a a h1;rw [h1] at this;cases this
def Srt (lt:α→α→Bool) (l:List α):Prop:=l.Pairwise fun a b=>lt b a=false
theorem mrg_srt (hw:Wo lt):∀ (l r:List α),Srt lt l→Srt lt r→Srt lt (mrg lt l r)
 | [],r,_,h=>by rw [mrg_nil];exact h
 | a::l,[],h,_=>by rw [mrg_right];exact h
 | a::l,b::r,h1,h2=>by
   have h1':=List.pairwise_cons.1 h1
   have h2':=List.pairwise_cons.1 h2
   cases h:lt b a with
   | true=>
     rw [mrg_lt h]
     refine List.pairwise_cons.2 ⟨fun x hx=>?_,mrg_srt hw (a::l) r h1 h2'.2⟩
     rcases List.mem_append.1 ((mrg_perm (a::l) r).mem_iff.1 hx) with hx|hx
     · rcases List.mem_cons.1 hx with rfl|hx
       · exact hw.asym _ _ h
       · exact hw.tr _ _ _ (hw.asym _ _ h) (h1'.1 x hx)
     · exact h2'.1 x hx
   | false=>
     rw [mrg_ge h]
     refine List.pairwise_cons.2 ⟨fun x hx=>?_,mrg_srt hw l (b::r) h1'.2 h2⟩
     rcases List.mem_append.1 ((mrg_perm l (b::r)).mem_iff.1 hx) with hx|hx
     · exact h1'.1 x hx
     · rcases List.mem_cons.1 hx with rfl|hx
       · exact h
       · exact hw.tr _ _ _ h (h2'.1 x hx)
termination_by l r=>l.length+r.length
theorem mrg_assoc (hw:Wo lt):∀ (s t u:List α),mrg lt s (mrg lt t u)=mrg lt (mrg lt s t) u
 | [],t,u=>by rw [mrg_nil,mrg_nil]
 | a::s,[],u=>by rw [mrg_nil,mrg_right]
 | a::s,b::t,[]=>by rw [mrg_right,mrg_right]
 | a::s,b::t,c::u=>by
   cases hcb:lt c b with
   | false=>
     rw [mrg_ge hcb]
     cases hba:lt b a with
     | true=>
       rw [mrg_lt hba,mrg_lt hba,mrg_ge hcb,mrg_assoc hw (a::s) t (c::u)]
     | false=>
       rw [mrg_ge hba,mrg_ge hba,mrg_ge (hw.tr _ _ _ hba hcb),← mrg_assoc hw s (b::t) (c::u),mrg_ge hcb]
   | true=>
     rw [mrg_lt hcb]
     cases hca:lt c a with
     | true=>
       rw [mrg_lt hca,mrg_assoc hw (a::s) (b::t) u]
       cases hba:lt b a with
       | true=>rw [mrg_lt hba,mrg_lt hcb]
       | false=>rw [mrg_ge hba,mrg_lt hca]
     | false=>
       have hba:lt b a=false:=hw.tr _ _ _ hca (hw.asym _ _ hcb)
       rw [mrg_ge hca,mrg_ge hba,mrg_ge hca,← mrg_assoc hw s (b::t) (c::u),mrg_lt hcb]
termination_by s t u=>s.length+t.length+u.length
theorem mrg_app {u v:List α} (h:∀ x∈u,∀ y∈v,lt y x=false):mrg lt u v=u++v:=by
 have:=mrg_split (lt:=lt) u [] [] v h (by simp)
 simp only [List.append_nil,List.nil_append,mrg_right,mrg_nil] at this
 exact this
theorem mrg_swap {u v:List α} (h:∀ y∈v,∀ x∈u,lt y x=true):mrg lt u v=v++u:=by
 have:=mrg_split (lt:=lt) [] v u [] (by simp) h
 simp only [List.append_nil,List.nil_append,mrg_right,mrg_nil] at this
 exact this
def srt (lt:α→α→Bool) (l:List α):List α:=l.foldl (fun s x=>mrg lt s [x]) []
theorem srt_nil:srt lt []=[]:=rfl
theorem srt_snoc (l:List α) (x:α):srt lt (l++[x])=mrg lt (srt lt l) [x]:=by
 unfold srt;rw [List.foldl_append];rfl
theorem snoc_ind {p:List α→Prop} (h0:p []) (h1:∀ l x,p l→p (l++[x])):∀ l,p l:=fun l=>by
 have:∀ n,∀ l:List α,l.length=n→p l:=by
   intro n
   induction n with
   | zero=>intro l hl;rw [List.length_eq_zero_iff.1 hl];exact h0
   | succ n ih=>
     intro l hl
     have hne:l≠[]:=fun h=>by rw [h] at hl;cases hl
     rw [← List.dropLast_concat_getLast hne]
     refine h1 _ _ (ih _ ?_)
     rw [List.length_dropLast,hl];rfl
 exact this _ l rfl
theorem srt_perm (l:List α):(srt lt l).Perm l:=by
 refine snoc_ind (p:=fun l=>(srt lt l).Perm l) (List.Perm.refl _) (fun l x ih=>?_) l
 rw [srt_snoc]
 exact (mrg_perm _ _).trans (ih.append_right _)
theorem srt_len (l:List α):(srt lt l).length=l.length:=(srt_perm l).length_eq
theorem srt_srt (hw:Wo lt) (l:List α):Srt lt (srt lt l):=by
 refine snoc_ind (p:=fun l=>Srt lt (srt lt l)) List.Pairwise.nil (fun l x ih=>?_) l
 rw [srt_snoc]
 exact mrg_srt hw _ _ ih (List.pairwise_singleton _ _)
theorem srt_app (hw:Wo lt) (l m:List α):mrg lt (srt lt l) (srt lt m)=srt lt (l++m):=by
 refine snoc_ind (p:=fun m=>mrg lt (srt lt l) (srt lt m)=srt lt (l++m)) ?_ (fun m x ih=>?_) m
 · rw [srt_nil,mrg_right,List.append_nil]
 · rw [srt_snoc,mrg_assoc hw,ih,← List.append_assoc,srt_snoc]
def blk (lt:α→α→Bool) (s:Nat):Nat→List α→List α
 | 0,l=>srt lt l
 | f+1,l=>if l.length≤s then srt lt l else srt lt (l.take s)++blk lt s f (l.drop s)
end
structure Pv where
 x:Int
 y:Int
deriving DecidableEq
namespace Pv
def sub (a b:Pv):Pv:=⟨a.x-b.x,a.y-b.y⟩
def add (a b:Pv):Pv:=⟨a.x+b.x,a.y+b.y⟩
def neg (a:Pv):Pv:=⟨-a.x,-a.y⟩
def turn (u v:Pv):Int:=u.x*v.y-u.y*v.x
def dot (u v:Pv):Int:=u.x*v.x+u.y*v.y
end Pv
open Pv
def tri (a b c:Pv):Int:=turn (sub b a) (sub c a)
def pos (u:Pv):Prop:=0<u.x∨(u.x=0∧0<u.y)
instance (u:Pv):Decidable (pos u):=by unfold pos;infer_instance
def ltP (a b:Pv):Bool:=decide (a.x<b.x∨(a.x=b.x∧a.y<b.y))
theorem ltP_iff {a b:Pv}:ltP a b=true↔a.x<b.x∨(a.x=b.x∧a.y<b.y):=by unfold ltP;exact decide_eq_true_iff
theorem ltP_pos {a b:Pv}:ltP a b=true↔pos (sub b a):=by
 rw [ltP_iff];unfold pos sub;constructor<;>(intro h;simp only at *;omega)
/-! Products -/
theorem mul_nn {a b:Int} (ha:0≤a) (hb:0≤b):0≤a*b:=Int.mul_nonneg ha hb
theorem mul_pp {a b:Int} (ha:0<a) (hb:0<b):0<a*b:=Int.mul_pos ha hb
theorem mul_np {a b:Int} (ha:0≤a) (hb:b≤0):a*b≤0:=Int.mul_nonpos_of_nonneg_of_nonpos ha hb
theorem pos_of_mul {a b:Int} (ha:0<a) (h:0<a*b):0<b:=by
 rcases Int.lt_or_le 0 b with k|k
 · exact k
 · have:=mul_np (Int.le_of_lt ha) k
   omega
theorem nn_of_mul {a b:Int} (ha:0<a) (h:0≤a*b):0≤b:=by
 rcases Int.lt_or_le b 0 with k|k
 · have:=mul_pp ha (show 0 < -b by omega)
   rw [Int.mul_neg] at this
   omega
 · exact k
theorem turn_three (u v w:Pv):v.x*turn u w=turn u v*w.x+turn v w*u.x:=by
 unfold turn
 simp only [Int.mul_sub,Int.sub_mul]
 have e1:v.x*(u.x*w.y)=v.x*w.y*u.x:=by rw [Int.mul_comm u.x,Int.mul_assoc]
 have e2:u.x*v.y*w.x=v.y*w.x*u.x:=by rw [Int.mul_comm u.x,Int.mul_assoc,Int.mul_assoc,Int.mul_comm u.x]
 have e3:v.x*(u.y*w.x)=u.y*v.x*w.x:=by rw [← Int.mul_assoc,Int.mul_comm v.x]
 omega
theorem turn_swap (u v:Pv):turn v u=-turn u v:=by
 unfold turn
 rw [Int.mul_comm v.x,Int.mul_comm v.y]
 omega
theorem turn_neg (u v:Pv):turn (neg u) (neg v)=turn u v:=by
 unfold turn neg
 simp only [Int.neg_mul_neg]
theorem turn_add (u v w:Pv):turn u (add v w)=turn u v+turn u w:=by
 unfold turn add
 simp only [Int.mul_add]
 omega
theorem turn_self (u:Pv):turn u u=0:=by
 unfold turn
 rw [Int.mul_comm u.x]
 omega
theorem dot_add (d u v:Pv):dot d (add u v)=dot d u+dot d v:=by
 unfold dot add
 simp only [Int.mul_add]
 omega
theorem dot_sub (d u v:Pv):dot d (sub u v)=dot d u-dot d v:=by
 unfold dot sub
 simp only [Int.mul_sub]
 omega
theorem add_sub (a b:Pv):add a (sub b a)=b:=by
 unfold add sub;cases b;simp only [Pv.mk.injEq];omega
theorem turn_trans {u v w:Pv} (hu:pos u) (hv:pos v) (hw:pos w) (h1:0<turn u v) (h2:0<turn v w):0<turn u w:=by
 have hx:=turn_three u v w
 unfold pos at hu hv hw
 rcases hv with hv|⟨hv,hv'⟩
 · rcases hu with hu|⟨hu,hu'⟩
   · have k1:=mul_nn (Int.le_of_lt h1) (show 0≤w.x by omega)
     have k2:=mul_pp h2 hu
     exact pos_of_mul hv (by omega)
   · have:turn u v=-(u.y*v.x):=by unfold turn;rw [hu];simp
     have:=mul_pp hu' hv
     omega
 · have e:turn v w=-(v.y*w.x):=by unfold turn;rw [hv];simp
   have:=mul_nn (Int.le_of_lt hv') (show 0≤w.x by omega)
   omega
theorem turn_trans0 {u v w:Pv} (hu:pos u) (hv:pos v) (hw:pos w) (h1:0≤turn u v) (h2:0≤turn v w):0≤turn u w:=by
 have hx:=turn_three u v w
 unfold pos at hu hv hw
 rcases hv with hv|⟨hv,hv'⟩
 · have k1:=mul_nn h1 (show 0≤w.x by omega)
   have k2:=mul_nn h2 (show 0≤u.x by omega)
   exact nn_of_mul hv (by omega)
 · have e:turn v w=-(v.y*w.x):=by unfold turn;rw [hv];simp
   have hw0:w.x=0:=by
     rcases Int.lt_or_le 0 w.x with k|k
     · have:=mul_pp hv' k
       omega
     · omega
   have:turn u w=u.x*w.y:=by unfold turn;rw [hw0];simp
   rw [this]
   exact mul_nn (by omega) (by omega)
/-! Chains -/
def Cvx (E:List Pv):Prop:=(∀ e∈E,pos e)∧E.Pairwise fun u v=>0<turn u v
def path (a:Pv):List Pv→List Pv
 | []=>[a]
 | e::E=>a::path (add a e) E
def endP (a:Pv) (E:List Pv):Pv:=E.foldl add a
theorem path_ne (a:Pv) (E:List Pv):path a E≠[]:=by cases E<;>simp [path]
theorem path_hd (a:Pv) (E:List Pv):∃ l,path a E=a::l:=by cases E<;>exact ⟨_,rfl⟩
theorem path_len:∀ (E:List Pv) (a:Pv),(path a E).length=E.length+1
 | [],_=>rfl
 | e::E,a=>by rw [path,List.length_cons,path_len E,List.length_cons]
theorem path_snoc (e:Pv):∀ (E:List Pv) (a:Pv),path a (E++[e])=path a E++[add (endP a E) e]
 | [],a=>rfl
 | x::E,a=>by
   show a::path (add a x) (E++[e])=_
   rw [path_snoc e E]
   rfl
theorem pos_add {u v:Pv} (hu:pos u) (hv:pos v):pos (add u v):=by
 unfold pos add at *
 simp only
 omega
def sumP (E:List Pv):Pv:=E.foldr add ⟨0,0⟩
theorem add_assoc (a b c:Pv):add (add a b) c=add a (add b c):=by
 unfold add;simp only [Pv.mk.injEq];omega
theorem add_comm (a b:Pv):add a b=add b a:=by
 unfold add;simp only [Pv.mk.injEq];omega
theorem add_zero (a:Pv):add a ⟨0,0⟩=a:=by
 unfold add;cases a;simp only [Pv.mk.injEq];omega
theorem endP_sum:∀ (E:List Pv) (a:Pv),endP a E=add a (sumP E)
 | [],a=>(add_zero a).symm
 | e::E,a=>by
   show endP (add a e) E=add a (add e (sumP E))
   rw [endP_sum E,add_assoc]
theorem sumP_app (E F:List Pv):sumP (E++F)=add (sumP E) (sumP F):=by
 induction E with
 | nil=>show sumP F=add ⟨0,0⟩ (sumP F);rw [add_comm,add_zero]
 | cons e E ih=>show add e (sumP (E++F))=add (add e (sumP E)) (sumP F);rw [ih,add_assoc]
theorem sumP_perm {E F:List Pv} (h:E.Perm F):sumP E=sumP F:=by
 induction h with
 | nil=>rfl
 | cons x _ ih=>exact congrArg (add x) ih
 | swap x y l=>show add y (add x _)=add x (add y _);rw [← add_assoc,← add_assoc,add_comm y x]
 | trans _ _ h1 h2=>exact h1.trans h2
theorem mem_path {v:Pv}:∀ {E:List Pv} {a:Pv},v∈path a E↔∃ k,k≤E.length∧v=add a (sumP (E.take k))
 | [],a=>by
   constructor
   · intro h
     rw [List.mem_singleton.1 h]
     exact ⟨0,Nat.le_refl _,(add_zero a).symm⟩
   · rintro ⟨k,_,rfl⟩
     rw [List.take_nil]
     exact List.mem_singleton.2 (add_zero a)
 | e::E,a=>by
   show v∈a::path (add a e) E↔_
   rw [List.mem_cons,mem_path]
   constructor
   · rintro (rfl|⟨k,hk,rfl⟩)
     · exact ⟨0,Nat.zero_le _,(add_zero _).symm⟩
     · refine ⟨k+1,by simpa using hk,?_⟩
       rw [add_assoc]
       rfl
   · rintro ⟨k,hk,rfl⟩
     cases k with
     | zero=>exact .inl (add_zero a)
     | succ k=>
       refine .inr ⟨k,by simpa using hk,?_⟩
       rw [add_assoc]
       rfl
theorem sum_pos:∀ {E:List Pv},(∀ e∈E,pos e)→E≠[]→pos (sumP E)
 | [e],h,_=>by rw [show sumP [e]=e from add_zero e];exact h e (List.mem_cons_self ..)
 | e::f::E,h,_=>by
   show pos (add e (sumP (f::E)))
   exact pos_add (h e (List.mem_cons_self ..)) (sum_pos (fun x hx=>h x (List.mem_cons_of_mem _ hx)) (by simp))
theorem front_sum {α:Type} {f:α→Int}:∀ {l:List α},l.Pairwise (fun a b=>¬ (f a<0∧0<f b))→∃ k,k≤l.length∧((l.take k).map f).sum=(l.map fun a=>max (f a) 0).sum
 | [],_=>⟨0,Nat.le_refl _,rfl⟩
 | a::l,h=>by
   obtain ⟨h1,h2⟩:=List.pairwise_cons.1 h
   by_cases ha:f a<0
   · refine ⟨0,Nat.zero_le _,?_⟩
     have:∀ m:List α,(∀ b∈m,¬ (f a<0∧0<f b))→(m.map fun b=>max (f b) 0).sum=0:=by
       intro m
       induction m with
       | nil=>intro _;rfl
       | cons b m ih=>
         intro hm
         rw [List.map_cons,List.sum_cons,ih fun c hc=>hm c (List.mem_cons_of_mem _ hc)]
         have:=hm b (List.mem_cons_self ..)
         omega
     rw [List.map_cons,List.sum_cons,this l h1,List.take_zero,List.map_nil,List.sum_nil]
     omega
   · obtain ⟨k,hk,e⟩:=front_sum h2
     refine ⟨k+1,by simpa using hk,?_⟩
     rw [List.take_succ_cons,List.map_cons,List.sum_cons,e,List.map_cons,List.sum_cons]
     omega
theorem part_sum {α:Type} {f:α→Int}:∀ (l:List α) (k:Nat),((l.take k).map f).sum≤(l.map fun a=>max (f a) 0).sum
 | [],k=>by rw [List.take_nil];exact Int.le_refl _
 | a::l,0=>by
   rw [List.take_zero,List.map_nil,List.sum_nil,List.map_cons,List.sum_cons]
   have:=part_sum (f:=f) l 0
   rw [List.take_zero,List.map_nil,List.sum_nil] at this
   omega
 | a::l,k+1=>by
   rw [List.take_succ_cons,List.map_cons,List.sum_cons,List.map_cons,List.sum_cons]
   have:=part_sum (f:=f) l k
   omega
theorem dot_sum (d:Pv):∀ (E:List Pv),dot d (sumP E)=(E.map (dot d)).sum
 | []=>by unfold dot sumP;simp
 | e::E=>by
   show dot d (add e (sumP E))=_
   rw [dot_add,dot_sum d E,List.map_cons,List.sum_cons]
theorem dot_front {d u v:Pv} (hd:d.y≤0) (hu:pos u) (hv:pos v) (h:0≤turn u v):¬ (dot d u<0∧0<dot d v):=by
 rintro ⟨h1,h2⟩
 have e:v.x*dot d u-u.x*dot d v=-(d.y*turn u v):=by
   unfold dot turn
   simp only [Int.mul_add,Int.mul_sub]
   have e1:v.x*(d.x*u.x)=u.x*(d.x*v.x):=by rw [Int.mul_left_comm v.x,Int.mul_left_comm u.x,Int.mul_comm v.x]
   have e2:v.x*(d.y*u.y)=d.y*(u.y*v.x):=by rw [Int.mul_left_comm,Int.mul_comm v.x]
   have e3:u.x*(d.y*v.y)=d.y*(u.x*v.y):=by rw [Int.mul_left_comm]
   omega
 have k0:0≤-d.y*turn u v:=mul_nn (by omega) h
 rw [Int.neg_mul] at k0
 unfold pos at hu hv
 have k1:v.x*dot d u≤0:=mul_np (by omega) (by omega)
 have k2:0≤u.x*dot d v:=mul_nn (by omega) (by omega)
 have z1:v.x=0:=by
   rcases Int.lt_or_le 0 v.x with k|k
   · have:=mul_pp k (show 0 < -dot d u by omega)
     rw [Int.mul_neg] at this
     omega
   · omega
 have:dot d v=d.y*v.y:=by unfold dot;rw [z1];simp
 have h3:d.y*v.y≤0:=by
   have:=mul_nn (show 0≤-d.y by omega) (show 0≤v.y by omega)
   rw [Int.neg_mul] at this
   omega
 omega
end Go.Proofs.Ytcjkndjjbjoehaa
namespace Go.Proofs.Ytcjkndjjbjoehaa
open Pv
def pop (p:Pv):List Pv→List Pv
 | b::a::s=>if tri a b p≤0 then pop p (a::s) else b::a::s
 | s=>s
def push (s:List Pv) (p:Pv):List Pv:=p::pop p s
def chn (l:List Pv):List Pv:=l.foldl push []
theorem tri_turn (a b c:Pv):tri a b c=turn (sub b a) (sub c b):=by
 have:sub c a=add (sub b a) (sub c b):=by unfold sub add;simp only [Pv.mk.injEq];omega
 unfold tri
 rw [this,turn_add,turn_self,Int.zero_add]
theorem pop_suf (p:Pv):∀ s,∃ t,s=t++pop p s
 | []=>⟨[],rfl⟩
 | [b]=>⟨[],rfl⟩
 | b::a::s=>by
   unfold pop
   split
   · obtain ⟨t,e⟩:=pop_suf p (a::s)
     exact ⟨b::t,by rw [List.cons_append,← e]⟩
   · exact ⟨[],rfl⟩
theorem pop_ne (p:Pv):∀ s,s≠[]→pop p s≠[]
 | [],h=>absurd rfl h
 | [b],_=>by simp [pop]
 | b::a::s,_=>by
   unfold pop
   split
   · exact pop_ne p (a::s) (by simp)
   · simp
def Tr3:List Pv→Prop
 | c::b::a::s=>0<tri a b c∧Tr3 (b::a::s)
 | _=>True
theorem Tr3.tail {c:Pv}:∀ {s:List Pv},Tr3 (c::s)→Tr3 s
 | [],_=>trivial
 | [_],_=>trivial
 | _::_::_,h=>h.2
theorem pop_tr {p:Pv}:∀ {s:List Pv},Tr3 s→Tr3 (p::pop p s)
 | [],_=>trivial
 | [b],_=>trivial
 | b::a::s,h=>by
   unfold pop
   split
   · exact pop_tr h.tail
   · rename_i hk
     exact ⟨by omega,h⟩
theorem pop_dom {p d:Pv} (hd:d.y≤0):∀ {s:List Pv},s.Pairwise (fun b a=>ltP a b=true)→(∀ b∈s,ltP b p=true)→∀ q∈s,∃ v∈p::pop p s,dot d q≤dot d v
 | [],_,_,q,hq=>nomatch hq
 | [b],_,_,q,hq=>⟨q,List.mem_cons_of_mem _ hq,Int.le_refl _⟩
 | b::a::s,hs,hp,q,hq=>by
   unfold pop
   split
   rotate_left
   · exact ⟨q,List.mem_cons_of_mem _ hq,Int.le_refl _⟩
   rename_i ht
   obtain ⟨h1,h2⟩:=List.pairwise_cons.1 hs
   have ih:=pop_dom hd h2 (fun b hb=>hp b (List.mem_cons_of_mem _ hb))
   rcases List.mem_cons.1 hq with rfl|hq
   rotate_left
   · exact ih q hq
   rw [tri_turn] at ht
   have hab:=ltP_pos.1 (h1 a (List.mem_cons_self ..))
   have hbp:=ltP_pos.1 (hp q (List.mem_cons_self ..))
   have hf:=dot_front (d:=d) hd hbp hab (by rw [turn_swap];omega)
   rw [dot_sub,dot_sub] at hf
   by_cases hk:dot d q≤dot d p
   · exact ⟨p,List.mem_cons_self ..,hk⟩
   · obtain ⟨v,hv,hv2⟩:=ih a (List.mem_cons_self ..)
     exact ⟨v,hv,by omega⟩
structure ChO (l s:List Pv):Prop where
 inc:s.Pairwise fun b a=>ltP a b=true
 tr:Tr3 s
 sub:∀ v∈s,v∈l
 dom:∀ d:Pv,d.y≤0→∀ q∈l,∃ v∈s,dot d q≤dot d v
 top:s.head?=l.getLast?
 bot:s.getLast?=l.head?
theorem chn_snoc (l:List Pv) (p:Pv):chn (l++[p])=p::pop p (chn l):=by
 unfold chn
 rw [List.foldl_append]
 rfl
theorem chn_ok:∀ (l:List Pv),l.Pairwise (fun a b=>ltP a b=true)→ChO l (chn l):=fun l=>by
 refine snoc_ind (p:=fun l=>l.Pairwise (fun a b=>ltP a b=true)→ChO l (chn l)) ?_ ?_ l
 · exact fun _=>⟨List.Pairwise.nil,trivial,fun v h=>h,fun d _ q h=>(nomatch h),rfl,rfl⟩
 · intro l p ih hl
   obtain ⟨h1,_,h3⟩:=List.pairwise_append.1 hl
   have ih:=ih h1
   rw [chn_snoc]
   obtain ⟨t,ht⟩:=pop_suf p (chn l)
   have hm:∀ v∈pop p (chn l),v∈chn l:=fun v hv=>by rw [ht];exact List.mem_append_right _ hv
   have hlp:∀ v∈l,ltP v p=true:=fun v hv=>h3 v hv p (List.mem_singleton.2 rfl)
   refine ⟨List.pairwise_cons.2 ⟨fun v hv=>hlp v (ih.sub v (hm v hv)),?_⟩,pop_tr ih.tr,?_,?_,?_,?_⟩
   · have:=ih.inc
     rw [ht] at this
     exact (List.pairwise_append.1 this).2.1
   · intro v hv
     rcases List.mem_cons.1 hv with rfl|hv
     · exact List.mem_append_right _ (List.mem_singleton.2 rfl)
     · exact List.mem_append_left _ (ih.sub v (hm v hv))
   · intro d hd q hq
     rcases List.mem_append.1 hq with hq|hq
     · obtain ⟨v,hv,hv2⟩:=ih.dom d hd q hq
       obtain ⟨u,hu,hu2⟩:=pop_dom hd ih.inc (fun b hb=>hlp b (ih.sub b hb)) v hv
       exact ⟨u,hu,by omega⟩
     · exact ⟨p,List.mem_cons_self ..,by rw [List.mem_singleton.1 hq];exact Int.le_refl _⟩
   · simp
   · cases hc:chn l with
     | nil=>
       have:l=[]:=by
         cases l with
         | nil=>rfl
         | cons a l=>
           have:=ih.bot
           rw [hc] at this
           cases this
       subst this
       rfl
     | cons c s=>
       have hne:=pop_ne p (chn l) (by rw [hc];simp)
       have hl0:l≠[]:=fun e=>by
         rw [e] at hc
         cases hc
       rw [← hc,List.head?_append,← ih.bot]
       have e1:(p::pop p (chn l)).getLast?=(pop p (chn l)).getLast?:=by
         rw [List.getLast?_cons]
         cases hx:(pop p (chn l)).getLast? with
         | none=>exact absurd (List.getLast?_eq_none_iff.1 hx) hne
         | some z=>rfl
       have e2:(chn l).getLast?=(pop p (chn l)).getLast?:=by
         conv=>lhs;rw [ht]
         rw [List.getLast?_append]
         cases hx:(pop p (chn l)).getLast? with
         | none=>exact absurd (List.getLast?_eq_none_iff.1 hx) hne
         | some z=>rfl
       rw [e1,e2]
       cases hx:(pop p (chn l)).getLast? with
       | none=>exact absurd (List.getLast?_eq_none_iff.1 hx) hne
       | some z=>rfl
theorem cvx_snoc {E:List Pv} {g:Pv} (h:Cvx E) (hg:pos g) (hl:∀ f,E.getLast?=some f→0<turn f g):Cvx (E++[g]):=by
 refine ⟨fun e he=>?_,List.pairwise_append.2 ⟨h.2,by simp,fun u hu v hv=>?_⟩⟩
 · rcases List.mem_append.1 he with he|he
   · exact h.1 e he
   · rw [List.mem_singleton.1 he];exact hg
 · rw [List.mem_singleton.1 hv]
   rcases List.eq_nil_or_concat E with rfl|⟨E',f,rfl⟩<;>(try rw [List.concat_eq_append] at *)
   · cases hu
   · have hf:=hl f (by simp)
     rcases List.mem_append.1 hu with hu|hu
     · have h2:=(List.pairwise_append.1 h.2).2.2 u hu f (List.mem_singleton.2 rfl)
       exact turn_trans (h.1 u (List.mem_append_left _ hu)) (h.1 f (List.mem_append_right _ (List.mem_singleton.2 rfl))) hg h2 hf
     · rw [List.mem_singleton.1 hu];exact hf
theorem endP_snoc (a e:Pv) (E:List Pv):endP a (E++[e])=add (endP a E) e:=by
 unfold endP
 rw [List.foldl_append]
 rfl
theorem path_of:∀ {s:List Pv},s≠[]→s.Pairwise (fun b a=>ltP a b=true)→Tr3 s→∃ a E,s.reverse=path a E∧Cvx E∧s.head?=some (endP a E)∧s.getLast?=some a∧(∀ b a' t,s=b::a'::t→E.getLast?=some (sub b a'))∧(∀ b,s=[b]→E=[])
 | [],h,_,_=>absurd rfl h
 | [x],_,_,_=>⟨x,[],rfl,⟨fun e h=>(nomatch h),List.Pairwise.nil⟩,rfl,rfl,fun b a' t h=>by simp at h,fun _ _=>rfl⟩
 | c::b::s,_,hs,ht=>by
   obtain ⟨h1,h2⟩:=List.pairwise_cons.1 hs
   obtain ⟨a,E,e1,e2,e3,e4,e5,e6⟩:=path_of (s:=b::s) (by simp) h2 ht.tail
   have hb:b=endP a E:=by simpa using e3
   refine ⟨a,E++[sub c b],?_,cvx_snoc e2 (ltP_pos.1 (h1 b (List.mem_cons_self ..))) fun f hf=>?_,?_,?_,?_,fun x h=>by simp at h⟩
   · rw [List.reverse_cons,e1,path_snoc,← hb,add_sub]
   · cases s with
     | nil=>rw [e6 b rfl] at hf;cases hf
     | cons a' t=>
       rw [e5 b a' t rfl] at hf
       obtain rfl:=Option.some.inj hf
       have:=ht.1
       rw [tri_turn] at this
       exact this
   · rw [endP_snoc,← hb,add_sub];rfl
   · rw [List.getLast?_cons,e4];rfl
   · intro x y t h
     simp only [List.cons.injEq] at h
     obtain ⟨rfl,rfl,_⟩:=h
     simp
structure Low (l:List Pv) (a:Pv) (E:List Pv):Prop where
 cvx:Cvx E
 hd:l.head?=some a
 lst:l.getLast?=some (endP a E)
 sub:∀ v∈path a E,v∈l
 dom:∀ d:Pv,d.y≤0→∀ q∈l,∃ v∈path a E,dot d q≤dot d v
theorem low_of {l:List Pv} (hne:l≠[]) (hl:l.Pairwise fun a b=>ltP a b=true):∃ a E,(chn l).reverse=path a E∧Low l a E:=by
 have h:=chn_ok l hl
 have hn:chn l≠[]:=fun e=>by
   have:=h.top
   rw [e] at this
   exact hne (List.getLast?_eq_none_iff.1 this.symm)
 obtain ⟨a,E,e1,e2,e3,e4,_⟩:=path_of hn h.inc h.tr
 refine ⟨a,E,e1,e2,h.bot ▸ e4,h.top ▸ e3,fun v hv=>?_,fun d hd q hq=>?_⟩
 · rw [← e1] at hv
   exact h.sub v (List.mem_reverse.1 hv)
 · obtain ⟨v,hv,hv2⟩:=h.dom d hd q hq
   exact ⟨v,by rw [← e1];exact List.mem_reverse.2 hv,hv2⟩
theorem dotn (e g:Pv):dot ⟨e.y,-e.x⟩ g=-turn e g:=by
 unfold dot turn
 simp only [Int.neg_mul]
 omega
theorem pos_ne {u:Pv} (h:pos u):u≠⟨0,0⟩:=fun e=>by subst e;unfold pos at h;simp only at h;omega
theorem Cvx.tail {e:Pv} {E:List Pv} (h:Cvx (e::E)):Cvx E:=⟨fun x hx=>h.1 x (List.mem_cons_of_mem _ hx),(List.pairwise_cons.1 h.2).2⟩
theorem mem_path_hd (a:Pv) (E:List Pv):a∈path a E:=by cases E<;>exact List.mem_cons_self ..
theorem mem_path_tl {a e v:Pv} {E:List Pv} (h:v∈path (add a e) E):v∈path a (e::E):=List.mem_cons_of_mem _ h
theorem max_sum {α:Type} {f:α→Int}:∀ {l:List α},(∀ x∈l,0≤f x)→(l.map fun a=>max (f a) 0).sum=(l.map f).sum
 | [],_=>rfl
 | a::l,h=>by
   rw [List.map_cons,List.sum_cons,List.map_cons,List.sum_cons,max_sum fun x hx=>h x (List.mem_cons_of_mem _ hx)]
   have:=h a (List.mem_cons_self ..)
   omega
theorem max_sum0 {α:Type} {f:α→Int}:∀ {l:List α},(∀ x∈l,f x≤0)→(l.map fun a=>max (f a) 0).sum=0
 | [],_=>rfl
 | a::l,h=>by
   rw [List.map_cons,List.sum_cons,max_sum0 fun x hx=>h x (List.mem_cons_of_mem _ hx)]
   have:=h a (List.mem_cons_self ..)
   omega
theorem edge_max {E1 E2:List Pv} {e a:Pv} (h:Cvx (E1++e::E2)):∀ w∈path a (E1++e::E2),dot ⟨e.y,-e.x⟩ w≤dot ⟨e.y,-e.x⟩ (endP a E1):=by
 intro w hw
 obtain ⟨k,_,rfl⟩:=mem_path.1 hw
 rw [endP_sum,dot_add,dot_add,dot_sum,dot_sum]
 have h1:=part_sum (f:=dot ⟨e.y,-e.x⟩) (E1++e::E2) k
 have h2:=List.pairwise_append.1 h.2
 have h3:∀ g∈E1,0≤dot ⟨e.y,-e.x⟩ g:=fun g hg=>by
   have:=h2.2.2 g hg e (List.mem_cons_self ..)
   rw [dotn,turn_swap]
   omega
 have h4:∀ g∈e::E2,dot ⟨e.y,-e.x⟩ g≤0:=fun g hg=>by
   rw [dotn]
   rcases List.mem_cons.1 hg with rfl|hg
   · rw [turn_self];omega
   · have:=(List.pairwise_cons.1 h2.2.1).1 g hg
     omega
 rw [List.map_append,List.sum_append,max_sum h3,max_sum0 h4] at h1
 omega
theorem par_pos {u g v:Pv} (hu:pos u) (hg:pos g) (hv:pos v) (h0:turn u g=0) (h1:0<turn u v):0<turn g v:=by
 have e:=turn_three g u v
 rw [turn_swap u g,h0] at e
 unfold pos at hu hg hv
 rcases hu with hu|⟨hu,hu'⟩
 · have hgx:0<g.x:=by
     rcases hg with hg|⟨hg,hg'⟩
     · exact hg
     · have:turn u g=u.x*g.y:=by unfold turn;rw [hg];simp
       have:=mul_pp hu hg'
       omega
   have:=mul_pp h1 hgx
   exact pos_of_mul hu (by omega)
 · have:turn u v=-(u.y*v.x):=by unfold turn;rw [hu];simp
   have:=mul_nn (Int.le_of_lt hu') (show 0≤v.x by omega)
   omega
def Domd (P Q:List Pv):Prop:=∀ d:Pv,d.y≤0→∀ v∈Q,∃ w∈P,dot d v≤dot d w
theorem add_left {a b c:Pv} (h:add a b=add a c):b=c:=by
 unfold add at h;cases b;cases c;simp only [Pv.mk.injEq] at h ⊢;omega
theorem not_short {e f a:Pv} {E F:List Pv} (hE:Cvx (e::E)) (hF:Cvx (f::F)) (he:endP a (e::E)=endP a (f::F)) (h0:turn e f=0) (hd:Domd (path a (e::E)) (path a (f::F))) (hp:pos (sub f e)):False:=by
 have pe:=hE.1 e (List.mem_cons_self ..)
 have hfe:f=add e (sub f e):=(add_sub e f).symm
 cases E with
 | nil=>
   rw [endP_sum,endP_sum] at he
   have h1:=add_left he
   rw [show sumP [e]=e from add_zero e,show sumP (f::F)=add f (sumP F) from rfl,hfe,add_assoc] at h1
   have h2:add e ⟨0,0⟩=add e (add (sub f e) (sumP F)):=by rw [add_zero];exact h1
   have h3:=add_left h2
   cases F with
   | nil=>
     rw [show sumP ([]:List Pv)=⟨0,0⟩ from rfl,add_zero] at h3
     exact pos_ne hp h3.symm
   | cons g F=>
     exact pos_ne (pos_add hp (sum_pos (fun x hx=>hF.1 x (List.mem_cons_of_mem _ hx)) (by simp))) h3.symm
 | cons e2 E=>
   have p2:=hE.1 e2 (List.mem_cons_of_mem _ (List.mem_cons_self ..))
   have t2:=(List.pairwise_cons.1 hE.2).1 e2 (List.mem_cons_self ..)
   have hg:turn e (sub f e)=0:=by
     have:=turn_add e e (sub f e)
     rw [add_sub,turn_self] at this
     omega
   have hgt:=par_pos pe hp p2 hg t2
   obtain ⟨w,hw,hw2⟩:=hd ⟨e2.y,-e2.x⟩ (by unfold pos at p2;simp only;omega) (add a f) (mem_path_tl (mem_path_hd _ _))
   have:=edge_max (E1:=[e]) (e:=e2) (E2:=E) (a:=a) hE w hw
   rw [show endP a [e]=add a e from rfl,dot_add] at this
   have e3:dot ⟨e2.y,-e2.x⟩ (sub f e)=turn (sub f e) e2:=by rw [dotn,turn_swap e2 (sub f e)]
   have e4:dot ⟨e2.y,-e2.x⟩ f=dot ⟨e2.y,-e2.x⟩ e+dot ⟨e2.y,-e2.x⟩ (sub f e):=by rw [← dot_add,add_sub]
   rw [dot_add] at hw2
   omega
theorem sub_pos {e f:Pv} (h:e≠f):pos (sub f e)∨pos (sub e f):=by
 unfold pos sub
 simp only
 have:¬ (e.x=f.x∧e.y=f.y):=fun k=>h (by cases e;cases f;simp only at k;rw [Pv.mk.injEq];exact k)
 omega
theorem path_uniq:∀ {E F:List Pv} {a:Pv},Cvx E→Cvx F→endP a E=endP a F→Domd (path a E) (path a F)→Domd (path a F) (path a E)→E=F
 | [],[],_,_,_,_,_,_=>rfl
 | [],f::F,a,_,hF,he,_,_=>by
   rw [endP_sum,endP_sum] at he
   exact absurd (add_left he).symm (pos_ne (sum_pos hF.1 (by simp)))
 | e::E,[],a,hE,_,he,_,_=>by
   rw [endP_sum,endP_sum] at he
   exact absurd (add_left he) (pos_ne (sum_pos hE.1 (by simp)))
 | e::E,f::F,a,hE,hF,he,h1,h2=>by
   have pe:=hE.1 e (List.mem_cons_self ..)
   have pf:=hF.1 f (List.mem_cons_self ..)
   have k:∀ {e f:Pv} {E F:List Pv},Cvx (e::E)→Domd (path a (e::E)) (path a (f::F))→0≤turn e f:=by
     intro e f E F hE hd
     have pe:=hE.1 e (List.mem_cons_self ..)
     obtain ⟨w,hw,hw2⟩:=hd ⟨e.y,-e.x⟩ (by unfold pos at pe;simp only;omega) (add a f) (mem_path_tl (mem_path_hd _ _))
     have:=edge_max (E1:=[]) (e:=e) (E2:=E) (a:=a) hE w hw
     rw [show endP a []=a from rfl] at this
     rw [dot_add,dotn e f] at hw2
     omega
   have k1:=k hE h1
   have k2:=k hF h2
   rw [turn_swap] at k2
   have h0:turn e f=0:=by omega
   have hef:e=f:=by
     by_cases h:e=f
     · exact h
     · rcases sub_pos h with hp|hp
       · exact (not_short hE hF he h0 h1 hp).elim
       · exact (not_short hF hE he.symm (by rw [turn_swap];omega) h2 hp).elim
   subst hef
   have tr:∀ {E F:List Pv},Cvx (e::F)→Domd (path a (e::E)) (path a (e::F))→Domd (path (add a e) E) (path (add a e) F):=by
     intro E F hF hd d hdy v hv
     obtain ⟨w,hw,hw2⟩:=hd d hdy v (mem_path_tl hv)
     rcases List.mem_cons.1 hw with rfl|hw
     · refine ⟨_,mem_path_hd _ _,?_⟩
       rw [dot_add]
       by_cases hde:dot d e<0
       · obtain ⟨n,_,rfl⟩:=mem_path.1 hv
         rw [dot_add,dot_add,dot_sum]
         have h5:=part_sum (f:=dot d) F n
         have h6:∀ g∈F,dot d g≤0:=fun g hg=>by
           have:=dot_front (d:=d) hdy pe (hF.1 g (List.mem_cons_of_mem _ hg)) (Int.le_of_lt ((List.pairwise_cons.1 hF.2).1 g hg))
           omega
         rw [max_sum0 h6] at h5
         omega
       · omega
     · exact ⟨w,hw,hw2⟩
   rw [path_uniq (E:=E) (F:=F) (a:=add a e) hE.tail hF.tail he (tr hF h1) (tr hE h2)]
/-! The other side -/
theorem neg_neg (a:Pv):neg (neg a)=a:=by unfold neg;cases a;simp
theorem tri_neg (a b c:Pv):tri (neg a) (neg b) (neg c)=tri a b c:=by
 have e:∀ a b:Pv,sub (neg a) (neg b)=neg (sub a b):=fun a b=>by unfold sub neg;simp only [Pv.mk.injEq];omega
 unfold tri
 rw [e,e,turn_neg]
theorem pop_neg (p:Pv):∀ s:List Pv,pop (neg p) (s.map neg)=(pop p s).map neg
 | []=>rfl
 | [b]=>rfl
 | b::a::s=>by
   show (if tri (neg a) (neg b) (neg p)≤0 then pop (neg p) ((a::s).map neg) else neg b::neg a::s.map neg)=_
   rw [tri_neg,pop_neg p (a::s)]
   conv=>rhs;unfold pop
   split<;>rfl
theorem chn_neg (l:List Pv):chn (l.map neg)=(chn l).map neg:=by
 refine snoc_ind (p:=fun l=>chn (l.map neg)=(chn l).map neg) rfl (fun l x ih=>?_) l
 rw [List.map_append,List.map_singleton,chn_snoc,chn_snoc,ih,pop_neg]
 rfl
theorem add_neg (a b:Pv):add (neg a) (neg b)=neg (add a b):=by unfold add neg;simp only [Pv.mk.injEq];omega
theorem path_neg:∀ (E:List Pv) (a:Pv),(path a E).map neg=path (neg a) (E.map neg)
 | [],_=>rfl
 | e::E,a=>by
   show neg a::(path (add a e) E).map neg=neg a::path (add (neg a) (neg e)) (E.map neg)
   rw [path_neg,add_neg]
theorem endP_neg:∀ (E:List Pv) (a:Pv),neg (endP a E)=endP (neg a) (E.map neg)
 | [],_=>rfl
 | e::E,a=>by
   show neg (endP (add a e) E)=endP (add (neg a) (neg e)) (E.map neg)
   rw [endP_neg,add_neg]
theorem dot_nn (d u:Pv):dot (neg d) (neg u)=dot d u:=by unfold dot neg;simp only [Int.neg_mul_neg]
theorem ltP_neg (a b:Pv):ltP (neg a) (neg b)=ltP b a:=by
 unfold ltP neg;simp only;congr 1;rw [eq_iff_iff];omega
def hulI (l:List Pv):List Pv:=if l.length<2 then l else (chn l).reverse.dropLast++(chn l.reverse).reverse.dropLast
structure Rg (r:List Pv) (a:Pv) (E F:List Pv):Prop where
 lo:Cvx E
 up:Cvx (F.map neg)
 cl:endP (endP a E) F=a
 eq:r=if E=[] then [a] else (path a E).dropLast++(path (endP a E) F).dropLast
 d0:∀ d:Pv,d.y≤0→∀ v∈r,∃ w∈path a E,dot d v≤dot d w
 d1:∀ d:Pv,0≤d.y→∀ v∈r,∃ w∈path (endP a E) F,dot d v≤dot d w
theorem path_last:∀ (E:List Pv) (a:Pv),(path a E).dropLast++[endP a E]=path a E
 | [],_=>rfl
 | e::E,a=>by
   obtain ⟨l,hl⟩:=path_hd (add a e) E
   show (a::path (add a e) E).dropLast++[endP (add a e) E]=a::path (add a e) E
   rw [hl,List.dropLast_cons_cons,← hl,List.cons_append,path_last E (add a e)]
theorem mem_path_last (E:List Pv) (a:Pv):endP a E∈path a E:=by
 rw [← path_last E a];exact List.mem_append_right _ (List.mem_singleton.2 rfl)
theorem map_neg_neg (l:List Pv):(l.map neg).map neg=l:=by
 rw [List.map_map]
 conv=>rhs;rw [← List.map_id l]
 exact List.map_congr_left fun x _=>neg_neg x
theorem sumP_neg (E:List Pv):sumP (E.map neg)=neg (sumP E):=by
 induction E with
 | nil=>rfl
 | cons e E ih=>show add (neg e) (sumP (E.map neg))=neg (add e (sumP E));rw [ih,add_neg]
namespace Rg
variable {r:List Pv} {a:Pv} {E F:List Pv}
theorem sumz (h:Rg r a E F):add (sumP E) (sumP F)=⟨0,0⟩:=by
 have:=h.cl
 rw [endP_sum,endP_sum,add_assoc] at this
 have e:add a (add (sumP E) (sumP F))=add a ⟨0,0⟩:=by rw [this,add_zero]
 exact add_left e
theorem nil_iff (h:Rg r a E F):E=[]↔F=[]:=by
 have hz:=h.sumz
 constructor
 · intro e
   subst e
   rw [show sumP ([]:List Pv)=⟨0,0⟩ from rfl,add_comm,add_zero] at hz
   by_cases hf:F=[]
   · exact hf
   · have:=sum_pos h.up.1 (by simpa using hf)
     rw [sumP_neg,hz] at this
     exact absurd rfl (pos_ne this)
 · intro e
   subst e
   rw [show sumP ([]:List Pv)=⟨0,0⟩ from rfl,add_zero] at hz
   by_cases hf:E=[]
   · exact hf
   · exact absurd hz (pos_ne (sum_pos h.lo.1 hf))
theorem cons_of (h:Rg r a E F) (hE:E≠[]):∃ e E' f F',E=e::E'∧F=f::F':=by
 have hF:F≠[]:=fun e=>hE (h.nil_iff.2 e)
 cases E with
 | nil=>exact absurd rfl hE
 | cons e E=>
   cases F with
   | nil=>exact absurd rfl hF
   | cons f F=>exact ⟨e,E,f,F,rfl,rfl⟩
theorem sub0 (h:Rg r a E F):∀ v∈path a E,v∈r:=by
 intro v hv
 rw [h.eq]
 by_cases hE:E=[]
 · rw [if_pos hE];subst hE;exact hv
 · rw [if_neg hE]
   rw [← path_last,List.mem_append] at hv
   rcases hv with hv|hv
   · exact List.mem_append_left _ hv
   · obtain ⟨e,E',f,F',rfl,rfl⟩:=h.cons_of hE
     rw [List.mem_singleton.1 hv]
     obtain ⟨l,hl⟩:=path_hd (add (endP a (e::E')) f) F'
     refine List.mem_append_right _ ?_
     show endP a (e::E')∈(endP a (e::E')::path (add (endP a (e::E')) f) F').dropLast
     rw [hl,List.dropLast_cons_cons]
     exact List.mem_cons_self ..
theorem sub1 (h:Rg r a E F):∀ v∈path (endP a E) F,v∈r:=by
 intro v hv
 by_cases hE:E=[]
 · have hF:=h.nil_iff.1 hE
   subst hE hF
   exact h.sub0 v hv
 · rw [← path_last,List.mem_append,h.cl] at hv
   rcases hv with hv|hv
   · rw [h.eq,if_neg hE]
     exact List.mem_append_right _ hv
   · rw [List.mem_singleton.1 hv]
     exact h.sub0 a (mem_path_hd a E)
theorem mem (h:Rg r a E F):∀ v∈r,v∈path a E∨v∈path (endP a E) F:=by
 intro v hv
 rw [h.eq] at hv
 split at hv
 · rename_i hE
   subst hE
   exact .inl hv
 · rcases List.mem_append.1 hv with hv|hv
   · exact .inl (List.dropLast_subset _ hv)
   · exact .inr (List.dropLast_subset _ hv)
theorem least (h:Rg r a E F):∀ v∈r,v=a∨ltP a v=true:=by
 intro v hv
 rcases h.mem v hv with hv|hv
 · obtain ⟨k,hk,rfl⟩:=mem_path.1 hv
   by_cases hn:E.take k=[]
   · rw [hn];exact .inl (add_zero a)
   · refine .inr (ltP_pos.2 ?_)
     have:=sum_pos (fun e he=>h.lo.1 e (List.mem_of_mem_take he)) hn
     have e:sub (add a (sumP (E.take k))) a=sumP (E.take k):=by unfold sub add;cases sumP (E.take k);simp only [Pv.mk.injEq];omega
     rw [e];exact this
 · obtain ⟨k,hk,rfl⟩:=mem_path.1 hv
   have hc:=h.cl
   rw [endP_sum,← List.take_append_drop k F,sumP_app,← add_assoc] at hc
   rw [endP_sum] at hc ⊢
   by_cases hn:F.drop k=[]
   · rw [hn,show sumP ([]:List Pv)=⟨0,0⟩ from rfl,add_zero] at hc
     exact .inl hc
   · refine .inr (ltP_pos.2 ?_)
     have:=sum_pos (E:=(F.drop k).map neg) (fun e he=>by
       rw [List.mem_map] at he
       obtain ⟨f,hf,rfl⟩:=he
       exact h.up.1 _ (List.mem_map.2 ⟨f,List.mem_of_mem_drop hf,rfl⟩)) (by simpa using hn)
     rw [sumP_neg] at this
     have e:sub (add (add a (sumP E)) (sumP (F.take k))) a=neg (sumP (F.drop k)):=by
       conv=>lhs;arg 2;rw [← hc]
       unfold sub add neg;simp only [Pv.mk.injEq];omega
     rw [e];exact this
theorem greatest (h:Rg r a E F):∀ v∈r,v=endP a E∨ltP v (endP a E)=true:=by
 intro v hv
 rcases h.mem v hv with hv|hv
 · obtain ⟨k,hk,rfl⟩:=mem_path.1 hv
   by_cases hn:E.drop k=[]
   · refine .inl ?_
     rw [endP_sum]
     conv=>rhs;rw [← List.take_append_drop k E,hn,List.append_nil]
   · refine .inr (ltP_pos.2 ?_)
     have:=sum_pos (fun e he=>h.lo.1 e (List.mem_of_mem_drop he)) hn
     have e:sub (endP a E) (add a (sumP (E.take k)))=sumP (E.drop k):=by
       rw [endP_sum]
       conv=>lhs;arg 1;rw [← List.take_append_drop k E,sumP_app]
       unfold sub add;cases sumP (E.drop k);simp only [Pv.mk.injEq];omega
     rw [e];exact this
 · obtain ⟨k,hk,rfl⟩:=mem_path.1 hv
   by_cases hn:F.take k=[]
   · rw [hn];exact .inl (add_zero _)
   · refine .inr (ltP_pos.2 ?_)
     have:=sum_pos (E:=(F.take k).map neg) (fun e he=>by
       rw [List.mem_map] at he
       obtain ⟨f,hf,rfl⟩:=he
       exact h.up.1 _ (List.mem_map.2 ⟨f,List.mem_of_mem_take hf,rfl⟩)) (by simpa using hn)
     rw [sumP_neg] at this
     have e:sub (endP a E) (add (endP a E) (sumP (F.take k)))=neg (sumP (F.take k)):=by
       unfold sub add neg;simp only [Pv.mk.injEq];omega
     rw [e];exact this
end Rg
theorem inc_rev {l:List Pv} (h:l.Pairwise fun a b=>ltP a b=true):(l.reverse.map neg).Pairwise fun a b=>ltP a b=true:=by
 rw [List.pairwise_map,List.pairwise_reverse]
 exact h.imp fun {a b} k=>by rw [ltP_neg];exact k
theorem ltP_irr (a:Pv):ltP a a≠true:=fun h=>by have:=ltP_iff.1 h;omega
theorem inc_lt {l:List Pv} (h:l.Pairwise fun a b=>ltP a b=true) (hl:2≤l.length) {a b:Pv} (ha:l.head?=some a) (hb:l.getLast?=some b):ltP a b=true:=by
 cases l with
 | nil=>simp at hl
 | cons x l=>
   obtain rfl:x=a:=by simpa using ha
   have hm:b∈l:=by
     cases l with
     | nil=>simp at hl
     | cons y l=>
       rw [List.getLast?_cons_cons] at hb
       exact List.mem_of_getLast? hb
   exact (List.pairwise_cons.1 h).1 b hm
theorem hul_rg {l:List Pv} (hne:l≠[]) (hl:l.Pairwise fun a b=>ltP a b=true):∃ a E F,Rg (hulI l) a E F∧l.head?=some a∧l.getLast?=some (endP a E)∧(∀ v∈hulI l,v∈l)∧(∀ d:Pv,∀ q∈l,∃ v∈hulI l,dot d q≤dot d v)∧(chn l).reverse=path a E∧(chn l.reverse).reverse=path (endP a E) F:=by
 obtain ⟨a,E,e1,h1⟩:=low_of hne hl
 obtain ⟨a2,E2,e2,h2⟩:=low_of (l:=l.reverse.map neg) (by simpa using hne) (inc_rev hl)
 have e2':(chn l.reverse).reverse=path (neg a2) (E2.map neg):=by
   rw [chn_neg,← List.map_reverse] at e2
   have:=congrArg (List.map neg) e2
   rw [map_neg_neg,path_neg] at this
   exact this
 have ha2:neg a2=endP a E:=by
   have k:=h2.hd
   rw [List.head?_map,List.head?_reverse,h1.lst] at k
   obtain rfl:=Option.some.inj k
   exact neg_neg _
 have hcl:endP (endP a E) (E2.map neg)=a:=by
   have k:=h2.lst
   rw [List.getLast?_map,List.getLast?_reverse,h1.hd] at k
   have k2:=Option.some.inj k
   rw [← ha2,← endP_neg,← k2,neg_neg]
 rw [ha2] at e2'
 have hnil:E=[]↔l.length<2:=by
   constructor
   · intro e
     subst e
     rcases Nat.lt_or_ge l.length 2 with k|k
     · exact k
     · exact absurd (inc_lt hl k h1.hd h1.lst) (ltP_irr a)
   · intro k
     by_cases hE:E=[]
     · exact hE
     · obtain ⟨x,rfl⟩:∃ x,l=[x]:=by
         match l,hne,k with
         | [x],_,_=>exact ⟨x,rfl⟩
       have f1:x=a:=by simpa using h1.hd
       have f2:x=endP a E:=by simpa using h1.lst
       rw [endP_sum,f1] at f2
       have:add a ⟨0,0⟩=add a (sumP E):=by rw [add_zero];exact f2
       exact absurd (add_left this).symm (pos_ne (sum_pos h1.cvx.1 hE))
 have heq:hulI l=if E=[] then [a] else (path a E).dropLast++(path (endP a E) (E2.map neg)).dropLast:=by
   unfold hulI
   by_cases hE:E=[]
   · rw [if_pos hE,if_pos (hnil.1 hE)]
     have k:=hnil.1 hE
     match l,hne,k with
     | [x],_,_=>rw [show x=a by simpa using h1.hd]
   · rw [if_neg hE,if_neg (fun k=>hE (hnil.2 k)),e1,e2']
 have hsub:∀ v∈hulI l,v∈l:=by
   intro v hv
   rw [heq] at hv
   split at hv
   · rw [List.mem_singleton.1 hv]
     exact h1.sub a (mem_path_hd a E)
   · rcases List.mem_append.1 hv with hv|hv
     · exact h1.sub v (List.dropLast_subset _ hv)
     · have hv:=List.dropLast_subset _ hv
       rw [← ha2] at hv
       have:neg v∈path a2 E2:=by
         have k:=(List.mem_map (f:=neg)).2 ⟨v,hv,rfl⟩
         rw [path_neg,neg_neg,map_neg_neg] at k
         exact k
       have k:=h2.sub _ this
       obtain ⟨u,hu,hu2⟩:=List.mem_map.1 k
       have:u=v:=by rw [← neg_neg u,hu2,neg_neg]
       rw [← this]
       exact List.mem_reverse.1 hu
 have hd1:∀ d:Pv,0≤d.y→∀ v∈l,∃ w∈path (endP a E) (E2.map neg),dot d v≤dot d w:=by
   intro d hd v hv
   obtain ⟨w,hw,hw2⟩:=h2.dom (neg d) (by unfold neg;simp only;omega) (neg v) (List.mem_map.2 ⟨v,List.mem_reverse.2 hv,rfl⟩)
   refine ⟨neg w,?_,?_⟩
   · rw [← ha2,← path_neg]
     exact List.mem_map.2 ⟨w,hw,rfl⟩
   · rw [dot_nn] at hw2
     rw [← dot_nn d (neg w),neg_neg]
     exact hw2
 have rg:Rg (hulI l) a E (E2.map neg):=⟨h1.cvx,by rw [map_neg_neg];exact h2.cvx,hcl,heq,fun d hd v hv=>h1.dom d hd v (hsub v hv),fun d hd v hv=>hd1 d hd v (hsub v hv)⟩
 refine ⟨a,E,E2.map neg,rg,h1.hd,h1.lst,hsub,fun d q hq=>?_,e1,e2'⟩
 rcases Int.le_total d.y 0 with hd|hd
 · obtain ⟨w,hw,hw2⟩:=h1.dom d hd q hq
   exact ⟨w,rg.sub0 w hw,hw2⟩
 · obtain ⟨w,hw,hw2⟩:=hd1 d hd q hq
   exact ⟨w,rg.sub1 w hw,hw2⟩
theorem hul_idem {r:List Pv} {a:Pv} {E F:List Pv} (h:Rg r a E F) {l:List Pv} (hl:l.Pairwise fun a b=>ltP a b=true) (hm:∀ v,v∈l↔v∈r):hulI l=r:=by
 have har:=h.sub0 a (mem_path_hd a E)
 have hbr:=h.sub0 _ (mem_path_last E a)
 have hne:l≠[]:=fun e=>by have:=(hm a).2 har;rw [e] at this;cases this
 obtain ⟨a',E',F',rg,k1,k2,k3,k4,_⟩:=hul_rg hne hl
 have hmin:∀ v∈l,v=a'∨ltP a' v=true:=by
   cases l with
   | nil=>exact absurd rfl hne
   | cons x l=>
     obtain rfl:x=a':=by simpa using k1
     intro v hv
     rcases List.mem_cons.1 hv with rfl|hv
     · exact .inl rfl
     · exact .inr ((List.pairwise_cons.1 hl).1 v hv)
 have haa:a'=a:=by
   have ha':a'∈l:=List.mem_of_head? k1
   rcases hmin a ((hm a).2 har) with e|e
   · exact e.symm
   · rcases h.least a' ((hm a').1 ha') with e'|e'
     · exact e'
     · have x1:=ltP_iff.1 e
       have x2:=ltP_iff.1 e'
       omega
 subst haa
 have hbb:endP a' E'=endP a' E:=by
   have hb':endP a' E'∈l:=List.mem_of_getLast? k2
   rcases h.greatest _ ((hm _).1 hb') with e|e
   · exact e
   · have hin:=(hm _).2 hbr
     -- the last of l is its greatest
     have:endP a' E=endP a' E'∨ltP (endP a' E) (endP a' E')=true:=by
       obtain ⟨m,hmm⟩:∃ m,l=m++[endP a' E']:=⟨l.dropLast,by rw [List.getLast?_eq_some_iff] at k2;obtain ⟨ys,e⟩:=k2;rw [e];simp⟩
       rw [hmm] at hin hl
       rcases List.mem_append.1 hin with x|x
       · exact .inr ((List.pairwise_append.1 hl).2.2 _ x _ (List.mem_singleton.2 rfl))
       · exact .inl (List.mem_singleton.1 x)
     rcases this with x|x
     · exact x.symm
     · have x1:=ltP_iff.1 e
       have x2:=ltP_iff.1 x
       omega
 have hr:∀ v∈hulI l,v∈r:=fun v hv=>(hm v).1 (k3 v hv)
 have hEE:E'=E:=by
   refine path_uniq rg.lo h.lo hbb ?_ ?_
   · intro d hd v hv
     obtain ⟨u,hu,hu2⟩:=k4 d v ((hm v).2 (h.sub0 v hv))
     obtain ⟨w,hw,hw2⟩:=rg.d0 d hd u hu
     exact ⟨w,hw,by omega⟩
   · intro d hd v hv
     exact h.d0 d hd v (hr v (rg.sub0 v hv))
 subst hEE
 have ng:∀ {F G:List Pv},(∀ d:Pv,0≤d.y→∀ v∈path (endP a' E') G,∃ w∈path (endP a' E') F,dot d v≤dot d w)→Domd (path (neg (endP a' E')) (F.map neg)) (path (neg (endP a' E')) (G.map neg)):=by
   intro F G hd d hdy v hv
   rw [← path_neg] at hv
   obtain ⟨u,hu,rfl⟩:=List.mem_map.1 hv
   obtain ⟨w,hw,hw2⟩:=hd (neg d) (by unfold neg;simp only;omega) u hu
   refine ⟨neg w,by rw [← path_neg];exact List.mem_map.2 ⟨w,hw,rfl⟩,?_⟩
   rw [← dot_nn (neg d) u,← dot_nn (neg d) w,neg_neg] at hw2
   exact hw2
 have hFF:F'.map neg=F.map neg:=by
   refine path_uniq (a:=neg (endP a' E')) rg.up h.up ?_ (ng ?_) (ng ?_)
   · rw [← endP_neg,← endP_neg,rg.cl,h.cl]
   · intro d hd v hv
     obtain ⟨u,hu,hu2⟩:=k4 d v ((hm v).2 (h.sub1 v hv))
     obtain ⟨w,hw,hw2⟩:=rg.d1 d hd u hu
     exact ⟨w,hw,by omega⟩
   · intro d hd v hv
     exact h.d1 d hd v (hr v (rg.sub1 v hv))
 have hF:F'=F:=by rw [← map_neg_neg F',hFF,map_neg_neg]
 rw [rg.eq,h.eq,hF]
theorem path_app:∀ (E F:List Pv) (a:Pv),path a (E++F)=(path a E).dropLast++path (endP a E) F
 | [],F,a=>rfl
 | e::E,F,a=>by
   obtain ⟨l,hl⟩:=path_hd (add a e) E
   show a::path (add a e) (E++F)=(a::path (add a e) E).dropLast++path (endP (add a e) E) F
   rw [path_app E F,hl,List.dropLast_cons_cons,← hl,List.cons_append]
theorem path_at:∀ (E:List Pv) (a:Pv) (i:Nat),i≤E.length→(path a E)[i]?=some (add a (sumP (E.take i)))
 | [],a,i,h=>by
   obtain rfl:i=0:=by simpa using h
   show some a=_
   rw [List.take_nil,show sumP ([]:List Pv)=⟨0,0⟩ from rfl,add_zero]
 | e::E,a,0,_=>by
   show some a=_
   rw [List.take_zero,show sumP ([]:List Pv)=⟨0,0⟩ from rfl,add_zero]
 | e::E,a,i+1,h=>by
   show (path (add a e) E)[i]?=_
   rw [path_at E _ i (by simpa using h),List.take_succ_cons,add_assoc]
   rfl
namespace Rg
variable {r:List Pv} {a p:Pv} {E F:List Pv}
theorem eq2 (h:Rg r a E F) (hE:E≠[]):r=(path a (E++F)).dropLast:=by
 rw [h.eq,if_neg hE,path_app,List.dropLast_append_of_ne_nil (path_ne _ _)]
theorem len (h:Rg r a E F) (hE:E≠[]):r.length=(E++F).length:=by
 rw [h.eq2 hE,List.length_dropLast,path_len];rfl
theorem at_ (h:Rg r a E F) (hE:E≠[]) {i:Nat} (hi:i<r.length):r[i]?=some (add a (sumP ((E++F).take i))):=by
 have hl:=h.len hE
 rw [h.eq2 hE,List.getElem?_dropLast,path_len,if_pos (by omega),path_at _ _ _ (by omega)]
theorem one (h:Rg r a E F) (hE:E=[]):r=[a]:=by rw [h.eq,if_pos hE]
theorem two (h:Rg r a E F) (hE:E≠[]):2≤r.length:=by
 obtain ⟨e,E',f,F',rfl,rfl⟩:=h.cons_of hE
 rw [h.len hE]
 simp only [List.length_append,List.length_cons]
 omega
theorem ne_nil (h:Rg r a E F):r≠[]:=fun e=>by
 have:=h.sub0 a (mem_path_hd a E)
 rw [e] at this
 cases this
theorem allz (h:Rg r a E F):sumP (E++F)=⟨0,0⟩:=by rw [sumP_app,h.sumz]
theorem nxt (h:Rg r a E F) (hE:E≠[]) {i:Nat} {x e:Pv} (hx:r[i]?=some x) (he:(E++F)[i]?=some e):r[(i+1) % r.length]?=some (add x e):=by
 have hi:=(List.getElem?_eq_some_iff.1 hx).1
 have hl:=h.len hE
 rw [h.at_ hE hi] at hx
 obtain rfl:=Option.some.inj hx
 have hs:sumP ((E++F).take (i+1))=add (sumP ((E++F).take i)) e:=by
   rw [List.take_add_one,he,sumP_app]
   show add _ (add e ⟨0,0⟩)=_
   rw [add_zero]
 rw [add_assoc,← hs]
 rcases Nat.lt_or_ge (i+1) r.length with k|k
 · rw [Nat.mod_eq_of_lt k,h.at_ hE k]
 · have hri:r.length=i+1:=by omega
   have hz:=h.allz
   rw [hri,Nat.mod_self,h.at_ hE (by omega),show i+1=(E++F).length by omega,List.take_length,hz,List.take_zero]
   rfl
theorem edge0 (h:Rg r a E F) (hp:∀ d:Pv,∃ v∈r,dot d p≤dot d v) {E1 E2:List Pv} {e:Pv} (he:E=E1++e::E2):0≤turn e (sub p (endP a E1)):=by
 have hpe:=h.lo.1 e (by rw [he];simp)
 have hdy:(⟨e.y,-e.x⟩:Pv).y≤0:=by unfold pos at hpe;simp only;omega
 obtain ⟨v,hv,k1⟩:=hp ⟨e.y,-e.x⟩
 obtain ⟨w,hw,k2⟩:=h.d0 _ hdy v hv
 subst he
 have k3:=edge_max h.lo w hw
 have k4:dot ⟨e.y,-e.x⟩ (sub p (endP a E1))≤0:=by rw [dot_sub];omega
 rw [dotn] at k4
 omega
theorem edge1 (h:Rg r a E F) (hp:∀ d:Pv,∃ v∈r,dot d p≤dot d v) {F1 F2:List Pv} {f:Pv} (he:F=F1++f::F2):0≤turn f (sub p (endP (endP a E) F1)):=by
 have hpf:=h.up.1 (neg f) (by rw [he];simp)
 have hdy:0≤(⟨f.y,-f.x⟩:Pv).y:=by unfold pos neg at hpf;simp only at hpf ⊢;omega
 obtain ⟨v,hv,k1⟩:=hp ⟨f.y,-f.x⟩
 obtain ⟨w,hw,k2⟩:=h.d1 _ hdy v hv
 subst he
 have hc:=h.up
 rw [List.map_append,List.map_cons] at hc
 have k3:=edge_max (a:=neg (endP a E)) hc (neg w) (by
   have:=(List.mem_map (f:=neg)).2 ⟨w,hw,rfl⟩
   rw [path_neg,List.map_append,List.map_cons] at this
   exact this)
 have e1:(⟨(neg f).y,-(neg f).x⟩:Pv)=neg ⟨f.y,-f.x⟩:=rfl
 rw [e1,← endP_neg,dot_nn,dot_nn] at k3
 have k4:dot ⟨f.y,-f.x⟩ (sub p (endP (endP a E) F1))≤0:=by rw [dot_sub];omega
 rw [dotn] at k4
 omega
theorem left (h:Rg r a E F) (hp:∀ d:Pv,∃ v∈r,dot d p≤dot d v) {i:Nat} {e:Pv} (he:(E++F)[i]?=some e):0≤turn e (sub p (add a (sumP ((E++F).take i)))):=by
 rcases Nat.lt_or_ge i E.length with hi|hi
 · rw [List.getElem?_append_left hi] at he
   have hs:E=E.take i++e::E.drop (i+1):=by
     obtain ⟨h1,rfl⟩:=List.getElem?_eq_some_iff.1 he
     rw [← List.drop_eq_getElem_cons h1,List.take_append_drop]
   have k:=h.edge0 hp hs
   rw [endP_sum] at k
   rw [List.take_append_of_le_length (by omega)]
   exact k
 · rw [List.getElem?_append_right hi] at he
   have hs:F=F.take (i-E.length)++e::F.drop (i-E.length+1):=by
     obtain ⟨h1,rfl⟩:=List.getElem?_eq_some_iff.1 he
     rw [← List.drop_eq_getElem_cons h1,List.take_append_drop]
   have k:=h.edge1 hp hs
   rw [endP_sum,endP_sum,add_assoc,← sumP_app] at k
   have e2:(E++F).take i=E++F.take (i-E.length):=by
     rw [List.take_append,List.take_of_length_le hi]
   rw [e2]
   exact k
end Rg
def outB (n:Nat) (u v:Pv):Bool:=decide (turn u v<0∨(turn u v=0∧n<3∧¬ (0≤v.x*u.x∧0≤v.y*u.y∧v.x*v.x≤u.x*u.x∧v.y*v.y≤u.y*u.y)))
theorem between {a e p:Int} (h1:min a (a+e)≤p) (h2:p≤max a (a+e)):0≤(p-a)*e∧(p-a)*(p-a)≤e*e:=by
 rcases Int.le_total 0 e with h|h
 · have k1:0≤p-a:=by omega
   have k2:p-a≤e:=by omega
   exact ⟨mul_nn k1 h,Int.mul_le_mul k2 k2 k1 h⟩
 · have k1:0≤-(p-a):=by omega
   have k2 : -(p-a)≤-e:=by omega
   have k3:=mul_nn k1 (show 0≤-e by omega)
   have k4:=Int.mul_le_mul k2 k2 k1 (show 0≤-e by omega)
   rw [Int.neg_mul_neg] at k3
   rw [Int.neg_mul_neg,Int.neg_mul_neg] at k4
   exact ⟨k3,k4⟩
theorem dot_x (u:Pv):dot ⟨1,0⟩ u=u.x:=by unfold dot;simp
theorem dot_xn (u:Pv):dot ⟨-1,0⟩ u=-u.x:=by unfold dot;simp
theorem dot_y (u:Pv):dot ⟨0,1⟩ u=u.y:=by unfold dot;simp
theorem dot_yn (u:Pv):dot ⟨0,-1⟩ u=-u.y:=by unfold dot;simp
theorem hold_one {r:List Pv} {a p:Pv} {E F:List Pv} (h:Rg r a E F) (hp:∀ d:Pv,∃ v∈r,dot d p≤dot d v) (hE:E=[]):p∈r:=by
 have hr:=h.one hE
 rw [hr] at hp ⊢
 obtain ⟨v1,hv1,k1⟩:=hp ⟨1,0⟩
 obtain ⟨v2,hv2,k2⟩:=hp ⟨-1,0⟩
 obtain ⟨v3,hv3,k3⟩:=hp ⟨0,1⟩
 obtain ⟨v4,hv4,k4⟩:=hp ⟨0,-1⟩
 obtain rfl:=List.mem_singleton.1 hv1
 obtain rfl:=List.mem_singleton.1 hv2
 obtain rfl:=List.mem_singleton.1 hv3
 obtain rfl:=List.mem_singleton.1 hv4
 rw [dot_x,dot_x] at k1
 rw [dot_xn,dot_xn] at k2
 rw [dot_y,dot_y] at k3
 rw [dot_yn,dot_yn] at k4
 have:v4=p:=by cases v4;cases p;simp only at k1 k2 k3 k4;rw [Pv.mk.injEq];omega
 subst this
 exact List.mem_singleton.2 rfl
theorem hold_key {r:List Pv} {a p:Pv} {E F:List Pv} (h:Rg r a E F) (hp:∀ d:Pv,∃ v∈r,dot d p≤dot d v) (hE:E≠[]):∀ (i:Nat) (x e:Pv),r[i]?=some x→(E++F)[i]?=some e→outB r.length e (sub p x)=false:=by
 have hl:=h.len hE
 have h2:=h.two hE
 intro i x e hx he
 have hi:=(List.getElem?_eq_some_iff.1 hx).1
 have k:=h.left hp he
 rw [h.at_ hE hi] at hx
 have hxe:=Option.some.inj hx
 rw [hxe] at k
 unfold outB
 rw [decide_eq_false_iff_not]
 rintro (k2|⟨k2,k3,k4⟩)
 · omega
 · refine k4 ?_
   -- two corners
   obtain ⟨e0,E',f0,F',rfl,rfl⟩:=h.cons_of hE
   have hz:=h.allz
   simp only [List.length_append,List.length_cons] at hl
   obtain rfl:E'=[]:=List.eq_nil_of_length_eq_zero (by omega)
   obtain rfl:F'=[]:=List.eq_nil_of_length_eq_zero (by omega)
   have hz2:add e0 f0=⟨0,0⟩:=by
     have:sumP ([e0]++[f0])=add e0 (add f0 ⟨0,0⟩):=rfl
     rw [this,add_zero] at hz
     exact hz
   have hr:r=[a,add a e0]:=by rw [h.eq];rfl
   have mm:∀ d:Pv,dot d p≤dot d a∨dot d p≤dot d (add a e0):=fun d=>by
     obtain ⟨v,hv,kv⟩:=hp d
     rw [hr] at hv
     rcases List.mem_cons.1 hv with rfl|hv
     · exact .inl kv
     · rw [List.mem_singleton.1 hv] at kv;exact .inr kv
   have m1:=mm ⟨1,0⟩
   have m2:=mm ⟨-1,0⟩
   have m3:=mm ⟨0,1⟩
   have m4:=mm ⟨0,-1⟩
   rw [dot_x,dot_x,dot_x] at m1
   rw [dot_xn,dot_xn,dot_xn] at m2
   rw [dot_y,dot_y,dot_y] at m3
   rw [dot_yn,dot_yn,dot_yn] at m4
   have a1:(add a e0).x=a.x+e0.x:=rfl
   have a2:(add a e0).y=a.y+e0.y:=rfl
   have hz3:e0.x+f0.x=0∧e0.y+f0.y=0:=by
     have:=congrArg Pv.x hz2
     have:=congrArg Pv.y hz2
     exact ⟨by assumption,by assumption⟩
   rcases (show i=0∨i=1 by omega) with rfl|rfl
   · have he0:e0=e:=by simpa using he
     have hx0:a=x:=by rw [← hxe];exact (add_zero a).symm
     subst he0 hx0
     have b1:=between (a:=a.x) (e:=e0.x) (p:=p.x) (by omega) (by omega)
     have b2:=between (a:=a.y) (e:=e0.y) (p:=p.y) (by omega) (by omega)
     exact ⟨b1.1,b2.1,b1.2,b2.2⟩
   · have he0:f0=e:=by simpa using he
     have hx0:add a e0=x:=by
       rw [← hxe]
       show _=add a (add e0 ⟨0,0⟩)
       rw [add_zero]
     subst he0 hx0
     have b1:=between (a:=a.x+e0.x) (e:=f0.x) (p:=p.x) (by omega) (by omega)
     have b2:=between (a:=a.y+e0.y) (e:=f0.y) (p:=p.y) (by omega) (by omega)
     exact ⟨b1.1,b2.1,b1.2,b2.2⟩
theorem hold_out {r:List Pv} {a p:Pv} {E F:List Pv} (h:Rg r a E F) (hp:∀ d:Pv,∃ v∈r,dot d p≤dot d v) (i:Nat) (x y:Pv) (hx:r[i]?=some x) (hy:r[(i+1) % r.length]?=some y) (hne:x≠p):outB r.length (sub y x) (sub p x)=false:=by
 by_cases hE:E=[]
 · have h1:=hold_one h hp hE
   rw [h.one hE] at h1 hx
   have h2:=List.mem_singleton.1 h1
   have h3:=List.mem_singleton.1 (List.mem_of_getElem? hx)
   exact absurd (h3.trans h2.symm) hne
 · have hi:=(List.getElem?_eq_some_iff.1 hx).1
   obtain ⟨e,he⟩:∃ e,(E++F)[i]?=some e:=⟨_,List.getElem?_eq_getElem (by rw [← h.len hE];exact hi)⟩
   have hn:=h.nxt hE hx he
   rw [hy] at hn
   obtain rfl:=Option.some.inj hn
   have es:sub (add x e) x=e:=by unfold sub add;cases e;simp only [Pv.mk.injEq];omega
   rw [es]
   exact hold_key h hp hE i x e hx he
def half (u:Pv):Int:=if pos u then 0 else 1
def ltA (u v:Pv):Bool:=decide (half u<half v∨(half u=half v∧0<turn u v))
theorem ltA_iff {u v:Pv}:ltA u v=true↔half u<half v∨(half u=half v∧0<turn u v):=by unfold ltA;exact decide_eq_true_iff
theorem ltA_no {u v:Pv}:ltA u v=false↔half v<half u∨(half v=half u∧0≤turn v u):=by
 rw [← Bool.not_eq_true,ltA_iff,turn_swap u v]
 omega
theorem half_01 (u:Pv):(half u=0∧pos u)∨(half u=1∧¬ pos u):=by
 unfold half
 by_cases h:pos u
 · exact .inl ⟨if_pos h,h⟩
 · exact .inr ⟨if_neg h,h⟩
theorem neg_pos_of {u:Pv} (h:¬ pos u) (h0:u≠⟨0,0⟩):pos (neg u):=by
 have:¬ (u.x=0∧u.y=0):=fun k=>h0 (by cases u;simp only at k;rw [Pv.mk.injEq];exact k)
 unfold pos neg at *
 simp only at *
 omega
abbrev Sv:={u:Pv // u≠⟨0,0⟩}
def ltS2 (u v:Sv):Bool:=ltA u.1 v.1
theorem woA:Wo ltS2:=by
 refine ⟨fun a b h=>?_,fun a b c h1 h2=>?_⟩
 · have h:=ltA_iff.1 h
   refine ltA_no.2 ?_
   rcases h with h|⟨h,k⟩
   · exact .inl h
   · exact .inr ⟨h,Int.le_of_lt k⟩
 · have h1:=ltA_no.1 h1
   have h2:=ltA_no.1 h2
   refine ltA_no.2 ?_
   rcases half_01 a.1 with ⟨ea,pa⟩|⟨ea,pa⟩<;>rcases half_01 b.1 with ⟨eb,pb⟩|⟨eb,pb⟩<;>rcases half_01 c.1 with ⟨ec,pc⟩|⟨ec,pc⟩<;>(try omega)
   · refine .inr ⟨by omega,?_⟩
     first
       | exact turn_trans0 pa pb pc (by omega) (by omega)
       | exact turn_trans0 pc pb pa (by omega) (by omega)
   · refine .inr ⟨by omega,?_⟩
     have na:=neg_pos_of pa a.2
     have nb:=neg_pos_of pb b.2
     have nc:=neg_pos_of pc c.2
     first
       | (rw [← turn_neg];exact turn_trans0 na nb nc (by rw [turn_neg];omega) (by rw [turn_neg];omega))
       | (rw [← turn_neg];exact turn_trans0 nc nb na (by rw [turn_neg];omega) (by rw [turn_neg];omega))
theorem sumI_perm {α:Type} (f:α→Int) {l m:List α} (h:l.Perm m):(l.map f).sum=(m.map f).sum:=by
 induction h with
 | nil=>rfl
 | cons x _ ih=>rw [List.map_cons,List.sum_cons,List.map_cons,List.sum_cons,ih]
 | swap x y l=>simp only [List.map_cons,List.sum_cons];omega
 | trans _ _ h1 h2=>exact h1.trans h2
theorem lift_nz:∀ {X:List Pv},(∀ u∈X,u≠⟨0,0⟩)→∃ X':List Sv,X'.map Subtype.val=X
 | [],_=>⟨[],rfl⟩
 | u::X,h=>by
   obtain ⟨X',e⟩:=lift_nz fun v hv=>h v (List.mem_cons_of_mem _ hv)
   exact ⟨⟨u,h u (List.mem_cons_self ..)⟩::X',by rw [List.map_cons,e]⟩
theorem val_inj:∀ {X Y:List Sv},X.map Subtype.val=Y.map Subtype.val→X=Y
 | [],[],_=>rfl
 | [],_::_,h=>by simp at h
 | _::_,[],h=>by simp at h
 | a::X,b::Y,h=>by
   rw [List.map_cons,List.map_cons,List.cons.injEq] at h
   rw [Subtype.ext h.1,val_inj h.2]
theorem srt_self {α:Type} {lt:α→α→Bool} (l:List α) (h:Srt lt l):srt lt l=l:=by
 refine snoc_ind (p:=fun l=>Srt lt l→srt lt l=l) (fun _=>rfl) (fun l x ih hl=>?_) l h
 obtain ⟨h1,_,h3⟩:=List.pairwise_append.1 hl
 rw [srt_snoc,ih h1]
 exact mrg_app h3
theorem mrg_take {lt:Sv→Sv→Bool}:∀ (l r:List Sv) (k:Nat),∃ i j,i≤l.length∧j≤r.length∧sumP (((mrg lt l r).take k).map Subtype.val)=add (sumP ((l.take i).map Subtype.val)) (sumP ((r.take j).map Subtype.val))
 | l,r,0=>⟨0,0,Nat.zero_le _,Nat.zero_le _,by rw [List.take_zero,List.take_zero,List.take_zero];exact (add_zero _).symm⟩
 | [],r,k+1=>⟨0,min (k+1) r.length,Nat.le_refl _,Nat.min_le_right _ _,by
     rw [mrg_nil,List.take_zero,List.map_nil,show sumP ([]:List Pv)=⟨0,0⟩ from rfl,add_comm,add_zero,← List.take_eq_take_min]⟩
 | a::l,[],k+1=>⟨min (k+1) (a::l).length,0,Nat.min_le_right _ _,Nat.le_refl _,by
     rw [mrg_right,List.take_zero,List.map_nil,show sumP ([]:List Pv)=⟨0,0⟩ from rfl,add_zero,← List.take_eq_take_min]⟩
 | a::l,b::r,k+1=>by
   cases h:lt b a with
   | true=>
     obtain ⟨i,j,hi,hj,e⟩:=mrg_take (lt:=lt) (a::l) r k
     refine ⟨i,j+1,hi,by simpa using hj,?_⟩
     rw [mrg_lt h,List.take_succ_cons,List.map_cons,List.take_succ_cons,List.map_cons]
     show add b.1 (sumP _)=add _ (add b.1 (sumP _))
     rw [e,← add_assoc,← add_assoc,add_comm b.1]
   | false=>
     obtain ⟨i,j,hi,hj,e⟩:=mrg_take (lt:=lt) l (b::r) k
     refine ⟨i+1,j,by simpa using hi,hj,?_⟩
     rw [mrg_ge h,List.take_succ_cons,List.map_cons,List.take_succ_cons,List.map_cons]
     show add a.1 (sumP _)=add (add a.1 (sumP _)) _
     rw [e,add_assoc]
termination_by l r=>l.length+r.length
namespace Rg
variable {r:List Pv} {a:Pv} {E F:List Pv}
theorem allp (h:Rg r a E F):∀ v∈path a (E++F),v∈r:=by
 intro v hv
 rw [path_app] at hv
 rcases List.mem_append.1 hv with hv|hv
 · exact h.sub0 v (List.dropLast_subset _ hv)
 · exact h.sub1 v hv
theorem nzF (h:Rg r a E F):∀ u∈F,pos (neg u):=fun u hu=>h.up.1 _ (List.mem_map.2 ⟨u,hu,rfl⟩)
theorem nz (h:Rg r a E F):∀ u∈E++F,u≠⟨0,0⟩:=by
 intro u hu
 rcases List.mem_append.1 hu with hu|hu
 · exact pos_ne (h.lo.1 u hu)
 · intro e
   have:=h.nzF u hu
   rw [e] at this
   exact pos_ne this rfl
theorem upF (h:Rg r a E F):F.Pairwise fun u v=>0<turn u v:=by
 have:=h.up.2
 rw [List.pairwise_map] at this
 exact this.imp fun {u v} k=>by rw [← turn_neg];exact k
end Rg
theorem half0 {u:Pv} (h:pos u):half u=0:=if_pos h
theorem half1 {u:Pv} (h:pos (neg u)):half u=1:=by
 refine if_neg fun k=>?_
 unfold pos neg at *
 simp only at *
 omega
theorem front_max {d b:Pv} {M:List Pv}:∀ {P:List Pv},(∃ k,k≤P.length∧((P.take k).map (dot d)).sum=(P.map fun u=>max (dot d u) 0).sum)→∃ v∈path b (P++M),dot d v=dot d b+(P.map fun u=>max (dot d u) 0).sum:=by
 rintro P ⟨k,hk,e⟩
 refine ⟨add b (sumP (P.take k)),mem_path.2 ⟨k,by rw [List.length_append];omega,?_⟩,?_⟩
 · rw [List.take_append_of_le_length hk]
 · rw [dot_add,dot_sum,e]
theorem path_dot {d v b:Pv} {P:List Pv} (h:v∈path b P):dot d v≤dot d b+(P.map fun u=>max (dot d u) 0).sum:=by
 obtain ⟨k,_,rfl⟩:=mem_path.1 h
 rw [dot_add,dot_sum]
 have:=part_sum (f:=dot d) P k
 omega
theorem sum_ok {r s:List Pv} {a b:Pv} {E F G H:List Pv} (hr:Rg r a E F) (hs:Rg s b G H) {L:List Sv} (hL:L.map Subtype.val=(E++F)++(G++H)):(∀ v∈path (add a b) ((srt ltS2 L).map Subtype.val),∃ x∈r,∃ y∈s,v=add x y)∧(∀ d:Pv,∀ x∈r,∀ y∈s,∃ v∈path (add a b) ((srt ltS2 L).map Subtype.val),dot d x+dot d y≤dot d v):=by
 obtain ⟨E',hE⟩:=lift_nz (X:=E) fun u hu=>hr.nz u (List.mem_append_left _ hu)
 obtain ⟨F',hF⟩:=lift_nz (X:=F) fun u hu=>hr.nz u (List.mem_append_right _ hu)
 obtain ⟨G',hG⟩:=lift_nz (X:=G) fun u hu=>hs.nz u (List.mem_append_left _ hu)
 obtain ⟨H',hH⟩:=lift_nz (X:=H) fun u hu=>hs.nz u (List.mem_append_right _ hu)
 have hL2:L=(E'++F')++(G'++H'):=val_inj (by rw [hL,List.map_append,List.map_append,List.map_append,hE,hF,hG,hH])
 have mE:∀ u∈E',pos u.1:=fun u hu=>hr.lo.1 _ (by rw [← hE];exact List.mem_map.2 ⟨u,hu,rfl⟩)
 have mF:∀ u∈F',pos (neg u.1):=fun u hu=>hr.nzF _ (by rw [← hF];exact List.mem_map.2 ⟨u,hu,rfl⟩)
 have mG:∀ u∈G',pos u.1:=fun u hu=>hs.lo.1 _ (by rw [← hG];exact List.mem_map.2 ⟨u,hu,rfl⟩)
 have mH:∀ u∈H',pos (neg u.1):=fun u hu=>hs.nzF _ (by rw [← hH];exact List.mem_map.2 ⟨u,hu,rfl⟩)
 have s0:∀ {X:List Pv} {X':List Sv},X'.map Subtype.val=X→(∀ u∈X',pos u.1)→(X.Pairwise fun u v=>0<turn u v)→Srt ltS2 X':=by
   intro X X' e hp hw
   rw [← e,List.pairwise_map] at hw
   refine (List.Pairwise.and_mem.1 hw).imp fun {u v} k=>ltA_no.2 (.inr ⟨?_,Int.le_of_lt k.2.2⟩)
   rw [half0 (hp u k.1),half0 (hp v k.2.1)]
 have s1:∀ {X:List Pv} {X':List Sv},X'.map Subtype.val=X→(∀ u∈X',pos (neg u.1))→(X.Pairwise fun u v=>0<turn u v)→Srt ltS2 X':=by
   intro X X' e hp hw
   rw [← e,List.pairwise_map] at hw
   refine (List.Pairwise.and_mem.1 hw).imp fun {u v} k=>ltA_no.2 (.inr ⟨?_,Int.le_of_lt k.2.2⟩)
   rw [half1 (hp u k.1),half1 (hp v k.2.1)]
 have sE:=s0 hE mE hr.lo.2
 have sF:=s1 hF mF hr.upF
 have sG:=s0 hG mG hs.lo.2
 have sH:=s1 hH mH hs.upF
 have x01:∀ {X Y:List Sv},(∀ u∈X,pos u.1)→(∀ u∈Y,pos (neg u.1))→∀ u∈X,∀ v∈Y,ltS2 v u=false:=fun h1 h2 u hu v hv=>ltA_no.2 (.inl (by rw [half0 (h1 u hu),half1 (h2 v hv)];decide))
 have x10:∀ {X Y:List Sv},(∀ u∈X,pos u.1)→(∀ u∈Y,pos (neg u.1))→∀ u∈X,∀ v∈Y,ltS2 u v=true:=fun h1 h2 u hu v hv=>ltA_iff.2 (.inl (by rw [half0 (h1 u hu),half1 (h2 v hv)];decide))
 have hM:srt ltS2 L=mrg ltS2 (E'++F') (G'++H'):=by
   rw [hL2,← srt_app woA,srt_self _ (List.pairwise_append.2 ⟨sE,sF,x01 mE mF⟩),srt_self _ (List.pairwise_append.2 ⟨sG,sH,x01 mG mH⟩)]
 constructor
 · intro v hv
   obtain ⟨k,_,rfl⟩:=mem_path.1 hv
   rw [hM,← List.map_take]
   obtain ⟨i,j,hi,hj,e⟩:=mrg_take (lt:=ltS2) (E'++F') (G'++H') k
   rw [e]
   have e1:((E'++F').take i).map Subtype.val=(E++F).take i:=by rw [List.map_take,List.map_append,hE,hF]
   have e2:((G'++H').take j).map Subtype.val=(G++H).take j:=by rw [List.map_take,List.map_append,hG,hH]
   rw [e1,e2]
   have l1:(E'++F').length=(E++F).length:=by rw [← hE,← hF];simp
   have l2:(G'++H').length=(G++H).length:=by rw [← hG,← hH];simp
   refine ⟨_,hr.allp _ (mem_path.2 ⟨i,by omega,rfl⟩),_,hs.allp _ (mem_path.2 ⟨j,by omega,rfl⟩),?_⟩
   rw [add_assoc,add_assoc,← add_assoc b,add_comm b,add_assoc]
 · intro d x hx y hy
   rw [hM,mrg_split _ _ _ _ (x01 mE mH) (x10 mG mF),List.map_append]
   have pm:∀ (X Y:List Sv),((mrg ltS2 X Y).map Subtype.val).Perm (X.map Subtype.val++Y.map Subtype.val):=fun X Y=>by
     rw [← List.map_append]
     exact (mrg_perm X Y).map _
   rcases Int.le_total d.y 0 with hd|hd
   · obtain ⟨v,hv,hv2⟩:=front_max (d:=d) (b:=add a b) (M:=(mrg ltS2 F' H').map Subtype.val) (P:=(mrg ltS2 E' G').map Subtype.val) (front_sum (by
       rw [List.pairwise_map]
       refine (List.Pairwise.and_mem.1 (mrg_srt woA _ _ sE sG)).imp fun {u v} k=>?_
       have mm:∀ u∈mrg ltS2 E' G',pos u.1:=fun u hu=>by
         rcases List.mem_append.1 ((mrg_perm E' G').mem_iff.1 hu) with h|h
         · exact mE u h
         · exact mG u h
       have pu:=mm u k.1
       have pv:=mm v k.2.1
       have:=ltA_no.1 k.2.2
       rw [half0 pu,half0 pv] at this
       exact dot_front hd pu pv (by omega)))
     obtain ⟨w1,h1,k1⟩:=hr.d0 d hd x hx
     obtain ⟨w2,h2,k2⟩:=hs.d0 d hd y hy
     have g1:=path_dot (d:=d) h1
     have g2:=path_dot (d:=d) h2
     refine ⟨v,hv,?_⟩
     rw [hv2,sumI_perm _ (pm E' G'),List.map_append,List.sum_append,hE,hG,dot_add]
     omega
   · have hpath:path (add a b) ((mrg ltS2 E' G').map Subtype.val++(mrg ltS2 F' H').map Subtype.val)=(path (add a b) ((mrg ltS2 E' G').map Subtype.val)).dropLast++path (add (endP a E) (endP b G)) ((mrg ltS2 F' H').map Subtype.val++[]):=by
       rw [path_app,List.append_nil,endP_sum,endP_sum,endP_sum,sumP_perm (pm E' G'),sumP_app,hE,hG]
       congr 2
       rw [add_assoc,add_assoc,← add_assoc b,add_comm b,add_assoc]
     obtain ⟨v,hv,hv2⟩:=front_max (d:=d) (b:=add (endP a E) (endP b G)) (M:=[]) (P:=(mrg ltS2 F' H').map Subtype.val) (front_sum (by
       rw [List.pairwise_map]
       refine (List.Pairwise.and_mem.1 (mrg_srt woA _ _ sF sH)).imp fun {u v} k=>?_
       have mm:∀ u∈mrg ltS2 F' H',pos (neg u.1):=fun u hu=>by
         rcases List.mem_append.1 ((mrg_perm F' H').mem_iff.1 hu) with h|h
         · exact mF u h
         · exact mH u h
       have pu:=mm u k.1
       have pv:=mm v k.2.1
       have:=ltA_no.1 k.2.2
       rw [half1 pu,half1 pv] at this
       have q:=dot_front (d:=neg d) (by unfold neg;simp only;omega) pu pv (by rw [turn_neg];omega)
       rw [dot_nn,dot_nn] at q
       exact q))
     obtain ⟨w1,h1,k1⟩:=hr.d1 d hd x hx
     obtain ⟨w2,h2,k2⟩:=hs.d1 d hd y hy
     have g1:=path_dot (d:=d) h1
     have g2:=path_dot (d:=d) h2
     refine ⟨v,by rw [hpath];exact List.mem_append_right _ hv,?_⟩
     rw [hv2,sumI_perm _ (pm F' H'),List.map_append,List.sum_append,hF,hH,dot_add]
     omega
end Go.Proofs.Ytcjkndjjbjoehaa
