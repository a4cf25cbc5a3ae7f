/- A part of the proof: rules for walks, and contracts of functions (9). -/
import Derived.Test.YtcjkndjjbjoehaaXTmH
import Derived.Test.YtcjkndjjbjoehaaXTmG
import Derived.Test.YtcjkndjjbjoehaaXTmC
import Derived.Test.YtcjkndjjbjoehaaXTmF
import Derived.Test.YtcjkndjjbjoehaaXTmB
import Derived.Recover
import Derived.ProofKit
import Derived.Lib.SmallJoins
set_option linter.unusedVariables false
set_option linter.unusedSimpArgs false
set_option maxRecDepth 100000
set_option maxHeartbeats 2000000
namespace Go.Proofs.Ytcjkndjjbjoehaa
structure Tr where
 fr:Int
 to:Int
 crew:Int
def trCells (x:Tr):List Value:=[.int .i64 x.fr,.int .i64 x.to,.int .i64 x.crew]
def okB (d:Du) (l:List Sh):Bool:=decide (Ros l) && (tiV d l).isEmpty
def tryF (d:Du) (mem:Nat):Nat→List Tr→List Int→Nat→List Sh→Option (List (List Int))
 | 0,_,_,_,_=>none
 | f+1,ts,cur,who,l=>if okB d l=true then (match ts with
     | []=>some []
     | x::ts'=>if (cur.length:Int)=x.crew then (tryF d mem f ts' [] 0 l).map (cur::·)
         else (List.range' who (mem-who)).findSome? fun k:Nat=>tryF d mem f (x::ts') (cur++[(k:Int)]) (k+1) (l++[⟨(k:Int),x.fr,x.to⟩]))
   else none
def dep:List Tr→Nat
 | []=>1
 | x::ts=>x.crew.toNat+1+dep ts
def trOk (x:Tr):Prop:=0≤x.fr∧x.fr<x.to∧x.to≤1000000∧0≤x.crew∧x.crew≤2
instance (x:Tr):Decidable (trOk x):=by unfold trOk;infer_instance
theorem tryF_bad {d:Du} {mem f:Nat} {ts:List Tr} {cur:List Int} {who:Nat} {l:List Sh} (h:okB d l=false):tryF d mem f ts cur who l=none:=by
 cases f with
 | zero=>rfl
 | succ f=>unfold tryF;rw [if_neg (by rw [h];decide)]
theorem tryF_end {d:Du} {mem f:Nat} {cur:List Int} {who:Nat} {l:List Sh} (h:okB d l=true):tryF d mem (f+1) [] cur who l=some []:=by
 unfold tryF;rw [if_pos h]
theorem tryF_full {d:Du} {mem f:Nat} {x:Tr} {ts:List Tr} {cur:List Int} {who:Nat} {l:List Sh} (h:okB d l=true) (hc:(cur.length:Int)=x.crew):tryF d mem (f+1) (x::ts) cur who l=(tryF d mem f ts [] 0 l).map (cur::·):=by
 rw [tryF,if_pos h];simp only [if_pos hc]
theorem tryF_loop {d:Du} {mem f:Nat} {x:Tr} {ts:List Tr} {cur:List Int} {who:Nat} {l:List Sh} (h:okB d l=true) (hc:¬ (cur.length:Int)=x.crew):tryF d mem (f+1) (x::ts) cur who l =
   (List.range' who (mem-who)).findSome? fun k:Nat=>tryF d mem f (x::ts) (cur++[(k:Int)]) (k+1) (l++[⟨(k:Int),x.fr,x.to⟩]):=by
 rw [tryF,if_pos h];simp only [if_neg hc]
theorem some_go {β:Type} {F:Nat→Option β} {who mem:Nat} (h:who<mem) (hn:F who=none):(List.range' who (mem-who)).findSome? F=(List.range' (who+1) (mem-(who+1))).findSome? F:=by
 rw [show mem-who=(mem-(who+1))+1 by omega,List.range'_succ,List.findSome?_cons,hn]
theorem some_hit {β:Type} {F:Nat→Option β} {who mem:Nat} (h:who<mem) {r:β} (hn:F who=some r):(List.range' who (mem-who)).findSome? F=some r:=by
 rw [show mem-who=(mem-(who+1))+1 by omega,List.range'_succ,List.findSome?_cons,hn]
theorem some_end {β:Type} {F:Nat→Option β} {who mem:Nat} (h:mem≤who):(List.range' who (mem-who)).findSome? F=none:=by
 rw [show mem-who=0 by omega];rfl
theorem tryF_len {d:Du} {mem:Nat}:∀ {f:Nat} {ts:List Tr} {cur:List Int} {who:Nat} {l:List Sh} {r:List (List Int)},tryF d mem f ts cur who l=some r→r.length=ts.length
 | 0,ts,cur,who,l,r,h=>by unfold tryF at h;cases h
 | f+1,ts,cur,who,l,r,h=>by
   cases ho:okB d l with
   | false=>rw [tryF_bad ho] at h;cases h
   | true=>
     cases ts with
     | nil=>rw [tryF_end ho] at h;cases h;rfl
     | cons x ts=>
       by_cases hc:(cur.length:Int)=x.crew
       · rw [tryF_full ho hc] at h
         obtain ⟨r',h1,rfl⟩:=Option.map_eq_some_iff.1 h
         rw [List.length_cons,List.length_cons,tryF_len h1]
       · rw [tryF_loop ho hc] at h
         obtain ⟨k,_,h1⟩:=List.exists_of_findSome?_eq_some h
         exact tryF_len h1
end Go.Proofs.Ytcjkndjjbjoehaa
namespace Go.Proofs.Ytcjkndjjbjoehaa
open Go.RowKit
section
variable {c:Cx} {S:WS c.P} {Q:QS} {F:Fr} {H G:Hp} {x y:Code}
end
/-! Rows -/
abbrev Row:=List Int×Option (Nat×Nat)
def rwV (r:Row):Value:=.slice (clA r.2) r.1.length (clC r.2)
def rowH (r:Row):Hp:=clH 3 1 (r.1.map iv) r.2
def rwsH:List Row→Hp
 | []=>[]
 | r::R=>rowH r++rwsH R
theorem rwsH_app:∀ (R R':List Row),rwsH (R++R')=rwsH R++rwsH R'
 | [],_=>rfl
 | r::R,R'=>by show rowH r++rwsH (R++R')=(rowH r++rwsH R)++rwsH R';rw [rwsH_app R R',List.append_assoc]
def LrOk (r:Row):Prop:=(r.2=none→r.1.length=0)∧r.1.length≤clC r.2
def outH (g m:Nat) (R:List Row):Hp:=(g,R.map rwV,some (22,1,m))::rwsH R
def outR (g m:Nat) (R1:List Row) (r:Row) (R2:List Row):Hp:=rowH r++((g,R1.map rwV++rwV r::R2.map rwV,some (22,1,m))::(rwsH R1++rwsH R2))
theorem out_to (g m:Nat) (R1:List Row) (r:Row) (R2:List Row) (X:Hp):HpSub (outH g m (R1++r::R2)++X) (outR g m R1 r R2++X):=by
 refine hp_perm (List.Perm.append_right X ?_)
 unfold outH outR
 rw [rwsH_app,List.map_append,List.map_cons]
 show List.Perm (_::(rwsH R1++(rowH r++rwsH R2))) _
 refine List.Perm.trans ?_ List.perm_middle.symm
 refine List.Perm.cons _ ?_
 rw [← List.append_assoc,← List.append_assoc]
 exact List.Perm.append_right _ List.perm_append_comm
theorem out_of (g m:Nat) (R1:List Row) (r:Row) (R2:List Row) (X:Hp):HpSub (outR g m R1 r R2++X) (outH g m (R1++r::R2)++X):=by
 refine hp_perm (List.Perm.append_right X ?_)
 unfold outH outR
 rw [rwsH_app,List.map_append,List.map_cons]
 show List.Perm _ (_::(rwsH R1++(rowH r++rwsH R2)))
 refine List.perm_middle.trans ?_
 refine List.Perm.cons _ ?_
 rw [← List.append_assoc,← List.append_assoc]
 exact List.Perm.append_right _ List.perm_append_comm
theorem out_to0 (g m:Nat) (R1:List Row) (r:Row) (R2:List Row):HpSub (outH g m (R1++r::R2)) (outR g m R1 r R2):=by
 have:=out_to g m R1 r R2 []
 rwa [List.append_nil,List.append_nil] at this
theorem out_of0 (g m:Nat) (R1:List Row) (r:Row) (R2:List Row):HpSub (outR g m R1 r R2) (outH g m (R1++r::R2)):=by
 have:=out_of g m R1 r R2 []
 rwa [List.append_nil,List.append_nil] at this
theorem Has.off2 {w0:World} {M:Ms} {X K:Hp} {w:World} (h:Has w0 M (X++K) w) {b:Nat} (hb:b∈X.map Prod.fst):b∉K.map Prod.fst:=fun hm=>by
 have:=h.nodup
 rw [List.map_append,List.nodup_append] at this
 exact this.2.2 _ hb _ hm rfl
theorem mem_fst {X K:Hp} {b:Nat} (h:b∈K.map Prod.fst):b∈(X++K).map Prod.fst:=by
 rw [List.map_append];exact List.mem_append_right _ h
theorem rwV_at {A B:List Value} {v:Value} {k:Nat} (h:A.length=k):(A++v::B)[0+k*1]?=some v:=by
 rw [Nat.zero_add,Nat.mul_one,← h];simp
section
variable {c:Cx} {F:Fr} {H H':Hp} {K:Value→Hp→Prop} {d:Option Tmp} {ty t:TypeId} {pos:String} {af:Array Edge} {gd:Option (Nat×Bool)} {x y:Operand} {a0:Bool} {z0:List Value} {k0:TyK} {g k:Nat} {tg:Tg} {A B:List Value} {u v:Value}
theorem os_storeV (h:A.length=k) (ht:tyAt c.tys t=some ⟨a0,1,z0,k0⟩) (hx:ev F x=some (.pointer (some ⟨g,0+k*1,none⟩))) (hy:ev F y=some u) (hu:u.oneCell'=true) (hp:Pick H g (A++v::B) tg H')
   (kk:K undef ((g,A++u::B,tg)::H')):OS c ⟨d,.store t x y,ty,pos,af,gd⟩ F H K:=
 store_gen (vs:=[u]) ht hx hy (by cases u<;>first|rfl|(simp [Value.oneCell'] at hu)) rfl (by simpa using hu) hp (by simp;omega) (by
   have e:setL (A++v::B) (0+k*1) [u]=A++u::B:=by
     simp only [setL]
     rw [Nat.zero_add,Nat.mul_one,← h,List.set_append_right _ _ (Nat.le_refl _)]
     simp
   rw [e];exact kk)
end
theorem old_off {w w1:World} {D:List Nat} {X G:Hp} {k n:Nat} {A:Option Addr} {rows:List (List Value)} (h:Has w ⟨[],D⟩ (X++G) w1) (hr:RdS w k A n rows):0<n→∀ b o,A=some ⟨b,o,none⟩→b∉G.map Prod.fst:=fun hn b o hA hb=>by
 obtain ⟨b',o',hA',hb',_⟩:=hr.at_ hn
 rw [hA] at hA'
 cases hA'
 exact h.oldoff hb' List.not_mem_nil (mem_fst hb)
structure TryW (d:Du) (mem m:Nat) (ts:List Tr) (bD bT bO bF bM g:Nat) (AT:Option Addr) (cT:Nat) (w:World) (M:List Nat):Prop where
 d0:w.cell? ⟨bD,0,none⟩=some (.int .i64 d.most)
 d1:w.cell? ⟨bD,1,none⟩=some (.int .i64 d.rest)
 d2:w.cell? ⟨bD,2,none⟩=some (.int .i64 d.win)
 d3:w.cell? ⟨bD,3,none⟩=some (.int .i64 d.sum)
 t0:w.cell? ⟨bT,0,none⟩=some (.slice AT m cT)
 o0:w.cell? ⟨bO,0,none⟩=some (.slice (some ⟨g,0,none⟩) m m)
 f0:w.cell? ⟨bF,0,none⟩=some (.func (.func 89) #[] #[.pointer (some ⟨bD,0,none⟩),.pointer (some ⟨bT,0,none⟩),.pointer (some ⟨bO,0,none⟩),.pointer (some ⟨bF,0,none⟩),.pointer (some ⟨bM,0,none⟩)])
 m0:w.cell? ⟨bM,0,none⟩=some (.int .i64 (mem:Nat))
 ts_:RdS w 3 AT m (ts.map trCells)
 nD:bD∉M
 nT:bT∉M
 nO:bO∉M
 nF:bF∉M
 nM:bM∉M
 nA:0<m→∀ b o,AT=some ⟨b,o,none⟩→b∉M
theorem TryW.next {d:Du} {mem m:Nat} {ts:List Tr} {bD bT bO bF bM g:Nat} {AT:Option Addr} {cT:Nat} {w w1:World} {M D:List Nat} {H G:Hp} (h:TryW d mem m ts bD bT bO bF bM g AT cT w M) (hm:0<m) (hw:Has w ⟨M,D⟩ H w1) (hG:∀ b∈G.map Prod.fst,b∈H.map Prod.fst) :
   TryW d mem m ts bD bT bO bF bM g AT cT w1 (G.map Prod.fst):=by
 have hlt:∀ {b o:Nat} {v:Value},w.cell? ⟨b,o,none⟩=some v→b<w.heap.size:=fun hc=>cell_lt hc
 refine ⟨hw.oldc h.d0 h.nD,hw.oldc h.d1 h.nD,hw.oldc h.d2 h.nD,hw.oldc h.d3 h.nD,hw.oldc h.t0 h.nT,hw.oldc h.o0 h.nO,hw.oldc h.f0 h.nF,hw.oldc h.m0 h.nM,h.ts_.extM hw.ext h.nA,fun hb=>?_,fun hb=>?_,fun hb=>?_,fun hb=>?_,fun hb=>?_,fun _ b o hA hb=>?_⟩
 · exact hw.oldoff (hlt h.d0) h.nD (hG _ hb)
 · exact hw.oldoff (hlt h.t0) h.nT (hG _ hb)
 · exact hw.oldoff (hlt h.o0) h.nO (hG _ hb)
 · exact hw.oldoff (hlt h.f0) h.nF (hG _ hb)
 · exact hw.oldoff (hlt h.m0) h.nM (hG _ hb)
 · obtain ⟨b',o',hA',hb',_⟩:=h.ts_.at_ hm
   rw [hA] at hA'
   cases hA'
   exact hw.oldoff hb' (h.nA hm _ _ hA) (hG _ hb)
end Go.Proofs.Ytcjkndjjbjoehaa
namespace Go.Proofs.Ytcjkndjjbjoehaa
structure OkO (o:Off):Prop where
 now:0≤o.now∧o.now≤1000000
 notice:0≤o.notice∧o.notice≤1000000
 fee:0≤o.fee∧o.fee≤100
 nf:o.fl.length≤10
 nb:o.bk.length≤120
 deps:DepsOk o.fl
 bks:BksOk o.fl o.bk
 fit:o.bk.all (bookedB o.fl o.fee)=true
 seats:(List.range o.fl.length).all (seatB o.fl o.bk)=true
 money:moneyB o=true
 inn : -1000000000≤o.inn∧o.inn≤1000000000
 out : -1000000000≤o.out∧o.out≤1000000000
/-! Sums -/
def cH (fl:List Dep) (x:Bk):Int:=if x.state=1∨x.state=2 then prc fl x else 0
def cE (fl:List Dep) (x:Bk):Int:=if x.state=3 then prc fl x else 0
def cK (fl:List Dep) (x:Bk):Int:=if x.state=4 then x.kept else 0
def cB (fl:List Dep) (x:Bk):Int:=if x.state=4 then prc fl x-x.kept else 0
def sm (f:Bk→Int):List Bk→Int
 | []=>0
 | x::l=>f x+sm f l
/-! Counts -/
def cN (f s:Int) (x:Bk):Int:=if isB f s x=true then 1 else 0
def BkOk (fl:List Dep) (fee:Int) (x:Bk):Prop:=∃ (i:Nat) (d:Dep),x.flight=(i:Int)∧fl[i]?=some d∧((x.state=4∧0≤x.kept∧x.kept≤feeV d.price fee)∨(¬ x.state=4∧fitB d.state x.state=true∧x.kept=0))
structure Semi (o:Off) (i:Nat):Prop where
 now:0≤o.now∧o.now≤1000000
 notice:0≤o.notice∧o.notice≤1000000
 fee:0≤o.fee∧o.fee≤100
 nf:o.fl.length≤10
 nb:o.bk.length≤120
 deps:DepsOk o.fl
 bks:∀ x∈o.bk,BkOk o.fl o.fee x
 seat:∀ (j:Nat) (d:Dep),j≠i→o.fl[j]?=some d→manyV o.bk j 1+manyV o.bk j 3≤d.seats∧(manyV o.bk j 1+manyV o.bk j 3=d.seats∨manyV o.bk j 2≤0)
 inn:o.inn=sm (cH o.fl) o.bk+sm (cE o.fl) o.bk+sm (cK o.fl) o.bk+sm (cB o.fl) o.bk
 out:o.out=sm (cB o.fl) o.bk
end Go.Proofs.Ytcjkndjjbjoehaa
namespace Go.Proofs.Ytcjkndjjbjoehaa
open Go.RowKit
section
variable {c:Cx} {F:Fr} {H:Hp} {d:Option Tmp} {ty t:TypeId} {pos:String} {af:Array Edge} {g:Option (Nat×Bool)} {x y:Operand} {a0 a1:Bool} {s0 s1:Nat} {z0 z1:List Value} {k1:TyK}
theorem oq_sliceHG {e len cap h:Nat} {L:Option Addr} (hn:L=none→len=0∧cap=0) (ht:tyAt c.tys t=some ⟨a0,s0,z0,.slice e⟩) (he:tyAt c.tys e=some ⟨a1,s1,z1,k1⟩)
   (hx:ev F x=some (.slice L len cap)) (hy:ev F y=some (.int .i64 (h:Nat))) (h1:h≤cap) :
   OQ c ⟨d,.slice t x none (some y) none,ty,pos,af,g⟩ F H (.slice L h cap):=.of fun D a w ha _=>by
 have hk:=(c.ty ht).kind w
 have hs:=(c.ty he).size w
 simp only [execOp,Option.map,ha.ev hx,ha.ev hy]
 rcases L with _|⟨b,o,q⟩
 · obtain ⟨rfl,rfl⟩:=hn rfl
   obtain rfl:h=0:=by omega
   simp [Instr.sliceAt,Instr.slice,Instr.sliceBounds,Instr.sliceBound,asIntOf,Sem.run_bind,hk,hs,Result.andThen,go_sem,add_eq]
 · by_cases h2:cap=0
   · subst h2
     simp [Instr.sliceAt,Instr.slice,Instr.sliceBounds,Instr.sliceBound,asIntOf,Sem.run_bind,hk,hs,h1,Result.andThen,go_sem,add_eq]
   · simp [Instr.sliceAt,Instr.slice,Instr.sliceBounds,Instr.sliceBound,asIntOf,Sem.run_bind,hk,hs,h1,h2,Result.andThen,go_sem,add_eq]
end
end Go.Proofs.Ytcjkndjjbjoehaa
namespace Go.Proofs.Ytcjkndjjbjoehaa
open Go.RowKit
attribute [local irreducible] OQ OS OX Rd T TL GX GL AL AI RV wpG SAny Calls
def OwnS (C:List Value) (n:Nat) (v:Value) (H:Hp):Prop:=∃ g c,v=.slice (some ⟨g,0,none⟩) n c∧H=[(g,C,some (91,3,c))]
theorem cloneO (b o:Nat) (q:_) (n c:Nat) (l:List Sh) (w:World) (hr:RdS w 3 (some ⟨b,o,q⟩) n (l.map shCells)) (hn:n≤1000000):Calls Try.prog 92 #[.slice (some ⟨b,o,q⟩) n c] w fun e w'=>∃ v H',e=.returned v∧OwnS (shB l) n v H'∧Has w ⟨[],[]⟩ H' w':=by
 refine enterF (c:=cx w 8) Try.func92 rfl rfl rfl rfl ?_
 repeat' (first|((with_reducible apply oq_id);first|((with_reducible apply oq_eqNil);(iterate 3 exact rfl))|(apply oq_fn;exact rfl;first|exact trivial|(and_intros<;>omega)|omega|skip))|((with_reducible apply tl_id);first|(with_reducible apply tl_nil)|((with_reducible apply u_s);(iterate 3 exact rfl);(with_reducible apply os_appendRows (hk:=app_ok81) (rows:=l.map shCells) (hr:=fun D w1 hw1=>hr.ext hw1.ext.ext));exact rfl;exact rfl;exact P0;exact sh_len l;exact rfl;exact sh_oneK l;exact Nat.le_refl _;omega;omega;intro b cap';simp only [Nat.zero_add,List.nil_append])|((with_reducible apply u_q);(iterate 4 exact rfl))|((with_reducible apply u_s);(iterate 3 exact rfl)))|((with_reducible apply os_id);first|((with_reducible apply os_x);exact rfl))|((with_reducible apply ox_id);first|((with_reducible apply ox_buildSlice);(iterate 4 exact rfl)))|((with_reducible apply t_id);first|(with_reducible apply t_seq)|(apply t_region;kernel_rfl)|((with_reducible apply t_condF);exact rfl)|(with_reducible apply t_ret)|(with_reducible apply t_skip))|with_reducible apply q_thenN|((with_reducible apply Norm.nil);exact rfl)|(with_reducible apply end_ret)|exact rvs_nil|(with_reducible apply rvs_cons)|((with_reducible apply rv_tmp);exact rfl)|exact (rfl:(_:Bool)=true)|(intro _;with_reducible apply tl_id))
 exact ⟨_,⟨b,cap',rfl,rfl⟩,HpSub.refl _⟩
theorem cloneN (w:World):Calls Try.prog 92 #[.slice none 0 0] w fun e w'=>e=.returned (.slice none 0 0)∧Ext w w':=by
 refine enterQ (c:=cx w 8) Try.func92 rfl rfl rfl rfl ?_
 repeat' (first|((with_reducible apply oq_id);first|((with_reducible apply oq_eqNilT);(iterate 3 exact rfl))|(apply oq_fn;exact rfl;first|exact trivial|(and_intros<;>omega)|omega|skip))|((with_reducible apply tl_id);first|(with_reducible apply tl_nil)|((with_reducible apply u_q);(iterate 4 exact rfl)))|((with_reducible apply t_id);first|(with_reducible apply t_seq)|(apply t_region;kernel_rfl)|((with_reducible apply t_condT);exact rfl)|(with_reducible apply t_ret))|with_reducible apply q_thenN|with_reducible apply q_thenR|(with_reducible apply end_ret)|exact rvs_nil|(with_reducible apply rvs_cons)|((with_reducible apply rv_tmp);exact rfl))
 all_goals rfl
theorem hp_skA {G R X:Hp} (h:HpSub R X):HpSub (G++R) X:=by
 induction G with
 | nil=>exact h
 | cons x G ih=>exact HpSub.skipX ih
theorem rowV_mk (xs:List Int) (o:Option (Nat×Nat)):rwV (xs,o)=.slice (clA o) xs.length (clC o):=rfl
theorem hp_left1 {x:Nat×List Value×Tg} {G:Hp}:HpSub (x::G) G:=HpSub.skipX (HpSub.refl _)
theorem hp_last2 {G:Hp} {a z:Nat×List Value×Tg}:HpSub (G++[a,z]) (z::G):=by
 obtain ⟨b,C,g⟩:=z;exact HpSub.cons (PA (Pick.tail (Pick.head _ _ _ _))) hp_left
theorem hp_last3 {G:Hp} {a a' z:Nat×List Value×Tg}:HpSub (G++[a,a',z]) (z::G):=by
 obtain ⟨b,C,g⟩:=z;exact HpSub.cons (PA (Pick.tail (Pick.tail (Pick.head _ _ _ _)))) hp_left
theorem hp_last4 {G:Hp} {a a' a2 z:Nat×List Value×Tg}:HpSub (G++[a,a',a2,z]) (z::G):=by
 obtain ⟨b,C,g⟩:=z;exact HpSub.cons (PA (Pick.tail (Pick.tail (Pick.tail (Pick.head _ _ _ _))))) hp_left
theorem hp_kA {A H G:Hp} (h:HpSub H G):HpSub (A++H) (A++G):=by
 induction A with
 | nil=>exact h
 | cons x A ih=>obtain ⟨b,C,g⟩:=x;exact HpSub.cons P0 ih
def TryP (g m:Nat) (cs:List (List Int)) (trip:Nat) (res:Option (List (List Int))) (v:Value) (H:Hp):Prop:=
 ∃ R,(∀ r∈R,LrOk r)∧v=.bool res.isSome∧R.map Prod.fst=(match res with|some rs=>cs.take trip++rs|none=>cs)∧H=outH g m R
theorem tr_read {w:World} {A:Option Addr} {n:Nat} {l:List Tr} (h:RdS w 3 A n (l.map trCells)) {i:Nat} (hi:i<n) :
   ∃ b o x,A=some ⟨b,o,none⟩∧b<w.heap.size∧l[i]?=some x∧w.cell? ⟨b,o+i*3,none⟩=some (.int .i64 x.fr)∧w.cell? ⟨b,o+i*3+1,none⟩=some (.int .i64 x.to)∧w.cell? ⟨b,o+i*3+2,none⟩=some (.int .i64 x.crew):=by
 obtain ⟨b,o,cs,hA,hb,hx,_,hc⟩:=h.row hi
 simp only [List.getElem?_map,Option.map_eq_some_iff] at hx
 obtain ⟨x,hx,rfl⟩:=hx
 exact ⟨b,o,x,hA,hb,hx,hc 0 _ rfl,hc 1 _ rfl,hc 2 _ rfl⟩
theorem row_split {R:List Row} {i:Nat} {r:Row} (h:R[i]?=some r):∃ R1 R2,R=R1++r::R2∧R1.length=i:=by
 obtain ⟨hi,rfl⟩:=List.getElem?_eq_some_iff.1 h
 refine ⟨R.take i,R.drop (i+1),?_,by simp;omega⟩
 rw [← List.drop_eq_getElem_cons hi,List.take_append_drop]
theorem dep_drop {ts:List Tr} {i:Nat} {x:Tr} (h:ts[i]?=some x):dep (ts.drop i)=x.crew.toNat+1+dep (ts.drop (i+1)):=by
 obtain ⟨hi,rfl⟩:=List.getElem?_eq_some_iff.1 h
 rw [List.drop_eq_getElem_cons hi];rfl
theorem dep_pos (ts:List Tr):1≤dep ts:=by cases ts with
 | nil=>exact Nat.le_refl _
 | cons x ts=>show 1≤x.crew.toNat+1+dep ts;omega
theorem try_T (d:Du) (hd:duB d) (mem m:Nat) (hmem:mem≤1000) (hm:m≤1000) (ts0:List Tr) (hts:ts0.length=m) (hto:∀ x∈ts0,trOk x) (bD bT bO bF bM g:Nat) (AT:Option Addr) (cT:Nat) :
   ∀ (f trip who:Nat) (l:List Sh) (R:List Row) (cur:List Int) (A:Option Addr) (n c:Nat) (w:World),R.length=m→(∀ r∈R,LrOk r)→trip≤m→(∀ j r,trip<j→R[j]?=some r→r.1=[])→(∀ r,R[trip]?=some r→r.1=cur)→(trip=m→cur=[]) →
     (∀ x,ts0[trip]?=some x→(cur.length:Int)≤x.crew)→dep (ts0.drop trip)≤f+cur.length→n+f≤900→who≤1000→RdS w 3 A n (l.map shCells)→(A=none→n=0∧c=0)→(0<n→∀ b o,A=some ⟨b,o,none⟩→b∉(outH g m R).map Prod.fst) →
     TryW d mem m ts0 bD bT bO bF bM g AT cT w ((outH g m R).map Prod.fst)→Has w ⟨(outH g m R).map Prod.fst,[]⟩ (outH g m R) w →
     Calls Try.prog 89 #[.int .i64 (trip:Nat),.int .i64 (who:Nat),.slice A n c,.pointer (some ⟨bD,0,none⟩),.pointer (some ⟨bT,0,none⟩),.pointer (some ⟨bO,0,none⟩),.pointer (some ⟨bF,0,none⟩),.pointer (some ⟨bM,0,none⟩)] w fun e w'=>∃ v H1,e=.returned v∧TryP g m (R.map Prod.fst) trip (tryF d mem f (ts0.drop trip) cur who l) v H1∧Has w ⟨(outH g m R).map Prod.fst,[]⟩ H1 w':=by
 intro f
 induction f with
 | zero=>
   intro trip who l R cur A n c w hR hok htr hrest hcur hc0 hcl hdep
   exfalso
   by_cases h:trip<m
   · obtain ⟨x,hx⟩:∃ x,ts0[trip]?=some x:=⟨_,List.getElem?_eq_getElem (by omega)⟩
     have h1:=dep_drop hx
     have h2:=hcl x hx
     have h3:=dep_pos (ts0.drop (trip+1))
     omega
   · have h1:=hc0 (by omega)
     subst h1
     have h3:=dep_pos (ts0.drop trip)
     simp at hdep
     omega
 | succ f ih=>
 intro trip who l R cur A n c w hR hok htr hrest hcur hc0 hcl hdep hnf hwho hr hA hAm hW hw
 have hl:=hr.len
 simp only [List.length_map] at hl
 refine (enter (c:=cxM ((outH g m R).map Prod.fst) w 88) (H:=outH g m R) (F:=frOf 0 _) (PV:=fun v H=>∃ H1,TryP g m (R.map Prod.fst) trip (tryF d mem (f+1) (ts0.drop trip) cur who l) v H1∧HpW H H1) Try.func89 rfl rfl rfl (fun d v hv=>(look_frOf _ 0 d v hv).2) hw ?_).mono fun e w' ⟨v,H',h1,⟨H1,h2,h3⟩,h4⟩=>⟨v,H1,h1,h2,h3 _ _ _ h4⟩
 have HF:=fun w1 h=>fitsR_calls A n c l w1 h hA (by omega)
 have hsame:∀ (H:Hp),tryF d mem (f+1) (ts0.drop trip) cur who l=none→HpSub H (outH g m R)→∃ H1,TryP g m (R.map Prod.fst) trip (tryF d mem (f+1) (ts0.drop trip) cur who l) (.bool false) H1∧HpW H H1:=fun H h1 h2=>⟨_,⟨R,hok,by rw [h1];rfl,by rw [h1],rfl⟩,h2.w⟩
 refine t_cut (ι:=Unit) (fun _=>[(0,.int .i64 (trip:Nat)),(1,.int .i64 (who:Nat)),(2,.slice A n c),(3,.pointer (some ⟨bD,0,none⟩)),(4,.pointer (some ⟨bT,0,none⟩)),(5,.pointer (some ⟨bO,0,none⟩)),(6,.pointer (some ⟨bF,0,none⟩)),(7,.pointer (some ⟨bM,0,none⟩))]) (fun _=>outH g m R) (fun _=>True) ?_ ?_
 · repeat' (first|((with_reducible apply oq_id);first|(apply oq_fn;exact rfl;first|exact trivial|(and_intros<;>omega)|omega|skip))|((with_reducible apply tl_id);first|(with_reducible apply tl_nil)|((with_reducible apply u_q);(iterate 4 exact rfl)))|((with_reducible apply t_id);first|(apply t_region;kernel_rfl)))
   all_goals exact ⟨rfl,(),trivial,by (repeat first|exact FrSub.nil|(apply FrSub.cons;exact rfl)),by (repeat (first|exact HpSub.refl _|(apply HpSub.consE;(repeat (first|exact P0|apply P1|apply PA));exact rfl)|apply hp_kA|apply HpSub.skipX|apply hp_skA|exact HpSub.nil))⟩
 rintro ⟨⟩ -
 by_cases hRos:Ros l
 rotate_left
 · have hno:tryF d mem (f+1) (ts0.drop trip) cur who l=none:=tryF_bad (by unfold okB;rw [decide_eq_false hRos];rfl)
   rw [decide_eq_false hRos] at HF
   repeat' (first|((with_reducible apply oq_id);first|(apply oq_fn;exact rfl;first|exact trivial|(and_intros<;>omega)|omega|skip)|((with_reducible apply oq_call (hc:=Try.call90));exact rfl;exact rfl;exact fun D w1 hw1=>HF w1 (hr.extM hw1.ext hAm)))|((with_reducible apply tl_id);first|(with_reducible apply tl_nil)|((with_reducible apply u_q);(iterate 4 exact rfl))|((with_reducible apply u_skip);(iterate 3 exact rfl)))|((with_reducible apply t_id);first|(with_reducible apply t_seq)|(apply t_region;kernel_rfl)|((with_reducible apply t_condT);exact rfl)|(with_reducible apply t_ret))|with_reducible apply q_thenN|with_reducible apply q_thenR|(with_reducible apply end_ret)|exact rvs_nil|(with_reducible apply rvs_cons)|((with_reducible apply rv_tmp);exact rfl))
   all_goals exact hsame _ hno (by (repeat (first|exact HpSub.refl _|(apply HpSub.consE;(repeat (first|exact P0|apply P1|apply PA));exact rfl)|apply hp_kA|apply HpSub.skipX|apply hp_skA|exact HpSub.nil)))
 rw [decide_eq_true hRos] at HF
 obtain ⟨T,hT⟩:∃ T,tiV d l=T:=⟨_,rfl⟩
 by_cases hTl:0<T.length
 · have hno:tryF d mem (f+1) (ts0.drop trip) cur who l=none:=tryF_bad (by
     unfold okB
     rw [hT,decide_eq_true hRos]
     cases T with
     | nil=>simp at hTl
     | cons _ _=>rfl)
   repeat' (first|((with_reducible apply oq_id);first|((with_reducible apply oq_gtrT);exact rfl;exact rfl;omega)|(apply oq_fn;exact rfl;first|exact trivial|(and_intros<;>omega)|omega|skip)|((with_reducible apply oq_loadAgg);exact rfl;exact rfl)|((with_reducible apply oq_call (hc:=Try.call90));exact rfl;exact rfl;exact fun D w1 hw1=>HF w1 (hr.extM hw1.ext hAm)))|((with_reducible apply tl_id);first|(with_reducible apply tl_nil)|((with_reducible apply u_s);(iterate 3 exact rfl);(with_reducible apply os_callF (PV:=TiO T) (hc:=Try.call91));exact rfl;exact rfl;exact fun D w1 hw1=>(by rw [← hT];exact tiredR_T d hd A n c l w1 (hr.extM hw1.ext hAm) hA (by omega) hRos);rintro v H' ⟨x0,hx0,rfl,rfl⟩)|((with_reducible apply u_q);(iterate 4 exact rfl)))|((with_reducible apply rd_id);first|(apply Rd.old;(first|exact hW.d0|exact hW.d1|exact hW.d2|exact hW.d3|exact hW.t0|exact hW.o0|exact hW.f0|exact hW.m0|exact e0|exact e1|exact e2);first|exact hW.nD|exact hW.nT|exact hW.nO|exact hW.nF|exact hW.nM|exact hnx))|((with_reducible apply t_id);first|(with_reducible apply t_seq)|(apply t_region;kernel_rfl)|((with_reducible apply t_condT);exact rfl)|(with_reducible apply t_ret))|with_reducible apply q_thenN|with_reducible apply q_thenR|exact Rdn.zero|apply Rdn.succ|(with_reducible apply end_ret)|exact rvs_nil|(with_reducible apply rvs_cons)|((with_reducible apply rv_tmp);exact rfl))
   all_goals exact hsame _ hno (by (repeat (first|exact HpSub.refl _|(apply HpSub.consE;(repeat (first|exact P0|apply P1|apply PA));exact rfl)|apply hp_kA|apply HpSub.skipX|apply hp_skA|exact HpSub.nil)))
 have hyes:okB d l=true:=by
   unfold okB
   rw [hT,decide_eq_true hRos,List.length_eq_zero_iff.1 (show T.length=0 by omega)];rfl
 refine t_cut (ι:=Unit) (fun _=>[(0,.int .i64 (trip:Nat)),(1,.int .i64 (who:Nat)),(2,.slice A n c),(3,.pointer (some ⟨bD,0,none⟩)),(4,.pointer (some ⟨bT,0,none⟩)),(5,.pointer (some ⟨bO,0,none⟩)),(6,.pointer (some ⟨bF,0,none⟩)),(7,.pointer (some ⟨bM,0,none⟩))]) (fun _=>outH g m R) (fun _=>True) ?_ ?_
 · repeat' (first|((with_reducible apply oq_id);first|((with_reducible apply oq_gtrF);exact rfl;exact rfl;omega)|(apply oq_fn;exact rfl;first|exact trivial|(and_intros<;>omega)|omega|skip)|((with_reducible apply oq_loadAgg);exact rfl;exact rfl)|((with_reducible apply oq_call (hc:=Try.call90));exact rfl;exact rfl;exact fun D w1 hw1=>HF w1 (hr.extM hw1.ext hAm)))|((with_reducible apply tl_id);first|(with_reducible apply tl_nil)|((with_reducible apply u_s);(iterate 3 exact rfl);(with_reducible apply os_callF (PV:=TiO T) (hc:=Try.call91));exact rfl;exact rfl;exact fun D w1 hw1=>(by rw [← hT];exact tiredR_T d hd A n c l w1 (hr.extM hw1.ext hAm) hA (by omega) hRos);rintro v H' ⟨x0,hx0,rfl,rfl⟩)|((with_reducible apply u_q);(iterate 4 exact rfl)))|((with_reducible apply rd_id);first|(apply Rd.old;(first|exact hW.d0|exact hW.d1|exact hW.d2|exact hW.d3|exact hW.t0|exact hW.o0|exact hW.f0|exact hW.m0|exact e0|exact e1|exact e2);first|exact hW.nD|exact hW.nT|exact hW.nO|exact hW.nF|exact hW.nM|exact hnx))|((with_reducible apply t_id);first|(with_reducible apply t_seq)|(apply t_region;kernel_rfl)|((with_reducible apply t_condF);exact rfl)|(with_reducible apply t_skip))|with_reducible apply q_thenN|exact Rdn.zero|apply Rdn.succ)
   all_goals exact ⟨rfl,(),trivial,by (repeat first|exact FrSub.nil|(apply FrSub.cons;exact rfl)),by (repeat (first|exact HpSub.refl _|(apply HpSub.consE;(repeat (first|exact P0|apply P1|apply PA));exact rfl)|apply hp_kA|apply HpSub.skipX|apply hp_skA|exact HpSub.nil))⟩
 rintro ⟨⟩ -
 by_cases htm:trip=m
 · have hdr:ts0.drop trip=[]:=List.drop_of_length_le (by omega)
   rw [hdr,tryF_end hyes]
   repeat' (first|((with_reducible apply oq_id);first|((with_reducible apply oq_eqlT);exact rfl;exact rfl;omega)|(apply oq_fn;exact rfl;first|exact trivial|(and_intros<;>omega)|omega|skip)|((with_reducible apply oq_load);exact rfl;exact rfl))|((with_reducible apply tl_id);first|(with_reducible apply tl_nil)|((with_reducible apply u_q);(iterate 4 exact rfl)))|((with_reducible apply rd_id);first|(apply Rd.old;(first|exact hW.d0|exact hW.d1|exact hW.d2|exact hW.d3|exact hW.t0|exact hW.o0|exact hW.f0|exact hW.m0|exact e0|exact e1|exact e2);first|exact hW.nD|exact hW.nT|exact hW.nO|exact hW.nF|exact hW.nM|exact hnx))|((with_reducible apply t_id);first|(with_reducible apply t_seq)|(apply t_region;kernel_rfl)|((with_reducible apply t_condT);exact rfl)|(with_reducible apply t_ret))|with_reducible apply q_thenN|with_reducible apply q_thenR|(with_reducible apply end_ret)|exact rvs_nil|(with_reducible apply rvs_cons)|((with_reducible apply rv_tmp);exact rfl))
   all_goals exact ⟨_,⟨R,hok,rfl,by simp only [List.append_nil];rw [List.take_of_length_le (by simp;omega)],rfl⟩,HpW.refl _⟩
 refine t_cut (ι:=Unit) (fun _=>[(0,.int .i64 (trip:Nat)),(1,.int .i64 (who:Nat)),(2,.slice A n c),(3,.pointer (some ⟨bD,0,none⟩)),(4,.pointer (some ⟨bT,0,none⟩)),(5,.pointer (some ⟨bO,0,none⟩)),(6,.pointer (some ⟨bF,0,none⟩)),(7,.pointer (some ⟨bM,0,none⟩))]) (fun _=>outH g m R) (fun _=>True) ?_ ?_
 · repeat' (first|((with_reducible apply oq_id);first|((with_reducible apply oq_eqlF);exact rfl;exact rfl;omega)|(apply oq_fn;exact rfl;first|exact trivial|(and_intros<;>omega)|omega|skip)|((with_reducible apply oq_load);exact rfl;exact rfl))|((with_reducible apply tl_id);first|(with_reducible apply tl_nil)|((with_reducible apply u_q);(iterate 4 exact rfl)))|((with_reducible apply rd_id);first|(apply Rd.old;(first|exact hW.d0|exact hW.d1|exact hW.d2|exact hW.d3|exact hW.t0|exact hW.o0|exact hW.f0|exact hW.m0|exact e0|exact e1|exact e2);first|exact hW.nD|exact hW.nT|exact hW.nO|exact hW.nF|exact hW.nM|exact hnx))|((with_reducible apply t_id);first|(with_reducible apply t_seq)|(apply t_region;kernel_rfl)|((with_reducible apply t_condF);exact rfl)|(with_reducible apply t_skip))|with_reducible apply q_thenN)
   all_goals exact ⟨rfl,(),trivial,by (repeat first|exact FrSub.nil|(apply FrSub.cons;exact rfl)),by (repeat (first|exact HpSub.refl _|(apply HpSub.consE;(repeat (first|exact P0|apply P1|apply PA));exact rfl)|apply hp_kA|apply HpSub.skipX|apply hp_skA|exact HpSub.nil))⟩
 rintro ⟨⟩ -
 have htl:trip<m:=by omega
 obtain ⟨bx,ox,x,hATe,hbx,hx,e0,e1,e2⟩:=tr_read hW.ts_ htl
 have hnx:=hW.nA (by omega) _ _ hATe
 subst hATe
 have hxo:=hto x (List.mem_of_getElem? hx)
 unfold trOk at hxo
 have hcx:=hcl x hx
 have hdx:=dep_drop hx
 have hdrop:ts0.drop trip=x::ts0.drop (trip+1):=by
   obtain ⟨h1,h2⟩:=List.getElem?_eq_some_iff.1 hx
   rw [List.drop_eq_getElem_cons h1,h2]
 obtain ⟨⟨cur',o⟩,hrow⟩:∃ r,R[trip]?=some r:=⟨_,List.getElem?_eq_getElem (by omega)⟩
 obtain rfl:cur'=cur:=hcur _ hrow
 have hcs:(R.map Prod.fst).take (trip+1)=(R.map Prod.fst).take trip++[cur']:=by
   rw [List.take_add_one,List.getElem?_map,hrow];rfl
 obtain ⟨cs,hcse⟩:∃ cs,R.map Prod.fst=cs:=⟨_,rfl⟩
 have hcsl:cs.length=m:=by rw [← hcse,List.length_map,hR]
 have hct:cs[trip]?=some cur':=by rw [← hcse,List.getElem?_map,hrow];rfl
 have hcr:∀ j r,trip<j→cs[j]?=some r→r=[]:=fun j r hj hr=>by
   rw [← hcse,List.getElem?_map] at hr
   obtain ⟨r',h1,rfl⟩:=Option.map_eq_some_iff.1 hr
   exact hrest j r' hj h1
 rw [hcse] at hcs ⊢
 have hlen:∀ R':List Row,R'.map Prod.fst=cs→R'.length=m:=fun R' h=>by rw [← hcsl,← h,List.length_map]
 have hsp:∀ R':List Row,R'.map Prod.fst=cs→∃ R1 o R2,R'=R1++(cur',o)::R2∧R1.length=trip:=fun R' h=>by
   have h1:=hct
   rw [← h,List.getElem?_map] at h1
   obtain ⟨⟨c',o'⟩,h2,h3⟩:=Option.map_eq_some_iff.1 h1
   simp only at h3
   subst h3
   obtain ⟨R1,R2,h4,h5⟩:=row_split h2
   exact ⟨R1,o',R2,h4,h5⟩
 refine t_cut (ι:=Nat) (fun b12=>[(0,.int .i64 (trip:Nat)),(1,.int .i64 (who:Nat)),(2,.slice A n c),(3,.pointer (some ⟨bD,0,none⟩)),(4,.pointer (some ⟨bT,0,none⟩)),(5,.pointer (some ⟨bO,0,none⟩)),(6,.pointer (some ⟨bF,0,none⟩)),(7,.pointer (some ⟨bM,0,none⟩)),(12,.pointer (some ⟨b12,0,none⟩))]) (fun b12=>(b12,[.int .i64 x.fr,.int .i64 x.to,.int .i64 x.crew],some (88,3,1))::outH g m R) (fun _=>True) ?_ ?_
 · repeat' (first|((with_reducible apply oq_id);first|(focus ((with_reducible apply oq_indexAddrN);(iterate 4 exact rfl);omega))|(apply oq_fn;exact rfl;first|exact trivial|(and_intros<;>omega)|omega|skip)|((with_reducible apply oq_load);exact rfl;exact rfl)|((with_reducible apply oq_loadAgg);exact rfl;exact rfl))|((with_reducible apply tl_id);first|(with_reducible apply tl_nil)|((with_reducible apply u_q);(iterate 4 exact rfl))|((with_reducible apply u_s0);exact rfl;exact rfl)|((with_reducible apply u_s);(iterate 3 exact rfl)))|((with_reducible apply os_id);first|((with_reducible apply os_x);exact rfl)|((with_reducible apply os_storeAgg);(iterate 5 exact rfl)))|((with_reducible apply ox_id);first|((with_reducible apply ox_alloc);exact rfl;intro _))|((with_reducible apply rd_id);first|(apply Rd.old;(first|exact hW.d0|exact hW.d1|exact hW.d2|exact hW.d3|exact hW.t0|exact hW.o0|exact hW.f0|exact hW.m0|exact e0|exact e1|exact e2);first|exact hW.nD|exact hW.nT|exact hW.nO|exact hW.nF|exact hW.nM|exact hnx))|((with_reducible apply t_id);first|(apply t_region;kernel_rfl))|exact P0|exact Rdn.zero|apply Rdn.succ|((with_reducible apply Norm.nil);exact rfl)|((with_reducible apply Norm.cons);exact rfl)|exact Nat.le_of_ble_eq_true rfl)
   all_goals exact ⟨rfl,_,trivial,by (repeat first|exact FrSub.nil|(apply FrSub.cons;exact rfl)),by (repeat (first|exact HpSub.refl _|(apply HpSub.consE;(repeat (first|exact P0|apply P1|apply PA));exact rfl)|apply hp_kA|apply HpSub.skipX|apply hp_skA|exact HpSub.nil))⟩
 rintro b12 -
 try dsimp only
 obtain ⟨R1,o,R2,hRe,hR1⟩:=hsp R hcse
 have hA1:(R1.map rwV).length=trip:=by rw [List.length_map,hR1]
 by_cases hc:(cur'.length:Int)=x.crew
 · rw [hdrop,tryF_full hyes hc]
   refine t_seq ?_
   refine t_cut (ι:=Unit) (fun _=>[(0,.int .i64 (trip:Nat)),(1,.int .i64 (who:Nat)),(2,.slice A n c),(3,.pointer (some ⟨bD,0,none⟩)),(4,.pointer (some ⟨bT,0,none⟩)),(5,.pointer (some ⟨bO,0,none⟩)),(6,.pointer (some ⟨bF,0,none⟩)),(7,.pointer (some ⟨bM,0,none⟩)),(12,.pointer (some ⟨b12,0,none⟩)),(38,.bool true)]) (fun _=>(b12,[.int .i64 x.fr,.int .i64 x.to,.int .i64 x.crew],some (88,3,1))::outH g m R) (fun _=>True) ?_ ?_
   · refine t_subW (HpSub.front (by rw [hRe];exact out_to0 g m R1 (cur',o) R2)).w ?_
     unfold outR
     repeat' (first|((with_reducible apply oq_id);first|(focus ((with_reducible apply oq_indexAddrN);(iterate 4 exact rfl);omega))|((with_reducible apply oq_eqlT);exact rfl;exact rfl;omega)|(apply oq_fn;exact rfl;first|exact trivial|(and_intros<;>omega)|omega|skip)|((with_reducible apply oq_load);exact rfl;exact rfl))|((with_reducible apply gx_id);first|(with_reducible apply v_nil)|((with_reducible apply v_q);(iterate 3 exact rfl)))|((with_reducible apply rd_id);first|(apply Rd.old;(first|exact hW.d0|exact hW.d1|exact hW.d2|exact hW.d3|exact hW.t0|exact hW.o0|exact hW.f0|exact hW.m0|exact e0|exact e1|exact e2);first|exact hW.nD|exact hW.nT|exact hW.nO|exact hW.nF|exact hW.nM|exact hnx)|(apply Rd.own;(repeat (first|exact P0|apply P1|apply PA));exact rwV_at hA1;done)|(apply Rd.own;(repeat (first|exact P0|apply P1|apply PA));exact rfl;done))|((with_reducible apply t_id);first|(apply t_mix (id:=6) [0,1,2,3,4,5,6,7] 0 #[false,false,false,false,false,false,false,false];kernel_rfl;kernel_rfl;exact rfl))|((with_reducible apply al_id);first|(apply al_done;decide +kernel)))
     all_goals exact ⟨rfl,(),trivial,by (repeat first|exact FrSub.nil|(apply FrSub.cons;exact rfl)),by (rw [hRe];exact HpSub.front (out_of0 g m R1 (cur',o) R2))⟩
   rintro ⟨⟩ -
   obtain ⟨res,hres⟩:∃ r,tryF d mem f (ts0.drop (trip+1)) [] 0 l=r:=⟨_,rfl⟩
   rw [hres]
   repeat' (first|((with_reducible apply oq_id);first|((with_reducible apply oq_addE (k:=((trip+1:Nat):Int)));exact rfl;exact rfl;omega)|(apply oq_fn;exact rfl;first|exact trivial|(and_intros<;>omega)|omega|skip)|((with_reducible apply oq_load);exact rfl;exact rfl))|((with_reducible apply tl_id);first|(with_reducible apply tl_nil)|((with_reducible apply u_s);(iterate 3 exact rfl);(with_reducible apply os_callM (G:=outH g m R) (R:=[(b12,[.int .i64 x.fr,.int .i64 x.to,.int .i64 x.crew],some (88,3,1))]) (PV:=TryP g m cs (trip+1) res) (hc:=Try.call89));exact rfl;exact rfl;exact hp_comm [_] _;exact fun D w1 hw1 hw2=>(by have h:=ih (trip+1) 0 l R [] A n c w1 hR hok (by omega) (fun j r hj=>hrest j r (by omega)) (fun r hr'=>hrest (trip+1) r (by omega) hr') (fun _=>rfl) (fun y hy=>by have:=hto y (List.mem_of_getElem? hy);unfold trOk at this;simp only [List.length_nil];omega) (by simp only [List.length_nil];omega) (by omega) (by omega) (hr.extM hw1.ext hAm) hA hAm (hW.next (by omega) hw1 fun b hb=>mem_fst (X:=[_]) hb) hw2;rw [hres,hcse] at h;exact h);rintro v H1 ⟨R',hok',rfl,hcs',rfl⟩)|((with_reducible apply u_q);(iterate 4 exact rfl)))|((with_reducible apply rd_id);first|(apply Rd.old;(first|exact hW.d0|exact hW.d1|exact hW.d2|exact hW.d3|exact hW.t0|exact hW.o0|exact hW.f0|exact hW.m0|exact e0|exact e1|exact e2);first|exact hW.nD|exact hW.nT|exact hW.nO|exact hW.nF|exact hW.nM|exact hnx))|((with_reducible apply t_id);first|(with_reducible apply t_seq)|(apply t_region;kernel_rfl)|((with_reducible apply t_condT);exact rfl)|(with_reducible apply t_ret))|with_reducible apply q_thenN|with_reducible apply q_thenR|(with_reducible apply end_ret)|exact rvs_nil|(with_reducible apply rvs_cons)|((with_reducible apply rv_tmp);exact rfl))
   all_goals (refine ⟨_,⟨R',hok',?_,?_,rfl⟩,(HpSub.w hp_left)⟩)
   · cases res<;>rfl
   · rw [hcs']
     cases res with
     | none=>rfl
     | some rs=>simp only [Option.map_some,hcs,List.append_assoc,List.cons_append,List.nil_append]
 rw [hdrop,tryF_loop hyes hc]
 obtain ⟨Fk,hFk⟩:∃ F:Nat→Option (List (List Int)),(fun k:Nat=>tryF d mem f (x::ts0.drop (trip+1)) (cur'++[(k:Int)]) (k+1) (l++[⟨(k:Int),x.fr,x.to⟩]))=F:=⟨_,rfl⟩
 rw [hFk]
 have hFe:∀ k:Nat,tryF d mem f (x::ts0.drop (trip+1)) (cur'++[(k:Int)]) (k+1) (l++[⟨(k:Int),x.fr,x.to⟩])=Fk k:=fun k=>congrFun hFk k
 refine t_cut (ι:=Unit) (fun _=>[(0,.int .i64 (trip:Nat)),(1,.int .i64 (who:Nat)),(2,.slice A n c),(3,.pointer (some ⟨bD,0,none⟩)),(4,.pointer (some ⟨bT,0,none⟩)),(5,.pointer (some ⟨bO,0,none⟩)),(6,.pointer (some ⟨bF,0,none⟩)),(7,.pointer (some ⟨bM,0,none⟩)),(12,.pointer (some ⟨b12,0,none⟩))]) (fun _=>(b12,[.int .i64 x.fr,.int .i64 x.to,.int .i64 x.crew],some (88,3,1))::outH g m R) (fun _=>True) ?_ ?_
 · refine t_subW (HpSub.front (by rw [hRe];exact out_to0 g m R1 (cur',o) R2)).w ?_
   unfold outR
   repeat' (first|((with_reducible apply oq_id);first|(focus ((with_reducible apply oq_indexAddrN);(iterate 4 exact rfl);omega))|((with_reducible apply oq_eqlF);exact rfl;exact rfl;omega)|(apply oq_fn;exact rfl;first|exact trivial|(and_intros<;>omega)|omega|skip)|((with_reducible apply oq_load);exact rfl;exact rfl))|((with_reducible apply gx_id);first|(with_reducible apply v_nil)|((with_reducible apply v_q);(iterate 3 exact rfl)))|((with_reducible apply rd_id);first|(apply Rd.old;(first|exact hW.d0|exact hW.d1|exact hW.d2|exact hW.d3|exact hW.t0|exact hW.o0|exact hW.f0|exact hW.m0|exact e0|exact e1|exact e2);first|exact hW.nD|exact hW.nT|exact hW.nO|exact hW.nF|exact hW.nM|exact hnx)|(apply Rd.own;(repeat (first|exact P0|apply P1|apply PA));exact rwV_at hA1;done)|(apply Rd.own;(repeat (first|exact P0|apply P1|apply PA));exact rfl;done))|((with_reducible apply t_id);first|(apply t_mix (id:=6) [0,1,2,3,4,5,6,7] 0 #[false,false,false,false,false,false,false,false];kernel_rfl;kernel_rfl;exact rfl)|(with_reducible apply t_seq)|((with_reducible apply t_condF);exact rfl)|(with_reducible apply t_skip))|with_reducible apply q_thenN|((with_reducible apply al_id);first|(apply al_done;decide +kernel)))
   all_goals exact ⟨rfl,(),trivial,by (repeat first|exact FrSub.nil|(apply FrSub.cons;exact rfl)),by (rw [hRe];exact HpSub.front (out_of0 g m R1 (cur',o) R2))⟩
 rintro ⟨⟩ -
 repeat' (first|((with_reducible apply t_id);first|(with_reducible apply t_seq)|(with_reducible apply t_block)))
 apply t_loopK (GH:=[]) (ι:=Nat×List Row) [0,2,3,4,5,6,7,12] (fun z=>[(1,.int .i64 (z.1:Nat))]) (fun z=>(b12,[.int .i64 x.fr,.int .i64 x.to,.int .i64 x.crew],some (88,3,1))::outH g m z.2) (fun z=>who≤z.1∧(z.1≤mem∨z.1=who)∧z.2.map Prod.fst=cs∧(∀ r∈z.2,LrOk r)∧(List.range' who (mem-who)).findSome? Fk=(List.range' z.1 (mem-z.1)).findSome? Fk) (fun z=>mem-z.1) ((who,R))
 (repeat (first|exact KeepF.nil|(apply KeepF.cons;exact rfl)|apply KeepF.skip))
 (repeat first|exact FrSub.nil|(apply FrSub.cons;exact rfl))
 ((try simp only [List.append_nil]);(repeat (first|exact HpSub.refl _|(apply HpSub.consE;(repeat (first|exact P0|apply P1|apply PA));exact rfl)|apply hp_kA|apply HpSub.skipX|apply hp_skA|exact HpSub.nil)))
 · exact ⟨Nat.le_refl _,.inr rfl,hcse,hok,rfl⟩
 clear hRe hR1 hA1 R1 R2 o
 rintro ⟨k,R3⟩ ⟨p1,p2,p3,p4,p5⟩
 simp only at p1 p2 p3 p4 p5
 try dsimp only
 try simp only [List.append_nil]
 by_cases hk:k<mem
 rotate_left
 · rw [p5,some_end (by omega)]
   repeat' (first|((with_reducible apply oq_id);first|((with_reducible apply oq_lssF);exact rfl;exact rfl;omega)|(apply oq_fn;exact rfl;first|exact trivial|(and_intros<;>omega)|omega|skip)|((with_reducible apply oq_load);exact rfl;exact rfl))|((with_reducible apply tl_id);first|(with_reducible apply tl_nil)|((with_reducible apply u_q);(iterate 4 exact rfl)))|((with_reducible apply rd_id);first|(apply Rd.old;(first|exact hW.d0|exact hW.d1|exact hW.d2|exact hW.d3|exact hW.t0|exact hW.o0|exact hW.f0|exact hW.m0|exact e0|exact e1|exact e2);first|exact hW.nD|exact hW.nT|exact hW.nO|exact hW.nF|exact hW.nM|exact hnx))|((with_reducible apply t_id);first|(with_reducible apply t_seq)|(apply t_region;kernel_rfl)|((with_reducible apply t_condF);exact rfl)|(with_reducible apply t_ret)|(with_reducible apply t_exit))|with_reducible apply q_thenN|with_reducible apply q_thenE|((with_reducible apply q_blockE);exact rfl)|(with_reducible apply end_ret)|exact rvs_nil|(with_reducible apply rvs_cons)|((with_reducible apply rv_tmp);exact rfl))
   all_goals exact ⟨_,⟨R3,p4,rfl,p3,rfl⟩,HpSub.w hp_left1⟩
 obtain ⟨R1,o,R2,hRe,hR1⟩:=hsp R3 p3
 have hA1:(R1.map rwV).length=trip:=by rw [List.length_map,hR1]
 have hro:=p4 (cur',o) (by rw [hRe];simp)
 unfold LrOk at hro
 simp only at hro
 refine t_cut (ι:=Unit) (fun _=>[(0,.int .i64 (trip:Nat)),(1,.int .i64 (k:Nat)),(2,.slice A n c),(3,.pointer (some ⟨bD,0,none⟩)),(4,.pointer (some ⟨bT,0,none⟩)),(5,.pointer (some ⟨bO,0,none⟩)),(6,.pointer (some ⟨bF,0,none⟩)),(7,.pointer (some ⟨bM,0,none⟩)),(12,.pointer (some ⟨b12,0,none⟩))]) (fun _=>(b12,[.int .i64 x.fr,.int .i64 x.to,.int .i64 x.crew],some (88,3,1))::outH g m R3) (fun _=>True) ?_ ?_
 · repeat' (first|((with_reducible apply oq_id);first|((with_reducible apply oq_lssT);exact rfl;exact rfl;omega)|(apply oq_fn;exact rfl;first|exact trivial|(and_intros<;>omega)|omega|skip)|((with_reducible apply oq_load);exact rfl;exact rfl))|((with_reducible apply tl_id);first|(with_reducible apply tl_nil)|((with_reducible apply u_q);(iterate 4 exact rfl)))|((with_reducible apply rd_id);first|(apply Rd.old;(first|exact hW.d0|exact hW.d1|exact hW.d2|exact hW.d3|exact hW.t0|exact hW.o0|exact hW.f0|exact hW.m0|exact e0|exact e1|exact e2);first|exact hW.nD|exact hW.nT|exact hW.nO|exact hW.nF|exact hW.nM|exact hnx))|((with_reducible apply t_id);first|(with_reducible apply t_seq)|(apply t_region;kernel_rfl)|((with_reducible apply t_condT);exact rfl)|(with_reducible apply t_skip))|with_reducible apply q_thenN)
   all_goals exact ⟨rfl,(),trivial,by (repeat first|exact FrSub.nil|(apply FrSub.cons;exact rfl)),by (repeat (first|exact HpSub.refl _|(apply HpSub.consE;(repeat (first|exact P0|apply P1|apply PA));exact rfl)|apply hp_kA|apply HpSub.skipX|apply hp_skA|exact HpSub.nil))⟩
 rintro ⟨⟩ -
 refine t_seq ?_
 refine t_block ?_
 refine t_cut (ι:=Nat×Nat) (fun _=>[(0,.int .i64 (trip:Nat)),(1,.int .i64 (k:Nat)),(2,.slice A n c),(3,.pointer (some ⟨bD,0,none⟩)),(4,.pointer (some ⟨bT,0,none⟩)),(5,.pointer (some ⟨bO,0,none⟩)),(6,.pointer (some ⟨bF,0,none⟩)),(7,.pointer (some ⟨bM,0,none⟩)),(12,.pointer (some ⟨b12,0,none⟩))]) (fun z=>(b12,[.int .i64 x.fr,.int .i64 x.to,.int .i64 x.crew],some (88,3,1))::outR g m R1 (cur'++[(k:Int)],some z) R2) (fun _=>True) ?_ ?_
 · refine t_subW (HpSub.front (by rw [hRe];exact out_to0 g m R1 (cur',o) R2)).w ?_
   unfold outR rowH
   rw [rowV_mk]
   have hpc:=hro.2
   rcases o with _|⟨go,co⟩
   · obtain rfl:=List.length_eq_zero_iff.1 (hro.1 rfl)
     simp only [clA,clC,clH,List.nil_append,List.length_nil]
     repeat' (first|((with_reducible apply oq_id);first|(focus ((with_reducible apply oq_indexAddrN);(iterate 4 exact rfl);omega))|(apply oq_fn;exact rfl;first|exact trivial|(and_intros<;>omega)|omega|skip)|((with_reducible apply oq_load);exact rfl;exact rfl))|((with_reducible apply gx_id);first|(with_reducible apply v_nil)|((with_reducible apply v_q);(iterate 3 exact rfl)))|((with_reducible apply os_id);first|((with_reducible apply (os_storeV hA1));(iterate 4 exact rfl);(repeat (first|exact P0|apply P1|apply PA)))|((with_reducible apply os_appendNil (hk:=app_ok22));exact rfl;exact rfl))|((with_reducible apply ox_id);first|((with_reducible apply ox_buildSlice1);(iterate 6 exact rfl);intro _))|((with_reducible apply ai_id);first|((with_reducible apply ai_q);(iterate 5 exact rfl))|((with_reducible apply ai_x);(iterate 5 exact rfl))|((with_reducible apply ai_n0);(iterate 3 exact rfl))|((with_reducible apply ai_n);(iterate 4 exact rfl)))|((with_reducible apply al_keep);focus (repeat (first|exact HpSub.refl _|(apply HpSub.cons;(repeat (first|exact P0|apply P1|apply PA)))|apply HpSub.skipX|exact HpSub.nil)))|((with_reducible apply rd_id);first|(apply Rd.old;(first|exact hW.d0|exact hW.d1|exact hW.d2|exact hW.d3|exact hW.t0|exact hW.o0|exact hW.f0|exact hW.m0|exact e0|exact e1|exact e2);first|exact hW.nD|exact hW.nT|exact hW.nO|exact hW.nF|exact hW.nM|exact hnx)|(apply Rd.own;(repeat (first|exact P0|apply P1|apply PA));exact rwV_at hA1;done)|(apply Rd.own;(repeat (first|exact P0|apply P1|apply PA));exact rfl;done))|((with_reducible apply t_id);first|(apply t_mixZ (id:=10) [0,1,2,3,4,6] 5;kernel_rfl;kernel_rfl;exact rfl))|exact Rdn.zero|apply Rdn.succ|((with_reducible apply al_id);first|(apply al_done;decide +kernel)|(apply al_one 5;decide +kernel)|(apply al_one 7;decide +kernel)|(apply al_one 8;decide +kernel)|(apply al_one 9;decide +kernel)|(apply al_one 10;decide +kernel)|(apply al_two 5 7;decide +kernel))|(intro gN cN;refine al_keep ?_ ?_;focus exact HpSub.nil)|exact Nat.le_of_ble_eq_true rfl|exact (rfl:(_:Bool)=true))
     all_goals exact ⟨rfl,(gN,cN),trivial,by (repeat first|exact FrSub.nil|(apply FrSub.cons;exact rfl)),by (show HpSub _ ((b12,[.int .i64 x.fr,.int .i64 x.to,.int .i64 x.crew],some (88,3,1))::outR g m R1 (([]:List Int)++[(k:Int)],some (gN,cN)) R2);unfold outR rowH;simp only [clH,List.cons_append,List.nil_append];(repeat (first|exact HpSub.refl _|(apply HpSub.consE;(repeat (first|exact P0|apply P1|apply PA));first|exact rfl|(focus (simp [iv];done))|(focus (rw [rowV_mk];simp [clA,clC];done)))|apply hp_kA|apply HpSub.skipX|apply hp_skA|exact HpSub.nil)))⟩
   · simp only [clA,clC,clH,List.cons_append,List.nil_append]
     repeat' (first|((with_reducible apply oq_id);first|(focus ((with_reducible apply oq_indexAddrN);(iterate 4 exact rfl);omega))|(apply oq_fn;exact rfl;first|exact trivial|(and_intros<;>omega)|omega|skip)|((with_reducible apply oq_load);exact rfl;exact rfl))|((with_reducible apply gx_id);first|(with_reducible apply v_nil)|((with_reducible apply v_q);(iterate 3 exact rfl)))|((with_reducible apply os_id);first|((with_reducible apply (os_storeV hA1));(iterate 4 exact rfl);(repeat (first|exact P0|apply P1|apply PA)))|((with_reducible apply os_append (hk:=app_ok22));exact rfl;exact rfl;(repeat (first|exact P0|apply P1|apply PA))))|((with_reducible apply ox_id);first|((with_reducible apply ox_buildSlice1);(iterate 6 exact rfl);intro _))|((with_reducible apply ai_id);first|((with_reducible apply ai_q);(iterate 5 exact rfl))|((with_reducible apply ai_x);(iterate 5 exact rfl))|((with_reducible apply ai_n0);(iterate 3 exact rfl))|((with_reducible apply ai_n);(iterate 4 exact rfl)))|((with_reducible apply al_keep);focus (repeat (first|exact HpSub.refl _|(apply HpSub.cons;(repeat (first|exact P0|apply P1|apply PA)))|apply HpSub.skipX|exact HpSub.nil)))|((with_reducible apply rd_id);first|(apply Rd.old;(first|exact hW.d0|exact hW.d1|exact hW.d2|exact hW.d3|exact hW.t0|exact hW.o0|exact hW.f0|exact hW.m0|exact e0|exact e1|exact e2);first|exact hW.nD|exact hW.nT|exact hW.nO|exact hW.nF|exact hW.nM|exact hnx)|(apply Rd.own;(repeat (first|exact P0|apply P1|apply PA));exact rwV_at hA1;done)|(apply Rd.own;(repeat (first|exact P0|apply P1|apply PA));exact rfl;done))|((with_reducible apply t_id);first|(apply t_mixZ (id:=10) [0,1,2,3,4,6] 5;kernel_rfl;kernel_rfl;exact rfl))|exact Rdn.zero|apply Rdn.succ|((with_reducible apply al_id);first|(apply al_done;decide +kernel)|(apply al_one 5;decide +kernel)|(apply al_one 7;decide +kernel)|(apply al_one 8;decide +kernel)|(apply al_one 9;decide +kernel)|(apply al_one 10;decide +kernel)|(apply al_two 5 7;decide +kernel))|(simp only [List.length_map,Nat.mul_one];done)|(intro gN cN;refine al_keep ?_ ?_;focus exact HpSub.nil)|exact Nat.le_of_ble_eq_true rfl|exact (rfl:(_:Bool)=true)|omega)
     all_goals exact ⟨rfl,(gN,cN),trivial,by (repeat first|exact FrSub.nil|(apply FrSub.cons;exact rfl)),by (show HpSub _ ((b12,[.int .i64 x.fr,.int .i64 x.to,.int .i64 x.crew],some (88,3,1))::outR g m R1 (cur'++[(k:Int)],some (gN,cN)) R2);unfold outR rowH;simp only [clH,List.cons_append,List.nil_append];(repeat (first|exact HpSub.refl _|(apply HpSub.consE;(repeat (first|exact P0|apply P1|apply PA));first|exact rfl|(focus (simp [iv];done))|(focus (rw [rowV_mk];simp [clA,clC];done)))|apply hp_kA|apply HpSub.skipX|apply hp_skA|exact HpSub.nil)))⟩
 rintro ⟨gN,cN⟩ -
 try dsimp only
 refine t_fact (P:=cur'.length+1≤cN) (fun M w h=>by
   have:=h.capge (show Pick _ gN ((cur'++[(k:Int)]).map iv) (some (3,1,cN)) _ from Pick.tail (Pick.head _ _ _ _))
   simp only [List.length_map,List.length_append,List.length_cons,List.length_nil] at this
   omega) fun hcN=>?_
 refine t_subW (HpSub.front (out_of0 g m R1 (cur'++[(k:Int)],some (gN,cN)) R2)).w ?_
 obtain ⟨R4,hR4⟩:∃ R,R1++(cur'++[(k:Int)],some (gN,cN))::R2=R:=⟨_,rfl⟩
 rw [hR4]
 have hll:(cur'++[(k:Int)]).length=cur'.length+1:=by simp
 have hcs4:R4.map Prod.fst=cs.set trip (cur'++[(k:Int)]):=by
   rw [← hR4,← p3,hRe,← hR1]
   simp
 have hR4l:R4.length=m:=by have:=congrArg List.length hcs4;simp at this;omega
 have hok4:∀ r∈R4,LrOk r:=fun r hr=>by
   rw [← hR4] at hr
   rcases List.mem_append.1 hr with hr|hr
   · exact p4 r (by rw [hRe];exact List.mem_append_left _ hr)
   · rcases List.mem_cons.1 hr with rfl|hr
     · exact ⟨(fun h=>by cases h),by simp only [hll,clC];exact hcN⟩
     · exact p4 r (by rw [hRe];exact List.mem_append_right _ (List.mem_cons_of_mem _ hr))
 have hg4:∀ (j:Nat) r,R4[j]?=some r→(cs.set trip (cur'++[(k:Int)]))[j]?=some r.1:=fun j r hr=>by
   rw [← hcs4,List.getElem?_map,hr];rfl
 have hrest4:∀ (j:Nat) r,trip<j→R4[j]?=some r→r.1=[]:=fun j r hj hr=>by
   have h1:=hg4 j r hr
   rw [List.getElem?_set_ne (by omega)] at h1
   exact hcr j _ hj h1
 have hcur4:∀ r,R4[trip]?=some r→r.1=cur'++[(k:Int)]:=fun r hr=>by
   have h1:=hg4 trip r hr
   rw [List.getElem?_set,if_pos rfl,if_pos (by omega)] at h1
   exact (Option.some.inj h1).symm
 have e2:((l++[(⟨(k:Int),x.fr,x.to⟩:Sh)]).map shCells).flatten=shB l++[.int .i64 (k:Int),.int .i64 x.fr,.int .i64 x.to]:=by simp [shB,shCells]
 have hfl:(shB l).length=n*3:=by rw [sh_flat_len,hl]
 have hih:=fun A' c' w1 h1 h2 h3 h4 h5=>ih trip (k+1) (l++[(⟨(k:Int),x.fr,x.to⟩:Sh)]) R4 (cur'++[(k:Int)]) A' (n+1) c' w1 hR4l hok4 htr hrest4 hcur4 (fun h=>by omega) (fun y hy=>by rw [hx] at hy;cases hy;omega) (by omega) (by omega) (by omega) h1 h2 h3 h4 h5
 rw [hdrop,hFe k,hcs4] at hih
 have hgo:(List.range' who (mem-who)).findSome? Fk=(match Fk k with|some rs=>some rs|none=>(List.range' (k+1) (mem-(k+1))).findSome? Fk):=by
   rw [p5]
   cases hres:Fk k with
   | none=>exact some_go hk hres
   | some rs=>exact some_hit hk hres
 have hset:∀ rs:List (List Int),(cs.set trip (cur'++[(k:Int)])).take trip++rs=cs.take trip++rs:=fun rs=>by
   rw [List.take_set,List.set_eq_of_length_le (by simp;omega)]
 obtain ⟨res,hres⟩:∃ r,Fk k=r:=⟨_,rfl⟩
 rw [hres] at hgo hih
 cases res with
 | some rs=>
   rw [hgo]
   rcases A with _|⟨bA,oA,qA⟩
   · obtain ⟨rfl,rfl⟩:=hA rfl
     have hl0:l=[]:=List.length_eq_zero_iff.1 hl
     subst hl0
     repeat' (first|((with_reducible apply oq_id);first|((with_reducible apply oq_addE (k:=((k+1:Nat):Int)));exact rfl;exact rfl;omega)|(apply oq_fn;exact rfl;first|exact trivial|(and_intros<;>omega)|omega|skip)|((with_reducible apply oq_load);exact rfl;exact rfl)|((with_reducible apply oq_call (hc:=Try.call92));exact rfl;exact rfl;exact fun D w1 hw1=>cloneN w1)|((with_reducible apply oq_build);(iterate 3 exact rfl)))|((with_reducible apply tl_id);first|(with_reducible apply tl_nil)|((with_reducible apply u_q);(iterate 4 exact rfl)))|((with_reducible apply gx_id);first|(with_reducible apply v_nil)|((with_reducible apply v_q);(iterate 3 exact rfl)))|((with_reducible apply os_id);first|((with_reducible apply os_appendNil (hk:=app_ok81));exact rfl;exact rfl))|((with_reducible apply ox_id);first|((with_reducible apply ox_buildSlice);(iterate 4 exact rfl)))|((with_reducible apply ai_id);first|((with_reducible apply ai_s);(iterate 5 exact rfl);(with_reducible apply os_callM (G:=outH g m R4) (PV:=TryP g m (cs.set trip (cur'++[(k:Int)])) trip (some rs)) (hc:=Try.call89));exact rfl;exact rfl;(first|exact hp_comm [_,_] _|exact hp_comm [_,_,_] _|exact hp_comm [_,_,_,_] _);exact fun D w1 hw1 hw2=>hih (some ⟨gL,0,none⟩) cL w1 (Blk.rows (rows:=([]++[(⟨(k:Int),x.fr,x.to⟩:Sh)]).map shCells) (by rw [e2];exact (hw1.blk _ (Pick.mem (by (repeat (first|exact P0|apply P1|apply PA))))).2) (by simp<;>omega) (sh_len _)) (fun h=>by cases h) (fun _ b o hb=>by cases hb;first|exact Has.off2 (X:=[_,_]) hw1 (by simp)|exact Has.off2 (X:=[_,_,_]) hw1 (by simp)|exact Has.off2 (X:=[_,_,_,_]) hw1 (by simp)) (hW.next (by omega) hw1 (fun b hb=>by first|exact mem_fst (X:=[_,_]) hb|exact mem_fst (X:=[_,_,_]) hb|exact mem_fst (X:=[_,_,_,_]) hb)) hw2;rintro v H1 ⟨R5,hok5,rfl,hcs5,rfl⟩;(simp only [Option.isSome_some,Option.isSome_none]))|((with_reducible apply ai_q);(iterate 5 exact rfl))|((with_reducible apply ai_x);(iterate 5 exact rfl))|((with_reducible apply ai_n);(iterate 4 exact rfl)))|((with_reducible apply rd_id);first|(apply Rd.old;(first|exact hW.d0|exact hW.d1|exact hW.d2|exact hW.d3|exact hW.t0|exact hW.o0|exact hW.f0|exact hW.m0|exact e0|exact e1|exact e2);first|exact hW.nD|exact hW.nT|exact hW.nO|exact hW.nF|exact hW.nM|exact hnx)|(apply Rd.own;(repeat (first|exact P0|apply P1|apply PA));exact rfl;done))|((with_reducible apply t_id);first|(apply t_mix (id:=11) [0,1,2,3,4,6,7,8,9,10,11] 4 #[false,false,false,false,false,false,false,false,false,false,false,false,false,false,true];kernel_rfl;kernel_rfl;exact rfl)|(with_reducible apply t_seq)|(apply t_region;kernel_rfl)|((with_reducible apply t_condT);exact rfl)|(with_reducible apply t_ret))|with_reducible apply q_thenN|with_reducible apply q_thenR|with_reducible apply q_blockR|exact Rdn.zero|apply Rdn.succ|((with_reducible apply Norm.nil);exact rfl)|((with_reducible apply Norm.cons);exact rfl)|(with_reducible apply end_ret)|exact rvs_nil|(with_reducible apply rvs_cons)|((with_reducible apply rv_tmp);exact rfl)|((with_reducible apply al_id);first|(apply al_done;decide +kernel)|(apply al_one 5;decide +kernel)|(apply al_one 12;decide +kernel)|(apply al_one 13;decide +kernel)|(apply al_one 14;decide +kernel)|(apply al_two 5 12;decide +kernel))|(intro gL cL;refine al_keep ?_ ?_;focus (repeat (first|exact HpSub.refl _|apply HpSub.skipX)))|exact Nat.le_of_ble_eq_true rfl|exact (rfl:(_:Bool)=true)|(intro _;with_reducible apply al_id))
     all_goals exact ⟨_,⟨R5,hok5,rfl,(by rw [hcs5];exact hset rs),rfl⟩,HpSub.w hp_left⟩
   · repeat' (first|((with_reducible apply oq_id);first|((with_reducible apply oq_addE (k:=((k+1:Nat):Int)));exact rfl;exact rfl;omega)|(apply oq_fn;exact rfl;first|exact trivial|(and_intros<;>omega)|omega|skip)|((with_reducible apply oq_load);exact rfl;exact rfl)|((with_reducible apply oq_build);(iterate 3 exact rfl)))|((with_reducible apply tl_id);first|(with_reducible apply tl_nil)|((with_reducible apply u_q);(iterate 4 exact rfl)))|((with_reducible apply gx_id);first|(with_reducible apply v_nil)|((with_reducible apply v_q);(iterate 3 exact rfl)))|((with_reducible apply os_id);first|((with_reducible apply os_append (hk:=app_ok81));exact rfl;exact rfl;(repeat (first|exact P0|apply P1|apply PA))))|((with_reducible apply ox_id);first|((with_reducible apply ox_buildSlice);(iterate 4 exact rfl)))|((with_reducible apply ai_id);first|((with_reducible apply ai_s);(iterate 5 exact rfl);(with_reducible apply os_callM (G:=outH g m R4) (PV:=TryP g m (cs.set trip (cur'++[(k:Int)])) trip (some rs)) (hc:=Try.call89));exact rfl;exact rfl;(first|exact hp_comm [_,_] _|exact hp_comm [_,_,_] _|exact hp_comm [_,_,_,_] _);exact fun D w1 hw1 hw2=>hih (some ⟨gL,0,none⟩) cL w1 (Blk.rows (rows:=(l++[(⟨(k:Int),x.fr,x.to⟩:Sh)]).map shCells) (by rw [e2];exact (hw1.blk _ (Pick.mem (by (repeat (first|exact P0|apply P1|apply PA))))).2) (by simp<;>omega) (sh_len _)) (fun h=>by cases h) (fun _ b o hb=>by cases hb;first|exact Has.off2 (X:=[_,_]) hw1 (by simp)|exact Has.off2 (X:=[_,_,_]) hw1 (by simp)|exact Has.off2 (X:=[_,_,_,_]) hw1 (by simp)) (hW.next (by omega) hw1 (fun b hb=>by first|exact mem_fst (X:=[_,_]) hb|exact mem_fst (X:=[_,_,_]) hb|exact mem_fst (X:=[_,_,_,_]) hb)) hw2;rintro v H1 ⟨R5,hok5,rfl,hcs5,rfl⟩;(simp only [Option.isSome_some,Option.isSome_none]))|((with_reducible apply ai_n);(iterate 4 exact rfl);(with_reducible apply os_callF (PV:=OwnS (shB l) n) (hc:=Try.call92));exact rfl;exact rfl;exact fun D w1 hw1=>cloneO bA oA qA n c l w1 (hr.extM hw1.ext hAm) (by omega);rintro v H' ⟨gC,cC,rfl,rfl⟩;(try simp only [List.cons_append,List.nil_append]))|((with_reducible apply ai_x);(iterate 5 exact rfl))|((with_reducible apply ai_n);(iterate 4 exact rfl)))|((with_reducible apply al_keep);focus (repeat (first|exact HpSub.refl _|(apply HpSub.cons;(repeat (first|exact P0|apply P1|apply PA)))|apply HpSub.skipX|exact HpSub.nil)))|((with_reducible apply rd_id);first|(apply Rd.old;(first|exact hW.d0|exact hW.d1|exact hW.d2|exact hW.d3|exact hW.t0|exact hW.o0|exact hW.f0|exact hW.m0|exact e0|exact e1|exact e2);first|exact hW.nD|exact hW.nT|exact hW.nO|exact hW.nF|exact hW.nM|exact hnx)|(apply Rd.own;(repeat (first|exact P0|apply P1|apply PA));exact rfl;done))|((with_reducible apply t_id);first|(apply t_mix (id:=11) [0,1,2,3,4,6,7,8,9,10,11] 4 #[false,false,false,false,false,false,false,false,false,false,false,false,false,false,true];kernel_rfl;kernel_rfl;exact rfl)|(with_reducible apply t_seq)|(apply t_region;kernel_rfl)|((with_reducible apply t_condT);exact rfl)|(with_reducible apply t_ret))|with_reducible apply q_thenN|with_reducible apply q_thenR|with_reducible apply q_blockR|exact Rdn.zero|apply Rdn.succ|((with_reducible apply Norm.nil);exact rfl)|((with_reducible apply Norm.cons);exact rfl)|(with_reducible apply end_ret)|exact rvs_nil|(with_reducible apply rvs_cons)|((with_reducible apply rv_tmp);exact rfl)|((with_reducible apply al_id);first|(apply al_done;decide +kernel)|(apply al_one 5;decide +kernel)|(apply al_one 12;decide +kernel)|(apply al_one 13;decide +kernel)|(apply al_one 14;decide +kernel)|(apply al_two 5 12;decide +kernel))|exact hfl|(intro gL cL;refine al_keep ?_ ?_;focus (repeat (first|exact HpSub.refl _|apply HpSub.skipX)))|exact Nat.le_of_ble_eq_true rfl|exact (rfl:(_:Bool)=true)|omega|(intro _;with_reducible apply al_id))
     all_goals exact ⟨_,⟨R5,hok5,rfl,(by rw [hcs5];exact hset rs),rfl⟩,HpSub.w hp_left⟩
 | none=>
   simp only at hgo
   refine t_cut (ι:=List Row) (fun _=>[(0,.int .i64 (trip:Nat)),(1,.int .i64 (k:Nat)),(2,.slice A n c),(3,.pointer (some ⟨bD,0,none⟩)),(4,.pointer (some ⟨bT,0,none⟩)),(5,.pointer (some ⟨bO,0,none⟩)),(6,.pointer (some ⟨bF,0,none⟩)),(7,.pointer (some ⟨bM,0,none⟩)),(12,.pointer (some ⟨b12,0,none⟩))]) (fun R5=>(b12,[.int .i64 x.fr,.int .i64 x.to,.int .i64 x.crew],some (88,3,1))::outH g m R5) (fun R5=>R5.map Prod.fst=cs.set trip (cur'++[(k:Int)])∧∀ r∈R5,LrOk r) ?_ ?_
   · rcases A with _|⟨bA,oA,qA⟩
     · obtain ⟨rfl,rfl⟩:=hA rfl
       have hl0:l=[]:=List.length_eq_zero_iff.1 hl
       subst hl0
       repeat' (first|((with_reducible apply oq_id);first|((with_reducible apply oq_addE (k:=((k+1:Nat):Int)));exact rfl;exact rfl;omega)|(apply oq_fn;exact rfl;first|exact trivial|(and_intros<;>omega)|omega|skip)|((with_reducible apply oq_load);exact rfl;exact rfl)|((with_reducible apply oq_call (hc:=Try.call92));exact rfl;exact rfl;exact fun D w1 hw1=>cloneN w1)|((with_reducible apply oq_build);(iterate 3 exact rfl)))|((with_reducible apply gx_id);first|(with_reducible apply v_nil)|((with_reducible apply v_q);(iterate 3 exact rfl)))|((with_reducible apply os_id);first|((with_reducible apply os_appendNil (hk:=app_ok81));exact rfl;exact rfl))|((with_reducible apply ox_id);first|((with_reducible apply ox_buildSlice);(iterate 4 exact rfl)))|((with_reducible apply ai_id);first|((with_reducible apply ai_s);(iterate 5 exact rfl);(with_reducible apply os_callM (G:=outH g m R4) (PV:=TryP g m (cs.set trip (cur'++[(k:Int)])) trip none) (hc:=Try.call89));exact rfl;exact rfl;(first|exact hp_comm [_,_] _|exact hp_comm [_,_,_] _|exact hp_comm [_,_,_,_] _);exact fun D w1 hw1 hw2=>hih (some ⟨gL,0,none⟩) cL w1 (Blk.rows (rows:=([]++[(⟨(k:Int),x.fr,x.to⟩:Sh)]).map shCells) (by rw [e2];exact (hw1.blk _ (Pick.mem (by (repeat (first|exact P0|apply P1|apply PA))))).2) (by simp<;>omega) (sh_len _)) (fun h=>by cases h) (fun _ b o hb=>by cases hb;first|exact Has.off2 (X:=[_,_]) hw1 (by simp)|exact Has.off2 (X:=[_,_,_]) hw1 (by simp)|exact Has.off2 (X:=[_,_,_,_]) hw1 (by simp)) (hW.next (by omega) hw1 (fun b hb=>by first|exact mem_fst (X:=[_,_]) hb|exact mem_fst (X:=[_,_,_]) hb|exact mem_fst (X:=[_,_,_,_]) hb)) hw2;rintro v H1 ⟨R5,hok5,rfl,hcs5,rfl⟩;(simp only [Option.isSome_some,Option.isSome_none]))|((with_reducible apply ai_q);(iterate 5 exact rfl))|((with_reducible apply ai_x);(iterate 5 exact rfl))|((with_reducible apply ai_n);(iterate 4 exact rfl)))|((with_reducible apply rd_id);first|(apply Rd.old;(first|exact hW.d0|exact hW.d1|exact hW.d2|exact hW.d3|exact hW.t0|exact hW.o0|exact hW.f0|exact hW.m0|exact e0|exact e1|exact e2);first|exact hW.nD|exact hW.nT|exact hW.nO|exact hW.nF|exact hW.nM|exact hnx)|(apply Rd.own;(repeat (first|exact P0|apply P1|apply PA));exact rfl;done))|((with_reducible apply t_id);first|(apply t_mix (id:=11) [0,1,2,3,4,6,7,8,9,10,11] 4 #[false,false,false,false,false,false,false,false,false,false,false,false,false,false,true];kernel_rfl;kernel_rfl;exact rfl)|(with_reducible apply t_seq)|((with_reducible apply t_condF);exact rfl)|(with_reducible apply t_skip))|with_reducible apply q_thenN|exact Rdn.zero|apply Rdn.succ|((with_reducible apply Norm.nil);exact rfl)|((with_reducible apply Norm.cons);exact rfl)|((with_reducible apply al_id);first|(apply al_done;decide +kernel)|(apply al_one 5;decide +kernel)|(apply al_one 12;decide +kernel)|(apply al_one 13;decide +kernel)|(apply al_one 14;decide +kernel)|(apply al_two 5 12;decide +kernel))|(intro gL cL;refine al_keep ?_ ?_;focus (repeat (first|exact HpSub.refl _|apply HpSub.skipX)))|exact Nat.le_of_ble_eq_true rfl|exact (rfl:(_:Bool)=true)|(intro _;with_reducible apply al_id))
       all_goals exact ⟨rfl,R5,⟨hcs5,hok5⟩,by (repeat first|exact FrSub.nil|(apply FrSub.cons;exact rfl)),by first|exact hp_last2|exact hp_last3|exact hp_last4⟩
     · repeat' (first|((with_reducible apply oq_id);first|((with_reducible apply oq_addE (k:=((k+1:Nat):Int)));exact rfl;exact rfl;omega)|(apply oq_fn;exact rfl;first|exact trivial|(and_intros<;>omega)|omega|skip)|((with_reducible apply oq_load);exact rfl;exact rfl)|((with_reducible apply oq_build);(iterate 3 exact rfl)))|((with_reducible apply gx_id);first|(with_reducible apply v_nil)|((with_reducible apply v_q);(iterate 3 exact rfl)))|((with_reducible apply os_id);first|((with_reducible apply os_append (hk:=app_ok81));exact rfl;exact rfl;(repeat (first|exact P0|apply P1|apply PA))))|((with_reducible apply ox_id);first|((with_reducible apply ox_buildSlice);(iterate 4 exact rfl)))|((with_reducible apply ai_id);first|((with_reducible apply ai_s);(iterate 5 exact rfl);(with_reducible apply os_callM (G:=outH g m R4) (PV:=TryP g m (cs.set trip (cur'++[(k:Int)])) trip none) (hc:=Try.call89));exact rfl;exact rfl;(first|exact hp_comm [_,_] _|exact hp_comm [_,_,_] _|exact hp_comm [_,_,_,_] _);exact fun D w1 hw1 hw2=>hih (some ⟨gL,0,none⟩) cL w1 (Blk.rows (rows:=(l++[(⟨(k:Int),x.fr,x.to⟩:Sh)]).map shCells) (by rw [e2];exact (hw1.blk _ (Pick.mem (by (repeat (first|exact P0|apply P1|apply PA))))).2) (by simp<;>omega) (sh_len _)) (fun h=>by cases h) (fun _ b o hb=>by cases hb;first|exact Has.off2 (X:=[_,_]) hw1 (by simp)|exact Has.off2 (X:=[_,_,_]) hw1 (by simp)|exact Has.off2 (X:=[_,_,_,_]) hw1 (by simp)) (hW.next (by omega) hw1 (fun b hb=>by first|exact mem_fst (X:=[_,_]) hb|exact mem_fst (X:=[_,_,_]) hb|exact mem_fst (X:=[_,_,_,_]) hb)) hw2;rintro v H1 ⟨R5,hok5,rfl,hcs5,rfl⟩;(simp only [Option.isSome_some,Option.isSome_none]))|((with_reducible apply ai_n);(iterate 4 exact rfl);(with_reducible apply os_callF (PV:=OwnS (shB l) n) (hc:=Try.call92));exact rfl;exact rfl;exact fun D w1 hw1=>cloneO bA oA qA n c l w1 (hr.extM hw1.ext hAm) (by omega);rintro v H' ⟨gC,cC,rfl,rfl⟩;(try simp only [List.cons_append,List.nil_append]))|((with_reducible apply ai_x);(iterate 5 exact rfl))|((with_reducible apply ai_n);(iterate 4 exact rfl)))|((with_reducible apply al_keep);focus (repeat (first|exact HpSub.refl _|(apply HpSub.cons;(repeat (first|exact P0|apply P1|apply PA)))|apply HpSub.skipX|exact HpSub.nil)))|((with_reducible apply rd_id);first|(apply Rd.old;(first|exact hW.d0|exact hW.d1|exact hW.d2|exact hW.d3|exact hW.t0|exact hW.o0|exact hW.f0|exact hW.m0|exact e0|exact e1|exact e2);first|exact hW.nD|exact hW.nT|exact hW.nO|exact hW.nF|exact hW.nM|exact hnx)|(apply Rd.own;(repeat (first|exact P0|apply P1|apply PA));exact rfl;done))|((with_reducible apply t_id);first|(apply t_mix (id:=11) [0,1,2,3,4,6,7,8,9,10,11] 4 #[false,false,false,false,false,false,false,false,false,false,false,false,false,false,true];kernel_rfl;kernel_rfl;exact rfl)|(with_reducible apply t_seq)|((with_reducible apply t_condF);exact rfl)|(with_reducible apply t_skip))|with_reducible apply q_thenN|exact Rdn.zero|apply Rdn.succ|((with_reducible apply Norm.nil);exact rfl)|((with_reducible apply Norm.cons);exact rfl)|((with_reducible apply al_id);first|(apply al_done;decide +kernel)|(apply al_one 5;decide +kernel)|(apply al_one 12;decide +kernel)|(apply al_one 13;decide +kernel)|(apply al_one 14;decide +kernel)|(apply al_two 5 12;decide +kernel))|exact hfl|(intro gL cL;refine al_keep ?_ ?_;focus (repeat (first|exact HpSub.refl _|apply HpSub.skipX)))|exact Nat.le_of_ble_eq_true rfl|exact (rfl:(_:Bool)=true)|omega|(intro _;with_reducible apply al_id))
       all_goals exact ⟨rfl,R5,⟨hcs5,hok5⟩,by (repeat first|exact FrSub.nil|(apply FrSub.cons;exact rfl)),by first|exact hp_last2|exact hp_last3|exact hp_last4⟩
   rintro R5 ⟨hcs5,hok5⟩
   try dsimp only
   clear hrow hcur4 hrest4 hg4 hok4 hcs4 hR4l hih hR4 R4 hRe hR1 hA1 hro R1 R2 o hcN
   obtain ⟨o5,R51,R52,hRe5,hR15⟩:∃ o R1 R2,R5=R1++(cur'++[(k:Int)],o)::R2∧R1.length=trip:=by
     have h1:(R5.map Prod.fst)[trip]?=some (cur'++[(k:Int)]):=by rw [hcs5,List.getElem?_set,if_pos rfl,if_pos (by omega)]
     rw [List.getElem?_map] at h1
     obtain ⟨⟨c',o'⟩,h2,h3⟩:=Option.map_eq_some_iff.1 h1
     simp only at h3
     subst h3
     obtain ⟨R1,R2,h4,h5⟩:=row_split h2
     exact ⟨o',R1,R2,h4,h5⟩
   have hro5:=hok5 (cur'++[(k:Int)],o5) (by rw [hRe5];simp)
   unfold LrOk at hro5
   simp only [hll] at hro5
   rcases o5 with _|⟨g5,c5⟩
   · have:=hro5.1 rfl
     omega
   have hA1:(R51.map rwV).length=trip:=by rw [List.length_map,hR15]
   have hcap:cur'.length≤c5:=by have:=hro5.2;simp only [clC] at this;omega
   have hnn:(some ⟨g5,0,none⟩:Option Addr)=none→(cur'++[(k:Int)]).length=0∧c5=0:=fun h=>by cases h
   obtain ⟨R6,hR6⟩:∃ R,R51++(cur',some (g5,c5))::R52=R:=⟨_,rfl⟩
   have hcs6:R6.map Prod.fst=cs:=by
     have h1:(R51.map Prod.fst++(cur'++[(k:Int)])::R52.map Prod.fst)=cs.set trip (cur'++[(k:Int)]):=by rw [← hcs5,hRe5];simp
     have h2:=congrArg (fun z=>z.set trip cur') h1
     simp only [List.set_set] at h2
     rw [← hR6,List.map_append,List.map_cons]
     have hl1:(R51.map Prod.fst).length=trip:=by rw [List.length_map,hR15]
     rw [List.set_append_right _ _ (by omega),hl1,Nat.sub_self,List.set_cons_zero] at h2
     rw [h2]
     exact List.ext_getElem? fun j=>by
       by_cases hj:trip=j
       · subst hj;rw [List.getElem?_set,if_pos rfl,if_pos (by omega),hct]
       · rw [List.getElem?_set_ne hj]
   have hok6:∀ r∈R6,LrOk r:=fun r hr=>by
     rw [← hR6] at hr
     rcases List.mem_append.1 hr with hr|hr
     · exact hok5 r (by rw [hRe5];exact List.mem_append_left _ hr)
     · rcases List.mem_cons.1 hr with rfl|hr
       · exact ⟨(fun h=>by cases h),hcap⟩
       · exact hok5 r (by rw [hRe5];exact List.mem_append_right _ (List.mem_cons_of_mem _ hr))
   refine t_subW (HpSub.front (by rw [hRe5];exact out_to0 g m R51 (cur'++[(k:Int)],some (g5,c5)) R52)).w ?_
   unfold outR rowH
   rw [rowV_mk]
   simp only [clA,clC,clH,List.cons_append,List.nil_append]
   refine t_endW ?_
   repeat' (first|((with_reducible apply oq_id);first|(focus ((with_reducible apply oq_indexAddrN);(iterate 4 exact rfl);omega))|((with_reducible apply oq_subE (k:=((cur'.length:Nat):Int)));exact rfl;exact rfl;omega)|(focus ((with_reducible apply (oq_sliceHG (h:=cur'.length) hnn));(iterate 4 exact rfl);exact hcap))|(apply oq_fn;exact rfl;first|exact trivial|(and_intros<;>omega)|omega|skip)|((with_reducible apply oq_load);exact rfl;exact rfl))|((with_reducible apply gx_id);first|(with_reducible apply v_nil)|((with_reducible apply v_q);(iterate 3 exact rfl)))|((with_reducible apply os_id);first|((with_reducible apply (os_storeV hA1));(iterate 4 exact rfl);(repeat (first|exact P0|apply P1|apply PA))))|((with_reducible apply ai_id);first|((with_reducible apply ai_s0);(iterate 4 exact rfl)))|((with_reducible apply rd_id);first|(apply Rd.old;(first|exact hW.d0|exact hW.d1|exact hW.d2|exact hW.d3|exact hW.t0|exact hW.o0|exact hW.f0|exact hW.m0|exact e0|exact e1|exact e2);first|exact hW.nD|exact hW.nT|exact hW.nO|exact hW.nF|exact hW.nM|exact hnx)|(apply Rd.own;(repeat (first|exact P0|apply P1|apply PA));exact rwV_at hA1;done))|((with_reducible apply t_id);first|(apply t_mix (id:=13) [0,1,2,3,4,5,6,7,8,9,10,11,12,13] 1 #[false,false,false,false,false,false,false,false,false,false,false,false,false,false,true];kernel_rfl;kernel_rfl;exact rfl))|((with_reducible apply al_id);first|(apply al_done;decide +kernel)|(apply al_one 14;decide +kernel)))
   all_goals (refine ⟨rfl,[(0,.int .i64 (trip:Nat)),(1,.int .i64 (k:Nat)),(2,.slice A n c),(3,.pointer (some ⟨bD,0,none⟩)),(4,.pointer (some ⟨bT,0,none⟩)),(5,.pointer (some ⟨bO,0,none⟩)),(6,.pointer (some ⟨bF,0,none⟩)),(7,.pointer (some ⟨bM,0,none⟩)),(12,.pointer (some ⟨b12,0,none⟩))],(b12,[.int .i64 x.fr,.int .i64 x.to,.int .i64 x.crew],some (88,3,1))::outH g m R6,by (repeat first|exact FrSub.nil|(apply FrSub.cons;exact rfl)),?_,?_⟩)
   · refine HpW.trans (HpSub.w (show HpSub _ ((g5,cur'.map iv++[iv (k:Int)],some (3,1,c5))::(b12,[.int .i64 x.fr,.int .i64 x.to,.int .i64 x.crew],some (88,3,1))::(g,R51.map rwV++rwV (cur',some (g5,c5))::R52.map rwV,some (22,1,m))::(rwsH R51++rwsH R52)) from ?_)) (HpW.trans HpW.pre (HpSub.w ?_))
     · (repeat (first|exact HpSub.refl _|(apply HpSub.consE;(repeat (first|exact P0|apply P1|apply PA));first|exact rfl|(focus (simp [iv];done))|(focus (rw [rowV_mk];simp [clA,clC];done)))|apply hp_kA|apply HpSub.skipX|apply hp_skA|exact HpSub.nil))
     · rw [← hR6]
       exact HpSub.cons (Pick.tail (Pick.head _ _ _ _)) (out_of0 g m R51 (cur',some (g5,c5)) R52)
   · repeat' (first|((with_reducible apply oq_id);first|((with_reducible apply oq_addE (k:=((k+1:Nat):Int)));exact rfl;exact rfl;omega)|(apply oq_fn;exact rfl;first|exact trivial|(and_intros<;>omega)|omega|skip))|((with_reducible apply tl_id);first|(with_reducible apply tl_nil)|((with_reducible apply u_q);(iterate 4 exact rfl)))|((with_reducible apply t_id);first|(apply t_region;kernel_rfl))|with_reducible apply q_thenN|with_reducible apply q_blockN)
     all_goals (refine ⟨(k+1,R6),⟨(by simp only;omega),.inl (by simp only;omega),hcs6,hok6,hgo⟩,(by simp only;omega),?_,?_⟩)
     all_goals first
       | ((try simp only [List.cons_append,List.nil_append]);(repeat first|exact FrSub.nil|(apply FrSub.cons;exact rfl));done)
       | ((try simp only [List.cons_append,List.nil_append]);(try simp only [List.append_nil]);(repeat (first|exact HpSub.refl _|(apply HpSub.consE;(repeat (first|exact P0|apply P1|apply PA));exact rfl)|apply hp_kA|apply HpSub.skipX|apply hp_skA|exact HpSub.nil));done)
theorem app_ok84:AppOk Try.prog 84 22 1 24:=⟨Try.underlying84,⟨Try.t22,_,(by kernel_rfl),rfl,rfl,rfl,rfl⟩,by decide⟩
theorem info41L:(Try.prog.info? 22).map (fun i=>i.zero)=some (some (.slice none 0 0)):=by kernel_rfl
theorem os_makeL {w:World} {N n:Nat} {F:Fr} {H:Hp} {M:List Nat} {K:Value→Hp→Prop} {d:Option Tmp} {ty:TypeId} {pos:String} {af:Array Edge} {gd:Option (Nat×Bool)} {x y:Operand}
   (hx:ev F x=some (.int .i64 (n:Nat))) (hy:ev F y=some (.int .i64 (n:Nat))) (hn:n≤1000) (k:∀ b,K (.slice (some ⟨b,0,none⟩) n n) ((b,List.replicate n (Value.slice none 0 0),some (22,1,n))::H)):OS (cxM M w N) ⟨d,.makeSlice 84 x y,ty,pos,af,gd⟩ F H K:=by
 refine .ofX (ox_make (zs:=[.slice none 0 0]) app_ok84 info41L rfl rfl hx hy (by omega) (by unfold maxLen;omega) fun b=>?_)
 have e:(List.replicate n [Value.slice none 0 0]).flatten=List.replicate n (Value.slice none 0 0):=by simp
 rw [e]
 exact k b
theorem odd_calls (x:Tr) (w:World):Calls Try.prog 86 #[.agg #[.int .i64 x.fr,.int .i64 x.to,.int .i64 x.crew]] w fun e w'=>e=.returned (.bool (!decide (trOk x)))∧Ext w w':=by
 obtain ⟨q,hq⟩:∃ q,allFromK 0 2 [x.crew]=q:=⟨_,rfl⟩
 have hqe:q=true↔0≤x.crew∧x.crew≤2:=by rw [← hq];exact allFrom_one
 by_cases h1:x.fr<0
 · rw [decide_eq_false (fun h=>by unfold trOk at h;omega)]
   refine enterQ (c:=cx w 25) Try.func86 rfl rfl rfl rfl ?_
   repeat' (first|((with_reducible apply oq_id);first|((with_reducible apply oq_lssT);exact rfl;exact rfl;omega)|(apply oq_fn;exact rfl;first|exact trivial|(and_intros<;>omega)|omega|skip)|((with_reducible apply oq_load);exact rfl;exact rfl))|((with_reducible apply tl_id);first|(with_reducible apply tl_nil)|((with_reducible apply u_q);(iterate 4 exact rfl))|((with_reducible apply u_s);(iterate 3 exact rfl))|((with_reducible apply u_skip);(iterate 3 exact rfl)))|((with_reducible apply os_id);first|((with_reducible apply os_x);exact rfl))|((with_reducible apply ox_id);first|((with_reducible apply ox_boxAgg);exact rfl;intro _))|((with_reducible apply rd_id);first|(apply Rd.own;(repeat first|exact P0|apply P1);exact rfl;done))|((with_reducible apply t_id);first|(with_reducible apply t_seq)|(apply t_region;kernel_rfl)|(with_reducible apply t_ret))|with_reducible apply q_thenN|(with_reducible apply end_ret)|exact rvs_nil|(with_reducible apply rvs_cons)|((with_reducible apply rv_tmp);exact rfl))
   all_goals rfl
 by_cases h2:x.to≤x.fr
 · rw [decide_eq_false (fun h=>by unfold trOk at h;omega)]
   refine enterQ (c:=cx w 25) Try.func86 rfl rfl rfl rfl ?_
   repeat' (first|((with_reducible apply oq_id);first|((with_reducible apply oq_lssF);exact rfl;exact rfl;omega)|((with_reducible apply oq_geqT);exact rfl;exact rfl;omega)|(apply oq_fn;exact rfl;first|exact trivial|(and_intros<;>omega)|omega|skip)|((with_reducible apply oq_load);exact rfl;exact rfl))|((with_reducible apply tl_id);first|(with_reducible apply tl_nil)|((with_reducible apply u_q);(iterate 4 exact rfl))|((with_reducible apply u_s);(iterate 3 exact rfl))|((with_reducible apply u_skip);(iterate 3 exact rfl)))|((with_reducible apply os_id);first|((with_reducible apply os_x);exact rfl))|((with_reducible apply ox_id);first|((with_reducible apply ox_boxAgg);exact rfl;intro _))|((with_reducible apply rd_id);first|(apply Rd.own;(repeat first|exact P0|apply P1);exact rfl;done))|((with_reducible apply t_id);first|(with_reducible apply t_seq)|(apply t_region;kernel_rfl)|(with_reducible apply t_ret))|with_reducible apply q_thenN|(with_reducible apply end_ret)|exact rvs_nil|(with_reducible apply rvs_cons)|((with_reducible apply rv_tmp);exact rfl))
   all_goals rfl
 by_cases h3:1000000<x.to
 · rw [decide_eq_false (fun h=>by unfold trOk at h;omega)]
   refine enterQ (c:=cx w 25) Try.func86 rfl rfl rfl rfl ?_
   repeat' (first|((with_reducible apply oq_id);first|((with_reducible apply oq_lssF);exact rfl;exact rfl;omega)|((with_reducible apply oq_geqF);exact rfl;exact rfl;omega)|((with_reducible apply oq_gtrT);exact rfl;exact rfl;omega)|(apply oq_fn;exact rfl;first|exact trivial|(and_intros<;>omega)|omega|skip)|((with_reducible apply oq_load);exact rfl;exact rfl))|((with_reducible apply tl_id);first|(with_reducible apply tl_nil)|((with_reducible apply u_q);(iterate 4 exact rfl))|((with_reducible apply u_s);(iterate 3 exact rfl))|((with_reducible apply u_skip);(iterate 3 exact rfl)))|((with_reducible apply os_id);first|((with_reducible apply os_x);exact rfl))|((with_reducible apply ox_id);first|((with_reducible apply ox_boxAgg);exact rfl;intro _))|((with_reducible apply rd_id);first|(apply Rd.own;(repeat first|exact P0|apply P1);exact rfl;done))|((with_reducible apply t_id);first|(with_reducible apply t_seq)|(apply t_region;kernel_rfl)|(with_reducible apply t_ret))|with_reducible apply q_thenN|(with_reducible apply end_ret)|exact rvs_nil|(with_reducible apply rvs_cons)|((with_reducible apply rv_tmp);exact rfl))
   all_goals rfl
 cases q with
 | false=>
   rw [decide_eq_false (fun h=>by unfold trOk at h;have:=hqe.2 ⟨h.2.2.2.1,h.2.2.2.2⟩;cases this)]
   refine enterQ (c:=cx w 25) Try.func86 rfl rfl rfl rfl ?_
   repeat' (first|((with_reducible apply oq_id);first|((with_reducible apply oq_lssF);exact rfl;exact rfl;omega)|((with_reducible apply oq_geqF);exact rfl;exact rfl;omega)|((with_reducible apply oq_gtrF);exact rfl;exact rfl;omega)|(apply oq_fn;exact rfl;first|exact trivial|(and_intros<;>omega)|omega|skip)|((with_reducible apply oq_load);exact rfl;exact rfl)|((with_reducible apply oq_call (hc:=Try.call87));exact rfl;exact rfl;exact fun D w1 hw1=>fromOneK hq hw1 (by (repeat first|exact P0|apply P1))))|((with_reducible apply tl_id);first|(with_reducible apply tl_nil)|((with_reducible apply u_q);(iterate 4 exact rfl))|((with_reducible apply u_s);(iterate 3 exact rfl)))|((with_reducible apply os_id);first|((with_reducible apply os_x);exact rfl))|((with_reducible apply ox_id);first|((with_reducible apply ox_boxAgg);exact rfl;intro _)|((with_reducible apply ox_buildSlice1);(iterate 6 exact rfl);intro _))|((with_reducible apply rd_id);first|(apply Rd.own;(repeat first|exact P0|apply P1);exact rfl;done))|((with_reducible apply t_id);first|(with_reducible apply t_seq)|(apply t_region;kernel_rfl)|(with_reducible apply t_ret))|with_reducible apply q_thenN|(with_reducible apply end_ret)|exact rvs_nil|(with_reducible apply rvs_cons)|((with_reducible apply rv_tmp);exact rfl))
   all_goals rfl
 | true=>
   rw [decide_eq_true (by have:=hqe.1 rfl;unfold trOk;omega)]
   refine enterQ (c:=cx w 25) Try.func86 rfl rfl rfl rfl ?_
   repeat' (first|((with_reducible apply oq_id);first|((with_reducible apply oq_lssF);exact rfl;exact rfl;omega)|((with_reducible apply oq_geqF);exact rfl;exact rfl;omega)|((with_reducible apply oq_gtrF);exact rfl;exact rfl;omega)|(apply oq_fn;exact rfl;first|exact trivial|(and_intros<;>omega)|omega|skip)|((with_reducible apply oq_load);exact rfl;exact rfl)|((with_reducible apply oq_call (hc:=Try.call87));exact rfl;exact rfl;exact fun D w1 hw1=>fromOneK hq hw1 (by (repeat first|exact P0|apply P1))))|((with_reducible apply tl_id);first|(with_reducible apply tl_nil)|((with_reducible apply u_q);(iterate 4 exact rfl))|((with_reducible apply u_s);(iterate 3 exact rfl)))|((with_reducible apply os_id);first|((with_reducible apply os_x);exact rfl))|((with_reducible apply ox_id);first|((with_reducible apply ox_boxAgg);exact rfl;intro _)|((with_reducible apply ox_buildSlice1);(iterate 6 exact rfl);intro _))|((with_reducible apply rd_id);first|(apply Rd.own;(repeat first|exact P0|apply P1);exact rfl;done))|((with_reducible apply t_id);first|(with_reducible apply t_seq)|(apply t_region;kernel_rfl)|(with_reducible apply t_ret))|with_reducible apply q_thenN|(with_reducible apply end_ret)|exact rvs_nil|(with_reducible apply rvs_cons)|((with_reducible apply rv_tmp);exact rfl))
   all_goals rfl
def oddI (l:List Tr):Int:=match l.findIdx? (fun x=>!decide (trOk x)) with|some i=>(i:Int)|none=>-1
theorem oddI_at {l:List Tr} {i:Nat} {x:Tr} (hx:l[i]?=some x) (h:¬ trOk x) (hb:∀ j y,j<i→l[j]?=some y→trOk y):oddI l=(i:Int):=by
 have:l.findIdx? (fun x=>!decide (trOk x))=some i:=by
   rw [List.findIdx?_eq_some_iff_getElem]
   obtain ⟨h1,rfl⟩:=List.getElem?_eq_some_iff.1 hx
   exact ⟨h1,by simpa using h,fun j hj=>by have:=hb j _ hj (List.getElem?_eq_getElem (by omega));simpa using this⟩
 unfold oddI;rw [this]
theorem oddI_no {l:List Tr} (h:∀ x∈l,trOk x):oddI l=-1:=by
 have:l.findIdx? (fun x=>!decide (trOk x))=none:=by
   rw [List.findIdx?_eq_none_iff]
   intro x hx
   have:=h x hx
   simpa using this
 unfold oddI;rw [this]
theorem oddI_neg {l:List Tr}:oddI l<0↔∀ x∈l,trOk x:=by
 constructor
 · intro h x hx
   unfold oddI at h
   cases hq:l.findIdx? (fun x=>!decide (trOk x)) with
   | none=>
     have:=List.findIdx?_eq_none_iff.1 hq x hx
     simpa using this
   | some i=>rw [hq] at h;simp only at h;omega
 · intro h;rw [oddI_no h];decide
theorem idxTr_calls (A:Option Addr) (n c:Nat) (l:List Tr) (w:World) (hr:RdS w 3 A n (l.map trCells)) (hn:n≤1000000):Calls Try.prog 134 #[.slice A n c,.func (.func 86) #[] #[]] w fun e w'=>e=.returned (.int .i64 (oddI l))∧Ext w w':=by
 have hl:=hr.len
 simp only [List.length_map] at hl
 refine enterQ (c:=cx w 19) Try.func134 rfl rfl rfl rfl ?_
 repeat' (first|((with_reducible apply oq_id);first|(apply oq_fn;exact rfl;first|exact trivial|(and_intros<;>omega)|omega|skip))|((with_reducible apply tl_id);first|(with_reducible apply tl_nil)|((with_reducible apply u_q);(iterate 4 exact rfl)))|((with_reducible apply t_id);first|(with_reducible apply t_seq)|(apply t_region;kernel_rfl)|(with_reducible apply t_block))|with_reducible apply q_thenN)
 apply t_loopK (ι:=Nat) [0,1,6,7] (fun i=>[(8,.int .i64 (i:Nat))]) (fun _=>[]) (fun i=>i≤n∧∀ j y,j<i→l[j]?=some y→trOk y) (fun i=>n-i) (0)
 (repeat (first|exact KeepF.nil|(apply KeepF.cons;exact rfl)|apply KeepF.skip))
 (repeat first|exact FrSub.nil|(apply FrSub.cons;exact rfl))
 (repeat (first|exact HpSub.refl _|(apply HpSub.consE;(repeat first|exact P0|apply P1);exact rfl)|exact HpSub.nil))
 · exact ⟨Nat.zero_le _,fun j y hj=>by omega⟩
 rintro i ⟨hi,hok⟩
 try simp only [List.cons_append,List.nil_append]
 by_cases hlt:i<n
 · obtain ⟨b,o,x,rfl,_,hx,c0,c1,c2⟩:=tr_read hr hlt
   have HO:=fun w1=>odd_calls x w1
   by_cases ho:trOk x
   · rw [decide_eq_true ho] at HO
     repeat' (first|((with_reducible apply oq_id);first|(focus ((with_reducible apply oq_indexAddrN);(iterate 4 exact rfl);omega))|((with_reducible apply oq_lssT);exact rfl;exact rfl;omega)|(apply oq_fn;exact rfl;first|exact trivial|(and_intros<;>omega)|omega|skip)|((with_reducible apply oq_loadAgg);exact rfl;exact rfl)|((with_reducible apply oq_call (hc:=Try.call86));exact rfl;exact rfl;exact fun D w1 hw1=>HO w1))|((with_reducible apply tl_id);first|(with_reducible apply tl_nil)|((with_reducible apply u_q);(iterate 4 exact rfl)))|((with_reducible apply rd_id);first|(apply Rd.old;(first|exact c0|exact c1|exact c2);exact List.not_mem_nil))|((with_reducible apply t_id);first|(with_reducible apply t_seq)|(apply t_region;kernel_rfl)|((with_reducible apply t_condT);exact rfl)|((with_reducible apply t_condF);exact rfl)|(with_reducible apply t_skip)|(with_reducible apply t_block))|with_reducible apply q_thenN|with_reducible apply q_blockN|exact Rdn.zero|apply Rdn.succ)
     all_goals (refine ⟨(i+1),⟨by omega,fun j y hj hy=>by by_cases hji:j=i;(subst hji;rw [hx] at hy;cases hy;exact ho);exact hok j y (by omega) hy⟩,(by omega),?_,?_⟩<;>(try simp only [List.cons_append,List.nil_append])<;>(repeat' (first|exact FrSub.nil|(apply FrSub.cons;exact rfl)|exact HpSub.refl _)))
   · rw [decide_eq_false ho] at HO
     rw [oddI_at hx ho hok]
     repeat' (first|((with_reducible apply oq_id);first|(focus ((with_reducible apply oq_indexAddrN);(iterate 4 exact rfl);omega))|((with_reducible apply oq_lssT);exact rfl;exact rfl;omega)|(apply oq_fn;exact rfl;first|exact trivial|(and_intros<;>omega)|omega|skip)|((with_reducible apply oq_loadAgg);exact rfl;exact rfl)|((with_reducible apply oq_call (hc:=Try.call86));exact rfl;exact rfl;exact fun D w1 hw1=>HO w1))|((with_reducible apply tl_id);first|(with_reducible apply tl_nil)|((with_reducible apply u_q);(iterate 4 exact rfl)))|((with_reducible apply rd_id);first|(apply Rd.old;(first|exact c0|exact c1|exact c2);exact List.not_mem_nil))|((with_reducible apply t_id);first|(with_reducible apply t_seq)|(apply t_region;kernel_rfl)|((with_reducible apply t_condT);exact rfl)|(with_reducible apply t_ret)|(with_reducible apply t_skip)|(with_reducible apply t_block))|with_reducible apply q_thenN|with_reducible apply q_thenR|with_reducible apply q_blockR|exact Rdn.zero|apply Rdn.succ|(with_reducible apply end_ret)|exact rvs_nil|(with_reducible apply rvs_cons)|((with_reducible apply rv_tmp);exact rfl))
     all_goals rfl
 · rw [oddI_no fun x hx=>by
     obtain ⟨j,hj,rfl⟩:=List.getElem_of_mem hx
     exact hok j _ (by omega) (List.getElem?_eq_getElem hj)]
   repeat' (first|((with_reducible apply oq_id);first|((with_reducible apply oq_lssF);exact rfl;exact rfl;omega)|(apply oq_fn;exact rfl;first|exact trivial|(and_intros<;>omega)|omega|skip))|((with_reducible apply tl_id);first|(with_reducible apply tl_nil)|((with_reducible apply u_q);(iterate 4 exact rfl)))|((with_reducible apply t_id);first|(with_reducible apply t_seq)|(apply t_region;kernel_rfl)|((with_reducible apply t_condF);exact rfl)|(with_reducible apply t_ret)|(with_reducible apply t_exit))|with_reducible apply q_thenN|with_reducible apply q_thenE|((with_reducible apply q_blockE);exact rfl)|(with_reducible apply end_ret)|exact rvs_nil|(with_reducible apply rvs_cons)|((with_reducible apply rv_tmp);exact rfl))
   all_goals rfl
theorem contTr_calls (A:Option Addr) (n c:Nat) (l:List Tr) (w:World) (hr:RdS w 3 A n (l.map trCells)) (hn:n≤1000000):Calls Try.prog 88 #[.slice A n c,.func (.func 86) #[] #[]] w fun e w'=>e=.returned (.bool (decide (0≤oddI l)))∧Ext w w':=by
 by_cases h:0≤oddI l
 · rw [decide_eq_true h]
   refine enterQ (c:=cx w 9) Try.func88 rfl rfl rfl rfl ?_
   repeat' (first|((with_reducible apply oq_id);first|((with_reducible apply oq_geqT);exact rfl;exact rfl;omega)|(apply oq_fn;exact rfl;first|exact trivial|(and_intros<;>omega)|omega|skip)|((with_reducible apply oq_call (hc:=Try.call134));exact rfl;exact rfl;exact fun D w1 hw1=>idxTr_calls A n c l w1 (hr.ext hw1.ext.ext) hn))|((with_reducible apply tl_id);first|(with_reducible apply tl_nil)|((with_reducible apply u_q);(iterate 4 exact rfl)))|((with_reducible apply t_id);first|(with_reducible apply t_seq)|(apply t_region;kernel_rfl)|(with_reducible apply t_ret))|with_reducible apply q_thenN|(with_reducible apply end_ret)|exact rvs_nil|(with_reducible apply rvs_cons)|((with_reducible apply rv_tmp);exact rfl))
   all_goals rfl
 · rw [decide_eq_false h]
   refine enterQ (c:=cx w 9) Try.func88 rfl rfl rfl rfl ?_
   repeat' (first|((with_reducible apply oq_id);first|((with_reducible apply oq_geqF);exact rfl;exact rfl;omega)|(apply oq_fn;exact rfl;first|exact trivial|(and_intros<;>omega)|omega|skip)|((with_reducible apply oq_call (hc:=Try.call134));exact rfl;exact rfl;exact fun D w1 hw1=>idxTr_calls A n c l w1 (hr.ext hw1.ext.ext) hn))|((with_reducible apply tl_id);first|(with_reducible apply tl_nil)|((with_reducible apply u_q);(iterate 4 exact rfl)))|((with_reducible apply t_id);first|(with_reducible apply t_seq)|(apply t_region;kernel_rfl)|(with_reducible apply t_ret))|with_reducible apply q_thenN|(with_reducible apply end_ret)|exact rvs_nil|(with_reducible apply rvs_cons)|((with_reducible apply rv_tmp);exact rfl))
   all_goals rfl
def asgN (d:Du) (l:List Sh) (mem:Int) (ts:List Tr):Option (List (List Int)):=tryF d mem.toNat 20 ts [] 0 l
def asgE (d:Du) (l:List Sh) (mem:Int) (ts:List Tr):Int:=
 if tiE d l=0 then (if 0≤mem∧mem≤6 then (if 4<ts.length then 4 else if 0≤oddI ts then 2 else if (asgN d l mem ts).isSome then 0 else 6) else 2) else tiE d l
def asgL (d:Du) (l:List Sh) (mem:Int) (ts:List Tr):List (List Int):=if asgE d l mem ts=0 then (asgN d l mem ts).getD [] else []
def AsgV (E:Int) (L:List (List Int)) (v:Value) (H:Hp):Prop:=
 (E≠0∧v=.tuple #[.slice none 0 0,.int .i64 E]∧H=[])∨(E=0∧∃ g R,(∀ r∈R,LrOk r)∧R.map Prod.fst=L∧v=.tuple #[.slice (some ⟨g,0,none⟩) L.length L.length,.int .i64 0]∧H=outH g L.length R)
theorem out_none (g m:Nat):outH g m (List.replicate m ([],none))=[(g,List.replicate m (.slice none 0 0),some (22,1,m))]:=by
 unfold outH
 have h1:∀ k,rwsH (List.replicate k (([],none):Row))=[]:=fun k=>by
   induction k with
   | zero=>rfl
   | succ k ih=>rw [List.replicate_succ];show rowH ([],none)++_=[];rw [ih];rfl
 rw [h1,List.map_replicate]
 rfl
theorem dep_le:∀ {ts:List Tr},(∀ x∈ts,trOk x)→dep ts≤3*ts.length+1
 | [],_=>Nat.le_refl _
 | x::ts,h=>by
   have h1:=h x List.mem_cons_self
   unfold trOk at h1
   have:=dep_le fun y hy=>h y (List.mem_cons_of_mem _ hy)
   show x.crew.toNat+1+dep ts≤_
   simp only [List.length_cons]
   omega
theorem assign_T (d:Du) (A:Option Addr) (n c:Nat) (l:List Sh) (mem:Int) (AT:Option Addr) (m cT:Nat) (ts:List Tr) (w:World) (hr:RdS w 3 A n (l.map shCells)) (hA:A=none→n=0∧c=0) (hrT:RdS w 3 AT m (ts.map trCells)) (hn:n≤1000000) (hm:m≤1000000) :
   Calls Try.prog 36 #[.agg #[.int .i64 d.most,.int .i64 d.rest,.int .i64 d.win,.int .i64 d.sum],.slice A n c,.int .i64 mem,.slice AT m cT] w fun e w'=>∃ v H',e=.returned v∧AsgV (asgE d l mem ts) (asgL d l mem ts) v H'∧Has w ⟨[],[]⟩ H' w':=by
 have hl:=hr.len
 simp only [List.length_map] at hl
 have hlT:=hrT.len
 simp only [List.length_map] at hlT
 have HDu:=fun w1=>dutyR_calls d w1
 have HRo:=fun w1 h=>rosR_calls A n c l w1 h hA hn
 obtain ⟨E0,hE0⟩:∃ E,tiE d l=E:=⟨_,rfl⟩
 have hEq:=tiE_eq (d:=d) (l:=l)
 rw [hE0] at hEq
 obtain ⟨p,hp⟩:∃ p,duE d=p:=⟨_,rfl⟩
 obtain ⟨q',hq'⟩:∃ q,rosE l=q:=⟨_,rfl⟩
 rw [hp,hq'] at hEq
 rw [hp] at HDu
 rw [hq'] at HRo
 have HOr:=fun A cp w c0 c1=>orE_calls p q' A cp w c0 c1
 rw [hEq] at HOr
 obtain ⟨q,hq⟩:∃ q,allFromK 0 6 [mem]=q:=⟨_,rfl⟩
 have hqe:q=true↔0≤mem∧mem≤6:=by rw [← hq];exact allFrom_one
 obtain ⟨E,hE⟩:∃ E,asgE d l mem ts=E:=⟨_,rfl⟩
 have hEd:=hE
 unfold asgE at hEd
 rw [hE0] at hEd
 have hbad:E≠0→∀ (H:Hp),∃ H1,(AsgV (asgE d l mem ts) (asgL d l mem ts) (.tuple #[.slice none 0 0,.int .i64 E]) H1)∧HpSub H H1:=fun h H=>⟨[],.inl ⟨by rw [hE];exact h,by rw [hE],rfl⟩,HpSub.nil⟩
 refine enterF (c:=cx w 45) Try.func36 rfl rfl rfl rfl ?_
 refine t_cut (ι:=Nat×Nat×Nat) (fun z=>[(1,.slice A n c),(4,.pointer (some ⟨z.1,0,none⟩)),(6,.pointer (some ⟨z.2.1,0,none⟩)),(7,.pointer (some ⟨z.2.2,0,none⟩))]) (fun z=>[(z.2.2,[.slice AT m cT],some (89,1,1)),(z.2.1,[.int .i64 mem],some (3,1,1)),(z.1,[.int .i64 d.most,.int .i64 d.rest,.int .i64 d.win,.int .i64 d.sum],some (80,4,1))]) (fun _=>True) ?_ ?_
 · repeat' (first|((with_reducible apply oq_id);first|(apply oq_fn;exact rfl;first|exact trivial|(and_intros<;>omega)|omega|skip))|((with_reducible apply tl_id);first|(with_reducible apply tl_nil)|((with_reducible apply u_q);(iterate 4 exact rfl))|((with_reducible apply u_s);(iterate 3 exact rfl)))|((with_reducible apply os_id);first|((with_reducible apply os_x);exact rfl))|((with_reducible apply ox_id);first|((with_reducible apply ox_box);exact rfl;exact rfl;intro _)|((with_reducible apply ox_boxAgg);exact rfl;intro _))|((with_reducible apply t_id);first|(apply t_region;kernel_rfl)))
   all_goals exact ⟨rfl,(_,_,_),trivial,by (repeat first|exact FrSub.nil|(apply FrSub.cons;exact rfl)),by (repeat (first|exact HpSub.refl _|(apply HpSub.consE;(repeat (first|exact P0|apply P1|apply PA));exact rfl)|apply hp_kA|apply HpSub.skipX|apply hp_skA|exact HpSub.nil))⟩
 rintro ⟨bD,bM,bT⟩ -
 try dsimp only
 by_cases h0:E0=0
 rotate_left
 · rw [if_neg h0] at hEd
   subst hEd
   repeat' (first|((with_reducible apply oq_id);first|((with_reducible apply oq_neqT);exact rfl;exact rfl;omega)|(apply oq_fn;exact rfl;first|exact trivial|(and_intros<;>omega)|omega|skip)|((with_reducible apply oq_loadAgg);exact rfl;exact rfl)|((with_reducible apply oq_call (hc:=Try.call84));exact rfl;exact rfl;exact fun D w1 hw1=>HDu w1)|((with_reducible apply oq_call (hc:=Try.call85));exact rfl;exact rfl;exact fun D w1 hw1=>HRo w1 (hr.ext hw1.ext.ext))|((with_reducible apply oq_call (hc:=Try.call83));exact rfl;exact rfl;exact fun D w1 hw1=>HOr _ _ w1 (hw1.cellAt (by (repeat (first|exact P0|apply P1|apply PA))) rfl) (hw1.cellAt (by (repeat (first|exact P0|apply P1|apply PA))) rfl)))|((with_reducible apply tl_id);first|(with_reducible apply tl_nil)|((with_reducible apply u_q);(iterate 4 exact rfl))|((with_reducible apply u_s);(iterate 3 exact rfl)))|((with_reducible apply os_id);first|((with_reducible apply os_x);exact rfl))|((with_reducible apply ox_id);first|((with_reducible apply ox_buildSlice1);(iterate 6 exact rfl);intro _))|((with_reducible apply rd_id);first|(apply Rd.own;(repeat (first|exact P0|apply P1|apply PA));exact rfl;done))|((with_reducible apply t_id);first|(with_reducible apply t_seq)|(apply t_region;kernel_rfl)|((with_reducible apply t_condT);exact rfl)|(with_reducible apply t_ret))|with_reducible apply q_thenN|with_reducible apply q_thenR|exact Rdn.zero|apply Rdn.succ|(with_reducible apply end_ret)|exact rvs_nil|(with_reducible apply rvs_cons)|((with_reducible apply rv_tmp);exact rfl))
   all_goals exact hbad h0 _
 rw [if_pos h0] at hEd
 refine t_cut (ι:=Unit) (fun _=>[(1,.slice A n c),(4,.pointer (some ⟨bD,0,none⟩)),(6,.pointer (some ⟨bM,0,none⟩)),(7,.pointer (some ⟨bT,0,none⟩))]) (fun _=>[(bT,[.slice AT m cT],some (89,1,1)),(bM,[.int .i64 mem],some (3,1,1)),(bD,[.int .i64 d.most,.int .i64 d.rest,.int .i64 d.win,.int .i64 d.sum],some (80,4,1))]) (fun _=>True) ?_ ?_
 · repeat' (first|((with_reducible apply oq_id);first|((with_reducible apply oq_neqF);exact rfl;exact rfl;omega)|(apply oq_fn;exact rfl;first|exact trivial|(and_intros<;>omega)|omega|skip)|((with_reducible apply oq_loadAgg);exact rfl;exact rfl)|((with_reducible apply oq_call (hc:=Try.call84));exact rfl;exact rfl;exact fun D w1 hw1=>HDu w1)|((with_reducible apply oq_call (hc:=Try.call85));exact rfl;exact rfl;exact fun D w1 hw1=>HRo w1 (hr.ext hw1.ext.ext))|((with_reducible apply oq_call (hc:=Try.call83));exact rfl;exact rfl;exact fun D w1 hw1=>HOr _ _ w1 (hw1.cellAt (by (repeat (first|exact P0|apply P1|apply PA))) rfl) (hw1.cellAt (by (repeat (first|exact P0|apply P1|apply PA))) rfl)))|((with_reducible apply tl_id);first|(with_reducible apply tl_nil)|((with_reducible apply u_q);(iterate 4 exact rfl))|((with_reducible apply u_s);(iterate 3 exact rfl)))|((with_reducible apply os_id);first|((with_reducible apply os_x);exact rfl))|((with_reducible apply ox_id);first|((with_reducible apply ox_buildSlice1);(iterate 6 exact rfl);intro _))|((with_reducible apply rd_id);first|(apply Rd.own;(repeat (first|exact P0|apply P1|apply PA));exact rfl;done))|((with_reducible apply t_id);first|(with_reducible apply t_seq)|(apply t_region;kernel_rfl)|((with_reducible apply t_condF);exact rfl)|(with_reducible apply t_skip))|with_reducible apply q_thenN|exact Rdn.zero|apply Rdn.succ)
   all_goals exact ⟨rfl,(),trivial,by (repeat first|exact FrSub.nil|(apply FrSub.cons;exact rfl)),by (repeat (first|exact HpSub.refl _|(apply HpSub.consE;(repeat (first|exact P0|apply P1|apply PA));exact rfl)|apply hp_kA|apply HpSub.skipX|apply hp_skA|exact HpSub.nil))⟩
 rintro ⟨⟩ -
 refine t_cut (ι:=Unit) (fun _=>[(1,.slice A n c),(4,.pointer (some ⟨bD,0,none⟩)),(6,.pointer (some ⟨bM,0,none⟩)),(7,.pointer (some ⟨bT,0,none⟩)),(11,.func (.func 86) #[] #[])]) (fun _=>[(bT,[.slice AT m cT],some (89,1,1)),(bM,[.int .i64 mem],some (3,1,1)),(bD,[.int .i64 d.most,.int .i64 d.rest,.int .i64 d.win,.int .i64 d.sum],some (80,4,1))]) (fun _=>True) ?_ ?_
 · repeat' (first|((with_reducible apply oq_id);first|(apply oq_fn;exact rfl;first|exact trivial|(and_intros<;>omega)|omega|skip))|((with_reducible apply tl_id);first|(with_reducible apply tl_nil)|((with_reducible apply u_q);(iterate 4 exact rfl)))|((with_reducible apply t_id);first|(apply t_region;kernel_rfl)))
   all_goals exact ⟨rfl,(),trivial,by (repeat first|exact FrSub.nil|(apply FrSub.cons;exact rfl)),by (repeat (first|exact HpSub.refl _|(apply HpSub.consE;(repeat (first|exact P0|apply P1|apply PA));exact rfl)|apply hp_kA|apply HpSub.skipX|apply hp_skA|exact HpSub.nil))⟩
 rintro ⟨⟩ -
 by_cases h1:q=true
 rotate_left
 · obtain rfl:q=false:=by cases q;rfl;exact absurd rfl h1
   rw [if_neg (fun h=>h1 (hqe.2 h))] at hEd
   subst hEd
   repeat' (first|((with_reducible apply oq_id);first|(apply oq_fn;exact rfl;first|exact trivial|(and_intros<;>omega)|omega|skip)|((with_reducible apply oq_load);exact rfl;exact rfl)|((with_reducible apply oq_call (hc:=Try.call87));exact rfl;exact rfl;exact fun D w1 hw1=>fromOneK hq hw1 (by (repeat (first|exact P0|apply P1|apply PA)))))|((with_reducible apply tl_id);first|(with_reducible apply tl_nil)|((with_reducible apply u_q);(iterate 4 exact rfl))|((with_reducible apply u_s);(iterate 3 exact rfl)))|((with_reducible apply os_id);first|((with_reducible apply os_x);exact rfl))|((with_reducible apply ox_id);first|((with_reducible apply ox_buildSlice1);(iterate 6 exact rfl);intro _))|((with_reducible apply rd_id);first|(apply Rd.own;(repeat (first|exact P0|apply P1|apply PA));exact rfl;done))|((with_reducible apply t_id);first|(with_reducible apply t_seq)|(apply t_region;kernel_rfl)|((with_reducible apply t_condT);exact rfl)|(with_reducible apply t_ret)|(with_reducible apply t_block))|with_reducible apply q_thenN|with_reducible apply q_thenR|with_reducible apply q_blockR|(with_reducible apply end_ret)|exact rvs_nil|(with_reducible apply rvs_cons)|((with_reducible apply rv_tmp);exact rfl))
   all_goals exact hbad (by decide) _
 subst h1
 have hmem:=hqe.1 rfl
 rw [if_pos hmem] at hEd
 by_cases h2:4<ts.length
 · rw [if_pos h2] at hEd
   subst hEd
   repeat' (first|((with_reducible apply oq_id);first|((with_reducible apply oq_gtrT);exact rfl;exact rfl;omega)|(apply oq_fn;exact rfl;first|exact trivial|(and_intros<;>omega)|omega|skip)|((with_reducible apply oq_load);exact rfl;exact rfl)|((with_reducible apply oq_call (hc:=Try.call87));exact rfl;exact rfl;exact fun D w1 hw1=>fromOneK hq hw1 (by (repeat (first|exact P0|apply P1|apply PA)))))|((with_reducible apply tl_id);first|(with_reducible apply tl_nil)|((with_reducible apply u_q);(iterate 4 exact rfl))|((with_reducible apply u_s);(iterate 3 exact rfl)))|((with_reducible apply os_id);first|((with_reducible apply os_x);exact rfl))|((with_reducible apply ox_id);first|((with_reducible apply ox_buildSlice1);(iterate 6 exact rfl);intro _))|((with_reducible apply rd_id);first|(apply Rd.own;(repeat (first|exact P0|apply P1|apply PA));exact rfl;done))|((with_reducible apply t_id);first|(with_reducible apply t_seq)|(apply t_region;kernel_rfl)|((with_reducible apply t_condT);exact rfl)|((with_reducible apply t_condF);exact rfl)|(with_reducible apply t_ret)|(with_reducible apply t_block))|with_reducible apply q_thenN|with_reducible apply q_thenR|with_reducible apply q_blockR|(with_reducible apply end_ret)|exact rvs_nil|(with_reducible apply rvs_cons)|((with_reducible apply rv_tmp);exact rfl))
   all_goals exact hbad (by decide) _
 rw [if_neg h2] at hEd
 have HCt:=fun w1 h=>contTr_calls AT m cT ts w1 h hm
 by_cases h3:0≤oddI ts
 · rw [if_pos h3] at hEd
   subst hEd
   rw [decide_eq_true h3] at HCt
   repeat' (first|((with_reducible apply oq_id);first|((with_reducible apply oq_gtrF);exact rfl;exact rfl;omega)|(apply oq_fn;exact rfl;first|exact trivial|(and_intros<;>omega)|omega|skip)|((with_reducible apply oq_load);exact rfl;exact rfl)|((with_reducible apply oq_call (hc:=Try.call88));exact rfl;exact rfl;exact fun D w1 hw1=>HCt w1 (hrT.ext hw1.ext.ext))|((with_reducible apply oq_call (hc:=Try.call87));exact rfl;exact rfl;exact fun D w1 hw1=>fromOneK hq hw1 (by (repeat (first|exact P0|apply P1|apply PA)))))|((with_reducible apply tl_id);first|(with_reducible apply tl_nil)|((with_reducible apply u_q);(iterate 4 exact rfl))|((with_reducible apply u_s);(iterate 3 exact rfl)))|((with_reducible apply os_id);first|((with_reducible apply os_x);exact rfl))|((with_reducible apply ox_id);first|((with_reducible apply ox_buildSlice1);(iterate 6 exact rfl);intro _))|((with_reducible apply rd_id);first|(apply Rd.own;(repeat (first|exact P0|apply P1|apply PA));exact rfl;done))|((with_reducible apply t_id);first|(with_reducible apply t_seq)|(apply t_region;kernel_rfl)|((with_reducible apply t_condT);exact rfl)|((with_reducible apply t_condF);exact rfl)|(with_reducible apply t_ret)|(with_reducible apply t_block))|with_reducible apply q_thenN|with_reducible apply q_thenR|with_reducible apply q_blockR|(with_reducible apply end_ret)|exact rvs_nil|(with_reducible apply rvs_cons)|((with_reducible apply rv_tmp);exact rfl))
   all_goals exact hbad (by decide) _
 rw [if_neg h3] at hEd
 rw [decide_eq_false h3] at HCt
 have hto:=oddI_neg.1 (show oddI ts<0 by omega)
 obtain ⟨hd,hl40,hRos⟩:=tiE_ok (hE0.trans h0)
 refine t_cut (ι:=Unit) (fun _=>[(1,.slice A n c),(4,.pointer (some ⟨bD,0,none⟩)),(6,.pointer (some ⟨bM,0,none⟩)),(7,.pointer (some ⟨bT,0,none⟩))]) (fun _=>[(bT,[.slice AT m cT],some (89,1,1)),(bM,[.int .i64 mem],some (3,1,1)),(bD,[.int .i64 d.most,.int .i64 d.rest,.int .i64 d.win,.int .i64 d.sum],some (80,4,1))]) (fun _=>True) ?_ ?_
 · repeat' (first|((with_reducible apply oq_id);first|((with_reducible apply oq_gtrF);exact rfl;exact rfl;omega)|(apply oq_fn;exact rfl;first|exact trivial|(and_intros<;>omega)|omega|skip)|((with_reducible apply oq_load);exact rfl;exact rfl)|((with_reducible apply oq_call (hc:=Try.call88));exact rfl;exact rfl;exact fun D w1 hw1=>HCt w1 (hrT.ext hw1.ext.ext))|((with_reducible apply oq_call (hc:=Try.call87));exact rfl;exact rfl;exact fun D w1 hw1=>fromOneK hq hw1 (by (repeat (first|exact P0|apply P1|apply PA)))))|((with_reducible apply tl_id);first|(with_reducible apply tl_nil)|((with_reducible apply u_q);(iterate 4 exact rfl))|((with_reducible apply u_s);(iterate 3 exact rfl)))|((with_reducible apply os_id);first|((with_reducible apply os_x);exact rfl))|((with_reducible apply ox_id);first|((with_reducible apply ox_buildSlice1);(iterate 6 exact rfl);intro _))|((with_reducible apply rd_id);first|(apply Rd.own;(repeat (first|exact P0|apply P1|apply PA));exact rfl;done))|((with_reducible apply t_id);first|(with_reducible apply t_seq)|(apply t_region;kernel_rfl)|((with_reducible apply t_condF);exact rfl)|(with_reducible apply t_skip)|(with_reducible apply t_block))|with_reducible apply q_thenN|with_reducible apply q_blockN)
   all_goals exact ⟨rfl,(),trivial,by (repeat first|exact FrSub.nil|(apply FrSub.cons;exact rfl)),by (repeat (first|exact HpSub.refl _|(apply HpSub.consE;(repeat (first|exact P0|apply P1|apply PA));exact rfl)|apply hp_kA|apply HpSub.skipX|apply hp_skA|exact HpSub.nil))⟩
 rintro ⟨⟩ -
 refine t_cut (ι:=Nat×Nat) (fun z=>[(1,.slice A n c),(4,.pointer (some ⟨bD,0,none⟩)),(6,.pointer (some ⟨bM,0,none⟩)),(7,.pointer (some ⟨bT,0,none⟩)),(12,.pointer (some ⟨z.2,0,none⟩))]) (fun z=>(z.2,[.slice (some ⟨z.1,0,none⟩) m m],some (84,1,1))::(z.1,List.replicate m (.slice none 0 0),some (22,1,m))::[(bT,[.slice AT m cT],some (89,1,1)),(bM,[.int .i64 mem],some (3,1,1)),(bD,[.int .i64 d.most,.int .i64 d.rest,.int .i64 d.win,.int .i64 d.sum],some (80,4,1))]) (fun _=>True) ?_ ?_
 · repeat' (first|((with_reducible apply oq_id);first|(apply oq_fn;exact rfl;first|exact trivial|(and_intros<;>omega)|omega|skip)|((with_reducible apply oq_load);exact rfl;exact rfl))|((with_reducible apply tl_id);first|(with_reducible apply tl_nil)|((with_reducible apply u_s);(iterate 3 exact rfl);(with_reducible apply os_makeL);exact rfl;exact rfl;omega;intro gg)|((with_reducible apply u_q);(iterate 4 exact rfl))|((with_reducible apply u_s0);exact rfl;exact rfl)|((with_reducible apply u_s);(iterate 3 exact rfl)))|((with_reducible apply os_id);first|((with_reducible apply os_x);exact rfl)|((with_reducible apply os_store);(iterate 4 exact rfl)))|((with_reducible apply ox_id);first|((with_reducible apply ox_alloc);exact rfl;intro _))|((with_reducible apply rd_id);first|(apply Rd.own;(repeat (first|exact P0|apply P1|apply PA));exact rfl;done))|((with_reducible apply t_id);first|(apply t_region;kernel_rfl))|exact P0|((with_reducible apply Norm.nil);exact rfl)|((with_reducible apply Norm.cons);exact rfl)|exact Nat.le_of_ble_eq_true rfl)
   all_goals exact ⟨by trivial,(_,_),trivial,by (repeat first|exact FrSub.nil|(apply FrSub.cons;exact rfl)),by (repeat (first|exact HpSub.refl _|(apply HpSub.consE;(repeat (first|exact P0|apply P1|apply PA));exact rfl)|apply hp_kA|apply HpSub.skipX|apply hp_skA|exact HpSub.nil))⟩
 rintro ⟨g,bO⟩ -
 try dsimp only
 refine t_cut (ι:=Nat) (fun bF=>[(1,.slice A n c),(4,.pointer (some ⟨bD,0,none⟩)),(6,.pointer (some ⟨bM,0,none⟩)),(7,.pointer (some ⟨bT,0,none⟩)),(12,.pointer (some ⟨bO,0,none⟩)),(13,.pointer (some ⟨bF,0,none⟩))]) (fun bF=>(bF,[.nilFunc],some (159,1,1))::(bO,[.slice (some ⟨g,0,none⟩) m m],some (84,1,1))::(g,List.replicate m (.slice none 0 0),some (22,1,m))::[(bT,[.slice AT m cT],some (89,1,1)),(bM,[.int .i64 mem],some (3,1,1)),(bD,[.int .i64 d.most,.int .i64 d.rest,.int .i64 d.win,.int .i64 d.sum],some (80,4,1))]) (fun _=>True) ?_ ?_
 · repeat' (first|((with_reducible apply tl_id);first|(with_reducible apply tl_nil)|((with_reducible apply u_s);(iterate 3 exact rfl)))|((with_reducible apply os_id);first|((with_reducible apply os_x);exact rfl))|((with_reducible apply ox_id);first|((with_reducible apply ox_alloc);exact rfl;intro _))|((with_reducible apply t_id);first|(apply t_region;kernel_rfl)))
   all_goals exact ⟨by trivial,_,trivial,by (repeat first|exact FrSub.nil|(apply FrSub.cons;exact rfl)),by (repeat (first|exact HpSub.refl _|(apply HpSub.consE;(repeat (first|exact P0|apply P1|apply PA));exact rfl)|apply hp_kA|apply HpSub.skipX|apply hp_skA|exact HpSub.nil))⟩
 rintro bF -
 try dsimp only
 refine t_cut (ι:=Unit) (fun _=>[(1,.slice A n c),(4,.pointer (some ⟨bD,0,none⟩)),(6,.pointer (some ⟨bM,0,none⟩)),(7,.pointer (some ⟨bT,0,none⟩)),(12,.pointer (some ⟨bO,0,none⟩)),(13,.pointer (some ⟨bF,0,none⟩))]) (fun _=>[(bF,[.func (.func 89) #[] #[.pointer (some ⟨bD,0,none⟩),.pointer (some ⟨bT,0,none⟩),.pointer (some ⟨bO,0,none⟩),.pointer (some ⟨bF,0,none⟩),.pointer (some ⟨bM,0,none⟩)]],some (159,1,1)),(bO,[.slice (some ⟨g,0,none⟩) m m],some (84,1,1)),(bT,[.slice AT m cT],some (89,1,1)),(bM,[.int .i64 mem],some (3,1,1)),(bD,[.int .i64 d.most,.int .i64 d.rest,.int .i64 d.win,.int .i64 d.sum],some (80,4,1))]++outH g m (List.replicate m ([],none))) (fun _=>True) ?_ ?_
 · repeat' (first|((with_reducible apply oq_id);first|(apply oq_fn;exact rfl;first|exact trivial|(and_intros<;>omega)|omega|skip))|((with_reducible apply tl_id);first|(with_reducible apply tl_nil)|((with_reducible apply u_q);(iterate 4 exact rfl))|((with_reducible apply u_s0);exact rfl;exact rfl))|((with_reducible apply os_id);first|((with_reducible apply os_store);(iterate 4 exact rfl)))|((with_reducible apply t_id);first|(apply t_region;kernel_rfl))|exact P0|((with_reducible apply Norm.nil);exact rfl)|((with_reducible apply Norm.cons);exact rfl)|exact Nat.le_of_ble_eq_true rfl)
   all_goals exact ⟨by trivial,(),trivial,by (repeat first|exact FrSub.nil|(apply FrSub.cons;exact rfl)),by (rw [out_none];simp only [List.cons_append,List.nil_append];(repeat (first|exact HpSub.refl _|(apply HpSub.consE;(repeat (first|exact P0|apply P1|apply PA));exact rfl)|apply hp_kA|apply HpSub.skipX|apply hp_skA|exact HpSub.nil)))⟩
 rintro ⟨⟩ -
 obtain ⟨R0,hR0⟩:∃ R:List Row,List.replicate m ([],none)=R:=⟨_,rfl⟩
 have hR0l:R0.length=m:=by rw [← hR0];simp
 have hR0e:∀ (j:Nat) r,R0[j]?=some r→r=([],none):=fun j r h=>by
   rw [← hR0,List.getElem?_replicate] at h
   split at h
   · exact (Option.some.inj h).symm
   · cases h
 have hR0k:∀ r∈R0,LrOk r:=fun r h=>by
   obtain ⟨j,hj,rfl⟩:=List.getElem_of_mem h
   rw [hR0e j _ (List.getElem?_eq_getElem hj)]
   exact ⟨fun _=>rfl,Nat.le_refl _⟩
 have hR0c:R0.map Prod.fst=List.replicate m []:=by rw [← hR0];simp
 rw [hR0]
 obtain ⟨mm,hmm⟩:∃ k:Nat,mem=(k:Int):=⟨mem.toNat,by omega⟩
 have hdep:=dep_le hto
 obtain ⟨N,hN⟩:∃ N,asgN d l mem ts=N:=⟨_,rfl⟩
 have hNe:=hN
 unfold asgN at hNe
 have htry:=fun w1 h1 h2 h3 h4=>try_T d hd mm m (by omega) (by omega) ts hlT hto bD bT bO bF bM g AT cT 20 0 0 l R0 [] A n c w1 hR0l hR0k (Nat.zero_le _) (fun j r _ h=>by rw [hR0e j r h]) (fun r h=>by rw [hR0e 0 r h]) (fun _=>rfl) (fun x hx=>by have:=hto x (List.mem_of_getElem? hx);unfold trOk at this;simp only [List.length_nil];omega) (by rw [List.drop_zero];simp only [List.length_nil];omega) (by omega) (by omega) h1 hA h2 h3 h4
 rw [List.drop_zero,show tryF d mm 20 ts [] 0 l=N by rw [← hNe,hmm];rfl,hR0c] at htry
 subst hmm
 cases N with
 | none=>
   rw [hN] at hEd
   simp only [Option.isSome_none,Bool.false_eq_true,if_false] at hEd
   subst hEd
   repeat' (first|((with_reducible apply oq_id);first|(apply oq_fn;exact rfl;first|exact trivial|(and_intros<;>omega)|omega|skip)|((with_reducible apply oq_load);exact rfl;exact rfl))|((with_reducible apply tl_id);first|(with_reducible apply tl_nil)|((with_reducible apply u_s);(iterate 3 exact rfl);(with_reducible apply os_callM (G:=outH g m R0) (R:=[(bF,[.func (.func 89) #[] #[.pointer (some ⟨bD,0,none⟩),.pointer (some ⟨bT,0,none⟩),.pointer (some ⟨bO,0,none⟩),.pointer (some ⟨bF,0,none⟩),.pointer (some ⟨bM,0,none⟩)]],some (159,1,1)),(bO,[.slice (some ⟨g,0,none⟩) m m],some (84,1,1)),(bT,[.slice AT m cT],some (89,1,1)),(bM,[.int .i64 (mm:Nat)],some (3,1,1)),(bD,[.int .i64 d.most,.int .i64 d.rest,.int .i64 d.win,.int .i64 d.sum],some (80,4,1))]) (PV:=TryP g m (List.replicate m []) 0 none) (hc:=Try.call89));exact rfl;exact rfl;exact hp_comm [(bF,[.func (.func 89) #[] #[.pointer (some ⟨bD,0,none⟩),.pointer (some ⟨bT,0,none⟩),.pointer (some ⟨bO,0,none⟩),.pointer (some ⟨bF,0,none⟩),.pointer (some ⟨bM,0,none⟩)]],some (159,1,1)),(bO,[.slice (some ⟨g,0,none⟩) m m],some (84,1,1)),(bT,[.slice AT m cT],some (89,1,1)),(bM,[.int .i64 (mm:Nat)],some (3,1,1)),(bD,[.int .i64 d.most,.int .i64 d.rest,.int .i64 d.win,.int .i64 d.sum],some (80,4,1))] _;exact fun D w1 hw1 hw2=>htry w1 (hr.ext hw1.ext.ext) (old_off (X:=[(bF,[.func (.func 89) #[] #[.pointer (some ⟨bD,0,none⟩),.pointer (some ⟨bT,0,none⟩),.pointer (some ⟨bO,0,none⟩),.pointer (some ⟨bF,0,none⟩),.pointer (some ⟨bM,0,none⟩)]],some (159,1,1)),(bO,[.slice (some ⟨g,0,none⟩) m m],some (84,1,1)),(bT,[.slice AT m cT],some (89,1,1)),(bM,[.int .i64 (mm:Nat)],some (3,1,1)),(bD,[.int .i64 d.most,.int .i64 d.rest,.int .i64 d.win,.int .i64 d.sum],some (80,4,1))]) hw1 hr) ⟨hw1.cellAt (by (repeat (first|exact P0|apply P1|apply PA))) rfl,hw1.cellAt (by (repeat (first|exact P0|apply P1|apply PA))) rfl,hw1.cellAt (by (repeat (first|exact P0|apply P1|apply PA))) rfl,hw1.cellAt (by (repeat (first|exact P0|apply P1|apply PA))) rfl,hw1.cellAt (by (repeat (first|exact P0|apply P1|apply PA))) rfl,hw1.cellAt (by (repeat (first|exact P0|apply P1|apply PA))) rfl,hw1.cellAt (by (repeat (first|exact P0|apply P1|apply PA))) rfl,hw1.cellAt (by (repeat (first|exact P0|apply P1|apply PA))) rfl,hrT.ext hw1.ext.ext,Has.off2 (X:=[(bF,[.func (.func 89) #[] #[.pointer (some ⟨bD,0,none⟩),.pointer (some ⟨bT,0,none⟩),.pointer (some ⟨bO,0,none⟩),.pointer (some ⟨bF,0,none⟩),.pointer (some ⟨bM,0,none⟩)]],some (159,1,1)),(bO,[.slice (some ⟨g,0,none⟩) m m],some (84,1,1)),(bT,[.slice AT m cT],some (89,1,1)),(bM,[.int .i64 (mm:Nat)],some (3,1,1)),(bD,[.int .i64 d.most,.int .i64 d.rest,.int .i64 d.win,.int .i64 d.sum],some (80,4,1))]) hw1 (by simp),Has.off2 (X:=[(bF,[.func (.func 89) #[] #[.pointer (some ⟨bD,0,none⟩),.pointer (some ⟨bT,0,none⟩),.pointer (some ⟨bO,0,none⟩),.pointer (some ⟨bF,0,none⟩),.pointer (some ⟨bM,0,none⟩)]],some (159,1,1)),(bO,[.slice (some ⟨g,0,none⟩) m m],some (84,1,1)),(bT,[.slice AT m cT],some (89,1,1)),(bM,[.int .i64 (mm:Nat)],some (3,1,1)),(bD,[.int .i64 d.most,.int .i64 d.rest,.int .i64 d.win,.int .i64 d.sum],some (80,4,1))]) hw1 (by simp),Has.off2 (X:=[(bF,[.func (.func 89) #[] #[.pointer (some ⟨bD,0,none⟩),.pointer (some ⟨bT,0,none⟩),.pointer (some ⟨bO,0,none⟩),.pointer (some ⟨bF,0,none⟩),.pointer (some ⟨bM,0,none⟩)]],some (159,1,1)),(bO,[.slice (some ⟨g,0,none⟩) m m],some (84,1,1)),(bT,[.slice AT m cT],some (89,1,1)),(bM,[.int .i64 (mm:Nat)],some (3,1,1)),(bD,[.int .i64 d.most,.int .i64 d.rest,.int .i64 d.win,.int .i64 d.sum],some (80,4,1))]) hw1 (by simp),Has.off2 (X:=[(bF,[.func (.func 89) #[] #[.pointer (some ⟨bD,0,none⟩),.pointer (some ⟨bT,0,none⟩),.pointer (some ⟨bO,0,none⟩),.pointer (some ⟨bF,0,none⟩),.pointer (some ⟨bM,0,none⟩)]],some (159,1,1)),(bO,[.slice (some ⟨g,0,none⟩) m m],some (84,1,1)),(bT,[.slice AT m cT],some (89,1,1)),(bM,[.int .i64 (mm:Nat)],some (3,1,1)),(bD,[.int .i64 d.most,.int .i64 d.rest,.int .i64 d.win,.int .i64 d.sum],some (80,4,1))]) hw1 (by simp),Has.off2 (X:=[(bF,[.func (.func 89) #[] #[.pointer (some ⟨bD,0,none⟩),.pointer (some ⟨bT,0,none⟩),.pointer (some ⟨bO,0,none⟩),.pointer (some ⟨bF,0,none⟩),.pointer (some ⟨bM,0,none⟩)]],some (159,1,1)),(bO,[.slice (some ⟨g,0,none⟩) m m],some (84,1,1)),(bT,[.slice AT m cT],some (89,1,1)),(bM,[.int .i64 (mm:Nat)],some (3,1,1)),(bD,[.int .i64 d.most,.int .i64 d.rest,.int .i64 d.win,.int .i64 d.sum],some (80,4,1))]) hw1 (by simp),old_off (X:=[(bF,[.func (.func 89) #[] #[.pointer (some ⟨bD,0,none⟩),.pointer (some ⟨bT,0,none⟩),.pointer (some ⟨bO,0,none⟩),.pointer (some ⟨bF,0,none⟩),.pointer (some ⟨bM,0,none⟩)]],some (159,1,1)),(bO,[.slice (some ⟨g,0,none⟩) m m],some (84,1,1)),(bT,[.slice AT m cT],some (89,1,1)),(bM,[.int .i64 (mm:Nat)],some (3,1,1)),(bD,[.int .i64 d.most,.int .i64 d.rest,.int .i64 d.win,.int .i64 d.sum],some (80,4,1))]) hw1 hrT⟩ hw2;rintro v H1 ⟨R5,hok5,rfl,hcs5,rfl⟩;(simp only [Option.isSome_some,Option.isSome_none]))|((with_reducible apply u_q);(iterate 4 exact rfl)))|((with_reducible apply rd_id);first|(apply Rd.own;(repeat (first|exact P0|apply P1|apply PA));exact rfl;done))|((with_reducible apply t_id);first|(with_reducible apply t_seq)|(apply t_region;kernel_rfl)|((with_reducible apply t_condT);exact rfl)|(with_reducible apply t_ret))|with_reducible apply q_thenN|with_reducible apply q_thenR|(with_reducible apply end_ret)|exact rvs_nil|(with_reducible apply rvs_cons)|((with_reducible apply rv_tmp);exact rfl))
   all_goals exact hbad (by decide) _
 | some rs=>
   rw [hN] at hEd
   simp only [Option.isSome_some,if_true] at hEd
   subst hEd
   have hrl:rs.length=m:=by rw [← hlT];exact tryF_len hNe
   have hL:asgL d l (mm:Nat) ts=rs:=by unfold asgL;rw [if_pos hE,hN];rfl
   repeat' (first|((with_reducible apply oq_id);first|(apply oq_fn;exact rfl;first|exact trivial|(and_intros<;>omega)|omega|skip)|((with_reducible apply oq_load);exact rfl;exact rfl))|((with_reducible apply tl_id);first|(with_reducible apply tl_nil)|((with_reducible apply u_s);(iterate 3 exact rfl);(with_reducible apply os_callM (G:=outH g m R0) (R:=[(bF,[.func (.func 89) #[] #[.pointer (some ⟨bD,0,none⟩),.pointer (some ⟨bT,0,none⟩),.pointer (some ⟨bO,0,none⟩),.pointer (some ⟨bF,0,none⟩),.pointer (some ⟨bM,0,none⟩)]],some (159,1,1)),(bO,[.slice (some ⟨g,0,none⟩) m m],some (84,1,1)),(bT,[.slice AT m cT],some (89,1,1)),(bM,[.int .i64 (mm:Nat)],some (3,1,1)),(bD,[.int .i64 d.most,.int .i64 d.rest,.int .i64 d.win,.int .i64 d.sum],some (80,4,1))]) (PV:=TryP g m (List.replicate m []) 0 (some rs)) (hc:=Try.call89));exact rfl;exact rfl;exact hp_comm [(bF,[.func (.func 89) #[] #[.pointer (some ⟨bD,0,none⟩),.pointer (some ⟨bT,0,none⟩),.pointer (some ⟨bO,0,none⟩),.pointer (some ⟨bF,0,none⟩),.pointer (some ⟨bM,0,none⟩)]],some (159,1,1)),(bO,[.slice (some ⟨g,0,none⟩) m m],some (84,1,1)),(bT,[.slice AT m cT],some (89,1,1)),(bM,[.int .i64 (mm:Nat)],some (3,1,1)),(bD,[.int .i64 d.most,.int .i64 d.rest,.int .i64 d.win,.int .i64 d.sum],some (80,4,1))] _;exact fun D w1 hw1 hw2=>htry w1 (hr.ext hw1.ext.ext) (old_off (X:=[(bF,[.func (.func 89) #[] #[.pointer (some ⟨bD,0,none⟩),.pointer (some ⟨bT,0,none⟩),.pointer (some ⟨bO,0,none⟩),.pointer (some ⟨bF,0,none⟩),.pointer (some ⟨bM,0,none⟩)]],some (159,1,1)),(bO,[.slice (some ⟨g,0,none⟩) m m],some (84,1,1)),(bT,[.slice AT m cT],some (89,1,1)),(bM,[.int .i64 (mm:Nat)],some (3,1,1)),(bD,[.int .i64 d.most,.int .i64 d.rest,.int .i64 d.win,.int .i64 d.sum],some (80,4,1))]) hw1 hr) ⟨hw1.cellAt (by (repeat (first|exact P0|apply P1|apply PA))) rfl,hw1.cellAt (by (repeat (first|exact P0|apply P1|apply PA))) rfl,hw1.cellAt (by (repeat (first|exact P0|apply P1|apply PA))) rfl,hw1.cellAt (by (repeat (first|exact P0|apply P1|apply PA))) rfl,hw1.cellAt (by (repeat (first|exact P0|apply P1|apply PA))) rfl,hw1.cellAt (by (repeat (first|exact P0|apply P1|apply PA))) rfl,hw1.cellAt (by (repeat (first|exact P0|apply P1|apply PA))) rfl,hw1.cellAt (by (repeat (first|exact P0|apply P1|apply PA))) rfl,hrT.ext hw1.ext.ext,Has.off2 (X:=[(bF,[.func (.func 89) #[] #[.pointer (some ⟨bD,0,none⟩),.pointer (some ⟨bT,0,none⟩),.pointer (some ⟨bO,0,none⟩),.pointer (some ⟨bF,0,none⟩),.pointer (some ⟨bM,0,none⟩)]],some (159,1,1)),(bO,[.slice (some ⟨g,0,none⟩) m m],some (84,1,1)),(bT,[.slice AT m cT],some (89,1,1)),(bM,[.int .i64 (mm:Nat)],some (3,1,1)),(bD,[.int .i64 d.most,.int .i64 d.rest,.int .i64 d.win,.int .i64 d.sum],some (80,4,1))]) hw1 (by simp),Has.off2 (X:=[(bF,[.func (.func 89) #[] #[.pointer (some ⟨bD,0,none⟩),.pointer (some ⟨bT,0,none⟩),.pointer (some ⟨bO,0,none⟩),.pointer (some ⟨bF,0,none⟩),.pointer (some ⟨bM,0,none⟩)]],some (159,1,1)),(bO,[.slice (some ⟨g,0,none⟩) m m],some (84,1,1)),(bT,[.slice AT m cT],some (89,1,1)),(bM,[.int .i64 (mm:Nat)],some (3,1,1)),(bD,[.int .i64 d.most,.int .i64 d.rest,.int .i64 d.win,.int .i64 d.sum],some (80,4,1))]) hw1 (by simp),Has.off2 (X:=[(bF,[.func (.func 89) #[] #[.pointer (some ⟨bD,0,none⟩),.pointer (some ⟨bT,0,none⟩),.pointer (some ⟨bO,0,none⟩),.pointer (some ⟨bF,0,none⟩),.pointer (some ⟨bM,0,none⟩)]],some (159,1,1)),(bO,[.slice (some ⟨g,0,none⟩) m m],some (84,1,1)),(bT,[.slice AT m cT],some (89,1,1)),(bM,[.int .i64 (mm:Nat)],some (3,1,1)),(bD,[.int .i64 d.most,.int .i64 d.rest,.int .i64 d.win,.int .i64 d.sum],some (80,4,1))]) hw1 (by simp),Has.off2 (X:=[(bF,[.func (.func 89) #[] #[.pointer (some ⟨bD,0,none⟩),.pointer (some ⟨bT,0,none⟩),.pointer (some ⟨bO,0,none⟩),.pointer (some ⟨bF,0,none⟩),.pointer (some ⟨bM,0,none⟩)]],some (159,1,1)),(bO,[.slice (some ⟨g,0,none⟩) m m],some (84,1,1)),(bT,[.slice AT m cT],some (89,1,1)),(bM,[.int .i64 (mm:Nat)],some (3,1,1)),(bD,[.int .i64 d.most,.int .i64 d.rest,.int .i64 d.win,.int .i64 d.sum],some (80,4,1))]) hw1 (by simp),Has.off2 (X:=[(bF,[.func (.func 89) #[] #[.pointer (some ⟨bD,0,none⟩),.pointer (some ⟨bT,0,none⟩),.pointer (some ⟨bO,0,none⟩),.pointer (some ⟨bF,0,none⟩),.pointer (some ⟨bM,0,none⟩)]],some (159,1,1)),(bO,[.slice (some ⟨g,0,none⟩) m m],some (84,1,1)),(bT,[.slice AT m cT],some (89,1,1)),(bM,[.int .i64 (mm:Nat)],some (3,1,1)),(bD,[.int .i64 d.most,.int .i64 d.rest,.int .i64 d.win,.int .i64 d.sum],some (80,4,1))]) hw1 (by simp),old_off (X:=[(bF,[.func (.func 89) #[] #[.pointer (some ⟨bD,0,none⟩),.pointer (some ⟨bT,0,none⟩),.pointer (some ⟨bO,0,none⟩),.pointer (some ⟨bF,0,none⟩),.pointer (some ⟨bM,0,none⟩)]],some (159,1,1)),(bO,[.slice (some ⟨g,0,none⟩) m m],some (84,1,1)),(bT,[.slice AT m cT],some (89,1,1)),(bM,[.int .i64 (mm:Nat)],some (3,1,1)),(bD,[.int .i64 d.most,.int .i64 d.rest,.int .i64 d.win,.int .i64 d.sum],some (80,4,1))]) hw1 hrT⟩ hw2;rintro v H1 ⟨R5,hok5,rfl,hcs5,rfl⟩;(simp only [Option.isSome_some,Option.isSome_none]))|((with_reducible apply u_q);(iterate 4 exact rfl)))|((with_reducible apply rd_id);first|(apply Rd.own;(repeat (first|exact P0|apply P1|apply PA));exact rfl;done))|((with_reducible apply t_id);first|(with_reducible apply t_seq)|(apply t_region;kernel_rfl)|((with_reducible apply t_condF);exact rfl)|(with_reducible apply t_ret)|(with_reducible apply t_skip))|with_reducible apply q_thenN|(with_reducible apply end_ret)|exact rvs_nil|(with_reducible apply rvs_cons)|((with_reducible apply rv_tmp);exact rfl))
   all_goals (refine ⟨outH g m R5,.inr ⟨hE,g,R5,hok5,?_,?_,?_⟩,hp_left⟩)
   · rw [hL,hcs5];rfl
   · rw [hL,hrl];rfl
   · rw [hL,hrl]
end Go.Proofs.Ytcjkndjjbjoehaa
namespace Go.Proofs.Ytcjkndjjbjoehaa
def shR (x:Tr) (r:List Int):List Sh:=r.map fun p=>⟨p,x.fr,x.to⟩
def addF:List Tr→List (List Int)→List Sh
 | x::ts,r::rs=>shR x r++addF ts rs
 | _,_=>[]
def rwOk (mem:Nat) (r:List Int):Prop:=r.Pairwise (· < ·)∧∀ p∈r,0≤p∧p<mem
def Mand (d:Du) (mem:Nat):List Tr→List Int→List Sh→List (List Int)→Prop
 | [],_,l,[]=>okB d l=true
 | x::ts,cur,l,r::rs=>∃ e,r=cur++e∧(r.length:Int)=x.crew∧rwOk mem r∧Mand d mem ts [] (l++shR x e) rs
 | _,_,_,_=>False
theorem tryF_mand {d:Du} {mem:Nat}:∀ {f:Nat} {ts:List Tr} {cur:List Int} {who:Nat} {l:List Sh} {R:List (List Int)},tryF d mem f ts cur who l=some R→rwOk mem cur→(∀ p∈cur,p<who)→Mand d mem ts cur l R
 | 0,ts,cur,who,l,R,h,_,_=>by unfold tryF at h;cases h
 | f+1,ts,cur,who,l,R,h,hc,hw=>by
   cases ho:okB d l with
   | false=>rw [tryF_bad ho] at h;cases h
   | true=>
     cases ts with
     | nil=>rw [tryF_end ho] at h;cases h;exact ho
     | cons x ts=>
       by_cases hx:(cur.length:Int)=x.crew
       · rw [tryF_full ho hx] at h
         obtain ⟨R',h1,rfl⟩:=Option.map_eq_some_iff.1 h
         have:=tryF_mand h1 ⟨List.Pairwise.nil,fun p hp=>by cases hp⟩ (fun p hp=>by cases hp)
         exact ⟨[],by simp,hx,hc,by simpa [shR] using this⟩
       · rw [tryF_loop ho hx] at h
         obtain ⟨k,hk,h1⟩:=List.exists_of_findSome?_eq_some h
         have hk':=List.mem_range'_1.1 hk
         have:=tryF_mand h1 ⟨List.pairwise_append.2 ⟨hc.1,List.pairwise_singleton ..,fun a ha b hb=>by
             have:=hw a ha
             simp only [List.mem_singleton] at hb
             omega⟩,fun p hp=>by
           rcases List.mem_append.1 hp with hp|hp
           · exact hc.2 p hp
           · simp only [List.mem_singleton] at hp;omega⟩ (fun p hp=>by
           rcases List.mem_append.1 hp with hp|hp
           · have:=hw p hp;omega
           · simp only [List.mem_singleton] at hp;omega)
         cases R with
         | nil=>exact this.elim
         | cons r R=>
           obtain ⟨e,he,h2,h3,h4⟩:=this
           refine ⟨(k:Int)::e,by rw [he];simp,h2,h3,?_⟩
           have hs:l++shR x ((k:Int)::e)=l++[⟨(k:Int),x.fr,x.to⟩]++shR x e:=by simp [shR]
           rw [hs];exact h4
theorem Mand.at {d:Du} {mem:Nat}:∀ {ts:List Tr} {l:List Sh} {R:List (List Int)},Mand d mem ts [] l R→R.length=ts.length∧(∀ (i:Nat) x r,ts[i]?=some x→R[i]?=some r→(r.length:Int)=x.crew∧rwOk mem r)∧okB d (l++addF ts R)=true
 | [],l,[],h=>⟨rfl,fun i x r hx=>by simp at hx,by have h':okB d l=true:=h;simpa [addF] using h'⟩
 | x::ts,l,r::R,⟨e,he,h1,h2,h3⟩=>by
   obtain ⟨k1,k2,k3⟩:=h3.at
   simp only [List.nil_append] at he
   subst he
   refine ⟨by simp [k1],fun i y q hy hq=>?_,by simpa [addF] using k3⟩
   cases i with
   | zero=>simp only [List.getElem?_cons_zero,Option.some.injEq] at hy hq;subst hy;subst hq;exact ⟨h1,h2⟩
   | succ i=>simp only [List.getElem?_cons_succ] at hy hq;exact k2 i y q hy hq
 | [],l,r::R,h=>h.elim
 | x::ts,l,[],h=>h.elim
theorem asgE_ok {d:Du} {l:List Sh} {mem:Int} {ts:List Tr} (h:asgE d l mem ts=0):tiE d l=0∧(0≤mem∧mem≤6)∧ts.length≤4∧(∀ x∈ts,trOk x)∧asgN d l mem ts=some (asgL d l mem ts):=by
 have h':=h
 unfold asgE at h
 by_cases h0:tiE d l=0
 · rw [if_pos h0] at h
   by_cases h1:0≤mem∧mem≤6
   · rw [if_pos h1] at h
     by_cases h2:4<ts.length
     · rw [if_pos h2] at h;omega
     · rw [if_neg h2] at h
       by_cases h3:0≤oddI ts
       · rw [if_pos h3] at h;omega
       · rw [if_neg h3] at h
         cases hN:asgN d l mem ts with
         | none=>rw [hN] at h;simp at h
         | some N=>exact ⟨h0,h1,by omega,oddI_neg.1 (by omega),by unfold asgL;rw [if_pos h',hN];rfl⟩
   · rw [if_neg h1] at h;omega
 · rw [if_neg h0] at h;exact absurd h h0
theorem shR_len (x:Tr) (r:List Int):(shR x r).length=r.length:=by unfold shR;simp
open Go.RowKit
structure Sht (y y':Sh):Prop where
 who:y'.who=y.who
 fr:y'.fr=y.fr
 lo:y.fr<y'.to
 hi:y'.to≤y.to
def ShtL (l l':List Sh):Prop:=l.length=l'.length∧∀ (i:Nat) y y',l[i]?=some y→l'[i]?=some y'→Sht y y'
section
variable {l l':List Sh}
theorem ShtL.of (h:ShtL l l') {i:Nat} {y':Sh} (hy:l'[i]?=some y'):∃ y,l[i]?=some y∧Sht y y':=by
 obtain ⟨hi,_⟩:=List.getElem?_eq_some_iff.1 hy
 have e:l[i]?=some (l[i]'(by rw [h.1];exact hi)):=List.getElem?_eq_getElem _
 exact ⟨_,e,h.2 i _ _ e hy⟩
theorem ShtL.tail {a b:Sh} (h:ShtL (a::l) (b::l')):Sht a b∧ShtL l l':=
 ⟨h.2 0 a b rfl rfl,by simpa using h.1,fun i y y' h1 h2=>h.2 (i+1) y y' (by simpa using h1) (by simpa using h2)⟩
theorem Sht.min {y y':Sh} (h:Sht y y') (who a b:Int):minS who a b y'≤minS who a b y:=by
 obtain ⟨h1,h2,h3,h4⟩:=h
 unfold minS
 rw [h1,h2]
 split<;>omega
theorem ShtL.work:∀ {l l':List Sh},ShtL l l'→∀ who a b,workV l' who a b≤workV l who a b
 | [],[],_,_,_,_=>Int.le_refl _
 | [],_::_,h,_,_,_=>absurd h.1 (by simp)
 | _::_,[],h,_,_,_=>absurd h.1 (by simp)
 | x::l,y::l',h,who,a,b=>by
   obtain ⟨h1,h2⟩:=h.tail
   rw [work_cons,work_cons]
   have:=h1.min who a b
   have:=h2.work who a b
   omega
theorem ShtL.ros (h:ShtL l l') (hr:Ros l):Ros l':=by
 refine ⟨fun x' hx=>?_,?_⟩
 · obtain ⟨i,hi⟩:=List.getElem?_of_mem hx
   obtain ⟨x,e,h1,h2,h3,h4⟩:=h.of hi
   have:=hr.1 x (List.mem_of_getElem? e)
   unfold shOk at this ⊢
   omega
 · rw [List.pairwise_iff_getElem]
   intro i j hi hj hij hlap
   obtain ⟨x,e,h1,h2,h3,h4⟩:=h.of (List.getElem?_eq_getElem hi)
   obtain ⟨y,e',k1,k2,k3,k4⟩:=h.of (List.getElem?_eq_getElem hj)
   obtain ⟨hi',f1⟩:=List.getElem?_eq_some_iff.1 e
   obtain ⟨hj',f2⟩:=List.getElem?_eq_some_iff.1 e'
   refine List.pairwise_iff_getElem.1 hr.2 i j hi' hj' hij ?_
   rw [f1,f2]
   unfold lap at hlap ⊢
   omega
theorem ShtL.cas {d:Du} (h:ShtL l l') (hr:Ros l) {y:Ti} (hc:Cas d l' y):Cas d l y:=by
 obtain ⟨x',hx,e1,e2,hk⟩:=hc
 obtain ⟨i,hi⟩:=List.getElem?_of_mem hx
 obtain ⟨x,ex,h1,h2,h3,h4⟩:=h.of hi
 refine ⟨x,List.mem_of_getElem? ex,by omega,by omega,?_⟩
 rcases hk with ⟨k,hk⟩|⟨k,p',hp,g1,g2,g3⟩|⟨k,hk⟩
 · exact .inl ⟨k,by omega⟩
 · obtain ⟨j,hj⟩:=List.getElem?_of_mem hp
   obtain ⟨p,ep,k1,k2,k3,k4⟩:=h.of hj
   refine .inr (.inl ⟨k,p,List.mem_of_getElem? ep,by omega,?_,by omega⟩)
   obtain ⟨hi',f1⟩:=List.getElem?_eq_some_iff.1 ex
   obtain ⟨hj',f2⟩:=List.getElem?_eq_some_iff.1 ep
   have hx1:=hr.1 x (List.mem_of_getElem? ex)
   unfold shOk at hx1
   rcases Nat.lt_trichotomy i j with hij|hij|hij
   · have:=List.pairwise_iff_getElem.1 hr.2 i j hi' hj' hij
     rw [f1,f2] at this
     unfold lap at this
     omega
   · subst hij
     rw [f1] at f2
     subst f2
     omega
   · have:=List.pairwise_iff_getElem.1 hr.2 j i hj' hi' hij
     rw [f1,f2] at this
     unfold lap at this
     omega
 · refine .inr (.inr ⟨k,?_⟩)
   have:=h.work x'.who x'.fr (x'.fr+d.win)
   rw [h1,h2] at this hk
   omega
theorem ShtL.okB {d:Du} (h:ShtL l l') (hk:okB d l=true):okB d l'=true:=by
 unfold Go.Proofs.Ytcjkndjjbjoehaa.okB at hk ⊢
 simp only [Bool.and_eq_true,decide_eq_true_eq,List.isEmpty_iff] at hk ⊢
 refine ⟨h.ros hk.1,?_⟩
 cases ht:tiV d l' with
 | nil=>rfl
 | cons y t=>
   have h1:y∈tiV d l':=by rw [ht];exact List.mem_cons_self
   have h2:=(mem_tiV hk.1).2 (h.cas hk.1 ((mem_tiV (h.ros hk.1)).1 h1))
   rw [hk.2] at h2;cases h2
end
theorem sht_refl {y:Sh} (h:shOk y):Sht y y:=⟨rfl,rfl,h.2.2.1,Int.le_refl _⟩
theorem sht_team {l:List Sh} {x:Tr} {r:List Int} {t:Int} (hr:Ros (l++shR x r)) (h1:x.fr<t) (h2:t≤x.to):ShtL (l++shR x r) (l++shR ⟨x.fr,t,x.crew⟩ r):=by
 refine ⟨by simp [shR],fun i y y' e e'=>?_⟩
 by_cases hi:i<l.length
 · rw [List.getElem?_append_left hi] at e e'
   rw [e] at e'
   obtain rfl:=Option.some.inj e'
   exact sht_refl (hr.1 y (List.mem_append_left _ (List.mem_of_getElem? e)))
 · rw [List.getElem?_append_right (by omega)] at e e'
   unfold shR at e e'
   rw [List.getElem?_map] at e e'
   cases hp:r[i-l.length]? with
   | none=>rw [hp] at e;cases e
   | some p=>
     rw [hp] at e e'
     obtain rfl:=Option.some.inj e
     obtain rfl:=Option.some.inj e'
     exact ⟨rfl,rfl,h1,h2⟩
theorem man_law {d:Du} {l:List Sh} {mem:Int} {x:Tr} {t:Int} (hl:l.length≤36) (h:asgE d l mem [x]=0) (h1:x.fr<t) (h2:t≤x.to):∃ r,asgL d l mem [x]=[r]∧(r.length:Int)=x.crew∧r.length≤2∧tiE d (l++shR ⟨x.fr,t,x.crew⟩ r)=0∧tiL d (l++shR ⟨x.fr,t,x.crew⟩ r)=[]:=by
 obtain ⟨h0,h3,_,h4,h5⟩:=asgE_ok h
 unfold asgN at h5
 obtain ⟨a1,a2,a3⟩:=(tryF_mand h5 ⟨List.Pairwise.nil,fun p hp=>by cases hp⟩ (fun p hp=>by cases hp)).at
 obtain ⟨r,hr⟩:∃ r,asgL d l mem [x]=[r]:=by
   match hL:asgL d l mem [x] with
   | []=>rw [hL] at a1;cases a1
   | [r]=>exact ⟨r,rfl⟩
   | _::_::_=>rw [hL] at a1;simp at a1
 obtain ⟨b1,_⟩:=a2 0 x r rfl (by rw [hr];rfl)
 have hx:=h4 x (List.mem_singleton.2 rfl)
 unfold trOk at hx
 have hr2:r.length≤2:=by omega
 rw [hr] at a3
 have e:addF [x] [r]=shR x r:=by simp [addF]
 rw [e] at a3
 have hro:Ros (l++shR x r):=by
   unfold okB at a3
   simp only [Bool.and_eq_true,decide_eq_true_eq] at a3
   exact a3.1
 have a4:=(sht_team hro h1 h2).okB a3
 unfold okB at a4
 simp only [Bool.and_eq_true,decide_eq_true_eq,List.isEmpty_iff] at a4
 have hlen:(l++shR ⟨x.fr,t,x.crew⟩ r).length≤40:=by rw [List.length_append,shR_len];omega
 have c2:tiE d (l++shR ⟨x.fr,t,x.crew⟩ r)=0:=by
   unfold tiE at h0 ⊢
   by_cases hz:duE d=0
   · rw [if_pos hz]
     unfold rosE
     rw [if_neg (by omega),if_pos a4.1]
   · rw [if_neg hz] at h0;exact absurd h0 hz
 refine ⟨r,hr,b1,hr2,c2,?_⟩
 unfold tiL
 rw [if_pos c2]
 exact a4.2
end Go.Proofs.Ytcjkndjjbjoehaa
namespace Go.Proofs.Ytcjkndjjbjoehaa
open Go.RowKit
attribute [local irreducible] OQ OS OX Rd T TL GX GL AL AI RV wpG SAny Calls
theorem along_val {a b c d dx dy l h q r s:Int} (h1:windE a b c d=0) (h2:wayOk dx dy=true) (hl:alongLo a b c d dx dy=l) (hh:alongHi a b c d dx dy=h) (hq:dx*dx+dy*dy=q) (q0:0<q) (h3:IsSh l q r) (h4:IsSh (-h) q (-s)):alongV a b c d dx dy=(r,s,0):=by
 unfold alongV
 rw [if_pos h1,if_pos h2,hl,hh,hq,h3.val q0,h4.val q0,Int.neg_neg]
theorem rate_val {v al ah cl ch x y r s a b:Int} (hf:¬ v<farR cl ch) (hx:v*v-farR cl ch*farR cl ch=x) (hy:v*v-nearR cl ch*nearR cl ch=y) (hr:IsR x r) (hs:IsR y s) (h1:¬ al+r<1) (ha:al+r=a) (hb:ah+(if s*s=y then s else s+1)=b):rate v al ah cl ch=some (a,b):=by
 unfold rate rtHi
 rw [if_neg hf,hx,hy,hr.rt,hs.rt,if_neg h1,ha,hb]
theorem wrate_val {v up x y:Int} {z:Wn} {a b c d al ah cl ch:Int} {o:Option (Int×Int)} (h0:windV z.l up up=((a,b),(c,d),0)) (h1:alongV a b c d x y=(al,ah,0)) (h2:alongV a b c d (-y) x=(cl,ch,0)) (h3:rate v al ah cl ch=o):wrate v up x y z=o:=by
 unfold wrate
 rw [h0]
 simp only
 rw [h1,h2]
 exact h3
theorem legR_one {v q1 q2 q3 h x y:Int} {bk:Bool} {z:Wn} {r:Int×Int} (hu:¬ q3<upV q1 q2 h) (hr:wrate v (upV q1 q2 h) (turnX bk x) (turnX bk y) z=some r):legR v q1 q2 q3 h x y bk [z]=[r]:=by
 unfold legR
 rw [if_neg hu]
 unfold ratesV
 simp [hr]
theorem len_val {x y r q:Int} (hq:10000*(x*x+y*y)=q) (h:q=r*r) (h0:0≤r) (h1:q≤1000000000000):lenV x y=r:=by
 have hr:IsR q r:=⟨h0,by omega,by subst h;rw [Int.add_mul,Int.mul_add,Int.mul_add];omega⟩
 unfold lenV rootV
 have hq0:0≤q:=by subst h;exact Int.mul_nonneg h0 h0
 have f1:fineS (q,q)=true:=(fineS_iff _).2 ⟨Int.le_refl _,by show _≤q;omega,by show q≤_;omega⟩
 rw [hq,if_pos f1,if_neg (by omega),hr.rt,if_pos h.symm]
def amL:List Lg:=[⟨0,1,100,0,0⟩]
def amG:List Gl:=[⟨0,0,0,0,0,0⟩]
theorem am_a:alongV 0 0 0 0 100 0=(0,0,0):=along_val (l:=0) (h:=0) (q:=10000) (by decide +kernel) (by decide +kernel) (by decide +kernel) (by decide +kernel) (by decide) (by decide) (by unfold IsSh ShP;decide) (by unfold IsSh ShP;decide)
theorem am_b:alongV 0 0 0 0 0 100=(0,0,0):=along_val (l:=0) (h:=0) (q:=10000) (by decide +kernel) (by decide +kernel) (by decide +kernel) (by decide +kernel) (by decide) (by decide) (by unfold IsSh ShP;decide) (by unfold IsSh ShP;decide)
section
variable {z:Wn} (hz:z.l=amG)
include hz
theorem am_leg:legRz 100 0 0 1000 ⟨0,1,100,0,0⟩ false [z]=[(100,100)]:=by
 have h1:windV z.l 0 0=((0,0),(0,0),0):=hz ▸ (by decide +kernel:windV amG 0 0=((0,0),(0,0),0))
 exact legR_one (by decide) (wrate_val h1 am_a am_b (rate_val (x:=10000) (y:=10000) (r:=100) (s:=100) (by decide +kernel) (by decide +kernel) (by decide +kernel) ⟨by decide,by decide,by decide⟩ ⟨by decide,by decide,by decide⟩ (by decide) (by decide) (by decide)))
theorem am_ask:askE 2 amL 100 0 0 1000 0 0 0 [z]=0:=by
 have hw:windB z.l=true:=hz ▸ (by decide +kernel:windB amG=true)
 unfold askE
 rw [if_pos (by decide +kernel),if_pos (by decide +kernel)]
 simp [castE,hw]
theorem am_trk:trkF 2 amL 100 0 0 1000 0 0 0 [z] 0 0=some (1000,1):=by
 have h:=trkF_at (m:=2) (L:=amL) (v:=100) (q1:=0) (q2:=0) (q3:=1000) (q4:=0) (g0:=0) (g1:=0) (C:=[z]) (j:=0) (z:=⟨0,1,100,0,0⟩) (at_:=0) (by decide +kernel) rfl
 have e:trkF 2 amL 100 0 0 1000 0 0 0 [z] 0 0=trkF 2 amL 100 0 0 1000 0 0 0 [z] 0 ((0:Nat):Int):=rfl
 rw [e,h,if_neg (by decide),if_neg (fun h=>h (am_ask hz)),show decide ((1:Int)=0)=false from rfl,am_leg hz,if_neg (by simp),len_val (x:=100) (y:=0) (q:=100000000) (r:=10000) (by decide) (by decide) (by decide) (by decide)]
 decide +kernel
theorem am_las:lasV 2 amL 100 0 0 1000 0 0 0 [z] 0 [0]=(17,true):=by
 have h1:lasS 2 amL 100 0 0 1000 0 0 0 [z] 0 [0] 1=some (1000,1):=by
   rw [lasS_next (k:=0) (sum:=0) (at_:=0) (i:=0) rfl rfl,am_trk hz]
   rfl
 unfold lasV
 rw [show ([0]:List Int).length=1 from rfl,h1]
 decide +kernel
end
def amD:Du:=⟨17,0,100,17⟩
theorem am_e1:asgE amD [] 3 [⟨5,22,2⟩]=0:=by decide +kernel
theorem am_l1:asgL amD [] 3 [⟨5,22,2⟩]=[[0,1]]:=by decide +kernel
theorem am_e2:asgE amD [] 3 [⟨5,23,2⟩]=6:=by decide +kernel
theorem am_l2:asgL amD [] 3 [⟨5,23,2⟩]=[]:=by decide +kernel
theorem rows_own {w0:World} {M:Ms} {H H':Hp} {w:World} {g n k:Nat} {rows:List (List Value)} {tg:Tg} (hl:rows.length=n) (hk:∀ r∈rows,r.length=k) (h:Has w0 M H w) (q:Pick H g rows.flatten tg H'):RdS w k (some ⟨g,0,none⟩) n rows:=Blk.rows (h.blk _ q.mem).2 hl hk
def amW (b:Nat):Wn:=⟨some ⟨b,0,none⟩,1,1,amG⟩
theorem amW_cast {w0:World} {M:Ms} {H H' H'':Hp} {w:World} {b g:Nat} {tg tg':Tg} (h:Has w0 M H w) (p:Pick H b [.slice (some ⟨g,0,none⟩) 1 1] tg H') (q:Pick H g (amG.map glCells).flatten tg' H''):CastR w (some ⟨b,0,none⟩) 1 [amW g]:=
 ⟨rows_own (rows:=[amW g].map wnCells) rfl (by intro r hr;obtain rfl:=List.mem_singleton.1 hr;rfl) h p,fun x hx=>by
   obtain rfl:=List.mem_singleton.1 hx
   exact ⟨rows_own (rows:=amG.map glCells) rfl (by decide +kernel) h q,Nat.le_refl _⟩⟩
end Go.Proofs.Ytcjkndjjbjoehaa
namespace Go.Proofs.Ytcjkndjjbjoehaa
open Go.ChangeShapes Go.WideShapes Go.ChangeAt Go.RowKit
inductive Lf where
 | int (k:IntKind)
 | bool
def LfOk:Lf→Value→Prop
 | .int k,v=>∃ z,v=.int k z∧(Lit.int k z).wf=true
 | .bool,v=>∃ b,v=.bool b
def LfsOk:List Lf→List Value→Prop
 | [],[]=>True
 | k::ks,v::vs=>LfOk k v∧LfsOk ks vs
 | _,_=>False
theorem LfsOk.len:∀ {ks:List Lf} {vs:List Value},LfsOk ks vs→vs.length=ks.length
 | [],[],_=>rfl
 | k::ks,v::vs,h=>by simp [LfsOk.len h.2]
 | [],_::_,h=>h.elim
 | _::_,[],h=>h.elim
theorem LfsOk.nil {vs:List Value} (h:LfsOk [] vs):vs=[]:=by cases vs with|nil=>rfl|cons _ _=>exact h.elim
theorem LfsOk.int {k:IntKind} {ks:List Lf} {vs:List Value} (h:LfsOk (.int k::ks) vs):∃ z us,vs=.int k z::us∧(Lit.int k z).wf=true∧LfsOk ks us:=by
 cases vs with
 | nil=>exact h.elim
 | cons v vs=>obtain ⟨⟨z,rfl,hw⟩,h2⟩:=h;exact ⟨z,vs,rfl,hw,h2⟩
theorem LfsOk.bool {ks:List Lf} {vs:List Value} (h:LfsOk (.bool::ks) vs):∃ b us,vs=.bool b::us∧LfsOk ks us:=by
 cases vs with
 | nil=>exact h.elim
 | cons v vs=>obtain ⟨⟨z,rfl⟩,h2⟩:=h;exact ⟨z,vs,rfl,h2⟩
theorem LfsOk.append:∀ {ks ls:List Lf} {vs us:List Value},LfsOk ks vs→LfsOk ls us→LfsOk (ks++ls) (vs++us)
 | [],_,[],_,_,h=>h
 | _::_,_,_::_,_,h,k=>⟨h.1,LfsOk.append h.2 k⟩
 | [],_,_::_,_,h,_=>h.elim
 | _::_,_,[],_,h,_=>h.elim
def ksFs (P:Program) (rec_:TypeId→Option (List Lf)):List Field→Nat→Option (List Lf)
 | [],_=>some []
 | f::fs,o=>match Nat.beq f.offset o,rec_ f.type,ksFs P rec_ fs (o+P.cellsOf f.type) with
   | true,some ks,some ls=>match Nat.beq (P.cellsOf f.type) ks.length with
     | true=>some (ks++ls)
     | false=>none
   | _,_,_=>none
def ksOf (P:Program):Nat→TypeId→Option (List Lf)
 | 0,_=>none
 | n+1,t=>match P.underlying t with
   | some (.int k)=>some [.int k]
   | some .bool=>some [.bool]
   | some (.struct fs)=>match ksFs P (ksOf P n) fs.toList 0 with
     | some ks=>match Nat.beq (P.cellsOf t) ks.length with
       | true=>some ks
       | false=>none
     | none=>none
   | _=>none
section
variable {H:Type} {enc:TypeId×Value→H} {P:Program} {W:World} {base:Nat} {spare:Nat→Bool} {held:Bool}
theorem ksFs_ok {rec_:TypeId→Option (List Lf)} {m:Nat} (hr:∀ {t:TypeId} {ks:List Lf} {cs:List Value} {x:DataW H×List MemPlace},rec_ t=some ks→DataW.trod enc P W base spare held m t cs=some x→LfsOk ks cs) {cs:List Value} :
   ∀ {fs:List Field} {o:Nat} {ks:List Lf},ksFs P rec_ fs o=some ks→(∀ f∈fs,∃ y,DataW.trod enc P W base spare held m f.type ((cs.drop f.offset).take (P.cellsOf f.type))=some y)→o+ks.length≤cs.length→LfsOk ks ((cs.drop o).take ks.length)
 | [],o,ks,h,_,_=>by
   obtain rfl:=Option.some.inj h
   simp [LfsOk]
 | f::fs,o,ks,h,hy,hl=>by
   unfold ksFs at h
   split at h
   · rename_i k1 l1 h1 h2 h3
     split at h
     · rename_i h4
       obtain rfl:=Option.some.inj h
       have ho:=Nat.eq_of_beq_eq_true h1
       have hc:=Nat.eq_of_beq_eq_true h4
       obtain ⟨y,hy0⟩:=hy f (List.mem_cons_self ..)
       rw [ho,hc] at hy0
       have a1:=hr h2 hy0
       rw [hc] at h3
       simp only [List.length_append] at hl
       have a2:=ksFs_ok hr h3 (fun g hg=>hy g (List.mem_cons_of_mem _ hg)) (by omega)
       have e:(cs.drop o).take (k1++l1).length=(cs.drop o).take k1.length++(cs.drop (o+k1.length)).take l1.length:=by
         rw [List.length_append,List.take_add,List.drop_drop]
       rw [e]
       exact a1.append a2
     · cases h
   · cases h
theorem ksOf_ok:∀ {n:Nat} {t:TypeId} {ks:List Lf} {m:Nat} {cs:List Value} {x:DataW H×List MemPlace},ksOf P n t=some ks→DataW.trod enc P W base spare held m t cs=some x→LfsOk ks cs
 | 0,_,_,_,_,_,h,_=>by cases h
 | n+1,t,ks,m,cs,x,h,hx=>by
   unfold ksOf at h
   split at h
   · rename_i k hu
     obtain rfl:=Option.some.inj h
     obtain ⟨z,rfl,_,hw⟩:=DataW.trod_int hu hx
     exact ⟨⟨z,rfl,hw⟩,trivial⟩
   · rename_i hu
     obtain rfl:=Option.some.inj h
     obtain ⟨b,rfl,_⟩:=DataW.trod_bool hu hx
     exact ⟨⟨b,rfl⟩,trivial⟩
   · rename_i fs hu
     split at h
     · rename_i ks' hk
       split at h
       · rename_i hc
         obtain rfl:=Option.some.inj h
         have hc:=Nat.eq_of_beq_eq_true hc
         obtain ⟨xs,k,_,_,hl,hlen,hf⟩:=DataW.trod_struct hu hx
         have:=ksFs_ok (m:=k) (cs:=cs) (fun h1 h2=>ksOf_ok h1 h2) hk (fun f hfm=>by
           obtain ⟨i,hi,hif⟩:=List.getElem_of_mem hfm
           have hi':i<fs.size:=by simpa using hi
           have e:=hf i f (by rw [Array.getElem?_eq_getElem hi'];simpa using hif)
           rw [List.getElem?_eq_getElem (by omega)] at e
           exact ⟨_,e⟩) (by omega)
         rw [List.drop_zero,List.take_of_length_le (by omega)] at this
         exact this
       · cases h
     · cases h
   · cases h
theorem open_struct {r:Reach} {b0:Nat} {t:TypeId} {fs:Array Field} {n:Nat} {ks:List Lf} {v:Value} {d:DataW H} {p:List MemPlace} (hs:P.underlying t=some (.struct fs)) (hk:ksOf P n t=some ks)
   (hv:Value.okWide P W r b0 t v) (h:DataW.Trod enc P W base spare held t v d p):∃ cs,v=.agg ⟨cs⟩∧LfsOk ks cs:=by
 obtain ⟨cs,rfl,_⟩:=okWide_struct hs hv
 obtain ⟨fuel,hf⟩:=h
 obtain ⟨cs⟩:=cs
 exact ⟨cs,rfl,ksOf_ok hk hf⟩
theorem open_rows {r:Reach} {b0:Nat} {t e:TypeId} {n:Nat} {ks:List Lf} {v:Value} {d:DataW H} {p:List MemPlace} (hs:P.underlying t=some (.slice e)) (hk:ksOf P n e=some ks) (hc:P.cellsOf e=ks.length) (hpos:0<ks.length)
   (hv:Value.okWide P W r b0 t v) (h:DataW.Trod enc P W 0 (fun _=>true) held t v d p) :
   ∃ (A:Option Addr) (m c:Nat) (rows:List (List Value)),v=.slice A m c∧RdS W ks.length A m rows∧∀ x∈rows,LfsOk ks x:=by
 obtain ⟨A,m,c,rfl⟩:=okWide_slice hs hv
 obtain ⟨fuel,hf⟩:=h
 refine ⟨A,m,c,?_⟩
 rcases Go.Deep.open_slice hs hf with ⟨h1,_⟩|⟨a,len,cap,m',k,D,Pl,h1,_,hlc,_,hm,_,hi⟩
 · simp only [Value.cells,List.cons.injEq,Value.slice.injEq,and_true] at h1
   obtain ⟨rfl,rfl,rfl⟩:=h1
   exact ⟨[],rfl,RdS.nil _ _ _,fun x hx=>(List.not_mem_nil hx).elim⟩
 · simp only [Value.cells,List.cons.injEq,Value.slice.injEq,and_true] at h1
   obtain ⟨rfl,rfl,rfl⟩:=h1
   simp only [if_true] at hm
   subst hm
   rw [hc] at hi
   have key:∀ i,i<m→∃ y:List Value,LfsOk ks y∧∀ j u,y[j]?=some u→W.cell? ((a.add (i*ks.length)).add j)=some u:=fun i hin=>by
     obtain ⟨cs,hc,ht⟩:=hi i (by omega)
     obtain ⟨_,hlc,hat⟩:=World.cells?_some hc
     exact ⟨cs,ksOf_ok hk ht,fun j u hu=>by rw [hat j (by rw [← hlc];exact (List.getElem?_eq_some_iff.1 hu).1)];exact hu⟩
   let f:Nat→List Value:=fun i=>if h:i<m then Classical.choose (key i h) else []
   have hfk:∀ i,i<m→LfsOk ks (f i)∧∀ j u,(f i)[j]?=some u→W.cell? ((a.add (i*ks.length)).add j)=some u:=fun i hin=>by
     simp only [f,dif_pos hin]
     exact Classical.choose_spec (key i hin)
   have hmem:∀ x∈(List.range m).map f,LfsOk ks x:=fun x hx=>by
     obtain ⟨i,hi,rfl⟩:=List.mem_map.1 hx
     exact (hfk i (List.mem_range.1 hi)).1
   refine ⟨(List.range m).map f,rfl,⟨by simp,fun h0=>?_⟩,hmem⟩
   have l0:=(hfk 0 h0).1.len
   have c0:=(hfk 0 h0).2 0 _ (List.getElem?_eq_getElem (by omega))
   obtain ⟨b,o,sp⟩:=a
   have hsp:sp=none:=by simpa [Addr.add] using World.cell?_spot c0
   subst hsp
   refine ⟨b,o,rfl,by simpa [Addr.add] using cell_lt c0,fun i x hx=>⟨(hmem x (List.mem_of_getElem? hx)).len,fun j u hu=>?_⟩⟩
   rw [List.getElem?_map,Option.map_eq_some_iff] at hx
   obtain ⟨i',h2,rfl⟩:=hx
   obtain ⟨h3,h4⟩:=List.getElem?_eq_some_iff.1 h2
   simp only [List.getElem_range,List.length_range] at h3 h4
   subst h4
   have:=(hfk i h3).2 j u hu
   rw [add_eq,add_eq] at this
   exact this
end
theorem rows_ofP {α:Type} {f:α→List Value} {p:α→Prop}:∀ {rows:List (List Value)},(∀ x∈rows,∃ y,x=f y∧p y)→∃ l:List α,rows=l.map f∧∀ y∈l,p y
 | [],_=>⟨[],rfl,fun y hy=>(List.not_mem_nil hy).elim⟩
 | x::rows,h=>by
   obtain ⟨y,rfl,hy⟩:=h x (List.mem_cons_self ..)
   obtain ⟨l,rfl,hl⟩:=rows_ofP (fun z hz=>h z (List.mem_cons_of_mem _ hz))
   exact ⟨y::l,rfl,fun z hz=>by rcases List.mem_cons.1 hz with rfl|hz;exact hy;exact hl z hz⟩
end Go.Proofs.Ytcjkndjjbjoehaa
namespace Go.Proofs.Ytcjkndjjbjoehaa
open Go.RowKit
attribute [local irreducible] OQ OS OX Rd T TL GX GL AL AI RV wpG SAny Calls
theorem asgV_err {E:Int} {L:List (List Int)} {v:Value} {H:Hp} (h:E≠0) (hV:AsgV E L v H):v=.tuple #[.slice none 0 0,.int .i64 E]∧H=[]:=by
 rcases hV with ⟨_,h1,h2⟩|⟨h1,_⟩
 · exact ⟨h1,h2⟩
 · exact absurd h1 h
theorem asgV_ok {E:Int} {L:List (List Int)} {v:Value} {H:Hp} (h:E=0) (hV:AsgV E L v H):∃ g R,((∀ r∈R,LrOk r)∧R.map Prod.fst=L)∧v=.tuple #[.slice (some ⟨g,0,none⟩) L.length L.length,.int .i64 0]∧H=outH g L.length R:=by
 rcases hV with ⟨h1,_⟩|⟨_,g,R,a,b,c,e⟩
 · exact absurd h h1
 · exact ⟨g,R,⟨a,b⟩,c,e⟩
end Go.Proofs.Ytcjkndjjbjoehaa
