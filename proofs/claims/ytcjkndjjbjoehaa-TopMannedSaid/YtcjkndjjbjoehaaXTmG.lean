/- A part of the proof: rules for walks, and contracts of functions (7). -/
import Derived.Test.YtcjkndjjbjoehaaXTmF
import Derived.Test.YtcjkndjjbjoehaaXTmC
import Derived.Test.YtcjkndjjbjoehaaXTmB
import Derived.LoopN
set_option linter.unusedVariables false
set_option linter.unusedSimpArgs false
set_option maxRecDepth 100000
set_option maxHeartbeats 2000000
namespace Go.Proofs.Ytcjkndjjbjoehaa
open Go.RowKit
attribute [local irreducible] OQ OS OX Rd T TL GX GL AL AI RV wpG SAny Calls
theorem one_rows {w0:World} {M:Ms} {H H':Hp} {w:World} {g:Nat} {z:Int} {tg:Tg} (h:Has w0 M H w) (q:Pick H g [.int .i64 z] tg H'):RdS w 1 (some ⟨g,0,none⟩) 1 ([z].map inCells):=
 Blk.rows (h.blk _ q.mem).2 rfl (by simp [inCells])
theorem fromOneK {w0:World} {M:Ms} {H H':Hp} {w:World} {g:Nat} {lo hi z:Int} {tg:Tg} {cp:Nat} {q:Bool} (hq:allFromK lo hi [z]=q) (h:Has w0 M H w) (p:Pick H g [.int .i64 z] tg H') :
   Calls Try.prog 87 #[.int .i64 lo,.int .i64 hi,.slice (some ⟨g,0,none⟩) 1 cp] w fun e w'=>e=.returned (.bool q)∧Ext w w':=
 hq ▸ from_callsK lo hi (some ⟨g,0,none⟩) 1 cp [z] w (one_rows h p) (by omega)
def DepsOk (fl:List Dep):Prop:=∀ d∈fl,depOk d=true∧0≤d.state
def BksOk (fl:List Dep) (bk:List Bk):Prop:=∀ x∈bk,0≤x.flight∧x.flight<(fl.length:Int)∧0≤x.kept∧x.kept≤1000000
def u8Cells (z:Int):List Value:=[.int .u8 z]
structure Desk (w:World) (bd:Nat) (o:Off) (A:Option Addr) (cf:Nat) (B:Option Addr) (cb:Nat):Prop where
 now:w.cell? ⟨bd,0,none⟩=some (.int .i64 o.now)
 notice:w.cell? ⟨bd,1,none⟩=some (.int .i64 o.notice)
 fee:w.cell? ⟨bd,2,none⟩=some (.int .i64 o.fee)
 fls:w.cell? ⟨bd,3,none⟩=some (.slice A o.fl.length cf)
 bks:w.cell? ⟨bd,4,none⟩=some (.slice B o.bk.length cb)
 inn:w.cell? ⟨bd,5,none⟩=some (.int .i64 o.inn)
 out:w.cell? ⟨bd,6,none⟩=some (.int .i64 o.out)
 fl:RdS w 4 A o.fl.length (o.fl.map depCells)
 bk:RdS w 3 B o.bk.length (o.bk.map bkCells)
end Go.Proofs.Ytcjkndjjbjoehaa
namespace Go.Proofs.Ytcjkndjjbjoehaa
open Go.RowKit
structure Abide {β:Type} (n0:Nat) (I:β→World→Prop):Prop where
 ext:∀ s A B,I s A→Ext A B→I s B
 put:∀ s A l o o',I s A→n0≤l→A.heap[l]?=some o→o.isCells=false→I s (A.putObj l o')
section
variable {c:Cx} {Q:QS} {F:Fr} {H:Hp} {g:Operand} {ps:Array Tmp} {assign body:Code} {ι κ α β:Type}
def SLV (c:Cx) (k:Code) (R:Fr→Hp→Prop) (F:Fr) (H:Hp):Prop:=(k=.skip∧R F H)∨SL0 c k R F H
structure RangeOkV (c:Cx) (F:Fr) (ns:List Nat) (hk:Hp) (ps:Array Tmp) (assign body:Code) (m:Nat) (encs:α→List Value) (G:List α→α→World→Prop)
   (hp:ι→Hp) (Pi:List α→ι→Prop) (bx:α→β→Hp) (fx:α→β→Fr) (hl:κ→Hp) (Pl:Code→List α→κ→Prop):Prop where
 size:∀ x,(encs x).length=ps.size
 slots:(ps.toList.all fun p=>Nat.blt p c.N)=true
 assign_:∀ (x:α) (W:World),SLV { c with w0:=W,M:=[] } assign (fun F' H'=>∃ bs,FrSub F' (fx x bs)∧HpSub H' (bx x bs)) (parF (ps.toList.zip (encs x)) F) []
 disj:∀ x bs i n W D,Blks n (bx x bs) W→Has c.w0 ⟨c.M,D⟩ (hp i++hk) W→(∀ b∈ns,b<n)→∀ y∈bx x bs,∀ z∈hp i++hk,y.1≠z.1
 body_:∀ (l:Nat) (pre:List α) (x:α) (i:ι) (bs:β) (W:World) (D:List Nat),Pi pre i→Has c.w0 ⟨c.M,D⟩ (bx x bs++hp i++hk) W→G pre x W→(∃ r,W.heap[l]?=some (.loop r)) →
   T { c with w0:=W,M:=(bx x bs++hp i).map Prod.fst } (WS.round c.P l m) body (QB hp Pi hl Pl (pre++[x])) (fx x bs) (bx x bs++hp i)
end
end Go.Proofs.Ytcjkndjjbjoehaa
namespace Go.Proofs.Ytcjkndjjbjoehaa
open Go.RowKit
attribute [local irreducible] OQ OS OX Rd T TL GX GL AL AI RV wpG SAny Calls
structure OfAt (b0 b1 b2 bd:Nat) (B:Option Addr) (nb cb:Nat) (f:Int) (S:Option Addr) (ns cs:Nat) (sts:List Int) (W:World):Prop where
 x0:W.cell? ⟨b0,0,none⟩=some (.pointer (some ⟨bd,0,none⟩))
 x1:W.cell? ⟨b1,0,none⟩=some (.int .i64 f)
 x2:W.cell? ⟨b2,0,none⟩=some (.slice S ns cs)
 st:RdS W 1 S ns (sts.map u8Cells)
 bks:W.cell? ⟨bd,4,none⟩=some (.slice B nb cb)
 bk:∃ bk:List Bk,RdS W 3 B nb (bk.map bkCells)
theorem oq_eqNilT {c:Cx} {F:Fr} {H:Hp} {d:Option Tmp} {ty t t':TypeId} {pos:String} {af:Array Edge} {g:Option (Nat×Bool)} {x y:Operand} {e s0:Nat} {a0:Bool} {z0:List Value} (ht:tyAt c.tys t=some ⟨a0,s0,z0,.slice e⟩)
   (hx:ev F x=some (.slice none 0 0)) (hy:ev F y=some (.slice none 0 0)):OQ c ⟨d,.binOp .eql t x y t',ty,pos,af,g⟩ F H (.bool true):=.of fun D a w ha _=>by
 have hk:=(c.ty ht).kind w
 have e0:(Op.equalIn 10000 t (.slice none 0 0) (.slice none 0 0)).run c.P w=.ok true w:=by
   have key:∀ d:Nat,(Op.equalIn (d+1) t (.slice none 0 0) (.slice none 0 0)).run c.P w=.ok true w:=fun d=>by
     simp only [Op.equalIn,Sem.run_bind,hk,Result.andThen,Sem.run_pure,Option.isNone]
   exact key 9999
 have e:(binOp .eql t (.slice none 0 0) (.slice none 0 0)).run c.P w=.ok (.bool true) w:=by
   simp only [binOp,Op.equal,Op.maxDepth,Sem.run_bind,e0,Result.andThen,Sem.run_pure]
 have e1:(eqGuard .eql t x y (.slice none 0 0) (.slice none 0 0)).run c.P w=.ok () w:=by simp [eqGuard,go_sem]
 simp only [execOp,ha.ev hx,ha.ev hy,Sem.run_bind,e,e1,Result.andThen,Sem.run_pure]
def clA:Option (Nat×Nat)→Option Addr
 | none=>none
 | some (g,_)=>some ⟨g,0,none⟩
def clC:Option (Nat×Nat)→Nat
 | none=>0
 | some (_,c)=>c
def clH (e s:Nat) (C:List Value):Option (Nat×Nat)→Hp
 | none=>[]
 | some (g,c)=>[(g,C,some (e,s,c))]
def CloneV (e s:Nat) (C:List Value) (n:Nat) (v:Value) (H:Hp):Prop:=∃ x,(x=none→n=0)∧v=.slice (clA x) n (clC x)∧H=clH e s C x
end Go.Proofs.Ytcjkndjjbjoehaa
namespace Go.Proofs.Ytcjkndjjbjoehaa
open Go.RowKit
theorem flat_at {α:Type} {f:α→List Value} {s:Nat} (hf:∀ x,(f x).length=s):∀ {l:List α} {i:Nat} {x:α},l[i]?=some x→∀ {j:Nat} {v:Value},(f x)[j]?=some v→((l.map f).flatten)[i*s+j]?=some v
 | [],i,x,h,_,_,_=>by simp at h
 | y::l,0,x,h,j,v,hv=>by
   obtain rfl:y=x:=by simpa using h
   have hj:=(List.getElem?_eq_some_iff.1 hv).1
   rw [List.map_cons,List.flatten_cons,Nat.zero_mul,Nat.zero_add,List.getElem?_append_left hj]
   exact hv
 | y::l,i+1,x,h,j,v,hv=>by
   have h':l[i]?=some x:=by simpa using h
   have:=flat_at hf h' hv
   rw [List.map_cons,List.flatten_cons,List.getElem?_append_right (by rw [hf];rw [Nat.succ_mul];omega),hf]
   rw [show (i+1)*s+j-s=i*s+j by rw [Nat.succ_mul];omega]
   exact this
theorem flat_len {α:Type} {f:α→List Value} {s:Nat} (hf:∀ x,(f x).length=s):∀ (l:List α),((l.map f).flatten).length=l.length*s
 | []=>by simp
 | x::l=>by
   simp only [List.map_cons,List.flatten_cons,List.length_append,hf,flat_len hf l,List.length_cons,Nat.add_mul]
   omega
theorem flat_set {α:Type} {f:α→List Value} {s:Nat} (hf:∀ x,(f x).length=s):∀ {l:List α} {i:Nat} {x y:α},l[i]?=some x→∀ {k:Nat} {v:Value},k<s→f y=(f x).set k v→((l.map f).flatten).set (i*s+k) v=((l.set i y).map f).flatten
 | [],i,x,y,h,k,v,hk,hy=>by simp at h
 | a::l,0,x,y,h,k,v,hk,hy=>by
   obtain rfl:a=x:=by simpa using h
   simp only [List.map_cons,List.flatten_cons,List.set_cons_zero,Nat.zero_mul,Nat.zero_add]
   rw [List.set_append_left _ _ (by rw [hf];exact hk),hy]
 | a::l,i+1,x,y,h,k,v,hk,hy=>by
   have h':l[i]?=some x:=by simpa using h
   simp only [List.map_cons,List.flatten_cons,List.set_cons_succ]
   rw [List.set_append_right _ _ (by rw [hf,Nat.add_mul];omega),hf,show (i+1)*s+k-s=i*s+k by rw [Nat.add_mul];omega,flat_set hf h' hk hy]
section
variable {c:Cx} {F:Fr} {H H':Hp} {K:Value→Hp→Prop} {d:Option Tmp} {ty t:TypeId} {pos:String} {af:Array Edge} {g:Option (Nat×Bool)} {x y:Operand} {v:Value} {a0:Bool} {z0:List Value} {k0:TyK} {b o:Nat} {C C':List Value} {tg:Tg}
end
end Go.Proofs.Ytcjkndjjbjoehaa
namespace Go.Proofs.Ytcjkndjjbjoehaa
open Go.RowKit
attribute [local irreducible] OQ OS OX Rd T TL GX GL AL AI RV wpG SAny Calls
theorem PA {b:Nat} {C:List Value} {g:Tg} {H H':Hp}:∀ {G:Hp},Pick H b C g H'→Pick (G++H) b C g (G++H')
 | [],h=>h
 | x::G,h=>.tail (PA h)
theorem fromTwo {w0:World} {M:Ms} {H H':Hp} {w:World} {g:Nat} {lo hi z1 z2:Int} {tg:Tg} {cp:Nat} {q:Bool} (hq:allFromK lo hi [z1,z2]=q) (h:Has w0 M H w) (p:Pick H g [.int .i64 z1,.int .i64 z2] tg H') :
   Calls Try.prog 87 #[.int .i64 lo,.int .i64 hi,.slice (some ⟨g,0,none⟩) 2 cp] w fun e w'=>e=.returned (.bool q)∧Ext w w':=
 hq ▸ from_callsK lo hi (some ⟨g,0,none⟩) 2 cp [z1,z2] w (Blk.rows (h.blk _ p.mem).2 rfl (by simp only [List.mem_map];rintro r ⟨x,_,rfl⟩;rfl)) (by omega)
end Go.Proofs.Ytcjkndjjbjoehaa
namespace Go.Proofs.Ytcjkndjjbjoehaa
def TR (c:Cx) (n:Nat) (x:Code) (Q:QS) (F:Fr) (H:Hp):Prop:=∀ D a w,Frm D c.N F a→Has c.w0 ⟨c.M,D⟩ H w→Code.rounds c.P x (cv c Q) n a w
section
variable {c:Cx} {Q:QS} {F:Fr} {H:Hp} {x:Code} {n:Nat}
theorem t_rounds (n:Nat) (h:TR c n x Q F H):T c (WS.own c.P) (.loop x) Q F H:=fun D a w ha hw=>wp_loop_rounds n (h D a w ha hw)
theorem tr_succ (h:T c (WS.own c.P) x (thenQ (fun F' H'=>TR c n x Q F' H') Q) F H):TR c (n+1) x Q F H:=fun D a w ha hw=>by
 rw [rounds_succ]
 refine wp_mono (h D a w ha hw) fun e a w ⟨D,F,H,h1,h2,h3⟩=>?_
 cases e<;>first
   | exact ⟨D,F,H,h1,h2,h3⟩
   | exact h1 D a w h2 h3
theorem tr_id (h:TR c n x Q F H):TR c n x Q F H:=h
end
end Go.Proofs.Ytcjkndjjbjoehaa
namespace Go.Proofs.Ytcjkndjjbjoehaa
open Go.RowKit
attribute [local irreducible] TR OQ OS OX Rd T TL GX GL AL AI RV wpG SAny Calls
theorem isNaN_calls (z:Int) (w:World):Calls Try.prog 187 #[.int .i64 z] w fun e w'=>e=.returned (.bool false)∧Ext w w':=by
 refine enterQ (c:=cx w 6) Try.func187 rfl rfl rfl rfl ?_
 repeat' (first|((with_reducible apply oq_id);first|((with_reducible apply oq_neqF);exact rfl;exact rfl;omega)|(apply oq_fn;exact rfl;first|exact trivial|(and_intros<;>omega)|omega|skip))|((with_reducible apply tl_id);first|(with_reducible apply tl_nil)|((with_reducible apply u_q);(iterate 4 exact rfl)))|((with_reducible apply t_id);first|(with_reducible apply t_seq)|(apply t_region;kernel_rfl)|(with_reducible apply t_ret))|with_reducible apply q_thenN|(with_reducible apply end_ret)|exact rvs_nil|(with_reducible apply rvs_cons)|((with_reducible apply rv_tmp);exact rfl))
 all_goals rfl
def ordV (a b:Int):Int:=if a<b then -1 else if b<a then 1 else 0
theorem cmp_calls (a b:Int) (w:World):Calls Try.prog 160 #[.int .i64 a,.int .i64 b] w fun e w'=>e=.returned (.int .i64 (ordV a b))∧Ext w w':=by
 unfold ordV
 by_cases h1:a<b
 · rw [if_pos h1]
   refine enterQ (c:=cx w 20) Try.func160 rfl rfl rfl rfl ?_
   repeat' (first|((with_reducible apply oq_id);first|((with_reducible apply oq_lssT);exact rfl;exact rfl;omega)|(apply oq_fn;exact rfl;first|exact trivial|(and_intros<;>omega)|omega|skip)|((with_reducible apply oq_call (hc:=Try.call187));exact rfl;exact rfl;exact fun D w1 hw1=>isNaN_calls _ w1))|((with_reducible apply tl_id);first|(with_reducible apply tl_nil)|((with_reducible apply u_q);(iterate 4 exact rfl)))|((with_reducible apply t_id);first|(with_reducible apply t_seq)|(apply t_region;kernel_rfl)|((with_reducible apply t_condT);exact rfl)|((with_reducible apply t_condF);exact rfl)|(with_reducible apply t_ret)|(with_reducible apply t_skip))|with_reducible apply q_thenN|with_reducible apply q_thenR|(with_reducible apply end_ret)|exact rvs_nil|(with_reducible apply rvs_cons)|((with_reducible apply rv_tmp);exact rfl))
   all_goals rfl
 · rw [if_neg h1]
   by_cases h2:b<a
   · rw [if_pos h2]
     refine enterQ (c:=cx w 20) Try.func160 rfl rfl rfl rfl ?_
     repeat' (first|((with_reducible apply oq_id);first|((with_reducible apply oq_lssF);exact rfl;exact rfl;omega)|((with_reducible apply oq_gtrT);exact rfl;exact rfl;omega)|(apply oq_fn;exact rfl;first|exact trivial|(and_intros<;>omega)|omega|skip)|((with_reducible apply oq_call (hc:=Try.call187));exact rfl;exact rfl;exact fun D w1 hw1=>isNaN_calls _ w1))|((with_reducible apply tl_id);first|(with_reducible apply tl_nil)|((with_reducible apply u_q);(iterate 4 exact rfl)))|((with_reducible apply t_id);first|(with_reducible apply t_seq)|(apply t_region;kernel_rfl)|((with_reducible apply t_condT);exact rfl)|((with_reducible apply t_condF);exact rfl)|(with_reducible apply t_ret)|(with_reducible apply t_skip))|with_reducible apply q_thenN|with_reducible apply q_thenR|(with_reducible apply end_ret)|exact rvs_nil|(with_reducible apply rvs_cons)|((with_reducible apply rv_tmp);exact rfl))
     all_goals rfl
   · rw [if_neg h2]
     refine enterQ (c:=cx w 20) Try.func160 rfl rfl rfl rfl ?_
     repeat' (first|((with_reducible apply oq_id);first|((with_reducible apply oq_lssF);exact rfl;exact rfl;omega)|((with_reducible apply oq_gtrF);exact rfl;exact rfl;omega)|(apply oq_fn;exact rfl;first|exact trivial|(and_intros<;>omega)|omega|skip)|((with_reducible apply oq_call (hc:=Try.call187));exact rfl;exact rfl;exact fun D w1 hw1=>isNaN_calls _ w1))|((with_reducible apply tl_id);first|(with_reducible apply tl_nil)|((with_reducible apply u_q);(iterate 4 exact rfl)))|((with_reducible apply t_id);first|(with_reducible apply t_seq)|(apply t_region;kernel_rfl)|((with_reducible apply t_condF);exact rfl)|(with_reducible apply t_ret)|(with_reducible apply t_skip))|with_reducible apply q_thenN|(with_reducible apply end_ret)|exact rvs_nil|(with_reducible apply rvs_cons)|((with_reducible apply rv_tmp);exact rfl))
     all_goals rfl
theorem or_calls (a b:Int) (A:Nat) (cp:Nat) (w:World) (c0:w.cell? ⟨A,0,none⟩=some (.int .i64 a)) (c1:w.cell? ⟨A,1,none⟩=some (.int .i64 b)):Calls Try.prog 159 #[.slice (some ⟨A,0,none⟩) 2 cp] w fun e w'=>e=.returned (.int .i64 (if a=0 then b else a))∧Ext w w':=by
 by_cases ha:a=0
 · rw [if_pos ha]
   by_cases hb:b=0
   · subst hb
     refine enterQ (c:=cx w 18) Try.func159 rfl rfl rfl rfl ?_
     repeat' (first|((with_reducible apply oq_id);first|((with_reducible apply oq_lssT);exact rfl;exact rfl;omega)|((with_reducible apply oq_lssF);exact rfl;exact rfl;omega)|((with_reducible apply oq_neqF);exact rfl;exact rfl;omega)|(apply oq_fn;exact rfl;first|exact trivial|(and_intros<;>omega)|omega|skip)|((with_reducible apply oq_load);exact rfl;exact rfl))|((with_reducible apply tl_id);first|(with_reducible apply tl_nil)|((with_reducible apply u_q);(iterate 4 exact rfl)))|((with_reducible apply rd_id);first|(apply Rd.old;(first|(with_reducible assumption)|exact c0|exact c1|exact c2|exact c3|exact c4|exact c5|exact c6|exact c7|exact c8|exact d0|exact d1|exact d2|exact d3|exact d4|exact d5);first|exact List.not_mem_nil|exact m0|exact m1|exact m2|exact m3|exact m4|exact m5|exact m6|exact m7|exact m8|exact m9))|((with_reducible apply t_id);first|(with_reducible apply t_seq)|(apply t_region;kernel_rfl)|((with_reducible apply t_condT);exact rfl)|((with_reducible apply t_condF);exact rfl)|(with_reducible apply t_ret)|(with_reducible apply t_skip)|(with_reducible apply t_exit)|(with_reducible apply t_block)|(apply t_rounds 8))|with_reducible apply q_thenN|with_reducible apply q_blockN|with_reducible apply q_thenE|((with_reducible apply q_blockE);exact rfl)|(with_reducible apply end_ret)|exact rvs_nil|(with_reducible apply rvs_cons)|((with_reducible apply rv_tmp);exact rfl)|((with_reducible apply tr_id);apply tr_succ))
     all_goals rfl
   · refine enterQ (c:=cx w 18) Try.func159 rfl rfl rfl rfl ?_
     repeat' (first|((with_reducible apply oq_id);first|((with_reducible apply oq_lssT);exact rfl;exact rfl;omega)|((with_reducible apply oq_neqT);exact rfl;exact rfl;omega)|((with_reducible apply oq_neqF);exact rfl;exact rfl;omega)|(apply oq_fn;exact rfl;first|exact trivial|(and_intros<;>omega)|omega|skip)|((with_reducible apply oq_load);exact rfl;exact rfl))|((with_reducible apply tl_id);first|(with_reducible apply tl_nil)|((with_reducible apply u_q);(iterate 4 exact rfl)))|((with_reducible apply rd_id);first|(apply Rd.old;(first|(with_reducible assumption)|exact c0|exact c1|exact c2|exact c3|exact c4|exact c5|exact c6|exact c7|exact c8|exact d0|exact d1|exact d2|exact d3|exact d4|exact d5);first|exact List.not_mem_nil|exact m0|exact m1|exact m2|exact m3|exact m4|exact m5|exact m6|exact m7|exact m8|exact m9))|((with_reducible apply t_id);first|(with_reducible apply t_seq)|(apply t_region;kernel_rfl)|((with_reducible apply t_condT);exact rfl)|((with_reducible apply t_condF);exact rfl)|(with_reducible apply t_ret)|(with_reducible apply t_skip)|(with_reducible apply t_block)|(apply t_rounds 8))|with_reducible apply q_thenN|with_reducible apply q_thenR|with_reducible apply q_blockR|with_reducible apply q_blockN|(with_reducible apply end_ret)|exact rvs_nil|(with_reducible apply rvs_cons)|((with_reducible apply rv_tmp);exact rfl)|((with_reducible apply tr_id);apply tr_succ))
     all_goals rfl
 · rw [if_neg ha]
   refine enterQ (c:=cx w 18) Try.func159 rfl rfl rfl rfl ?_
   repeat' (first|((with_reducible apply oq_id);first|((with_reducible apply oq_lssT);exact rfl;exact rfl;omega)|((with_reducible apply oq_neqT);exact rfl;exact rfl;omega)|(apply oq_fn;exact rfl;first|exact trivial|(and_intros<;>omega)|omega|skip)|((with_reducible apply oq_load);exact rfl;exact rfl))|((with_reducible apply tl_id);first|(with_reducible apply tl_nil)|((with_reducible apply u_q);(iterate 4 exact rfl)))|((with_reducible apply rd_id);first|(apply Rd.old;(first|(with_reducible assumption)|exact c0|exact c1|exact c2|exact c3|exact c4|exact c5|exact c6|exact c7|exact c8|exact d0|exact d1|exact d2|exact d3|exact d4|exact d5);first|exact List.not_mem_nil|exact m0|exact m1|exact m2|exact m3|exact m4|exact m5|exact m6|exact m7|exact m8|exact m9))|((with_reducible apply t_id);first|(with_reducible apply t_seq)|(apply t_region;kernel_rfl)|((with_reducible apply t_condT);exact rfl)|(with_reducible apply t_ret)|(with_reducible apply t_skip)|(with_reducible apply t_block)|(apply t_rounds 8))|with_reducible apply q_thenN|with_reducible apply q_thenR|with_reducible apply q_blockR|(with_reducible apply end_ret)|exact rvs_nil|(with_reducible apply rvs_cons)|((with_reducible apply rv_tmp);exact rfl)|((with_reducible apply tr_id);apply tr_succ))
   all_goals rfl
theorem orE_calls (a b:Int) (A:Nat) (cp:Nat) (w:World) (c0:w.cell? ⟨A,0,none⟩=some (.int .i64 a)) (c1:w.cell? ⟨A,1,none⟩=some (.int .i64 b)):Calls Try.prog 83 #[.slice (some ⟨A,0,none⟩) 2 cp] w fun e w'=>e=.returned (.int .i64 (if a=0 then b else a))∧Ext w w':=by
 by_cases ha:a=0
 · rw [if_pos ha]
   by_cases hb:b=0
   · subst hb
     refine enterQ (c:=cx w 18) Try.func83 rfl rfl rfl rfl ?_
     repeat' (first|((with_reducible apply oq_id);first|((with_reducible apply oq_lssT);exact rfl;exact rfl;omega)|((with_reducible apply oq_lssF);exact rfl;exact rfl;omega)|((with_reducible apply oq_neqF);exact rfl;exact rfl;omega)|(apply oq_fn;exact rfl;first|exact trivial|(and_intros<;>omega)|omega|skip)|((with_reducible apply oq_load);exact rfl;exact rfl))|((with_reducible apply tl_id);first|(with_reducible apply tl_nil)|((with_reducible apply u_q);(iterate 4 exact rfl)))|((with_reducible apply rd_id);first|(apply Rd.old;(first|(with_reducible assumption)|exact c0|exact c1|exact c2|exact c3|exact c4|exact c5|exact c6|exact c7|exact c8|exact d0|exact d1|exact d2|exact d3|exact d4|exact d5);first|exact List.not_mem_nil|exact m0|exact m1|exact m2|exact m3|exact m4|exact m5|exact m6|exact m7|exact m8|exact m9))|((with_reducible apply t_id);first|(with_reducible apply t_seq)|(apply t_region;kernel_rfl)|((with_reducible apply t_condT);exact rfl)|((with_reducible apply t_condF);exact rfl)|(with_reducible apply t_ret)|(with_reducible apply t_skip)|(with_reducible apply t_exit)|(with_reducible apply t_block)|(apply t_rounds 8))|with_reducible apply q_thenN|with_reducible apply q_blockN|with_reducible apply q_thenE|((with_reducible apply q_blockE);exact rfl)|(with_reducible apply end_ret)|exact rvs_nil|(with_reducible apply rvs_cons)|((with_reducible apply rv_tmp);exact rfl)|((with_reducible apply tr_id);apply tr_succ))
     all_goals rfl
   · refine enterQ (c:=cx w 18) Try.func83 rfl rfl rfl rfl ?_
     repeat' (first|((with_reducible apply oq_id);first|((with_reducible apply oq_lssT);exact rfl;exact rfl;omega)|((with_reducible apply oq_neqT);exact rfl;exact rfl;omega)|((with_reducible apply oq_neqF);exact rfl;exact rfl;omega)|(apply oq_fn;exact rfl;first|exact trivial|(and_intros<;>omega)|omega|skip)|((with_reducible apply oq_load);exact rfl;exact rfl))|((with_reducible apply tl_id);first|(with_reducible apply tl_nil)|((with_reducible apply u_q);(iterate 4 exact rfl)))|((with_reducible apply rd_id);first|(apply Rd.old;(first|(with_reducible assumption)|exact c0|exact c1|exact c2|exact c3|exact c4|exact c5|exact c6|exact c7|exact c8|exact d0|exact d1|exact d2|exact d3|exact d4|exact d5);first|exact List.not_mem_nil|exact m0|exact m1|exact m2|exact m3|exact m4|exact m5|exact m6|exact m7|exact m8|exact m9))|((with_reducible apply t_id);first|(with_reducible apply t_seq)|(apply t_region;kernel_rfl)|((with_reducible apply t_condT);exact rfl)|((with_reducible apply t_condF);exact rfl)|(with_reducible apply t_ret)|(with_reducible apply t_skip)|(with_reducible apply t_block)|(apply t_rounds 8))|with_reducible apply q_thenN|with_reducible apply q_thenR|with_reducible apply q_blockR|with_reducible apply q_blockN|(with_reducible apply end_ret)|exact rvs_nil|(with_reducible apply rvs_cons)|((with_reducible apply rv_tmp);exact rfl)|((with_reducible apply tr_id);apply tr_succ))
     all_goals rfl
 · rw [if_neg ha]
   refine enterQ (c:=cx w 18) Try.func83 rfl rfl rfl rfl ?_
   repeat' (first|((with_reducible apply oq_id);first|((with_reducible apply oq_lssT);exact rfl;exact rfl;omega)|((with_reducible apply oq_neqT);exact rfl;exact rfl;omega)|(apply oq_fn;exact rfl;first|exact trivial|(and_intros<;>omega)|omega|skip)|((with_reducible apply oq_load);exact rfl;exact rfl))|((with_reducible apply tl_id);first|(with_reducible apply tl_nil)|((with_reducible apply u_q);(iterate 4 exact rfl)))|((with_reducible apply rd_id);first|(apply Rd.old;(first|(with_reducible assumption)|exact c0|exact c1|exact c2|exact c3|exact c4|exact c5|exact c6|exact c7|exact c8|exact d0|exact d1|exact d2|exact d3|exact d4|exact d5);first|exact List.not_mem_nil|exact m0|exact m1|exact m2|exact m3|exact m4|exact m5|exact m6|exact m7|exact m8|exact m9))|((with_reducible apply t_id);first|(with_reducible apply t_seq)|(apply t_region;kernel_rfl)|((with_reducible apply t_condT);exact rfl)|(with_reducible apply t_ret)|(with_reducible apply t_skip)|(with_reducible apply t_block)|(apply t_rounds 8))|with_reducible apply q_thenN|with_reducible apply q_thenR|with_reducible apply q_blockR|(with_reducible apply end_ret)|exact rvs_nil|(with_reducible apply rvs_cons)|((with_reducible apply rv_tmp);exact rfl)|((with_reducible apply tr_id);apply tr_succ))
   all_goals rfl
def byP (a b a' b':Int):Int:=if ordV a a'=0 then ordV b b' else ordV a a'
theorem byPerson_calls (a b c a' b' c':Int) (w:World):Calls Try.prog 136 #[.agg #[.int .i64 a,.int .i64 b,.int .i64 c],.agg #[.int .i64 a',.int .i64 b',.int .i64 c']] w fun e w'=>e=.returned (.int .i64 (byP a b a' b'))∧Ext w w':=by
 unfold byP
 obtain ⟨p,hp⟩:∃ p,ordV a a'=p:=⟨_,rfl⟩
 obtain ⟨q,hq⟩:∃ q,ordV b b'=q:=⟨_,rfl⟩
 have H1:=fun w1=>cmp_calls a a' w1
 have H2:=fun w1=>cmp_calls b b' w1
 rw [hp] at H1 ⊢
 rw [hq] at H2 ⊢
 refine enterQ (c:=cx w 17) Try.func136 rfl rfl rfl rfl ?_
 repeat' (first|((with_reducible apply oq_id);first|(apply oq_fn;exact rfl;first|exact trivial|(and_intros<;>omega)|omega|skip)|((with_reducible apply oq_load);exact rfl;exact rfl)|((with_reducible apply oq_call (hc:=Try.call160));exact rfl;exact rfl;exact fun D w1 hw1=>H1 w1)|((with_reducible apply oq_call (hc:=Try.call160));exact rfl;exact rfl;exact fun D w1 hw1=>H2 w1)|((with_reducible apply oq_call (hc:=Try.call159));exact rfl;exact rfl;exact fun D w1 hw1=>or_calls _ _ _ _ w1 (hw1.cellAt (by (repeat first|exact P0|apply P1)) rfl) (hw1.cellAt (by (repeat first|exact P0|apply P1)) rfl)))|((with_reducible apply tl_id);first|(with_reducible apply tl_nil)|((with_reducible apply u_q);(iterate 4 exact rfl))|((with_reducible apply u_s);(iterate 3 exact rfl)))|((with_reducible apply gx_id);first|(with_reducible apply v_nil)|((with_reducible apply v_q);(iterate 3 exact rfl)))|((with_reducible apply os_id);first|((with_reducible apply os_x);exact rfl))|((with_reducible apply ox_id);first|((with_reducible apply ox_boxAgg);exact rfl;intro _)|((with_reducible apply ox_buildSlice1);(iterate 6 exact rfl);intro _))|((with_reducible apply ai_id);first|((with_reducible apply ai_q);(iterate 5 exact rfl))|((with_reducible apply ai_x);(iterate 5 exact rfl)))|((with_reducible apply rd_id);first|(apply Rd.own;(repeat first|exact P0|apply P1);exact rfl;done))|((with_reducible apply t_id);first|(apply t_mix (id:=1) [0,1,2,3,4,5,6,7,8,9] 3 #[false,false,false,false,false,false,false,false,false,false,false,false,false];kernel_rfl;kernel_rfl;exact rfl)|(with_reducible apply t_seq)|(apply t_region;kernel_rfl)|(with_reducible apply t_ret))|with_reducible apply q_thenN|(with_reducible apply end_ret)|exact rvs_nil|(with_reducible apply rvs_cons)|((with_reducible apply rv_tmp);exact rfl)|((with_reducible apply al_id);first|(apply al_done;decide +kernel)|(apply al_one 10;decide +kernel)|(apply al_one 11;decide +kernel)|(apply al_one 12;decide +kernel)))
 all_goals rfl
end Go.Proofs.Ytcjkndjjbjoehaa
namespace Go.Proofs.Ytcjkndjjbjoehaa
section
variable {α:Type} (lt:α→α→Bool)
def mrg:List α→List α→List α
 | [],r=>r
 | a::l,[]=>a::l
 | a::l,b::r=>if lt b a=true then b::mrg (a::l) r else a::mrg l (b::r)
termination_by l r=>l.length+r.length
variable {lt}
theorem mrg_nil (r:List α):mrg lt [] r=r:=by unfold mrg;rfl
theorem mrg_right (l:List α):mrg lt l []=l:=by cases l<;>(unfold mrg;rfl)
theorem mrg_lt {a b:α} {l r:List α} (h:lt b a=true):mrg lt (a::l) (b::r)=b::mrg lt (a::l) r:=by
 rw [mrg,if_pos h]
theorem mrg_ge {a b:α} {l r:List α} (h:lt b a=false):mrg lt (a::l) (b::r)=a::mrg lt l (b::r):=by
 rw [mrg,if_neg (by rw [h];decide)]
theorem mrg_len:∀ (l r:List α),(mrg lt l r).length=l.length+r.length
 | [],r=>by rw [mrg_nil];simp
 | a::l,[]=>by rw [mrg_right];simp
 | a::l,b::r=>by
   cases h:lt b a with
   | true=>rw [mrg_lt h,List.length_cons,mrg_len (a::l) r];simp;omega
   | false=>rw [mrg_ge h,List.length_cons,mrg_len l (b::r)];simp;omega
termination_by l r=>l.length+r.length
theorem mrg_perm:∀ (l r:List α),(mrg lt l r).Perm (l++r)
 | [],r=>by rw [mrg_nil];exact List.Perm.refl _
 | a::l,[]=>by rw [mrg_right,List.append_nil]
 | a::l,b::r=>by
   cases h:lt b a with
   | true=>
     rw [mrg_lt h]
     exact ((mrg_perm (a::l) r).cons b).trans List.perm_middle.symm
   | false=>
     rw [mrg_ge h]
     exact (mrg_perm l (b::r)).cons a
termination_by l r=>l.length+r.length
theorem mrg_split:∀ (u v u' v':List α),(∀ x∈u,∀ y∈v',lt y x=false)→(∀ y∈v,∀ x∈u',lt y x=true)→mrg lt (u++u') (v++v')=mrg lt u v++mrg lt u' v'
 | [],[],u',v',_,_=>by rw [mrg_nil];rfl
 | [],b::v,[],v',_,_=>by rw [mrg_nil,mrg_nil,List.append_nil,mrg_nil]
 | [],b::v,a::u',v',h1,h2=>by
   have ih:=mrg_split [] v (a::u') v' (by simp) (fun y hy=>h2 y (List.mem_cons_of_mem _ hy))
   rw [List.nil_append] at ih ⊢
   rw [List.cons_append,mrg_lt (h2 b List.mem_cons_self a List.mem_cons_self),ih,mrg_nil,mrg_nil]
   rfl
 | a::u,[],u',[],h1,h2=>by rw [List.nil_append,mrg_right,mrg_right,mrg_right]
 | a::u,[],u',b::v',h1,h2=>by
   have ih:=mrg_split u [] u' (b::v') (fun x hx=>h1 x (List.mem_cons_of_mem _ hx)) (by simp)
   rw [List.nil_append] at ih ⊢
   rw [List.cons_append,mrg_ge (h1 a List.mem_cons_self b List.mem_cons_self),ih,mrg_right,mrg_right]
   rfl
 | a::u,b::v,u',v',h1,h2=>by
   cases h:lt b a with
   | true=>
     have ih:=mrg_split (a::u) v u' v' h1 (fun y hy=>h2 y (List.mem_cons_of_mem _ hy))
     rw [mrg_lt h,List.cons_append,List.cons_append,List.cons_append,mrg_lt h,← List.cons_append,ih]
   | false=>
     have ih:=mrg_split u (b::v) u' v' (fun x hx=>h1 x (List.mem_cons_of_mem _ hx)) h2
     rw [mrg_ge h,List.cons_append,List.cons_append,List.cons_append,mrg_ge h,← List.cons_append,ih]
termination_by u v=>u.length+v.length
structure Wo (lt:α→α→Bool):Prop where
 asym:∀ a b,lt a b=true→lt b a=false
 tr:∀ a b c,lt b a=false→lt c b=false→lt c a=false
theorem Wo.irr (h:Wo lt) (a:α):lt a a=false:=by
 cases h1:lt a a with
 | false=>rfl
 | true=>have:=h.asym a a h1;rw [h1] at this;cases this
def Srt (lt:α→α→Bool) (l:List α):Prop:=l.Pairwise fun a b=>lt b a=false
theorem mrg_srt (hw:Wo lt):∀ (l r:List α),Srt lt l→Srt lt r→Srt lt (mrg lt l r)
 | [],r,_,h=>by rw [mrg_nil];exact h
 | a::l,[],h,_=>by rw [mrg_right];exact h
 | a::l,b::r,h1,h2=>by
   have h1':=List.pairwise_cons.1 h1
   have h2':=List.pairwise_cons.1 h2
   cases h:lt b a with
   | true=>
     rw [mrg_lt h]
     refine List.pairwise_cons.2 ⟨fun x hx=>?_,mrg_srt hw (a::l) r h1 h2'.2⟩
     rcases List.mem_append.1 ((mrg_perm (a::l) r).mem_iff.1 hx) with hx|hx
     · rcases List.mem_cons.1 hx with rfl|hx
       · exact hw.asym _ _ h
       · exact hw.tr _ _ _ (hw.asym _ _ h) (h1'.1 x hx)
     · exact h2'.1 x hx
   | false=>
     rw [mrg_ge h]
     refine List.pairwise_cons.2 ⟨fun x hx=>?_,mrg_srt hw l (b::r) h1'.2 h2⟩
     rcases List.mem_append.1 ((mrg_perm l (b::r)).mem_iff.1 hx) with hx|hx
     · exact h1'.1 x hx
     · rcases List.mem_cons.1 hx with rfl|hx
       · exact h
       · exact hw.tr _ _ _ h (h2'.1 x hx)
termination_by l r=>l.length+r.length
theorem mrg_assoc (hw:Wo lt):∀ (s t u:List α),mrg lt s (mrg lt t u)=mrg lt (mrg lt s t) u
 | [],t,u=>by rw [mrg_nil,mrg_nil]
 | a::s,[],u=>by rw [mrg_nil,mrg_right]
 | a::s,b::t,[]=>by rw [mrg_right,mrg_right]
 | a::s,b::t,c::u=>by
   cases hcb:lt c b with
   | false=>
     rw [mrg_ge hcb]
     cases hba:lt b a with
     | true=>
       rw [mrg_lt hba,mrg_lt hba,mrg_ge hcb,mrg_assoc hw (a::s) t (c::u)]
     | false=>
       rw [mrg_ge hba,mrg_ge hba,mrg_ge (hw.tr _ _ _ hba hcb),← mrg_assoc hw s (b::t) (c::u),mrg_ge hcb]
   | true=>
     rw [mrg_lt hcb]
     cases hca:lt c a with
     | true=>
       rw [mrg_lt hca,mrg_assoc hw (a::s) (b::t) u]
       cases hba:lt b a with
       | true=>rw [mrg_lt hba,mrg_lt hcb]
       | false=>rw [mrg_ge hba,mrg_lt hca]
     | false=>
       have hba:lt b a=false:=hw.tr _ _ _ hca (hw.asym _ _ hcb)
       rw [mrg_ge hca,mrg_ge hba,mrg_ge hca,← mrg_assoc hw s (b::t) (c::u),mrg_lt hcb]
termination_by s t u=>s.length+t.length+u.length
theorem mrg_app {u v:List α} (h:∀ x∈u,∀ y∈v,lt y x=false):mrg lt u v=u++v:=by
 have:=mrg_split (lt:=lt) u [] [] v h (by simp)
 simp only [List.append_nil,List.nil_append,mrg_right,mrg_nil] at this
 exact this
theorem mrg_swap {u v:List α} (h:∀ y∈v,∀ x∈u,lt y x=true):mrg lt u v=v++u:=by
 have:=mrg_split (lt:=lt) [] v u [] (by simp) h
 simp only [List.append_nil,List.nil_append,mrg_right,mrg_nil] at this
 exact this
def srt (lt:α→α→Bool) (l:List α):List α:=l.foldl (fun s x=>mrg lt s [x]) []
theorem srt_nil:srt lt []=[]:=rfl
theorem srt_snoc (l:List α) (x:α):srt lt (l++[x])=mrg lt (srt lt l) [x]:=by
 unfold srt;rw [List.foldl_append];rfl
theorem snoc_ind {p:List α→Prop} (h0:p []) (h1:∀ l x,p l→p (l++[x])):∀ l,p l:=fun l=>by
 have:∀ n,∀ l:List α,l.length=n→p l:=by
   intro n
   induction n with
   | zero=>intro l hl;rw [List.length_eq_zero_iff.1 hl];exact h0
   | succ n ih=>
     intro l hl
     have hne:l≠[]:=fun h=>by rw [h] at hl;cases hl
     rw [← List.dropLast_concat_getLast hne]
     refine h1 _ _ (ih _ ?_)
     rw [List.length_dropLast,hl];rfl
 exact this _ l rfl
theorem srt_perm (l:List α):(srt lt l).Perm l:=by
 refine snoc_ind (p:=fun l=>(srt lt l).Perm l) (List.Perm.refl _) (fun l x ih=>?_) l
 rw [srt_snoc]
 exact (mrg_perm _ _).trans (ih.append_right _)
theorem srt_len (l:List α):(srt lt l).length=l.length:=(srt_perm l).length_eq
theorem srt_srt (hw:Wo lt) (l:List α):Srt lt (srt lt l):=by
 refine snoc_ind (p:=fun l=>Srt lt (srt lt l)) List.Pairwise.nil (fun l x ih=>?_) l
 rw [srt_snoc]
 exact mrg_srt hw _ _ ih (List.pairwise_singleton _ _)
theorem srt_app (hw:Wo lt) (l m:List α):mrg lt (srt lt l) (srt lt m)=srt lt (l++m):=by
 refine snoc_ind (p:=fun m=>mrg lt (srt lt l) (srt lt m)=srt lt (l++m)) ?_ (fun m x ih=>?_) m
 · rw [srt_nil,mrg_right,List.append_nil]
 · rw [srt_snoc,mrg_assoc hw,ih,← List.append_assoc,srt_snoc]
def blk (lt:α→α→Bool) (s:Nat):Nat→List α→List α
 | 0,l=>srt lt l
 | f+1,l=>if l.length≤s then srt lt l else srt lt (l.take s)++blk lt s f (l.drop s)
end
section
variable {α:Type} {lt:α→α→Bool}
theorem swp_at {P M Q:List α} {x y:α}:((P++x::(M++y::Q)).set P.length y).set (P.length+1+M.length) x=P++y::(M++x::Q):=by
 rw [List.set_append_right _ _ (Nat.le_refl _),Nat.sub_self,List.set_cons_zero,List.set_append_right _ _ (by omega),show P.length+1+M.length-P.length=M.length+1 by omega,List.set_cons_succ,
   List.set_append_right _ _ (Nat.le_refl _),Nat.sub_self,List.set_cons_zero]
theorem get_at {P Q:List α} {x:α} {i:Nat} (h:P.length=i):(P++x::Q)[i]?=some x:=by
 subst h;simp
theorem get_at2 {P M Q:List α} {x y:α} {i:Nat} (h:P.length+1+M.length=i):(P++x::(M++y::Q))[i]?=some y:=by
 subst h
 rw [List.getElem?_append_right (by omega),show P.length+1+M.length-P.length=M.length+1 by omega,List.getElem?_cons_succ]
 exact get_at rfl
def swr (P X M Y Q:List α) (k:Nat):List α:=P++(Y.take k++(X.drop k++(M++(X.take k++(Y.drop k++Q)))))
theorem swr_zero (P X M Y Q:List α):swr P X M Y Q 0=P++(X++(M++(Y++Q))):=by
 unfold swr;simp
theorem swr_all {P X M Y Q:List α} {n:Nat} (hx:X.length=n) (hy:Y.length=n):swr P X M Y Q n=P++(Y++(M++(X++Q))):=by
 unfold swr
 rw [List.take_of_length_le (by omega),List.take_of_length_le (by omega),List.drop_of_length_le (by omega),List.drop_of_length_le (by omega)]
 simp
theorem swr_step {P X M Y Q:List α} {n k:Nat} (hx:X.length=n) (hy:Y.length=n) (hk:k<n):∃ x y,(swr P X M Y Q k)[P.length+k]?=some x∧(swr P X M Y Q k)[P.length+n+M.length+k]?=some y ∧
   ((swr P X M Y Q k).set (P.length+k) y).set (P.length+n+M.length+k) x=swr P X M Y Q (k+1):=by
 obtain ⟨x,hx1⟩:∃ x,X.drop k=x::X.drop (k+1):=⟨_,List.drop_eq_getElem_cons (by omega)⟩
 obtain ⟨y,hy1⟩:∃ y,Y.drop k=y::Y.drop (k+1):=⟨_,List.drop_eq_getElem_cons (by omega)⟩
 have hx2:X.take (k+1)=X.take k++[x]:=by
   have h1:X[k]?=some x:=by
     have:=congrArg (·[0]?) hx1
     simpa using this
   rw [List.take_add_one,h1];rfl
 have hy2:Y.take (k+1)=Y.take k++[y]:=by
   have h1:Y[k]?=some y:=by
     have:=congrArg (·[0]?) hy1
     simpa using this
   rw [List.take_add_one,h1];rfl
 have e:swr P X M Y Q k=(P++Y.take k)++x::((X.drop (k+1)++(M++X.take k))++y::(Y.drop (k+1)++Q)):=by
   unfold swr;rw [hx1,hy1];simp only [List.append_assoc,List.cons_append]
 have e2:swr P X M Y Q (k+1)=(P++Y.take k)++y::((X.drop (k+1)++(M++X.take k))++x::(Y.drop (k+1)++Q)):=by
   unfold swr;rw [hx2,hy2];simp only [List.append_assoc,List.cons_append,List.nil_append]
 have l1:(P++Y.take k).length=P.length+k:=by simp;omega
 have l2:(P++Y.take k).length+1+(X.drop (k+1)++(M++X.take k)).length=P.length+n+M.length+k:=by simp;omega
 refine ⟨x,y,?_,?_,?_⟩
 · rw [e];exact get_at l1
 · rw [e];exact get_at2 l2
 · rw [e,e2,← l2,← l1];exact swp_at
theorem ins_step {P S S2 Q:List α} {z x:α}:(((P++(S++[z]))++x::(S2++Q)).set (P.length+S.length+1) z).set (P.length+S.length) x=(P++S)++x::((z::S2)++Q):=by
 have e:(P++(S++[z]))++x::(S2++Q)=(P++S)++z::([]++x::(S2++Q)):=by simp only [List.append_assoc,List.cons_append,List.nil_append]
 have l1:(P++S).length=P.length+S.length:=by simp
 have l2:(P++S).length+1+([]:List α).length=P.length+S.length+1:=by simp
 have h:=swp_at (P:=P++S) (M:=[]) (Q:=S2++Q) (x:=z) (y:=x)
 rw [l2,l1] at h
 rw [e,List.set_comm _ _ (by omega),h]
 simp only [List.cons_append,List.nil_append]
theorem ins_done (hw:Wo lt) {S1 S2:List α} {x:α} (hs:Srt lt (S1++S2)) (h1:S1=[]∨∃ S z,S1=S++[z]∧lt x z=false) (h2:∀ y∈S2,lt x y=true):mrg lt (S1++S2) [x]=S1++x::S2:=by
 have h:=mrg_split (lt:=lt) S1 [] S2 [x] (fun y hy z hz=>?_) (by simp)
 · have h3:mrg lt S2 [x]=[x]++S2:=mrg_swap (fun y hy z hz=>by rw [List.mem_singleton.1 hy];exact h2 z hz)
   rw [List.nil_append,mrg_right,h3] at h
   exact h
 · rw [List.mem_singleton.1 hz]
   rcases h1 with rfl|⟨S,z,rfl,h3⟩
   · cases hy
   · rcases List.mem_append.1 hy with hy|hy
     · have hp:=(List.pairwise_append.1 (List.pairwise_append.1 hs).1).2.2 y hy z (List.mem_singleton.2 rfl)
       exact hw.tr _ _ _ hp h3
     · rw [List.mem_singleton.1 hy];exact h3
theorem sym_pick (hw:Wo lt) {U V:List α} (hU:Srt lt U) (hV:Srt lt V) {h i lo hi:Nat} (hi0:lo≤i) (hi1:i≤hi) (hlo:(lo=0∨V.length+lo=h)) (hhi:(hi=h∨hi=U.length)) (hh:hi≤U.length) (hh2:hi≤h) (hh3:h≤V.length+lo)
   (h1:i=lo∨∃ x y,U[i-1]?=some x∧V[h-i]?=some y∧lt y x=false) (h2:i=hi∨∃ x y,U[i]?=some x∧V[h-1-i]?=some y∧lt y x=true) :
   mrg lt U V=mrg lt (U.take i) (V.take (h-i))++mrg lt (U.drop i) (V.drop (h-i)):=by
 have key:=mrg_split (lt:=lt) (U.take i) (V.take (h-i)) (U.drop i) (V.drop (h-i)) (fun x hx y hy=>?_) (fun y hy x hx=>?_)
 · rw [List.take_append_drop,List.take_append_drop] at key
   exact key
 · obtain ⟨k,hk,rfl⟩:=List.getElem_of_mem hx
   obtain ⟨j,hj,rfl⟩:=List.getElem_of_mem hy
   rw [List.getElem_take,List.getElem_drop]
   simp only [List.length_take,List.length_drop] at hk hj
   rcases h1 with rfl|⟨x,y,hx1,hy1,hxy⟩
   · omega
   · obtain ⟨hx2,rfl⟩:=List.getElem?_eq_some_iff.1 hx1
     obtain ⟨hy2,rfl⟩:=List.getElem?_eq_some_iff.1 hy1
     have a1:lt U[i-1] U[k]=false:=by
       by_cases hki:k=i-1
       · subst hki;exact hw.irr _
       · exact List.pairwise_iff_getElem.1 hU k (i-1) (by omega) hx2 (by omega)
     have a2:lt V[h-i+j] V[h-i]=false:=by
       by_cases hj0:j=0
       · subst hj0;exact hw.irr _
       · exact List.pairwise_iff_getElem.1 hV (h-i) (h-i+j) hy2 (by omega) (by omega)
     exact hw.tr _ _ _ (hw.tr _ _ _ a1 hxy) a2
 · obtain ⟨k,hk,rfl⟩:=List.getElem_of_mem hx
   obtain ⟨j,hj,rfl⟩:=List.getElem_of_mem hy
   rw [List.getElem_take,List.getElem_drop]
   simp only [List.length_take,List.length_drop] at hk hj
   rcases h2 with rfl|⟨x,y,hx1,hy1,hxy⟩
   · omega
   · obtain ⟨hx2,rfl⟩:=List.getElem?_eq_some_iff.1 hx1
     obtain ⟨hy2,rfl⟩:=List.getElem?_eq_some_iff.1 hy1
     have a1:lt U[i+k] U[i]=false:=by
       by_cases hk0:k=0
       · subst hk0;exact hw.irr _
       · exact List.pairwise_iff_getElem.1 hU i (i+k) hx2 (by omega) (by omega)
     have a2:lt V[h-1-i] V[j]=false:=by
       by_cases hjh:j=h-1-i
       · subst hjh;exact hw.irr _
       · exact List.pairwise_iff_getElem.1 hV j (h-1-i) (by omega) hy2 (by omega)
     cases hc:lt V[j] U[i+k] with
     | true=>rfl
     | false=>
       have b1:=hw.tr _ _ _ a1 hc
       have b2:=hw.tr _ _ _ b1 a2
       rw [hxy] at b2;cases b2
inductive Bl (lt:α→α→Bool) (s:Nat):List α→List α→Prop
 | last {L:List α} (h:L.length≤s):Bl lt s L (srt lt L)
 | more {A L D:List α} (h:A.length=s) (k:Bl lt s L D):Bl lt s (A++L) (srt lt A++D)
inductive Pf (lt:α→α→Bool) (s:Nat):List α→List α→Prop
 | zero:Pf lt s [] []
 | snoc {A P B:List α} (k:Pf lt s A P) (h:B.length=s):Pf lt s (A++B) (P++srt lt B)
theorem Pf.bl {s:Nat} {A P:List α} (h:Pf lt s A P):∀ {R E:List α},Bl lt s R E→Bl lt s (A++R) (P++E):=by
 induction h with
 | zero=>intro R E h;exact h
 | snoc k hB ih=>
   intro R E h
   rw [List.append_assoc,List.append_assoc]
   exact ih (.more hB h)
theorem Pf.len {s:Nat} {A P:List α} (h:Pf lt s A P):P.length=A.length:=by
 induction h with
 | zero=>rfl
 | snoc k hB ih=>rw [List.length_append,List.length_append,ih,srt_len]
theorem Bl.len {s:Nat} {A P:List α} (h:Bl lt s A P):P.length=A.length:=by
 induction h with
 | last h=>exact srt_len _
 | more h k ih=>rw [List.length_append,List.length_append,ih,srt_len]
theorem Bl.small {s:Nat} {L D:List α} (h:Bl lt s L D) (hl:L.length≤s):D=srt lt L:=by
 cases h with
 | last _=>rfl
 | more hA k=>
   rename_i A L D
   have hL:L.length=0:=by simp at hl;omega
   obtain rfl:=List.length_eq_zero_iff.1 hL
   have:=k.len
   obtain rfl:=List.length_eq_zero_iff.1 this
   simp
theorem Bl.split {s:Nat} {L D:List α} (h:Bl lt s L D) (hl:s<L.length):∃ A R E,A.length=s∧L=A++R∧D=srt lt A++E∧Bl lt s R E:=by
 cases h with
 | last h=>omega
 | more hA k=>exact ⟨_,_,_,hA,rfl,rfl,k⟩
theorem Bl.split' {s:Nat} {L D:List α} (h:Bl lt s L D) (hl:s≤L.length):∃ A R E,A.length=s∧L=A++R∧D=srt lt A++E∧Bl lt s R E:=by
 by_cases hs:s<L.length
 · exact h.split hs
 · refine ⟨L,[],[],by omega,by simp,by rw [h.small (by omega)];simp,?_⟩
   exact .last (Nat.zero_le _)
end
end Go.Proofs.Ytcjkndjjbjoehaa
namespace Go.Proofs.Ytcjkndjjbjoehaa
open Go.RowKit
attribute [local irreducible] TR OQ OS OX Rd T TL GX GL AL AI RV wpG SAny Calls
structure Sh where
 who:Int
 fr:Int
 to:Int
def shCells (x:Sh):List Value:=[.int .i64 x.who,.int .i64 x.fr,.int .i64 x.to]
theorem sh_len (l:List Sh):∀ r∈l.map shCells,r.length=3:=by simp only [List.mem_map];rintro r ⟨x,_,rfl⟩;rfl
theorem sh_oneK (l:List Sh):∀ r∈l.map shCells,∀ u∈r,u.oneCell'=true:=by
 simp only [List.mem_map]
 rintro r ⟨x,_,rfl⟩ u hu
 simp [shCells] at hu
 rcases hu with rfl|rfl|rfl<;>rfl
theorem cloneS_T (A:Option Addr) (n c:Nat) (l:List Sh) (w:World) (hr:RdS w 3 A n (l.map shCells)) (hnil:A=none→n=0∧c=0) (hn:n≤1000000) :
   Calls Try.prog 92 #[.slice A n c] w fun e w'=>∃ v H',e=.returned v∧CloneV 91 3 (l.map shCells).flatten n v H'∧Has w ⟨[],[]⟩ H' w':=by
 cases A with
 | none=>
   obtain ⟨rfl,rfl⟩:=hnil rfl
   refine enterF (c:=cx w 8) Try.func92 rfl rfl rfl rfl ?_
   repeat' (first|((with_reducible apply oq_id);first|((with_reducible apply oq_eqNilT);(iterate 3 exact rfl))|(apply oq_fn;exact rfl;first|exact trivial|(and_intros<;>omega)|omega|skip))|((with_reducible apply tl_id);first|(with_reducible apply tl_nil)|((with_reducible apply u_q);(iterate 4 exact rfl)))|((with_reducible apply t_id);first|(with_reducible apply t_seq)|(apply t_region;kernel_rfl)|((with_reducible apply t_condT);exact rfl)|(with_reducible apply t_ret))|with_reducible apply q_thenN|with_reducible apply q_thenR|(with_reducible apply end_ret)|exact rvs_nil|(with_reducible apply rvs_cons)|((with_reducible apply rv_tmp);exact rfl))
   exact ⟨_,⟨none,fun _=>rfl,rfl,rfl⟩,HpSub.nil⟩
 | some p=>
   refine enterF (c:=cx w 8) Try.func92 rfl rfl rfl rfl ?_
   repeat' (first|((with_reducible apply oq_id);first|((with_reducible apply oq_eqNil);(iterate 3 exact rfl))|(apply oq_fn;exact rfl;first|exact trivial|(and_intros<;>omega)|omega|skip))|((with_reducible apply tl_id);first|(with_reducible apply tl_nil)|((with_reducible apply u_s);(iterate 3 exact rfl);(with_reducible apply os_appendRows (hk:=app_ok81) (rows:=l.map shCells) (hr:=fun D w1 hw1=>hr.ext hw1.ext.ext));exact rfl;exact rfl;exact P0;exact sh_len l;exact rfl;exact sh_oneK l;exact Nat.le_refl _;omega;omega;intro b cap';simp only [Nat.zero_add,List.nil_append])|((with_reducible apply u_q);(iterate 4 exact rfl))|((with_reducible apply u_s);(iterate 3 exact rfl)))|((with_reducible apply os_id);first|((with_reducible apply os_x);exact rfl))|((with_reducible apply ox_id);first|((with_reducible apply ox_buildSlice);(iterate 4 exact rfl)))|((with_reducible apply t_id);first|(with_reducible apply t_seq)|(apply t_region;kernel_rfl)|((with_reducible apply t_condF);exact rfl)|(with_reducible apply t_ret)|(with_reducible apply t_skip))|with_reducible apply q_thenN|((with_reducible apply Norm.nil);exact rfl)|(with_reducible apply end_ret)|exact rvs_nil|(with_reducible apply rvs_cons)|((with_reducible apply rv_tmp);exact rfl)|exact (rfl:(_:Bool)=true)|(intro _;with_reducible apply tl_id))
   exact ⟨_,⟨some (b,cap'),fun h=>(by cases h),rfl,rfl⟩,HpSub.refl _⟩
end Go.Proofs.Ytcjkndjjbjoehaa
namespace Go.Proofs.Ytcjkndjjbjoehaa
def ltS (x y:Sh):Bool:=decide (byP x.who x.fr y.who y.fr<0)
theorem ordV_neg {a b:Int}:ordV a b<0↔a<b:=by unfold ordV;split<;>(try split)<;>omega
theorem ordV_zero {a b:Int}:ordV a b=0↔a=b:=by unfold ordV;split<;>(try split)<;>omega
theorem ltS_iff {x y:Sh}:ltS x y=true↔x.who<y.who∨(x.who=y.who∧x.fr<y.fr):=by
 unfold ltS byP
 rw [decide_eq_true_iff]
 by_cases h:ordV x.who y.who=0
 · rw [if_pos h,ordV_neg];rw [ordV_zero] at h;omega
 · rw [if_neg h,ordV_neg];rw [ordV_zero] at h;omega
theorem ltS_no {x y:Sh}:ltS x y=false↔y.who<x.who∨(x.who=y.who∧y.fr≤x.fr):=by
 cases h:ltS x y with
 | true=>have:=ltS_iff.1 h;simp;omega
 | false=>
   have:¬ (ltS x y=true):=by rw [h];decide
   rw [ltS_iff] at this
   simp;omega
theorem woS:Wo ltS:=⟨fun a b h=>by have:=ltS_iff.1 h;exact ltS_no.2 (by omega),fun a b c h1 h2=>by have:=ltS_no.1 h1;have:=ltS_no.1 h2;exact ltS_no.2 (by omega)⟩
abbrev srtS (l:List Sh):List Sh:=srt ltS l
def shOk (x:Sh):Prop:=(0≤x.who∧x.who≤5)∧0≤x.fr∧x.fr<x.to∧x.to≤1000000
instance (x:Sh):Decidable (shOk x):=by unfold shOk;infer_instance
def lap (x y:Sh):Prop:=x.who=y.who∧x.fr<y.to∧y.fr<x.to
instance (x y:Sh):Decidable (lap x y):=by unfold lap;infer_instance
theorem lap_symm {x y:Sh} (h:lap x y):lap y x:=⟨h.1.symm,h.2.2,h.2.1⟩
def Ros (l:List Sh):Prop:=(∀ x∈l,shOk x)∧l.Pairwise fun x y=>¬ lap x y
instance (l:List Sh):Decidable (Ros l):=by unfold Ros;infer_instance
def Fit (S:List Sh):Prop:=∀ i x,S[i]?=some x→shOk x∧∀ p,0<i→S[i-1]?=some p→p.who=x.who→p.to≤x.fr
theorem Fit.before {S:List Sh} (hs:Srt ltS S) (h:Fit S):∀ {i j:Nat} {x y:Sh},i<j→S[i]?=some x→S[j]?=some y→x.who=y.who→x.to≤y.fr
 | i,0,x,y,hij,_,_,_=>by omega
 | i,j+1,x,y,hij,hx,hy,hw=>by
   obtain ⟨hj1,rfl⟩:=List.getElem?_eq_some_iff.1 hy
   obtain ⟨hi1,rfl⟩:=List.getElem?_eq_some_iff.1 hx
   have hz:S[j]?=some S[j]:=List.getElem?_eq_getElem (by omega)
   have s1:=ltS_no.1 (List.pairwise_iff_getElem.1 hs j (j+1) (by omega) hj1 (by omega))
   by_cases hji:i=j
   · subst hji
     exact (h (i+1) _ hy).2 _ (by omega) hz hw
   · have s2:=ltS_no.1 (List.pairwise_iff_getElem.1 hs i j hi1 (by omega) (by omega))
     have ih:=Fit.before hs h (show i<j by omega) hx hz (by omega)
     have hp:=(h (j+1) _ hy).2 _ (by omega) hz (by omega)
     have ho:=(h j _ hz).1
     unfold shOk at ho
     omega
theorem fit_iff {S l:List Sh} (hs:Srt ltS S) (hp:S.Perm l):Fit S↔Ros l:=by
 constructor
 · intro h
   refine ⟨fun x hx=>?_,?_⟩
   · obtain ⟨i,hi,rfl⟩:=List.getElem_of_mem (hp.mem_iff.2 hx)
     exact (h i _ (List.getElem?_eq_getElem hi)).1
   · refine (hp.pairwise_iff (R:=fun x y=>¬ lap x y) (fun {x y} h1 h2=>h1 (lap_symm h2))).1 ?_
     refine List.pairwise_iff_getElem.2 fun i j hi hj hij hl=>?_
     have:=h.before hs hij (List.getElem?_eq_getElem hi) (List.getElem?_eq_getElem hj) hl.1
     have:=hl.2.2
     omega
 · rintro ⟨h1,h2⟩ i x hx
   have hxl:=hp.mem_iff.1 (List.mem_of_getElem? hx)
   refine ⟨h1 x hxl,fun p hi hpx hw=>?_⟩
   have h3:=(hp.pairwise_iff (R:=fun x y=>¬ lap x y) (fun {x y} h1 h2=>h1 (lap_symm h2))).2 h2
   obtain ⟨hi1,rfl⟩:=List.getElem?_eq_some_iff.1 hx
   obtain ⟨hi2,rfl⟩:=List.getElem?_eq_some_iff.1 hpx
   have h4:=List.pairwise_iff_getElem.1 h3 (i-1) i hi2 hi1 (by omega)
   have h5:=ltS_no.1 (List.pairwise_iff_getElem.1 hs (i-1) i hi2 hi1 (by omega))
   have h6:=(h1 _ hxl)
   unfold shOk at h6
   unfold lap at h4
   omega
theorem fitS_iff (l:List Sh):Fit (srtS l)↔Ros l:=fit_iff (srt_srt woS l) (srt_perm l)
/-! Who is tired -/
structure Du where
 most:Int
 rest:Int
 win:Int
 sum:Int
structure Ti where
 kind:Int
 who:Int
 at_:Int
deriving DecidableEq
def tiCells (x:Ti):List Value:=[.int .i64 x.kind,.int .i64 x.who,.int .i64 x.at_]
def minS (who fr to:Int) (y:Sh):Int:=if y.who=who then max (min y.to to-max y.fr fr) 0 else 0
def workV (l:List Sh) (who fr to:Int):Int:=(l.map (minS who fr to)).sum
def minT (x:Sh) (w:Int) (y:Sh):Int:=if y.who=x.who then max 0 (min y.to (x.fr+w)-y.fr) else 0
def workT (S:List Sh) (i:Nat) (x:Sh) (w:Int):Int:=((S.drop i).map (minT x w)).sum
theorem sum_zero {α:Type} {f:α→Int}:∀ {l:List α},(∀ x∈l,f x=0)→(l.map f).sum=0
 | [],_=>rfl
 | a::l,h=>by
   rw [List.map_cons,List.sum_cons,h a List.mem_cons_self,sum_zero fun x hx=>h x (List.mem_cons_of_mem _ hx)];rfl
theorem sum_congr {α:Type} {f g:α→Int}:∀ {l:List α},(∀ x∈l,f x=g x)→(l.map f).sum=(l.map g).sum
 | [],_=>rfl
 | a::l,h=>by
   rw [List.map_cons,List.sum_cons,List.map_cons,List.sum_cons,h a List.mem_cons_self,sum_congr fun x hx=>h x (List.mem_cons_of_mem _ hx)]
theorem work_eq {S:List Sh} (hs:Srt ltS S) (hf:Fit S) {i:Nat} {x:Sh} (hx:S[i]?=some x) {w:Int} (hw:0≤w):workT S i x w=workV S x.who x.fr (x.fr+w):=by
 obtain ⟨hi,he⟩:=List.getElem?_eq_some_iff.1 hx
 have e1:workV S x.who x.fr (x.fr+w)=((S.take i).map (minS x.who x.fr (x.fr+w))).sum+((S.drop i).map (minS x.who x.fr (x.fr+w))).sum:=by
   unfold workV
   rw [← List.sum_append,← List.map_append,List.take_append_drop]
 have e2:((S.take i).map (minS x.who x.fr (x.fr+w))).sum=0:=sum_zero fun y hy=>by
   obtain ⟨j,hj,rfl⟩:=List.getElem_of_mem hy
   rw [List.getElem_take]
   simp only [List.length_take] at hj
   unfold minS
   by_cases hwh:S[j].who=x.who
   · rw [if_pos hwh]
     have:=hf.before hs (show j<i by omega) (List.getElem?_eq_getElem (by omega)) hx hwh
     omega
   · rw [if_neg hwh]
 have e3:workT S i x w=((S.drop i).map (minS x.who x.fr (x.fr+w))).sum:=sum_congr fun y hy=>by
   obtain ⟨j,hj,rfl⟩:=List.getElem_of_mem hy
   rw [List.getElem_drop]
   simp only [List.length_drop] at hj
   unfold minT minS
   by_cases hwh:S[i+j].who=x.who
   · rw [if_pos hwh,if_pos hwh]
     have:x.fr≤S[i+j].fr:=by
       by_cases h0:j=0
       · subst h0;rw [← he];exact Int.le_refl _
       · have:=ltS_no.1 (List.pairwise_iff_getElem.1 hs i (i+j) hi (by omega) (by omega));rw [he] at this;omega
     omega
   · rw [if_neg hwh,if_neg hwh]
 rw [e1,e2,e3,Int.zero_add]
def restB (d:Du) (S:List Sh) (i:Nat) (x:Sh):Bool:=decide (0<i) && match S[i-1]? with|some p=>decide (p.who=x.who) && decide (x.fr-p.to<d.rest)|none=>false
def casV (d:Du) (S:List Sh) (i:Nat) (x:Sh):List Ti:=
 (if x.to-x.fr > d.most then [⟨1,x.who,x.fr⟩] else [])++((if restB d S i x=true then [⟨2,x.who,x.fr⟩] else [])++(if workV S x.who x.fr (x.fr+d.win) > d.sum then [⟨3,x.who,x.fr⟩] else []))
def casAt (d:Du) (S:List Sh) (i:Nat):List Ti:=match S[i]? with|some x=>casV d S i x|none=>[]
def tiTo (d:Du) (S:List Sh):Nat→List Ti
 | 0=>[]
 | k+1=>tiTo d S k++casAt d S k
def tiV (d:Du) (l:List Sh):List Ti:=tiTo d (srtS l) l.length
theorem tiTo_succ {d:Du} {S:List Sh} {k:Nat} {x:Sh} (h:S[k]?=some x):tiTo d S (k+1)=tiTo d S k++casV d S k x:=by
 show tiTo d S k++casAt d S k=_
 unfold casAt;rw [h]
def duB (d:Du):Prop:=(1≤d.most∧d.most≤100000)∧(0≤d.rest∧d.rest≤100000)∧(1≤d.win∧d.win≤100000)∧0≤d.sum∧d.sum≤d.win
instance (d:Du):Decidable (duB d):=by unfold duB;infer_instance
def duE (d:Du):Int:=if duB d then 0 else 80
def rosE (l:List Sh):Int:=if 40<l.length then 4 else if Ros l then 0 else 81
def tiE (d:Du) (l:List Sh):Int:=if duE d=0 then rosE l else duE d
structure Deal where
 kind:Int
 n:Int
 seats:Int
 price:Int
 leaves:Int
end Go.Proofs.Ytcjkndjjbjoehaa
namespace Go.Proofs.Ytcjkndjjbjoehaa
open Go.RowKit
abbrev shB (l:List Sh):List Value:=(l.map shCells).flatten
theorem sh_flat_len (l:List Sh):(shB l).length=l.length*3:=flat_len (s:=3) (fun _=>rfl) l
theorem sh_at {l:List Sh} {i:Nat} {x:Sh} (h:l[i]?=some x):(shB l)[0+i*3]?=some (.int .i64 x.who)∧(shB l)[0+i*3+1]?=some (.int .i64 x.fr)∧(shB l)[0+i*3+1+1]?=some (.int .i64 x.to):=by
 rw [Nat.zero_add]
 exact ⟨flat_at (f:=shCells) (s:=3) (fun _=>rfl) h (j:=0) rfl,flat_at (f:=shCells) (s:=3) (fun _=>rfl) h (j:=1) rfl,flat_at (f:=shCells) (s:=3) (fun _=>rfl) h (j:=2) rfl⟩
theorem sh_set {l:List Sh} {i:Nat} {x y:Sh} (h:l[i]?=some x):setL (shB l) (0+i*3) [.int .i64 y.who,.int .i64 y.fr,.int .i64 y.to]=shB (l.set i y):=by
 simp only [setL,Nat.zero_add]
 have e1:=flat_set (f:=shCells) (s:=3) (fun _=>rfl) (l:=l) (i:=i) (x:=x) (y:=⟨y.who,x.fr,x.to⟩) h (k:=0) (v:=.int .i64 y.who) (by omega) rfl
 have h2:(l.set i ⟨y.who,x.fr,x.to⟩)[i]?=some ⟨y.who,x.fr,x.to⟩:=by
   rw [List.getElem?_set,if_pos rfl,if_pos (List.getElem?_eq_some_iff.1 h).1]
 have e2:=flat_set (f:=shCells) (s:=3) (fun _=>rfl) (l:=l.set i ⟨y.who,x.fr,x.to⟩) (i:=i) (y:=⟨y.who,y.fr,x.to⟩) h2 (k:=1) (v:=.int .i64 y.fr) (by omega) rfl
 have h3:(l.set i ⟨y.who,y.fr,x.to⟩)[i]?=some ⟨y.who,y.fr,x.to⟩:=by
   rw [List.getElem?_set,if_pos rfl,if_pos (List.getElem?_eq_some_iff.1 h).1]
 have e3:=flat_set (f:=shCells) (s:=3) (fun _=>rfl) (l:=l.set i ⟨y.who,y.fr,x.to⟩) (i:=i) (y:=y) h3 (k:=2) (v:=.int .i64 y.to) (by omega) rfl
 simp only [List.set_set,Nat.add_zero] at e1 e2 e3
 rw [Nat.add_assoc]
 rw [e1,e2,e3]
section
variable {c:Cx} {F:Fr} {H H':Hp} {K:Value→Hp→Prop} {d:Option Tmp} {ty t:TypeId} {pos:String} {af:Array Edge} {gd:Option (Nat×Bool)} {x y:Operand} {a0:Bool} {z0:List Value} {k0:TyK} {g i:Nat} {tg:Tg} {l l':List Sh} {z:Sh}
theorem os_storeSh (u:Sh) (hz:l[i]?=some z) (hl:l.set i u=l') (ht:tyAt c.tys t=some ⟨a0,3,z0,k0⟩) (hx:ev F x=some (.pointer (some ⟨g,0+i*3,none⟩))) (hy:ev F y=some (.agg #[.int .i64 u.who,.int .i64 u.fr,.int .i64 u.to])) (hp:Pick H g (shB l) tg H')
   (kk:K undef ((g,shB l',tg)::H')):OS c ⟨d,.store t x y,ty,pos,af,gd⟩ F H K:=
 store_gen (vs:=[.int .i64 u.who,.int .i64 u.fr,.int .i64 u.to]) ht hx hy rfl rfl (by simp [Value.oneCell']) hp (by rw [sh_flat_len];have:=(List.getElem?_eq_some_iff.1 hz).1;omega) (by rw [sh_set hz,hl];exact kk)
end
end Go.Proofs.Ytcjkndjjbjoehaa
namespace Go.Proofs.Ytcjkndjjbjoehaa
open Go.RowKit
attribute [local irreducible] OQ OS OX Rd T TL GX GL AL AI RV wpG SAny Calls
theorem swapR_W (g cp n a b k:Nat) (P X M Y Q:List Sh) (w:World) (hB:Blk w g (shB (P++(X++(M++(Y++Q))))) (some (91,3,cp))) (hX:X.length=k) (hY:Y.length=k) (ha:P.length=a) (hb:P.length+k+M.length=b) (hn:(P++(X++(M++(Y++Q)))).length=n) (hn1:n≤1000000) :
   Calls Try.prog 218 #[.slice (some ⟨g,0,none⟩) n cp,.int .i64 (a:Nat),.int .i64 (b:Nat),.int .i64 (k:Nat),.func (.func 136) #[] #[]] w fun e w'=>e=.returned (.tuple #[])∧ExtM [g] w w'∧Blk w' g (shB (P++(Y++(M++(X++Q))))) (some (91,3,cp)):=by
 simp only [List.length_append,hX,hY] at hn
 rw [← swr_zero] at hB
 rw [← swr_all (P:=P) (M:=M) (Q:=Q) hX hY]
 have HS:=fun i (h:i<k)=>swr_step (P:=P) (M:=M) (Q:=Q) hX hY h
 rw [hb] at HS
 rw [ha] at HS
 generalize swr P X M Y Q=S at HS hB ⊢
 refine enterW (c:=cxM [g] w 38) Try.func218 rfl rfl rfl rfl hB ?_
 repeat' (first|((with_reducible apply oq_id);first|(apply oq_fn;exact rfl;first|exact trivial|(and_intros<;>omega)|omega|skip))|((with_reducible apply tl_id);first|(with_reducible apply tl_nil)|((with_reducible apply u_q);(iterate 4 exact rfl)))|((with_reducible apply t_id);first|(with_reducible apply t_seq)|(apply t_region;kernel_rfl)|(with_reducible apply t_block))|with_reducible apply q_thenN)
 apply t_loopK (ι:=Nat) [0,1,2,3] (fun i=>[(10,.int .i64 (i:Nat))]) (fun i=>[(g,shB (S i),some (91,3,cp))]) (fun i=>i≤k) (fun i=>k-i) (0)
 (repeat (first|exact KeepF.nil|(apply KeepF.cons;exact rfl)|apply KeepF.skip))
 (repeat first|exact FrSub.nil|(apply FrSub.cons;exact rfl))
 (repeat (first|exact HpSub.refl _|(apply HpSub.consE;(repeat first|exact P0|apply P1);exact rfl)|exact HpSub.nil))
 · exact Nat.zero_le _
 rintro i hi
 try simp only [List.cons_append,List.nil_append]
 by_cases hlt:i<k
 · obtain ⟨x,y,hx,hy,hs⟩:=HS i hlt
   have hy2:((S i).set (a+i) y)[b+i]?=some y:=by rw [List.getElem?_set_ne (by omega)];exact hy
   obtain ⟨q0,q1,q2⟩:=sh_at hx
   obtain ⟨r0,r1,r2⟩:=sh_at hy
   repeat' (first|((with_reducible apply oq_id);first|((with_reducible apply oq_addE (k:=((a+i:Nat):Int)));exact rfl;exact rfl;omega)|((with_reducible apply oq_addE (k:=((b+i:Nat):Int)));exact rfl;exact rfl;omega)|(focus ((with_reducible apply oq_indexAddrN);(iterate 4 exact rfl);omega))|((with_reducible apply oq_lssT);exact rfl;exact rfl;omega)|(apply oq_fn;exact rfl;first|exact trivial|(and_intros<;>omega)|omega|skip)|((with_reducible apply oq_loadAgg);exact rfl;exact rfl))|((with_reducible apply tl_id);first|(with_reducible apply tl_nil)|((with_reducible apply u_q);(iterate 4 exact rfl)))|((with_reducible apply gx_id);first|(with_reducible apply v_nil)|((with_reducible apply v_q);(iterate 3 exact rfl)))|((with_reducible apply os_id);first|((with_reducible apply (os_storeSh y hx rfl));(iterate 3 exact rfl);(repeat first|exact P0|apply P1))|((with_reducible apply (os_storeSh x hy2 hs));(iterate 3 exact rfl);(repeat first|exact P0|apply P1)))|((with_reducible apply ai_id);first|((with_reducible apply ai_q);(iterate 5 exact rfl))|((with_reducible apply ai_n0);(iterate 3 exact rfl)))|((with_reducible apply al_keep);focus (repeat (first|exact HpSub.refl _|(apply HpSub.cons;(repeat first|exact P0|apply P1))|apply HpSub.skipX|exact HpSub.nil)))|((with_reducible apply rd_id);first|(apply Rd.own;(repeat first|exact P0|apply P1);with_reducible (first|exact q0|exact q1|exact q2|exact r0|exact r1|exact r2);done))|((with_reducible apply t_id);first|(apply t_mixZ (id:=3) [0,1,2,3,4,5,6,7,8,9,10,11,12,14,15,16,17,18] 6;kernel_rfl;kernel_rfl;exact rfl)|(with_reducible apply t_seq)|(apply t_region;kernel_rfl)|((with_reducible apply t_condT);exact rfl)|(with_reducible apply t_skip)|(with_reducible apply t_block))|with_reducible apply q_thenN|with_reducible apply q_blockN|exact Rdn.zero|apply Rdn.succ|((with_reducible apply al_id);first|(apply al_done;decide +kernel)|(apply al_one 13;decide +kernel)|(apply al_one 19;decide +kernel)|(apply al_one 20;decide +kernel)|(apply al_one 21;decide +kernel)|(apply al_one 22;decide +kernel)|(apply al_one 23;decide +kernel)|(apply al_two 13 19;decide +kernel)))
   all_goals (refine ⟨(i+1),(by omega),(by omega),?_,?_⟩<;>(try simp only [List.cons_append,List.nil_append])<;>(repeat' (first|exact FrSub.nil|(apply FrSub.cons;exact rfl)|exact HpSub.refl _)))
 · obtain rfl:i=k:=by omega
   repeat' (first|((with_reducible apply oq_id);first|((with_reducible apply oq_lssF);exact rfl;exact rfl;omega)|(apply oq_fn;exact rfl;first|exact trivial|(and_intros<;>omega)|omega|skip))|((with_reducible apply tl_id);first|(with_reducible apply tl_nil)|((with_reducible apply u_q);(iterate 4 exact rfl)))|((with_reducible apply t_id);first|(with_reducible apply t_seq)|(apply t_region;kernel_rfl)|((with_reducible apply t_condF);exact rfl)|(with_reducible apply t_exit))|with_reducible apply q_thenN|with_reducible apply q_thenE|((with_reducible apply q_blockE);exact rfl)|(with_reducible apply end_normal)|exact rvs_nil)
   all_goals exact ⟨rfl,by (repeat (first|exact HpSub.refl _|(apply HpSub.consE;(repeat first|exact P0|apply P1);exact rfl)|exact HpSub.nil))⟩
theorem rot_W (g cp n a m b:Nat) (P X Y Q:List Sh) (w:World) (hB:Blk w g (shB (P++(X++(Y++Q)))) (some (91,3,cp))) (hX:0<X.length) (hY:0<Y.length) (ha:P.length=a) (hm:a+X.length=m) (hb:m+Y.length=b) (hn:(P++(X++(Y++Q))).length=n) (hn1:n≤1000000) :
   Calls Try.prog 209 #[.slice (some ⟨g,0,none⟩) n cp,.int .i64 (a:Nat),.int .i64 (m:Nat),.int .i64 (b:Nat),.func (.func 136) #[] #[]] w fun e w'=>e=.returned (.tuple #[])∧ExtM [g] w w'∧Blk w' g (shB (P++(Y++(X++Q)))) (some (91,3,cp)):=by
 have hn0:=hn
 simp only [List.length_append] at hn
 refine enterW (c:=cxM [g] w 58) Try.func209 rfl rfl rfl rfl hB ?_
 repeat' (first|((with_reducible apply oq_id);first|((with_reducible apply oq_subE (k:=((X.length:Nat):Int)));exact rfl;exact rfl;omega)|((with_reducible apply oq_subE (k:=((Y.length:Nat):Int)));exact rfl;exact rfl;omega)|(apply oq_fn;exact rfl;first|exact trivial|(and_intros<;>omega)|omega|skip))|((with_reducible apply tl_id);first|(with_reducible apply tl_nil)|((with_reducible apply u_q);(iterate 4 exact rfl)))|((with_reducible apply t_id);first|(with_reducible apply t_seq)|(apply t_region;kernel_rfl)|(with_reducible apply t_block))|with_reducible apply q_thenN)
 apply t_loopK (ι:=Nat×Nat×List Sh×List Sh×List Sh×List Sh) [0,2,4,50,51,52,53,54,55,56] (fun z=>[(10,.int .i64 (z.1:Nat)),(11,.int .i64 (z.2.1:Nat))]) (fun z=>[(g,shB (z.2.2.1++(z.2.2.2.1++(z.2.2.2.2.1++z.2.2.2.2.2))),some (91,3,cp))]) (fun z=>z.2.2.2.1.length=z.1∧z.2.2.2.2.1.length=z.2.1∧0<z.1∧0<z.2.1∧z.2.2.1.length+z.1=m∧m+z.2.1≤n∧(z.2.2.1++(z.2.2.2.1++(z.2.2.2.2.1++z.2.2.2.2.2))).length=n∧z.2.2.1++(z.2.2.2.2.1++(z.2.2.2.1++z.2.2.2.2.2))=P++(Y++(X++Q))) (fun z=>z.1+z.2.1) ((X.length,Y.length,P,X,Y,Q))
 (repeat (first|exact KeepF.nil|(apply KeepF.cons;exact rfl)|apply KeepF.skip))
 (repeat first|exact FrSub.nil|(apply FrSub.cons;exact rfl))
 (repeat (first|exact HpSub.refl _|(apply HpSub.consE;(repeat first|exact P0|apply P1);exact rfl)|exact HpSub.nil))
 · exact ⟨rfl,rfl,hX,hY,(by simp only;omega),(by simp only;omega),hn0,rfl⟩
 rintro ⟨i,j,P1,X1,Y1,Q1⟩ ⟨h1,h2,h3,h4,h5,h6,h7,h8⟩
 simp only at h1 h2 h3 h4 h5 h6 h7 h8
 dsimp only
 try simp only [List.cons_append,List.nil_append]
 have h7':=h7
 simp only [List.length_append] at h7'
 rcases Nat.lt_trichotomy i j with hij|hij|hij
 · obtain ⟨A,B,rfl,hB2⟩:∃ A B,Y1=A++B∧B.length=i:=⟨Y1.take (j-i),Y1.drop (j-i),(List.take_append_drop _ _).symm,by simp;omega⟩
   simp only [List.length_append] at h2
   rw [List.append_assoc A B Q1] at h7 ⊢
   repeat' (first|((with_reducible apply oq_id);first|((with_reducible apply oq_subE (k:=((m-i:Nat):Int)));exact rfl;exact rfl;omega)|((with_reducible apply oq_addE (k:=((m+j:Nat):Int)));exact rfl;exact rfl;omega)|((with_reducible apply oq_subE (k:=((m+j-i:Nat):Int)));exact rfl;exact rfl;omega)|((with_reducible apply oq_subE (k:=((j-i:Nat):Int)));exact rfl;exact rfl;omega)|((with_reducible apply oq_neqT);exact rfl;exact rfl;omega)|((with_reducible apply oq_gtrF);exact rfl;exact rfl;omega)|(apply oq_fn;exact rfl;first|exact trivial|(and_intros<;>omega)|omega|skip))|((with_reducible apply tl_id);first|(with_reducible apply tl_nil)|((with_reducible apply u_s);(iterate 3 exact rfl);(with_reducible apply os_callW (b:=g) (hc:=Try.call218));exact rfl;exact rfl;(repeat first|exact P0|apply P1);exact fun D w1 hw1=>swapR_W g cp n (m-i) (m+j-i) i P1 X1 A B Q1 w1 (hw1.blkP (by (repeat first|exact P0|apply P1))) h1 hB2 (by omega) (by omega) h7 hn1)|((with_reducible apply u_q);(iterate 4 exact rfl)))|((with_reducible apply t_id);first|(with_reducible apply t_seq)|(apply t_region;kernel_rfl)|((with_reducible apply t_condT);exact rfl)|((with_reducible apply t_condF);exact rfl)|(with_reducible apply t_skip)|(with_reducible apply t_block))|with_reducible apply q_thenN|with_reducible apply q_blockN)
   all_goals (refine ⟨(i,j-i,P1,B,A,X1++Q1),⟨hB2,(by simp only;omega),h3,(by simp only;omega),h5,(by simp only;omega),(by simp only [List.length_append] at h7 ⊢;omega),?_⟩,(by simp only;omega),?_,?_⟩)
   all_goals first
     | (rw [← h8];simp only [List.append_assoc];done)
     | ((try simp only [List.cons_append,List.nil_append]);(repeat first|exact FrSub.nil|(apply FrSub.cons;exact rfl));done)
     | ((try simp only [List.cons_append,List.nil_append]);(repeat (first|exact HpSub.refl _|(apply HpSub.consE;(repeat first|exact P0|apply P1);exact rfl)|exact HpSub.nil));done)
 · subst hij
   repeat' (first|((with_reducible apply oq_id);first|((with_reducible apply oq_subE (k:=((m-i:Nat):Int)));exact rfl;exact rfl;omega)|((with_reducible apply oq_neqF);exact rfl;exact rfl;omega)|(apply oq_fn;exact rfl;first|exact trivial|(and_intros<;>omega)|omega|skip))|((with_reducible apply tl_id);first|(with_reducible apply tl_nil)|((with_reducible apply u_s);(iterate 3 exact rfl);(with_reducible apply os_callW (b:=g) (hc:=Try.call218));exact rfl;exact rfl;(repeat first|exact P0|apply P1);exact fun D w1 hw1=>swapR_W g cp n (m-i) m i P1 X1 [] Y1 Q1 w1 (hw1.blkP (by (repeat first|exact P0|apply P1))) h1 h2 (by omega) (by simp only [List.length_nil];omega) h7 hn1)|((with_reducible apply u_q);(iterate 4 exact rfl)))|((with_reducible apply t_id);first|(with_reducible apply t_seq)|(apply t_region;kernel_rfl)|((with_reducible apply t_condF);exact rfl)|(with_reducible apply t_exit))|with_reducible apply q_thenN|with_reducible apply q_thenE|((with_reducible apply q_blockE);exact rfl)|(with_reducible apply end_normal)|exact rvs_nil)
   all_goals (refine ⟨rfl,?_⟩;rw [← h8];exact HpSub.refl _)
 · obtain ⟨A,B,rfl,hA2⟩:∃ A B,X1=A++B∧A.length=j:=⟨X1.take j,X1.drop j,(List.take_append_drop _ _).symm,by simp;omega⟩
   simp only [List.length_append] at h1
   rw [List.append_assoc A B (Y1++Q1)] at h7 ⊢
   repeat' (first|((with_reducible apply oq_id);first|((with_reducible apply oq_subE (k:=((m-i:Nat):Int)));exact rfl;exact rfl;omega)|((with_reducible apply oq_subE (k:=((i-j:Nat):Int)));exact rfl;exact rfl;omega)|((with_reducible apply oq_neqT);exact rfl;exact rfl;omega)|((with_reducible apply oq_gtrT);exact rfl;exact rfl;omega)|(apply oq_fn;exact rfl;first|exact trivial|(and_intros<;>omega)|omega|skip))|((with_reducible apply tl_id);first|(with_reducible apply tl_nil)|((with_reducible apply u_s);(iterate 3 exact rfl);(with_reducible apply os_callW (b:=g) (hc:=Try.call218));exact rfl;exact rfl;(repeat first|exact P0|apply P1);exact fun D w1 hw1=>swapR_W g cp n (m-i) m j P1 A B Y1 Q1 w1 (hw1.blkP (by (repeat first|exact P0|apply P1))) hA2 h2 (by omega) (by omega) h7 hn1)|((with_reducible apply u_q);(iterate 4 exact rfl)))|((with_reducible apply t_id);first|(with_reducible apply t_seq)|(apply t_region;kernel_rfl)|((with_reducible apply t_condT);exact rfl)|(with_reducible apply t_skip)|(with_reducible apply t_block))|with_reducible apply q_thenN|with_reducible apply q_blockN)
   all_goals (refine ⟨(i-j,j,P1++Y1,B,A,Q1),⟨(by simp only;omega),hA2,(by simp only;omega),h4,(by simp only [List.length_append];omega),(by simp only;omega),(by simp only [List.length_append] at h7 ⊢;omega),?_⟩,(by simp only;omega),?_,?_⟩)
   all_goals first
     | (rw [← h8];simp only [List.append_assoc];done)
     | ((try simp only [List.cons_append,List.nil_append]);(repeat first|exact FrSub.nil|(apply FrSub.cons;exact rfl));done)
     | (simp only [List.append_assoc];(try simp only [List.cons_append,List.nil_append]);(repeat (first|exact HpSub.refl _|(apply HpSub.consE;(repeat first|exact P0|apply P1);exact rfl)|exact HpSub.nil));done)
theorem byP_neg {x y:Sh}:(byP x.who x.fr y.who y.fr<0)↔ltS x y=true:=by unfold ltS;rw [decide_eq_true_iff]
theorem srt_take {X:List Sh} {k:Nat} {x:Sh} (h:X[k]?=some x):srtS (X.take (k+1))=mrg ltS (srtS (X.take k)) [x]:=by
 rw [List.take_add_one,h];exact srt_snoc _ _
theorem split_last {α:Type} {l:List α} (h:l≠[]):∃ S z,l=S++[z]:=⟨l.dropLast,l.getLast h,(List.dropLast_concat_getLast h).symm⟩
theorem ins_W (g cp n a b:Nat) (P X Q:List Sh) (w:World) (hB:Blk w g (shB (P++(X++Q))) (some (91,3,cp))) (ha:P.length=a) (hb:a+X.length=b) (hn:(P++(X++Q)).length=n) (hn1:n≤1000000) :
   Calls Try.prog 194 #[.slice (some ⟨g,0,none⟩) n cp,.int .i64 (a:Nat),.int .i64 (b:Nat),.func (.func 136) #[] #[]] w fun e w'=>e=.returned (.tuple #[])∧ExtM [g] w w'∧Blk w' g (shB (P++(srtS X++Q))) (some (91,3,cp)):=by
 simp only [List.length_append] at hn
 have h1:srtS (X.take (0+1))++(X.drop (0+1)++Q)=X++Q:=by
   cases X with
   | nil=>rfl
   | cons x X=>simp [srtS,srt,mrg_nil]
 rw [← h1] at hB
 refine enterW (c:=cxM [g] w 53) Try.func194 rfl rfl rfl rfl hB ?_
 repeat' (first|((with_reducible apply oq_id);first|((with_reducible apply oq_addE (k:=((a+1+0:Nat):Int)));exact rfl;exact rfl;omega)|(apply oq_fn;exact rfl;first|exact trivial|(and_intros<;>omega)|omega|skip))|((with_reducible apply tl_id);first|(with_reducible apply tl_nil)|((with_reducible apply u_q);(iterate 4 exact rfl)))|((with_reducible apply t_id);first|(with_reducible apply t_seq)|(apply t_region;kernel_rfl)|(with_reducible apply t_block))|with_reducible apply q_thenN)
 apply t_loopK (ι:=Nat) [0,1,2,3] (fun k=>[(8,.int .i64 ((a+1+k:Nat):Int))]) (fun k=>[(g,shB (P++(srtS (X.take (k+1))++(X.drop (k+1)++Q))),some (91,3,cp))]) (fun k=>k=0∨k+1≤X.length) (fun k=>b-k) (0)
 (repeat (first|exact KeepF.nil|(apply KeepF.cons;exact rfl)|apply KeepF.skip))
 (repeat first|exact FrSub.nil|(apply FrSub.cons;exact rfl))
 (repeat (first|exact HpSub.refl _|(apply HpSub.consE;(repeat first|exact P0|apply P1);exact rfl)|exact HpSub.nil))
 · exact .inl rfl
 rintro k hk
 dsimp only
 by_cases hlt:k+1<X.length
 · obtain ⟨x,hx⟩:∃ x,X[k+1]?=some x:=⟨_,List.getElem?_eq_getElem hlt⟩
   have hxs:=srt_take hx
   have hsl:(srtS (X.take (k+1))).length=k+1:=by rw [srtS,srt_len];simp;omega
   have hso:Srt ltS (srtS (X.take (k+1))):=srt_srt woS _
   obtain ⟨R,hR⟩:∃ R,X.drop (k+1+1)=R:=⟨_,rfl⟩
   have hRl:R.length=X.length-(k+1+1):=by rw [← hR];simp
   have hdr:X.drop (k+1)=x::R:=by
     obtain ⟨h2,h3⟩:=List.getElem?_eq_some_iff.1 hx
     rw [List.drop_eq_getElem_cons h2,h3,hR]
   have e0:P++(srtS (X.take (k+1))++(X.drop (k+1)++Q))=(P++srtS (X.take (k+1)))++x::([]++(R++Q)):=by
     rw [hdr];simp only [List.append_assoc,List.cons_append,List.nil_append]
   rw [e0]
   refine t_cut (ι:=Unit) (fun _=>[(0,.slice (some ⟨g,0,none⟩) n cp),(1,.int .i64 (a:Nat)),(2,.int .i64 (b:Nat)),(3,.func (.func 136) #[] #[]),(8,.int .i64 (a+1+k:Nat))]) (fun _=>[(g,shB ((P++srtS (X.take (k+1)))++x::([]++(R++Q))),some (91,3,cp))]) (fun _=>True) ?_ ?_
   · repeat' (first|((with_reducible apply oq_id);first|((with_reducible apply oq_lssT);exact rfl;exact rfl;omega)|(apply oq_fn;exact rfl;first|exact trivial|(and_intros<;>omega)|omega|skip))|((with_reducible apply tl_id);first|(with_reducible apply tl_nil)|((with_reducible apply u_q);(iterate 4 exact rfl)))|((with_reducible apply t_id);first|(with_reducible apply t_seq)|(apply t_region;kernel_rfl)|((with_reducible apply t_condT);exact rfl)|(with_reducible apply t_skip))|with_reducible apply q_thenN)
     all_goals exact ⟨rfl,(),trivial,by (repeat first|exact FrSub.nil|(apply FrSub.cons;exact rfl)),by (repeat (first|exact HpSub.refl _|(apply HpSub.consE;(repeat first|exact P0|apply P1);exact rfl)|exact HpSub.nil))⟩
   rintro ⟨⟩ -
   refine t_cut (ι:=Unit) (fun _=>[(0,.slice (some ⟨g,0,none⟩) n cp),(1,.int .i64 (a:Nat)),(2,.int .i64 (b:Nat)),(3,.func (.func 136) #[] #[]),(8,.int .i64 (a+1+k:Nat))]) (fun _=>[(g,shB (P++(srtS (X.take (k+1+1))++(X.drop (k+1+1)++Q))),some (91,3,cp))]) (fun _=>True) ?_ ?_
   · repeat' (first|((with_reducible apply oq_id);first|(apply oq_fn;exact rfl;first|exact trivial|(and_intros<;>omega)|omega|skip))|((with_reducible apply tl_id);first|(with_reducible apply tl_nil)|((with_reducible apply u_q);(iterate 4 exact rfl)))|((with_reducible apply t_id);first|(with_reducible apply t_seq)|(apply t_region;kernel_rfl)|(with_reducible apply t_block))|with_reducible apply q_thenN)
     apply t_loopK (ι:=List Sh×List Sh) [0,1,2,3,8,12,13,14,15,16,17] (fun z=>[(9,.int .i64 ((a+z.1.length:Nat):Int)),(8,.int .i64 ((a+1+k:Nat):Int))]) (fun z=>[(g,shB ((P++z.1)++x::(z.2++(R++Q))),some (91,3,cp))]) (fun z=>z.1++z.2=srtS (X.take (k+1))∧∀ y∈z.2,ltS x y=true) (fun z=>z.1.length) ((srtS (X.take (k+1)),[]))
     (repeat (first|exact KeepF.nil|(apply KeepF.cons;exact rfl)|apply KeepF.skip))
     (repeat (first|exact FrSub.nil|(apply FrSub.cons;exact rfl)|(apply FrSub.consE;exact rfl;(simp only [hsl];congr 2;omega))))
     (repeat (first|exact HpSub.refl _|(apply HpSub.consE;(repeat first|exact P0|apply P1);exact rfl)|exact HpSub.nil))
     · exact ⟨List.append_nil _,fun y hy=>by cases hy⟩
     rintro ⟨S1,S2⟩ ⟨hs,hgt⟩
     simp only at hs hgt
     dsimp only
     have hl12:S1.length+S2.length=k+1:=by rw [← hsl,← hs,List.length_append]
     rw [← hs] at hso
     by_cases h0:S1=[]
     · subst h0
       have he:P++(srtS (X.take (k+1+1))++(X.drop (k+1+1)++Q))=(P++[])++x::(S2++(R++Q)):=by
         rw [hxs,← hs,ins_done woS hso (.inl rfl) hgt,hR]
         simp only [List.append_assoc,List.cons_append,List.nil_append,List.append_nil]
       simp only [List.length_nil,Nat.add_zero]
       repeat' (first|((with_reducible apply oq_id);first|((with_reducible apply oq_gtrF);exact rfl;exact rfl;omega)|(apply oq_fn;exact rfl;first|exact trivial|(and_intros<;>omega)|omega|skip))|((with_reducible apply gx_id);first|(with_reducible apply v_nil)|((with_reducible apply v_q);(iterate 3 exact rfl))|((with_reducible apply v_skip);(iterate 3 exact rfl)))|((with_reducible apply t_id);first|(with_reducible apply t_seq)|(apply t_drawn;kernel_rfl;decide +kernel;try simp only [List.append_eq,List.cons_append,List.nil_append])|((with_reducible apply t_condF);exact rfl)|(with_reducible apply t_exit))|with_reducible apply q_thenN|with_reducible apply q_blockN|with_reducible apply q_thenE|((with_reducible apply q_blockE);exact rfl))
       all_goals exact ⟨rfl,(),trivial,by (repeat first|exact FrSub.nil|(apply FrSub.cons;exact rfl)),by (rw [he];(repeat (first|exact HpSub.refl _|(apply HpSub.consE;(repeat first|exact P0|apply P1);exact rfl)|exact HpSub.nil)))⟩
     · obtain ⟨S,z,rfl⟩:=split_last h0
       simp only [List.length_append,List.length_cons,List.length_nil,Nat.zero_add] at hl12 ⊢
       have hst:=ins_step (P:=P) (S:=S) (S2:=S2) (Q:=R++Q) (z:=z) (x:=x)
       rw [ha] at hst
       have hdx:((P++(S++[z]))++x::(S2++(R++Q)))[a+(S.length+1)]?=some x:=get_at (by simp;omega)
       have hdz:((P++(S++[z]))++x::(S2++(R++Q)))[a+S.length]?=some z:=by
         rw [show (P++(S++[z]))++x::(S2++(R++Q))=(P++S)++z::(x::(S2++(R++Q))) by simp only [List.append_assoc,List.cons_append,List.nil_append]]
         exact get_at (by simp;omega)
       obtain ⟨D,hD⟩:∃ D,(P++(S++[z]))++x::(S2++(R++Q))=D:=⟨_,rfl⟩
       rw [hD] at hdx hdz hst ⊢
       have hdx2:(D.set (a+S.length+1) z)[a+S.length]?=some z:=by rw [List.getElem?_set_ne (by omega)];exact hdz
       rw [show a+(S.length+1)=a+S.length+1 by omega] at hdx ⊢
       obtain ⟨q0,q1,q2⟩:=sh_at hdx
       obtain ⟨r0,r1,r2⟩:=sh_at hdz
       have HC:=fun w1=>byPerson_calls x.who x.fr x.to z.who z.fr z.to w1
       obtain ⟨o,ho⟩:∃ o,byP x.who x.fr z.who z.fr=o:=⟨_,rfl⟩
       rw [ho] at HC
       cases hc:ltS x z with
       | true=>
         have HN:o<0:=by rw [← ho];exact byP_neg.2 hc
         repeat' (first|((with_reducible apply oq_id);first|((with_reducible apply oq_subE (k:=((a+S.length:Nat):Int)));exact rfl;exact rfl;omega)|(focus ((with_reducible apply oq_indexAddrN);(iterate 4 exact rfl);omega))|((with_reducible apply oq_gtrT);exact rfl;exact rfl;omega)|((with_reducible apply oq_lssT);exact rfl;exact rfl;omega)|(apply oq_fn;exact rfl;first|exact trivial|(and_intros<;>omega)|omega|skip)|((with_reducible apply oq_loadAgg);exact rfl;exact rfl)|((with_reducible apply oq_call (hc:=Try.call136));exact rfl;exact rfl;exact fun D w1 hw1=>HC w1))|((with_reducible apply tl_id);first|(with_reducible apply tl_nil)|((with_reducible apply u_q);(iterate 4 exact rfl)))|((with_reducible apply gx_id);first|(with_reducible apply v_nil)|((with_reducible apply v_q);(iterate 3 exact rfl)))|((with_reducible apply os_id);first|((with_reducible apply (os_storeSh z hdx rfl));(iterate 3 exact rfl);(repeat first|exact P0|apply P1))|((with_reducible apply (os_storeSh x hdx2 hst));(iterate 3 exact rfl);(repeat first|exact P0|apply P1)))|((with_reducible apply ai_id);first|((with_reducible apply ai_q);(iterate 5 exact rfl))|((with_reducible apply ai_n0);(iterate 3 exact rfl)))|((with_reducible apply al_keep);focus (repeat (first|exact HpSub.refl _|(apply HpSub.cons;(repeat first|exact P0|apply P1))|apply HpSub.skipX|exact HpSub.nil)))|((with_reducible apply rd_id);first|(apply Rd.own;(repeat first|exact P0|apply P1);with_reducible (first|exact q0|exact q1|exact q2|exact r0|exact r1|exact r2);done))|((with_reducible apply t_id);first|(apply t_mixZ (id:=6) [0,1,2,3,4,5,6,7,8,10,11,12] 6;kernel_rfl;kernel_rfl;exact rfl)|(with_reducible apply t_seq)|(apply t_region;kernel_rfl)|(apply t_drawn;kernel_rfl;decide +kernel;try simp only [List.append_eq,List.cons_append,List.nil_append])|((with_reducible apply t_condT);exact rfl)|(with_reducible apply t_skip)|(with_reducible apply t_block))|with_reducible apply q_thenN|with_reducible apply q_blockN|exact Rdn.zero|apply Rdn.succ|((with_reducible apply al_id);first|(apply al_done;decide +kernel)|(apply al_one 9;decide +kernel)|(apply al_one 13;decide +kernel)|(apply al_one 14;decide +kernel)|(apply al_one 15;decide +kernel)|(apply al_one 16;decide +kernel)|(apply al_one 17;decide +kernel)|(apply al_two 9 13;decide +kernel)))
         all_goals (refine ⟨(S,z::S2),⟨(by rw [← hs];simp only [List.append_assoc,List.cons_append,List.nil_append]),fun y hy=>?_⟩,(by simp only [List.length_append,List.length_cons,List.length_nil];omega),?_,?_⟩)
         all_goals first
           | ((try simp only [List.cons_append,List.nil_append]);(repeat first|exact FrSub.nil|(apply FrSub.cons;exact rfl));done)
           | ((try simp only [List.cons_append,List.nil_append]);(repeat (first|exact HpSub.refl _|(apply HpSub.consE;(repeat first|exact P0|apply P1);exact rfl)|exact HpSub.nil));done)
           | (rcases List.mem_cons.1 hy with rfl|hy;exact hc;exact hgt y hy)
       | false=>
         have he:P++(srtS (X.take (k+1+1))++(X.drop (k+1+1)++Q))=(P++(S++[z]))++x::(S2++(R++Q)):=by
           rw [hxs,← hs,ins_done woS hso (.inr ⟨S,z,rfl,hc⟩) hgt,hR]
           simp only [List.append_assoc,List.cons_append,List.nil_append]
         have HN:¬ o<0:=by rw [← ho];intro h;rw [byP_neg,hc] at h;cases h
         repeat' (first|((with_reducible apply oq_id);first|((with_reducible apply oq_subE (k:=((a+S.length:Nat):Int)));exact rfl;exact rfl;omega)|(focus ((with_reducible apply oq_indexAddrN);(iterate 4 exact rfl);omega))|((with_reducible apply oq_gtrT);exact rfl;exact rfl;omega)|((with_reducible apply oq_lssF);exact rfl;exact rfl;omega)|(apply oq_fn;exact rfl;first|exact trivial|(and_intros<;>omega)|omega|skip)|((with_reducible apply oq_loadAgg);exact rfl;exact rfl)|((with_reducible apply oq_call (hc:=Try.call136));exact rfl;exact rfl;exact fun D w1 hw1=>HC w1))|((with_reducible apply gx_id);first|(with_reducible apply v_nil)|((with_reducible apply v_q);(iterate 3 exact rfl)))|((with_reducible apply rd_id);first|(apply Rd.own;(repeat first|exact P0|apply P1);with_reducible (first|exact q0|exact q1|exact q2|exact r0|exact r1|exact r2);done))|((with_reducible apply t_id);first|(with_reducible apply t_seq)|(apply t_drawn;kernel_rfl;decide +kernel;try simp only [List.append_eq,List.cons_append,List.nil_append])|((with_reducible apply t_condF);exact rfl)|(with_reducible apply t_exit))|with_reducible apply q_thenN|with_reducible apply q_blockN|with_reducible apply q_thenE|((with_reducible apply q_blockE);exact rfl)|exact Rdn.zero|apply Rdn.succ)
         all_goals exact ⟨rfl,(),trivial,by (repeat first|exact FrSub.nil|(apply FrSub.cons;exact rfl)),by (rw [he,hD];(repeat (first|exact HpSub.refl _|(apply HpSub.consE;(repeat first|exact P0|apply P1);exact rfl)|exact HpSub.nil)))⟩
   · rintro ⟨⟩ -
     repeat' (first|((with_reducible apply oq_id);first|((with_reducible apply oq_addE (k:=((a+1+(k+1):Nat):Int)));exact rfl;exact rfl;omega)|(apply oq_fn;exact rfl;first|exact trivial|(and_intros<;>omega)|omega|skip))|((with_reducible apply tl_id);first|(with_reducible apply tl_nil)|((with_reducible apply u_q);(iterate 4 exact rfl)))|((with_reducible apply t_id);first|(apply t_region;kernel_rfl))|with_reducible apply q_thenN)
     all_goals (refine ⟨(k+1),(by omega),(by omega),?_,?_⟩<;>(try simp only [List.cons_append,List.nil_append])<;>(repeat' (first|exact FrSub.nil|(apply FrSub.cons;exact rfl)|exact HpSub.refl _)))
 · have hkx:srtS (X.take (k+1))++(X.drop (k+1)++Q)=srtS X++Q:=by
     rw [List.take_of_length_le (by omega),List.drop_of_length_le (by omega)];rfl
   rw [hkx]
   repeat' (first|((with_reducible apply oq_id);first|((with_reducible apply oq_lssF);exact rfl;exact rfl;omega)|(apply oq_fn;exact rfl;first|exact trivial|(and_intros<;>omega)|omega|skip))|((with_reducible apply tl_id);first|(with_reducible apply tl_nil)|((with_reducible apply u_q);(iterate 4 exact rfl)))|((with_reducible apply t_id);first|(with_reducible apply t_seq)|(apply t_region;kernel_rfl)|((with_reducible apply t_condF);exact rfl)|(with_reducible apply t_exit))|with_reducible apply q_thenN|with_reducible apply q_thenE|((with_reducible apply q_blockE);exact rfl)|(with_reducible apply end_normal)|exact rvs_nil)
   all_goals exact ⟨rfl,by (repeat (first|exact HpSub.refl _|(apply HpSub.consE;(repeat first|exact P0|apply P1);exact rfl)|exact HpSub.nil))⟩
end Go.Proofs.Ytcjkndjjbjoehaa
namespace Go.Proofs.Ytcjkndjjbjoehaa
section
variable {α:Type} {lt:α→α→Bool}
theorem get_seg {P U R:List α} {a q:Nat} {x:α} (ha:P.length=a) (h:U[q]?=some x):(P++(U++R))[a+q]?=some x:=by
 subst ha
 have:=(List.getElem?_eq_some_iff.1 h).1
 rw [List.getElem?_append_right (by omega),show P.length+q-P.length=q by omega,List.getElem?_append_left this,h]
theorem get_seg2 {P U V R:List α} {m q:Nat} {x:α} (ha:P.length+U.length=m) (h:V[q]?=some x):(P++(U++(V++R)))[m+q]?=some x:=by
 rw [← List.append_assoc]
 exact get_seg (by simp;omega) h
theorem srt_le (hw:Wo lt) {V:List α} (hV:Srt lt V) {i j:Nat} {x y:α} (hij:i≤j) (hx:V[i]?=some x) (hy:V[j]?=some y):lt y x=false:=by
 obtain ⟨h1,rfl⟩:=List.getElem?_eq_some_iff.1 hx
 obtain ⟨h2,rfl⟩:=List.getElem?_eq_some_iff.1 hy
 by_cases h:i=j
 · subst h;exact hw.irr _
 · exact List.pairwise_iff_getElem.1 hV i j h1 h2 (by omega)
theorem mrg_one (hw:Wo lt) {V:List α} {x:α} {i:Nat} (hV:Srt lt V) (h1:i=0∨∃ y,V[i-1]?=some y∧lt y x=true) (h2:i=V.length∨∃ y,V[i]?=some y∧lt y x=false):mrg lt [x] V=V.take i++x::V.drop i:=by
 have a1:∀ y∈V.take i,lt y x=true:=fun y hy=>by
   obtain ⟨k,hk,rfl⟩:=List.getElem_of_mem hy
   rw [List.getElem_take]
   simp only [List.length_take] at hk
   rcases h1 with h1|⟨z,hz,hzx⟩
   · omega
   · have:=srt_le hw hV (show k≤i-1 by omega) (List.getElem?_eq_getElem (by omega)) hz
     cases hc:lt V[k] x with
     | true=>rfl
     | false=>
       have:=hw.tr _ _ _ hc this
       rw [hzx] at this;cases this
 have a2:∀ y∈V.drop i,lt y x=false:=fun y hy=>by
   obtain ⟨k,hk,rfl⟩:=List.getElem_of_mem hy
   rw [List.getElem_drop]
   simp only [List.length_drop] at hk
   rcases h2 with h2|⟨z,hz,hzx⟩
   · omega
   · exact hw.tr _ _ _ hzx (srt_le hw hV (show i≤i+k by omega) hz (List.getElem?_eq_getElem (by omega)))
 have key:=mrg_split (lt:=lt) [] (V.take i) [x] (V.drop i) (by simp) (fun y hy z hz=>by rw [List.mem_singleton.1 hz];exact a1 y hy)
 have h3:mrg lt [x] (V.drop i)=[x]++V.drop i:=mrg_app (fun y hy z hz=>by rw [List.mem_singleton.1 hy];exact a2 z hz)
 rw [List.nil_append,List.take_append_drop,mrg_nil,h3] at key
 exact key
theorem mrg_last (hw:Wo lt) {U:List α} {y:α} {i:Nat} (hi:i≤U.length) (hU:Srt lt U) (h1:i=0∨∃ x,U[i-1]?=some x∧lt y x=false) (h2:i=U.length∨∃ x,U[i]?=some x∧lt y x=true):mrg lt U [y]=U.take i++y::U.drop i:=by
 have key:=ins_done hw (S1:=U.take i) (S2:=U.drop i) (x:=y) (by rw [List.take_append_drop];exact hU) ?_ ?_
 · rw [List.take_append_drop] at key
   exact key
 · rcases h1 with rfl|⟨x,hx,hyx⟩
   · exact .inl rfl
   · by_cases h0:i=0
     · subst h0;exact .inl rfl
     · right
       refine ⟨U.take (i-1),x,?_,hyx⟩
       have:=List.take_add_one (l:=U) (i:=i-1)
       rw [hx,show i-1+1=i by omega] at this
       exact this
 · intro z hz
   obtain ⟨k,hk,rfl⟩:=List.getElem_of_mem hz
   rw [List.getElem_drop]
   simp only [List.length_drop] at hk
   rcases h2 with h2|⟨x,hx,hyx⟩
   · omega
   · have:=srt_le hw hU (show i≤i+k by omega) hx (List.getElem?_eq_getElem (by omega))
     cases hc:lt y U[i+k] with
     | true=>rfl
     | false=>
       have:=hw.tr _ _ _ this hc
       rw [hyx] at this;cases this
theorem mov_step {P V Q:List α} {k:Nat} {x y:α} (hy:V[k]?=some y):(P++(V.take k++x::(V.drop k++Q)))[P.length+k]?=some x∧(P++(V.take k++x::(V.drop k++Q)))[P.length+k+1]?=some y ∧
   ((P++(V.take k++x::(V.drop k++Q))).set (P.length+k) y).set (P.length+k+1) x=P++(V.take (k+1)++x::(V.drop (k+1)++Q)):=by
 obtain ⟨hk,he⟩:=List.getElem?_eq_some_iff.1 hy
 have e1:V.drop k=y::V.drop (k+1):=by rw [List.drop_eq_getElem_cons hk,he]
 have e2:V.take (k+1)=V.take k++[y]:=by rw [List.take_add_one,hy];rfl
 have l1:(P++V.take k).length=P.length+k:=by simp;omega
 have e:P++(V.take k++x::(V.drop k++Q))=(P++V.take k)++x::([]++y::(V.drop (k+1)++Q)):=by rw [e1];simp only [List.append_assoc,List.cons_append,List.nil_append]
 refine ⟨?_,?_,?_⟩
 · rw [e];exact get_at l1
 · rw [e];exact get_at2 (by rw [l1];simp)
 · have h:=swp_at (P:=P++V.take k) (M:=[]) (Q:=V.drop (k+1)++Q) (x:=x) (y:=y)
   rw [l1] at h
   simp only [List.length_nil,Nat.add_zero] at h
   rw [e,h,e2]
   simp only [List.append_assoc,List.cons_append,List.nil_append]
theorem mov_back {P U Q:List α} {k:Nat} {x y:α} (hx:U[k]?=some x):(P++(U.take (k+1)++y::(U.drop (k+1)++Q)))[P.length+k+1]?=some y∧(P++(U.take (k+1)++y::(U.drop (k+1)++Q)))[P.length+k]?=some x ∧
   ((P++(U.take (k+1)++y::(U.drop (k+1)++Q))).set (P.length+k+1) x).set (P.length+k) y=P++(U.take k++y::(U.drop k++Q)):=by
 obtain ⟨hk,he⟩:=List.getElem?_eq_some_iff.1 hx
 have e1:U.drop k=x::U.drop (k+1):=by rw [List.drop_eq_getElem_cons hk,he]
 have e2:U.take (k+1)=U.take k++[x]:=by rw [List.take_add_one,hx];rfl
 have l1:(P++U.take k).length=P.length+k:=by simp;omega
 have e:P++(U.take (k+1)++y::(U.drop (k+1)++Q))=(P++U.take k)++x::([]++y::(U.drop (k+1)++Q)):=by rw [e2];simp only [List.append_assoc,List.cons_append,List.nil_append]
 refine ⟨?_,?_,?_⟩
 · rw [e];exact get_at2 (by rw [l1];simp)
 · rw [e];exact get_at l1
 · have h:=swp_at (P:=P++U.take k) (M:=[]) (Q:=U.drop (k+1)++Q) (x:=x) (y:=y)
   rw [l1] at h
   simp only [List.length_nil,Nat.add_zero] at h
   rw [e,List.set_comm _ _ (by omega),h,e1]
   simp only [List.append_assoc,List.cons_append,List.nil_append]
end
end Go.Proofs.Ytcjkndjjbjoehaa
namespace Go.Proofs.Ytcjkndjjbjoehaa
open Go.RowKit
attribute [local irreducible] OQ OS OX Rd T TL GX GL AL AI RV wpG SAny Calls
theorem oq_shrE {c:Cx} {F:Fr} {H:Hp} {d:Option Tmp} {ty t t':TypeId} {pos:String} {af:Array Edge} {g:Option (Nat×Bool)} {x y:Operand} {m:Int} {k':IntKind} {a r:Nat} (hx:ev F x=some (.int .u64 m)) (hy:ev F y=some (.int k' 1)) (e:m=(a:Int)) (e2:a / 2=r):OQ c ⟨d,.binOp .shr t x y t',ty,pos,af,g⟩ F H (.int .u64 (r:Nat)):=
 e2 ▸ oq_shr1N hx hy e
theorem sym1_W (g cp n a m b:Nat) (x:Sh) (P V Q:List Sh) (w:World) (hB:Blk w g (shB (P++([x]++(V++Q)))) (some (91,3,cp))) (hV:Srt ltS V) (ha:P.length=a) (hm:a+1=m) (hb:m+V.length=b) (hn:(P++([x]++(V++Q))).length=n) (hn1:n≤1000000) :
   Calls Try.prog 195 #[.slice (some ⟨g,0,none⟩) n cp,.int .i64 (a:Nat),.int .i64 (m:Nat),.int .i64 (b:Nat),.func (.func 136) #[] #[]] w fun e w'=>e=.returned (.tuple #[])∧ExtM [g] w w'∧Blk w' g (shB (P++(mrg ltS [x] V++Q))) (some (91,3,cp)):=by
 simp only [List.length_append,List.length_cons,List.length_nil] at hn
 have hda:(P++([x]++(V++Q)))[a]?=some x:=by rw [← ha];simp
 refine enterW (c:=cxM [g] w 220) Try.func195 rfl rfl rfl rfl hB ?_
 repeat' (first|((with_reducible apply oq_id);first|((with_reducible apply oq_subE (k:=((m-a:Nat):Int)));exact rfl;exact rfl;omega)|((with_reducible apply oq_eqlT);exact rfl;exact rfl;omega)|(apply oq_fn;exact rfl;first|exact trivial|(and_intros<;>omega)|omega|skip))|((with_reducible apply tl_id);first|(with_reducible apply tl_nil)|((with_reducible apply u_q);(iterate 4 exact rfl)))|((with_reducible apply t_id);first|(with_reducible apply t_seq)|(apply t_region;kernel_rfl)|((with_reducible apply t_condT);exact rfl)|(with_reducible apply t_block))|with_reducible apply q_thenN)
 apply t_loopK (ι:=Nat×Nat) [0,1,2,3,4] (fun z=>[(10,.int .i64 ((m+z.1:Nat):Int)),(11,.int .i64 ((m+z.2:Nat):Int))]) (fun _=>[(g,shB (P++([x]++(V++Q))),some (91,3,cp))]) (fun z=>z.1≤z.2∧z.2≤V.length∧(z.1=0∨∃ y,V[z.1-1]?=some y∧ltS y x=true)∧(z.2=V.length∨∃ y,V[z.2]?=some y∧ltS y x=false)) (fun z=>z.2-z.1) ((0,V.length))
 (repeat (first|exact KeepF.nil|(apply KeepF.cons;exact rfl)|apply KeepF.skip))
 (repeat (first|exact FrSub.nil|(apply FrSub.cons;exact rfl)|(apply FrSub.consE;exact rfl;(congr 2;first|omega|(simp only;omega)))))
 (repeat (first|exact HpSub.refl _|(apply HpSub.consE;(repeat first|exact P0|apply P1);exact rfl)|exact HpSub.nil))
 · exact ⟨Nat.zero_le _,Nat.le_refl _,.inl rfl,.inl rfl⟩
 rintro ⟨i,j⟩ ⟨h1,h2,h3,h4⟩
 simp only at h1 h2 h3 h4
 try dsimp only
 by_cases hij:i<j
 · obtain ⟨q,hq⟩:∃ q,q=(i+j) / 2:=⟨_,rfl⟩
   obtain ⟨y,hy⟩:∃ y,V[q]?=some y:=⟨_,List.getElem?_eq_getElem (by omega)⟩
   have hdy:(P++([x]++(V++Q)))[m+q]?=some y:=get_seg2 (by simp only [List.length_cons,List.length_nil];omega) hy
   obtain ⟨D,hD⟩:∃ D,P++([x]++(V++Q))=D:=⟨_,rfl⟩
   rw [hD] at hda hdy ⊢
   obtain ⟨q0,q1,q2⟩:=sh_at hda
   obtain ⟨r0,r1,r2⟩:=sh_at hdy
   have HC:=fun w1=>byPerson_calls y.who y.fr y.to x.who x.fr x.to w1
   obtain ⟨o,ho⟩:∃ o,byP y.who y.fr x.who x.fr=o:=⟨_,rfl⟩
   rw [ho] at HC
   cases hc:ltS y x with
   | true=>
     have HN:o<0:=by rw [← ho];exact byP_neg.2 hc
     repeat' (first|((with_reducible apply oq_id);first|((with_reducible apply oq_addE (k:=((m+i+(m+j):Nat):Int)));exact rfl;exact rfl;omega)|((with_reducible apply oq_addE (k:=((m+(q+1):Nat):Int)));exact rfl;exact rfl;omega)|(focus ((with_reducible apply (oq_shrE (a:=m+i+(m+j)) (r:=m+q)));exact rfl;exact rfl;omega;omega))|(focus ((with_reducible apply oq_convU);(iterate 3 exact rfl);(refine ⟨?_,?_⟩<;>omega)))|(focus ((with_reducible apply oq_indexAddrN);(iterate 4 exact rfl);omega))|((with_reducible apply oq_lssT);exact rfl;exact rfl;omega)|(apply oq_fn;exact rfl;first|exact trivial|(and_intros<;>omega)|omega|skip)|((with_reducible apply oq_loadAgg);exact rfl;exact rfl)|((with_reducible apply oq_call (hc:=Try.call136));exact rfl;exact rfl;exact fun D w1 hw1=>HC w1))|((with_reducible apply tl_id);first|(with_reducible apply tl_nil)|((with_reducible apply u_q);(iterate 4 exact rfl)))|((with_reducible apply gx_id);first|(with_reducible apply v_nil)|((with_reducible apply v_q);(iterate 3 exact rfl)))|((with_reducible apply rd_id);first|(apply Rd.own;(repeat first|exact P0|apply P1);with_reducible (first|exact q0|exact q1|exact q2|exact r0|exact r1|exact r2);done))|((with_reducible apply t_id);first|(with_reducible apply t_seq)|(apply t_region;kernel_rfl)|(apply t_drawn;kernel_rfl;decide +kernel;try simp only [List.append_eq,List.cons_append,List.nil_append])|((with_reducible apply t_condT);exact rfl)|(with_reducible apply t_skip)|(with_reducible apply t_block))|with_reducible apply q_thenN|with_reducible apply q_blockN|exact Rdn.zero|apply Rdn.succ)
     all_goals (refine ⟨(q+1,j),(by refine ⟨(by simp only;omega),h2,.inr ⟨y,(by simpa using hy),hc⟩,h4⟩),(by simp only;omega),?_,?_⟩<;>(try simp only [List.cons_append,List.nil_append])<;>(repeat' (first|exact FrSub.nil|(apply FrSub.cons;exact rfl)|exact HpSub.refl _)))
   | false=>
     have HN:¬ o<0:=by rw [← ho];intro h;rw [byP_neg,hc] at h;cases h
     repeat' (first|((with_reducible apply oq_id);first|((with_reducible apply oq_addE (k:=((m+i+(m+j):Nat):Int)));exact rfl;exact rfl;omega)|(focus ((with_reducible apply (oq_shrE (a:=m+i+(m+j)) (r:=m+q)));exact rfl;exact rfl;omega;omega))|(focus ((with_reducible apply oq_convU);(iterate 3 exact rfl);(refine ⟨?_,?_⟩<;>omega)))|(focus ((with_reducible apply oq_indexAddrN);(iterate 4 exact rfl);omega))|((with_reducible apply oq_lssT);exact rfl;exact rfl;omega)|((with_reducible apply oq_lssF);exact rfl;exact rfl;omega)|(apply oq_fn;exact rfl;first|exact trivial|(and_intros<;>omega)|omega|skip)|((with_reducible apply oq_loadAgg);exact rfl;exact rfl)|((with_reducible apply oq_call (hc:=Try.call136));exact rfl;exact rfl;exact fun D w1 hw1=>HC w1))|((with_reducible apply tl_id);first|(with_reducible apply tl_nil)|((with_reducible apply u_q);(iterate 4 exact rfl)))|((with_reducible apply gx_id);first|(with_reducible apply v_nil)|((with_reducible apply v_q);(iterate 3 exact rfl)))|((with_reducible apply rd_id);first|(apply Rd.own;(repeat first|exact P0|apply P1);with_reducible (first|exact q0|exact q1|exact q2|exact r0|exact r1|exact r2);done))|((with_reducible apply t_id);first|(with_reducible apply t_seq)|(apply t_region;kernel_rfl)|(apply t_drawn;kernel_rfl;decide +kernel;try simp only [List.append_eq,List.cons_append,List.nil_append])|((with_reducible apply t_condT);exact rfl)|((with_reducible apply t_condF);exact rfl)|(with_reducible apply t_skip)|(with_reducible apply t_block))|with_reducible apply q_thenN|with_reducible apply q_blockN|exact Rdn.zero|apply Rdn.succ)
     all_goals (refine ⟨(i,q),(by refine ⟨(by simp only;omega),(by simp only;omega),h3,.inr ⟨y,hy,hc⟩⟩),(by simp only;omega),?_,?_⟩<;>(try simp only [List.cons_append,List.nil_append])<;>(repeat' (first|exact FrSub.nil|(apply FrSub.cons;exact rfl)|exact HpSub.refl _)))
 · obtain rfl:i=j:=by omega
   rw [mrg_one woS hV h3 h4,List.append_assoc,List.cons_append]
   repeat' (first|((with_reducible apply oq_id);first|((with_reducible apply oq_lssF);exact rfl;exact rfl;omega)|(apply oq_fn;exact rfl;first|exact trivial|(and_intros<;>omega)|omega|skip))|((with_reducible apply tl_id);first|(with_reducible apply tl_nil)|((with_reducible apply u_q);(iterate 4 exact rfl)))|((with_reducible apply t_id);first|(with_reducible apply t_seq)|(apply t_region;kernel_rfl)|((with_reducible apply t_condF);exact rfl)|(with_reducible apply t_exit)|(with_reducible apply t_block))|with_reducible apply q_thenN|with_reducible apply q_thenE|((with_reducible apply q_blockE);exact rfl))
   apply t_loopK (ι:=Nat) [0,1,2,3,4,10] (fun k=>[(13,.int .i64 ((a+k:Nat):Int))]) (fun k=>[(g,shB (P++(V.take k++x::(V.drop k++Q))),some (91,3,cp))]) (fun k=>k≤i) (fun k=>i-k) (0)
   (repeat (first|exact KeepF.nil|(apply KeepF.cons;exact rfl)|apply KeepF.skip))
   (repeat (first|exact FrSub.nil|(apply FrSub.cons;exact rfl)|(apply FrSub.consE;exact rfl;(congr 2;first|omega|(simp only;omega)))))
   (repeat (first|exact HpSub.refl _|(apply HpSub.consE;(repeat first|exact P0|apply P1);exact rfl)|exact HpSub.nil))
   · exact Nat.zero_le _
   rintro k hk
   try dsimp only
   by_cases hki:k<i
   · obtain ⟨y,hy⟩:∃ y,V[k]?=some y:=⟨_,List.getElem?_eq_getElem (by omega)⟩
     obtain ⟨hdx,hdy,hst⟩:=mov_step (P:=P) (Q:=Q) (x:=x) hy
     rw [ha] at hdx hdy hst
     obtain ⟨D,hD⟩:∃ D,P++(V.take k++x::(V.drop k++Q))=D:=⟨_,rfl⟩
     rw [hD] at hdx hdy hst ⊢
     have hdy2:(D.set (a+k) y)[a+k+1]?=some y:=by rw [List.getElem?_set_ne (by omega)];exact hdy
     obtain ⟨q0,q1,q2⟩:=sh_at hdx
     obtain ⟨r0,r1,r2⟩:=sh_at hdy
     repeat' (first|((with_reducible apply oq_id);first|((with_reducible apply oq_subE (k:=((m+i-1:Nat):Int)));exact rfl;exact rfl;omega)|((with_reducible apply oq_addE (k:=((a+k+1:Nat):Int)));exact rfl;exact rfl;omega)|(focus ((with_reducible apply oq_indexAddrN);(iterate 4 exact rfl);omega))|((with_reducible apply oq_lssT);exact rfl;exact rfl;omega)|(apply oq_fn;exact rfl;first|exact trivial|(and_intros<;>omega)|omega|skip)|((with_reducible apply oq_loadAgg);exact rfl;exact rfl))|((with_reducible apply tl_id);first|(with_reducible apply tl_nil)|((with_reducible apply u_q);(iterate 4 exact rfl)))|((with_reducible apply gx_id);first|(with_reducible apply v_nil)|((with_reducible apply v_q);(iterate 3 exact rfl)))|((with_reducible apply os_id);first|((with_reducible apply (os_storeSh y hdx rfl));(iterate 3 exact rfl);(repeat first|exact P0|apply P1))|((with_reducible apply (os_storeSh x hdy2 hst));(iterate 3 exact rfl);(repeat first|exact P0|apply P1)))|((with_reducible apply ai_id);first|((with_reducible apply ai_q);(iterate 5 exact rfl))|((with_reducible apply ai_n0);(iterate 3 exact rfl)))|((with_reducible apply al_keep);focus (repeat (first|exact HpSub.refl _|(apply HpSub.cons;(repeat first|exact P0|apply P1))|apply HpSub.skipX|exact HpSub.nil)))|((with_reducible apply rd_id);first|(apply Rd.own;(repeat first|exact P0|apply P1);with_reducible (first|exact q0|exact q1|exact q2|exact r0|exact r1|exact r2);done))|((with_reducible apply t_id);first|(apply t_mixZ (id:=11) [0,1,2,3,4,5,6,7,8,10,11,12] 6;kernel_rfl;kernel_rfl;exact rfl)|(with_reducible apply t_seq)|(apply t_region;kernel_rfl)|((with_reducible apply t_condT);exact rfl)|(with_reducible apply t_skip)|(with_reducible apply t_block))|with_reducible apply q_thenN|with_reducible apply q_blockN|exact Rdn.zero|apply Rdn.succ|((with_reducible apply al_id);first|(apply al_done;decide +kernel)|(apply al_one 9;decide +kernel)|(apply al_one 13;decide +kernel)|(apply al_one 14;decide +kernel)|(apply al_one 15;decide +kernel)|(apply al_one 16;decide +kernel)|(apply al_one 17;decide +kernel)|(apply al_two 9 13;decide +kernel)))
     all_goals (refine ⟨(k+1),(by omega),(by omega),?_,?_⟩<;>(try simp only [List.cons_append,List.nil_append])<;>(repeat' (first|exact FrSub.nil|(apply FrSub.cons;exact rfl)|exact HpSub.refl _)))
   · obtain rfl:k=i:=by omega
     repeat' (first|((with_reducible apply oq_id);first|((with_reducible apply oq_subE (k:=((m+k-1:Nat):Int)));exact rfl;exact rfl;omega)|((with_reducible apply oq_lssF);exact rfl;exact rfl;omega)|(apply oq_fn;exact rfl;first|exact trivial|(and_intros<;>omega)|omega|skip))|((with_reducible apply tl_id);first|(with_reducible apply tl_nil)|((with_reducible apply u_q);(iterate 4 exact rfl)))|((with_reducible apply t_id);first|(with_reducible apply t_seq)|(apply t_region;kernel_rfl)|((with_reducible apply t_condF);exact rfl)|(with_reducible apply t_ret)|(with_reducible apply t_exit))|with_reducible apply q_thenN|with_reducible apply q_thenR|with_reducible apply q_thenE|((with_reducible apply q_blockE);exact rfl)|(with_reducible apply end_ret)|exact rvs_nil)
     all_goals exact ⟨rfl,by (repeat (first|exact HpSub.refl _|(apply HpSub.consE;(repeat first|exact P0|apply P1);exact rfl)|exact HpSub.nil))⟩
theorem sym2_W (g cp n a m b:Nat) (y:Sh) (P U Q:List Sh) (w:World) (hB:Blk w g (shB (P++(U++([y]++Q)))) (some (91,3,cp))) (hU:Srt ltS U) (hU1:U.length≠1) (ha:P.length=a) (hm:a+U.length=m) (hb:m+1=b) (hn:(P++(U++([y]++Q))).length=n) (hn1:n≤1000000) :
   Calls Try.prog 195 #[.slice (some ⟨g,0,none⟩) n cp,.int .i64 (a:Nat),.int .i64 (m:Nat),.int .i64 (b:Nat),.func (.func 136) #[] #[]] w fun e w'=>e=.returned (.tuple #[])∧ExtM [g] w w'∧Blk w' g (shB (P++(mrg ltS U [y]++Q))) (some (91,3,cp)):=by
 simp only [List.length_append,List.length_cons,List.length_nil] at hn
 have hdm:(P++(U++([y]++Q)))[m]?=some y:=by
   have:=get_seg2 (P:=P) (U:=U) (V:=[y]) (R:=Q) (m:=m) (q:=0) (x:=y) (by omega) rfl
   simpa using this
 refine enterW (c:=cxM [g] w 220) Try.func195 rfl rfl rfl rfl hB ?_
 repeat' (first|((with_reducible apply oq_id);first|((with_reducible apply oq_subE (k:=((m-a:Nat):Int)));exact rfl;exact rfl;omega)|((with_reducible apply oq_subE (k:=((b-m:Nat):Int)));exact rfl;exact rfl;omega)|((with_reducible apply oq_eqlT);exact rfl;exact rfl;omega)|((with_reducible apply oq_eqlF);exact rfl;exact rfl;omega)|(apply oq_fn;exact rfl;first|exact trivial|(and_intros<;>omega)|omega|skip))|((with_reducible apply tl_id);first|(with_reducible apply tl_nil)|((with_reducible apply u_q);(iterate 4 exact rfl)))|((with_reducible apply t_id);first|(with_reducible apply t_seq)|(apply t_region;kernel_rfl)|((with_reducible apply t_condT);exact rfl)|((with_reducible apply t_condF);exact rfl)|(with_reducible apply t_skip)|(with_reducible apply t_block))|with_reducible apply q_thenN)
 apply t_loopK (ι:=Nat×Nat) [0,1,2,3,4] (fun z=>[(14,.int .i64 ((a+z.1:Nat):Int)),(15,.int .i64 ((a+z.2:Nat):Int))]) (fun _=>[(g,shB (P++(U++([y]++Q))),some (91,3,cp))]) (fun z=>z.1≤z.2∧z.2≤U.length∧(z.1=0∨∃ x,U[z.1-1]?=some x∧ltS y x=false)∧(z.2=U.length∨∃ x,U[z.2]?=some x∧ltS y x=true)) (fun z=>z.2-z.1) ((0,U.length))
 (repeat (first|exact KeepF.nil|(apply KeepF.cons;exact rfl)|apply KeepF.skip))
 (repeat (first|exact FrSub.nil|(apply FrSub.cons;exact rfl)|(apply FrSub.consE;exact rfl;(congr 2;first|omega|(simp only;omega)))))
 (repeat (first|exact HpSub.refl _|(apply HpSub.consE;(repeat first|exact P0|apply P1);exact rfl)|exact HpSub.nil))
 · exact ⟨Nat.zero_le _,Nat.le_refl _,.inl rfl,.inl rfl⟩
 rintro ⟨i,j⟩ ⟨h1,h2,h3,h4⟩
 simp only at h1 h2 h3 h4
 try dsimp only
 by_cases hij:i<j
 · obtain ⟨q,hq⟩:∃ q,q=(i+j) / 2:=⟨_,rfl⟩
   obtain ⟨x,hx⟩:∃ x,U[q]?=some x:=⟨_,List.getElem?_eq_getElem (by omega)⟩
   have hdx:(P++(U++([y]++Q)))[a+q]?=some x:=get_seg ha hx
   obtain ⟨D,hD⟩:∃ D,P++(U++([y]++Q))=D:=⟨_,rfl⟩
   rw [hD] at hdm hdx ⊢
   obtain ⟨q0,q1,q2⟩:=sh_at hdm
   obtain ⟨r0,r1,r2⟩:=sh_at hdx
   have HC:=fun w1=>byPerson_calls y.who y.fr y.to x.who x.fr x.to w1
   obtain ⟨o,ho⟩:∃ o,byP y.who y.fr x.who x.fr=o:=⟨_,rfl⟩
   rw [ho] at HC
   cases hc:ltS y x with
   | true=>
     have HN:o<0:=by rw [← ho];exact byP_neg.2 hc
     repeat' (first|((with_reducible apply oq_id);first|((with_reducible apply oq_addE (k:=((a+i+(a+j):Nat):Int)));exact rfl;exact rfl;omega)|(focus ((with_reducible apply (oq_shrE (a:=a+i+(a+j)) (r:=a+q)));exact rfl;exact rfl;omega;omega))|(focus ((with_reducible apply oq_convU);(iterate 3 exact rfl);(refine ⟨?_,?_⟩<;>omega)))|(focus ((with_reducible apply oq_indexAddrN);(iterate 4 exact rfl);omega))|((with_reducible apply oq_lssT);exact rfl;exact rfl;omega)|(apply oq_fn;exact rfl;first|exact trivial|(and_intros<;>omega)|omega|skip)|((with_reducible apply oq_loadAgg);exact rfl;exact rfl)|((with_reducible apply oq_call (hc:=Try.call136));exact rfl;exact rfl;exact fun D w1 hw1=>HC w1))|((with_reducible apply tl_id);first|(with_reducible apply tl_nil)|((with_reducible apply u_q);(iterate 4 exact rfl)))|((with_reducible apply gx_id);first|(with_reducible apply v_nil)|((with_reducible apply v_q);(iterate 3 exact rfl)))|((with_reducible apply rd_id);first|(apply Rd.own;(repeat first|exact P0|apply P1);with_reducible (first|exact q0|exact q1|exact q2|exact r0|exact r1|exact r2);done))|((with_reducible apply t_id);first|(with_reducible apply t_seq)|(apply t_region;kernel_rfl)|(apply t_drawn;kernel_rfl;decide +kernel;try simp only [List.append_eq,List.cons_append,List.nil_append])|((with_reducible apply t_condT);exact rfl)|((with_reducible apply t_condF);exact rfl)|(with_reducible apply t_skip)|(with_reducible apply t_block))|with_reducible apply q_thenN|with_reducible apply q_blockN|exact Rdn.zero|apply Rdn.succ)
     all_goals (refine ⟨(i,q),(by refine ⟨(by simp only;omega),(by simp only;omega),h3,.inr ⟨x,hx,hc⟩⟩),(by simp only;omega),?_,?_⟩<;>(try simp only [List.cons_append,List.nil_append])<;>(repeat' (first|exact FrSub.nil|(apply FrSub.cons;exact rfl)|exact HpSub.refl _)))
   | false=>
     have HN:¬ o<0:=by rw [← ho];intro h;rw [byP_neg,hc] at h;cases h
     repeat' (first|((with_reducible apply oq_id);first|((with_reducible apply oq_addE (k:=((a+i+(a+j):Nat):Int)));exact rfl;exact rfl;omega)|((with_reducible apply oq_addE (k:=((a+(q+1):Nat):Int)));exact rfl;exact rfl;omega)|(focus ((with_reducible apply (oq_shrE (a:=a+i+(a+j)) (r:=a+q)));exact rfl;exact rfl;omega;omega))|(focus ((with_reducible apply oq_convU);(iterate 3 exact rfl);(refine ⟨?_,?_⟩<;>omega)))|(focus ((with_reducible apply oq_indexAddrN);(iterate 4 exact rfl);omega))|((with_reducible apply oq_lssT);exact rfl;exact rfl;omega)|((with_reducible apply oq_lssF);exact rfl;exact rfl;omega)|(apply oq_fn;exact rfl;first|exact trivial|(and_intros<;>omega)|omega|skip)|((with_reducible apply oq_loadAgg);exact rfl;exact rfl)|((with_reducible apply oq_call (hc:=Try.call136));exact rfl;exact rfl;exact fun D w1 hw1=>HC w1))|((with_reducible apply tl_id);first|(with_reducible apply tl_nil)|((with_reducible apply u_q);(iterate 4 exact rfl)))|((with_reducible apply gx_id);first|(with_reducible apply v_nil)|((with_reducible apply v_q);(iterate 3 exact rfl)))|((with_reducible apply rd_id);first|(apply Rd.own;(repeat first|exact P0|apply P1);with_reducible (first|exact q0|exact q1|exact q2|exact r0|exact r1|exact r2);done))|((with_reducible apply t_id);first|(with_reducible apply t_seq)|(apply t_region;kernel_rfl)|(apply t_drawn;kernel_rfl;decide +kernel;try simp only [List.append_eq,List.cons_append,List.nil_append])|((with_reducible apply t_condT);exact rfl)|(with_reducible apply t_skip)|(with_reducible apply t_block))|with_reducible apply q_thenN|with_reducible apply q_blockN|exact Rdn.zero|apply Rdn.succ)
     all_goals (refine ⟨(q+1,j),(by refine ⟨(by simp only;omega),h2,.inr ⟨x,(by simpa using hx),hc⟩,h4⟩),(by simp only;omega),?_,?_⟩<;>(try simp only [List.cons_append,List.nil_append])<;>(repeat' (first|exact FrSub.nil|(apply FrSub.cons;exact rfl)|exact HpSub.refl _)))
 · obtain rfl:i=j:=by omega
   rw [mrg_last woS h2 hU h3 h4,List.append_assoc,List.cons_append]
   have h0e:shB (P++(U++([y]++Q)))=shB (P++(U.take U.length++y::(U.drop U.length++Q))):=by
     rw [List.take_of_length_le (Nat.le_refl _),List.drop_of_length_le (Nat.le_refl _)];rfl
   repeat' (first|((with_reducible apply oq_id);first|((with_reducible apply oq_lssF);exact rfl;exact rfl;omega)|(apply oq_fn;exact rfl;first|exact trivial|(and_intros<;>omega)|omega|skip))|((with_reducible apply tl_id);first|(with_reducible apply tl_nil)|((with_reducible apply u_q);(iterate 4 exact rfl)))|((with_reducible apply t_id);first|(with_reducible apply t_seq)|(apply t_region;kernel_rfl)|((with_reducible apply t_condF);exact rfl)|(with_reducible apply t_exit)|(with_reducible apply t_block))|with_reducible apply q_thenN|with_reducible apply q_thenE|((with_reducible apply q_blockE);exact rfl))
   apply t_loopK (ι:=Nat) [0,1,2,3,4,14] (fun q=>[(17,.int .i64 ((a+q:Nat):Int))]) (fun q=>[(g,shB (P++(U.take q++y::(U.drop q++Q))),some (91,3,cp))]) (fun q=>i≤q∧q≤U.length) (fun q=>q) (U.length)
   (repeat (first|exact KeepF.nil|(apply KeepF.cons;exact rfl)|apply KeepF.skip))
   (repeat (first|exact FrSub.nil|(apply FrSub.cons;exact rfl)|(apply FrSub.consE;exact rfl;(congr 2;first|omega|(simp only;omega)))))
   (repeat (first|exact HpSub.refl _|(apply HpSub.consE;(repeat first|exact P0|apply P1);(first|exact rfl|exact h0e))|exact HpSub.nil))
   · exact ⟨h2,Nat.le_refl _⟩
   rintro q ⟨hiq,hqU⟩
   try dsimp only
   by_cases hki:i<q
   · obtain ⟨k,rfl⟩:∃ k,q=k+1:=⟨q-1,by omega⟩
     obtain ⟨x,hx⟩:∃ x,U[k]?=some x:=⟨_,List.getElem?_eq_getElem (by omega)⟩
     obtain ⟨hdy,hdx,hst⟩:=mov_back (P:=P) (Q:=Q) (y:=y) hx
     rw [ha] at hdx hdy hst
     obtain ⟨D,hD⟩:∃ D,P++(U.take (k+1)++y::(U.drop (k+1)++Q))=D:=⟨_,rfl⟩
     rw [hD] at hdx hdy hst ⊢
     rw [show a+(k+1)=a+k+1 by omega]
     have hdx2:(D.set (a+k+1) x)[a+k]?=some x:=by rw [List.getElem?_set_ne (by omega)];exact hdx
     obtain ⟨q0,q1,q2⟩:=sh_at hdx
     obtain ⟨r0,r1,r2⟩:=sh_at hdy
     repeat' (first|((with_reducible apply oq_id);first|((with_reducible apply oq_subE (k:=((a+k:Nat):Int)));exact rfl;exact rfl;omega)|(focus ((with_reducible apply oq_indexAddrN);(iterate 4 exact rfl);omega))|((with_reducible apply oq_gtrT);exact rfl;exact rfl;omega)|(apply oq_fn;exact rfl;first|exact trivial|(and_intros<;>omega)|omega|skip)|((with_reducible apply oq_loadAgg);exact rfl;exact rfl))|((with_reducible apply tl_id);first|(with_reducible apply tl_nil)|((with_reducible apply u_q);(iterate 4 exact rfl)))|((with_reducible apply gx_id);first|(with_reducible apply v_nil)|((with_reducible apply v_q);(iterate 3 exact rfl)))|((with_reducible apply os_id);first|((with_reducible apply (os_storeSh x hdy rfl));(iterate 3 exact rfl);(repeat first|exact P0|apply P1))|((with_reducible apply (os_storeSh y hdx2 hst));(iterate 3 exact rfl);(repeat first|exact P0|apply P1)))|((with_reducible apply ai_id);first|((with_reducible apply ai_q);(iterate 5 exact rfl))|((with_reducible apply ai_n0);(iterate 3 exact rfl)))|((with_reducible apply al_keep);focus (repeat (first|exact HpSub.refl _|(apply HpSub.cons;(repeat first|exact P0|apply P1))|apply HpSub.skipX|exact HpSub.nil)))|((with_reducible apply rd_id);first|(apply Rd.own;(repeat first|exact P0|apply P1);with_reducible (first|exact q0|exact q1|exact q2|exact r0|exact r1|exact r2);done))|((with_reducible apply t_id);first|(apply t_mixZ (id:=23) [0,1,2,3,4,5,6,7,8,10,11,12] 6;kernel_rfl;kernel_rfl;exact rfl)|(with_reducible apply t_seq)|(apply t_region;kernel_rfl)|((with_reducible apply t_condT);exact rfl)|(with_reducible apply t_skip)|(with_reducible apply t_block))|with_reducible apply q_thenN|with_reducible apply q_blockN|exact Rdn.zero|apply Rdn.succ|((with_reducible apply al_id);first|(apply al_done;decide +kernel)|(apply al_one 9;decide +kernel)|(apply al_one 13;decide +kernel)|(apply al_one 14;decide +kernel)|(apply al_one 15;decide +kernel)|(apply al_one 16;decide +kernel)|(apply al_one 17;decide +kernel)|(apply al_two 9 13;decide +kernel)))
     all_goals (refine ⟨k,(by omega),(by omega),?_,?_⟩<;>(try simp only [List.cons_append,List.nil_append])<;>(repeat' (first|exact FrSub.nil|(apply FrSub.cons;exact rfl)|exact HpSub.refl _)))
   · obtain rfl:q=i:=by omega
     repeat' (first|((with_reducible apply oq_id);first|((with_reducible apply oq_gtrF);exact rfl;exact rfl;omega)|(apply oq_fn;exact rfl;first|exact trivial|(and_intros<;>omega)|omega|skip))|((with_reducible apply tl_id);first|(with_reducible apply tl_nil)|((with_reducible apply u_q);(iterate 4 exact rfl)))|((with_reducible apply t_id);first|(with_reducible apply t_seq)|(apply t_region;kernel_rfl)|((with_reducible apply t_condF);exact rfl)|(with_reducible apply t_ret)|(with_reducible apply t_exit))|with_reducible apply q_thenN|with_reducible apply q_thenR|with_reducible apply q_thenE|((with_reducible apply q_blockE);exact rfl)|(with_reducible apply end_ret)|exact rvs_nil)
     all_goals exact ⟨rfl,by (repeat (first|exact HpSub.refl _|(apply HpSub.consE;(repeat first|exact P0|apply P1);exact rfl)|exact HpSub.nil))⟩
theorem sym_W:∀ (s:Nat) (g cp n a m b:Nat) (P U V Q:List Sh) (w:World),U.length+V.length=s→Blk w g (shB (P++(U++(V++Q)))) (some (91,3,cp))→Srt ltS U→Srt ltS V→0<U.length→0<V.length→P.length=a→a+U.length=m→m+V.length=b→(P++(U++(V++Q))).length=n→n≤1000000 →
   Calls Try.prog 195 #[.slice (some ⟨g,0,none⟩) n cp,.int .i64 (a:Nat),.int .i64 (m:Nat),.int .i64 (b:Nat),.func (.func 136) #[] #[]] w fun e w'=>e=.returned (.tuple #[])∧ExtM [g] w w'∧Blk w' g (shB (P++(mrg ltS U V++Q))) (some (91,3,cp)):=by
 intro s
 induction s using Nat.strongRecOn with
 | _ s ih=>
 intro g cp n a m b P U V Q w hs hB hU hV hU0 hV0 ha hm hb hn hn1
 by_cases hU1:U.length=1
 · obtain ⟨x,rfl⟩:∃ x,U=[x]:=List.length_eq_one_iff.1 hU1
   exact sym1_W g cp n a m b x P V Q w hB hV ha (by simpa using hm) hb hn hn1
 by_cases hV1:V.length=1
 · obtain ⟨y,rfl⟩:∃ y,V=[y]:=List.length_eq_one_iff.1 hV1
   exact sym2_W g cp n a m b y P U Q w hB hU hU1 ha hm (by simpa using hb) hn hn1
 have hn0:=hn
 simp only [List.length_append] at hn
 obtain ⟨h,hh⟩:∃ h,h=(U.length+V.length) / 2:=⟨_,rfl⟩
 refine enterW (c:=cxM [g] w 220) Try.func195 rfl rfl rfl rfl hB ?_
 refine t_cut (ι:=Unit) (fun _=>[(0,.slice (some ⟨g,0,none⟩) n cp),(1,.int .i64 (a:Nat)),(2,.int .i64 (m:Nat)),(3,.int .i64 (b:Nat)),(4,.func (.func 136) #[] #[])]) (fun _=>[(g,shB (P++(U++(V++Q))),some (91,3,cp))]) (fun _=>True) ?_ ?_
 · repeat' (first|((with_reducible apply oq_id);first|((with_reducible apply oq_subE (k:=((m-a:Nat):Int)));exact rfl;exact rfl;omega)|((with_reducible apply oq_eqlF);exact rfl;exact rfl;omega)|(apply oq_fn;exact rfl;first|exact trivial|(and_intros<;>omega)|omega|skip))|((with_reducible apply tl_id);first|(with_reducible apply tl_nil)|((with_reducible apply u_q);(iterate 4 exact rfl)))|((with_reducible apply t_id);first|(with_reducible apply t_seq)|(apply t_region;kernel_rfl)|((with_reducible apply t_condF);exact rfl)|(with_reducible apply t_skip))|with_reducible apply q_thenN)
   all_goals exact ⟨rfl,(),trivial,by (repeat first|exact FrSub.nil|(apply FrSub.cons;exact rfl)),by (repeat (first|exact HpSub.refl _|(apply HpSub.consE;(repeat first|exact P0|apply P1);exact rfl)|exact HpSub.nil))⟩
 rintro ⟨⟩ -
 refine t_cut (ι:=Unit) (fun _=>[(0,.slice (some ⟨g,0,none⟩) n cp),(1,.int .i64 (a:Nat)),(2,.int .i64 (m:Nat)),(3,.int .i64 (b:Nat)),(4,.func (.func 136) #[] #[])]) (fun _=>[(g,shB (P++(U++(V++Q))),some (91,3,cp))]) (fun _=>True) ?_ ?_
 · repeat' (first|((with_reducible apply oq_id);first|((with_reducible apply oq_subE (k:=((b-m:Nat):Int)));exact rfl;exact rfl;omega)|((with_reducible apply oq_eqlF);exact rfl;exact rfl;omega)|(apply oq_fn;exact rfl;first|exact trivial|(and_intros<;>omega)|omega|skip))|((with_reducible apply tl_id);first|(with_reducible apply tl_nil)|((with_reducible apply u_q);(iterate 4 exact rfl)))|((with_reducible apply t_id);first|(with_reducible apply t_seq)|(apply t_region;kernel_rfl)|((with_reducible apply t_condF);exact rfl)|(with_reducible apply t_skip))|with_reducible apply q_thenN)
   all_goals exact ⟨rfl,(),trivial,by (repeat first|exact FrSub.nil|(apply FrSub.cons;exact rfl)),by (repeat (first|exact HpSub.refl _|(apply HpSub.consE;(repeat first|exact P0|apply P1);exact rfl)|exact HpSub.nil))⟩
 rintro ⟨⟩ -
 refine t_cut (ι:=Unit) (fun _=>[(0,.slice (some ⟨g,0,none⟩) n cp),(1,.int .i64 (a:Nat)),(2,.int .i64 (m:Nat)),(3,.int .i64 (b:Nat)),(4,.func (.func 136) #[] #[]),(18,.int .i64 (a+h:Nat))]) (fun _=>[(g,shB (P++(U++(V++Q))),some (91,3,cp))]) (fun _=>True) ?_ ?_
 · repeat' (first|((with_reducible apply oq_id);first|((with_reducible apply oq_addE (k:=((a+b:Nat):Int)));exact rfl;exact rfl;omega)|(focus ((with_reducible apply (oq_shrE (a:=a+b) (r:=a+h)));exact rfl;exact rfl;omega;omega))|(focus ((with_reducible apply oq_convU);(iterate 3 exact rfl);(refine ⟨?_,?_⟩<;>omega)))|(apply oq_fn;exact rfl;first|exact trivial|(and_intros<;>omega)|omega|skip))|((with_reducible apply tl_id);first|(with_reducible apply tl_nil)|((with_reducible apply u_q);(iterate 4 exact rfl)))|((with_reducible apply t_id);first|(apply t_region;kernel_rfl)))
   all_goals exact ⟨rfl,(),trivial,by (repeat first|exact FrSub.nil|(apply FrSub.cons;exact rfl)),by (repeat (first|exact HpSub.refl _|(apply HpSub.consE;(repeat first|exact P0|apply P1);exact rfl)|exact HpSub.nil))⟩
 rintro ⟨⟩ -
 refine t_cut (ι:=Unit) (fun _=>[(0,.slice (some ⟨g,0,none⟩) n cp),(1,.int .i64 (a:Nat)),(2,.int .i64 (m:Nat)),(3,.int .i64 (b:Nat)),(4,.func (.func 136) #[] #[]),(18,.int .i64 (a+h:Nat)),(19,.int .i64 (a+h+m:Nat))]) (fun _=>[(g,shB (P++(U++(V++Q))),some (91,3,cp))]) (fun _=>True) ?_ ?_
 · repeat' (first|((with_reducible apply oq_id);first|((with_reducible apply oq_addE (k:=((a+h+m:Nat):Int)));exact rfl;exact rfl;omega)|(apply oq_fn;exact rfl;first|exact trivial|(and_intros<;>omega)|omega|skip))|((with_reducible apply tl_id);first|(with_reducible apply tl_nil)|((with_reducible apply u_q);(iterate 4 exact rfl)))|((with_reducible apply t_id);first|(apply t_region;kernel_rfl)))
   all_goals exact ⟨rfl,(),trivial,by (repeat first|exact FrSub.nil|(apply FrSub.cons;exact rfl)),by (repeat (first|exact HpSub.refl _|(apply HpSub.consE;(repeat first|exact P0|apply P1);exact rfl)|exact HpSub.nil))⟩
 rintro ⟨⟩ -
 refine t_cut (ι:=Unit) (fun _=>[(0,.slice (some ⟨g,0,none⟩) n cp),(1,.int .i64 (a:Nat)),(2,.int .i64 (m:Nat)),(3,.int .i64 (b:Nat)),(4,.func (.func 136) #[] #[]),(18,.int .i64 (a+h:Nat)),(19,.int .i64 (a+h+m:Nat))]) (fun _=>[(g,shB (P++(U++(V++Q))),some (91,3,cp))]) (fun _=>True) ?_ ?_
 · repeat' (first|((with_reducible apply oq_id);first|(apply oq_fn;exact rfl;first|exact trivial|(and_intros<;>omega)|omega|skip))|((with_reducible apply tl_id);first|(with_reducible apply tl_nil)|((with_reducible apply u_q);(iterate 4 exact rfl)))|((with_reducible apply t_id);first|(apply t_region;kernel_rfl)))
   all_goals exact ⟨rfl,(),trivial,by (repeat first|exact FrSub.nil|(apply FrSub.cons;exact rfl)),by (repeat (first|exact HpSub.refl _|(apply HpSub.consE;(repeat first|exact P0|apply P1);exact rfl)|exact HpSub.nil))⟩
 rintro ⟨⟩ -
 obtain ⟨lo,hi,hlo,hhi,hlh,hhU,hhh,hh3,hcase⟩:∃ lo hi:Nat,(lo=0∨V.length+lo=h)∧(hi=h∨hi=U.length)∧lo≤hi∧hi≤U.length∧hi≤h∧h≤V.length+lo∧((h<U.length∧V.length+lo=h∧hi=h)∨(U.length≤h∧lo=0∧hi=U.length)):=by
   by_cases hc:h<U.length
   · exact ⟨h-V.length,h,by omega,by omega,by omega,by omega,by omega,by omega,by omega⟩
   · exact ⟨0,U.length,by omega,by omega,by omega,by omega,by omega,by omega,by omega⟩
 refine t_cut (ι:=Unit) (fun _=>[(0,.slice (some ⟨g,0,none⟩) n cp),(1,.int .i64 (a:Nat)),(2,.int .i64 (m:Nat)),(3,.int .i64 (b:Nat)),(4,.func (.func 136) #[] #[]),(18,.int .i64 (a+h:Nat)),(19,.int .i64 (a+h+m:Nat)),(20,.int .i64 (a+lo:Nat)),(21,.int .i64 (a+hi:Nat))]) (fun _=>[(g,shB (P++(U++(V++Q))),some (91,3,cp))]) (fun _=>True) ?_ ?_
 · rcases hcase with ⟨c1,c2,c3⟩|⟨c1,c2,c3⟩
   · repeat' (first|((with_reducible apply oq_id);first|((with_reducible apply oq_subE (k:=((a+lo:Nat):Int)));exact rfl;exact rfl;omega)|((with_reducible apply oq_gtrT);exact rfl;exact rfl;omega)|(apply oq_fn;exact rfl;first|exact trivial|(and_intros<;>omega)|omega|skip))|((with_reducible apply tl_id);first|(with_reducible apply tl_nil)|((with_reducible apply u_q);(iterate 4 exact rfl)))|((with_reducible apply t_id);first|(with_reducible apply t_seq)|(apply t_region;kernel_rfl)|((with_reducible apply t_condT);exact rfl))|with_reducible apply q_thenN)
     all_goals exact ⟨rfl,(),trivial,by (repeat (first|exact FrSub.nil|(apply FrSub.cons;exact rfl)|(apply FrSub.consE;exact rfl;(congr 2;first|omega|(simp only;omega))))),by (repeat (first|exact HpSub.refl _|(apply HpSub.consE;(repeat first|exact P0|apply P1);exact rfl)|exact HpSub.nil))⟩
   · repeat' (first|((with_reducible apply oq_id);first|((with_reducible apply oq_gtrF);exact rfl;exact rfl;omega)|(apply oq_fn;exact rfl;first|exact trivial|(and_intros<;>omega)|omega|skip))|((with_reducible apply tl_id);first|(with_reducible apply tl_nil)|((with_reducible apply u_q);(iterate 4 exact rfl)))|((with_reducible apply t_id);first|(with_reducible apply t_seq)|(apply t_region;kernel_rfl)|((with_reducible apply t_condF);exact rfl))|with_reducible apply q_thenN)
     all_goals exact ⟨rfl,(),trivial,by (repeat (first|exact FrSub.nil|(apply FrSub.cons;exact rfl)|(apply FrSub.consE;exact rfl;(congr 2;first|omega|(simp only;omega))))),by (repeat (first|exact HpSub.refl _|(apply HpSub.consE;(repeat first|exact P0|apply P1);exact rfl)|exact HpSub.nil))⟩
 rintro ⟨⟩ -
 refine t_cut (ι:=Unit) (fun _=>[(0,.slice (some ⟨g,0,none⟩) n cp),(1,.int .i64 (a:Nat)),(2,.int .i64 (m:Nat)),(3,.int .i64 (b:Nat)),(4,.func (.func 136) #[] #[]),(18,.int .i64 (a+h:Nat)),(19,.int .i64 (a+h+m:Nat)),(20,.int .i64 (a+lo:Nat)),(21,.int .i64 (a+hi:Nat)),(22,.int .i64 (a+h+m-1:Nat))]) (fun _=>[(g,shB (P++(U++(V++Q))),some (91,3,cp))]) (fun _=>True) ?_ ?_
 · repeat' (first|((with_reducible apply oq_id);first|((with_reducible apply oq_subE (k:=((a+h+m-1:Nat):Int)));exact rfl;exact rfl;omega)|(apply oq_fn;exact rfl;first|exact trivial|(and_intros<;>omega)|omega|skip))|((with_reducible apply tl_id);first|(with_reducible apply tl_nil)|((with_reducible apply u_q);(iterate 4 exact rfl)))|((with_reducible apply t_id);first|(apply t_region;kernel_rfl)))
   all_goals exact ⟨rfl,(),trivial,by (repeat first|exact FrSub.nil|(apply FrSub.cons;exact rfl)),by (repeat (first|exact HpSub.refl _|(apply HpSub.consE;(repeat first|exact P0|apply P1);exact rfl)|exact HpSub.nil))⟩
 rintro ⟨⟩ -
 refine t_cut (ι:=Nat) (fun i=>[(0,.slice (some ⟨g,0,none⟩) n cp),(1,.int .i64 (a:Nat)),(2,.int .i64 (m:Nat)),(3,.int .i64 (b:Nat)),(4,.func (.func 136) #[] #[]),(18,.int .i64 (a+h:Nat)),(19,.int .i64 (a+h+m:Nat)),(20,.int .i64 (a+i:Nat))]) (fun _=>[(g,shB (P++(U++(V++Q))),some (91,3,cp))]) (fun i=>lo≤i∧i≤hi∧mrg ltS U V=mrg ltS (U.take i) (V.take (h-i))++mrg ltS (U.drop i) (V.drop (h-i))) ?_ ?_
 · repeat' (first|((with_reducible apply t_id);first|(with_reducible apply t_block)))
   apply t_loopK (ι:=Nat×Nat) [0,1,2,3,4,18,19,22] (fun z=>[(20,.int .i64 ((a+z.1:Nat):Int)),(21,.int .i64 ((a+z.2:Nat):Int))]) (fun _=>[(g,shB (P++(U++(V++Q))),some (91,3,cp))]) (fun z=>lo≤z.1∧z.1≤z.2∧z.2≤hi∧(z.1=lo∨∃ x y,U[z.1-1]?=some x∧V[h-z.1]?=some y∧ltS y x=false)∧(z.2=hi∨∃ x y,U[z.2]?=some x∧V[h-1-z.2]?=some y∧ltS y x=true)) (fun z=>z.2-z.1) ((lo,hi))
   (repeat (first|exact KeepF.nil|(apply KeepF.cons;exact rfl)|apply KeepF.skip))
   (repeat (first|exact FrSub.nil|(apply FrSub.cons;exact rfl)|(apply FrSub.consE;exact rfl;(congr 2;first|omega|(simp only;omega)))))
   (repeat (first|exact HpSub.refl _|(apply HpSub.consE;(repeat first|exact P0|apply P1);exact rfl)|exact HpSub.nil))
   · exact ⟨Nat.le_refl _,hlh,Nat.le_refl _,.inl rfl,.inl rfl⟩
   rintro ⟨i,j⟩ ⟨h0,h1,h2,h3,h4⟩
   simp only at h0 h1 h2 h3 h4
   try dsimp only
   by_cases hij:i<j
   · obtain ⟨q,hq⟩:∃ q,q=(i+j) / 2:=⟨_,rfl⟩
     obtain ⟨x,hx⟩:∃ x,U[q]?=some x:=⟨_,List.getElem?_eq_getElem (by omega)⟩
     obtain ⟨y,hy⟩:∃ y,V[h-1-q]?=some y:=⟨_,List.getElem?_eq_getElem (by omega)⟩
     have hdx:(P++(U++(V++Q)))[a+q]?=some x:=get_seg ha hx
     have hdy:(P++(U++(V++Q)))[m+(h-1-q)]?=some y:=get_seg2 (by omega) hy
     obtain ⟨D,hD⟩:∃ D,P++(U++(V++Q))=D:=⟨_,rfl⟩
     rw [hD] at hdx hdy ⊢
     obtain ⟨q0,q1,q2⟩:=sh_at hdx
     obtain ⟨r0,r1,r2⟩:=sh_at hdy
     have HC:=fun w1=>byPerson_calls y.who y.fr y.to x.who x.fr x.to w1
     obtain ⟨o,ho⟩:∃ o,byP y.who y.fr x.who x.fr=o:=⟨_,rfl⟩
     rw [ho] at HC
     cases hc:ltS y x with
     | true=>
       have HN:o<0:=by rw [← ho];exact byP_neg.2 hc
       repeat' (first|((with_reducible apply oq_id);first|((with_reducible apply oq_addE (k:=((a+i+(a+j):Nat):Int)));exact rfl;exact rfl;omega)|(focus ((with_reducible apply (oq_shrE (a:=a+i+(a+j)) (r:=a+q)));exact rfl;exact rfl;omega;omega))|((with_reducible apply oq_subE (k:=((m+(h-1-q):Nat):Int)));exact rfl;exact rfl;omega)|(focus ((with_reducible apply oq_convU);(iterate 3 exact rfl);(refine ⟨?_,?_⟩<;>omega)))|(focus ((with_reducible apply oq_indexAddrN);(iterate 4 exact rfl);omega))|((with_reducible apply oq_lssT);exact rfl;exact rfl;omega)|(apply oq_fn;exact rfl;first|exact trivial|(and_intros<;>omega)|omega|skip)|((with_reducible apply oq_loadAgg);exact rfl;exact rfl)|((with_reducible apply oq_call (hc:=Try.call136));exact rfl;exact rfl;exact fun D w1 hw1=>HC w1))|((with_reducible apply tl_id);first|(with_reducible apply tl_nil)|((with_reducible apply u_q);(iterate 4 exact rfl)))|((with_reducible apply gx_id);first|(with_reducible apply v_nil)|((with_reducible apply v_q);(iterate 3 exact rfl)))|((with_reducible apply rd_id);first|(apply Rd.own;(repeat first|exact P0|apply P1);with_reducible (first|exact q0|exact q1|exact q2|exact r0|exact r1|exact r2);done))|((with_reducible apply t_id);first|(with_reducible apply t_seq)|(apply t_region;kernel_rfl)|(apply t_drawn;kernel_rfl;decide +kernel;try simp only [List.append_eq,List.cons_append,List.nil_append])|((with_reducible apply t_condT);exact rfl)|((with_reducible apply t_condF);exact rfl)|(with_reducible apply t_skip)|(with_reducible apply t_block))|with_reducible apply q_thenN|with_reducible apply q_blockN|exact Rdn.zero|apply Rdn.succ)
       all_goals (refine ⟨(i,q),(by refine ⟨h0,(by simp only;omega),(by simp only;omega),h3,.inr ⟨x,y,hx,hy,hc⟩⟩),(by simp only;omega),?_,?_⟩<;>(try simp only [List.cons_append,List.nil_append])<;>(repeat' (first|exact FrSub.nil|(apply FrSub.cons;exact rfl)|exact HpSub.refl _)))
     | false=>
       have HN:¬ o<0:=by rw [← ho];intro h;rw [byP_neg,hc] at h;cases h
       repeat' (first|((with_reducible apply oq_id);first|((with_reducible apply oq_addE (k:=((a+i+(a+j):Nat):Int)));exact rfl;exact rfl;omega)|((with_reducible apply oq_addE (k:=((a+(q+1):Nat):Int)));exact rfl;exact rfl;omega)|(focus ((with_reducible apply (oq_shrE (a:=a+i+(a+j)) (r:=a+q)));exact rfl;exact rfl;omega;omega))|((with_reducible apply oq_subE (k:=((m+(h-1-q):Nat):Int)));exact rfl;exact rfl;omega)|(focus ((with_reducible apply oq_convU);(iterate 3 exact rfl);(refine ⟨?_,?_⟩<;>omega)))|(focus ((with_reducible apply oq_indexAddrN);(iterate 4 exact rfl);omega))|((with_reducible apply oq_lssT);exact rfl;exact rfl;omega)|((with_reducible apply oq_lssF);exact rfl;exact rfl;omega)|(apply oq_fn;exact rfl;first|exact trivial|(and_intros<;>omega)|omega|skip)|((with_reducible apply oq_loadAgg);exact rfl;exact rfl)|((with_reducible apply oq_call (hc:=Try.call136));exact rfl;exact rfl;exact fun D w1 hw1=>HC w1))|((with_reducible apply tl_id);first|(with_reducible apply tl_nil)|((with_reducible apply u_q);(iterate 4 exact rfl)))|((with_reducible apply gx_id);first|(with_reducible apply v_nil)|((with_reducible apply v_q);(iterate 3 exact rfl)))|((with_reducible apply rd_id);first|(apply Rd.own;(repeat first|exact P0|apply P1);with_reducible (first|exact q0|exact q1|exact q2|exact r0|exact r1|exact r2);done))|((with_reducible apply t_id);first|(with_reducible apply t_seq)|(apply t_region;kernel_rfl)|(apply t_drawn;kernel_rfl;decide +kernel;try simp only [List.append_eq,List.cons_append,List.nil_append])|((with_reducible apply t_condT);exact rfl)|(with_reducible apply t_skip)|(with_reducible apply t_block))|with_reducible apply q_thenN|with_reducible apply q_blockN|exact Rdn.zero|apply Rdn.succ)
       all_goals (refine ⟨(q+1,j),(by refine ⟨(by simp only;omega),(by simp only;omega),h2,.inr ⟨x,y,(by simpa using hx),(by rw [show h-(q+1)=h-1-q by omega];exact hy),hc⟩,h4⟩),(by simp only;omega),?_,?_⟩<;>(try simp only [List.cons_append,List.nil_append])<;>(repeat' (first|exact FrSub.nil|(apply FrSub.cons;exact rfl)|exact HpSub.refl _)))
   · obtain rfl:i=j:=by omega
     repeat' (first|((with_reducible apply oq_id);first|((with_reducible apply oq_lssF);exact rfl;exact rfl;omega)|(apply oq_fn;exact rfl;first|exact trivial|(and_intros<;>omega)|omega|skip))|((with_reducible apply tl_id);first|(with_reducible apply tl_nil)|((with_reducible apply u_q);(iterate 4 exact rfl)))|((with_reducible apply t_id);first|(with_reducible apply t_seq)|(apply t_region;kernel_rfl)|((with_reducible apply t_condF);exact rfl)|(with_reducible apply t_exit))|with_reducible apply q_thenN|with_reducible apply q_thenE|((with_reducible apply q_blockE);exact rfl))
     all_goals exact ⟨rfl,i,⟨h0,h2,sym_pick woS hU hV h0 h2 hlo hhi hhU hhh hh3 h3 h4⟩,by (repeat first|exact FrSub.nil|(apply FrSub.cons;exact rfl)),by (repeat (first|exact HpSub.refl _|(apply HpSub.consE;(repeat first|exact P0|apply P1);exact rfl)|exact HpSub.nil))⟩
 rintro i ⟨h0,h2,hmrg⟩
 have lu:(U.take i).length=i:=by simp;omega
 have lu':(U.drop i).length=U.length-i:=by simp
 have lv:(V.take (h-i)).length=h-i:=by simp;omega
 have lv':(V.drop (h-i)).length=V.length-(h-i):=by simp
 have eU:=List.take_append_drop i U
 have eV:=List.take_append_drop (h-i) V
 have sU:Srt ltS (U.take i++U.drop i):=by rw [eU];exact hU
 have sV:Srt ltS (V.take (h-i)++V.drop (h-i)):=by rw [eV];exact hV
 obtain ⟨sU1,sU2,_⟩:=List.pairwise_append.1 sU
 obtain ⟨sV1,sV2,_⟩:=List.pairwise_append.1 sV
 rw [hmrg]
 generalize U.take i=U1 at *
 generalize U.drop i=U2 at *
 generalize V.take (h-i)=V1 at *
 generalize V.drop (h-i)=V2 at *
 rw [← eU,← eV] at hn0 ⊢
 clear hmrg
 have ml:=mrg_len (lt:=ltS) U1 V1
 simp only [List.append_assoc] at hn0 ⊢
 have hn2:=hn0
 simp only [List.length_append] at hn2
 refine t_cut (ι:=Unit) (fun _=>[(0,.slice (some ⟨g,0,none⟩) n cp),(1,.int .i64 (a:Nat)),(2,.int .i64 (m:Nat)),(3,.int .i64 (b:Nat)),(4,.func (.func 136) #[] #[]),(18,.int .i64 (a+h:Nat)),(20,.int .i64 (a+i:Nat)),(24,.int .i64 (m+(h-i):Nat))]) (fun _=>[(g,shB (P++(U1++(U2++(V1++(V2++Q))))),some (91,3,cp))]) (fun _=>True) ?_ ?_
 · repeat' (first|((with_reducible apply oq_id);first|((with_reducible apply oq_subE (k:=((m+(h-i):Nat):Int)));exact rfl;exact rfl;omega)|(apply oq_fn;exact rfl;first|exact trivial|(and_intros<;>omega)|omega|skip))|((with_reducible apply tl_id);first|(with_reducible apply tl_nil)|((with_reducible apply u_q);(iterate 4 exact rfl)))|((with_reducible apply t_id);first|(apply t_region;kernel_rfl)))
   all_goals exact ⟨rfl,(),trivial,by (repeat first|exact FrSub.nil|(apply FrSub.cons;exact rfl)),by (repeat (first|exact HpSub.refl _|(apply HpSub.consE;(repeat first|exact P0|apply P1);exact rfl)|exact HpSub.nil))⟩
 rintro ⟨⟩ -
 refine t_cut (ι:=Unit) (fun _=>[(0,.slice (some ⟨g,0,none⟩) n cp),(1,.int .i64 (a:Nat)),(2,.int .i64 (m:Nat)),(3,.int .i64 (b:Nat)),(4,.func (.func 136) #[] #[]),(18,.int .i64 (a+h:Nat)),(20,.int .i64 (a+i:Nat)),(24,.int .i64 (m+(h-i):Nat))]) (fun _=>[(g,shB (P++(U1++(V1++(U2++(V2++Q))))),some (91,3,cp))]) (fun _=>True) ?_ ?_
 · by_cases hz:0<U2.length∧0<V1.length
   · obtain ⟨z1,z2⟩:=hz
     have hB1:(P++U1)++(U2++(V1++(V2++Q)))=P++(U1++(U2++(V1++(V2++Q)))):=by simp only [List.append_assoc]
     rw [← hB1] at hn0 ⊢
     repeat' (first|((with_reducible apply oq_id);first|((with_reducible apply oq_lssT);exact rfl;exact rfl;omega)|(apply oq_fn;exact rfl;first|exact trivial|(and_intros<;>omega)|omega|skip))|((with_reducible apply tl_id);first|(with_reducible apply tl_nil)|((with_reducible apply u_s);(iterate 3 exact rfl);(with_reducible apply os_callW (b:=g) (hc:=Try.call209));exact rfl;exact rfl;(repeat first|exact P0|apply P1);exact fun D w1 hw1=>rot_W g cp n (a+i) m (m+(h-i)) (P++U1) U2 V1 (V2++Q) w1 (hw1.blkP (by (repeat first|exact P0|apply P1))) z1 z2 (by simp only [List.length_append];omega) (by omega) (by omega) hn0 hn1)|((with_reducible apply u_q);(iterate 4 exact rfl)))|((with_reducible apply t_id);first|(with_reducible apply t_seq)|(apply t_region;kernel_rfl)|((with_reducible apply t_condT);exact rfl))|with_reducible apply q_thenN)
     all_goals exact ⟨rfl,(),trivial,by (repeat first|exact FrSub.nil|(apply FrSub.cons;exact rfl)),by (simp only [List.append_assoc];(repeat (first|exact HpSub.refl _|(apply HpSub.consE;(repeat first|exact P0|apply P1);exact rfl)|exact HpSub.nil)))⟩
   · have hsame:P++(U1++(V1++(U2++(V2++Q))))=P++(U1++(U2++(V1++(V2++Q)))):=by
       by_cases z1:0<U2.length
       · rw [List.length_eq_zero_iff.1 (show V1.length=0 by omega)];rfl
       · rw [List.length_eq_zero_iff.1 (show U2.length=0 by omega)];rfl
     rw [hsame]
     by_cases z1:0<U2.length
     · repeat' (first|((with_reducible apply oq_id);first|((with_reducible apply oq_lssT);exact rfl;exact rfl;omega)|((with_reducible apply oq_lssF);exact rfl;exact rfl;omega)|(apply oq_fn;exact rfl;first|exact trivial|(and_intros<;>omega)|omega|skip))|((with_reducible apply tl_id);first|(with_reducible apply tl_nil)|((with_reducible apply u_q);(iterate 4 exact rfl)))|((with_reducible apply t_id);first|(with_reducible apply t_seq)|(apply t_region;kernel_rfl)|((with_reducible apply t_condF);exact rfl)|(with_reducible apply t_skip))|with_reducible apply q_thenN)
       all_goals exact ⟨rfl,(),trivial,by (repeat first|exact FrSub.nil|(apply FrSub.cons;exact rfl)),by (repeat (first|exact HpSub.refl _|(apply HpSub.consE;(repeat first|exact P0|apply P1);exact rfl)|exact HpSub.nil))⟩
     · repeat' (first|((with_reducible apply oq_id);first|((with_reducible apply oq_lssF);exact rfl;exact rfl;omega)|(apply oq_fn;exact rfl;first|exact trivial|(and_intros<;>omega)|omega|skip))|((with_reducible apply tl_id);first|(with_reducible apply tl_nil)|((with_reducible apply u_q);(iterate 4 exact rfl))|((with_reducible apply u_skip);(iterate 3 exact rfl)))|((with_reducible apply t_id);first|(with_reducible apply t_seq)|(apply t_region;kernel_rfl)|((with_reducible apply t_condF);exact rfl)|(with_reducible apply t_skip))|with_reducible apply q_thenN)
       all_goals exact ⟨rfl,(),trivial,by (repeat first|exact FrSub.nil|(apply FrSub.cons;exact rfl)),by (repeat (first|exact HpSub.refl _|(apply HpSub.consE;(repeat first|exact P0|apply P1);exact rfl)|exact HpSub.nil))⟩
 rintro ⟨⟩ -
 refine t_cut (ι:=Unit) (fun _=>[(0,.slice (some ⟨g,0,none⟩) n cp),(1,.int .i64 (a:Nat)),(2,.int .i64 (m:Nat)),(3,.int .i64 (b:Nat)),(4,.func (.func 136) #[] #[]),(18,.int .i64 (a+h:Nat)),(20,.int .i64 (a+i:Nat)),(24,.int .i64 (m+(h-i):Nat))]) (fun _=>[(g,shB (P++(mrg ltS U1 V1++(U2++(V2++Q)))),some (91,3,cp))]) (fun _=>True) ?_ ?_
 · by_cases hz:0<U1.length∧0<V1.length
   · obtain ⟨z1,z2⟩:=hz
     repeat' (first|((with_reducible apply oq_id);first|((with_reducible apply oq_lssT);exact rfl;exact rfl;omega)|(apply oq_fn;exact rfl;first|exact trivial|(and_intros<;>omega)|omega|skip))|((with_reducible apply tl_id);first|(with_reducible apply tl_nil)|((with_reducible apply u_s);(iterate 3 exact rfl);(with_reducible apply os_callW (b:=g) (hc:=Try.call195));exact rfl;exact rfl;(repeat first|exact P0|apply P1);exact fun D w1 hw1=>ih (U1.length+V1.length) (by omega) g cp n a (a+i) (a+h) P U1 V1 (U2++(V2++Q)) w1 rfl (hw1.blkP (by (repeat first|exact P0|apply P1))) sU1 sV1 z1 z2 ha (by omega) (by omega) (by simp only [List.length_append];omega) hn1)|((with_reducible apply u_q);(iterate 4 exact rfl)))|((with_reducible apply t_id);first|(with_reducible apply t_seq)|(apply t_region;kernel_rfl)|((with_reducible apply t_condT);exact rfl))|with_reducible apply q_thenN)
     all_goals exact ⟨rfl,(),trivial,by (repeat first|exact FrSub.nil|(apply FrSub.cons;exact rfl)),by (repeat (first|exact HpSub.refl _|(apply HpSub.consE;(repeat first|exact P0|apply P1);exact rfl)|exact HpSub.nil))⟩
   · have hsame:P++(mrg ltS U1 V1++(U2++(V2++Q)))=P++(U1++(V1++(U2++(V2++Q)))):=by
       by_cases z1:0<U1.length
       · rw [List.length_eq_zero_iff.1 (show V1.length=0 by omega),mrg_right];rfl
       · rw [List.length_eq_zero_iff.1 (show U1.length=0 by omega),mrg_nil];rfl
     rw [hsame]
     by_cases z1:0<U1.length
     · repeat' (first|((with_reducible apply oq_id);first|((with_reducible apply oq_lssT);exact rfl;exact rfl;omega)|((with_reducible apply oq_lssF);exact rfl;exact rfl;omega)|(apply oq_fn;exact rfl;first|exact trivial|(and_intros<;>omega)|omega|skip))|((with_reducible apply tl_id);first|(with_reducible apply tl_nil)|((with_reducible apply u_q);(iterate 4 exact rfl)))|((with_reducible apply t_id);first|(with_reducible apply t_seq)|(apply t_region;kernel_rfl)|((with_reducible apply t_condF);exact rfl)|(with_reducible apply t_skip))|with_reducible apply q_thenN)
       all_goals exact ⟨rfl,(),trivial,by (repeat first|exact FrSub.nil|(apply FrSub.cons;exact rfl)),by (repeat (first|exact HpSub.refl _|(apply HpSub.consE;(repeat first|exact P0|apply P1);exact rfl)|exact HpSub.nil))⟩
     · repeat' (first|((with_reducible apply oq_id);first|((with_reducible apply oq_lssF);exact rfl;exact rfl;omega)|(apply oq_fn;exact rfl;first|exact trivial|(and_intros<;>omega)|omega|skip))|((with_reducible apply tl_id);first|(with_reducible apply tl_nil)|((with_reducible apply u_q);(iterate 4 exact rfl))|((with_reducible apply u_skip);(iterate 3 exact rfl)))|((with_reducible apply t_id);first|(with_reducible apply t_seq)|(apply t_region;kernel_rfl)|((with_reducible apply t_condF);exact rfl)|(with_reducible apply t_skip))|with_reducible apply q_thenN)
       all_goals exact ⟨rfl,(),trivial,by (repeat first|exact FrSub.nil|(apply FrSub.cons;exact rfl)),by (repeat (first|exact HpSub.refl _|(apply HpSub.consE;(repeat first|exact P0|apply P1);exact rfl)|exact HpSub.nil))⟩
 rintro ⟨⟩ -
 by_cases hz:0<U2.length∧0<V2.length
 · obtain ⟨z1,z2⟩:=hz
   have hB1:(P++mrg ltS U1 V1)++(U2++(V2++Q))=P++(mrg ltS U1 V1++(U2++(V2++Q))):=by simp only [List.append_assoc]
   rw [← hB1]
   repeat' (first|((with_reducible apply oq_id);first|((with_reducible apply oq_lssT);exact rfl;exact rfl;omega)|(apply oq_fn;exact rfl;first|exact trivial|(and_intros<;>omega)|omega|skip))|((with_reducible apply tl_id);first|(with_reducible apply tl_nil)|((with_reducible apply u_s);(iterate 3 exact rfl);(with_reducible apply os_callW (b:=g) (hc:=Try.call195));exact rfl;exact rfl;(repeat first|exact P0|apply P1);exact fun D w1 hw1=>ih (U2.length+V2.length) (by omega) g cp n (a+h) (m+(h-i)) b (P++mrg ltS U1 V1) U2 V2 Q w1 rfl (hw1.blkP (by (repeat first|exact P0|apply P1))) sU2 sV2 z1 z2 (by simp only [List.length_append];omega) (by omega) (by omega) (by simp only [List.length_append];omega) hn1)|((with_reducible apply u_q);(iterate 4 exact rfl)))|((with_reducible apply t_id);first|(with_reducible apply t_seq)|(apply t_region;kernel_rfl)|((with_reducible apply t_condT);exact rfl))|with_reducible apply q_thenN|(with_reducible apply end_normal)|exact rvs_nil)
   all_goals exact ⟨rfl,by (simp only [List.append_assoc];(repeat (first|exact HpSub.refl _|(apply HpSub.consE;(repeat first|exact P0|apply P1);exact rfl)|exact HpSub.nil)))⟩
 · have hsame:P++(mrg ltS U1 V1++(mrg ltS U2 V2++Q))=P++(mrg ltS U1 V1++(U2++(V2++Q))):=by
     by_cases z1:0<U2.length
     · rw [List.length_eq_zero_iff.1 (show V2.length=0 by omega),mrg_right];rfl
     · rw [List.length_eq_zero_iff.1 (show U2.length=0 by omega),mrg_nil];rfl
   rw [hsame]
   by_cases z1:0<U2.length
   · repeat' (first|((with_reducible apply oq_id);first|((with_reducible apply oq_lssT);exact rfl;exact rfl;omega)|((with_reducible apply oq_lssF);exact rfl;exact rfl;omega)|(apply oq_fn;exact rfl;first|exact trivial|(and_intros<;>omega)|omega|skip))|((with_reducible apply tl_id);first|(with_reducible apply tl_nil)|((with_reducible apply u_q);(iterate 4 exact rfl)))|((with_reducible apply t_id);first|(with_reducible apply t_seq)|(apply t_region;kernel_rfl)|((with_reducible apply t_condF);exact rfl)|(with_reducible apply t_skip))|with_reducible apply q_thenN|(with_reducible apply end_normal)|exact rvs_nil)
     all_goals exact ⟨rfl,by (repeat (first|exact HpSub.refl _|(apply HpSub.consE;(repeat first|exact P0|apply P1);exact rfl)|exact HpSub.nil))⟩
   · repeat' (first|((with_reducible apply oq_id);first|((with_reducible apply oq_lssF);exact rfl;exact rfl;omega)|(apply oq_fn;exact rfl;first|exact trivial|(and_intros<;>omega)|omega|skip))|((with_reducible apply tl_id);first|(with_reducible apply tl_nil)|((with_reducible apply u_q);(iterate 4 exact rfl))|((with_reducible apply u_skip);(iterate 3 exact rfl)))|((with_reducible apply t_id);first|(with_reducible apply t_seq)|(apply t_region;kernel_rfl)|((with_reducible apply t_condF);exact rfl)|(with_reducible apply t_skip))|with_reducible apply q_thenN|(with_reducible apply end_normal)|exact rvs_nil)
     all_goals exact ⟨rfl,by (repeat (first|exact HpSub.refl _|(apply HpSub.consE;(repeat first|exact P0|apply P1);exact rfl)|exact HpSub.nil))⟩
end Go.Proofs.Ytcjkndjjbjoehaa
