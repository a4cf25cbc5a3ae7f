/- A part of the proof: rules for walks, and contracts of functions (3). -/
import Derived.Test.YtcjkndjjbjoehaaXTmB
import Derived.Laws.StructEq
import Derived.Laws.MakeOwn
import Derived.Test.YtcjkndjjbjoehaaXTmA
import Derived.MapKept
import Derived.Carry
set_option linter.unusedVariables false
set_option linter.unusedSimpArgs false
set_option maxRecDepth 100000
set_option maxHeartbeats 2000000
namespace Go.Proofs.Ytcjkndjjbjoehaa
open Go.RowKit
attribute [local irreducible] OQ OS OX Rd T TL GX GL AL AI RV wpG SAny Calls
def ShP (n q k:Int):Prop:=(0≤n∧(k≤0∨k*k*q≤n*n))∨(n<0∧k<0∧n*n≤k*k*q)
theorem sq_mono {j k:Int} (h0:0≤j) (h:j≤k):j*j≤k*k:=Int.mul_le_mul h h h0 (by omega)
theorem sq_neg (k:Int):k*k=(-k)*(-k):=by rw [Int.neg_mul_neg]
theorem ShP.mono {n q j k:Int} (hq:0<q) (h:ShP n q k) (hj:j≤k):ShP n q j:=by
 rcases h with ⟨h0,h1⟩|⟨h0,h1,h2⟩
 · refine .inl ⟨h0,?_⟩
   by_cases hj0:j≤0
   · exact .inl hj0
   · rcases h1 with h1|h1
     · omega
     · exact .inr (Int.le_trans (Int.mul_le_mul_of_nonneg_right (sq_mono (by omega) hj) (by omega)) h1)
 · refine .inr ⟨h0,by omega,Int.le_trans h2 (Int.mul_le_mul_of_nonneg_right ?_ (by omega))⟩
   rw [sq_neg j,sq_neg k]
   exact sq_mono (by omega) (by omega)
def IsSh (n q r:Int):Prop:=ShP n q r∧¬ ShP n q (r+1)
theorem IsSh.uniq {n q r s:Int} (hq:0<q) (h:IsSh n q r) (k:IsSh n q s):r=s:=by
 rcases Int.lt_trichotomy r s with h1|h1|h1
 · exact absurd (k.1.mono hq (by omega)) h.2
 · exact h1
 · exact absurd (h.1.mono hq (by omega)) k.2
noncomputable def shV (n q:Int):Int:=open Classical in if h:∃ r,IsSh n q r then Classical.choose h else 0
theorem IsSh.val {n q r:Int} (hq:0<q) (h:IsSh n q r):shV n q=r:=by
 have hx:∃ r,IsSh n q r:=⟨r,h⟩
 unfold shV
 rw [dif_pos hx]
 exact (Classical.choose_spec hx).uniq hq h
theorem part_facts {n q k:Int} (hq:0<q) (h:IsR ((n*n).tdiv q) k):k*k*q≤n*n∧n*n<(k+1)*(k+1)*q:=by
 have hn:0≤n*n:=by
   rcases Int.le_total 0 n with h|h
   · exact Int.mul_nonneg h h
   · rw [sq_neg];exact Int.mul_nonneg (by omega) (by omega)
 rw [Int.tdiv_eq_ediv_of_nonneg hn] at h
 have h1:=Int.ediv_mul_le (n*n) (Int.ne_of_gt hq)
 have h2:=Int.lt_ediv_add_one_mul_self (n*n) hq
 refine ⟨Int.le_trans (Int.mul_le_mul_of_nonneg_right h.2.1 (by omega)) h1,Int.lt_of_lt_of_le h2 (Int.mul_le_mul_of_nonneg_right ?_ (by omega))⟩
 have:=h.2.2
 omega
theorem isSh_pos {n q k:Int} (hn:0≤n) (h0:0≤k) (h1:k*k*q≤n*n) (h2:n*n<(k+1)*(k+1)*q):IsSh n q k:=by
 refine ⟨.inl ⟨hn,.inr h1⟩,?_⟩
 rintro (⟨_,h|h⟩|⟨h,_⟩)<;>omega
theorem isSh_neg1 {n q k:Int} (hn:n<0) (h0:0≤k) (h1:k*k*q<n*n) (h2:n*n<(k+1)*(k+1)*q):IsSh n q (-(k+1)):=by
 refine ⟨.inr ⟨hn,by omega,?_⟩,?_⟩
 · rw [← sq_neg];omega
 · rintro (⟨h,_⟩|⟨_,h,h3⟩)
   · omega
   · rw [show -(k+1)+1=-k by omega,← sq_neg] at h3
     omega
theorem isSh_neg0 {n q k:Int} (hq:0<q) (hn:n<0) (h0:0≤k) (h1:¬ k*k*q<n*n) (h2:k*k*q≤n*n):IsSh n q (-k):=by
 have hnn:0<n*n:=by rw [sq_neg];exact Int.mul_pos (by omega) (by omega)
 have hk:0<k:=by
   rcases Int.lt_or_le 0 k with h|h
   · exact h
   · obtain rfl:k=0:=by omega
     simp at h1;omega
 refine ⟨.inr ⟨hn,by omega,?_⟩,?_⟩
 · rw [← sq_neg];omega
 · rintro (⟨h,_⟩|⟨_,h,h3⟩)
   · omega
   · rw [show -k+1=-(k-1) by omega,← sq_neg] at h3
     have h4:(k-1)*(k-1)<k*k:=by
       rw [Int.sub_mul,Int.mul_sub];omega
     have:=Int.mul_lt_mul_of_pos_right h4 hq
     omega
theorem mul_abs {x y a b:Int} (hx : -a≤x∧x≤a) (hy : -b≤y∧y≤b) : -(a*b)≤x*y∧x*y≤a*b:=by
 have key:∀ {x y:Int},0≤x→x≤a→-b≤y∧y≤b→-(a*b)≤x*y∧x*y≤a*b:=fun {x y} h0 h1 hy=>by
   have e:∀ {z:Int},0≤z→z≤b→0≤x*z∧x*z≤a*b:=fun hz hb=>⟨Int.mul_nonneg h0 hz,Int.mul_le_mul h1 hb hz (by omega)⟩
   rcases Int.le_total 0 y with h|h
   · have:=e h hy.2;omega
   · have:=e (z:=-y) (by omega) (by omega)
     rw [Int.mul_neg] at this;omega
 rcases Int.le_total 0 x with h|h
 · exact key h hx.2 hy
 · have:=key (x:=-x) (by omega) (by omega) hy
   rw [Int.neg_mul] at this;omega
theorem share_calls (n q:Int) (hq:1≤q) (hq1:q≤200000000) (h8:n*n≤8000000*q) (w:World):Calls Try.prog 78 #[.int .i64 n,.int .i64 q] w fun e w'=>e=.returned (.int .i64 (shV n q))∧Ext w w':=by
  have hnn:InR (n*n):=by
    have:0≤n*n:=by
      rcases Int.le_total 0 n with h|h
      · exact Int.mul_nonneg h h
      · rw [sq_neg];exact Int.mul_nonneg (by omega) (by omega)
    exact ⟨by omega,by omega⟩
  refine enterQ (c:=cx w 55) Try.func78 rfl rfl rfl rfl ?_
  repeat' (first|((with_reducible apply oq_id);first|(apply oq_fn;exact rfl;first|exact trivial|(and_intros<;>omega)|omega|skip))|((with_reducible apply tl_id);first|(with_reducible apply tl_nil)|((with_reducible apply u_q);(iterate 4 exact rfl)))|((with_reducible apply t_id);first|(with_reducible apply t_seq)|(apply t_region;kernel_rfl)|(with_reducible apply t_block))|with_reducible apply q_thenN)
  apply t_loopK (ι:=(Int×Int)) [0,1,4,54] (fun (i:Int×Int)=>[(5,.int .i64 i.1),(6,.int .i64 i.2)]) (fun _=>[]) (fun i=>-4000≤i.1∧i.1<i.2∧i.2≤4000∧ShP n q i.1∧¬ ShP n q i.2) (fun i=>(i.2-i.1).toNat) ((-4000,4000))
  (repeat (first|exact KeepF.nil|(apply KeepF.cons;exact rfl)|apply KeepF.skip))
  (repeat first|exact FrSub.nil|(apply FrSub.cons;exact rfl))
  (repeat (first|exact HpSub.refl _|(apply HpSub.consE;(repeat first|exact P0|apply P1);exact rfl)|exact HpSub.nil))
  · simp only;unfold ShP;omega
  rintro ⟨a,b⟩ ⟨i0,i1,i2,i3,i4⟩
  simp only at i0 i1 i2 i3 i4
  obtain ⟨m,hm⟩:∃ m,m=(a+b).tdiv 2:=⟨_,rfl⟩
  have hm0:a≤m∧m≤b∧(1<b-a→a<m∧m<b):=by
    rcases Int.le_total 0 (a+b) with h|h
    · rw [Int.tdiv_eq_ediv_of_nonneg h] at hm;omega
    · have:(a+b).tdiv 2=-((-(a+b)).tdiv 2):=by rw [Int.neg_tdiv,Int.neg_neg]
      rw [this,Int.tdiv_eq_ediv_of_nonneg (by omega)] at hm;omega
  have h1:=mul_abs (x:=m) (y:=m) (a:=4000) (b:=4000) (by omega) (by omega)
  have h2:=mul_abs (x:=m*m) (y:=q) (a:=16000000) (b:=200000000) (by omega) (by omega)
  have r1:InR (m*m):=⟨by omega,by omega⟩
  have r2:InR (m*m*q):=⟨by omega,by omega⟩
  rw [hm] at r1 r2
  have r3:InR ((a+b).tdiv 2):=by rw [← hm];exact ⟨by omega,by omega⟩
  dsimp only
  repeat' (first|((with_reducible apply oq_id);first|(apply oq_fn;exact rfl;first|exact trivial|(and_intros<;>omega)|omega|skip))|((with_reducible apply tl_id);first|(with_reducible apply tl_nil)|((with_reducible apply u_q);(iterate 4 exact rfl))|((with_reducible apply u_skip);(iterate 3 exact rfl))|((with_reducible apply u_splitD);exact rfl;exact rfl;all_goals first|(intro hp;try (exfalso;omega))|skip))|((with_reducible apply t_id);first|(with_reducible apply t_seq)|(apply t_region;kernel_rfl)|((with_reducible apply t_condF);exact rfl)|((with_reducible apply t_condD);exact rfl;all_goals first|(intro hp;try (exfalso;omega))|skip)|(with_reducible apply t_ret)|(with_reducible apply t_skip)|(with_reducible apply t_exit)|(with_reducible apply t_block))|with_reducible apply q_thenN|with_reducible apply q_blockN|with_reducible apply q_thenE|((with_reducible apply q_blockE);exact rfl)|(with_reducible apply end_ret)|exact rvs_nil|(with_reducible apply rvs_cons)|((with_reducible apply rv_tmp);exact rfl))
  all_goals try rw [← hm] at *
  all_goals first
    | (refine ⟨(m,b),⟨by simp only;omega,by simp only;omega,i2,by simp only;unfold ShP;omega,i4⟩,by simp only;omega,?_,?_⟩<;>(repeat' (first|exact FrSub.nil|(apply FrSub.cons;exact rfl)|exact HpSub.refl _)))
    | (refine ⟨(a,m),⟨i0,by simp only;omega,by simp only;omega,i3,by simp only;unfold ShP;omega⟩,by simp only;omega,?_,?_⟩<;>(repeat' (first|exact FrSub.nil|(apply FrSub.cons;exact rfl)|exact HpSub.refl _)))
    | (obtain rfl:b=a+1:=by omega
       rw [IsSh.val (by omega) ⟨i3,i4⟩];rfl)
end Go.Proofs.Ytcjkndjjbjoehaa
namespace Go.Proofs.Ytcjkndjjbjoehaa
open Go.RowKit
section
variable {c:Cx} {F:Fr} {H:Hp} {d:Option Tmp} {ty t t':TypeId} {pos:String} {af:Array Edge} {g:Option (Nat×Bool)} {x y:Operand} {m n:Int}
theorem oq_shr1U {k':IntKind} (hx:ev F x=some (.int .u64 m)) (hy:ev F y=some (.int k' 1)) (_:0≤m):OQ c ⟨d,.binOp .shr t x y t',ty,pos,af,g⟩ F H (.int .u64 (m / 2)):=by
 have:=oq_shr (c:=c) (d:=d) (ty:=ty) (t:=t) (t':=t') (pos:=pos) (af:=af) (g:=g) (H:=H) hx hy (by omega)
 rw [show (2:Int) ^ (min (1:Int).toNat IntKind.u64.bits)=2 from rfl,Int.fdiv_eq_ediv_of_nonneg _ (by omega)] at this
 exact this
theorem oq_shr1I {k':IntKind} (hx:ev F x=some (.int .i64 m)) (hy:ev F y=some (.int k' 1)):OQ c ⟨d,.binOp .shr t x y t',ty,pos,af,g⟩ F H (.int .i64 (m / 2)):=by
 have:=oq_shr (c:=c) (d:=d) (ty:=ty) (t:=t) (t':=t') (pos:=pos) (af:=af) (g:=g) (H:=H) hx hy (by omega)
 rw [show (2:Int) ^ (min (1:Int).toNat IntKind.i64.bits)=2 from rfl,Int.fdiv_eq_ediv_of_nonneg _ (by omega)] at this
 exact this
theorem oq_shr2I {k':IntKind} (hx:ev F x=some (.int .i64 m)) (hy:ev F y=some (.int k' 2)):OQ c ⟨d,.binOp .shr t x y t',ty,pos,af,g⟩ F H (.int .i64 (m / 4)):=by
 have:=oq_shr (c:=c) (d:=d) (ty:=ty) (t:=t) (t':=t') (pos:=pos) (af:=af) (g:=g) (H:=H) hx hy (by omega)
 rw [show (2:Int) ^ (min (2:Int).toNat IntKind.i64.bits)=4 from rfl,Int.fdiv_eq_ediv_of_nonneg _ (by omega)] at this
 exact this
theorem oq_and1I (hx:ev F x=some (.int .i64 m)) (hy:ev F y=some (.int .i64 1)) (h:0≤m∧m≤9223372036854775807):OQ c ⟨d,.binOp .and t x y t',ty,pos,af,g⟩ F H (.int .i64 (m % 2)):=.of fun D a w ha _=>by
 have hm:=and_mask (a:=m) (j:=1) ⟨h.1,by omega⟩ (by omega)
 rw [show ((2:Int) ^ 1-1)=1 from rfl,show ((2:Int) ^ 1)=2 from rfl] at hm
 have hw:IntKind.i64.wrap (((BitVec.ofInt IntKind.i64.bits m &&& BitVec.ofInt IntKind.i64.bits 1).toNat:Nat):Int)=m % 2:=by
   rw [show (BitVec.ofInt IntKind.i64.bits m &&& BitVec.ofInt IntKind.i64.bits 1).toNat=(m % 2).toNat from hm,Int.toNat_of_nonneg (by omega)]
   exact wrap_in ⟨by omega,by omega⟩
 simp only [execOp,ha.ev hx,ha.ev hy,eqGuard,binOp,Op.intBits]
 rw [hw]
 simp [go_sem]
end
def cutQ {ι:Type} (ch:ι→Fr) (hc:ι→Hp) (G:Fr) (GH:Hp):QS:=fun e F' H'=>e=.normal∧∃ i,FrSub F' (ch i++G)∧HpSub H' (hc i++GH)
section
variable {c:Cx} {S:WS c.P} {Q:QS} {F:Fr} {H:Hp}
theorem t_cutK {ι:Type} (rid:Nat) {ops:Array Oper} {dr:Bool} {y:Code} (keep:List Nat) (ch:ι→Fr) (hc:ι→Hp) {G:Fr} (hK:KeepF F keep G)
   (h1:T c S (.region rid ops dr) (cutQ ch hc G H) F H) (h2:∀ i,T c S y Q (ch i++G) (hc i++H)):T c S (.seq (.region rid ops dr) y) Q F H:=
 t_cut (fun i=>ch i++G) (fun i=>hc i++H) (fun _=>True) (fun D a w ha hw=>S.mono (h1 D a w ha hw) fun e a' w' ⟨D',F',H',⟨he,i,hF,hH⟩,h4,h5⟩=>⟨D',F',H',⟨he,i,trivial,hF,hH⟩,h4,h5⟩) (fun i _=>h2 i)
theorem cut_in1 {ch:Nat→Fr} {hc:Nat→Hp} {G F':Fr} {GH H':Hp} (i:Nat) (h:FrSub F' (ch i++G)) (k:HpSub H' (hc i++GH)):cutQ ch hc G GH .normal F' H':=⟨rfl,i,h,k⟩
theorem cut_in2 {ch:Nat×Nat→Fr} {hc:Nat×Nat→Hp} {G F':Fr} {GH H':Hp} (i j:Nat) (h:FrSub F' (ch (i,j)++G)) (k:HpSub H' (hc (i,j)++GH)):cutQ ch hc G GH .normal F' H':=⟨rfl,(i,j),h,k⟩
theorem cut_in3 {ch:Nat×Nat×Nat→Fr} {hc:Nat×Nat×Nat→Hp} {G F':Fr} {GH H':Hp} (i j l:Nat) (h:FrSub F' (ch (i,j,l)++G)) (k:HpSub H' (hc (i,j,l)++GH)):cutQ ch hc G GH .normal F' H':=⟨rfl,(i,j,l),h,k⟩
end
end Go.Proofs.Ytcjkndjjbjoehaa
namespace Go.Proofs.Ytcjkndjjbjoehaa
open Go.RowKit
attribute [local irreducible] OQ OS OX Rd T TL GX GL AL AI RV wpG SAny Calls
def prI (a b c d:Int) (k:Nat):Int:=(if k % 2=1 then b else a)*(if k / 2 % 2=1 then d else c)
def prK (a b c d:Int) (k:Nat):List (Int×Int):=(List.range 8).map fun i=>if i<k then (prI a b c d i,prI a b c d i) else (0,0)
theorem fine3 {w0:World} {M:Ms} {H H':Hp} {w:World} {g:Nat} {a b a' b' a'' b'':Int} {tg:Tg} {cp:Nat} {q:Bool} (hq:(fineS (a,b) && (fineS (a',b') && fineS (a'',b'')))=q) (h:Has w0 M H w) (p:Pick H g [.int .i64 a,.int .i64 b,.int .i64 a',.int .i64 b',.int .i64 a'',.int .i64 b''] tg H') :
   Calls Try.prog 124 #[.slice (some ⟨g,0,none⟩) 3 cp] w fun e w'=>e=.returned (.bool q)∧Ext w w':=by
 have:=fine_calls (some ⟨g,0,none⟩) 3 cp [(a,b),(a',b'),(a'',b'')] w (Blk.rows (k:=2) (rows:=[(a,b),(a',b'),(a'',b'')].map spanCells) (h.blk _ p.mem).2 rfl (by simp [spanCells])) (by omega)
 simp only [List.all_cons,List.all_nil,Bool.and_true,hq] at this
 exact this
theorem over1_calls (a b c d:Int) (h : -1000000≤a∧a≤b∧b≤1000000) (k0 : -1000000≤c∧c≤d∧d≤1000000) (w:World) :
   Calls Try.prog 116 #[.agg #[.int .i64 a,.int .i64 b],.agg #[.int .i64 c,.int .i64 d],.agg #[.int .i64 1,.int .i64 1]] w fun e w'=>e=.returned (.tuple #[.agg #[.int .i64 (min (min (a*c) (b*c)) (min (a*d) (b*d))),.int .i64 (max (max (a*c) (b*c)) (max (a*d) (b*d)))],.int .i64 0])∧Ext w w':=by
 have hq:(fineS (a,b) && (fineS (c,d) && fineS (1,1)))=true:=by rw [Bool.and_eq_true,Bool.and_eq_true,fineS_iff,fineS_iff,fineS_iff];simp only;omega
 have m1:=mul_abs (x:=a) (y:=c) (a:=1000000) (b:=1000000) (by omega) (by omega)
 have m2:=mul_abs (x:=b) (y:=c) (a:=1000000) (b:=1000000) (by omega) (by omega)
 have m3:=mul_abs (x:=a) (y:=d) (a:=1000000) (b:=1000000) (by omega) (by omega)
 have m4:=mul_abs (x:=b) (y:=d) (a:=1000000) (b:=1000000) (by omega) (by omega)
 have HA:∀ {w0:World} {M:Ms} {H H':Hp} {g:Nat} {tg:Tg} (w1:World),Has w0 M H w1→Pick H g ((prK a b c d 8).map spanCells).flatten tg H'→Calls Try.prog 151 #[.slice (some ⟨g,0,none⟩) 8 8] w1 fun e w'=>
     e=.returned (.agg #[.int .i64 (min (min (a*c) (b*c)) (min (a*d) (b*d))),.int .i64 (max (max (a*c) (b*c)) (max (a*d) (b*d)))])∧Ext w1 w':=fun w1 hw p=>by
   have:=around_calls (some ⟨_,0,none⟩) 8 8 (a*c,a*c) (prK a b c d 8) w1 (Blk.rows (hw.blk _ p.mem).2 (by simp [prK]) (by simp only [List.mem_map];rintro r ⟨x,_,rfl⟩;rfl)) (by omega) rfl (by omega) (by omega)
   have e:hullA (a*c,a*c) (prK a b c d 8)=(min (min (a*c) (b*c)) (min (a*d) (b*d)),max (max (a*c) (b*c)) (max (a*d) (b*d))):=by
     have:prK a b c d 8=[(a*c,a*c),(b*c,b*c),(a*d,a*d),(b*d,b*d),(a*c,a*c),(b*c,b*c),(a*d,a*d),(b*d,b*d)]:=rfl
     rw [this]
     simp only [hullA,List.foldl_cons,List.foldl_nil,hullS]
     generalize a*c=x1
     generalize b*c=x2
     generalize a*d=x3
     generalize b*d=x4
     congr 1<;>omega
   rw [e] at this
   exact this
 refine enterQ (c:=cx w 66) Try.func116 rfl rfl rfl rfl ?_
 repeat' (first|((with_reducible apply oq_id);first|(apply oq_fn;exact rfl;first|exact trivial|(and_intros<;>omega)|omega|skip)|((with_reducible apply oq_load);exact rfl;exact rfl)|((with_reducible apply oq_loadAgg);exact rfl;exact rfl)|((with_reducible apply oq_call (hc:=Try.call124));exact rfl;exact rfl;exact fun D w1 hw1=>fine3 hq hw1 (by (repeat first|exact P0|apply P1))))|((with_reducible apply tl_id);first|(with_reducible apply tl_nil)|((with_reducible apply u_q);(iterate 4 exact rfl))|((with_reducible apply u_s);(iterate 3 exact rfl)))|((with_reducible apply os_id);first|((with_reducible apply os_x);exact rfl))|((with_reducible apply ox_id);first|((with_reducible apply ox_alloc);exact rfl;intro _)|((with_reducible apply ox_boxAgg);exact rfl;intro _)|((with_reducible apply ox_buildSlice2);(iterate 6 exact rfl);intro _))|((with_reducible apply rd_id);first|(apply Rd.own;(repeat first|exact P0|apply P1);exact rfl;done))|((with_reducible apply t_id);first|(with_reducible apply t_seq)|(apply t_region;kernel_rfl)|((with_reducible apply t_condF);exact rfl)|(with_reducible apply t_skip)|(with_reducible apply t_block))|with_reducible apply q_thenN|with_reducible apply q_blockN|exact Rdn.zero|apply Rdn.succ)
 rename_i b3 b4 b5 b6 b7 b8
 apply t_loopK (ι:=Nat) [3,4,5,6,7,8,61,62,63,64,65] (fun k=>[(26,.int .i64 (k:Nat))]) (fun k=>[(b8,((prK a b c d k).map spanCells).flatten,some (245,16,1))]) (fun k=>k≤8) (fun k=>8-k) (0)
 (repeat (first|exact KeepF.nil|(apply KeepF.cons;exact rfl)|apply KeepF.skip))
 (repeat first|exact FrSub.nil|(apply FrSub.cons;exact rfl))
 (repeat (first|exact HpSub.refl _|(apply HpSub.consE;(repeat first|exact P0|apply P1);exact rfl)|exact HpSub.nil))
 · omega
 intro k hk
 try simp only [List.cons_append,List.nil_append]
 by_cases hlt:k<8
 · repeat' (first|((with_reducible apply oq_id);first|(apply oq_fn;exact rfl;first|exact trivial|(and_intros<;>omega)|omega|skip)|((with_reducible apply oq_load);exact rfl;exact rfl)|((with_reducible apply oq_buildA);(iterate 4 exact rfl)))|((with_reducible apply tl_id);first|(with_reducible apply tl_nil)|((with_reducible apply u_q);(iterate 4 exact rfl)))|((with_reducible apply gx_id);first|(with_reducible apply v_nil)|((with_reducible apply v_q);(iterate 3 exact rfl)))|((with_reducible apply os_id);first|((with_reducible apply os_storeAgg);(iterate 5 exact rfl)))|((with_reducible apply ox_id);first|((with_reducible apply ox_alloc);exact rfl;intro _))|((with_reducible apply ai_id);first|((with_reducible apply ai_x);(iterate 5 exact rfl))|((with_reducible apply ai_n0);(iterate 3 exact rfl)))|((with_reducible apply al_keep);focus (repeat first|exact HpSub.refl _|(apply HpSub.cons;(repeat first|exact P0|apply P1))|exact HpSub.nil))|((with_reducible apply rd_id);first|(apply Rd.own;(repeat first|exact P0|apply P1);exact rfl;done))|((with_reducible apply t_id);first|(with_reducible apply t_cutK (ι:=(Nat×Nat×Nat)) (rid:=9) [3,4,5,6,7,8,9,26] (fun i=>[(10,.pointer (some ⟨i.1,0,none⟩)),(11,.pointer (some ⟨i.2.1,0,none⟩)),(12,.pointer (some ⟨i.2.2,0,none⟩))]) (fun i=>[(i.1,[.int .i64 a,.int .i64 b],some (246,2,1)),(i.2.1,[.int .i64 c,.int .i64 d],some (246,2,1)),(i.2.2,[.int .i64 1,.int .i64 1],some (246,2,1))]));(repeat (first|exact KeepF.nil|(apply KeepF.cons;exact rfl)|apply KeepF.skip))|(with_reducible apply t_seq)|(apply t_region;kernel_rfl)|((with_reducible apply t_condD);exact rfl;all_goals first|(intro hp;try (exfalso;omega))|skip)|(with_reducible apply t_skip)|(with_reducible apply t_block))|with_reducible apply q_thenN|exact P0|(with_reducible apply P1)|((with_reducible apply Norm.nil);exact rfl)|((with_reducible apply Norm.cons);exact rfl)|((with_reducible apply cut_in3)<;>(repeat' (first|exact FrSub.nil|(apply FrSub.cons;exact rfl)|exact HpSub.refl _|(apply HpSub.consE;(repeat first|exact P0|apply P1);exact rfl)|exact HpSub.nil)))|(apply t_mix (id:=9) [0,1,2,3,4,5,6,7,8,9,10,11,12,13,14] 6 #[false,false,false,false,false,false,false,false,false,false,false,false,false,false,false,false,false,false,false,false,false];kernel_rfl;kernel_rfl;exact rfl)|((with_reducible apply al_id);first|(apply al_done;decide +kernel)|(apply al_one 15;decide +kernel)|(apply al_one 16;decide +kernel)|(apply al_one 17;decide +kernel)|(apply al_one 18;decide +kernel)|(apply al_one 19;decide +kernel)|(apply al_one 20;decide +kernel)|(apply al_two 15 16;decide +kernel)|(apply al_two 15 17;decide +kernel)|(apply al_two 16 17;decide +kernel)|(apply al_three 15 16 17;decide +kernel))|exact Nat.le_of_ble_eq_true rfl)
   rintro ⟨b10,b11,b12⟩
   try simp only [List.cons_append,List.nil_append]
   try dsimp only
   have hk8:k=0∨k=1∨k=2∨k=3∨k=4∨k=5∨k=6∨k=7:=by omega
   clear hlt hk
   rcases hk8 with rfl|rfl|rfl|rfl|rfl|rfl|rfl|rfl
   · repeat' (first|((with_reducible apply oq_id);first|(apply oq_fn;exact rfl;first|exact trivial|(and_intros<;>omega)|omega|skip)|((with_reducible apply oq_load);exact rfl;exact rfl)|(focus ((with_reducible apply oq_and1I);exact rfl;exact rfl;(refine ⟨?_,?_⟩<;>omega)))|((with_reducible apply oq_shr1I);exact rfl;exact rfl)|((with_reducible apply oq_shr2I);exact rfl;exact rfl)|((with_reducible apply oq_call (hc:=Try.call150));exact rfl;exact rfl;exact fun D w1 hw1=>share1_calls _ _ (by omega) (by omega) w1))|((with_reducible apply tl_id);first|(with_reducible apply tl_nil)|((with_reducible apply u_q);(iterate 4 exact rfl)))|((with_reducible apply gx_id);first|(with_reducible apply v_nil)|((with_reducible apply v_q);(iterate 3 exact rfl)))|((with_reducible apply os_id);first|((with_reducible apply os_storeAgg);(iterate 5 exact rfl)))|((with_reducible apply ai_id);first|((with_reducible apply ai_s0);(iterate 4 exact rfl)))|((with_reducible apply rd_id);first|(apply Rd.own;(repeat first|exact P0|apply P1);exact rfl;done))|((with_reducible apply t_id);first|(apply t_region;kernel_rfl))|with_reducible apply q_thenN|with_reducible apply q_blockN|exact P0|(with_reducible apply P1)|((with_reducible apply Norm.nil);exact rfl)|((with_reducible apply Norm.cons);exact rfl)|(apply t_mix (id:=10) [0,1,2,3,4,5,6,7,8,9,10,11,12,13,14,15] 1 #[false,false,false,false,false,false,false,false,false,false,false,false,false,false,false,false,true];kernel_rfl;kernel_rfl;exact rfl)|((with_reducible apply al_id);first|(apply al_done;decide +kernel)|(apply al_one 16;decide +kernel))|exact Nat.le_of_ble_eq_true rfl)
     refine ⟨1,by omega,by omega,?_,?_⟩
     · try simp only [List.cons_append,List.nil_append]
       (repeat first|exact FrSub.nil|(apply FrSub.cons;exact rfl))
     · try simp only [List.cons_append,List.nil_append]
       (repeat (first|exact HpSub.refl _|(apply HpSub.consE;(repeat first|exact P0|apply P1);exact rfl)|exact HpSub.nil))
   · repeat' (first|((with_reducible apply oq_id);first|(apply oq_fn;exact rfl;first|exact trivial|(and_intros<;>omega)|omega|skip)|((with_reducible apply oq_load);exact rfl;exact rfl)|(focus ((with_reducible apply oq_and1I);exact rfl;exact rfl;(refine ⟨?_,?_⟩<;>omega)))|((with_reducible apply oq_shr1I);exact rfl;exact rfl)|((with_reducible apply oq_shr2I);exact rfl;exact rfl)|((with_reducible apply oq_call (hc:=Try.call150));exact rfl;exact rfl;exact fun D w1 hw1=>share1_calls _ _ (by omega) (by omega) w1))|((with_reducible apply tl_id);first|(with_reducible apply tl_nil)|((with_reducible apply u_q);(iterate 4 exact rfl)))|((with_reducible apply gx_id);first|(with_reducible apply v_nil)|((with_reducible apply v_q);(iterate 3 exact rfl)))|((with_reducible apply os_id);first|((with_reducible apply os_storeAgg);(iterate 5 exact rfl)))|((with_reducible apply ai_id);first|((with_reducible apply ai_s0);(iterate 4 exact rfl)))|((with_reducible apply rd_id);first|(apply Rd.own;(repeat first|exact P0|apply P1);exact rfl;done))|((with_reducible apply t_id);first|(apply t_region;kernel_rfl))|with_reducible apply q_thenN|with_reducible apply q_blockN|exact P0|(with_reducible apply P1)|((with_reducible apply Norm.nil);exact rfl)|((with_reducible apply Norm.cons);exact rfl)|(apply t_mix (id:=10) [0,1,2,3,4,5,6,7,8,9,10,11,12,13,14,15] 1 #[false,false,false,false,false,false,false,false,false,false,false,false,false,false,false,false,true];kernel_rfl;kernel_rfl;exact rfl)|((with_reducible apply al_id);first|(apply al_done;decide +kernel)|(apply al_one 16;decide +kernel))|exact Nat.le_of_ble_eq_true rfl)
     refine ⟨2,by omega,by omega,?_,?_⟩
     · try simp only [List.cons_append,List.nil_append]
       (repeat first|exact FrSub.nil|(apply FrSub.cons;exact rfl))
     · try simp only [List.cons_append,List.nil_append]
       (repeat (first|exact HpSub.refl _|(apply HpSub.consE;(repeat first|exact P0|apply P1);exact rfl)|exact HpSub.nil))
   · repeat' (first|((with_reducible apply oq_id);first|(apply oq_fn;exact rfl;first|exact trivial|(and_intros<;>omega)|omega|skip)|((with_reducible apply oq_load);exact rfl;exact rfl)|(focus ((with_reducible apply oq_and1I);exact rfl;exact rfl;(refine ⟨?_,?_⟩<;>omega)))|((with_reducible apply oq_shr1I);exact rfl;exact rfl)|((with_reducible apply oq_shr2I);exact rfl;exact rfl)|((with_reducible apply oq_call (hc:=Try.call150));exact rfl;exact rfl;exact fun D w1 hw1=>share1_calls _ _ (by omega) (by omega) w1))|((with_reducible apply tl_id);first|(with_reducible apply tl_nil)|((with_reducible apply u_q);(iterate 4 exact rfl)))|((with_reducible apply gx_id);first|(with_reducible apply v_nil)|((with_reducible apply v_q);(iterate 3 exact rfl)))|((with_reducible apply os_id);first|((with_reducible apply os_storeAgg);(iterate 5 exact rfl)))|((with_reducible apply ai_id);first|((with_reducible apply ai_s0);(iterate 4 exact rfl)))|((with_reducible apply rd_id);first|(apply Rd.own;(repeat first|exact P0|apply P1);exact rfl;done))|((with_reducible apply t_id);first|(apply t_region;kernel_rfl))|with_reducible apply q_thenN|with_reducible apply q_blockN|exact P0|(with_reducible apply P1)|((with_reducible apply Norm.nil);exact rfl)|((with_reducible apply Norm.cons);exact rfl)|(apply t_mix (id:=10) [0,1,2,3,4,5,6,7,8,9,10,11,12,13,14,15] 1 #[false,false,false,false,false,false,false,false,false,false,false,false,false,false,false,false,true];kernel_rfl;kernel_rfl;exact rfl)|((with_reducible apply al_id);first|(apply al_done;decide +kernel)|(apply al_one 16;decide +kernel))|exact Nat.le_of_ble_eq_true rfl)
     refine ⟨3,by omega,by omega,?_,?_⟩
     · try simp only [List.cons_append,List.nil_append]
       (repeat first|exact FrSub.nil|(apply FrSub.cons;exact rfl))
     · try simp only [List.cons_append,List.nil_append]
       (repeat (first|exact HpSub.refl _|(apply HpSub.consE;(repeat first|exact P0|apply P1);exact rfl)|exact HpSub.nil))
   · repeat' (first|((with_reducible apply oq_id);first|(apply oq_fn;exact rfl;first|exact trivial|(and_intros<;>omega)|omega|skip)|((with_reducible apply oq_load);exact rfl;exact rfl)|(focus ((with_reducible apply oq_and1I);exact rfl;exact rfl;(refine ⟨?_,?_⟩<;>omega)))|((with_reducible apply oq_shr1I);exact rfl;exact rfl)|((with_reducible apply oq_shr2I);exact rfl;exact rfl)|((with_reducible apply oq_call (hc:=Try.call150));exact rfl;exact rfl;exact fun D w1 hw1=>share1_calls _ _ (by omega) (by omega) w1))|((with_reducible apply tl_id);first|(with_reducible apply tl_nil)|((with_reducible apply u_q);(iterate 4 exact rfl)))|((with_reducible apply gx_id);first|(with_reducible apply v_nil)|((with_reducible apply v_q);(iterate 3 exact rfl)))|((with_reducible apply os_id);first|((with_reducible apply os_storeAgg);(iterate 5 exact rfl)))|((with_reducible apply ai_id);first|((with_reducible apply ai_s0);(iterate 4 exact rfl)))|((with_reducible apply rd_id);first|(apply Rd.own;(repeat first|exact P0|apply P1);exact rfl;done))|((with_reducible apply t_id);first|(apply t_region;kernel_rfl))|with_reducible apply q_thenN|with_reducible apply q_blockN|exact P0|(with_reducible apply P1)|((with_reducible apply Norm.nil);exact rfl)|((with_reducible apply Norm.cons);exact rfl)|(apply t_mix (id:=10) [0,1,2,3,4,5,6,7,8,9,10,11,12,13,14,15] 1 #[false,false,false,false,false,false,false,false,false,false,false,false,false,false,false,false,true];kernel_rfl;kernel_rfl;exact rfl)|((with_reducible apply al_id);first|(apply al_done;decide +kernel)|(apply al_one 16;decide +kernel))|exact Nat.le_of_ble_eq_true rfl)
     refine ⟨4,by omega,by omega,?_,?_⟩
     · try simp only [List.cons_append,List.nil_append]
       (repeat first|exact FrSub.nil|(apply FrSub.cons;exact rfl))
     · try simp only [List.cons_append,List.nil_append]
       (repeat (first|exact HpSub.refl _|(apply HpSub.consE;(repeat first|exact P0|apply P1);exact rfl)|exact HpSub.nil))
   · repeat' (first|((with_reducible apply oq_id);first|(apply oq_fn;exact rfl;first|exact trivial|(and_intros<;>omega)|omega|skip)|((with_reducible apply oq_load);exact rfl;exact rfl)|(focus ((with_reducible apply oq_and1I);exact rfl;exact rfl;(refine ⟨?_,?_⟩<;>omega)))|((with_reducible apply oq_shr1I);exact rfl;exact rfl)|((with_reducible apply oq_shr2I);exact rfl;exact rfl)|((with_reducible apply oq_call (hc:=Try.call150));exact rfl;exact rfl;exact fun D w1 hw1=>share1_calls _ _ (by omega) (by omega) w1))|((with_reducible apply tl_id);first|(with_reducible apply tl_nil)|((with_reducible apply u_q);(iterate 4 exact rfl)))|((with_reducible apply gx_id);first|(with_reducible apply v_nil)|((with_reducible apply v_q);(iterate 3 exact rfl)))|((with_reducible apply os_id);first|((with_reducible apply os_storeAgg);(iterate 5 exact rfl)))|((with_reducible apply ai_id);first|((with_reducible apply ai_s0);(iterate 4 exact rfl)))|((with_reducible apply rd_id);first|(apply Rd.own;(repeat first|exact P0|apply P1);exact rfl;done))|((with_reducible apply t_id);first|(apply t_region;kernel_rfl))|with_reducible apply q_thenN|with_reducible apply q_blockN|exact P0|(with_reducible apply P1)|((with_reducible apply Norm.nil);exact rfl)|((with_reducible apply Norm.cons);exact rfl)|(apply t_mix (id:=10) [0,1,2,3,4,5,6,7,8,9,10,11,12,13,14,15] 1 #[false,false,false,false,false,false,false,false,false,false,false,false,false,false,false,false,true];kernel_rfl;kernel_rfl;exact rfl)|((with_reducible apply al_id);first|(apply al_done;decide +kernel)|(apply al_one 16;decide +kernel))|exact Nat.le_of_ble_eq_true rfl)
     refine ⟨5,by omega,by omega,?_,?_⟩
     · try simp only [List.cons_append,List.nil_append]
       (repeat first|exact FrSub.nil|(apply FrSub.cons;exact rfl))
     · try simp only [List.cons_append,List.nil_append]
       (repeat (first|exact HpSub.refl _|(apply HpSub.consE;(repeat first|exact P0|apply P1);exact rfl)|exact HpSub.nil))
   · repeat' (first|((with_reducible apply oq_id);first|(apply oq_fn;exact rfl;first|exact trivial|(and_intros<;>omega)|omega|skip)|((with_reducible apply oq_load);exact rfl;exact rfl)|(focus ((with_reducible apply oq_and1I);exact rfl;exact rfl;(refine ⟨?_,?_⟩<;>omega)))|((with_reducible apply oq_shr1I);exact rfl;exact rfl)|((with_reducible apply oq_shr2I);exact rfl;exact rfl)|((with_reducible apply oq_call (hc:=Try.call150));exact rfl;exact rfl;exact fun D w1 hw1=>share1_calls _ _ (by omega) (by omega) w1))|((with_reducible apply tl_id);first|(with_reducible apply tl_nil)|((with_reducible apply u_q);(iterate 4 exact rfl)))|((with_reducible apply gx_id);first|(with_reducible apply v_nil)|((with_reducible apply v_q);(iterate 3 exact rfl)))|((with_reducible apply os_id);first|((with_reducible apply os_storeAgg);(iterate 5 exact rfl)))|((with_reducible apply ai_id);first|((with_reducible apply ai_s0);(iterate 4 exact rfl)))|((with_reducible apply rd_id);first|(apply Rd.own;(repeat first|exact P0|apply P1);exact rfl;done))|((with_reducible apply t_id);first|(apply t_region;kernel_rfl))|with_reducible apply q_thenN|with_reducible apply q_blockN|exact P0|(with_reducible apply P1)|((with_reducible apply Norm.nil);exact rfl)|((with_reducible apply Norm.cons);exact rfl)|(apply t_mix (id:=10) [0,1,2,3,4,5,6,7,8,9,10,11,12,13,14,15] 1 #[false,false,false,false,false,false,false,false,false,false,false,false,false,false,false,false,true];kernel_rfl;kernel_rfl;exact rfl)|((with_reducible apply al_id);first|(apply al_done;decide +kernel)|(apply al_one 16;decide +kernel))|exact Nat.le_of_ble_eq_true rfl)
     refine ⟨6,by omega,by omega,?_,?_⟩
     · try simp only [List.cons_append,List.nil_append]
       (repeat first|exact FrSub.nil|(apply FrSub.cons;exact rfl))
     · try simp only [List.cons_append,List.nil_append]
       (repeat (first|exact HpSub.refl _|(apply HpSub.consE;(repeat first|exact P0|apply P1);exact rfl)|exact HpSub.nil))
   · repeat' (first|((with_reducible apply oq_id);first|(apply oq_fn;exact rfl;first|exact trivial|(and_intros<;>omega)|omega|skip)|((with_reducible apply oq_load);exact rfl;exact rfl)|(focus ((with_reducible apply oq_and1I);exact rfl;exact rfl;(refine ⟨?_,?_⟩<;>omega)))|((with_reducible apply oq_shr1I);exact rfl;exact rfl)|((with_reducible apply oq_shr2I);exact rfl;exact rfl)|((with_reducible apply oq_call (hc:=Try.call150));exact rfl;exact rfl;exact fun D w1 hw1=>share1_calls _ _ (by omega) (by omega) w1))|((with_reducible apply tl_id);first|(with_reducible apply tl_nil)|((with_reducible apply u_q);(iterate 4 exact rfl)))|((with_reducible apply gx_id);first|(with_reducible apply v_nil)|((with_reducible apply v_q);(iterate 3 exact rfl)))|((with_reducible apply os_id);first|((with_reducible apply os_storeAgg);(iterate 5 exact rfl)))|((with_reducible apply ai_id);first|((with_reducible apply ai_s0);(iterate 4 exact rfl)))|((with_reducible apply rd_id);first|(apply Rd.own;(repeat first|exact P0|apply P1);exact rfl;done))|((with_reducible apply t_id);first|(apply t_region;kernel_rfl))|with_reducible apply q_thenN|with_reducible apply q_blockN|exact P0|(with_reducible apply P1)|((with_reducible apply Norm.nil);exact rfl)|((with_reducible apply Norm.cons);exact rfl)|(apply t_mix (id:=10) [0,1,2,3,4,5,6,7,8,9,10,11,12,13,14,15] 1 #[false,false,false,false,false,false,false,false,false,false,false,false,false,false,false,false,true];kernel_rfl;kernel_rfl;exact rfl)|((with_reducible apply al_id);first|(apply al_done;decide +kernel)|(apply al_one 16;decide +kernel))|exact Nat.le_of_ble_eq_true rfl)
     refine ⟨7,by omega,by omega,?_,?_⟩
     · try simp only [List.cons_append,List.nil_append]
       (repeat first|exact FrSub.nil|(apply FrSub.cons;exact rfl))
     · try simp only [List.cons_append,List.nil_append]
       (repeat (first|exact HpSub.refl _|(apply HpSub.consE;(repeat first|exact P0|apply P1);exact rfl)|exact HpSub.nil))
   · repeat' (first|((with_reducible apply oq_id);first|(apply oq_fn;exact rfl;first|exact trivial|(and_intros<;>omega)|omega|skip)|((with_reducible apply oq_load);exact rfl;exact rfl)|(focus ((with_reducible apply oq_and1I);exact rfl;exact rfl;(refine ⟨?_,?_⟩<;>omega)))|((with_reducible apply oq_shr1I);exact rfl;exact rfl)|((with_reducible apply oq_shr2I);exact rfl;exact rfl)|((with_reducible apply oq_call (hc:=Try.call150));exact rfl;exact rfl;exact fun D w1 hw1=>share1_calls _ _ (by omega) (by omega) w1))|((with_reducible apply tl_id);first|(with_reducible apply tl_nil)|((with_reducible apply u_q);(iterate 4 exact rfl)))|((with_reducible apply gx_id);first|(with_reducible apply v_nil)|((with_reducible apply v_q);(iterate 3 exact rfl)))|((with_reducible apply os_id);first|((with_reducible apply os_storeAgg);(iterate 5 exact rfl)))|((with_reducible apply ai_id);first|((with_reducible apply ai_s0);(iterate 4 exact rfl)))|((with_reducible apply rd_id);first|(apply Rd.own;(repeat first|exact P0|apply P1);exact rfl;done))|((with_reducible apply t_id);first|(apply t_region;kernel_rfl))|with_reducible apply q_thenN|with_reducible apply q_blockN|exact P0|(with_reducible apply P1)|((with_reducible apply Norm.nil);exact rfl)|((with_reducible apply Norm.cons);exact rfl)|(apply t_mix (id:=10) [0,1,2,3,4,5,6,7,8,9,10,11,12,13,14,15] 1 #[false,false,false,false,false,false,false,false,false,false,false,false,false,false,false,false,true];kernel_rfl;kernel_rfl;exact rfl)|((with_reducible apply al_id);first|(apply al_done;decide +kernel)|(apply al_one 16;decide +kernel))|exact Nat.le_of_ble_eq_true rfl)
     refine ⟨8,by omega,by omega,?_,?_⟩
     · try simp only [List.cons_append,List.nil_append]
       (repeat first|exact FrSub.nil|(apply FrSub.cons;exact rfl))
     · try simp only [List.cons_append,List.nil_append]
       (repeat (first|exact HpSub.refl _|(apply HpSub.consE;(repeat first|exact P0|apply P1);exact rfl)|exact HpSub.nil))
 · obtain rfl:k=8:=by omega
   repeat' (first|((with_reducible apply oq_id);first|(apply oq_fn;exact rfl;first|exact trivial|(and_intros<;>omega)|omega|skip)|((with_reducible apply oq_sliceArr);(iterate 3 exact rfl))|((with_reducible apply oq_call (hc:=Try.call151));exact rfl;exact rfl;exact fun D w1 hw1=>HA w1 hw1 (by (repeat first|exact P0|apply P1)))|((with_reducible apply oq_call (hc:=Try.call129));exact rfl;exact rfl;exact fun D w1 hw1=>sized_calls _ _ (by omega) (by omega) w1))|((with_reducible apply tl_id);first|(with_reducible apply tl_nil)|((with_reducible apply u_q);(iterate 4 exact rfl))|((with_reducible apply u_s0);exact rfl;exact rfl))|((with_reducible apply os_id);first|((with_reducible apply os_storeAgg);(iterate 5 exact rfl)))|((with_reducible apply rd_id);first|(apply Rd.own;(repeat first|exact P0|apply P1);exact rfl;done))|((with_reducible apply t_id);first|(with_reducible apply t_seq)|(apply t_region;kernel_rfl)|((with_reducible apply t_condF);exact rfl)|(with_reducible apply t_ret)|(with_reducible apply t_exit))|with_reducible apply q_thenN|with_reducible apply q_thenE|((with_reducible apply q_blockE);exact rfl)|exact P0|(with_reducible apply P1)|exact Rdn.zero|apply Rdn.succ|((with_reducible apply Norm.nil);exact rfl)|((with_reducible apply Norm.cons);exact rfl)|(with_reducible apply end_ret)|exact rvs_nil|(with_reducible apply rvs_cons)|((with_reducible apply rv_tmp);exact rfl)|((with_reducible apply rv_cellAgg);exact rfl;exact rfl)|exact Nat.le_of_ble_eq_true rfl)
   rfl
theorem mul_calls (a b c d:Int) (h : -1000000≤a∧a≤b∧b≤1000000) (k0 : -1000000≤c∧c≤d∧d≤1000000) (w:World) :
   Calls Try.prog 76 #[.agg #[.int .i64 a,.int .i64 b],.agg #[.int .i64 c,.int .i64 d]] w fun e w'=>e=.returned (.tuple #[.agg #[.int .i64 (min (min (a*c) (b*c)) (min (a*d) (b*d))),.int .i64 (max (max (a*c) (b*c)) (max (a*d) (b*d)))],.int .i64 0])∧Ext w w':=by
 refine enterQ (c:=cx w 12) Try.func76 rfl rfl rfl rfl ?_
 repeat' (first|((with_reducible apply oq_id);first|(apply oq_fn;exact rfl;first|exact trivial|(and_intros<;>omega)|omega|skip)|((with_reducible apply oq_loadAgg);exact rfl;exact rfl)|((with_reducible apply oq_call (hc:=Try.call116));exact rfl;exact rfl;exact fun D w1 hw1=>over1_calls _ _ _ _ h k0 w1)|((with_reducible apply oq_build);(iterate 3 exact rfl)))|((with_reducible apply tl_id);first|(with_reducible apply tl_nil)|((with_reducible apply u_q);(iterate 4 exact rfl))|((with_reducible apply u_s0);exact rfl;exact rfl)|((with_reducible apply u_s);(iterate 3 exact rfl)))|((with_reducible apply os_id);first|((with_reducible apply os_x);exact rfl)|((with_reducible apply os_storeAgg);(iterate 5 exact rfl)))|((with_reducible apply ox_id);first|((with_reducible apply ox_alloc);exact rfl;intro _)|((with_reducible apply ox_boxAgg);exact rfl;intro _))|((with_reducible apply rd_id);first|(apply Rd.own;(repeat first|exact P0|apply P1);exact rfl;done))|((with_reducible apply t_id);first|(with_reducible apply t_seq)|(apply t_region;kernel_rfl)|(with_reducible apply t_ret))|with_reducible apply q_thenN|exact P0|exact Rdn.zero|apply Rdn.succ|((with_reducible apply Norm.nil);exact rfl)|((with_reducible apply Norm.cons);exact rfl)|(with_reducible apply end_ret)|exact rvs_nil|(with_reducible apply rvs_cons)|((with_reducible apply rv_tmp);exact rfl)|((with_reducible apply rv_cellAgg);exact rfl;exact rfl)|exact Nat.le_of_ble_eq_true rfl)
 all_goals rfl
def wayOk (dx dy:Int):Bool:=allFrom (-10000) 10000 [dx,dy] && !(decide (dx=0) && decide (dy=0))
def alongLo (a b c d dx dy:Int):Int:=min (a*dx) (b*dx)+min (c*dy) (d*dy)
def alongHi (a b c d dx dy:Int):Int:=max (a*dx) (b*dx)+max (c*dy) (d*dy)
noncomputable def alongV (a b c d dx dy:Int):Int×Int×Int:=
 if windE a b c d=0 then (if wayOk dx dy then (shV (alongLo a b c d dx dy) (dx*dx+dy*dy),-shV (-alongHi a b c d dx dy) (dx*dx+dy*dy),0) else (0,0,2)) else (0,0,windE a b c d)
theorem fromS2 {w0:World} {M:Ms} {H H':Hp} {w:World} {g:Nat} {a b lo hi:Int} {tg:Tg} {cp:Nat} {q:Bool} (hq:allFrom lo hi [a,b]=q) (h:Has w0 M H w) (p:Pick H g [.int .i64 a,.int .i64 b] tg H') :
   Calls Try.prog 75 #[.int .i64 lo,.int .i64 hi,.slice (some ⟨g,0,none⟩) 2 cp] w fun e w'=>e=.returned (.bool q)∧Ext w w':=
 hq ▸ from_calls lo hi (some ⟨g,0,none⟩) 2 cp [a,b] w (Blk.rows (k:=1) (rows:=[a,b].map fun z=>[Value.int .i64 z]) (h.blk _ p.mem).2 rfl (by simp)) (by omega)
theorem sum_sq {x y p q:Int} (hx : -2000≤x∧x≤2000) (hy : -2000≤y∧y≤2000):(x*p+y*q)*(x*p+y*q)≤8000000*(p*p+q*q):=by
 have key:(x*p+y*q)*(x*p+y*q)+(x*q-y*p)*(x*q-y*p)=(x*x+y*y)*(p*p+q*q):=by
   simp only [Int.add_mul,Int.mul_add,Int.sub_mul,Int.mul_sub]
   have e1:x*p*(x*p)=x*x*(p*p):=by ac_rfl
   have e2:y*q*(y*q)=y*y*(q*q):=by ac_rfl
   have e3:x*q*(x*q)=x*x*(q*q):=by ac_rfl
   have e4:y*p*(y*p)=y*y*(p*p):=by ac_rfl
   have e5:x*p*(y*q)=x*y*(p*q):=by ac_rfl
   have e6:y*q*(x*p)=x*y*(p*q):=by ac_rfl
   have e7:x*q*(y*p)=x*y*(p*q):=by ac_rfl
   have e8:y*p*(x*q)=x*y*(p*q):=by ac_rfl
   omega
 have sq0:∀ z:Int,0≤z*z:=fun z=>by
   rcases Int.le_total 0 z with h|h
   · exact Int.mul_nonneg h h
   · rw [sq_neg];exact Int.mul_nonneg (by omega) (by omega)
 have h1:=sq0 (x*q-y*p)
 have hx2:=(mul_abs hx hx).2
 have hy2:=(mul_abs hy hy).2
 have hp:=sq0 p
 have hq:=sq0 q
 have h2:(x*x+y*y)*(p*p+q*q)≤8000000*(p*p+q*q):=Int.mul_le_mul_of_nonneg_right (by omega) (by omega)
 omega
theorem alongLo_sq {a b c d dx dy:Int} (h:a≤b∧c≤d∧-2000≤a∧b≤2000∧-2000≤c∧d≤2000):alongLo a b c d dx dy*alongLo a b c d dx dy≤8000000*(dx*dx+dy*dy):=by
 unfold alongLo
 rcases Int.le_total (a*dx) (b*dx) with h1|h1<;>rcases Int.le_total (c*dy) (d*dy) with h2|h2
 · rw [Int.min_eq_left h1,Int.min_eq_left h2];exact sum_sq (by omega) (by omega)
 · rw [Int.min_eq_left h1,Int.min_eq_right h2];exact sum_sq (by omega) (by omega)
 · rw [Int.min_eq_right h1,Int.min_eq_left h2];exact sum_sq (by omega) (by omega)
 · rw [Int.min_eq_right h1,Int.min_eq_right h2];exact sum_sq (by omega) (by omega)
theorem alongHi_sq {a b c d dx dy:Int} (h:a≤b∧c≤d∧-2000≤a∧b≤2000∧-2000≤c∧d≤2000) : -alongHi a b c d dx dy * -alongHi a b c d dx dy≤8000000*(dx*dx+dy*dy):=by
 rw [← sq_neg]
 unfold alongHi
 rcases Int.le_total (a*dx) (b*dx) with h1|h1<;>rcases Int.le_total (c*dy) (d*dy) with h2|h2
 · rw [Int.max_eq_right h1,Int.max_eq_right h2];exact sum_sq (by omega) (by omega)
 · rw [Int.max_eq_right h1,Int.max_eq_left h2];exact sum_sq (by omega) (by omega)
 · rw [Int.max_eq_left h1,Int.max_eq_right h2];exact sum_sq (by omega) (by omega)
 · rw [Int.max_eq_left h1,Int.max_eq_left h2];exact sum_sq (by omega) (by omega)
theorem sq_nn (n:Int):0≤n*n:=by
 rcases Int.le_total 0 n with h|h
 · exact Int.mul_nonneg h h
 · rw [sq_neg];exact Int.mul_nonneg (by omega) (by omega)
theorem shV_ex {n q:Int} (hq:1≤q) (h8:n*n≤8000000*q):IsSh n q (shV n q)∧-4000≤shV n q∧shV n q≤4000:=by
 have hk:=rt_spec ((n*n).tdiv q) (by rw [Int.tdiv_eq_ediv_of_nonneg (sq_nn n)];exact Int.ediv_nonneg (sq_nn n) (by omega))
 have hd1:(n*n).tdiv q≤8000000:=by rw [Int.tdiv_eq_ediv_of_nonneg (sq_nn n)];exact Int.ediv_le_of_le_mul (by omega) h8
 obtain ⟨k,ek⟩:∃ k,k=rt ((n*n).tdiv q):=⟨_,rfl⟩
 rw [← ek] at hk
 obtain ⟨f1,f2⟩:=part_facts (by omega) hk
 have hk0:=hk.1
 have hk1:k≤3000:=by
   rcases Int.lt_or_le 3000 k with h|h
   · have:=sq_mono (j:=3001) (k:=k) (by omega) (by omega)
     have:=hk.2.1;omega
   · exact h
 by_cases hn:0≤n
 · have:=isSh_pos hn hk0 f1 f2
   rw [this.val (by omega)]
   exact ⟨this,by omega,by omega⟩
 · by_cases hh:k*k*q<n*n
   · have:=isSh_neg1 (by omega) hk0 hh f2
     rw [this.val (by omega)]
     exact ⟨this,by omega,by omega⟩
   · have:=isSh_neg0 (by omega) (by omega) hk0 hh f1
     rw [this.val (by omega)]
     exact ⟨this,by omega,by omega⟩
theorem shV_in {n q:Int} (hq:1≤q) (h8:n*n≤8000000*q):InR (-shV n q):=by
 have:=shV_ex hq h8
 exact ⟨by omega,by omega⟩
theorem airAlong_calls (a b c d dx dy:Int) (w:World):Calls Try.prog 31 #[.agg #[.int .i64 a,.int .i64 b,.int .i64 c,.int .i64 d],.int .i64 dx,.int .i64 dy] w fun e w'=>e=.returned (.tuple #[.agg #[.int .i64 (alongV a b c d dx dy).1,.int .i64 (alongV a b c d dx dy).2.1],.int .i64 (alongV a b c d dx dy).2.2])∧Ext w w':=by
 have H1:=fun w1=>checkWind_calls a b c d w1
 obtain ⟨e,he⟩:∃ e,windE a b c d=e:=⟨_,rfl⟩
 obtain ⟨q,hq⟩:∃ q,allFrom (-10000) 10000 [dx,dy]=q:=⟨_,rfl⟩
 rw [he] at H1
 by_cases he0:e=0
 · subst he0
   have hb:=windE_zero he
   cases q with
   | false=>
     have hW:alongV a b c d dx dy=(0,0,2):=by unfold alongV;rw [he,if_pos rfl,if_neg (by unfold wayOk;rw [hq];simp)]
     rw [hW]
     refine enterQ (c:=cx w 78) Try.func31 rfl rfl rfl rfl ?_
     repeat' (first|((with_reducible apply oq_id);first|(apply oq_fn;exact rfl;first|exact trivial|(and_intros<;>omega)|omega|skip)|((with_reducible apply oq_loadAgg);exact rfl;exact rfl)|((with_reducible apply oq_call (hc:=Try.call73));exact rfl;exact rfl;exact fun D w1 hw1=>H1 w1)|((with_reducible apply oq_call (hc:=Try.call75));exact rfl;exact rfl;exact fun D w1 hw1=>fromS2 hq hw1 (by (repeat first|exact P0|apply P1)))|((with_reducible apply oq_build);(iterate 3 exact rfl)))|((with_reducible apply tl_id);first|(with_reducible apply tl_nil)|((with_reducible apply u_q);(iterate 4 exact rfl))|((with_reducible apply u_s0);exact rfl;exact rfl)|((with_reducible apply u_s);(iterate 3 exact rfl))|((with_reducible apply u_skip);(iterate 3 exact rfl)))|((with_reducible apply os_id);first|((with_reducible apply os_x);exact rfl)|((with_reducible apply os_storeAgg);(iterate 5 exact rfl)))|((with_reducible apply ox_id);first|((with_reducible apply ox_alloc);exact rfl;intro _)|((with_reducible apply ox_boxAgg);exact rfl;intro _)|((with_reducible apply ox_buildSlice1);(iterate 6 exact rfl);intro _))|((with_reducible apply rd_id);first|(apply Rd.own;(repeat first|exact P0|apply P1);exact rfl;done))|((with_reducible apply t_id);first|(with_reducible apply t_seq)|(apply t_region;kernel_rfl)|((with_reducible apply t_condT);exact rfl)|((with_reducible apply t_condF);exact rfl)|(with_reducible apply t_ret)|(with_reducible apply t_skip))|with_reducible apply q_thenN|with_reducible apply q_thenR|exact P0|(with_reducible apply P1)|exact Rdn.zero|apply Rdn.succ|((with_reducible apply Norm.nil);exact rfl)|((with_reducible apply Norm.cons);exact rfl)|(with_reducible apply end_ret)|exact rvs_nil|(with_reducible apply rvs_cons)|((with_reducible apply rv_tmp);exact rfl)|((with_reducible apply rv_cellAgg);exact rfl;exact rfl)|exact Nat.le_of_ble_eq_true rfl)
     all_goals rfl
   | true=>
     have hd : -10000≤dx∧dx≤10000∧-10000≤dy∧dy≤10000:=by unfold allFrom at hq;simp at hq;omega
     by_cases hz:dx=0∧dy=0
     · have hW:alongV a b c d dx dy=(0,0,2):=by unfold alongV;rw [he,if_pos rfl,if_neg (by unfold wayOk;rw [hq];simp [hz.1,hz.2])]
       rw [hW]
       refine enterQ (c:=cx w 78) Try.func31 rfl rfl rfl rfl ?_
       repeat' (first|((with_reducible apply oq_id);first|(apply oq_fn;exact rfl;first|exact trivial|(and_intros<;>omega)|omega|skip)|((with_reducible apply oq_loadAgg);exact rfl;exact rfl)|((with_reducible apply oq_call (hc:=Try.call73));exact rfl;exact rfl;exact fun D w1 hw1=>H1 w1)|((with_reducible apply oq_call (hc:=Try.call75));exact rfl;exact rfl;exact fun D w1 hw1=>fromS2 hq hw1 (by (repeat first|exact P0|apply P1)))|((with_reducible apply oq_build);(iterate 3 exact rfl)))|((with_reducible apply tl_id);first|(with_reducible apply tl_nil)|((with_reducible apply u_q);(iterate 4 exact rfl))|((with_reducible apply u_s0);exact rfl;exact rfl)|((with_reducible apply u_s);(iterate 3 exact rfl))|((with_reducible apply u_splitD);exact rfl;exact rfl;all_goals first|(intro hp;try (exfalso;omega))|skip))|((with_reducible apply os_id);first|((with_reducible apply os_x);exact rfl)|((with_reducible apply os_storeAgg);(iterate 5 exact rfl)))|((with_reducible apply ox_id);first|((with_reducible apply ox_alloc);exact rfl;intro _)|((with_reducible apply ox_boxAgg);exact rfl;intro _)|((with_reducible apply ox_buildSlice1);(iterate 6 exact rfl);intro _))|((with_reducible apply rd_id);first|(apply Rd.own;(repeat first|exact P0|apply P1);exact rfl;done))|((with_reducible apply t_id);first|(with_reducible apply t_seq)|(apply t_region;kernel_rfl)|((with_reducible apply t_condF);exact rfl)|((with_reducible apply t_condD);exact rfl;all_goals first|(intro hp;try (exfalso;omega))|skip)|(with_reducible apply t_ret)|(with_reducible apply t_skip))|with_reducible apply q_thenN|with_reducible apply q_thenR|exact P0|(with_reducible apply P1)|exact Rdn.zero|apply Rdn.succ|((with_reducible apply Norm.nil);exact rfl)|((with_reducible apply Norm.cons);exact rfl)|(with_reducible apply end_ret)|exact rvs_nil|(with_reducible apply rvs_cons)|((with_reducible apply rv_tmp);exact rfl)|((with_reducible apply rv_cellAgg);exact rfl;exact rfl)|exact Nat.le_of_ble_eq_true rfl)
       all_goals rfl
     · have hW:alongV a b c d dx dy=(shV (alongLo a b c d dx dy) (dx*dx+dy*dy),-shV (-alongHi a b c d dx dy) (dx*dx+dy*dy),0):=by unfold alongV;rw [he,if_pos rfl,if_pos (by unfold wayOk;rw [hq];simp;omega)]
       rw [hW]
       have q1:=mul_abs (x:=dx) (y:=dx) (a:=10000) (b:=10000) (by omega) (by omega)
       have q2:=mul_abs (x:=dy) (y:=dy) (a:=10000) (b:=10000) (by omega) (by omega)
       have q0:1≤dx*dx+dy*dy:=by
         have p1:=sq_mono (j:=0) (k:=max dx (-dx)) (by omega) (by omega)
         have p2:=sq_mono (j:=0) (k:=max dy (-dy)) (by omega) (by omega)
         rcases (by omega:dx≠0∨dy≠0) with h|h
         · have p3:=sq_mono (j:=1) (k:=max dx (-dx)) (by omega) (by omega)
           have e1:max dx (-dx)*max dx (-dx)=dx*dx:=by rcases Int.le_total dx (-dx) with h|h;(rw [Int.max_eq_right h,Int.neg_mul_neg]);(rw [Int.max_eq_left h])
           have e2:max dy (-dy)*max dy (-dy)=dy*dy:=by rcases Int.le_total dy (-dy) with h|h;(rw [Int.max_eq_right h,Int.neg_mul_neg]);(rw [Int.max_eq_left h])
           omega
         · have p3:=sq_mono (j:=1) (k:=max dy (-dy)) (by omega) (by omega)
           have e1:max dx (-dx)*max dx (-dx)=dx*dx:=by rcases Int.le_total dx (-dx) with h|h;(rw [Int.max_eq_right h,Int.neg_mul_neg]);(rw [Int.max_eq_left h])
           have e2:max dy (-dy)*max dy (-dy)=dy*dy:=by rcases Int.le_total dy (-dy) with h|h;(rw [Int.max_eq_right h,Int.neg_mul_neg]);(rw [Int.max_eq_left h])
           omega
       have hA:=alongLo_sq (dx:=dx) (dy:=dy) hb
       have hB:=alongHi_sq (dx:=dx) (dy:=dy) hb
       have r1:=mul_abs (x:=a) (y:=dx) (a:=2000) (b:=10000) (by omega) (by omega)
       have r2:=mul_abs (x:=b) (y:=dx) (a:=2000) (b:=10000) (by omega) (by omega)
       have r3:=mul_abs (x:=c) (y:=dy) (a:=2000) (b:=10000) (by omega) (by omega)
       have r4:=mul_abs (x:=d) (y:=dy) (a:=2000) (b:=10000) (by omega) (by omega)
       have HL:=fun w1=>share_calls (alongLo a b c d dx dy) (dx*dx+dy*dy) q0 (by omega) hA w1
       have HR:=fun w1=>share_calls (-alongHi a b c d dx dy) (dx*dx+dy*dy) q0 (by omega) hB w1
       have hsr:∀ n:Int,n*n≤8000000*(dx*dx+dy*dy)→InR (-shV n (dx*dx+dy*dy)):=fun n hn=>shV_in q0 hn
       have hR:=hsr _ hB
       obtain ⟨s1,e1⟩:∃ s,s=shV (alongLo a b c d dx dy) (dx*dx+dy*dy):=⟨_,rfl⟩
       obtain ⟨s2,e2⟩:∃ s,s=shV (-alongHi a b c d dx dy) (dx*dx+dy*dy):=⟨_,rfl⟩
       rw [← e1] at HL
       rw [← e2] at HR hR
       rw [← e1,← e2]
       clear hA hB hsr hW e1 e2
       unfold alongLo at HL
       unfold alongHi at HR
       have k1:InR (dx*dx):=⟨by omega,by omega⟩
       have k2:InR (dy*dy):=⟨by omega,by omega⟩
       have k3:InR (dx*dx+dy*dy):=⟨by omega,by omega⟩
       have MX:=fun w1=>mul_calls a b dx dx (by omega) (by omega) w1
       have MY:=fun w1=>mul_calls c d dy dy (by omega) (by omega) w1
       have f1:min (min (a*dx) (b*dx)) (min (a*dx) (b*dx))=min (a*dx) (b*dx):=by omega
       have f2:max (max (a*dx) (b*dx)) (max (a*dx) (b*dx))=max (a*dx) (b*dx):=by omega
       have f3:min (min (c*dy) (d*dy)) (min (c*dy) (d*dy))=min (c*dy) (d*dy):=by omega
       have f4:max (max (c*dy) (d*dy)) (max (c*dy) (d*dy))=max (c*dy) (d*dy):=by omega
       rw [f1,f2] at MX
       rw [f3,f4] at MY
       clear f1 f2 f3 f4
       refine enterQ (c:=cx w 78) Try.func31 rfl rfl rfl rfl ?_
       repeat' (first|((with_reducible apply oq_id);first|(apply oq_fn;exact rfl;first|exact trivial|(and_intros<;>omega)|omega|skip)|((with_reducible apply oq_load);exact rfl;exact rfl)|((with_reducible apply oq_loadAgg);exact rfl;exact rfl)|((with_reducible apply oq_call (hc:=Try.call73));exact rfl;exact rfl;exact fun D w1 hw1=>H1 w1)|((with_reducible apply oq_call (hc:=Try.call75));exact rfl;exact rfl;exact fun D w1 hw1=>fromS2 hq hw1 (by (repeat first|exact P0|apply P1)))|((with_reducible apply oq_call (hc:=Try.call76));exact rfl;exact rfl;exact fun D w1 hw1=>MX w1)|((with_reducible apply oq_call (hc:=Try.call76));exact rfl;exact rfl;exact fun D w1 hw1=>MY w1)|((with_reducible apply oq_call (hc:=Try.call77));exact rfl;exact rfl;exact fun D w1 hw1=>add_calls _ _ _ _ (by omega) (by omega) w1)|((with_reducible apply oq_call (hc:=Try.call78));exact rfl;exact rfl;exact fun D w1 hw1=>HL w1)|((with_reducible apply oq_call (hc:=Try.call78));exact rfl;exact rfl;exact fun D w1 hw1=>HR w1)|((with_reducible apply oq_build);(iterate 3 exact rfl)))|((with_reducible apply tl_id);first|(with_reducible apply tl_nil)|((with_reducible apply u_q);(iterate 4 exact rfl))|((with_reducible apply u_s0);exact rfl;exact rfl)|((with_reducible apply u_s);(iterate 3 exact rfl))|((with_reducible apply u_skip);(iterate 3 exact rfl))|((with_reducible apply u_splitD);exact rfl;exact rfl;all_goals first|(intro hp;try (exfalso;omega))|skip))|((with_reducible apply gx_id);first|(with_reducible apply v_nil)|((with_reducible apply v_q);(iterate 3 exact rfl)))|((with_reducible apply os_id);first|((with_reducible apply os_x);exact rfl)|((with_reducible apply os_storeAgg);(iterate 5 exact rfl)))|((with_reducible apply ox_id);first|((with_reducible apply ox_alloc);exact rfl;intro _)|((with_reducible apply ox_boxAgg);exact rfl;intro _)|((with_reducible apply ox_buildSlice1);(iterate 6 exact rfl);intro _))|((with_reducible apply ai_id);first|((with_reducible apply ai_q);(iterate 5 exact rfl))|((with_reducible apply ai_s0);(iterate 4 exact rfl)))|((with_reducible apply rd_id);first|(apply Rd.own;(repeat first|exact P0|apply P1);exact rfl;done))|((with_reducible apply t_id);first|(with_reducible apply t_seq)|(apply t_region;kernel_rfl)|((with_reducible apply t_condF);exact rfl)|((with_reducible apply t_condD);exact rfl;all_goals first|(intro hp;try (exfalso;omega))|skip)|(with_reducible apply t_ret)|(with_reducible apply t_skip))|with_reducible apply q_thenN|exact P0|(with_reducible apply P1)|exact Rdn.zero|apply Rdn.succ|((with_reducible apply Norm.nil);exact rfl)|((with_reducible apply Norm.cons);exact rfl)|(with_reducible apply end_ret)|exact rvs_nil|(with_reducible apply rvs_cons)|((with_reducible apply rv_tmp);exact rfl)|((with_reducible apply rv_cellAgg);exact rfl;exact rfl)|(apply t_mix (id:=10) [0,1,2,3,4,5,6,7,8,9,10] 2 #[false,false,false,false,false,false,false,false,false,false,false,true,false];kernel_rfl;kernel_rfl;exact rfl)|((with_reducible apply al_id);first|(apply al_done;decide +kernel)|(apply al_one 11;decide +kernel)|(apply al_one 12;decide +kernel))|exact Nat.le_of_ble_eq_true rfl)
       all_goals rfl
 · have hW:alongV a b c d dx dy=(0,0,e):=by unfold alongV;rw [he,if_neg he0]
   rw [hW]
   refine enterQ (c:=cx w 78) Try.func31 rfl rfl rfl rfl ?_
   repeat' (first|((with_reducible apply oq_id);first|(apply oq_fn;exact rfl;first|exact trivial|(and_intros<;>omega)|omega|skip)|((with_reducible apply oq_loadAgg);exact rfl;exact rfl)|((with_reducible apply oq_call (hc:=Try.call73));exact rfl;exact rfl;exact fun D w1 hw1=>H1 w1)|((with_reducible apply oq_build);(iterate 3 exact rfl)))|((with_reducible apply tl_id);first|(with_reducible apply tl_nil)|((with_reducible apply u_q);(iterate 4 exact rfl))|((with_reducible apply u_s0);exact rfl;exact rfl)|((with_reducible apply u_s);(iterate 3 exact rfl)))|((with_reducible apply os_id);first|((with_reducible apply os_x);exact rfl)|((with_reducible apply os_storeAgg);(iterate 5 exact rfl)))|((with_reducible apply ox_id);first|((with_reducible apply ox_alloc);exact rfl;intro _)|((with_reducible apply ox_boxAgg);exact rfl;intro _))|((with_reducible apply rd_id);first|(apply Rd.own;(repeat first|exact P0|apply P1);exact rfl;done))|((with_reducible apply t_id);first|(with_reducible apply t_seq)|(apply t_region;kernel_rfl)|((with_reducible apply t_condN);exact rfl;all_goals first|(intro hp;try (exfalso;omega))|skip)|(with_reducible apply t_ret))|with_reducible apply q_thenN|with_reducible apply q_thenR|exact P0|exact Rdn.zero|apply Rdn.succ|((with_reducible apply Norm.nil);exact rfl)|((with_reducible apply Norm.cons);exact rfl)|(with_reducible apply end_ret)|exact rvs_nil|(with_reducible apply rvs_cons)|((with_reducible apply rv_tmp);exact rfl)|((with_reducible apply rv_cellAgg);exact rfl;exact rfl)|exact Nat.le_of_ble_eq_true rfl)
   all_goals rfl
end Go.Proofs.Ytcjkndjjbjoehaa
namespace Go.Proofs.Ytcjkndjjbjoehaa
theorem cauchy (x y p q:Int):(x*p+y*q)*(x*p+y*q)+(x * -q+y*p)*(x * -q+y*p)=(x*x+y*y)*(p*p+q*q):=by
 simp only [Int.add_mul,Int.mul_add,Int.mul_neg,Int.neg_mul]
 have e1:x*p*(x*p)=x*x*(p*p):=by ac_rfl
 have e2:y*q*(y*q)=y*y*(q*q):=by ac_rfl
 have e3:x*q*(x*q)=x*x*(q*q):=by ac_rfl
 have e4:y*p*(y*p)=y*y*(p*p):=by ac_rfl
 have e5:x*p*(y*q)=x*y*(p*q):=by ac_rfl
 have e6:y*q*(x*p)=x*y*(p*q):=by ac_rfl
 have e7:x*q*(y*p)=x*y*(p*q):=by ac_rfl
 have e8:y*p*(x*q)=x*y*(p*q):=by ac_rfl
 omega
theorem cauchy_le (x y p q:Int):(x*p+y*q)*(x*p+y*q)≤(x*x+y*y)*(p*p+q*q):=by
 have h:=cauchy x y p q
 have:=sq_nn (x * -q+y*p)
 omega
theorem far_sq {a b x:Int} (h1:a≤x) (h2:x≤b):x*x≤farV a b*farV a b:=by
 have h:x≤farV a b∧-x≤farV a b:=by unfold farV;omega
 rcases Int.le_total 0 x with g|g
 · exact sq_mono g h.1
 · rw [sq_neg x];exact sq_mono (by omega) h.2
theorem ends_sq {a b c d p q:Int} (hab:a≤b) (hcd:c≤d) {n:Int} (hn:n=alongLo a b c d p q∨n=alongHi a b c d p q):n*n≤(farV a b*farV a b+farV c d*farV c d)*(p*p+q*q):=by
 have key:∀ x y,a≤x→x≤b→c≤y→y≤d→(x*p+y*q)*(x*p+y*q)≤(farV a b*farV a b+farV c d*farV c d)*(p*p+q*q):=fun x y h1 h2 h3 h4=>by
   refine Int.le_trans (cauchy_le x y p q) (Int.mul_le_mul_of_nonneg_right ?_ ?_)
   · have:=far_sq h1 h2
     have:=far_sq h3 h4
     omega
   · have:=sq_nn p
     have:=sq_nn q
     omega
 have hx:∃ x,a≤x∧x≤b∧∃ y,c≤y∧y≤d∧n=x*p+y*q:=by
   rcases hn with rfl|rfl
   · unfold alongLo
     rcases Int.le_total (a*p) (b*p) with h1|h1<;>rcases Int.le_total (c*q) (d*q) with h2|h2
     · exact ⟨a,by omega,by omega,c,by omega,by omega,by omega⟩
     · exact ⟨a,by omega,by omega,d,by omega,by omega,by omega⟩
     · exact ⟨b,by omega,by omega,c,by omega,by omega,by omega⟩
     · exact ⟨b,by omega,by omega,d,by omega,by omega,by omega⟩
   · unfold alongHi
     rcases Int.le_total (a*p) (b*p) with h1|h1<;>rcases Int.le_total (c*q) (d*q) with h2|h2
     · exact ⟨b,by omega,by omega,d,by omega,by omega,by omega⟩
     · exact ⟨b,by omega,by omega,c,by omega,by omega,by omega⟩
     · exact ⟨a,by omega,by omega,d,by omega,by omega,by omega⟩
     · exact ⟨a,by omega,by omega,c,by omega,by omega,by omega⟩
 obtain ⟨x,h1,h2,y,h3,h4,rfl⟩:=hx
 exact key x y h1 h2 h3 h4
def leastV (lo hi:Int):Int:=max (max lo (-hi)) 0
def mostV (lo hi:Int):Int:=max hi (-lo)
def IsM (x n r:Int):Prop:=0≤r∧r*r*n≤x∧x<(r+1)*(r+1)*n
noncomputable def mrV (x n:Int):Int:=open Classical in if h:∃ r,IsM x n r then Classical.choose h else 0
noncomputable def mhV (x n:Int):Int:=if mrV x n*mrV x n*n<x then mrV x n+1 else mrV x n
def acLo (a b c d p q:Int):Int:=alongLo a b c d q (-p)
def acHi (a b c d p q:Int):Int:=alongHi a b c d q (-p)
def nearC (a b c d p q:Int):Int:=leastV (acLo a b c d p q) (acHi a b c d p q)
def farC (a b c d p q:Int):Int:=mostV (acLo a b c d p q) (acHi a b c d p q)
end Go.Proofs.Ytcjkndjjbjoehaa
namespace Go.Proofs.Ytcjkndjjbjoehaa
open Go.RowKit
section
variable {c:Cx} {F:Fr} {H:Hp} {d:Option Tmp} {ty t t':TypeId} {pos:String} {af:Array Edge} {g:Option (Nat×Bool)} {x y:Operand} {m n k:Int} {v u:Value}
theorem OQ.as {o:Oper} (h:OQ c o F H u) (e:u=v):OQ c o F H v:=e ▸ h
theorem oq_subE (hx:ev F x=some (.int .i64 m)) (hy:ev F y=some (.int .i64 n)) (e:m-n=k∧-9223372036854775808≤k∧k≤9223372036854775807):OQ c ⟨d,.binOp .sub t x y t',ty,pos,af,g⟩ F H (.int .i64 k):=
 (oq_sub hx hy ⟨by omega,by omega⟩).as (by rw [e.1])
theorem oq_addE (hx:ev F x=some (.int .i64 m)) (hy:ev F y=some (.int .i64 n)) (e:m+n=k∧-9223372036854775808≤k∧k≤9223372036854775807):OQ c ⟨d,.binOp .add t x y t',ty,pos,af,g⟩ F H (.int .i64 k):=
 (oq_add hx hy ⟨by omega,by omega⟩).as (by rw [e.1])
theorem oq_min2E {T:Array TypeId} (hx:ev F x=some (.int .i64 m)) (hy:ev F y=some (.int .i64 n)) (e:min m n=k):OQ c ⟨d,.call ⟨.builtin .min,#[x,y],T⟩,ty,pos,af,g⟩ F H (.int .i64 k):=
 (oq_min2 hx hy).as (by rw [e])
theorem oq_max2E {T:Array TypeId} (hx:ev F x=some (.int .i64 m)) (hy:ev F y=some (.int .i64 n)) (e:max m n=k):OQ c ⟨d,.call ⟨.builtin .max,#[x,y],T⟩,ty,pos,af,g⟩ F H (.int .i64 k):=
 (oq_max2 hx hy).as (by rw [e])
theorem oq_shr1N {k':IntKind} {a:Nat} (hx:ev F x=some (.int .u64 m)) (hy:ev F y=some (.int k' 1)) (e:m=(a:Int)):OQ c ⟨d,.binOp .shr t x y t',ty,pos,af,g⟩ F H (.int .u64 ((a / 2:Nat):Int)):=
 (oq_shr1U hx hy (by omega)).as (by subst e;simp)
end
section
variable {c:Cx} {F:Fr} {H H':Hp} {K:Value→Hp→Prop} {d:Option Tmp} {ty:TypeId} {pos:String} {af:Array Edge} {g:Option (Nat×Bool)} {C C':List Value} {b:Nat} {tg:Tg} {v:Value}
theorem os_callW {f:Operand} {args:Array Operand} {T:Array TypeId} {k:Nat} {fst cap vs:List Value} (hf:ev F f=some (.func (.func k) ⟨fst⟩ ⟨cap⟩)) (hc:∀ (a:Array Value) (w:World),(callFunc k a).run c.P w=.ok (.enter k a) w)
   (ha:evs F args.toList=some vs) (hp:Pick H b C tg H') (h:∀ D w,Has c.w0 ⟨c.M,D⟩ H w→Calls c.P k ⟨fst++vs++cap⟩ w fun e w'=>e=.returned v∧ExtM [b] w w'∧Blk w' b C' tg)
   (hk:K v ((b,C',tg)::H')):OS c ⟨d,.call ⟨.value f,args,T⟩,ty,pos,af,g⟩ F H K:=
 os_call hf hc ha fun D w hw=>(h D w hw).mono fun e w' ⟨h1,h2,h3⟩=>⟨v,_,h1,hk,(hw.perm hp.perm).wrote h2 h3⟩
theorem enterW {k:FuncId} {fn:Func} {code:Code} {rs:List ResultVar} {args:List Value} {V:Value} (hf:c.P.funcs[k]?=some fn) (hb:fn.body=some code) (hrs:fn.results=⟨rs⟩) (hN:c.N=args.length+(fn.ntmps-args.length)) (hM:c.M=[b]) (hB:Blk c.w0 b C tg)
   (h:T c (WS.own c.P) code (endQ c rs fun v H=>v=V∧HpSub H [(b,C',tg)]) (frOf 0 args) [(b,C,tg)]):Calls c.P k ⟨args⟩ c.w0 fun e w'=>e=.returned V∧ExtM [b] c.w0 w'∧Blk w' b C' tg:=by
 refine (enter hf hb hrs hN (fun d v hv=>(look_frOf args 0 d v hv).2) ?_ h).mono fun e w' ⟨v,H',h1,⟨h2,h3⟩,h4⟩=>⟨by rw [h1,h2],?_,?_⟩
 · rw [hM]
   refine ⟨ExtM.refl _ _,fun x hx=>?_,by simp,List.nodup_nil,fun k hk=>(List.not_mem_nil hk).elim⟩
   obtain rfl:x=_:=by simpa using hx
   exact ⟨.inr (by simp),hB⟩
 · have:=h4.ext;rw [hM] at this;exact this
 · exact ((h4.sub h3).blk _ (List.mem_cons_self ..)).2
end
theorem eqF_cons {P:Program} {w:World} {d:Nat} {xs ys:Array Value} {f:Field} {fs:List Field} {u v:Value} {q:Bool} (hn:(f.name == "_")=false) (hx:(part f.type xs f.offset).run P w=.ok u w) (hy:(part f.type ys f.offset).run P w=.ok v w)
   (he:(Op.equalIn d f.type u v).run P w=.ok q w):(Op.eqFields d xs ys (f::fs)).run P w=if q then (Op.eqFields d xs ys fs).run P w else .ok false w:=by
 have hn':f.name ≠ "_" := by simpa using hn
 simp only [Op.eqFields,hn',ne_eq,not_false_eq_true,if_true,Sem.run_bind,hx,hy,he,Result.andThen_ok]
 cases q<;>simp [Sem.run_pure]
theorem part_cell {P:Program} {w:World} {t o:Nat} {xs:List Value} {v:Value} (ha:(isAgg t).run P w=.ok false w) (hv:xs[o]?=some v):(part t ⟨xs⟩ o).run P w=.ok v w:=by
 simp [part,Sem.run_bind,ha,Result.andThen,go_sem,hv]
theorem part_agg {P:Program} {w:World} {t o n:Nat} {xs vs:List Value} (ha:(isAgg t).run P w=.ok true w) (hs:(sizeOf t).run P w=.ok n w) (hv:(xs.drop o).take n=vs):(part t ⟨xs⟩ o).run P w=.ok (.agg ⟨vs⟩) w:=by
 subst hv
 simp [part,Sem.run_bind,ha,hs,Result.andThen,go_sem]
theorem eq_int3 {w:World} {d:Nat} {a b:Int}:(Op.equalIn (d+1) 3 (.int .i64 a) (.int .i64 b)).run Try.prog w=.ok (decide (a=b)) w:=by
 rw [run_equalIn_int w d 3 .i64 .i64 a b Try.underlying3]
 rfl
theorem eqF_int {w:World} {d o:Nat} {xs ys:List Value} {f:Field} {fs:List Field} {a b:Int} {q:Bool} (hn:(f.name == "_")=false) (ht:f.type=3) (ho:f.offset=o) (hx:xs[o]?=some (.int .i64 a)) (hy:ys[o]?=some (.int .i64 b))
   (hr:(Op.eqFields (d+1) ⟨xs⟩ ⟨ys⟩ fs).run Try.prog w=.ok q w):(Op.eqFields (d+1) ⟨xs⟩ ⟨ys⟩ (f::fs)).run Try.prog w=.ok (decide (a=b) && q) w:=by
 rw [eqF_cons hn (by rw [ht,ho];exact part_cell (Try.isAgg3 w) hx) (by rw [ht,ho];exact part_cell (Try.isAgg3 w) hy) (by rw [ht];exact eq_int3),hr]
 by_cases h:a=b<;>simp [h]
theorem eqF_nil {w:World} {d:Nat} {xs ys:Array Value}:(Op.eqFields d xs ys []).run Try.prog w=.ok true w:=by simp [Op.eqFields,Sem.run_pure]
section
variable {w:World} {N:Nat} {F:Fr} {H:Hp} {M:List Nat} {d:Option Tmp} {ty t':TypeId} {pos:String} {af:Array Edge} {g:Option (Nat×Bool)} {x y:Operand} {a0 a1 a2 a3 a4 b0 b1 b2 b3 b4:Int}
theorem oq_eqS {t:TypeId} {xs ys:Array Value} {q:Bool} (hm:Try.prog.eqGuardType Try.prog.depth t=false) (he:∀ w,(Op.equalIn 10000 t (.agg xs) (.agg ys)).run Try.prog w=.ok q w) (hx:ev F x=some (.agg xs)) (hy:ev F y=some (.agg ys)) :
   OQ (cxM M w N) ⟨d,.binOp .eql t x y t',ty,pos,af,g⟩ F H (.bool q):=.of fun D a w ha _=>by
 simp only [execOp,ha.ev hx,ha.ev hy,Sem.run_bind,run_eqGuard_agg _ _ _ _ _ _ _ hm,Result.andThen]
 rw [run_eql_struct,he]
 rfl
end
theorem oq_eqNil {c:Cx} {F:Fr} {H:Hp} {d:Option Tmp} {ty t t':TypeId} {pos:String} {af:Array Edge} {g:Option (Nat×Bool)} {x y:Operand} {p:Addr} {n cp e s0:Nat} {a0:Bool} {z0:List Value} (ht:tyAt c.tys t=some ⟨a0,s0,z0,.slice e⟩)
   (hx:ev F x=some (.slice (some p) n cp)) (hy:ev F y=some (.slice none 0 0)):OQ c ⟨d,.binOp .eql t x y t',ty,pos,af,g⟩ F H (.bool false):=.of fun D a w ha _=>by
 have hk:=(c.ty ht).kind w
 have e0:(Op.equalIn 10000 t (.slice (some p) n cp) (.slice none 0 0)).run c.P w=.ok false w:=by
   have key:∀ d:Nat,(Op.equalIn (d+1) t (.slice (some p) n cp) (.slice none 0 0)).run c.P w=.ok false w:=fun d=>by
     simp only [Op.equalIn,Sem.run_bind,hk,Result.andThen,Sem.run_pure]
   exact key 9999
 have e:(binOp .eql t (.slice (some p) n cp) (.slice none 0 0)).run c.P w=.ok (.bool false) w:=by
   simp only [binOp,Op.equal,Op.maxDepth,Sem.run_bind,e0,Result.andThen,Sem.run_pure]
 have e1:(eqGuard .eql t x y (.slice (some p) n cp) (.slice none 0 0)).run c.P w=.ok () w:=by simp [eqGuard,go_sem]
 simp only [execOp,ha.ev hx,ha.ev hy,Sem.run_bind,e,e1,Result.andThen,Sem.run_pure]
def downB (ops:List Oper) (listed:Array Bool):Bool:=go ops 0
where
 go:List Oper→Nat→Bool
 | [],_=>true
 | o::r,k=>(!listed.getD k false || o.after.all fun e=>!Region.binds .any e || listed.getD e.on false) && go r (k+1)
theorem downB_go {listed:Array Bool}:∀ {ops:List Oper} {k j:Nat} {o:Oper},downB.go listed ops k=true→ops[j]?=some o→listed.getD (k+j) false=true→∀ e∈o.after,Region.binds .any e=true→listed.getD e.on false=true
 | [],_,_,_,_,h,_=>by simp at h
 | o'::r,k,0,o,h,ho,hl=>by
   unfold downB.go at h
   obtain rfl:o'=o:=by simpa using ho
   intro e he hb
   simp only [Bool.and_eq_true,Bool.or_eq_true,Bool.not_eq_true',Array.all_eq_true_iff_forall_mem] at h
   rcases h.1 with h1|h1
   · rw [show k+0=k from rfl,h1] at hl;cases hl
   · rcases h1 e he with h2|h2
     · rw [h2] at hb;cases hb
     · exact h2
 | o'::r,k,j+1,o,h,ho,hl=>by
   unfold downB.go at h
   simp only [Bool.and_eq_true] at h
   exact downB_go (k:=k+1) (j:=j) h.2 (by simpa using ho) (by rw [show k+1+j=k+(j+1) by omega];exact hl)
theorem downB_spec {l:List Oper} {listed:Array Bool} (h:downB l listed=true):Down ⟨l⟩ listed:=fun k o hk ho e he hb=>
 downB_go (k:=0) (j:=k) h (by simpa using ho) (by simpa using hk) e he hb
theorem al_more {c:Cx} {l ql:List Oper} {cov:Array Bool} {H0 H:Hp} {n:Nat} {listed:Array Bool} {R:Fr→Hp→Prop} {F:Fr} (q:List Nat) (m:Nat) (hB:(Region.noSelect ⟨l⟩ && downB l listed && lexOk ⟨l⟩ cov q listed)=true) (hn:n=m+q.length) (hq:pickOps l q=some ql) (hs:HpSub H H0)
   (h:GX c ⟨l⟩ ql (fun F'=>AL c ⟨l⟩ cov H0 m (listedBy q listed) R F' H0) F H0):AL c ⟨l⟩ cov H0 n listed R F H:=fun D a w ha hw=>by
 subst hn
 simp only [Bool.and_eq_true] at hB
 exact SAnyI_lex (Has.up (M:=⟨c.M,D⟩)) hB.1.1 m q listed a hB.2 (downB_spec hB.1.2) (wpGI_mono (fun a' ⟨F',h1,h2⟩ w' hw'=>h1 D a' w' h2 hw') q a (h q (pickOps_spec hq) D a ha)) w (hw.sub hs)
section
variable {c:Cx} {F:Fr} {H:Hp} {d:Option Tmp} {ty t:TypeId} {pos:String} {af:Array Edge} {g:Option (Nat×Bool)} {x y z:Operand}
theorem oq_sliceLH {a0 a1:Bool} {s0 s1 e b o len cap l h:Nat} {z0 z1:List Value} {k1:TyK} {k k':IntKind} {li hi:Int} (ht:tyAt c.tys t=some ⟨a0,s0,z0,.slice e⟩) (he:tyAt c.tys e=some ⟨a1,s1,z1,k1⟩)
   (hx:ev F x=some (.slice (some ⟨b,o,none⟩) len cap)) (hy:ev F y=some (.int k li)) (hz:ev F z=some (.int k' hi)) (hl:li=l) (hh:hi=h) (h1:l≤h) (h3:h≤cap) (h2:cap≠l) :
   OQ c ⟨d,.slice t x (some y) (some z) none,ty,pos,af,g⟩ F H (.slice (some ⟨b,o+l*s1,none⟩) (h-l) (cap-l)):=.of fun D a w ha _=>by
 subst hl hh
 have hk:=(c.ty ht).kind w
 have hs:=(c.ty he).size w
 simp only [execOp,Option.map,ha.ev hx,ha.ev hy,ha.ev hz]
 simp [Instr.sliceAt,Instr.slice,Instr.sliceBounds,Instr.sliceBound,asIntOf,Sem.run_bind,hk,hs,h1,h2,h3,Result.andThen,go_sem,add_eq]
end
theorem madeCells_rows (zs:List Value):∀ n:Nat,(madeCells zs.toArray (n*zs.length)).toList=(List.replicate n zs).flatten:=by
 intro n
 have key:(List.range (n*zs.length)).map (fun j=>zs[j % zs.length]!)=(List.replicate n zs).flatten:=by
   induction n with
   | zero=>simp
   | succ n ih=>
     rw [Nat.succ_mul,Nat.add_comm,List.range_add,List.map_append,List.map_map,List.replicate_succ,List.flatten_cons,← ih]
     congr 1
     · refine List.ext_getElem (by simp) fun i h1 h2=>?_
       simp at h1
       simp [Nat.mod_eq_of_lt h1,h1]
     · refine List.map_congr_left fun j _=>?_
       simp
 rw [← key]
 simp [madeCells]
theorem ox_make {c:Cx} {F:Fr} {H:Hp} {K:Value→Hp→Prop} {d:Option Tmp} {ty:TypeId} {pos:String} {af:Array Edge} {g:Option (Nat×Bool)} {x y:Operand} {t e size bytes n:Nat} {z:Value} {zs:List Value} (hk:AppOk c.P t e size bytes) (hz:(c.P.info? e).map (fun i=>i.zero)=some (some z)) (hzs:z.cells=zs.toArray) (hl:zs.length=size)
   (hx:ev F x=some (.int .i64 (n:Int))) (hy:ev F y=some (.int .i64 (n:Int))) (hb:bytes*n≤281474976710656) (hn:n≤maxLen) (k:∀ b,K (.slice (some ⟨b,0,none⟩) n n) ((b,(List.replicate n zs).flatten,some (e,size,n))::H)):OX c ⟨d,.makeSlice t x y,ty,pos,af,g⟩ F H K:=by
 intro D a w ha hw
 obtain ⟨i,z',k1,k2,k3,k4,k5⟩:=hk.info
 have hz':i.zero=some z:=by rw [k1] at hz;simpa using hz
 have hn':(n:Int)≤9223372036854775807:=by unfold maxLen at hn;omega
 have hb':(i.bytes:Int)*(n:Int)≤281474976710656:=by
   have h:((i.bytes*n:Nat):Int)≤281474976710656:=by rw [k4];omega
   rwa [Int.natCast_mul] at h
 have hr:=run_make (P:=c.P) w t e i z hk.und k1 hz' .i64 .i64 n n (by omega) (Int.le_refl _) hb' hn'
 simp only [Int.toNat_natCast,k3,hzs] at hr
 have hc:(madeCells zs.toArray (n*size))=((List.replicate n zs).flatten).toArray:=by
   rw [← Array.toList_inj,← hl,madeCells_rows]
 rw [hc] at hr
 have:(execOp a.eval ⟨d,.makeSlice t x y,ty,pos,af,g⟩).run c.P w=.ok (.value (.slice (some ⟨w.heap.size,0,none⟩) n n)) (w.alloc (.cells ((List.replicate n zs).flatten).toArray e)):=by
   simp [execOp,ha.ev hx,ha.ev hy,Sem.run_bind,Sem.run_pure,Result.andThen,hr]
 rw [this]
 exact ⟨⟨_,k w.heap.size,hw.fresh ((Ext.refl w).alloc _) (Nat.le_refl _) (Blk.row w _ e size n (by simp [hl]) hn)⟩,(Ext.refl w).alloc _⟩
section
variable {c:Cx} {S:WS c.P} {Q:QS} {F:Fr} {H:Hp}
end
end Go.Proofs.Ytcjkndjjbjoehaa
namespace Go.Proofs.Ytcjkndjjbjoehaa
open Go.RowKit
attribute [local irreducible] OQ OS OX Rd T TL GX GL AL AI RV wpG SAny Calls
def inCells (z:Int):List Value:=[.int .i64 z]
theorem in_read {w:World} {A:Option Addr} {n:Nat} {l:List Int} (h:RdS w 1 A n (l.map inCells)) {i:Nat} (hi:i<n) :
   ∃ b o x,A=some ⟨b,o,none⟩∧b<w.heap.size∧l[i]?=some x∧w.cell? ⟨b,o+i*1,none⟩=some (.int .i64 x):=by
 obtain ⟨b,o,cs,hA,hb,hx,_,hc⟩:=h.row hi
 simp only [List.getElem?_map,Option.map_eq_some_iff] at hx
 obtain ⟨x,hx,rfl⟩:=hx
 exact ⟨b,o,x,hA,hb,hx,hc 0 _ rfl⟩
def idxV {α:Type} (p:α→Bool) (l:List α):Int:=match l.findIdx? p with|some i=>(i:Int)|none=>-1
theorem idxV_some {α:Type} {p:α→Bool} {l:List α} {k:Nat} {x:α} (h:l[k]?=some x) (hp:p x=true) (hb:∀ y∈l.take k,p y=false):idxV p l=(k:Int):=by
 have:l.findIdx? p=some k:=by
   rw [List.findIdx?_eq_some_iff_getElem]
   obtain ⟨hk,rfl⟩:=List.getElem?_eq_some_iff.1 h
   refine ⟨hk,hp,fun j hj=>?_⟩
   have:=hb l[j] (List.mem_iff_getElem.2 ⟨j,by simp;omega,by simp⟩)
   simp [this]
 unfold idxV;rw [this]
theorem idxV_none {α:Type} {p:α→Bool} {l:List α} (hb:∀ y∈l,p y=false):idxV p l=-1:=by
 have:l.findIdx? p=none:=List.findIdx?_eq_none_iff.2 hb
 unfold idxV;rw [this]
theorem idxV_any {α:Type} {p:α→Bool} {l:List α}:decide (0≤idxV p l)=l.any p:=by
 unfold idxV
 cases h:l.findIdx? p with
 | some i=>
   obtain ⟨hi,hp,_⟩:=List.findIdx?_eq_some_iff_getElem.1 h
   have h2:l.any p=true:=List.any_eq_true.2 ⟨l[i],List.getElem_mem hi,hp⟩
   rw [h2]
   simp
 | none=>
   have:=List.findIdx?_eq_none_iff.1 h
   have h2:l.any p=false:=by
     rw [Bool.eq_false_iff,Ne,List.any_eq_true]
     rintro ⟨x,hx,hp⟩
     rw [this x hx] at hp;cases hp
   rw [h2]
   rfl
theorem indexInt_calls (f:Nat) (caps:List Value) (p:Int→Bool) (A:Option Addr) (n c:Nat) (l:List Int) (w:World) (hr:RdS w 1 A n (l.map inCells)) (hn:n≤1000000) (hc:∀ (a:Array Value) (w:World),(callFunc f a).run Try.prog w=.ok (.enter f a) w)
   (hf:∀ x∈l,∀ w1,Ext w w1→Calls Try.prog f ⟨.int .i64 x::caps⟩ w1 fun e w'=>e=.returned (.bool (p x))∧Ext w1 w') :
   Calls Try.prog 48 #[.slice A n c,.func (.func f) #[] ⟨caps⟩] w fun e w'=>e=.returned (.int .i64 (idxV p l))∧Ext w w':=by
 have hl:=hr.len
 simp only [List.length_map] at hl
 
 refine enterQ (c:=cx w 19) Try.func48 rfl rfl rfl rfl ?_
 repeat' (first|((with_reducible apply oq_id);first|(apply oq_fn;exact rfl;first|exact trivial|(and_intros<;>omega)|omega|skip))|((with_reducible apply tl_id);first|(with_reducible apply tl_nil)|((with_reducible apply u_q);(iterate 4 exact rfl)))|((with_reducible apply t_id);first|(with_reducible apply t_seq)|(apply t_region;kernel_rfl)|(with_reducible apply t_block))|with_reducible apply q_thenN)
 apply t_loopK (ι:=Nat) [0,1,7] (fun k=>[(8,.int .i64 (k:Nat))]) (fun _=>[]) (fun k=>k≤n∧∀ x∈l.take k,p x=false) (fun k=>n-k) (0)
 (repeat (first|exact KeepF.nil|(apply KeepF.cons;exact rfl)|apply KeepF.skip))
 (repeat first|exact FrSub.nil|(apply FrSub.cons;exact rfl))
 (repeat (first|exact HpSub.refl _|(apply HpSub.consE;(repeat first|exact P0|apply P1);exact rfl)|exact HpSub.nil))
 · exact ⟨by omega,by simp⟩
 rintro k ⟨hk,hkp⟩
 try simp only [List.cons_append,List.nil_append]
 by_cases hlt:k<n
 · obtain ⟨b1,o1,x,rfl,_,hx,c0⟩:=in_read hr hlt
   have hfx:=hf x (List.mem_of_getElem? hx)
   cases hpx:p x with
   | true=>
     rw [hpx] at hfx
     repeat' (first|((with_reducible apply oq_id);first|(focus ((with_reducible apply oq_indexAddrN);(iterate 4 exact rfl);omega))|(apply oq_fn;exact rfl;first|exact trivial|(and_intros<;>omega)|omega|skip)|((with_reducible apply oq_load);exact rfl;exact rfl)|((with_reducible apply oq_call (k:=f) (hc:=hc));exact rfl;exact rfl;exact fun D w1 hw1=>hfx w1 hw1.ext.ext))|((with_reducible apply tl_id);first|(with_reducible apply tl_nil)|((with_reducible apply u_q);(iterate 4 exact rfl)))|((with_reducible apply rd_id);first|(apply Rd.old;(first|(with_reducible assumption)|exact c0|exact c1|exact c2|exact c3|exact c4|exact c5|exact c6|exact c7|exact c8|exact d0|exact d1|exact d2|exact d3|exact d4|exact d5);first|exact List.not_mem_nil|exact m0|exact m1|exact m2|exact m3|exact m4|exact m5|exact m6|exact m7|exact m8|exact m9))|((with_reducible apply t_id);first|(with_reducible apply t_seq)|(apply t_region;kernel_rfl)|((with_reducible apply t_condT);exact rfl)|((with_reducible apply t_condD);exact rfl;all_goals first|(intro hp;try (exfalso;omega))|skip)|(with_reducible apply t_ret)|(with_reducible apply t_skip)|(with_reducible apply t_block))|with_reducible apply q_thenN|with_reducible apply q_thenR|with_reducible apply q_blockR|(with_reducible apply end_ret)|exact rvs_nil|(with_reducible apply rvs_cons)|((with_reducible apply rv_tmp);exact rfl))
     rw [idxV_some hx hpx hkp];rfl
   | false=>
     rw [hpx] at hfx
     repeat' (first|((with_reducible apply oq_id);first|(focus ((with_reducible apply oq_indexAddrN);(iterate 4 exact rfl);omega))|(apply oq_fn;exact rfl;first|exact trivial|(and_intros<;>omega)|omega|skip)|((with_reducible apply oq_load);exact rfl;exact rfl)|((with_reducible apply oq_call (k:=f) (hc:=hc));exact rfl;exact rfl;exact fun D w1 hw1=>hfx w1 hw1.ext.ext))|((with_reducible apply tl_id);first|(with_reducible apply tl_nil)|((with_reducible apply u_q);(iterate 4 exact rfl)))|((with_reducible apply rd_id);first|(apply Rd.old;(first|(with_reducible assumption)|exact c0|exact c1|exact c2|exact c3|exact c4|exact c5|exact c6|exact c7|exact c8|exact d0|exact d1|exact d2|exact d3|exact d4|exact d5);first|exact List.not_mem_nil|exact m0|exact m1|exact m2|exact m3|exact m4|exact m5|exact m6|exact m7|exact m8|exact m9))|((with_reducible apply t_id);first|(with_reducible apply t_seq)|(apply t_region;kernel_rfl)|((with_reducible apply t_condF);exact rfl)|((with_reducible apply t_condD);exact rfl;all_goals first|(intro hp;try (exfalso;omega))|skip)|(with_reducible apply t_skip)|(with_reducible apply t_block))|with_reducible apply q_thenN|with_reducible apply q_blockN)
     refine ⟨k+1,⟨by omega,fun y hy=>?_⟩,by omega,?_,?_⟩
     · rw [List.take_add_one,hx,List.mem_append] at hy
       rcases hy with hy|hy
       · exact hkp y hy
       · obtain rfl:y=x:=by simpa using hy
         exact hpx
     · try simp only [List.cons_append,List.nil_append]
       (repeat first|exact FrSub.nil|(apply FrSub.cons;exact rfl))
     · try simp only [List.cons_append,List.nil_append]
       (repeat (first|exact HpSub.refl _|(apply HpSub.consE;(repeat first|exact P0|apply P1);exact rfl)|exact HpSub.nil))
 · repeat' (first|((with_reducible apply oq_id);first|(apply oq_fn;exact rfl;first|exact trivial|(and_intros<;>omega)|omega|skip))|((with_reducible apply tl_id);first|(with_reducible apply tl_nil)|((with_reducible apply u_q);(iterate 4 exact rfl)))|((with_reducible apply t_id);first|(with_reducible apply t_seq)|(apply t_region;kernel_rfl)|((with_reducible apply t_condD);exact rfl;all_goals first|(intro hp;try (exfalso;omega))|skip)|(with_reducible apply t_ret)|(with_reducible apply t_exit))|with_reducible apply q_thenN|with_reducible apply q_thenE|((with_reducible apply q_blockE);exact rfl)|(with_reducible apply end_ret)|exact rvs_nil|(with_reducible apply rvs_cons)|((with_reducible apply rv_tmp);exact rfl))
   rw [idxV_none (fun y hy=>hkp y (by rw [List.take_of_length_le (by omega)];exact hy))];rfl
end Go.Proofs.Ytcjkndjjbjoehaa
namespace Go.Proofs.Ytcjkndjjbjoehaa
open Go.RowKit
def iv (z:Int):Value:=.int .i64 z
theorem iv_flat (l:List Int):(l.map inCells).flatten=l.map iv:=by
 induction l with
 | nil=>rfl
 | cons z l ih=>simp [inCells,iv] at ih ⊢;exact ih
theorem int_rows {w0:World} {M:Ms} {H H':Hp} {w:World} {g n:Nat} {l:List Int} {tg:Tg} (hl:l.length=n) (h:Has w0 M H w) (q:Pick H g (l.map iv) tg H'):RdS w 1 (some ⟨g,0,none⟩) n (l.map inCells):=
 Blk.rows (by rw [iv_flat];exact (h.blk _ q.mem).2) (by simpa using hl) (by simp only [List.mem_map];rintro r ⟨x,_,rfl⟩;rfl)
section
variable {c:Cx} {F:Fr} {H H':Hp} {K:Value→Hp→Prop} {d:Option Tmp} {ty:TypeId} {pos:String} {af:Array Edge} {gd:Option (Nat×Bool)} {t:TypeId} {x y:Operand} {a0:Bool} {z0:List Value} {k0:TyK} {g k:Nat} {tg:Tg} {row A:List Int} {B:List Value} {z u:Int}
theorem rdI (hx:row[k]?=some z) (p:Pick H g (row.map iv) tg H'):Rd c H ⟨g,0+k*1,none⟩ (.int .i64 z):=Rd.own p (by rw [Nat.zero_add,Nat.mul_one,List.getElem?_map,hx];rfl)
end
theorem eq_span {w:World} {d:Nat} {a b a' b':Int}:(Op.equalIn (d+2) 39 (.agg ⟨[.int .i64 a,.int .i64 b]⟩) (.agg ⟨[.int .i64 a',.int .i64 b']⟩)).run Try.prog w=.ok (decide (a=a') && (decide (b=b') && true)) w:=by
 rw [run_equalIn_struct w (d+1) 39 _ _ (by kernel_rfl) (by kernel_rfl)]
 simp only [Program.fieldsOf,Try.underlying39]
 exact eqF_int rfl rfl rfl rfl rfl (eqF_int rfl rfl rfl rfl rfl eqF_nil)
theorem eqF_span {w:World} {d o:Nat} {xs ys:List Value} {f:Field} {fs:List Field} {a b a' b':Int} {q:Bool} (hn:(f.name == "_")=false) (ht:f.type=39) (ho:f.offset=o) (hx:(xs.drop o).take 2=[.int .i64 a,.int .i64 b]) (hy:(ys.drop o).take 2=[.int .i64 a',.int .i64 b'])
   (hr:(Op.eqFields (d+2) ⟨xs⟩ ⟨ys⟩ fs).run Try.prog w=.ok q w):(Op.eqFields (d+2) ⟨xs⟩ ⟨ys⟩ (f::fs)).run Try.prog w=.ok (decide (a=a') && (decide (b=b') && true) && q) w:=by
 rw [eqF_cons hn (by rw [ht,ho];exact part_agg (Try.isAgg39 w) (Try.sizeOf39 w) hx) (by rw [ht,ho];exact part_agg (Try.isAgg39 w) (Try.sizeOf39 w) hy) (by rw [ht];exact eq_span),hr]
 by_cases h:a=a'<;>by_cases h2:b=b'<;>simp [h,h2]
end Go.Proofs.Ytcjkndjjbjoehaa
namespace Go.Proofs.Ytcjkndjjbjoehaa
open Go.RowKit
attribute [local irreducible] wpG SAny
theorem rfrom_in (n lo hi:Int) (a b:Addr) (w:World) (ha:w.cell? a=some (.int .i64 lo)) (hb:w.cell? b=some (.int .i64 hi)) :
   Calls Try.prog 111 #[.int .i64 n,.pointer (some a),.pointer (some b)] w fun e w'=>e=.returned (.bool (decide (n<lo) || decide (hi<n)))∧w=w':=by
 by_cases h1:n<lo
 · go_enter Try.func111,Try.ntmps111
   go_wp2
   go_ret
   simp [h1]
 · go_enter Try.func111,Try.ntmps111
   go_wp2
   go_ret
   simp
   omega
theorem rfrom_calls (lo hi:Int) (A:Option Addr) (n c:Nat) (zs:List Int) (w:World)
   (hr:RdS w 1 A n (zs.map fun z=>[.int .i64 z])) (hn:n≤1000000000) :
   Calls Try.prog 45 #[.int .i64 lo,.int .i64 hi,.slice A n c] w fun e w'=>e=.returned (.bool (allFrom lo hi zs))∧Ext w w':=by
 have hc:=fun caps w1 hx hp=>containsFunc_int A n c zs 111 caps (fun n=>decide (n<lo) || decide (hi<n)) w1 (hr.ext hx) hp hn
 have H:=Lib.hid hc
 clear hc hr hn
 go_enter Try.func45,Try.ntmps45
 go_wp2_with fail
 refine (H.out _ _ (((Ext.refl w).alloc _).alloc _) ⟨fun args w'=>by go_simp,fun n w' hx=>?_⟩).mono ?_
 · refine (rfrom_in n lo hi _ _ w' (hx.cell ?_) (hx.cell ?_)).mono fun e w'' ⟨h1,h2⟩=>⟨h1,h2 ▸ Ext.refl _⟩
   · go_simp
   · go_simp
 · rintro e w' ⟨rfl,hx⟩
   go_wp2
   go_ret
   refine ⟨?_,hx.of_alloc.of_alloc⟩
   show Ending.returned (.bool (!zs.any fun n=>decide (n<lo) || decide (hi<n)))=_
   rw [allFrom_any]
end Go.Proofs.Ytcjkndjjbjoehaa
namespace Go.Proofs.Ytcjkndjjbjoehaa
open Go.RowKit
theorem Has.blkP {w0:World} {M:Ms} {H H':Hp} {w:World} {b:Nat} {C:List Value} {tg:Tg} (h:Has w0 M H w) (p:Pick H b C tg H'):Blk w b C tg:=(h.blk _ p.mem).2
theorem Has.left {w0:World} {M:Ms} {w:World} {G H:Hp} (h:Has w0 M (G++H) w):Has w0 M G w:=
 ⟨h.ext,fun x hx=>h.blk x (List.mem_append_left _ hx),by have:=h.nodup;rw [List.map_append,List.nodup_append] at this;exact this.1,h.marks⟩
theorem Has.ownG {w0:World} {M:Ms} {H G:Hp} {w:World} (h:Has w0 M H w) (p:HpSub H G):Has w ⟨G.map Prod.fst,[]⟩ G w:=by
 have h':=h.sub p
 exact ⟨ExtM.refl _ _,fun x hx=>⟨.inr (List.mem_map.2 ⟨x,hx,rfl⟩),(h'.blk x hx).2⟩,h'.nodup,List.nodup_nil,fun k hk=>(List.not_mem_nil hk).elim⟩
theorem Has.called {w0:World} {M:Ms} {G R H1:Hp} {w w':World} (h:Has w0 M (G++R) w) (k:Has w ⟨G.map Prod.fst,[]⟩ H1 w'):Has w0 M (H1++R) w':=by
 have hn:=h.nodup
 rw [List.map_append,List.nodup_append] at hn
 have hG:∀ b,b∈G.map Prod.fst→(w0.heap.size≤b∨b∈M.wr)∧∃ C g,Blk w b C g:=fun b hb=>by
   obtain ⟨x,hx,rfl⟩:=List.mem_map.1 hb
   have hh:=h.blk x (List.mem_append_left _ hx)
   exact ⟨hh.1,_,_,hh.2⟩
 refine ⟨⟨k.ext.os.trans h.ext.os,k.ext.tape.trans h.ext.tape,k.ext.output.trans h.ext.output,Nat.le_trans h.ext.size k.ext.size,fun b hb hm=>?_⟩,fun x hx=>?_,?_,h.marks.1,fun d hd=>⟨(h.marks.2 d hd).1,?_⟩⟩
 · rw [k.ext.block b (Nat.lt_of_lt_of_le hb h.ext.size) (fun hg=>by
     rcases (hG b hg).1 with h1|h1
     · omega
     · exact hm h1)]
   exact h.ext.block b hb hm
 · rcases List.mem_append.1 hx with hx|hx
   · have hh:=k.blk x hx
     refine ⟨?_,hh.2⟩
     rcases hh.1 with h1|h1
     · exact .inl (Nat.le_trans h.ext.size h1)
     · exact (hG _ h1).1
   · have hh:=h.blk x (List.mem_append_right _ hx)
     refine ⟨hh.1,hh.2.same (k.ext.block _ hh.2.lt fun hg=>?_)⟩
     exact hn.2.2 _ hg _ (List.mem_map.2 ⟨x,hx,rfl⟩) rfl
 · rw [List.map_append,List.nodup_append]
   refine ⟨k.nodup,hn.2.1,fun a ha b hb e=>?_⟩
   obtain ⟨x,hx,rfl⟩:=List.mem_map.1 ha
   obtain ⟨y,hy,rfl⟩:=List.mem_map.1 hb
   have hlt:=(h.blk y (List.mem_append_right _ hy)).2.lt
   rcases (k.blk x hx).1 with h1|h1
   · omega
   · exact hn.2.2 _ h1 _ (List.mem_map.2 ⟨y,hy,rfl⟩) e
 · have hd':=(h.marks.2 d hd).2
   rw [k.ext.block d (mark_lt hd') (fun hg=>by
     obtain ⟨_,C,g,h1⟩:=hG d hg
     exact mark_ne h1 hd' rfl)]
   exact hd'
theorem HpSub.skipX {x:Nat×List Value×Tg} {H G:Hp} (h:HpSub H G):HpSub (x::H) G:=by
 induction h with
 | nil=>exact .nil
 | cons p _ ih=>exact .cons (.tail p) ih
theorem HpSub.appLeft {G R:Hp}:HpSub (G++R) G:=by
 induction G with
 | nil=>exact HpSub.nil
 | cons x G ih=>obtain ⟨b,C,g⟩:=x;exact HpSub.cons P0 ih
theorem HpSub.skipApp {G R X:Hp} (h:HpSub R X):HpSub (G++R) X:=by
 induction G with
 | nil=>exact h
 | cons x G ih=>exact HpSub.skipX ih
theorem HpSub.appC {A H G:Hp} (h:HpSub H G):HpSub (A++H) (A++G):=by
 induction A with
 | nil=>exact h
 | cons x A ih=>obtain ⟨b,C,g⟩:=x;exact HpSub.cons P0 ih
theorem hp_perm:∀ {G H:Hp},H.Perm G→HpSub H G
 | [],H,_=>HpSub.nil
 | (b,C,g)::G,H,h=>by
   have hm:(b,C,g)∈H:=h.mem_iff.2 (List.mem_cons_self ..)
   obtain ⟨H',hp⟩:∃ H',Pick H b C g H':=by
     clear h
     induction H with
     | nil=>cases hm
     | cons x H ih=>
       rcases List.mem_cons.1 hm with rfl|hm
       · exact ⟨H,Pick.head _ _ _ _⟩
       · obtain ⟨H',hp⟩:=ih hm
         exact ⟨x::H',hp.tail⟩
   exact HpSub.cons hp (hp_perm ((hp.perm.symm.trans h).cons_inv))
theorem hp_comm (A B:Hp):HpSub (A++B) (B++A):=hp_perm List.perm_append_comm
theorem HpSub.front {x:Nat×List Value×Tg} {H G:Hp} (h:HpSub H G):HpSub (x::H) (x::G):=by
 obtain ⟨b,C,g⟩:=x;exact HpSub.cons P0 h
def HpW (H G:Hp):Prop:=∀ w0 M w,Has w0 M H w→Has w0 M G w
theorem HpSub.w {H G:Hp} (h:HpSub H G):HpW H G:=fun _ _ _ hw=>hw.sub h
theorem HpW.refl (H:Hp):HpW H H:=fun _ _ _ h=>h
theorem HpW.trans {H G K:Hp} (h:HpW H G) (k:HpW G K):HpW H K:=fun _ _ _ hw=>k _ _ _ (h _ _ _ hw)
theorem Blk.pre {w:World} {b:Nat} {C D:List Value} {tg:Tg} (h:Blk w b (C++D) tg):Blk w b C tg:=by
 rcases h with ⟨c,t,e1,e2,e3⟩|⟨e,h⟩
 · exact .inl ⟨c,t,e1,fun o v ho=>e2 o v (by
     have:=(List.getElem?_eq_some_iff.1 ho).1
     rw [List.getElem?_append_left this];exact ho),e3⟩
 · exact .inr ⟨(List.append_eq_nil_iff.1 e).1,h⟩
theorem HpW.pre {b:Nat} {C D:List Value} {tg:Tg} {H:Hp}:HpW ((b,C++D,tg)::H) ((b,C,tg)::H):=fun w0 M w h=>by
 refine ⟨h.ext,fun x hx=>?_,h.nodup,h.marks⟩
 rcases List.mem_cons.1 hx with rfl|hx
 · have h1:=h.blk _ (List.mem_cons_self ..)
   exact ⟨h1.1,h1.2.pre⟩
 · exact h.blk _ (List.mem_cons_of_mem _ hx)
section
variable {c:Cx} {S:WS c.P} {Q:QS} {F:Fr} {H G R:Hp} {x y:Code} {K:Value→Hp→Prop} {d:Option Tmp} {ty:TypeId} {pos:String} {af:Array Edge} {g:Option (Nat×Bool)} {PV:Value→Hp→Prop} {v:Value}
theorem t_subW (hH:HpW H G) (h:T c S x Q F G):T c S x Q F H:=fun D a w ha hw=>h D a w ha (hH _ _ _ hw)
theorem t_fact {P:Prop} (hf:∀ M w,Has c.w0 M H w→P) (h:P→T c S x Q F H):T c S x Q F H:=fun D a w ha hw=>h (hf _ _ hw) D a w ha hw
theorem t_endW (h1:T c S x (fun e F' H'=>e=.normal∧∃ F2 H2,FrSub F' F2∧HpW H' H2∧Q .normal F2 H2) F H):T c S x Q F H:=fun D a w ha hw=>
 S.mono (h1 D a w ha hw) fun e a' w' he=>by
   obtain ⟨D',F',H',⟨rfl,F2,H2,hF,hH,hq⟩,h3,h4⟩:=he
   exact ⟨D',F2,H2,hq,h3.sub hF,hH _ _ _ h4⟩
theorem os_callM {f:Operand} {args:Array Operand} {T:Array TypeId} {k:Nat} {fst cap vs:List Value} (hf:ev F f=some (.func (.func k) ⟨fst⟩ ⟨cap⟩)) (hc:∀ (a:Array Value) (w:World),(callFunc k a).run c.P w=.ok (.enter k a) w)
   (ha:evs F args.toList=some vs) (hp:HpSub H (G++R)) (h:∀ D w,Has c.w0 ⟨c.M,D⟩ H w→Has w ⟨G.map Prod.fst,[]⟩ G w→Calls c.P k ⟨fst++vs++cap⟩ w fun e w'=>∃ v H1,e=.returned v∧PV v H1∧Has w ⟨G.map Prod.fst,[]⟩ H1 w')
   (hk:∀ v H1,PV v H1→K v (H1++R)):OS c ⟨d,.call ⟨.value f,args,T⟩,ty,pos,af,g⟩ F H K:=
 os_call hf hc ha fun D w hw=>(h D w hw ((hw.sub hp).left.ownG (HpSub.refl _))).mono fun e w' ⟨v,H1,h1,h2,h3⟩=>⟨v,_,h1,hk v H1 h2,(hw.sub hp).called h3⟩
/-! Interfaces -/
end
structure Qm where
 b:Nat
 o:Nat
 cap:Nat
 c0:Nat
 C:List Value
def Qm.tail (m:Qm):Qm:=if m.cap=1 then { m with cap:=0 } else { m with o:=m.o+1,cap:=m.cap-1 }
section
variable {c:Cx} {F:Fr} {H H':Hp} {K:Value→Hp→Prop} {d:Option Tmp} {ty t:TypeId} {pos:String} {af:Array Edge} {g:Option (Nat×Bool)} {x y s:Operand}
end
end Go.Proofs.Ytcjkndjjbjoehaa
namespace Go.Proofs.Ytcjkndjjbjoehaa
def nb (W n a:Nat):List Nat:=
 (if W≤a then [a-W] else [])++((if 0<a % W then [a-1] else [])++((if a % W+1<W then [a+1] else [])++(if a+W<n then [a+W] else [])))
structure Ter (W Hh n:Nat):Prop where
 w1:1≤W
 h1:1≤Hh
 w24:W≤24
 h24:Hh≤24
 hn:n=W*Hh
def gr (g:List Int) (c:Nat):Int:=g.getD c 0
inductive Rch (W n:Nat) (g:List Int) (h:Int) (a:Nat):Nat→Prop
 | refl (ha:gr g a≤h):Rch W n g h a a
 | step {b c:Nat} (k:Rch W n g h a b) (hc:c∈nb W n b) (hg:gr g c≤h):Rch W n g h a c
section
variable {W Hh n:Nat} {g:List Int} {h:Int} {a b c:Nat}
end
structure IsPass (W n:Nat) (g:List Int) (a b:Nat) (h:Int):Prop where
 is:Rch W n g h a b
 least:∀ k,Rch W n g k a b→h≤k
/-! The search for the lowest path -/
section
variable {W Hh n:Nat} {g:List Int} {a:Nat}
structure Sea (W n:Nat) (g:List Int) (a:Nat) (seen:List Bool) (f:List (Int×Nat)):Prop where
 len:seen.length=n
 lt:∀ x∈f,x.2<n
 rch:∀ x∈f,Rch W n g x.1 a x.2
 seen_:∀ u,seen[u]?=some true→∃ k,(∀ H,Rch W n g H a u→k≤H)∧∀ c∈nb W n u,seen[c]?=some true∨∃ x∈f,x.2=c∧x.1≤max k (gr g c)
 start:seen[a]?=some true∨∃ x∈f,x.2=a∧x.1≤gr g a
end
/-! How many steps are left -/
def bfsRow (g:List Int) (h:Int) (d:Nat):List Nat→List Nat×List Nat→List Nat×List Nat
 | [],s=>s
 | c::l,s=>bfsRow g h d l (if s.1.getD c 0=0∧gr g c≤h then (s.1.set c d,s.2++[c]) else s)
inductive Bfs (W n:Nat) (g:List Int) (h:Int) (L:List Nat):Nat→List Nat→List Nat→Prop
 | done:Bfs W n g h L 0 L []
 | next {k a:Nat} {lev q:List Nat} (s:Bfs W n g h L k (bfsRow g h (lev.getD a 0+1) (nb W n a) (lev,q)).1 (bfsRow g h (lev.getD a 0+1) (nb W n a) (lev,q)).2):Bfs W n g h L (k+1) lev (a::q)
structure Dist (W n:Nat) (g:List Int) (h:Int) (b:Nat) (L:List Nat):Prop where
 len:L.length=n
 one:∀ c,c<n→(L.getD c 0=1↔c=b)
 low:∀ c,c<n→0<L.getD c 0→gr g c≤h
 prev:∀ c,c<n→1<L.getD c 0→∃ d∈nb W n c,L.getD d 0+1=L.getD c 0
 next:∀ c,c<n→0<L.getD c 0→∀ d∈nb W n c,gr g d≤h→0<L.getD d 0∧L.getD d 0≤L.getD c 0+1
 bnd:∀ c,L.getD c 0≤n+1
structure WI (n:Nat) (lev q:List Nat):Prop where
 len:lev.length=n
 lt:∀ c∈q,c<n
 cnt:q.length+lev.countP (fun x=>x == 0)≤n
 bnd:∀ c,lev.getD c 0+lev.countP (fun x=>x == 0)≤n+1
structure RowF (g:List Int) (h:Int) (d:Nat) (l lev q lev' q':List Nat):Prop where
 len:lev'.length=lev.length
 keep:∀ c,0<lev.getD c 0→lev'.getD c 0=lev.getD c 0
 new:∀ c,lev'.getD c 0≠lev.getD c 0→lev.getD c 0=0∧lev'.getD c 0=d∧c∈l∧gr g c≤h∧c∈q'
 all:∀ c∈l,c<lev.length→gr g c≤h→0<lev'.getD c 0
 que:∃ x,q'=q++x∧∀ c∈x,lev'.getD c 0=d∧c<lev.length
structure BI (W n:Nat) (g:List Int) (h:Int) (b:Nat) (lev q:List Nat):Prop extends WI n lev q where
 set_:∀ c∈q,0<lev.getD c 0
 one:∀ c,c<n→(lev.getD c 0=1↔c=b)
 low:∀ c,c<n→0<lev.getD c 0→gr g c≤h
 prev:∀ c,c<n→1<lev.getD c 0→∃ d∈nb W n c,lev.getD d 0+1=lev.getD c 0
 next:∀ c,c<n→0<lev.getD c 0→c∉q→∀ d∈nb W n c,gr g d≤h→0<lev.getD d 0∧lev.getD d 0≤lev.getD c 0+1
 ord:∃ e q1 q2,(∀ c,lev.getD c 0≤e+1)∧q=q1++q2∧(∀ c∈q1,lev.getD c 0=e)∧∀ c∈q2,lev.getD c 0=e+1
/-! The way -/
def nxt (W n:Nat) (L:List Nat) (a:Nat):Option Nat:=(nb W n a).find? fun c=>L.getD c 0+1 == L.getD a 0
inductive Pth (W n:Nat) (L:List Nat) (b:Nat):Nat→List Nat→Prop
 | done:Pth W n L b b [b]
 | next {a c:Nat} {l:List Nat} (hne:a≠b) (hn:nxt W n L a=some c) (k:Pth W n L b c l):Pth W n L b a (a::l)
section
variable {c:Cx} {F:Fr} {H:Hp} {d:Option Tmp} {ty t t':TypeId} {pos:String} {af:Array Edge} {g:Option (Nat×Bool)} {x y:Operand} {k:IntKind} {m n:Int}
theorem oq_leqT (hx:ev F x=some (.int k m)) (hy:ev F y=some (.int k n)) (h:m≤n):OQ c ⟨d,.binOp .leq t x y t',ty,pos,af,g⟩ F H (.bool true):=(oq_leq hx hy).as (by simp [h])
theorem oq_leqF (hx:ev F x=some (.int k m)) (hy:ev F y=some (.int k n)) (h:¬ m≤n):OQ c ⟨d,.binOp .leq t x y t',ty,pos,af,g⟩ F H (.bool false):=(oq_leq hx hy).as (by simp [h])
theorem oq_lssT (hx:ev F x=some (.int k m)) (hy:ev F y=some (.int k n)) (h:m<n):OQ c ⟨d,.binOp .lss t x y t',ty,pos,af,g⟩ F H (.bool true):=(oq_lss hx hy).as (by simp [h])
theorem oq_lssF (hx:ev F x=some (.int k m)) (hy:ev F y=some (.int k n)) (h:¬ m<n):OQ c ⟨d,.binOp .lss t x y t',ty,pos,af,g⟩ F H (.bool false):=(oq_lss hx hy).as (by simp [h])
theorem oq_gtrT (hx:ev F x=some (.int k m)) (hy:ev F y=some (.int k n)) (h:n<m):OQ c ⟨d,.binOp .gtr t x y t',ty,pos,af,g⟩ F H (.bool true):=(oq_gtr hx hy).as (by simp [h])
theorem oq_gtrF (hx:ev F x=some (.int k m)) (hy:ev F y=some (.int k n)) (h:¬ n<m):OQ c ⟨d,.binOp .gtr t x y t',ty,pos,af,g⟩ F H (.bool false):=(oq_gtr hx hy).as (by simp [h])
theorem oq_geqT (hx:ev F x=some (.int k m)) (hy:ev F y=some (.int k n)) (h:n≤m):OQ c ⟨d,.binOp .geq t x y t',ty,pos,af,g⟩ F H (.bool true):=(oq_geq hx hy).as (by simp [h])
theorem oq_geqF (hx:ev F x=some (.int k m)) (hy:ev F y=some (.int k n)) (h:¬ n≤m):OQ c ⟨d,.binOp .geq t x y t',ty,pos,af,g⟩ F H (.bool false):=(oq_geq hx hy).as (by simp [h])
theorem oq_eqlT (hx:ev F x=some (.int k m)) (hy:ev F y=some (.int k n)) (h:m=n):OQ c ⟨d,.binOp .eql t x y t',ty,pos,af,g⟩ F H (.bool true):=(oq_eql hx hy).as (by simp [h])
theorem oq_eqlF (hx:ev F x=some (.int k m)) (hy:ev F y=some (.int k n)) (h:¬ m=n):OQ c ⟨d,.binOp .eql t x y t',ty,pos,af,g⟩ F H (.bool false):=(oq_eql hx hy).as (by simp [h])
theorem oq_neqT (hx:ev F x=some (.int k m)) (hy:ev F y=some (.int k n)) (h:¬ m=n):OQ c ⟨d,.binOp .neq t x y t',ty,pos,af,g⟩ F H (.bool true):=(oq_neq hx hy).as (by simp [h])
theorem oq_neqF (hx:ev F x=some (.int k m)) (hy:ev F y=some (.int k n)) (h:m=n):OQ c ⟨d,.binOp .neq t x y t',ty,pos,af,g⟩ F H (.bool false):=(oq_neq hx hy).as (by simp [h])
end
theorem oq_mulE {c:Cx} {F:Fr} {H:Hp} {d:Option Tmp} {ty t t':TypeId} {pos:String} {af:Array Edge} {g:Option (Nat×Bool)} {x y:Operand} {m n k:Int} (hx:ev F x=some (.int .i64 m)) (hy:ev F y=some (.int .i64 n)) (e:m*n=k) (hk : -9223372036854775808≤k∧k≤9223372036854775807):OQ c ⟨d,.binOp .mul t x y t',ty,pos,af,g⟩ F H (.int .i64 k):=by
 subst e
 exact oq_mul hx hy ⟨hk.1,hk.2⟩
end Go.Proofs.Ytcjkndjjbjoehaa
namespace Go.Proofs.Ytcjkndjjbjoehaa
open Go.RowKit
theorem SAnyI_lexE {P:Program} {ops:Array Oper} {cov:Array Bool} {Q:Act→World→Prop} {I:World→Prop} (hU:Up I) (hs:Region.noSelect ops=true) (n:Nat):∀ (l:List Nat) (listed:Array Bool) (a:Act) (w0:World),I w0→lexOk ops cov l listed=true→Down ops listed →
   wpGI P ops I (fun a'=>∀ w,Ext w0 w→SAnyI P ops cov I Q n (listedBy l listed) a' w) l a→∀ w,Ext w0 w→SAnyI P ops cov I Q (n+l.length) listed a w
 | [],_,_,_,_,_,_,h=>h
 | i::l,listed,a,w0,hw0,hB,hd,h=>by
   simp only [lexOk,Bool.and_eq_true] at hB
   obtain ⟨⟨⟨hr,hf⟩,hc⟩,hB'⟩:=hB
   have hr':i∈Region.ready .any ops listed:=by simpa using hr
   unfold wpGI at h
   cases ho:ops[i]? with
   | none=>simp only [ho] at h
   | some o=>
     simp only [ho] at h
     by_cases hw:Region.wanted o (yielded ops a.tmps)=true
     · simp only [hw,if_true] at h
       obtain ⟨v,hv,hK⟩:=h
       exact SAnyI_first hU ho (Region.noSelect_spec hs) hc (n+l.length) listed a w0 hw0 hd (Region.free_spec ho hf) hr' (.inl ⟨hw,hv⟩) (SAnyI_lexE hU hs n l _ _ w0 hw0 hB' (hd.set hr') hK)
     · simp only [hw] at h
       exact SAnyI_first hU ho (Region.noSelect_spec hs) hc (n+l.length) listed a w0 hw0 hd (Region.free_spec ho hf) hr' (.inr ⟨by simpa using hw,rfl⟩) (SAnyI_lexE hU hs n l _ _ w0 hw0 hB' (hd.set hr') h)
theorem t_mixZ {c:Cx} {Q:QS} {F:Fr} {H:Hp} {id:Nat} {l ql:List Oper} (q:List Nat) (n:Nat) (hm:c.P.follows .mixedOrders=true) (hB:(Region.noSelect ⟨l⟩ && (n+q.length == (Array.mk l).size) && lexOk ⟨l⟩ #[] q (Array.replicate (Array.mk l).size false))=true) (hq:pickOps l q=some ql)
   (h:GX c ⟨l⟩ ql (fun F'=>AL c ⟨l⟩ #[] [] n (listedBy q (Array.replicate (Array.mk l).size false)) (fun F H=>Q .normal F H) F' H) F []):T c (WS.own c.P) (.region id ⟨l⟩ true) Q F H:=fun D a w ha hw=>by
 show (Code.region id ⟨l⟩ true).wp c.P (cv c Q) a w
 simp only [Bool.and_eq_true,beq_iff_eq] at hB
 obtain ⟨⟨hs,hn⟩,hl⟩:=hB
 have hI:Has c.w0 ⟨c.M,D⟩ [] w:=hw.sub HpSub.nil
 refine wp_region_any hm (wpAny_of_SAnyI (Q:=fun a w=>∃ D F H,Q .normal F H∧Frm D c.N F a∧Has c.w0 ⟨c.M,D⟩ H w) (I:=Has c.w0 ⟨c.M,D⟩ []) (cov:=#[]) (fun _ _ h=>h) _ _ _ _ ?_)
 rw [← hn]
 have key:=SAnyI_lexE (P:=c.P) (cov:=#[]) (Q:=fun a w=>∃ D F H,Q .normal F H∧Frm D c.N F a∧Has c.w0 ⟨c.M,D⟩ H w) (Has.up (M:=⟨c.M,D⟩)) hs n q (Array.replicate (Array.mk l).size false) a w hI hl (Down.none _)
   (wpGI_mono (fun a' ⟨F',h1,h2⟩ w' hw'=>h1 D a' w' h2 (hw.grow hw')) q a (h q (pickOps_spec hq) D a ha)) w.drew (Ext.refl w).drew
 exact hn.symm ▸ key
end Go.Proofs.Ytcjkndjjbjoehaa
namespace Go.Proofs.Ytcjkndjjbjoehaa
open Go.RowKit
attribute [local irreducible] OQ OS OX Rd T TL GX GL AL AI RV wpG SAny Calls
def hI (l:List Int):Option (Nat×Nat)→Hp
 | none=>[]
 | some (b,cap)=>[(b,l.map iv,some (3,1,cap))]
def p1 (W a:Nat):List Nat:=if W≤a then [a-W] else []
def p2 (W a:Nat):List Nat:=if 0<a % W then [a-1] else []
def p3 (W a:Nat):List Nat:=if a % W+1<W then [a+1] else []
def p4 (W n a:Nat):List Nat:=if a+W<n then [a+W] else []
section
variable {c:Cx} {F:Fr} {H:Hp} {d:Option Tmp} {ty t t':TypeId} {pos:String} {af:Array Edge} {g:Option (Nat×Bool)} {x y:Operand} {m n k:Int}
end
theorem allFrom_two {lo hi x y:Int}:allFrom lo hi [x,y]=true↔lo≤x∧x≤hi∧lo≤y∧y≤hi:=by
 simp [allFrom];omega
section
variable {w:World} {N:Nat} {F:Fr} {H:Hp} {M:List Nat} {d:Option Tmp} {ty t':TypeId} {pos:String} {af:Array Edge} {g:Option (Nat×Bool)} {x y:Operand} {a b a' b':Int} {q:Bool}
end
structure WOk (a b c d:Int):Prop where
 ab:a≤b
 cd:c≤d
 a2 : -2000≤a
 b2:b≤2000
 c2 : -2000≤c
 d2:d≤2000
end Go.Proofs.Ytcjkndjjbjoehaa
namespace Go.Proofs.Ytcjkndjjbjoehaa
open Go.RowKit
def fk (i:Int) (p:Bool):Value:=.agg #[.int .i64 i,.bool p]
theorem eq_bool4 {w:World} {d:Nat} {a b:Bool}:(Op.equalIn (d+1) 4 (.bool a) (.bool b)).run Try.prog w=.ok (a == b) w:=run_equalIn_bool' (P:=Try.prog) w d 4 a b Try.underlying4
theorem eqF_bool {w:World} {d o:Nat} {xs ys:List Value} {f:Field} {fs:List Field} {a b:Bool} {q:Bool} (hn:(f.name == "_")=false) (ht:f.type=4) (ho:f.offset=o) (hx:xs[o]?=some (.bool a)) (hy:ys[o]?=some (.bool b))
   (hr:(Op.eqFields (d+1) ⟨xs⟩ ⟨ys⟩ fs).run Try.prog w=.ok q w):(Op.eqFields (d+1) ⟨xs⟩ ⟨ys⟩ (f::fs)).run Try.prog w=.ok ((a == b) && q) w:=by
 rw [eqF_cons hn (by rw [ht,ho];exact part_cell (Try.isAgg4 w) hx) (by rw [ht,ho];exact part_cell (Try.isAgg4 w) hy) (by rw [ht];exact eq_bool4),hr]
 cases h:(a == b)<;>simp
theorem eq_flown {w:World} {d:Nat} {i j:Int} {p q:Bool}:(Op.equalIn (d+2) 134 (fk i p) (fk j q)).run Try.prog w=.ok (decide (i=j) && ((p == q) && true)) w:=by
 unfold fk
 rw [run_equalIn_struct w (d+1) 134 _ _ (by kernel_rfl) (by kernel_rfl)]
 simp only [Program.fieldsOf,Try.underlying134]
 exact eqF_int rfl rfl rfl rfl rfl (eqF_bool rfl rfl rfl rfl rfl eqF_nil)
theorem eq_fk {w:World} {i j:Int} {p q:Bool}:(Op.equal 134 (fk i p) (fk j q)).run Try.prog w=.ok (decide (i=j) && ((p == q) && true)) w:=eq_flown (d:=9998)
theorem ask_none {w:World} {i:Int} {p:Bool}:∀ (l:List MapEntry) (k:Nat),(∀ e∈l,∃ j q,e.key=fk j q∧¬ (i=j∧p=q))→(Instr.findAsking 134 (fk i p) l k).run Try.prog w=.ok none w
 | [],_,_=>by simp [Instr.findAsking,Sem.run_pure]
 | e::l,k,h=>by
   obtain ⟨j,q,h1,h2⟩:=h e (List.mem_cons_self ..)
   have hf:(decide (i=j) && ((p == q) && true))=false:=by
     cases hb:(decide (i=j) && ((p == q) && true)) with
     | false=>rfl
     | true=>simp at hb;exact absurd hb h2
   have ih:=ask_none (w:=w) (i:=i) (p:=p) l (k+1) (fun e he=>h e (List.mem_cons_of_mem _ he))
   simp only [Instr.findAsking,Sem.run_bind,h1,eq_fk,hf,Result.andThen,Bool.false_eq_true,if_false]
   exact ih
theorem ask_some {w:World} {i:Int} {p:Bool} {v:Value}:∀ (l:List MapEntry) (k j:Nat) (e:MapEntry),(∀ e∈l.take j,∃ j q,e.key=fk j q∧¬ (i=j∧p=q))→l[j]?=some e→e.key=fk i p→(Instr.findAsking 134 (fk i p) l k).run Try.prog w=.ok (some (k+j,e.val)) w
 | [],_,_,_,_,h,_=>by cases h
 | e::l,k,0,e',_,h,h1=>by
   obtain rfl:=Option.some.inj h
   simp only [Instr.findAsking,Sem.run_bind,h1,eq_fk,Result.andThen]
   simp [Sem.run_pure]
 | e::l,k,j+1,e',h0,h,h1=>by
   obtain ⟨j',q,h2,h3⟩:=h0 e (by simp)
   have hf:(decide (i=j') && ((p == q) && true))=false:=by
     cases hb:(decide (i=j') && ((p == q) && true)) with
     | false=>rfl
     | true=>simp at hb;exact absurd hb h3
   have ih:=ask_some (w:=w) (i:=i) (p:=p) (v:=v) l (k+1) j e' (fun e he=>h0 e (by simp only [List.take_succ_cons,List.mem_cons];exact .inr he)) (by simpa using h) h1
   simp only [Instr.findAsking,Sem.run_bind,h2,eq_fk,hf,Result.andThen,Bool.false_eq_true,if_false]
   rw [ih,show k+1+j=k+(j+1) by omega]
theorem findNow_struct {fs:Array Field} {i:Int} {p:Bool} (e:MapEntry) (l:List MapEntry) (he:∃ j q,e.key=fk j q):Instr.findNow (.struct fs) (fk i p) (e::l) 0=none:=by
 obtain ⟨j,q,h⟩:=he
 unfold Instr.findNow
 rw [h];rfl
theorem find_fk {w:World} {i:Int} {p:Bool} {l:List MapEntry} {r:Option (Nat×Value)} (hl:∀ e∈l,∃ j q,e.key=fk j q) (h:(Instr.findAsking 134 (fk i p) l 0).run Try.prog w=.ok r w) (h0:l=[]→r=none):(Instr.findKey 134 (fk i p) l).run Try.prog w=.ok r w:=by
 cases l with
 | nil=>
   rw [h0 rfl]
   simp [Instr.findKey,Instr.findNow,run_underlying Try.underlying134,Result.andThen,Sem.run_pure]
 | cons e l=>
   have hn:=fun fs=>findNow_struct (fs:=fs) (i:=i) (p:=p) e l (hl e (List.mem_cons_self ..))
   simp [Instr.findKey,run_underlying Try.underlying134,Result.andThen,Sem.run_bind,hn,h]
theorem check_fk {w:World} {i:Int} {p:Bool} (e:Bool) (n:Nat):(Instr.checkKey e (n+2) 134 (fk i p)).run Try.prog w=.ok () w:=by
 unfold fk
 have c3:∀ v w,(Instr.checkKey e (n+1) 3 v).run Try.prog w=.ok () w:=fun v w=>by
   unfold Instr.checkKey
   simp only [Sem.run_bind,run_underlying Try.underlying3,Result.andThen]
   cases v<;>rfl
 have c4:∀ v w,(Instr.checkKey e (n+1) 4 v).run Try.prog w=.ok () w:=fun v w=>by
   unfold Instr.checkKey
   simp only [Sem.run_bind,run_underlying Try.underlying4,Result.andThen]
   cases v<;>rfl
 have p3:(part 3 #[.int .i64 i,.bool p] 0).run Try.prog w=.ok (.int .i64 i) w:=part_cell (Try.isAgg3 w) rfl
 have p4:(part 4 #[.int .i64 i,.bool p] 1).run Try.prog w=.ok (.bool p) w:=part_cell (Try.isAgg4 w) rfl
 rw [Instr.checkKey]
 simp [Sem.run_bind,run_underlying Try.underlying134,Result.andThen,p3,p4,c3,c4,Sem.run_pure]
theorem zero199 {w:World}:(zeroValue 199).run Try.prog w=.ok (.slice none 0 0) w:=by
 have e:Try.t199.zero=some (.slice none 0 0):=by first|rfl|kernel_rfl
 simp [zeroValue,Sem.run_bind,run_underlying Try.underlying199,Result.andThen,Sem.run_pure,go_sem,e]
theorem update_fk {w:World} {b clock:Nat} {es:Array MapEntry} {i:Int} {p:Bool} {v:Value} (hb:w.heap[b]?=some (.map es clock)) (hk:∀ e∈es.toList,∃ j q,e.key=fk j q∧¬ (i=j∧p=q)) :
   (Instr.mapUpdate 196 (.map (some b)) (fk i p) v).run Try.prog w=.ok () { w with heap:=w.heap.setIfInBounds b (.map (es.push { key:=fk i p,val:=v,born:=clock }) (clock+1)) }:=by
 have hf:=find_fk (w:=w) (i:=i) (p:=p) (l:=es.toList) (fun e he=>by obtain ⟨j,q,h,_⟩:=hk e he;exact ⟨j,q,h⟩) (ask_none es.toList 0 hk) (fun _=>rfl)
 simp [Instr.mapUpdate,Sem.run_bind,run_underlying Try.underlying196,MapKept.run_getObj_map hb,check_fk (n:=9998),hf,MapKept.run_setObj_map _ hb,Result.andThen]
theorem lookup_none {w:World} {b clock:Nat} {es:Array MapEntry} {i:Int} {p:Bool} (hb:w.heap[b]?=some (.map es clock)) (hk:∀ e∈es.toList,∃ j q,e.key=fk j q∧¬ (i=j∧p=q)) :
   (Instr.lookup 196 (.map (some b)) (fk i p) false).run Try.prog w=.ok (.slice none 0 0) w:=by
 have hf:=find_fk (w:=w) (i:=i) (p:=p) (l:=es.toList) (fun e he=>by obtain ⟨j,q,h,_⟩:=hk e he;exact ⟨j,q,h⟩) (ask_none es.toList 0 hk) (fun _=>rfl)
 simp [Instr.lookup,Sem.run_bind,run_underlying Try.underlying196,MapKept.run_getObj_map hb,check_fk (n:=9998),hf,zero199,Result.andThen,Sem.run_pure]
theorem lookup_some {w:World} {b clock j:Nat} {es:Array MapEntry} {i:Int} {p:Bool} {e:MapEntry} (hb:w.heap[b]?=some (.map es clock)) (hl:∀ e∈es.toList,∃ j q,e.key=fk j q) (hk:∀ e∈es.toList.take j,∃ j q,e.key=fk j q∧¬ (i=j∧p=q)) (he:es.toList[j]?=some e) (hek:e.key=fk i p) :
   (Instr.lookup 196 (.map (some b)) (fk i p) false).run Try.prog w=.ok e.val w:=by
 have hf:=find_fk (w:=w) (i:=i) (p:=p) (l:=es.toList) hl (ask_some (v:=e.val) es.toList 0 j e hk he hek) (fun h=>by rw [h] at he;cases he)
 simp [Instr.lookup,Sem.run_bind,run_underlying Try.underlying196,MapKept.run_getObj_map hb,check_fk (n:=9998),hf,Result.andThen,Sem.run_pure]
end Go.Proofs.Ytcjkndjjbjoehaa
namespace Go.Proofs.Ytcjkndjjbjoehaa
open Go.RowKit
attribute [local irreducible] mapTg
theorem blk_map0 (w:World) (t:Nat):Blk (w.alloc (.map #[] 0)) w.heap.size [] (mapTg t []):=by
 refine Or.inr ⟨rfl,t,[],Eq.refl (mapTg t []),?_⟩
 refine ⟨#[],0,(MapKept.heap_alloc w _).1,?_⟩
 simp
section
variable {c:Cx} {F:Fr} {H H':Hp} {K:Value→Hp→Prop} {d:Option Tmp} {ty:TypeId} {pos:String} {af:Array Edge} {g:Option (Nat×Bool)} {t:TypeId} {x y z:Operand} {M:List Nat} {w:World} {N:Nat}
theorem ox_makeMap (k:∀ b,K (.map (some b)) ((b,[],mapTg t [])::H)):OX c ⟨d,.makeMap t none,ty,pos,af,g⟩ F H K:=by
 intro D a w ha hw
 have:(execOp a.eval ⟨d,.makeMap t none,ty,pos,af,g⟩).run c.P w=.ok (.value (.map (some w.heap.size))) (w.alloc (.map #[] 0)):=by
   simp [execOp,Sem.run_bind,Sem.run_pure,run_makeMap,Result.andThen]
 rw [this]
 exact ⟨⟨_,k w.heap.size,hw.fresh ((Ext.refl w).alloc _) (Nat.le_refl _) (blk_map0 w t)⟩,(Ext.refl w).alloc _⟩
def FkL (L:Mc):Prop:=∀ e∈L,∃ j q,decV e.1=fk j q
end
theorem Has.swapMap {w0:World} {M:Ms} {H:Hp} {w:World} {b:Nat} {C:List Value} {g g':Tg} {o:Obj} {es:Array MapEntry} {ck:Nat} (h:Has w0 M ((b,C,g)::H) w) (hb:w.heap[b]?=some (.map es ck)) (k:Blk { w with heap:=w.heap.setIfInBounds b o } b C g'):Has w0 M ((b,C,g')::H) { w with heap:=w.heap.setIfInBounds b o }:=by
 have hs:=MapKept.heap_set (o':=o) hb
 have hown:=(h.blk _ (List.mem_cons_self ..)).1
 have hnd:=h.nodup
 rw [List.map_cons,List.nodup_cons] at hnd
 refine ⟨⟨h.ext.os,h.ext.tape,h.ext.output,?_,fun i hi hm=>?_⟩,fun x hx=>?_,h.nodup,h.marks.1,fun k hk=>?_⟩
 · have:=h.ext.size;simpa using this
 · have hne:i≠b:=by
     rintro rfl
     rcases hown with e|e
     · simp only at e;omega
     · exact hm e
   exact (hs.2 i hne).trans (h.ext.block i hi hm)
 · rcases List.mem_cons.1 hx with rfl|hx
   · exact ⟨hown,k⟩
   · have hb':=h.blk x (List.mem_cons_of_mem _ hx)
     refine ⟨hb'.1,hb'.2.same (hs.2 _ fun e=>hnd.1 (List.mem_map.2 ⟨x,hx,e⟩))⟩
 · have hm:=h.marks.2 k hk
   refine ⟨hm.1,(hs.2 k ?_).trans hm.2⟩
   rintro rfl
   rw [hb] at hm;cases hm.2
theorem os_mapUpdate {F:Fr} {H H':Hp} {K:Value→Hp→Prop} {d:Option Tmp} {ty:TypeId} {pos:String} {af:Array Edge} {g:Option (Nat×Bool)} {x y z:Operand} {M:List Nat} {w0:World} {N:Nat} {L:Mc} {b:Nat} {i:Int} {p:Bool} {v:Value} {kc vc:List Nat}
   (hx:ev F x=some (.map (some b))) (hy:ev F y=some (fk i p)) (hz:ev F z=some v) (hkc:decV kc=fk i p) (hvc:decV vc=v) (hp:Pick H b [] (mapTg 196 L) H') (hnew:∀ e∈L,∃ j q,decV e.1=fk j q∧¬ (i=j∧p=q))
   (k:K undef ((b,[],mapTg 196 (L++[(kc,vc)]))::H')):OS (cxM M w0 N) ⟨d,.mapUpdate 196 x y z,ty,pos,af,g⟩ F H K:=by
 intro D a w ha hw
 have hw':=hw.perm hp.perm
 obtain ⟨es,ck,h1,h2⟩:=(hw'.blk _ (List.mem_cons_self ..)).2.map
 have hk:∀ e∈es.toList,∃ j q,e.key=fk j q∧¬ (i=j∧p=q):=fun e he=>by
   have h3:(e.key,e.val)∈es.toList.map (fun e=>(e.key,e.val)):=List.mem_map.2 ⟨e,he,rfl⟩
   rw [h2] at h3
   obtain ⟨c,hc1,hc2⟩:=List.mem_map.1 h3
   obtain ⟨j,q,h4,h5⟩:=hnew c hc1
   simp only [Prod.mk.injEq] at hc2
   exact ⟨j,q,by rw [← hc2.1,h4],h5⟩
 have r:=update_fk (v:=v) h1 hk
 have:(execOp a.eval ⟨d,.mapUpdate 196 x y z,ty,pos,af,g⟩).run (cxM M w0 N).P w=.ok .skip { w with heap:=w.heap.setIfInBounds b (.map (es.push { key:=fk i p,val:=v,born:=ck }) (ck+1)) }:=by
   simp only [execOp,ha.ev hx,ha.ev hy,ha.ev hz,Sem.run_bind,r,Result.andThen,Sem.run_pure]
 rw [this]
 refine ⟨_,k,hw'.swapMap h1 (Or.inr ⟨rfl,196,L++[(kc,vc)],Eq.refl _,?_⟩)⟩
 refine ⟨_,_,(MapKept.heap_set h1).1,?_⟩
 simp only [Array.toList_push,List.map_append,h2,List.map_cons,List.map_nil,hkc,hvc]
section
variable {c:Cx} {F:Fr} {H H':Hp} {K:Value→Hp→Prop} {d:Option Tmp} {ty:TypeId} {pos:String} {af:Array Edge} {g:Option (Nat×Bool)} {t:TypeId} {x y z:Operand} {M:List Nat} {w:World} {N:Nat}
theorem IsMap.ext {w w':World} {b:Nat} {L:Mc} (h:IsMap w b L) (e:Ext w w'):IsMap w' b L:=by
 obtain ⟨es,ck,h1,h2⟩:=h
 exact ⟨es,ck,(e.block b (Array.getElem?_eq_some_iff.1 h1).1).trans h1,h2⟩
theorem oq_lookupW {L:Mc} {b j:Nat} {i:Int} {p:Bool} {e:List Nat×List Nat} (hx:ev F x=some (.map (some b))) (hy:ev F y=some (fk i p)) (hb:∀ D w1,Has (cxM M w N).w0 ⟨(cxM M w N).M,D⟩ H w1→IsMap w1 b L) (hL:FkL L) (hk:∀ e∈L.take j,∃ j q,decV e.1=fk j q∧¬ (i=j∧p=q)) (he:L[j]?=some e) (hek:decV e.1=fk i p) :
   OQ (cxM M w N) ⟨d,.lookup 196 x y false,ty,pos,af,g⟩ F H (decV e.2):=.of fun D a w ha hw=>by
 obtain ⟨es,ck,h1,h2⟩:=hb _ _ hw
 have hlen:es.toList.length=L.length:=by have:=congrArg List.length h2;simpa using this
 have key:∀ (k:Nat) (x:MapEntry),es.toList[k]?=some x→∃ y:List Nat×List Nat,L[k]?=some y∧x.key=decV y.1∧x.val=decV y.2:=fun k x hx=>by
   have h3:=congrArg (fun l=>l[k]?) h2
   simp only [List.getElem?_map,hx,Option.map_some] at h3
   cases hy:L[k]? with
   | none=>rw [hy] at h3;cases h3
   | some y=>
     rw [hy] at h3
     simp only [Option.map_some,Option.some.injEq,Prod.mk.injEq] at h3
     exact ⟨y,rfl,h3.1,h3.2⟩
 have hj:j<es.toList.length:=by rw [hlen];exact (List.getElem?_eq_some_iff.1 he).1
 obtain ⟨y',hy1,hy2,hy3⟩:=key j es.toList[j] (List.getElem?_eq_getElem hj)
 rw [he] at hy1
 obtain rfl:=Option.some.inj hy1
 have r:=lookup_some (i:=i) (p:=p) (j:=j) (e:=es.toList[j]) h1 (fun x hx=>by
   obtain ⟨k,hk1,rfl⟩:=List.getElem_of_mem hx
   obtain ⟨y2,k1,k2,_⟩:=key k _ (List.getElem?_eq_getElem hk1)
   rw [k2];exact hL _ (List.mem_of_getElem? k1)) (fun x hx=>by
   obtain ⟨k,hk1,hk2⟩:=List.getElem_of_mem hx
   have hk3:es.toList[k]?=some x:=by
     have h5:(es.toList.take j)[k]?=some x:=by rw [List.getElem?_eq_getElem hk1,hk2]
     rw [List.getElem?_take] at h5
     split at h5
     · exact h5
     · cases h5
   have hkj:k<j:=by rw [List.length_take] at hk1;omega
   obtain ⟨y2,k1,k2,_⟩:=key k x hk3
   rw [k2]
   exact hk y2 (List.mem_of_getElem? (i:=k) (by rw [List.getElem?_take,if_pos hkj];exact k1))) (List.getElem?_eq_getElem hj) (by rw [hy2,hek])
 rw [hy3] at r
 simp only [execOp,ha.ev hx,ha.ev hy,Sem.run_bind,r,Result.andThen,Sem.run_pure]
end
end Go.Proofs.Ytcjkndjjbjoehaa
namespace Go.Proofs.Ytcjkndjjbjoehaa
open Go.RowKit
attribute [local irreducible] OQ OS OX Rd T TL GX GL AL AI RV wpG SAny Calls
section
variable {c:Cx} {F:Fr} {H:Hp} {d:Option Tmp} {ty t t':TypeId} {pos:String} {af:Array Edge} {g:Option (Nat×Bool)} {x y:Operand} {m n k:Int}
theorem oq_quoI (hx:ev F x=some (.int .i64 m)) (hy:ev F y=some (.int .i64 n)) (e:m.tdiv n=k∧n≠0∧-9223372036854775808≤k∧k≤9223372036854775807):OQ c ⟨d,.binOp .quo t x y t',ty,pos,af,g⟩ F H (.int .i64 k):=
 (oq_quo hx hy e.2.1 (by rw [e.1];exact ⟨e.2.2.1,e.2.2.2⟩)).as (by rw [e.1])
end
end Go.Proofs.Ytcjkndjjbjoehaa
namespace Go.Proofs.Ytcjkndjjbjoehaa
structure Lv where
 h:Int
 plo:Int
 phi:Int
 tlo:Int
 thi:Int
def Lv.press (x:Lv):Int×Int:=(x.plo,x.phi)
def Lv.temp (x:Lv):Int×Int:=(x.tlo,x.thi)
def Lv.put (x:Lv) (s:Int×Int):Lv:=⟨x.h,s.1,s.2,x.tlo,x.thi⟩
theorem all_range_no {n k:Nat} {p:Nat→Bool} (hk:k<n) (h:p k=false):(List.range n).all p=false:=by
 rw [Bool.eq_false_iff,Ne,List.all_eq_true]
 intro h2
 have:=h2 k (List.mem_range.2 hk)
 rw [h] at this
 cases this
theorem all_range_yes {n:Nat} {p:Nat→Bool} (h:∀ k,k<n→p k=true):(List.range n).all p=true:=
 List.all_eq_true.2 fun k hk=>h k (List.mem_range.1 hk)
structure Gl where
 h:Int
 xlo:Int
 xhi:Int
 ylo:Int
 yhi:Int
 gust:Int
def glCells (x:Gl):List Value:=[.int .i64 x.h,.int .i64 x.xlo,.int .i64 x.xhi,.int .i64 x.ylo,.int .i64 x.yhi,.int .i64 x.gust]
theorem gl_read {w:World} {A:Option Addr} {n:Nat} {l:List Gl} (h:RdS w 6 A n (l.map glCells)) {i:Nat} (hi:i<n) :
   ∃ b o x,A=some ⟨b,o,none⟩∧b<w.heap.size∧l[i]?=some x∧w.cell? ⟨b,o+i*6,none⟩=some (.int .i64 x.h)∧w.cell? ⟨b,o+i*6+1,none⟩=some (.int .i64 x.xlo)∧w.cell? ⟨b,o+i*6+2,none⟩=some (.int .i64 x.xhi) ∧
     w.cell? ⟨b,o+i*6+3,none⟩=some (.int .i64 x.ylo)∧w.cell? ⟨b,o+i*6+4,none⟩=some (.int .i64 x.yhi)∧w.cell? ⟨b,o+i*6+5,none⟩=some (.int .i64 x.gust):=by
 obtain ⟨b,o,cs,hA,hb,hx,_,hc⟩:=h.row hi
 simp only [List.getElem?_map,Option.map_eq_some_iff] at hx
 obtain ⟨x,hx,rfl⟩:=hx
 exact ⟨b,o,x,hA,hb,hx,hc 0 _ rfl,hc 1 _ rfl,hc 2 _ rfl,hc 3 _ rfl,hc 4 _ rfl,hc 5 _ rfl⟩
def galeOk (x:Gl) (y:Option Gl):Bool:=
 decide (-500≤x.h∧x.h≤9000) && ((match y with|some y=>decide (y.h<x.h)|none=>true) && (decide (0≤x.gust∧x.gust≤500) && (decide (x.xlo≤x.xhi∧-1000≤x.xlo∧x.xhi≤1000) && decide (x.ylo≤x.yhi∧-1000≤x.ylo∧x.yhi≤1000))))
def prevG (l:List Gl):Nat→Option Gl|0=>none|j+1=>l[j]?
def galeAt (l:List Gl) (i:Nat):Bool:=match l[i]? with|some x=>galeOk x (prevG l i)|none=>true
def windB (l:List Gl):Bool:=decide (1≤(l.length:Int)∧(l.length:Int)≤16) && (List.range l.length).all (galeAt l)
theorem galeAt_eq {l:List Gl} {i:Nat} {x:Gl} (h:l[i]?=some x):galeAt l i=galeOk x (prevG l i):=by unfold galeAt;rw [h]
theorem windB_no {l:List Gl} {k n:Nat} (hl:l.length=n) (hk:k<n) (h:galeAt l k=false):windB l=false:=by
 unfold windB
 rw [all_range_no (by simpa [hl] using hk) h,Bool.and_false]
theorem windB_short {l:List Gl} {n:Nat} (hl:l.length=n) (h:decide (1≤(n:Int)∧(n:Int)≤16)=false):windB l=false:=by
 unfold windB
 rw [hl,h,Bool.false_and]
theorem windB_yes {l:List Gl} {n:Nat} (hl:l.length=n) (h1:decide (1≤(n:Int)∧(n:Int)≤16)=true) (h:∀ j,j<n→galeAt l j=true):windB l=true:=by
 unfold windB
 rw [hl,h1,all_range_yes h,Bool.and_true]
structure Wnd (l:List Gl):Prop where
 n1:1≤l.length
 n16:l.length≤16
 ok:∀ x∈l,-500≤x.h∧x.h≤9000∧0≤x.gust∧x.gust≤500∧x.xlo≤x.xhi∧-1000≤x.xlo∧x.xhi≤1000∧x.ylo≤x.yhi∧-1000≤x.ylo∧x.yhi≤1000
 rise:∀ {i:Nat} {x y:Gl},l[i]?=some x→l[i+1]?=some y→x.h<y.h
theorem windB_iff (l:List Gl):windB l=true↔Wnd l:=by
 unfold windB
 simp only [Bool.and_eq_true,List.all_eq_true,List.mem_range,decide_eq_true_eq]
 constructor
 · rintro ⟨h1,h2⟩
   refine ⟨by omega,by omega,fun x hx=>?_,fun {i x y} hx hy=>?_⟩
   · obtain ⟨i,hi,rfl⟩:=List.getElem_of_mem hx
     have h3:=h2 i hi
     rw [galeAt_eq (List.getElem?_eq_getElem hi)] at h3
     unfold galeOk at h3
     simp only [Bool.and_eq_true,decide_eq_true_eq] at h3
     omega
   · have h3:=h2 (i+1) (List.getElem?_eq_some_iff.1 hy).1
     rw [galeAt_eq hy,show prevG l (i+1)=some x from hx] at h3
     unfold galeOk at h3
     simp only [Bool.and_eq_true,decide_eq_true_eq] at h3
     omega
 · rintro ⟨h1,h2,h3,h4⟩
   refine ⟨by omega,fun i hi=>?_⟩
   have hx:l[i]?=some l[i]:=List.getElem?_eq_getElem hi
   have hb:=h3 _ (List.mem_of_getElem? hx)
   rw [galeAt_eq hx]
   cases i with
   | zero=>
     unfold galeOk prevG
     simp only [Bool.and_eq_true,decide_eq_true_eq,true_and];omega
   | succ j=>
     have hy:l[j]?=some l[j]:=List.getElem?_eq_getElem (by omega)
     have:=h4 hy hx
     rw [show prevG l (j+1)=some l[j] from hy]
     unfold galeOk
     simp only [Bool.and_eq_true,decide_eq_true_eq];omega
structure Kn where
 x:Int
 lo:Int
 hi:Int
def lineV (a b:Kn) (x:Int):Int×Int:=(a.lo+(x-a.x)*(b.lo-a.lo) / (b.x-a.x),a.hi-(x-a.x)*(a.hi-b.hi) / (b.x-a.x))
def atV:List Kn→Int→Int×Int
 | a::b::r,x=>if x≤b.x∨r=[] then lineV a b x else atV (b::r) x
 | _,_=>(0,0)
inductive Incr:List Kn→Prop
 | nil:Incr []
 | one (a:Kn):Incr [a]
 | cons {a b:Kn} {l:List Kn} (h:a.x<b.x) (k:Incr (b::l)):Incr (a::b::l)
theorem lineV_end {a b:Kn} (h:a.x<b.x):lineV a b b.x=(b.lo,b.hi):=by
 unfold lineV
 have:b.x-a.x≠0:=by omega
 rw [Int.mul_ediv_cancel_left _ this,Int.mul_ediv_cancel_left _ this]
 simp;omega
theorem lineV_start {a b:Kn}:lineV a b a.x=(a.lo,a.hi):=by
 unfold lineV
 simp
theorem Incr.at_:∀ {l:List Kn},Incr l→∀ {i j:Nat} {a b:Kn},i<j→l[i]?=some a→l[j]?=some b→a.x<b.x
 | _,.nil,i,j,a,b,_,h,_=>by simp at h
 | _,.one _,i,j,a,b,hij,_,h=>by
   have:=(List.getElem?_eq_some_iff.1 h).1
   simp at this;omega
 | _,.cons (a:=u) (b:=v) (l:=l) h k,i,j,a,b,hij,ha,hb=>by
   cases j with
   | zero=>omega
   | succ j=>
     rw [List.getElem?_cons_succ] at hb
     cases i with
     | zero=>
       obtain rfl:u=a:=by simpa using ha
       cases j with
       | zero=>
         obtain rfl:v=b:=by simpa using hb
         exact h
       | succ j=>
         have:=Incr.at_ k (i:=0) (j:=j+1) (by omega) rfl hb
         omega
     | succ i=>
       rw [List.getElem?_cons_succ] at ha
       exact Incr.at_ k (by omega) ha hb
theorem atV_seg:∀ {l:List Kn},Incr l→∀ {i:Nat} {a b:Kn} {x:Int},l[i]?=some a→l[i+1]?=some b→(i=0∨a.x≤x)→(i+2=l.length∨x≤b.x)→atV l x=lineV a b x
 | _,.nil,i,a,b,x,h,_,_,_=>by simp at h
 | _,.one _,i,a,b,x,_,h,_,_=>by
   have:=(List.getElem?_eq_some_iff.1 h).1
   simp at this
 | _,.cons (a:=u) (b:=v) (l:=l) h k,i,a,b,x,ha,hb,h0,h1=>by
   cases i with
   | zero=>
     obtain rfl:u=a:=by simpa using ha
     obtain rfl:v=b:=by simpa using hb
     have:x≤v.x∨l=[]:=by
       rcases h1 with h1|h1
       · right;simp at h1;exact h1
       · exact .inl h1
     unfold atV
     rw [if_pos this]
   | succ i=>
     rw [List.getElem?_cons_succ] at ha hb
     have hax:a.x≤x:=by rcases h0 with h0|h0;omega;exact h0
     by_cases hl:l=[]
     · subst hl
       have:=(List.getElem?_eq_some_iff.1 hb).1
       simp at this
     · by_cases hx:x≤v.x
       · have hi:i=0:=by
           cases i with
           | zero=>rfl
           | succ i=>
             have:=Incr.at_ k (i:=0) (j:=i+1) (by omega) rfl ha
             omega
         subst hi
         obtain rfl:v=a:=by simpa using ha
         have:x=v.x:=by omega
         unfold atV
         rw [if_pos (.inl hx),this,lineV_end h,lineV_start]
       · unfold atV
         rw [if_neg (by rintro (h|h);exact hx h;exact hl h)]
         exact atV_seg k ha hb (.inr hax) (by simpa using h1)
def Kn.val (k:Kn):Int×Int:=(k.lo,k.hi)
def kIn (p q:Int) (k:Kn):Bool:=decide (p<k.x) && decide (k.x<q)
def valV (t:List Kn) (p q:Int):Int×Int:=hullA (hullS (atV t p) (atV t q)) ((t.filter (kIn p q)).map Kn.val)
def SIn (b a:Int×Int):Prop:=a.1≤b.1∧b.2≤a.2
theorem SIn.refl (a:Int×Int):SIn a a:=⟨Int.le_refl _,Int.le_refl _⟩
theorem SIn.trans {a b c:Int×Int} (h:SIn a b) (k:SIn b c):SIn a c:=⟨Int.le_trans k.1 h.1,Int.le_trans h.2 k.2⟩
theorem hullS_left (a b:Int×Int):SIn a (hullS a b):=by unfold SIn hullS;simp only;omega
theorem hullS_right (a b:Int×Int):SIn b (hullS a b):=by unfold SIn hullS;simp only;omega
theorem hullS_least {a b c:Int×Int} (h:SIn a c) (k:SIn b c):SIn (hullS a b) c:=by unfold SIn hullS at *;simp only;omega
theorem hullA_mono {s:Int×Int}:∀ {l:List (Int×Int)},SIn s (hullA s l)
 | []=>SIn.refl s
 | x::l=>(hullS_left s x).trans (hullA_mono (s:=hullS s x) (l:=l))
theorem hullA_mem {s:Int×Int}:∀ {l:List (Int×Int)} {x:Int×Int},x∈l→SIn x (hullA s l)
 | y::l,x,h=>by
   rcases List.mem_cons.1 h with rfl|h
   · exact (hullS_right s x).trans (hullA_mono (s:=hullS s x) (l:=l))
   · exact hullA_mem (s:=hullS s y) (l:=l) h
theorem hullA_least {c:Int×Int}:∀ {l:List (Int×Int)} {s:Int×Int},SIn s c→(∀ x∈l,SIn x c)→SIn (hullA s l) c
 | [],s,h,_=>h
 | x::l,s,h,k=>hullA_least (l:=l) (hullS_least h (k x (List.mem_cons_self ..))) (fun y hy=>k y (List.mem_cons_of_mem _ hy))
def knCells (k:Kn):List Value:=[.int .i64 k.x,.int .i64 k.lo,.int .i64 k.hi]
structure TabOk (t:List Kn):Prop where
 l2:2≤t.length
 l32:t.length≤32
 inc:Incr t
 ok:∀ k∈t,-100000≤k.x∧k.x≤100000∧-100000≤k.lo∧k.lo≤k.hi∧k.hi≤100000
theorem TabOk.at_ {t:List Kn} (h:TabOk t) {i:Nat} {k:Kn} (hk:t[i]?=some k) : -100000≤k.x∧k.x≤100000∧-100000≤k.lo∧k.lo≤k.hi∧k.hi≤100000:=h.ok k (List.mem_of_getElem? hk)
theorem kn_read {w:World} {A:Option Addr} {n:Nat} {t:List Kn} (h:RdS w 3 A n (t.map knCells)) {i:Nat} (hi:i<n) :
   ∃ b o k,A=some ⟨b,o,none⟩∧b<w.heap.size∧t[i]?=some k∧w.cell? ⟨b,o+i*3,none⟩=some (.int .i64 k.x)∧w.cell? ⟨b,o+i*3+1,none⟩=some (.int .i64 k.lo)∧w.cell? ⟨b,o+i*3+2,none⟩=some (.int .i64 k.hi):=by
 obtain ⟨b,o,cs,hA,hb,hx,_,hc⟩:=h.row hi
 simp only [List.getElem?_map,Option.map_eq_some_iff] at hx
 obtain ⟨x,hx,rfl⟩:=hx
 exact ⟨b,o,x,hA,hb,hx,hc 0 _ rfl,hc 1 _ rfl,hc 2 _ rfl⟩
theorem mono_cut {p:Nat→Bool} (n:Nat) (hm:∀ i j,i≤j→j<n→p i=true→p j=true):∃ r,r≤n∧(∀ j,j<r→p j=false)∧∀ j,r≤j→j<n→p j=true:=by
 induction n with
 | zero=>exact ⟨0,by omega,fun j hj=>by omega,fun j _ hj=>by omega⟩
 | succ n ih=>
   obtain ⟨r,h1,h2,h3⟩:=ih (fun i j hij hj=>hm i j hij (by omega))
   by_cases hr:r<n
   · exact ⟨r,by omega,h2,fun j hj hj2=>by
       rcases Nat.lt_or_ge j n with h|h
       · exact h3 j hj h
       · exact hm r j hj hj2 (h3 r (Nat.le_refl _) hr)⟩
   · cases hp:p n with
     | true=>exact ⟨n,by omega,fun j hj=>h2 j (by omega),fun j hj hj2=>by rw [show j=n by omega];exact hp⟩
     | false=>exact ⟨n+1,by omega,fun j hj=>by
         rcases Nat.lt_or_ge j r with h|h
         · exact h2 j h
         · rw [show j=n by omega];exact hp,fun j hj hj2=>by omega⟩
theorem div_uniq {a b k:Int} (hb:0<b) (h1:k*b≤a) (h2:a<(k+1)*b):a / b=k:=
 Int.le_antisymm (Int.lt_add_one_iff.1 (Int.ediv_lt_of_lt_mul hb h2)) (Int.le_ediv_of_mul_le hb h1)
theorem down_eq {a b:Int} (hb:0<b):(a<a.tdiv b*b→a / b=a.tdiv b-1)∧(¬ a<a.tdiv b*b→a / b=a.tdiv b):=by
 rcases Int.le_total 0 a with h|h
 · have e:=Int.tdiv_eq_ediv_of_nonneg (b:=b) h
   have:=Int.ediv_mul_le a (Int.ne_of_gt hb)
   rw [e]
   exact ⟨fun h=>by omega,fun _=>rfl⟩
 · have e:a.tdiv b=-((-a) / b):=by rw [← Int.tdiv_eq_ediv_of_nonneg (by omega),Int.neg_tdiv,Int.neg_neg]
   have h1:=Int.ediv_mul_le (-a) (Int.ne_of_gt hb)
   have h2:=Int.lt_ediv_add_one_mul_self (-a) hb
   generalize hm:(-a) / b=m at *
   rw [e]
   have e2 : -m*b=-(m*b):=Int.neg_mul ..
   rw [Int.add_mul,Int.one_mul] at h2
   refine ⟨fun h=>div_uniq hb ?_ ?_,fun h=>div_uniq hb ?_ ?_⟩
   · rw [Int.sub_mul,Int.one_mul];omega
   · rw [show -m-1+1=-m by omega];omega
   · omega
   · rw [Int.add_mul,Int.one_mul];omega
theorem tdiv_abs {a b m:Int} (hb:0<b) (h : -m≤a∧a≤m) : -m≤a.tdiv b∧a.tdiv b≤m:=by
 rcases Int.le_total 0 a with h0|h0
 · rw [Int.tdiv_eq_ediv_of_nonneg h0]
   have:=Int.ediv_le_self b h0
   have:=Int.ediv_nonneg h0 (Int.le_of_lt hb)
   omega
 · have e:a.tdiv b=-((-a) / b):=by rw [← Int.tdiv_eq_ediv_of_nonneg (by omega),Int.neg_tdiv,Int.neg_neg]
   have:=Int.ediv_le_self b (show 0≤-a by omega)
   have:=Int.ediv_nonneg (show 0≤-a by omega) (Int.le_of_lt hb)
   rw [e];omega
theorem ediv_abs {a b m:Int} (hb:0<b) (h : -m≤a∧a≤m) : -m-1≤a / b∧a / b≤m:=by
 have:=tdiv_abs hb h
 have k:=down_eq (a:=a) hb
 by_cases hh:a<a.tdiv b*b
 · rw [k.1 hh];omega
 · rw [k.2 hh];omega
def accV (t:List Kn) (p q:Int) (k:Nat):Int×Int:=hullA (hullS (atV t p) (atV t q)) (((t.take k).filter (kIn p q)).map Kn.val)
theorem accV_all {t:List Kn} {p q:Int} {k:Nat} (h:t.length≤k):accV t p q k=valV t p q:=by unfold accV valV;rw [List.take_of_length_le h]
theorem accV_yes {t:List Kn} {p q:Int} {k:Nat} {x:Kn} (h:t[k]?=some x) (h1:p<x.x) (h2:x.x<q):accV t p q (k+1)=hullS (accV t p q k) x.val:=by
 unfold accV hullA
 rw [List.take_add_one,h,List.filter_append,List.map_append,List.foldl_append]
 simp [kIn,h1,h2]
theorem accV_no {t:List Kn} {p q:Int} {k:Nat} {x:Kn} (h:t[k]?=some x) (h1:¬ (p<x.x∧x.x<q)):accV t p q (k+1)=accV t p q k:=by
 unfold accV hullA
 rw [List.take_add_one,h,List.filter_append,List.map_append,List.foldl_append]
 have:kIn p q x=false:=by simp [kIn];omega
 simp [this]
def riseV (p:Int×Int) (climb:Int) (t:Int×Int):Int×Int:=
 (p.1*(1000000*t.1-341632*climb) / (1000000*t.1),(p.2*(1000000*t.2)+(1000000*t.2)+341632*climb-1) / (1000000*t.2+341632*climb))
def sinkV (p:Int×Int) (climb:Int) (t:Int×Int):Int×Int:=
 (p.1*(1000000*t.2+341632*climb) / (1000000*t.2),(p.2*(1000000*t.1)+(1000000*t.1)-341632*climb-1) / (1000000*t.1-341632*climb))
structure GapOk (climb:Int) (t:Int×Int):Prop where
 c0:0≤climb
 c1:climb≤2000
 t0:1500≤t.1
 t1:t.1≤t.2
 t2:t.2≤3500
theorem ediv_mono {a b d:Int} (hd:0<d) (h:a≤b):a / d≤b / d:=Int.ediv_le_ediv hd h
def gapT (a b:Lv):Int×Int:=hullS a.temp b.temp
def upI (a b:Lv):Int×Int:=riseV a.press (b.h-a.h) (gapT a b)
def dnI (a b:Lv):Int×Int:=sinkV b.press (b.h-a.h) (gapT a b)
inductive Tt:List Lv→List Lv→Prop
 | nil:Tt [] []
 | cons {y x:Lv} {m l:List Lv} (h:y.h=x.h∧y.tlo=x.tlo∧y.thi=x.thi∧SIn y.press x.press) (k:Tt m l):Tt (y::m) (x::l)
inductive Ch:List Lv→Prop
 | nil:Ch []
 | one {a:Lv} (h:0≤a.plo∧0≤a.phi):Ch [a]
 | cons {a b:Lv} {l:List Lv} (h:0≤a.plo∧0≤a.phi) (g:GapOk (b.h-a.h) (gapT a b)) (k:Ch (b::l)):Ch (a::b::l)
inductive Fix:List Lv→Prop
 | nil:Fix []
 | one (a:Lv):Fix [a]
 | cons {a b:Lv} {l:List Lv} (h:SIn b.press (upI a b)) (h':SIn a.press (dnI a b)) (k:Fix (b::l)):Fix (a::b::l)
inductive FixU:List Lv→Prop
 | nil:FixU []
 | one (a:Lv):FixU [a]
 | cons {a b:Lv} {l:List Lv} (h:SIn b.press (upI a b)) (k:FixU (b::l)):FixU (a::b::l)
end Go.Proofs.Ytcjkndjjbjoehaa
