/- A part of the proof: rules for walks, and contracts of functions (3). -/
import Derived.Test.YtcjkndjjbjoehaaGreatXBB
import Derived.Laws.StructEq
import Derived.Laws.MakeOwn
import Derived.Test.YtcjkndjjbjoehaaGreatXBA
set_option linter.unusedVariables false
set_option linter.unusedSimpArgs false
set_option maxRecDepth 100000
set_option maxHeartbeats 2000000
namespace Go.Proofs.YtcjkndjjbjoehaaGreat
theorem gqC0 {G A1 A2 A3 A4 A5 A6 A7 A8 A9 A10 A11 A12 A13 A14 A15 A16:Prop} (p:GoP A1 A2 A3 A4 A5 A6 A7 A8 A9 A10 A11 A12 A13 A14 A15 A16) (h:GoL A1→GoL A2→GoL A3→GoL A4→GoL A5→GoL A6→GoL A7→GoL A8→GoL A9→GoL A10→GoL A11→GoL A12→GoL A13→GoL A14→GoL A15→GoL A16→GoM→G:=by intro m1 m2 m3 m4 m5 m6 m7 m8 m9 m10 m11 m12 m13 m14 m15 m16 _;(repeat' (first|((with_reducible apply oq_id);first|((with_reducible apply oq_call (hc:=Tryz.call141));exact rfl;exact rfl;exact fun D w1 hw1=>share1_calls _ _ (by omega) (by omega) w1)|((with_reducible apply oq_call (hc:=Tryz.call153));exact rfl;exact rfl;exact fun D w1 hw1=>H1 w1)|((with_reducible apply oq_call (k:=f) (hc:=hc));exact rfl;exact rfl;exact fun D w1 hw1=>hfx w1 hw1.ext.ext)|(focus ((with_reducible apply oq_and1I);exact rfl;exact rfl;(refine ⟨?_,?_⟩<;>omega)))|((with_reducible apply oq_shr1I);exact rfl;exact rfl)|((with_reducible apply oq_shr2I);exact rfl;exact rfl)|(focus ((with_reducible apply oq_indexAddrN);(iterate 4 exact rfl);omega))|(apply oq_fn;exact rfl;first|exact trivial|(and_intros<;>omega)|omega|skip)|((with_reducible apply oq_load);exact rfl;exact rfl)|((with_reducible apply oq_loadAgg);exact rfl;exact rfl)|((with_reducible apply oq_build);(iterate 3 exact rfl)))|((with_reducible apply tl_id);first|(with_reducible apply tl_nil)|((with_reducible apply u_q);(iterate 4 exact rfl))|((with_reducible apply u_skip);(iterate 3 exact rfl))|((with_reducible apply u_splitD);exact rfl;exact rfl;all_goals first|(intro _;try (exfalso;omega))|skip)|((with_reducible apply u_s0);exact rfl;exact rfl)|((with_reducible apply u_s);(iterate 3 exact rfl)))|((with_reducible apply gx_id);first|(with_reducible apply v_nil)|((with_reducible apply v_q);(iterate 3 exact rfl)))|((with_reducible apply os_id);first|((with_reducible apply os_x);exact rfl)|((with_reducible apply os_storeAgg);(iterate 5 exact rfl)))|((with_reducible apply ai_id);first|((with_reducible apply ai_s0);(iterate 4 exact rfl)))|((with_reducible apply ox_id);first|((with_reducible apply ox_alloc);exact rfl;intro _)|((with_reducible apply ox_boxAgg);exact rfl;intro _))|((with_reducible apply rd_id);first|(apply Rd.own;(repeat first|exact P0|apply P1);exact rfl;done)|(apply Rd.old;(first|(with_reducible assumption)|exact c0|exact c1|exact c2|exact c3|exact c4|exact c5|exact c6|exact c7|exact c8|exact d0|exact d1|exact d2|exact d3|exact d4|exact d5);first|exact List.not_mem_nil|exact m0|exact m1|exact m2|exact m3|exact m4|exact m5|exact m6|exact m7|exact m8|exact m9))|((with_reducible apply t_id);first|(with_reducible apply t_seq)|(apply t_region;kernel_rfl)|((with_reducible apply t_condF);exact rfl)|((with_reducible apply t_condN);exact rfl;all_goals first|(intro _;try (exfalso;omega))|skip)|((with_reducible apply t_condT);exact rfl)|((with_reducible apply t_condD);exact rfl;all_goals first|(intro _;try (exfalso;omega))|skip)|(with_reducible apply t_ret)|(with_reducible apply t_skip)|(with_reducible apply t_exit)|(with_reducible apply t_block))|with_reducible apply q_thenN|with_reducible apply q_blockN|with_reducible apply q_thenE|((with_reducible apply q_blockE);exact rfl)|with_reducible apply q_thenR|exact P0|(with_reducible apply P1)|exact Rdn.zero|apply Rdn.succ|((with_reducible apply Norm.nil);exact rfl)|((with_reducible apply Norm.cons);exact rfl)|(apply t_mix (id:=10) [0,1,2,3,4,5,6,7,8,9,10,11,12,13,14,15] 1 #[false,false,false,false,false,false,false,false,false,false,false,false,false,false,false,false,true];kernel_rfl;kernel_rfl;exact rfl)|((with_reducible apply al_id);first|(apply al_done;decide +kernel)|(apply al_one 16;decide +kernel))|with_reducible apply q_blockR|(with_reducible apply end_ret)|exact rvs_nil|(with_reducible apply rvs_cons)|((with_reducible apply rv_tmp);exact rfl)|((with_reducible apply rv_cellAgg);exact rfl;exact rfl)|exact Nat.le_of_ble_eq_true rfl));(try focus (repeat (rename_i x;first|exact goD x m1.p|revert x)));(try focus (repeat (rename_i x;first|exact goD x m2.p|revert x)));(try focus (repeat (rename_i x;first|exact goD x m3.p|revert x)));(try focus (repeat (rename_i x;first|exact goD x m4.p|revert x)));(try focus (repeat (rename_i x;first|exact goD x m5.p|revert x)));(try focus (repeat (rename_i x;first|exact goD x m6.p|revert x)));(try focus (repeat (rename_i x;first|exact goD x m7.p|revert x)));(try focus (repeat (rename_i x;first|exact goD x m8.p|revert x)));(try focus (repeat (rename_i x;first|exact goD x m9.p|revert x)));(try focus (repeat (rename_i x;first|exact goD x m10.p|revert x)));(try focus (repeat (rename_i x;first|exact goD x m11.p|revert x)));(try focus (repeat (rename_i x;first|exact goD x m12.p|revert x)));(try focus (repeat (rename_i x;first|exact goD x m13.p|revert x)));(try focus (repeat (rename_i x;first|exact goD x m14.p|revert x)));(try focus (repeat (rename_i x;first|exact goD x m15.p|revert x)));(try focus (repeat (rename_i x;first|exact goD x m16.p|revert x)))) (e:GoTs A1 A2 A3 A4 A5 A6 A7 A8 A9 A10 A11 A12 A13 A14 A15 A16:=by constructor<;>first|(with_reducible exact GoT.t)|exact GoT.u):G:=p.run h
open Go.RowKit
attribute [local irreducible] OQ OS OX Rd T TL GX GL AL AI RV wpG SAny Calls
theorem mul64_calls (x y:Int) (h0:0≤x) (h1:x<4294967296) (h2:0≤y) (h3:y<4294967296) (w:World):Calls Tryz.prog 160 #[.int .u64 x,.int .u64 y] w fun e w'=>e=.returned (.tuple #[.int .u64 0,.int .u64 (x*y)])∧Ext w w':=by
 have hp:0≤x*y∧x*y≤4294967295*4294967295:=⟨Int.mul_nonneg h0 h2,Int.mul_le_mul (by omega) (by omega) h2 (by omega)⟩
 have hxy:InU (x*y):=⟨by omega,by omega⟩
 refine enterQ (c:=cx w 51) Tryz.func160 rfl rfl rfl rfl ?_
 ((all_goals refine goE0e ?_);(all_goals constructor);(any_goals exact trivial);all_goals intros)
 all_goals rfl
theorem size_calls (n:Int) (h0 : -9223372036854775807≤n) (h1:n≤9223372036854775807) (w:World):Calls Tryz.prog 161 #[.int .i64 n] w fun e w'=>e=.returned (.int .u64 (max n (-n)))∧Ext w w':=by
 refine enterQ (c:=cx w 8) Tryz.func161 rfl rfl rfl rfl ?_
 ((all_goals refine goE0e ?_);(all_goals constructor);(any_goals exact trivial);all_goals intros)
 all_goals rfl
theorem div64_calls (m y:Int) (h0:0≤m) (h1:m<18446744073709551616) (h2:0<y) (w:World):Calls Tryz.prog 162 #[.int .u64 0,.int .u64 m,.int .u64 y] w fun e w'=>e=.returned (.tuple #[.int .u64 (m.tdiv y),.int .u64 (m.tmod y)])∧Ext w w':=by
 have hq:InU (m.tdiv y):=by
   rw [Int.tdiv_eq_ediv_of_nonneg h0]
   have:=Int.ediv_le_self y h0
   have:=Int.ediv_nonneg h0 (Int.le_of_lt h2)
   exact ⟨by omega,by omega⟩
 refine enterQ (c:=cx w 135) Tryz.func162 rfl rfl rfl rfl ?_
 ((all_goals refine goE0e ?_);(all_goals constructor);(any_goals exact trivial);all_goals intros)
 all_goals rfl
theorem oq_neqB {w:World} {N:Nat} {F:Fr} {H:Hp} {M:List Nat} {d:Option Tmp} {ty t':TypeId} {pos:String} {af:Array Edge} {g:Option (Nat×Bool)} {x y:Operand} {a b:Bool}
   (hx:ev F x=some (.bool a)) (hy:ev F y=some (.bool b)):OQ (cxM M w N) ⟨d,.binOp .neq 4 x y t',ty,pos,af,g⟩ F H (.bool (!(a == b))):=.of fun D act w ha _=>by
 have u4:=Tryz.underlying4
 have e:∀ w,(binOp .neq 4 (.bool a) (.bool b)).run Tryz.prog w=.ok (.bool (!(a == b))) w:=fun w=>by
   have e0:(Op.equalIn 10000 4 (.bool a) (.bool b)).run Tryz.prog w=.ok (a == b) w:=run_equalIn_bool' (P:=Tryz.prog) w 9999 4 a b u4
   simp only [binOp,Op.equal,Op.maxDepth,Sem.run_bind,e0,Result.andThen,Sem.run_pure]
 have e1:∀ w,(eqGuard .neq 4 x y (.bool a) (.bool b)).run Tryz.prog w=.ok () w:=fun w=>by simp [eqGuard,go_sem]
 simp only [execOp,ha.ev hx,ha.ev hy,Sem.run_bind,e,e1,Result.andThen,Sem.run_pure]
theorem share1_calls (x y:Int) (hx : -1000000≤x∧x≤1000000) (hy : -1000000≤y∧y≤1000000) (w:World):Calls Tryz.prog 141 #[.int .i64 x,.int .i64 y,.int .i64 1] w fun e w'=>e=.returned (.agg #[.int .i64 (x*y),.int .i64 (x*y)])∧Ext w w':=by
 have hp:0≤max x (-x)*max y (-y)∧max x (-x)*max y (-y)≤1000000*1000000:=⟨Int.mul_nonneg (by omega) (by omega),Int.mul_le_mul (by omega) (by omega) (by omega) (by omega)⟩
 have D1:=fun w1=>div64_calls (max x (-x)*max y (-y)) 1 (by omega) (by omega) (by omega) w1
 rw [Int.tdiv_one,Int.tmod_one] at D1
 refine enterQ (c:=cx w 64) Tryz.func141 rfl rfl rfl rfl ?_
 ((all_goals refine goE0e ?_);(all_goals constructor);(any_goals exact trivial);all_goals intros)
 · have hs:max x (-x)*max y (-y)=-(x*y):=by
     rcases Int.lt_or_le x 0 with h|h<;>rcases Int.lt_or_le y 0 with h'|h'
     · simp [h,h'] at *
     · rw [Int.max_eq_right (by omega),Int.max_eq_left (by omega),Int.neg_mul]
     · rw [Int.max_eq_left (by omega),Int.max_eq_right (by omega),Int.mul_neg]
     · have h1:¬ x<0:=by omega
       have h2:¬ y<0:=by omega
       simp [h1,h2] at *
   rw [hs,Int.neg_neg];rfl
 · have hs:max x (-x)*max y (-y)=x*y:=by
     rcases Int.lt_or_le x 0 with h|h<;>rcases Int.lt_or_le y 0 with h'|h'
     · rw [Int.max_eq_right (by omega),Int.max_eq_right (by omega),Int.neg_mul_neg]
     · have h2:¬ y<0:=by omega
       simp [h,h2] at *
     · have h1:¬ x<0:=by omega
       simp [h1,h'] at *
     · rw [Int.max_eq_left (by omega),Int.max_eq_left (by omega)]
   rw [hs];rfl
end Go.Proofs.YtcjkndjjbjoehaaGreat
namespace Go.Proofs.YtcjkndjjbjoehaaGreat
open Go.RowKit
section
variable {c:Cx} {F:Fr} {H:Hp} {d:Option Tmp} {ty t:TypeId} {pos:String} {af:Array Edge} {g:Option (Nat×Bool)} {x y:Operand}
theorem oq_sliceL {a0 a1:Bool} {s0 s1 e b o len cap l:Nat} {z0 z1:List Value} {k1:TyK} {k:IntKind} {li:Int} (ht:tyAt c.tys t=some ⟨a0,s0,z0,.slice e⟩) (he:tyAt c.tys e=some ⟨a1,s1,z1,k1⟩)
   (hx:ev F x=some (.slice (some ⟨b,o,none⟩) len cap)) (hy:ev F y=some (.int k li)) (hl:li=l) (h1:l≤len) (h2:cap≠l) :
   OQ c ⟨d,.slice t x (some y) none none,ty,pos,af,g⟩ F H (.slice (some ⟨b,o+l*s1,none⟩) (len-l) (cap-l)):=.of fun D a w ha _=>by
 subst hl
 have hk:=(c.ty ht).kind w
 have hs:=(c.ty he).size w
 simp only [execOp,Option.map,ha.ev hx,ha.ev hy]
 simp [Instr.sliceAt,Instr.slice,Instr.sliceBounds,Instr.sliceBound,asIntOf,Sem.run_bind,hk,hs,h1,h2,Result.andThen,go_sem,add_eq]
theorem oq_sliceArr {a0 a1:Bool} {s0 s1 n e b o:Nat} {z0 z1:List Value} {k1:TyK} (ht:tyAt c.tys t=some ⟨a0,s0,z0,.array n e⟩) (he:tyAt c.tys e=some ⟨a1,s1,z1,k1⟩)
   (hx:ev F x=some (.pointer (some ⟨b,o,none⟩))) :
   OQ c ⟨d,.slice t x none none none,ty,pos,af,g⟩ F H (.slice (some ⟨b,o,none⟩) n n):=.of fun D a w ha _=>by
 have hk:=(c.ty ht).kind w
 have hs:=(c.ty he).size w
 simp only [execOp,Option.map,ha.ev hx]
 simp [Instr.sliceAt,Instr.sureAddr,Instr.sliceBounds,Instr.sliceBound,asIntOf,Sem.run_bind,hk,hs,Result.andThen,go_sem,add_eq]
end
end Go.Proofs.YtcjkndjjbjoehaaGreat
namespace Go.Proofs.YtcjkndjjbjoehaaGreat
open Go.RowKit
attribute [local irreducible] OQ OS OX Rd T TL GX GL AL AI RV wpG SAny Calls
theorem sized_calls (a b:Int) (ha : -1099511627776≤a) (hb:b≤1099511627776) (w:World):Calls Tryz.prog 142 #[.agg #[.int .i64 a,.int .i64 b]] w fun e w'=>e=.returned (.tuple #[.agg #[.int .i64 a,.int .i64 b],.int .i64 0])∧Ext w w':=by
 refine enterQ (c:=cx w 14) Tryz.func142 rfl rfl rfl rfl ?_
 ((all_goals refine goE0e ?_);(all_goals constructor);(any_goals exact trivial);all_goals intros)
 all_goals rfl
theorem add_calls (a b c d:Int) (h : -1000000000≤a∧a≤b∧b≤1000000000) (k : -1000000000≤c∧c≤d∧d≤1000000000) (w:World):Calls Tryz.prog 155 #[.agg #[.int .i64 a,.int .i64 b],.agg #[.int .i64 c,.int .i64 d]] w fun e w'=>e=.returned (.tuple #[.agg #[.int .i64 (a+c),.int .i64 (b+d)],.int .i64 0])∧Ext w w':=by
 have hq:(fineS (a,b) && fineS (c,d))=true:=by rw [Bool.and_eq_true,fineS_iff,fineS_iff];simp only;omega
 refine enterQ (c:=cx w 26) Tryz.func155 rfl rfl rfl rfl ?_
 ((all_goals refine goE0e ?_);(all_goals constructor);(any_goals exact trivial);all_goals intros)
 all_goals rfl
def hullS (a b:Int×Int):Int×Int:=(min a.1 b.1,max a.2 b.2)
def hullA (s:Int×Int) (l:List (Int×Int)):Int×Int:=l.foldl hullS s
theorem hullA_take (s:Int×Int) (l:List (Int×Int)) (k:Nat) (x:Int×Int) (h:l[k]?=some x):hullA s (l.take (k+1))=hullS (hullA s (l.take k)) x:=by
 unfold hullA
 rw [List.take_add_one,h,List.foldl_append]
 rfl
theorem hullA_one {s:Int×Int} {l:List (Int×Int)} (h:l[0]?=some s):hullA s (l.take (0+1))=s:=by
 rw [hullA_take s l 0 s h]
 simp [hullA,hullS]
theorem around_calls (A:Option Addr) (n cp:Nat) (s:Int×Int) (l:List (Int×Int)) (w:World) (hr:RdS w 2 A n (l.map spanCells)) (hn:n≤1000000) (h0:l[0]?=some s) (hcp:1<cp) (hn1:1≤n) :
   Calls Tryz.prog 143 #[.slice A n cp] w fun e w'=>e=.returned (.agg #[.int .i64 (hullA s l).1,.int .i64 (hullA s l).2])∧Ext w w':=by
 have hl:=hr.len
 simp only [List.length_map] at hl
 obtain ⟨b0,o,x,rfl,hb,hkx,c0,c1⟩:=span_read hr (show 0<n by omega)
 obtain rfl:s=x:=by rw [hkx] at h0;exact (Option.some.inj h0).symm
 refine enterQ (c:=cx w 30) Tryz.func143 rfl rfl rfl rfl ?_
 ((all_goals refine goE0e ?_);(all_goals constructor);(any_goals exact trivial);all_goals intros)
 rename_i b2 b3
 apply t_loopK (ι:=Nat) [2,3,10,11,29] (fun k=>[(12,.int .i64 (k:Nat))]) (fun k=>[(b3,[.int .i64 (hullA s (l.take (k+1))).1,.int .i64 (hullA s (l.take (k+1))).2],some (27,2,1))]) (fun k=>k≤n-1) (fun k=>n-1-k) (0)
 (repeat (first|exact KeepF.nil|(apply KeepF.cons;exact rfl)|apply KeepF.skip))
 (repeat first|exact FrSub.nil|(apply FrSub.cons;exact rfl))
 (repeat (first|exact HpSub.refl _|(apply HpSub.consE;(repeat first|exact P0|apply P1);first|exact rfl|((rw [hullA_one h0])))|exact HpSub.nil))
 · omega
 intro k hk
 try simp only [List.cons_append,List.nil_append]
 clear c0 c1
 by_cases hlt:k<n-1
 · obtain ⟨b1,o1,x,hA,_,hkx2,c0,c1⟩:=span_read hr (show k+1<n by omega)
   obtain ⟨rfl,rfl⟩:b1=b0∧o1=o:=by simpa using hA.symm
   rw [show o1+(k+1)*2=o1+1*2+k*2 by omega] at c0 c1
   ((all_goals refine goE0e ?_);(all_goals constructor);(any_goals exact trivial);all_goals intros)
   all_goals
     refine ⟨k+1,by omega,by omega,?_,?_⟩
     · try simp only [List.cons_append,List.nil_append]
       (repeat first|exact FrSub.nil|(apply FrSub.cons;exact rfl))
     · try simp only [List.cons_append,List.nil_append]
       (repeat (first|exact HpSub.refl _|(apply HpSub.consE;(repeat first|exact P0|apply P1);first|exact rfl|(rw [hullA_take _ _ _ _ hkx2];rfl))|exact HpSub.nil))
 · have hkn:l.take (k+1)=l:=List.take_of_length_le (by omega)
   ((all_goals refine goE0e ?_);(all_goals constructor);(any_goals exact trivial);all_goals intros)
   rw [hkn]
   rfl
def ShP (n q k:Int):Prop:=(0≤n∧(k≤0∨k*k*q≤n*n))∨(n<0∧k<0∧n*n≤k*k*q)
theorem sq_mono {j k:Int} (h0:0≤j) (h:j≤k):j*j≤k*k:=Int.mul_le_mul h h h0 (by omega)
theorem sq_neg (k:Int):k*k=(-k)*(-k):=by rw [Int.neg_mul_neg]
theorem ShP.mono {n q j k:Int} (hq:0<q) (h:ShP n q k) (hj:j≤k):ShP n q j:=by
 rcases h with ⟨h0,h1⟩|⟨h0,h1,h2⟩
 · refine .inl ⟨h0,?_⟩
   by_cases hj0:j≤0
   · exact .inl hj0
   · rcases h1 with h1|h1
     · omega
     · exact .inr (Int.le_trans (Int.mul_le_mul_of_nonneg_right (sq_mono (by omega) hj) (by omega)) h1)
 · refine .inr ⟨h0,by omega,Int.le_trans h2 (Int.mul_le_mul_of_nonneg_right ?_ (by omega))⟩
   rw [sq_neg j,sq_neg k]
   exact sq_mono (by omega) (by omega)
def IsSh (n q r:Int):Prop:=ShP n q r∧¬ ShP n q (r+1)
theorem IsSh.uniq {n q r s:Int} (hq:0<q) (h:IsSh n q r) (k:IsSh n q s):r=s:=by
 rcases Int.lt_trichotomy r s with h1|h1|h1
 · exact absurd (k.1.mono hq (by omega)) h.2
 · exact h1
 · exact absurd (h.1.mono hq (by omega)) k.2
noncomputable def shV (n q:Int):Int:=open Classical in if h:∃ r,IsSh n q r then Classical.choose h else 0
theorem IsSh.val {n q r:Int} (hq:0<q) (h:IsSh n q r):shV n q=r:=by
 have hx:∃ r,IsSh n q r:=⟨r,h⟩
 unfold shV
 rw [dif_pos hx]
 exact (Classical.choose_spec hx).uniq hq h
theorem part_facts {n q k:Int} (hq:0<q) (h:IsR ((n*n).tdiv q) k):k*k*q≤n*n∧n*n<(k+1)*(k+1)*q:=by
 have hn:0≤n*n:=by
   rcases Int.le_total 0 n with h|h
   · exact Int.mul_nonneg h h
   · rw [sq_neg];exact Int.mul_nonneg (by omega) (by omega)
 rw [Int.tdiv_eq_ediv_of_nonneg hn] at h
 have h1:=Int.ediv_mul_le (n*n) (Int.ne_of_gt hq)
 have h2:=Int.lt_ediv_add_one_mul_self (n*n) hq
 refine ⟨Int.le_trans (Int.mul_le_mul_of_nonneg_right h.2.1 (by omega)) h1,Int.lt_of_lt_of_le h2 (Int.mul_le_mul_of_nonneg_right ?_ (by omega))⟩
 have:=h.2.2
 omega
theorem isSh_pos {n q k:Int} (hn:0≤n) (h0:0≤k) (h1:k*k*q≤n*n) (h2:n*n<(k+1)*(k+1)*q):IsSh n q k:=by
 refine ⟨.inl ⟨hn,.inr h1⟩,?_⟩
 rintro (⟨_,h|h⟩|⟨h,_⟩)<;>omega
theorem isSh_neg1 {n q k:Int} (hn:n<0) (h0:0≤k) (h1:k*k*q<n*n) (h2:n*n<(k+1)*(k+1)*q):IsSh n q (-(k+1)):=by
 refine ⟨.inr ⟨hn,by omega,?_⟩,?_⟩
 · rw [← sq_neg];omega
 · rintro (⟨h,_⟩|⟨_,h,h3⟩)
   · omega
   · rw [show -(k+1)+1=-k by omega,← sq_neg] at h3
     omega
theorem isSh_neg0 {n q k:Int} (hq:0<q) (hn:n<0) (h0:0≤k) (h1:¬ k*k*q<n*n) (h2:k*k*q≤n*n):IsSh n q (-k):=by
 have hnn:0<n*n:=by rw [sq_neg];exact Int.mul_pos (by omega) (by omega)
 have hk:0<k:=by
   rcases Int.lt_or_le 0 k with h|h
   · exact h
   · obtain rfl:k=0:=by omega
     simp at h1;omega
 refine ⟨.inr ⟨hn,by omega,?_⟩,?_⟩
 · rw [← sq_neg];omega
 · rintro (⟨h,_⟩|⟨_,h,h3⟩)
   · omega
   · rw [show -k+1=-(k-1) by omega,← sq_neg] at h3
     have h4:(k-1)*(k-1)<k*k:=by
       rw [Int.sub_mul,Int.mul_sub];omega
     have:=Int.mul_lt_mul_of_pos_right h4 hq
     omega
theorem mul_abs {x y a b:Int} (hx : -a≤x∧x≤a) (hy : -b≤y∧y≤b) : -(a*b)≤x*y∧x*y≤a*b:=by
 have key:∀ {x y:Int},0≤x→x≤a→-b≤y∧y≤b→-(a*b)≤x*y∧x*y≤a*b:=fun {x y} h0 h1 hy=>by
   have e:∀ {z:Int},0≤z→z≤b→0≤x*z∧x*z≤a*b:=fun hz hb=>⟨Int.mul_nonneg h0 hz,Int.mul_le_mul h1 hb hz (by omega)⟩
   rcases Int.le_total 0 y with h|h
   · have:=e h hy.2;omega
   · have:=e (z:=-y) (by omega) (by omega)
     rw [Int.mul_neg] at this;omega
 rcases Int.le_total 0 x with h|h
 · exact key h hx.2 hy
 · have:=key (x:=-x) (by omega) (by omega) hy
   rw [Int.neg_mul] at this;omega
theorem share_calls (n q:Int) (hq:1≤q) (hq1:q≤200000000) (h8:n*n≤8000000*q) (w:World):Calls Tryz.prog 156 #[.int .i64 n,.int .i64 q] w fun e w'=>e=.returned (.int .i64 (shV n q))∧Ext w w':=by
  have hnn:InR (n*n):=by
    have:0≤n*n:=by
      rcases Int.le_total 0 n with h|h
      · exact Int.mul_nonneg h h
      · rw [sq_neg];exact Int.mul_nonneg (by omega) (by omega)
    exact ⟨by omega,by omega⟩
  refine enterQ (c:=cx w 55) Tryz.func156 rfl rfl rfl rfl ?_
  ((all_goals refine goE0e ?_);(all_goals constructor);(any_goals exact trivial);all_goals intros)
  apply t_loopK (ι:=(Int×Int)) [0,1,4,54] (fun (i:Int×Int)=>[(5,.int .i64 i.1),(6,.int .i64 i.2)]) (fun _=>[]) (fun i=>-4000≤i.1∧i.1<i.2∧i.2≤4000∧ShP n q i.1∧¬ ShP n q i.2) (fun i=>(i.2-i.1).toNat) ((-4000,4000))
  (repeat (first|exact KeepF.nil|(apply KeepF.cons;exact rfl)|apply KeepF.skip))
  (repeat first|exact FrSub.nil|(apply FrSub.cons;exact rfl))
  (repeat (first|exact HpSub.refl _|(apply HpSub.consE;(repeat first|exact P0|apply P1);exact rfl)|exact HpSub.nil))
  · simp only;unfold ShP;omega
  rintro ⟨a,b⟩ ⟨i0,i1,i2,i3,i4⟩
  simp only at i0 i1 i2 i3 i4
  obtain ⟨m,hm⟩:∃ m,m=(a+b).tdiv 2:=⟨_,rfl⟩
  have hm0:a≤m∧m≤b∧(1<b-a→a<m∧m<b):=by
    rcases Int.le_total 0 (a+b) with h|h
    · rw [Int.tdiv_eq_ediv_of_nonneg h] at hm;omega
    · have:(a+b).tdiv 2=-((-(a+b)).tdiv 2):=by rw [Int.neg_tdiv,Int.neg_neg]
      rw [this,Int.tdiv_eq_ediv_of_nonneg (by omega)] at hm;omega
  have h1:=mul_abs (x:=m) (y:=m) (a:=4000) (b:=4000) (by omega) (by omega)
  have h2:=mul_abs (x:=m*m) (y:=q) (a:=16000000) (b:=200000000) (by omega) (by omega)
  have r1:InR (m*m):=⟨by omega,by omega⟩
  have r2:InR (m*m*q):=⟨by omega,by omega⟩
  rw [hm] at r1 r2
  have r3:InR ((a+b).tdiv 2):=by rw [← hm];exact ⟨by omega,by omega⟩
  dsimp only
  ((all_goals refine gqC0 ?_);(all_goals constructor);(any_goals exact trivial);all_goals intros)
  all_goals try rw [← hm] at *
  all_goals first
    | (refine ⟨(m,b),⟨by simp only;omega,by simp only;omega,i2,by simp only;unfold ShP;omega,i4⟩,by simp only;omega,?_,?_⟩<;>(repeat' (first|exact FrSub.nil|(apply FrSub.cons;exact rfl)|exact HpSub.refl _)))
    | (refine ⟨(a,m),⟨i0,by simp only;omega,by simp only;omega,i3,by simp only;unfold ShP;omega⟩,by simp only;omega,?_,?_⟩<;>(repeat' (first|exact FrSub.nil|(apply FrSub.cons;exact rfl)|exact HpSub.refl _)))
    | (obtain rfl:b=a+1:=by omega
       rw [IsSh.val (by omega) ⟨i3,i4⟩];rfl)
end Go.Proofs.YtcjkndjjbjoehaaGreat
namespace Go.Proofs.YtcjkndjjbjoehaaGreat
open Go.RowKit
section
variable {c:Cx} {F:Fr} {H:Hp} {d:Option Tmp} {ty t t':TypeId} {pos:String} {af:Array Edge} {g:Option (Nat×Bool)} {x y:Operand} {m n:Int}
theorem oq_shr1U {k':IntKind} (hx:ev F x=some (.int .u64 m)) (hy:ev F y=some (.int k' 1)) (_:0≤m):OQ c ⟨d,.binOp .shr t x y t',ty,pos,af,g⟩ F H (.int .u64 (m / 2)):=by
 have:=oq_shr (c:=c) (d:=d) (ty:=ty) (t:=t) (t':=t') (pos:=pos) (af:=af) (g:=g) (H:=H) hx hy (by omega)
 rw [show (2:Int) ^ (min (1:Int).toNat IntKind.u64.bits)=2 from rfl,Int.fdiv_eq_ediv_of_nonneg _ (by omega)] at this
 exact this
theorem oq_shr1I {k':IntKind} (hx:ev F x=some (.int .i64 m)) (hy:ev F y=some (.int k' 1)):OQ c ⟨d,.binOp .shr t x y t',ty,pos,af,g⟩ F H (.int .i64 (m / 2)):=by
 have:=oq_shr (c:=c) (d:=d) (ty:=ty) (t:=t) (t':=t') (pos:=pos) (af:=af) (g:=g) (H:=H) hx hy (by omega)
 rw [show (2:Int) ^ (min (1:Int).toNat IntKind.i64.bits)=2 from rfl,Int.fdiv_eq_ediv_of_nonneg _ (by omega)] at this
 exact this
theorem oq_shr2I {k':IntKind} (hx:ev F x=some (.int .i64 m)) (hy:ev F y=some (.int k' 2)):OQ c ⟨d,.binOp .shr t x y t',ty,pos,af,g⟩ F H (.int .i64 (m / 4)):=by
 have:=oq_shr (c:=c) (d:=d) (ty:=ty) (t:=t) (t':=t') (pos:=pos) (af:=af) (g:=g) (H:=H) hx hy (by omega)
 rw [show (2:Int) ^ (min (2:Int).toNat IntKind.i64.bits)=4 from rfl,Int.fdiv_eq_ediv_of_nonneg _ (by omega)] at this
 exact this
theorem oq_and1I (hx:ev F x=some (.int .i64 m)) (hy:ev F y=some (.int .i64 1)) (h:0≤m∧m≤9223372036854775807):OQ c ⟨d,.binOp .and t x y t',ty,pos,af,g⟩ F H (.int .i64 (m % 2)):=.of fun D a w ha _=>by
 have hm:=and_mask (a:=m) (j:=1) ⟨h.1,by omega⟩ (by omega)
 rw [show ((2:Int) ^ 1-1)=1 from rfl,show ((2:Int) ^ 1)=2 from rfl] at hm
 have hw:IntKind.i64.wrap (((BitVec.ofInt IntKind.i64.bits m &&& BitVec.ofInt IntKind.i64.bits 1).toNat:Nat):Int)=m % 2:=by
   rw [show (BitVec.ofInt IntKind.i64.bits m &&& BitVec.ofInt IntKind.i64.bits 1).toNat=(m % 2).toNat from hm,Int.toNat_of_nonneg (by omega)]
   exact wrap_in ⟨by omega,by omega⟩
 simp only [execOp,ha.ev hx,ha.ev hy,eqGuard,binOp,Op.intBits]
 rw [hw]
 simp [go_sem]
end
def cutQ {ι:Type} (ch:ι→Fr) (hc:ι→Hp) (G:Fr) (GH:Hp):QS:=fun e F' H'=>e=.normal∧∃ i,FrSub F' (ch i++G)∧HpSub H' (hc i++GH)
section
variable {c:Cx} {S:WS c.P} {Q:QS} {F:Fr} {H:Hp}
theorem t_cutK {ι:Type} (rid:Nat) {ops:Array Oper} {dr:Bool} {y:Code} (keep:List Nat) (ch:ι→Fr) (hc:ι→Hp) {G:Fr} (hK:KeepF F keep G)
   (h1:T c S (.region rid ops dr) (cutQ ch hc G H) F H) (h2:∀ i,T c S y Q (ch i++G) (hc i++H)):T c S (.seq (.region rid ops dr) y) Q F H:=
 t_cut (fun i=>ch i++G) (fun i=>hc i++H) (fun _=>True) (fun D a w ha hw=>S.mono (h1 D a w ha hw) fun e a' w' ⟨D',F',H',⟨he,i,hF,hH⟩,h4,h5⟩=>⟨D',F',H',⟨he,i,trivial,hF,hH⟩,h4,h5⟩) (fun i _=>h2 i)
theorem cut_in0 {ch:Unit→Fr} {hc:Unit→Hp} {G F':Fr} {GH H':Hp} (h:FrSub F' (ch ()++G)) (k:HpSub H' (hc ()++GH)):cutQ ch hc G GH .normal F' H':=⟨rfl,(),h,k⟩
theorem cut_in1 {ch:Nat→Fr} {hc:Nat→Hp} {G F':Fr} {GH H':Hp} (i:Nat) (h:FrSub F' (ch i++G)) (k:HpSub H' (hc i++GH)):cutQ ch hc G GH .normal F' H':=⟨rfl,i,h,k⟩
theorem cut_in2 {ch:Nat×Nat→Fr} {hc:Nat×Nat→Hp} {G F':Fr} {GH H':Hp} (i j:Nat) (h:FrSub F' (ch (i,j)++G)) (k:HpSub H' (hc (i,j)++GH)):cutQ ch hc G GH .normal F' H':=⟨rfl,(i,j),h,k⟩
theorem cut_in3 {ch:Nat×Nat×Nat→Fr} {hc:Nat×Nat×Nat→Hp} {G F':Fr} {GH H':Hp} (i j l:Nat) (h:FrSub F' (ch (i,j,l)++G)) (k:HpSub H' (hc (i,j,l)++GH)):cutQ ch hc G GH .normal F' H':=⟨rfl,(i,j,l),h,k⟩
end
end Go.Proofs.YtcjkndjjbjoehaaGreat
namespace Go.Proofs.YtcjkndjjbjoehaaGreat
open Go.RowKit
attribute [local irreducible] OQ OS OX Rd T TL GX GL AL AI RV wpG SAny Calls
def prI (a b c d:Int) (k:Nat):Int:=(if k % 2=1 then b else a)*(if k / 2 % 2=1 then d else c)
def prK (a b c d:Int) (k:Nat):List (Int×Int):=(List.range 8).map fun i=>if i<k then (prI a b c d i,prI a b c d i) else (0,0)
theorem fine3 {w0:World} {M:Ms} {H H':Hp} {w:World} {g:Nat} {a b a' b' a'' b'':Int} {tg:Tg} {cp:Nat} {q:Bool} (hq:(fineS (a,b) && (fineS (a',b') && fineS (a'',b'')))=q) (h:Has w0 M H w) (p:Pick H g [.int .i64 a,.int .i64 b,.int .i64 a',.int .i64 b',.int .i64 a'',.int .i64 b''] tg H') :
   Calls Tryz.prog 122 #[.slice (some ⟨g,0,none⟩) 3 cp] w fun e w'=>e=.returned (.bool q)∧Ext w w':=by
 have:=fine_calls (some ⟨g,0,none⟩) 3 cp [(a,b),(a',b'),(a'',b'')] w (Blk.rows (k:=2) (rows:=[(a,b),(a',b'),(a'',b'')].map spanCells) (h.blk _ p.mem).2 rfl (by simp [spanCells])) (by omega)
 simp only [List.all_cons,List.all_nil,Bool.and_true,hq] at this
 exact this
theorem over1_calls (a b c d:Int) (h : -1000000≤a∧a≤b∧b≤1000000) (k0 : -1000000≤c∧c≤d∧d≤1000000) (w:World) :
   Calls Tryz.prog 119 #[.agg #[.int .i64 a,.int .i64 b],.agg #[.int .i64 c,.int .i64 d],.agg #[.int .i64 1,.int .i64 1]] w fun e w'=>e=.returned (.tuple #[.agg #[.int .i64 (min (min (a*c) (b*c)) (min (a*d) (b*d))),.int .i64 (max (max (a*c) (b*c)) (max (a*d) (b*d)))],.int .i64 0])∧Ext w w':=by
 have hq:(fineS (a,b) && (fineS (c,d) && fineS (1,1)))=true:=by rw [Bool.and_eq_true,Bool.and_eq_true,fineS_iff,fineS_iff,fineS_iff];simp only;omega
 have m1:=mul_abs (x:=a) (y:=c) (a:=1000000) (b:=1000000) (by omega) (by omega)
 have m2:=mul_abs (x:=b) (y:=c) (a:=1000000) (b:=1000000) (by omega) (by omega)
 have m3:=mul_abs (x:=a) (y:=d) (a:=1000000) (b:=1000000) (by omega) (by omega)
 have m4:=mul_abs (x:=b) (y:=d) (a:=1000000) (b:=1000000) (by omega) (by omega)
 have HA:∀ {w0:World} {M:Ms} {H H':Hp} {g:Nat} {tg:Tg} (w1:World),Has w0 M H w1→Pick H g ((prK a b c d 8).map spanCells).flatten tg H'→Calls Tryz.prog 143 #[.slice (some ⟨g,0,none⟩) 8 8] w1 fun e w'=>
     e=.returned (.agg #[.int .i64 (min (min (a*c) (b*c)) (min (a*d) (b*d))),.int .i64 (max (max (a*c) (b*c)) (max (a*d) (b*d)))])∧Ext w1 w':=fun w1 hw p=>by
   have:=around_calls (some ⟨_,0,none⟩) 8 8 (a*c,a*c) (prK a b c d 8) w1 (Blk.rows (hw.blk _ p.mem).2 (by simp [prK]) (by simp only [List.mem_map];rintro r ⟨x,_,rfl⟩;rfl)) (by omega) rfl (by omega) (by omega)
   have e:hullA (a*c,a*c) (prK a b c d 8)=(min (min (a*c) (b*c)) (min (a*d) (b*d)),max (max (a*c) (b*c)) (max (a*d) (b*d))):=by
     have:prK a b c d 8=[(a*c,a*c),(b*c,b*c),(a*d,a*d),(b*d,b*d),(a*c,a*c),(b*c,b*c),(a*d,a*d),(b*d,b*d)]:=rfl
     rw [this]
     simp only [hullA,List.foldl_cons,List.foldl_nil,hullS]
     generalize a*c=x1
     generalize b*c=x2
     generalize a*d=x3
     generalize b*d=x4
     congr 1<;>omega
   rw [e] at this
   exact this
 refine enterQ (c:=cx w 66) Tryz.func119 rfl rfl rfl rfl ?_
 ((all_goals refine goE0e ?_);(all_goals constructor);(any_goals exact trivial);all_goals intros)
 rename_i b3 b4 b5 b6 b7 b8
 apply t_loopK (ι:=Nat) [3,4,5,6,7,8,61,62,63,64,65] (fun k=>[(26,.int .i64 (k:Nat))]) (fun k=>[(b8,((prK a b c d k).map spanCells).flatten,some (236,16,1))]) (fun k=>k≤8) (fun k=>8-k) (0)
 (repeat (first|exact KeepF.nil|(apply KeepF.cons;exact rfl)|apply KeepF.skip))
 (repeat first|exact FrSub.nil|(apply FrSub.cons;exact rfl))
 (repeat (first|exact HpSub.refl _|(apply HpSub.consE;(repeat first|exact P0|apply P1);exact rfl)|exact HpSub.nil))
 · omega
 intro k hk
 try simp only [List.cons_append,List.nil_append]
 by_cases hlt:k<8
 · repeat' (first|((with_reducible apply oq_id);first|(apply oq_fn;exact rfl;first|exact trivial|(and_intros<;>omega)|omega|skip)|((with_reducible apply oq_load);exact rfl;exact rfl)|((with_reducible apply oq_buildA);(iterate 4 exact rfl)))|((with_reducible apply tl_id);first|(with_reducible apply tl_nil)|((with_reducible apply u_q);(iterate 4 exact rfl)))|((with_reducible apply gx_id);first|(with_reducible apply v_nil)|((with_reducible apply v_q);(iterate 3 exact rfl)))|((with_reducible apply os_id);first|((with_reducible apply os_storeAgg);(iterate 5 exact rfl)))|((with_reducible apply ox_id);first|((with_reducible apply ox_alloc);exact rfl;intro _))|((with_reducible apply ai_id);first|((with_reducible apply ai_x);(iterate 5 exact rfl))|((with_reducible apply ai_n0);(iterate 3 exact rfl)))|((with_reducible apply al_keep);focus (repeat first|exact HpSub.refl _|(apply HpSub.cons;(repeat first|exact P0|apply P1))|exact HpSub.nil))|((with_reducible apply rd_id);first|(apply Rd.own;(repeat first|exact P0|apply P1);exact rfl;done))|((with_reducible apply t_id);first|(with_reducible apply t_cutK (ι:=(Nat×Nat×Nat)) (rid:=9) [3,4,5,6,7,8,9,26] (fun i=>[(10,.pointer (some ⟨i.1,0,none⟩)),(11,.pointer (some ⟨i.2.1,0,none⟩)),(12,.pointer (some ⟨i.2.2,0,none⟩))]) (fun i=>[(i.1,[.int .i64 a,.int .i64 b],some (237,2,1)),(i.2.1,[.int .i64 c,.int .i64 d],some (237,2,1)),(i.2.2,[.int .i64 1,.int .i64 1],some (237,2,1))]));(repeat (first|exact KeepF.nil|(apply KeepF.cons;exact rfl)|apply KeepF.skip))|(with_reducible apply t_seq)|(apply t_region;kernel_rfl)|((with_reducible apply t_condD);exact rfl;all_goals first|(intro hp;try (exfalso;omega))|skip)|(with_reducible apply t_skip)|(with_reducible apply t_block))|with_reducible apply q_thenN|exact P0|(with_reducible apply P1)|((with_reducible apply Norm.nil);exact rfl)|((with_reducible apply Norm.cons);exact rfl)|((with_reducible apply cut_in3)<;>(repeat' (first|exact FrSub.nil|(apply FrSub.cons;exact rfl)|exact HpSub.refl _|(apply HpSub.consE;(repeat first|exact P0|apply P1);exact rfl)|exact HpSub.nil)))|(apply t_mix (id:=9) [0,1,2,3,4,5,6,7,8,9,10,11,12,13,14] 6 #[false,false,false,false,false,false,false,false,false,false,false,false,false,false,false,false,false,false,false,false,false];kernel_rfl;kernel_rfl;exact rfl)|((with_reducible apply al_id);first|(apply al_done;decide +kernel)|(apply al_one 15;decide +kernel)|(apply al_one 16;decide +kernel)|(apply al_one 17;decide +kernel)|(apply al_one 18;decide +kernel)|(apply al_one 19;decide +kernel)|(apply al_one 20;decide +kernel)|(apply al_two 15 16;decide +kernel)|(apply al_two 15 17;decide +kernel)|(apply al_two 16 17;decide +kernel)|(apply al_three 15 16 17;decide +kernel))|exact Nat.le_of_ble_eq_true rfl)
   rintro ⟨b10,b11,b12⟩
   try simp only [List.cons_append,List.nil_append]
   try dsimp only
   have hk8:k=0∨k=1∨k=2∨k=3∨k=4∨k=5∨k=6∨k=7:=by omega
   clear hlt hk
   rcases hk8 with rfl|rfl|rfl|rfl|rfl|rfl|rfl|rfl
   · ((all_goals refine gqC0 ?_);(all_goals constructor);(any_goals exact trivial);all_goals intros)
     refine ⟨1,by omega,by omega,?_,?_⟩
     · try simp only [List.cons_append,List.nil_append]
       (repeat first|exact FrSub.nil|(apply FrSub.cons;exact rfl))
     · try simp only [List.cons_append,List.nil_append]
       (repeat (first|exact HpSub.refl _|(apply HpSub.consE;(repeat first|exact P0|apply P1);exact rfl)|exact HpSub.nil))
   · ((all_goals refine gqC0 ?_);(all_goals constructor);(any_goals exact trivial);all_goals intros)
     refine ⟨2,by omega,by omega,?_,?_⟩
     · try simp only [List.cons_append,List.nil_append]
       (repeat first|exact FrSub.nil|(apply FrSub.cons;exact rfl))
     · try simp only [List.cons_append,List.nil_append]
       (repeat (first|exact HpSub.refl _|(apply HpSub.consE;(repeat first|exact P0|apply P1);exact rfl)|exact HpSub.nil))
   · ((all_goals refine gqC0 ?_);(all_goals constructor);(any_goals exact trivial);all_goals intros)
     refine ⟨3,by omega,by omega,?_,?_⟩
     · try simp only [List.cons_append,List.nil_append]
       (repeat first|exact FrSub.nil|(apply FrSub.cons;exact rfl))
     · try simp only [List.cons_append,List.nil_append]
       (repeat (first|exact HpSub.refl _|(apply HpSub.consE;(repeat first|exact P0|apply P1);exact rfl)|exact HpSub.nil))
   · ((all_goals refine gqC0 ?_);(all_goals constructor);(any_goals exact trivial);all_goals intros)
     refine ⟨4,by omega,by omega,?_,?_⟩
     · try simp only [List.cons_append,List.nil_append]
       (repeat first|exact FrSub.nil|(apply FrSub.cons;exact rfl))
     · try simp only [List.cons_append,List.nil_append]
       (repeat (first|exact HpSub.refl _|(apply HpSub.consE;(repeat first|exact P0|apply P1);exact rfl)|exact HpSub.nil))
   · ((all_goals refine gqC0 ?_);(all_goals constructor);(any_goals exact trivial);all_goals intros)
     refine ⟨5,by omega,by omega,?_,?_⟩
     · try simp only [List.cons_append,List.nil_append]
       (repeat first|exact FrSub.nil|(apply FrSub.cons;exact rfl))
     · try simp only [List.cons_append,List.nil_append]
       (repeat (first|exact HpSub.refl _|(apply HpSub.consE;(repeat first|exact P0|apply P1);exact rfl)|exact HpSub.nil))
   · ((all_goals refine gqC0 ?_);(all_goals constructor);(any_goals exact trivial);all_goals intros)
     refine ⟨6,by omega,by omega,?_,?_⟩
     · try simp only [List.cons_append,List.nil_append]
       (repeat first|exact FrSub.nil|(apply FrSub.cons;exact rfl))
     · try simp only [List.cons_append,List.nil_append]
       (repeat (first|exact HpSub.refl _|(apply HpSub.consE;(repeat first|exact P0|apply P1);exact rfl)|exact HpSub.nil))
   · ((all_goals refine gqC0 ?_);(all_goals constructor);(any_goals exact trivial);all_goals intros)
     refine ⟨7,by omega,by omega,?_,?_⟩
     · try simp only [List.cons_append,List.nil_append]
       (repeat first|exact FrSub.nil|(apply FrSub.cons;exact rfl))
     · try simp only [List.cons_append,List.nil_append]
       (repeat (first|exact HpSub.refl _|(apply HpSub.consE;(repeat first|exact P0|apply P1);exact rfl)|exact HpSub.nil))
   · ((all_goals refine gqC0 ?_);(all_goals constructor);(any_goals exact trivial);all_goals intros)
     refine ⟨8,by omega,by omega,?_,?_⟩
     · try simp only [List.cons_append,List.nil_append]
       (repeat first|exact FrSub.nil|(apply FrSub.cons;exact rfl))
     · try simp only [List.cons_append,List.nil_append]
       (repeat (first|exact HpSub.refl _|(apply HpSub.consE;(repeat first|exact P0|apply P1);exact rfl)|exact HpSub.nil))
 · obtain rfl:k=8:=by omega
   ((all_goals refine goE0e ?_);(all_goals constructor);(any_goals exact trivial);all_goals intros)
   rfl
theorem mul_calls (a b c d:Int) (h : -1000000≤a∧a≤b∧b≤1000000) (k0 : -1000000≤c∧c≤d∧d≤1000000) (w:World) :
   Calls Tryz.prog 154 #[.agg #[.int .i64 a,.int .i64 b],.agg #[.int .i64 c,.int .i64 d]] w fun e w'=>e=.returned (.tuple #[.agg #[.int .i64 (min (min (a*c) (b*c)) (min (a*d) (b*d))),.int .i64 (max (max (a*c) (b*c)) (max (a*d) (b*d)))],.int .i64 0])∧Ext w w':=by
 refine enterQ (c:=cx w 12) Tryz.func154 rfl rfl rfl rfl ?_
 ((all_goals refine goE0e ?_);(all_goals constructor);(any_goals exact trivial);all_goals intros)
 all_goals rfl
def wayOk (dx dy:Int):Bool:=allFrom (-10000) 10000 [dx,dy] && !(decide (dx=0) && decide (dy=0))
def alongLo (a b c d dx dy:Int):Int:=min (a*dx) (b*dx)+min (c*dy) (d*dy)
def alongHi (a b c d dx dy:Int):Int:=max (a*dx) (b*dx)+max (c*dy) (d*dy)
noncomputable def alongV (a b c d dx dy:Int):Int×Int×Int:=
 if windE a b c d=0 then (if wayOk dx dy then (shV (alongLo a b c d dx dy) (dx*dx+dy*dy),-shV (-alongHi a b c d dx dy) (dx*dx+dy*dy),0) else (0,0,2)) else (0,0,windE a b c d)
theorem fromS2 {w0:World} {M:Ms} {H H':Hp} {w:World} {g:Nat} {a b lo hi:Int} {tg:Tg} {cp:Nat} {q:Bool} (hq:allFrom lo hi [a,b]=q) (h:Has w0 M H w) (p:Pick H g [.int .i64 a,.int .i64 b] tg H') :
   Calls Tryz.prog 120 #[.int .i64 lo,.int .i64 hi,.slice (some ⟨g,0,none⟩) 2 cp] w fun e w'=>e=.returned (.bool q)∧Ext w w':=
 hq ▸ from_calls lo hi (some ⟨g,0,none⟩) 2 cp [a,b] w (Blk.rows (k:=1) (rows:=[a,b].map fun z=>[Value.int .i64 z]) (h.blk _ p.mem).2 rfl (by simp)) (by omega)
theorem sum_sq {x y p q:Int} (hx : -2000≤x∧x≤2000) (hy : -2000≤y∧y≤2000):(x*p+y*q)*(x*p+y*q)≤8000000*(p*p+q*q):=by
 have key:(x*p+y*q)*(x*p+y*q)+(x*q-y*p)*(x*q-y*p)=(x*x+y*y)*(p*p+q*q):=by
   simp only [Int.add_mul,Int.mul_add,Int.sub_mul,Int.mul_sub]
   have e1:x*p*(x*p)=x*x*(p*p):=by ac_rfl
   have e2:y*q*(y*q)=y*y*(q*q):=by ac_rfl
   have e3:x*q*(x*q)=x*x*(q*q):=by ac_rfl
   have e4:y*p*(y*p)=y*y*(p*p):=by ac_rfl
   have e5:x*p*(y*q)=x*y*(p*q):=by ac_rfl
   have e6:y*q*(x*p)=x*y*(p*q):=by ac_rfl
   have e7:x*q*(y*p)=x*y*(p*q):=by ac_rfl
   have e8:y*p*(x*q)=x*y*(p*q):=by ac_rfl
   omega
 have sq0:∀ z:Int,0≤z*z:=fun z=>by
   rcases Int.le_total 0 z with h|h
   · exact Int.mul_nonneg h h
   · rw [sq_neg];exact Int.mul_nonneg (by omega) (by omega)
 have h1:=sq0 (x*q-y*p)
 have hx2:=(mul_abs hx hx).2
 have hy2:=(mul_abs hy hy).2
 have hp:=sq0 p
 have hq:=sq0 q
 have h2:(x*x+y*y)*(p*p+q*q)≤8000000*(p*p+q*q):=Int.mul_le_mul_of_nonneg_right (by omega) (by omega)
 omega
theorem alongLo_sq {a b c d dx dy:Int} (h:a≤b∧c≤d∧-2000≤a∧b≤2000∧-2000≤c∧d≤2000):alongLo a b c d dx dy*alongLo a b c d dx dy≤8000000*(dx*dx+dy*dy):=by
 unfold alongLo
 rcases Int.le_total (a*dx) (b*dx) with h1|h1<;>rcases Int.le_total (c*dy) (d*dy) with h2|h2
 · rw [Int.min_eq_left h1,Int.min_eq_left h2];exact sum_sq (by omega) (by omega)
 · rw [Int.min_eq_left h1,Int.min_eq_right h2];exact sum_sq (by omega) (by omega)
 · rw [Int.min_eq_right h1,Int.min_eq_left h2];exact sum_sq (by omega) (by omega)
 · rw [Int.min_eq_right h1,Int.min_eq_right h2];exact sum_sq (by omega) (by omega)
theorem alongHi_sq {a b c d dx dy:Int} (h:a≤b∧c≤d∧-2000≤a∧b≤2000∧-2000≤c∧d≤2000) : -alongHi a b c d dx dy * -alongHi a b c d dx dy≤8000000*(dx*dx+dy*dy):=by
 rw [← sq_neg]
 unfold alongHi
 rcases Int.le_total (a*dx) (b*dx) with h1|h1<;>rcases Int.le_total (c*dy) (d*dy) with h2|h2
 · rw [Int.max_eq_right h1,Int.max_eq_right h2];exact sum_sq (by omega) (by omega)
 · rw [Int.max_eq_right h1,Int.max_eq_left h2];exact sum_sq (by omega) (by omega)
 · rw [Int.max_eq_left h1,Int.max_eq_right h2];exact sum_sq (by omega) (by omega)
 · rw [Int.max_eq_left h1,Int.max_eq_left h2];exact sum_sq (by omega) (by omega)
theorem sq_nn (n:Int):0≤n*n:=by
 rcases Int.le_total 0 n with h|h
 · exact Int.mul_nonneg h h
 · rw [sq_neg];exact Int.mul_nonneg (by omega) (by omega)
theorem shV_ex {n q:Int} (hq:1≤q) (h8:n*n≤8000000*q):IsSh n q (shV n q)∧-4000≤shV n q∧shV n q≤4000:=by
 have hk:=rt_spec ((n*n).tdiv q) (by rw [Int.tdiv_eq_ediv_of_nonneg (sq_nn n)];exact Int.ediv_nonneg (sq_nn n) (by omega))
 have hd1:(n*n).tdiv q≤8000000:=by rw [Int.tdiv_eq_ediv_of_nonneg (sq_nn n)];exact Int.ediv_le_of_le_mul (by omega) h8
 obtain ⟨k,ek⟩:∃ k,k=rt ((n*n).tdiv q):=⟨_,rfl⟩
 rw [← ek] at hk
 obtain ⟨f1,f2⟩:=part_facts (by omega) hk
 have hk0:=hk.1
 have hk1:k≤3000:=by
   rcases Int.lt_or_le 3000 k with h|h
   · have:=sq_mono (j:=3001) (k:=k) (by omega) (by omega)
     have:=hk.2.1;omega
   · exact h
 by_cases hn:0≤n
 · have:=isSh_pos hn hk0 f1 f2
   rw [this.val (by omega)]
   exact ⟨this,by omega,by omega⟩
 · by_cases hh:k*k*q<n*n
   · have:=isSh_neg1 (by omega) hk0 hh f2
     rw [this.val (by omega)]
     exact ⟨this,by omega,by omega⟩
   · have:=isSh_neg0 (by omega) (by omega) hk0 hh f1
     rw [this.val (by omega)]
     exact ⟨this,by omega,by omega⟩
theorem shV_in {n q:Int} (hq:1≤q) (h8:n*n≤8000000*q):InR (-shV n q):=by
 have:=shV_ex hq h8
 exact ⟨by omega,by omega⟩
theorem airAlong_calls (a b c d dx dy:Int) (w:World):Calls Tryz.prog 130 #[.agg #[.int .i64 a,.int .i64 b,.int .i64 c,.int .i64 d],.int .i64 dx,.int .i64 dy] w fun e w'=>e=.returned (.tuple #[.agg #[.int .i64 (alongV a b c d dx dy).1,.int .i64 (alongV a b c d dx dy).2.1],.int .i64 (alongV a b c d dx dy).2.2])∧Ext w w':=by
 have H1:=fun w1=>checkWind_calls a b c d w1
 obtain ⟨e,he⟩:∃ e,windE a b c d=e:=⟨_,rfl⟩
 obtain ⟨q,hq⟩:∃ q,allFrom (-10000) 10000 [dx,dy]=q:=⟨_,rfl⟩
 rw [he] at H1
 by_cases he0:e=0
 · subst he0
   have hb:=windE_zero he
   cases q with
   | false=>
     have hW:alongV a b c d dx dy=(0,0,2):=by unfold alongV;rw [he,if_pos rfl,if_neg (by unfold wayOk;rw [hq];simp)]
     rw [hW]
     refine enterQ (c:=cx w 78) Tryz.func130 rfl rfl rfl rfl ?_
     ((all_goals refine goE0e ?_);(all_goals constructor);(any_goals exact trivial);all_goals intros)
     all_goals rfl
   | true=>
     have hd : -10000≤dx∧dx≤10000∧-10000≤dy∧dy≤10000:=by unfold allFrom at hq;simp at hq;omega
     by_cases hz:dx=0∧dy=0
     · have hW:alongV a b c d dx dy=(0,0,2):=by unfold alongV;rw [he,if_pos rfl,if_neg (by unfold wayOk;rw [hq];simp [hz.1,hz.2])]
       rw [hW]
       refine enterQ (c:=cx w 78) Tryz.func130 rfl rfl rfl rfl ?_
       ((all_goals refine goE0e ?_);(all_goals constructor);(any_goals exact trivial);all_goals intros)
       all_goals rfl
     · have hW:alongV a b c d dx dy=(shV (alongLo a b c d dx dy) (dx*dx+dy*dy),-shV (-alongHi a b c d dx dy) (dx*dx+dy*dy),0):=by unfold alongV;rw [he,if_pos rfl,if_pos (by unfold wayOk;rw [hq];simp;omega)]
       rw [hW]
       have q1:=mul_abs (x:=dx) (y:=dx) (a:=10000) (b:=10000) (by omega) (by omega)
       have q2:=mul_abs (x:=dy) (y:=dy) (a:=10000) (b:=10000) (by omega) (by omega)
       have q0:1≤dx*dx+dy*dy:=by
         have p1:=sq_mono (j:=0) (k:=max dx (-dx)) (by omega) (by omega)
         have p2:=sq_mono (j:=0) (k:=max dy (-dy)) (by omega) (by omega)
         rcases (by omega:dx≠0∨dy≠0) with h|h
         · have p3:=sq_mono (j:=1) (k:=max dx (-dx)) (by omega) (by omega)
           have e1:max dx (-dx)*max dx (-dx)=dx*dx:=by rcases Int.le_total dx (-dx) with h|h;(rw [Int.max_eq_right h,Int.neg_mul_neg]);(rw [Int.max_eq_left h])
           have e2:max dy (-dy)*max dy (-dy)=dy*dy:=by rcases Int.le_total dy (-dy) with h|h;(rw [Int.max_eq_right h,Int.neg_mul_neg]);(rw [Int.max_eq_left h])
           omega
         · have p3:=sq_mono (j:=1) (k:=max dy (-dy)) (by omega) (by omega)
           have e1:max dx (-dx)*max dx (-dx)=dx*dx:=by rcases Int.le_total dx (-dx) with h|h;(rw [Int.max_eq_right h,Int.neg_mul_neg]);(rw [Int.max_eq_left h])
           have e2:max dy (-dy)*max dy (-dy)=dy*dy:=by rcases Int.le_total dy (-dy) with h|h;(rw [Int.max_eq_right h,Int.neg_mul_neg]);(rw [Int.max_eq_left h])
           omega
       have hA:=alongLo_sq (dx:=dx) (dy:=dy) hb
       have hB:=alongHi_sq (dx:=dx) (dy:=dy) hb
       have r1:=mul_abs (x:=a) (y:=dx) (a:=2000) (b:=10000) (by omega) (by omega)
       have r2:=mul_abs (x:=b) (y:=dx) (a:=2000) (b:=10000) (by omega) (by omega)
       have r3:=mul_abs (x:=c) (y:=dy) (a:=2000) (b:=10000) (by omega) (by omega)
       have r4:=mul_abs (x:=d) (y:=dy) (a:=2000) (b:=10000) (by omega) (by omega)
       have HL:=fun w1=>share_calls (alongLo a b c d dx dy) (dx*dx+dy*dy) q0 (by omega) hA w1
       have HR:=fun w1=>share_calls (-alongHi a b c d dx dy) (dx*dx+dy*dy) q0 (by omega) hB w1
       have hsr:∀ n:Int,n*n≤8000000*(dx*dx+dy*dy)→InR (-shV n (dx*dx+dy*dy)):=fun n hn=>shV_in q0 hn
       have hR:=hsr _ hB
       obtain ⟨s1,e1⟩:∃ s,s=shV (alongLo a b c d dx dy) (dx*dx+dy*dy):=⟨_,rfl⟩
       obtain ⟨s2,e2⟩:∃ s,s=shV (-alongHi a b c d dx dy) (dx*dx+dy*dy):=⟨_,rfl⟩
       rw [← e1] at HL
       rw [← e2] at HR hR
       rw [← e1,← e2]
       clear hA hB hsr hW e1 e2
       unfold alongLo at HL
       unfold alongHi at HR
       have k1:InR (dx*dx):=⟨by omega,by omega⟩
       have k2:InR (dy*dy):=⟨by omega,by omega⟩
       have k3:InR (dx*dx+dy*dy):=⟨by omega,by omega⟩
       have MX:=fun w1=>mul_calls a b dx dx (by omega) (by omega) w1
       have MY:=fun w1=>mul_calls c d dy dy (by omega) (by omega) w1
       have f1:min (min (a*dx) (b*dx)) (min (a*dx) (b*dx))=min (a*dx) (b*dx):=by omega
       have f2:max (max (a*dx) (b*dx)) (max (a*dx) (b*dx))=max (a*dx) (b*dx):=by omega
       have f3:min (min (c*dy) (d*dy)) (min (c*dy) (d*dy))=min (c*dy) (d*dy):=by omega
       have f4:max (max (c*dy) (d*dy)) (max (c*dy) (d*dy))=max (c*dy) (d*dy):=by omega
       rw [f1,f2] at MX
       rw [f3,f4] at MY
       clear f1 f2 f3 f4
       refine enterQ (c:=cx w 78) Tryz.func130 rfl rfl rfl rfl ?_
       ((all_goals refine goE0e ?_);(all_goals constructor);(any_goals exact trivial);all_goals intros)
       all_goals rfl
 · have hW:alongV a b c d dx dy=(0,0,e):=by unfold alongV;rw [he,if_neg he0]
   rw [hW]
   refine enterQ (c:=cx w 78) Tryz.func130 rfl rfl rfl rfl ?_
   ((all_goals refine gqC0 ?_);(all_goals constructor);(any_goals exact trivial);all_goals intros)
   all_goals rfl
end Go.Proofs.YtcjkndjjbjoehaaGreat
namespace Go.Proofs.YtcjkndjjbjoehaaGreat
theorem IsSh.le {n q r k:Int} (hq:0<q) (h:IsSh n q r) (hk:ShP n q k):k≤r:=by
 rcases Int.lt_or_le r k with g|g
 · exact absurd (hk.mono hq (by omega)) h.2
 · exact g
theorem cauchy (x y p q:Int):(x*p+y*q)*(x*p+y*q)+(x * -q+y*p)*(x * -q+y*p)=(x*x+y*y)*(p*p+q*q):=by
 simp only [Int.add_mul,Int.mul_add,Int.mul_neg,Int.neg_mul]
 have e1:x*p*(x*p)=x*x*(p*p):=by ac_rfl
 have e2:y*q*(y*q)=y*y*(q*q):=by ac_rfl
 have e3:x*q*(x*q)=x*x*(q*q):=by ac_rfl
 have e4:y*p*(y*p)=y*y*(p*p):=by ac_rfl
 have e5:x*p*(y*q)=x*y*(p*q):=by ac_rfl
 have e6:y*q*(x*p)=x*y*(p*q):=by ac_rfl
 have e7:x*q*(y*p)=x*y*(p*q):=by ac_rfl
 have e8:y*p*(x*q)=x*y*(p*q):=by ac_rfl
 omega
theorem cauchy_le (x y p q:Int):(x*p+y*q)*(x*p+y*q)≤(x*x+y*y)*(p*p+q*q):=by
 have h:=cauchy x y p q
 have:=sq_nn (x * -q+y*p)
 omega
theorem far_sq {a b x:Int} (h1:a≤x) (h2:x≤b):x*x≤farV a b*farV a b:=by
 have h:x≤farV a b∧-x≤farV a b:=by unfold farV;omega
 rcases Int.le_total 0 x with g|g
 · exact sq_mono g h.1
 · rw [sq_neg x];exact sq_mono (by omega) h.2
theorem ends_sq {a b c d p q:Int} (hab:a≤b) (hcd:c≤d) {n:Int} (hn:n=alongLo a b c d p q∨n=alongHi a b c d p q):n*n≤(farV a b*farV a b+farV c d*farV c d)*(p*p+q*q):=by
 have key:∀ x y,a≤x→x≤b→c≤y→y≤d→(x*p+y*q)*(x*p+y*q)≤(farV a b*farV a b+farV c d*farV c d)*(p*p+q*q):=fun x y h1 h2 h3 h4=>by
   refine Int.le_trans (cauchy_le x y p q) (Int.mul_le_mul_of_nonneg_right ?_ ?_)
   · have:=far_sq h1 h2
     have:=far_sq h3 h4
     omega
   · have:=sq_nn p
     have:=sq_nn q
     omega
 have hx:∃ x,a≤x∧x≤b∧∃ y,c≤y∧y≤d∧n=x*p+y*q:=by
   rcases hn with rfl|rfl
   · unfold alongLo
     rcases Int.le_total (a*p) (b*p) with h1|h1<;>rcases Int.le_total (c*q) (d*q) with h2|h2
     · exact ⟨a,by omega,by omega,c,by omega,by omega,by omega⟩
     · exact ⟨a,by omega,by omega,d,by omega,by omega,by omega⟩
     · exact ⟨b,by omega,by omega,c,by omega,by omega,by omega⟩
     · exact ⟨b,by omega,by omega,d,by omega,by omega,by omega⟩
   · unfold alongHi
     rcases Int.le_total (a*p) (b*p) with h1|h1<;>rcases Int.le_total (c*q) (d*q) with h2|h2
     · exact ⟨b,by omega,by omega,d,by omega,by omega,by omega⟩
     · exact ⟨b,by omega,by omega,c,by omega,by omega,by omega⟩
     · exact ⟨a,by omega,by omega,d,by omega,by omega,by omega⟩
     · exact ⟨a,by omega,by omega,c,by omega,by omega,by omega⟩
 obtain ⟨x,h1,h2,y,h3,h4,rfl⟩:=hx
 exact key x y h1 h2 h3 h4
def leastV (lo hi:Int):Int:=max (max lo (-hi)) 0
def mostV (lo hi:Int):Int:=max hi (-lo)
def IsM (x n r:Int):Prop:=0≤r∧r*r*n≤x∧x<(r+1)*(r+1)*n
theorem sqn_mono {n j k:Int} (hn:0≤n) (h0:0≤j) (h:j≤k):j*j*n≤k*k*n:=Int.mul_le_mul_of_nonneg_right (sq_mono h0 h) hn
theorem IsM.le {x y n r s:Int} (hn:0<n) (h:IsM x n r) (k:IsM y n s) (hxy:x≤y):r≤s:=by
 rcases Int.lt_or_le s r with g|g
 · have:=sqn_mono (n:=n) (j:=s+1) (k:=r) (by omega) (by have:=k.1;omega) (by omega)
   have:=h.2.1
   have:=k.2.2
   omega
 · exact g
theorem IsM.uniq {x n r s:Int} (hn:0<n) (h:IsM x n r) (k:IsM x n s):r=s:=Int.le_antisymm (h.le hn k (Int.le_refl _)) (k.le hn h (Int.le_refl _))
noncomputable def mrV (x n:Int):Int:=open Classical in if h:∃ r,IsM x n r then Classical.choose h else 0
theorem IsM.val {x n r:Int} (hn:0<n) (h:IsM x n r):mrV x n=r:=by
 unfold mrV
 have hex:∃ r,IsM x n r:=⟨r,h⟩
 rw [dif_pos hex]
 exact (Classical.choose_spec hex).uniq hn h
noncomputable def mhV (x n:Int):Int:=if mrV x n*mrV x n*n<x then mrV x n+1 else mrV x n
def acLo (a b c d p q:Int):Int:=alongLo a b c d q (-p)
def acHi (a b c d p q:Int):Int:=alongHi a b c d q (-p)
def nearC (a b c d p q:Int):Int:=leastV (acLo a b c d p q) (acHi a b c d p q)
def farC (a b c d p q:Int):Int:=mostV (acLo a b c d p q) (acHi a b c d p q)
end Go.Proofs.YtcjkndjjbjoehaaGreat
namespace Go.Proofs.YtcjkndjjbjoehaaGreat
open Go.RowKit
section
variable {c:Cx} {F:Fr} {H:Hp} {d:Option Tmp} {ty t t':TypeId} {pos:String} {af:Array Edge} {g:Option (Nat×Bool)} {x y:Operand} {m n k:Int} {v u:Value}
theorem OQ.as {o:Oper} (h:OQ c o F H u) (e:u=v):OQ c o F H v:=e ▸ h
theorem oq_subE (hx:ev F x=some (.int .i64 m)) (hy:ev F y=some (.int .i64 n)) (e:m-n=k∧-9223372036854775808≤k∧k≤9223372036854775807):OQ c ⟨d,.binOp .sub t x y t',ty,pos,af,g⟩ F H (.int .i64 k):=
 (oq_sub hx hy ⟨by omega,by omega⟩).as (by rw [e.1])
theorem oq_addE (hx:ev F x=some (.int .i64 m)) (hy:ev F y=some (.int .i64 n)) (e:m+n=k∧-9223372036854775808≤k∧k≤9223372036854775807):OQ c ⟨d,.binOp .add t x y t',ty,pos,af,g⟩ F H (.int .i64 k):=
 (oq_add hx hy ⟨by omega,by omega⟩).as (by rw [e.1])
theorem oq_min2E {T:Array TypeId} (hx:ev F x=some (.int .i64 m)) (hy:ev F y=some (.int .i64 n)) (e:min m n=k):OQ c ⟨d,.call ⟨.builtin .min,#[x,y],T⟩,ty,pos,af,g⟩ F H (.int .i64 k):=
 (oq_min2 hx hy).as (by rw [e])
theorem oq_max2E {T:Array TypeId} (hx:ev F x=some (.int .i64 m)) (hy:ev F y=some (.int .i64 n)) (e:max m n=k):OQ c ⟨d,.call ⟨.builtin .max,#[x,y],T⟩,ty,pos,af,g⟩ F H (.int .i64 k):=
 (oq_max2 hx hy).as (by rw [e])
theorem oq_shr1N {k':IntKind} {a:Nat} (hx:ev F x=some (.int .u64 m)) (hy:ev F y=some (.int k' 1)) (e:m=(a:Int)):OQ c ⟨d,.binOp .shr t x y t',ty,pos,af,g⟩ F H (.int .u64 ((a / 2:Nat):Int)):=
 (oq_shr1U hx hy (by omega)).as (by subst e;simp)
end
section
variable {c:Cx} {F:Fr} {H H':Hp} {K:Value→Hp→Prop} {d:Option Tmp} {ty:TypeId} {pos:String} {af:Array Edge} {g:Option (Nat×Bool)} {C C':List Value} {b:Nat} {tg:Tg} {v:Value}
theorem os_callW {f:Operand} {args:Array Operand} {T:Array TypeId} {k:Nat} {fst cap vs:List Value} (hf:ev F f=some (.func (.func k) ⟨fst⟩ ⟨cap⟩)) (hc:∀ (a:Array Value) (w:World),(callFunc k a).run c.P w=.ok (.enter k a) w)
   (ha:evs F args.toList=some vs) (hp:Pick H b C tg H') (h:∀ D w,Has c.w0 ⟨c.M,D⟩ H w→Calls c.P k ⟨fst++vs++cap⟩ w fun e w'=>e=.returned v∧ExtM [b] w w'∧Blk w' b C' tg)
   (hk:K v ((b,C',tg)::H')):OS c ⟨d,.call ⟨.value f,args,T⟩,ty,pos,af,g⟩ F H K:=
 os_call hf hc ha fun D w hw=>(h D w hw).mono fun e w' ⟨h1,h2,h3⟩=>⟨v,_,h1,hk,(hw.perm hp.perm).wrote h2 h3⟩
theorem enterW {k:FuncId} {fn:Func} {code:Code} {rs:List ResultVar} {args:List Value} {V:Value} (hf:c.P.funcs[k]?=some fn) (hb:fn.body=some code) (hrs:fn.results=⟨rs⟩) (hN:c.N=args.length+(fn.ntmps-args.length)) (hM:c.M=[b]) (hB:Blk c.w0 b C tg)
   (h:T c (WS.own c.P) code (endQ c rs fun v H=>v=V∧HpSub H [(b,C',tg)]) (frOf 0 args) [(b,C,tg)]):Calls c.P k ⟨args⟩ c.w0 fun e w'=>e=.returned V∧ExtM [b] c.w0 w'∧Blk w' b C' tg:=by
 refine (enter hf hb hrs hN (fun d v hv=>(look_frOf args 0 d v hv).2) ?_ h).mono fun e w' ⟨v,H',h1,⟨h2,h3⟩,h4⟩=>⟨by rw [h1,h2],?_,?_⟩
 · rw [hM]
   refine ⟨ExtM.refl _ _,fun x hx=>?_,by simp,List.nodup_nil,fun k hk=>(List.not_mem_nil hk).elim⟩
   obtain rfl:x=_:=by simpa using hx
   exact ⟨.inr (by simp),hB⟩
 · have:=h4.ext;rw [hM] at this;exact this
 · exact ((h4.sub h3).blk _ (List.mem_cons_self ..)).2
end
theorem eqF_cons {P:Program} {w:World} {d:Nat} {xs ys:Array Value} {f:Field} {fs:List Field} {u v:Value} {q:Bool} (hn:(f.name == "_")=false) (hx:(part f.type xs f.offset).run P w=.ok u w) (hy:(part f.type ys f.offset).run P w=.ok v w)
   (he:(Op.equalIn d f.type u v).run P w=.ok q w):(Op.eqFields d xs ys (f::fs)).run P w=if q then (Op.eqFields d xs ys fs).run P w else .ok false w:=by
 have hn':f.name ≠ "_" := by simpa using hn
 simp only [Op.eqFields,hn',ne_eq,not_false_eq_true,if_true,Sem.run_bind,hx,hy,he,Result.andThen_ok]
 cases q<;>simp [Sem.run_pure]
theorem part_cell {P:Program} {w:World} {t o:Nat} {xs:List Value} {v:Value} (ha:(isAgg t).run P w=.ok false w) (hv:xs[o]?=some v):(part t ⟨xs⟩ o).run P w=.ok v w:=by
 simp [part,Sem.run_bind,ha,Result.andThen,go_sem,hv]
theorem part_agg {P:Program} {w:World} {t o n:Nat} {xs vs:List Value} (ha:(isAgg t).run P w=.ok true w) (hs:(sizeOf t).run P w=.ok n w) (hv:(xs.drop o).take n=vs):(part t ⟨xs⟩ o).run P w=.ok (.agg ⟨vs⟩) w:=by
 subst hv
 simp [part,Sem.run_bind,ha,hs,Result.andThen,go_sem]
theorem eq_int3 {w:World} {d:Nat} {a b:Int}:(Op.equalIn (d+1) 3 (.int .i64 a) (.int .i64 b)).run Tryz.prog w=.ok (decide (a=b)) w:=by
 rw [run_equalIn_int w d 3 .i64 .i64 a b Tryz.underlying3]
 rfl
theorem eqF_int {w:World} {d o:Nat} {xs ys:List Value} {f:Field} {fs:List Field} {a b:Int} {q:Bool} (hn:(f.name == "_")=false) (ht:f.type=3) (ho:f.offset=o) (hx:xs[o]?=some (.int .i64 a)) (hy:ys[o]?=some (.int .i64 b))
   (hr:(Op.eqFields (d+1) ⟨xs⟩ ⟨ys⟩ fs).run Tryz.prog w=.ok q w):(Op.eqFields (d+1) ⟨xs⟩ ⟨ys⟩ (f::fs)).run Tryz.prog w=.ok (decide (a=b) && q) w:=by
 rw [eqF_cons hn (by rw [ht,ho];exact part_cell (Tryz.isAgg3 w) hx) (by rw [ht,ho];exact part_cell (Tryz.isAgg3 w) hy) (by rw [ht];exact eq_int3),hr]
 by_cases h:a=b<;>simp [h]
theorem eqF_nil {w:World} {d:Nat} {xs ys:Array Value}:(Op.eqFields d xs ys []).run Tryz.prog w=.ok true w:=by simp [Op.eqFields,Sem.run_pure]
section
variable {w:World} {N:Nat} {F:Fr} {H:Hp} {M:List Nat} {d:Option Tmp} {ty t':TypeId} {pos:String} {af:Array Edge} {g:Option (Nat×Bool)} {x y:Operand} {a0 a1 a2 a3 a4 b0 b1 b2 b3 b4:Int}
theorem oq_eqS {t:TypeId} {xs ys:Array Value} {q:Bool} (hm:Tryz.prog.eqGuardType Tryz.prog.depth t=false) (he:∀ w,(Op.equalIn 10000 t (.agg xs) (.agg ys)).run Tryz.prog w=.ok q w) (hx:ev F x=some (.agg xs)) (hy:ev F y=some (.agg ys)) :
   OQ (cxM M w N) ⟨d,.binOp .eql t x y t',ty,pos,af,g⟩ F H (.bool q):=.of fun D a w ha _=>by
 simp only [execOp,ha.ev hx,ha.ev hy,Sem.run_bind,run_eqGuard_agg _ _ _ _ _ _ _ hm,Result.andThen]
 rw [run_eql_struct,he]
 rfl
theorem oq_neS {t:TypeId} {xs ys:Array Value} {q:Bool} (hm:Tryz.prog.eqGuardType Tryz.prog.depth t=false) (he:∀ w,(Op.equalIn 10000 t (.agg xs) (.agg ys)).run Tryz.prog w=.ok q w) (hx:ev F x=some (.agg xs)) (hy:ev F y=some (.agg ys)) :
   OQ (cxM M w N) ⟨d,.binOp .neq t x y t',ty,pos,af,g⟩ F H (.bool (!q)):=.of fun D a w ha _=>by
 simp only [execOp,ha.ev hx,ha.ev hy,Sem.run_bind,run_eqGuard_agg _ _ _ _ _ _ _ hm,Result.andThen]
 rw [run_neq_struct,he]
 rfl
end
theorem oq_eqNil {c:Cx} {F:Fr} {H:Hp} {d:Option Tmp} {ty t t':TypeId} {pos:String} {af:Array Edge} {g:Option (Nat×Bool)} {x y:Operand} {p:Addr} {n cp e s0:Nat} {a0:Bool} {z0:List Value} (ht:tyAt c.tys t=some ⟨a0,s0,z0,.slice e⟩)
   (hx:ev F x=some (.slice (some p) n cp)) (hy:ev F y=some (.slice none 0 0)):OQ c ⟨d,.binOp .eql t x y t',ty,pos,af,g⟩ F H (.bool false):=.of fun D a w ha _=>by
 have hk:=(c.ty ht).kind w
 have e0:(Op.equalIn 10000 t (.slice (some p) n cp) (.slice none 0 0)).run c.P w=.ok false w:=by
   have key:∀ d:Nat,(Op.equalIn (d+1) t (.slice (some p) n cp) (.slice none 0 0)).run c.P w=.ok false w:=fun d=>by
     simp only [Op.equalIn,Sem.run_bind,hk,Result.andThen,Sem.run_pure]
   exact key 9999
 have e:(binOp .eql t (.slice (some p) n cp) (.slice none 0 0)).run c.P w=.ok (.bool false) w:=by
   simp only [binOp,Op.equal,Op.maxDepth,Sem.run_bind,e0,Result.andThen,Sem.run_pure]
 have e1:(eqGuard .eql t x y (.slice (some p) n cp) (.slice none 0 0)).run c.P w=.ok () w:=by simp [eqGuard,go_sem]
 simp only [execOp,ha.ev hx,ha.ev hy,Sem.run_bind,e,e1,Result.andThen,Sem.run_pure]
def downB (ops:List Oper) (listed:Array Bool):Bool:=go ops 0
where
 go:List Oper→Nat→Bool
 | [],_=>true
 | o::r,k=>(!listed.getD k false || o.after.all fun e=>!Region.binds .any e || listed.getD e.on false) && go r (k+1)
theorem downB_go {listed:Array Bool}:∀ {ops:List Oper} {k j:Nat} {o:Oper},downB.go listed ops k=true→ops[j]?=some o→listed.getD (k+j) false=true→∀ e∈o.after,Region.binds .any e=true→listed.getD e.on false=true
 | [],_,_,_,_,h,_=>by simp at h
 | o'::r,k,0,o,h,ho,hl=>by
   unfold downB.go at h
   obtain rfl:o'=o:=by simpa using ho
   intro e he hb
   simp only [Bool.and_eq_true,Bool.or_eq_true,Bool.not_eq_true',Array.all_eq_true_iff_forall_mem] at h
   rcases h.1 with h1|h1
   · rw [show k+0=k from rfl,h1] at hl;cases hl
   · rcases h1 e he with h2|h2
     · rw [h2] at hb;cases hb
     · exact h2
 | o'::r,k,j+1,o,h,ho,hl=>by
   unfold downB.go at h
   simp only [Bool.and_eq_true] at h
   exact downB_go (k:=k+1) (j:=j) h.2 (by simpa using ho) (by rw [show k+1+j=k+(j+1) by omega];exact hl)
theorem downB_spec {l:List Oper} {listed:Array Bool} (h:downB l listed=true):Down ⟨l⟩ listed:=fun k o hk ho e he hb=>
 downB_go (k:=0) (j:=k) h (by simpa using ho) (by simpa using hk) e he hb
theorem al_more {c:Cx} {l ql:List Oper} {cov:Array Bool} {H0 H:Hp} {n:Nat} {listed:Array Bool} {R:Fr→Hp→Prop} {F:Fr} (q:List Nat) (m:Nat) (hB:(Region.noSelect ⟨l⟩ && downB l listed && lexOk ⟨l⟩ cov q listed)=true) (hn:n=m+q.length) (hq:pickOps l q=some ql) (hs:HpSub H H0)
   (h:GX c ⟨l⟩ ql (fun F'=>AL c ⟨l⟩ cov H0 m (listedBy q listed) R F' H0) F H0):AL c ⟨l⟩ cov H0 n listed R F H:=fun D a w ha hw=>by
 subst hn
 simp only [Bool.and_eq_true] at hB
 exact SAnyI_lex (Has.up (M:=⟨c.M,D⟩)) hB.1.1 m q listed a hB.2 (downB_spec hB.1.2) (wpGI_mono (fun a' ⟨F',h1,h2⟩ w' hw'=>h1 D a' w' h2 hw') q a (h q (pickOps_spec hq) D a ha)) w (hw.sub hs)
section
variable {c:Cx} {F:Fr} {H:Hp} {d:Option Tmp} {ty t:TypeId} {pos:String} {af:Array Edge} {g:Option (Nat×Bool)} {x y z:Operand}
theorem oq_sliceLH {a0 a1:Bool} {s0 s1 e b o len cap l h:Nat} {z0 z1:List Value} {k1:TyK} {k k':IntKind} {li hi:Int} (ht:tyAt c.tys t=some ⟨a0,s0,z0,.slice e⟩) (he:tyAt c.tys e=some ⟨a1,s1,z1,k1⟩)
   (hx:ev F x=some (.slice (some ⟨b,o,none⟩) len cap)) (hy:ev F y=some (.int k li)) (hz:ev F z=some (.int k' hi)) (hl:li=l) (hh:hi=h) (h1:l≤h) (h3:h≤cap) (h2:cap≠l) :
   OQ c ⟨d,.slice t x (some y) (some z) none,ty,pos,af,g⟩ F H (.slice (some ⟨b,o+l*s1,none⟩) (h-l) (cap-l)):=.of fun D a w ha _=>by
 subst hl hh
 have hk:=(c.ty ht).kind w
 have hs:=(c.ty he).size w
 simp only [execOp,Option.map,ha.ev hx,ha.ev hy,ha.ev hz]
 simp [Instr.sliceAt,Instr.slice,Instr.sliceBounds,Instr.sliceBound,asIntOf,Sem.run_bind,hk,hs,h1,h2,h3,Result.andThen,go_sem,add_eq]
end
theorem madeCells_rows (zs:List Value):∀ n:Nat,(madeCells zs.toArray (n*zs.length)).toList=(List.replicate n zs).flatten:=by
 intro n
 have key:(List.range (n*zs.length)).map (fun j=>zs[j % zs.length]!)=(List.replicate n zs).flatten:=by
   induction n with
   | zero=>simp
   | succ n ih=>
     rw [Nat.succ_mul,Nat.add_comm,List.range_add,List.map_append,List.map_map,List.replicate_succ,List.flatten_cons,← ih]
     congr 1
     · refine List.ext_getElem (by simp) fun i h1 h2=>?_
       simp at h1
       simp [Nat.mod_eq_of_lt h1,h1]
     · refine List.map_congr_left fun j _=>?_
       simp
 rw [← key]
 simp [madeCells]
theorem ox_make {c:Cx} {F:Fr} {H:Hp} {K:Value→Hp→Prop} {d:Option Tmp} {ty:TypeId} {pos:String} {af:Array Edge} {g:Option (Nat×Bool)} {x y:Operand} {t e size bytes n:Nat} {z:Value} {zs:List Value} (hk:AppOk c.P t e size bytes) (hz:(c.P.info? e).map (fun i=>i.zero)=some (some z)) (hzs:z.cells=zs.toArray) (hl:zs.length=size)
   (hx:ev F x=some (.int .i64 (n:Int))) (hy:ev F y=some (.int .i64 (n:Int))) (hb:bytes*n≤281474976710656) (hn:n≤maxLen) (k:∀ b,K (.slice (some ⟨b,0,none⟩) n n) ((b,(List.replicate n zs).flatten,some (e,size,n))::H)):OX c ⟨d,.makeSlice t x y,ty,pos,af,g⟩ F H K:=by
 intro D a w ha hw
 obtain ⟨i,z',k1,k2,k3,k4,k5⟩:=hk.info
 have hz':i.zero=some z:=by rw [k1] at hz;simpa using hz
 have hn':(n:Int)≤9223372036854775807:=by unfold maxLen at hn;omega
 have hb':(i.bytes:Int)*(n:Int)≤281474976710656:=by
   have h:((i.bytes*n:Nat):Int)≤281474976710656:=by rw [k4];omega
   rwa [Int.natCast_mul] at h
 have hr:=run_make (P:=c.P) w t e i z hk.und k1 hz' .i64 .i64 n n (by omega) (Int.le_refl _) hb' hn'
 simp only [Int.toNat_natCast,k3,hzs] at hr
 have hc:(madeCells zs.toArray (n*size))=((List.replicate n zs).flatten).toArray:=by
   rw [← Array.toList_inj,← hl,madeCells_rows]
 rw [hc] at hr
 have:(execOp a.eval ⟨d,.makeSlice t x y,ty,pos,af,g⟩).run c.P w=.ok (.value (.slice (some ⟨w.heap.size,0,none⟩) n n)) (w.alloc (.cells ((List.replicate n zs).flatten).toArray e)):=by
   simp [execOp,ha.ev hx,ha.ev hy,Sem.run_bind,Sem.run_pure,Result.andThen,hr]
 rw [this]
 exact ⟨⟨_,k w.heap.size,hw.fresh ((Ext.refl w).alloc _) (Nat.le_refl _) (Blk.row w _ e size n (by simp [hl]) hn)⟩,(Ext.refl w).alloc _⟩
theorem os_make {c:Cx} {F:Fr} {H:Hp} {K:Value→Hp→Prop} {d:Option Tmp} {ty:TypeId} {pos:String} {af:Array Edge} {g:Option (Nat×Bool)} {x y:Operand} {t e size bytes n:Nat} {z:Value} {zs:List Value} (hk:AppOk c.P t e size bytes) (hz:(c.P.info? e).map (fun i=>i.zero)=some (some z)) (hzs:z.cells=zs.toArray) (hl:zs.length=size)
   (hx:ev F x=some (.int .i64 (n:Int))) (hy:ev F y=some (.int .i64 (n:Int))) (hb:bytes*n≤281474976710656) (hn:n≤maxLen) (k:∀ b,K (.slice (some ⟨b,0,none⟩) n n) ((b,(List.replicate n zs).flatten,some (e,size,n))::H)):OS c ⟨d,.makeSlice t x y,ty,pos,af,g⟩ F H K:=.ofX (ox_make hk hz hzs hl hx hy hb hn k)
section
variable {c:Cx} {S:WS c.P} {Q:QS} {F:Fr} {H:Hp}
end
end Go.Proofs.YtcjkndjjbjoehaaGreat
namespace Go.Proofs.YtcjkndjjbjoehaaGreat
open Go.RowKit
attribute [local irreducible] OQ OS OX Rd T TL GX GL AL AI RV wpG SAny Calls
def inCells (z:Int):List Value:=[.int .i64 z]
theorem in_read {w:World} {A:Option Addr} {n:Nat} {l:List Int} (h:RdS w 1 A n (l.map inCells)) {i:Nat} (hi:i<n) :
   ∃ b o x,A=some ⟨b,o,none⟩∧b<w.heap.size∧l[i]?=some x∧w.cell? ⟨b,o+i*1,none⟩=some (.int .i64 x):=by
 obtain ⟨b,o,cs,hA,hb,hx,_,hc⟩:=h.row hi
 simp only [List.getElem?_map,Option.map_eq_some_iff] at hx
 obtain ⟨x,hx,rfl⟩:=hx
 exact ⟨b,o,x,hA,hb,hx,hc 0 _ rfl⟩
def idxV {α:Type} (p:α→Bool) (l:List α):Int:=match l.findIdx? p with|some i=>(i:Int)|none=>-1
theorem idxV_some {α:Type} {p:α→Bool} {l:List α} {k:Nat} {x:α} (h:l[k]?=some x) (hp:p x=true) (hb:∀ y∈l.take k,p y=false):idxV p l=(k:Int):=by
 have:l.findIdx? p=some k:=by
   rw [List.findIdx?_eq_some_iff_getElem]
   obtain ⟨hk,rfl⟩:=List.getElem?_eq_some_iff.1 h
   refine ⟨hk,hp,fun j hj=>?_⟩
   have:=hb l[j] (List.mem_iff_getElem.2 ⟨j,by simp;omega,by simp⟩)
   simp [this]
 unfold idxV;rw [this]
theorem idxV_none {α:Type} {p:α→Bool} {l:List α} (hb:∀ y∈l,p y=false):idxV p l=-1:=by
 have:l.findIdx? p=none:=List.findIdx?_eq_none_iff.2 hb
 unfold idxV;rw [this]
theorem indexInt_calls (f:Nat) (caps:List Value) (p:Int→Bool) (A:Option Addr) (n c:Nat) (l:List Int) (w:World) (hr:RdS w 1 A n (l.map inCells)) (hn:n≤1000000) (hc:∀ (a:Array Value) (w:World),(callFunc f a).run Tryz.prog w=.ok (.enter f a) w)
   (hf:∀ x∈l,∀ w1,Ext w w1→Calls Tryz.prog f ⟨.int .i64 x::caps⟩ w1 fun e w'=>e=.returned (.bool (p x))∧Ext w1 w') :
   Calls Tryz.prog 84 #[.slice A n c,.func (.func f) #[] ⟨caps⟩] w fun e w'=>e=.returned (.int .i64 (idxV p l))∧Ext w w':=by
 have hl:=hr.len
 simp only [List.length_map] at hl
 
 refine enterQ (c:=cx w 19) Tryz.func84 rfl rfl rfl rfl ?_
 ((all_goals refine gqC0 ?_);(all_goals constructor);(any_goals exact trivial);all_goals intros)
 apply t_loopK (ι:=Nat) [0,1,7] (fun k=>[(8,.int .i64 (k:Nat))]) (fun _=>[]) (fun k=>k≤n∧∀ x∈l.take k,p x=false) (fun k=>n-k) (0)
 (repeat (first|exact KeepF.nil|(apply KeepF.cons;exact rfl)|apply KeepF.skip))
 (repeat first|exact FrSub.nil|(apply FrSub.cons;exact rfl))
 (repeat (first|exact HpSub.refl _|(apply HpSub.consE;(repeat first|exact P0|apply P1);exact rfl)|exact HpSub.nil))
 · exact ⟨by omega,by simp⟩
 rintro k ⟨hk,hkp⟩
 try simp only [List.cons_append,List.nil_append]
 by_cases hlt:k<n
 · obtain ⟨b1,o1,x,rfl,_,hx,c0⟩:=in_read hr hlt
   have hfx:=hf x (List.mem_of_getElem? hx)
   cases hpx:p x with
   | true=>
     rw [hpx] at hfx
     ((all_goals refine gqC0 ?_);(all_goals constructor);(any_goals exact trivial);all_goals intros)
     rw [idxV_some hx hpx hkp];rfl
   | false=>
     rw [hpx] at hfx
     ((all_goals refine gqC0 ?_);(all_goals constructor);(any_goals exact trivial);all_goals intros)
     refine ⟨k+1,⟨by omega,fun y hy=>?_⟩,by omega,?_,?_⟩
     · rw [List.take_add_one,hx,List.mem_append] at hy
       rcases hy with hy|hy
       · exact hkp y hy
       · obtain rfl:y=x:=by simpa using hy
         exact hpx
     · try simp only [List.cons_append,List.nil_append]
       (repeat first|exact FrSub.nil|(apply FrSub.cons;exact rfl))
     · try simp only [List.cons_append,List.nil_append]
       (repeat (first|exact HpSub.refl _|(apply HpSub.consE;(repeat first|exact P0|apply P1);exact rfl)|exact HpSub.nil))
 · ((all_goals refine gqC0 ?_);(all_goals constructor);(any_goals exact trivial);all_goals intros)
   rw [idxV_none (fun y hy=>hkp y (by rw [List.take_of_length_le (by omega)];exact hy))];rfl
end Go.Proofs.YtcjkndjjbjoehaaGreat
namespace Go.Proofs.YtcjkndjjbjoehaaGreat
open Go.RowKit
def iv (z:Int):Value:=.int .i64 z
theorem iv_flat (l:List Int):(l.map inCells).flatten=l.map iv:=by
 induction l with
 | nil=>rfl
 | cons z l ih=>simp [inCells,iv] at ih ⊢;exact ih
theorem int_rows {w0:World} {M:Ms} {H H':Hp} {w:World} {g n:Nat} {l:List Int} {tg:Tg} (hl:l.length=n) (h:Has w0 M H w) (q:Pick H g (l.map iv) tg H'):RdS w 1 (some ⟨g,0,none⟩) n (l.map inCells):=
 Blk.rows (by rw [iv_flat];exact (h.blk _ q.mem).2) (by simpa using hl) (by simp only [List.mem_map];rintro r ⟨x,_,rfl⟩;rfl)
section
variable {c:Cx} {F:Fr} {H H':Hp} {K:Value→Hp→Prop} {d:Option Tmp} {ty:TypeId} {pos:String} {af:Array Edge} {gd:Option (Nat×Bool)} {t:TypeId} {x y:Operand} {a0:Bool} {z0:List Value} {k0:TyK} {g k:Nat} {tg:Tg} {row A:List Int} {B:List Value} {z u:Int}
theorem rdI (hx:row[k]?=some z) (p:Pick H g (row.map iv) tg H'):Rd c H ⟨g,0+k*1,none⟩ (.int .i64 z):=Rd.own p (by rw [Nat.zero_add,Nat.mul_one,List.getElem?_map,hx];rfl)
theorem os_storeI (h:k<row.length) (ht:tyAt c.tys t=some ⟨a0,1,z0,k0⟩) (hx:ev F x=some (.pointer (some ⟨g,0+k*1,none⟩))) (hy:ev F y=some (.int .i64 u)) (hp:Pick H g (row.map iv) tg H')
   (kk:K undef ((g,(row.set k u).map iv,tg)::H')):OS c ⟨d,.store t x y,ty,pos,af,gd⟩ F H K:=
 store_gen (vs:=[.int .i64 u]) ht hx hy rfl rfl (by simp [Value.oneCell']) hp (by simp;omega) (by
   have e:setL (row.map iv) (0+k*1) [Value.int .i64 u]=(row.set k u).map iv:=by simp only [setL];rw [Nat.zero_add,Nat.mul_one,List.map_set];rfl
   rw [e];exact kk)
theorem ox_makeI {n:Nat} {tt:TypeId} {bytes:Nat} (hk:AppOk c.P tt 3 1 bytes) (hz:(c.P.info? 3).map (fun i=>i.zero)=some (some (.int .i64 0)))
   (hx:ev F x=some (.int .i64 (n:Int))) (hy:ev F y=some (.int .i64 (n:Int))) (hb:bytes*n≤281474976710656) (hn:n≤maxLen) (k:∀ b,K (.slice (some ⟨b,0,none⟩) n n) ((b,List.replicate n (Value.int .i64 0),some (3,1,n))::H)):OX c ⟨d,.makeSlice tt x y,ty,pos,af,gd⟩ F H K:=by
 refine ox_make (zs:=[.int .i64 0]) hk hz rfl rfl hx hy hb hn fun b=>?_
 have e:(List.replicate n [Value.int .i64 0]).flatten=List.replicate n (Value.int .i64 0):=by simp
 rw [e]
 exact k b
theorem os_makeI {n:Nat} {tt:TypeId} {bytes:Nat} (hk:AppOk c.P tt 3 1 bytes) (hz:(c.P.info? 3).map (fun i=>i.zero)=some (some (.int .i64 0)))
   (hx:ev F x=some (.int .i64 (n:Int))) (hy:ev F y=some (.int .i64 (n:Int))) (hb:bytes*n≤281474976710656) (hn:n≤maxLen) (k:∀ b,K (.slice (some ⟨b,0,none⟩) n n) ((b,List.replicate n (Value.int .i64 0),some (3,1,n))::H)):OS c ⟨d,.makeSlice tt x y,ty,pos,af,gd⟩ F H K:=.ofX (ox_makeI hk hz hx hy hb hn k)
end
theorem eq_span {w:World} {d:Nat} {a b a' b':Int}:(Op.equalIn (d+2) 27 (.agg ⟨[.int .i64 a,.int .i64 b]⟩) (.agg ⟨[.int .i64 a',.int .i64 b']⟩)).run Tryz.prog w=.ok (decide (a=a') && (decide (b=b') && true)) w:=by
 rw [run_equalIn_struct w (d+1) 27 _ _ (by kernel_rfl) (by kernel_rfl)]
 simp only [Program.fieldsOf,Tryz.underlying27]
 exact eqF_int rfl rfl rfl rfl rfl (eqF_int rfl rfl rfl rfl rfl eqF_nil)
theorem eqF_span {w:World} {d o:Nat} {xs ys:List Value} {f:Field} {fs:List Field} {a b a' b':Int} {q:Bool} (hn:(f.name == "_")=false) (ht:f.type=27) (ho:f.offset=o) (hx:(xs.drop o).take 2=[.int .i64 a,.int .i64 b]) (hy:(ys.drop o).take 2=[.int .i64 a',.int .i64 b'])
   (hr:(Op.eqFields (d+2) ⟨xs⟩ ⟨ys⟩ fs).run Tryz.prog w=.ok q w):(Op.eqFields (d+2) ⟨xs⟩ ⟨ys⟩ (f::fs)).run Tryz.prog w=.ok (decide (a=a') && (decide (b=b') && true) && q) w:=by
 rw [eqF_cons hn (by rw [ht,ho];exact part_agg (Tryz.isAgg27 w) (Tryz.sizeOf27 w) hx) (by rw [ht,ho];exact part_agg (Tryz.isAgg27 w) (Tryz.sizeOf27 w) hy) (by rw [ht];exact eq_span),hr]
 by_cases h:a=a'<;>by_cases h2:b=b'<;>simp [h,h2]
end Go.Proofs.YtcjkndjjbjoehaaGreat
namespace Go.Proofs.YtcjkndjjbjoehaaGreat
open Go.RowKit
attribute [local irreducible] wpG SAny
theorem rfrom_in (n lo hi:Int) (a b:Addr) (w:World) (ha:w.cell? a=some (.int .i64 lo)) (hb:w.cell? b=some (.int .i64 hi)) :
   Calls Tryz.prog 104 #[.int .i64 n,.pointer (some a),.pointer (some b)] w fun e w'=>e=.returned (.bool (decide (n<lo) || decide (hi<n)))∧w=w':=by
 by_cases h1:n<lo
 · go_enter Tryz.func104,Tryz.ntmps104
   go_wp2
   go_ret
   simp [h1]
 · go_enter Tryz.func104,Tryz.ntmps104
   go_wp2
   go_ret
   simp
   omega
theorem rfrom_calls (lo hi:Int) (A:Option Addr) (n c:Nat) (zs:List Int) (w:World)
   (hr:RdS w 1 A n (zs.map fun z=>[.int .i64 z])) (hn:n≤1000000000) :
   Calls Tryz.prog 67 #[.int .i64 lo,.int .i64 hi,.slice A n c] w fun e w'=>e=.returned (.bool (allFrom lo hi zs))∧Ext w w':=by
 have hc:=fun caps w1 hx hp=>containsFunc_int A n c zs 104 caps (fun n=>decide (n<lo) || decide (hi<n)) w1 (hr.ext hx) hp hn
 have H:=Lib.hid hc
 clear hc hr hn
 go_enter Tryz.func67,Tryz.ntmps67
 go_wp2_with fail
 refine (H.out _ _ (((Ext.refl w).alloc _).alloc _) ⟨fun args w'=>by go_simp,fun n w' hx=>?_⟩).mono ?_
 · refine (rfrom_in n lo hi _ _ w' (hx.cell ?_) (hx.cell ?_)).mono fun e w'' ⟨h1,h2⟩=>⟨h1,h2 ▸ Ext.refl _⟩
   · go_simp
   · go_simp
 · rintro e w' ⟨rfl,hx⟩
   go_wp2
   go_ret
   refine ⟨?_,hx.of_alloc.of_alloc⟩
   show Ending.returned (.bool (!zs.any fun n=>decide (n<lo) || decide (hi<n)))=_
   rw [allFrom_any]
end Go.Proofs.YtcjkndjjbjoehaaGreat
namespace Go.Proofs.YtcjkndjjbjoehaaGreat
open Go.RowKit
theorem Has.blkP {w0:World} {M:Ms} {H H':Hp} {w:World} {b:Nat} {C:List Value} {tg:Tg} (h:Has w0 M H w) (p:Pick H b C tg H'):Blk w b C tg:=(h.blk _ p.mem).2
theorem Has.right {w0:World} {M:Ms} {w:World} {G H:Hp} (h:Has w0 M (G++H) w):Has w0 M H w:=
 ⟨h.ext,fun x hx=>h.blk x (List.mem_append_right _ hx),by have:=h.nodup;rw [List.map_append,List.nodup_append] at this;exact this.2.1,h.marks⟩
theorem Has.left {w0:World} {M:Ms} {w:World} {G H:Hp} (h:Has w0 M (G++H) w):Has w0 M G w:=
 ⟨h.ext,fun x hx=>h.blk x (List.mem_append_left _ hx),by have:=h.nodup;rw [List.map_append,List.nodup_append] at this;exact this.1,h.marks⟩
theorem Has.ownG {w0:World} {M:Ms} {H G:Hp} {w:World} (h:Has w0 M H w) (p:HpSub H G):Has w ⟨G.map Prod.fst,[]⟩ G w:=by
 have h':=h.sub p
 exact ⟨ExtM.refl _ _,fun x hx=>⟨.inr (List.mem_map.2 ⟨x,hx,rfl⟩),(h'.blk x hx).2⟩,h'.nodup,List.nodup_nil,fun k hk=>(List.not_mem_nil hk).elim⟩
theorem Has.called {w0:World} {M:Ms} {G R H1:Hp} {w w':World} (h:Has w0 M (G++R) w) (k:Has w ⟨G.map Prod.fst,[]⟩ H1 w'):Has w0 M (H1++R) w':=by
 have hn:=h.nodup
 rw [List.map_append,List.nodup_append] at hn
 have hG:∀ b,b∈G.map Prod.fst→(w0.heap.size≤b∨b∈M.wr)∧∃ C g,Blk w b C g:=fun b hb=>by
   obtain ⟨x,hx,rfl⟩:=List.mem_map.1 hb
   have hh:=h.blk x (List.mem_append_left _ hx)
   exact ⟨hh.1,_,_,hh.2⟩
 refine ⟨⟨k.ext.os.trans h.ext.os,k.ext.tape.trans h.ext.tape,k.ext.output.trans h.ext.output,Nat.le_trans h.ext.size k.ext.size,fun b hb hm=>?_⟩,fun x hx=>?_,?_,h.marks.1,fun d hd=>⟨(h.marks.2 d hd).1,?_⟩⟩
 · rw [k.ext.block b (Nat.lt_of_lt_of_le hb h.ext.size) (fun hg=>by
     rcases (hG b hg).1 with h1|h1
     · omega
     · exact hm h1)]
   exact h.ext.block b hb hm
 · rcases List.mem_append.1 hx with hx|hx
   · have hh:=k.blk x hx
     refine ⟨?_,hh.2⟩
     rcases hh.1 with h1|h1
     · exact .inl (Nat.le_trans h.ext.size h1)
     · exact (hG _ h1).1
   · have hh:=h.blk x (List.mem_append_right _ hx)
     refine ⟨hh.1,hh.2.same (k.ext.block _ hh.2.lt fun hg=>?_)⟩
     exact hn.2.2 _ hg _ (List.mem_map.2 ⟨x,hx,rfl⟩) rfl
 · rw [List.map_append,List.nodup_append]
   refine ⟨k.nodup,hn.2.1,fun a ha b hb e=>?_⟩
   obtain ⟨x,hx,rfl⟩:=List.mem_map.1 ha
   obtain ⟨y,hy,rfl⟩:=List.mem_map.1 hb
   have hlt:=(h.blk y (List.mem_append_right _ hy)).2.lt
   rcases (k.blk x hx).1 with h1|h1
   · omega
   · exact hn.2.2 _ h1 _ (List.mem_map.2 ⟨y,hy,rfl⟩) e
 · have hd':=(h.marks.2 d hd).2
   rw [k.ext.block d (mark_lt hd') (fun hg=>by
     obtain ⟨_,C,g,h1⟩:=hG d hg
     exact mark_ne h1 hd' rfl)]
   exact hd'
theorem HpSub.skipX {x:Nat×List Value×Tg} {H G:Hp} (h:HpSub H G):HpSub (x::H) G:=by
 induction h with
 | nil=>exact .nil
 | cons p _ ih=>exact .cons (.tail p) ih
theorem HpSub.appLeft {G R:Hp}:HpSub (G++R) G:=by
 induction G with
 | nil=>exact HpSub.nil
 | cons x G ih=>obtain ⟨b,C,g⟩:=x;exact HpSub.cons P0 ih
theorem HpSub.skipApp {G R X:Hp} (h:HpSub R X):HpSub (G++R) X:=by
 induction G with
 | nil=>exact h
 | cons x G ih=>exact HpSub.skipX ih
theorem hp_perm:∀ {G H:Hp},H.Perm G→HpSub H G
 | [],H,_=>HpSub.nil
 | (b,C,g)::G,H,h=>by
   have hm:(b,C,g)∈H:=h.mem_iff.2 (List.mem_cons_self ..)
   obtain ⟨H',hp⟩:∃ H',Pick H b C g H':=by
     clear h
     induction H with
     | nil=>cases hm
     | cons x H ih=>
       rcases List.mem_cons.1 hm with rfl|hm
       · exact ⟨H,Pick.head _ _ _ _⟩
       · obtain ⟨H',hp⟩:=ih hm
         exact ⟨x::H',hp.tail⟩
   exact HpSub.cons hp (hp_perm ((hp.perm.symm.trans h).cons_inv))
theorem hp_comm (A B:Hp):HpSub (A++B) (B++A):=hp_perm List.perm_append_comm
theorem HpSub.front {x:Nat×List Value×Tg} {H G:Hp} (h:HpSub H G):HpSub (x::H) (x::G):=by
 obtain ⟨b,C,g⟩:=x;exact HpSub.cons P0 h
def HpW (H G:Hp):Prop:=∀ w0 M w,Has w0 M H w→Has w0 M G w
theorem HpSub.w {H G:Hp} (h:HpSub H G):HpW H G:=fun _ _ _ hw=>hw.sub h
theorem HpW.refl (H:Hp):HpW H H:=fun _ _ _ h=>h
theorem HpW.trans {H G K:Hp} (h:HpW H G) (k:HpW G K):HpW H K:=fun _ _ _ hw=>k _ _ _ (h _ _ _ hw)
theorem Blk.pre {w:World} {b:Nat} {C D:List Value} {tg:Tg} (h:Blk w b (C++D) tg):Blk w b C tg:=by
 rcases h with ⟨c,t,e1,e2,e3⟩|⟨e,h⟩
 · exact .inl ⟨c,t,e1,fun o v ho=>e2 o v (by
     have:=(List.getElem?_eq_some_iff.1 ho).1
     rw [List.getElem?_append_left this];exact ho),e3⟩
 · exact .inr ⟨(List.append_eq_nil_iff.1 e).1,h⟩
theorem HpW.pre {b:Nat} {C D:List Value} {tg:Tg} {H:Hp}:HpW ((b,C++D,tg)::H) ((b,C,tg)::H):=fun w0 M w h=>by
 refine ⟨h.ext,fun x hx=>?_,h.nodup,h.marks⟩
 rcases List.mem_cons.1 hx with rfl|hx
 · have h1:=h.blk _ (List.mem_cons_self ..)
   exact ⟨h1.1,h1.2.pre⟩
 · exact h.blk _ (List.mem_cons_of_mem _ hx)
theorem HpW.cons {x:Nat×List Value×Tg} {H G:Hp} (h:∀ w0 M w,Has w0 M (x::H) w→Has w0 M (x::G) w):HpW (x::H) (x::G):=h
section
variable {c:Cx} {S:WS c.P} {Q:QS} {F:Fr} {H G R:Hp} {x y:Code} {K:Value→Hp→Prop} {d:Option Tmp} {ty:TypeId} {pos:String} {af:Array Edge} {g:Option (Nat×Bool)} {PV:Value→Hp→Prop} {v:Value}
theorem t_subW (hH:HpW H G) (h:T c S x Q F G):T c S x Q F H:=fun D a w ha hw=>h D a w ha (hH _ _ _ hw)
theorem t_fact {P:Prop} (hf:∀ M w,Has c.w0 M H w→P) (h:P→T c S x Q F H):T c S x Q F H:=fun D a w ha hw=>h (hf _ _ hw) D a w ha hw
theorem t_cutW {ι:Type} (fr:ι→Fr) (hp:ι→Hp) (Pi:ι→Prop) (h1:T c S x (fun e F' H'=>e=.normal∧∃ i,Pi i∧FrSub F' (fr i)∧HpW H' (hp i)) F H) (h2:∀ i,Pi i→T c S y Q (fr i) (hp i)):T c S (.seq x y) Q F H:=by
 refine t_seq fun D a w ha hw=>S.mono (h1 D a w ha hw) fun e a' w' he=>?_
 obtain ⟨D',F',H',⟨rfl,i,hi,hF,hH⟩,h3,h4⟩:=he
 exact ⟨D',_,_,h2 i hi,h3.sub hF,hH _ _ _ h4⟩
theorem os_callM {f:Operand} {args:Array Operand} {T:Array TypeId} {k:Nat} {fst cap vs:List Value} (hf:ev F f=some (.func (.func k) ⟨fst⟩ ⟨cap⟩)) (hc:∀ (a:Array Value) (w:World),(callFunc k a).run c.P w=.ok (.enter k a) w)
   (ha:evs F args.toList=some vs) (hp:HpSub H (G++R)) (h:∀ D w,Has c.w0 ⟨c.M,D⟩ H w→Has w ⟨G.map Prod.fst,[]⟩ G w→Calls c.P k ⟨fst++vs++cap⟩ w fun e w'=>∃ v H1,e=.returned v∧PV v H1∧Has w ⟨G.map Prod.fst,[]⟩ H1 w')
   (hk:∀ v H1,PV v H1→K v (H1++R)):OS c ⟨d,.call ⟨.value f,args,T⟩,ty,pos,af,g⟩ F H K:=
 os_call hf hc ha fun D w hw=>(h D w hw ((hw.sub hp).left.ownG (HpSub.refl _))).mono fun e w' ⟨v,H1,h1,h2,h3⟩=>⟨v,_,h1,hk v H1 h2,(hw.sub hp).called h3⟩
theorem enterM {k:FuncId} {fn:Func} {code:Code} {rs:List ResultVar} {args:List Value} (hf:c.P.funcs[k]?=some fn) (hb:fn.body=some code) (hrs:fn.results=⟨rs⟩) (hN:c.N=args.length+(fn.ntmps-args.length)) (hG:Has c.w0 ⟨c.M,[]⟩ G c.w0)
   (h:T c (WS.own c.P) code (endQ c rs fun v H=>∃ H1,PV v H1∧HpW H H1) (frOf 0 args) G):Calls c.P k ⟨args⟩ c.w0 fun e w'=>∃ v H1,e=.returned v∧PV v H1∧Has c.w0 ⟨c.M,[]⟩ H1 w':=
 (enter hf hb hrs hN (fun d v hv=>(look_frOf args 0 d v hv).2) hG h).mono fun e w' ⟨v,H',h1,⟨H1,h2,h3⟩,h4⟩=>⟨v,H1,h1,h2,h3 _ _ _ h4⟩
/-! Interfaces -/
theorem oq_makeIface {t:TypeId} {x:Operand} {ds:TypeDesc} (hu:∀ w,(underlying t).run c.P w=.ok ds w) (hi:∀ m,ds≠.interface m) (hx:ev F x=some v):OQ c ⟨d,.makeInterface t x,ty,pos,af,g⟩ F H (.iface t v):=.of fun D a w ha _=>by
 have h1:=ha.ev hx
 simp only [execOp,Instr.makeInterface,Sem.run_bind,hu w,Result.andThen,h1]
 cases ds<;>first|(simp [Sem.run_pure,Result.andThen];done)|exact (hi _ rfl).elim
theorem oq_assert {t s:TypeId} {x:Operand} {ds:TypeDesc} (hu:∀ w,(underlying t).run c.P w=.ok ds w) (hi:∀ m,ds≠.interface m) (hx:ev F x=some (.iface t v)):OQ c ⟨d,.typeAssert x s t false,ty,pos,af,g⟩ F H v:=.of fun D a w ha _=>by
 have h1:=ha.ev hx
 simp only [execOp,Instr.typeAssert,Sem.run_bind,hu w,Result.andThen,h1]
 cases ds<;>first|(simp [Sem.run_pure,Result.andThen];done)|exact (hi _ rfl).elim
def Meth (P:Program) (w:World) (t:TypeId) (v:Value) (name:String) (k:Nat) (rv:Value):Prop:=(method (P.types.size+Made.depth) t v name).run P w=.ok (k,rv) w
theorem run_invoke {ρ:Operand→Value} {w:World} {x:Operand} {args:Array Operand} {T:Array TypeId} {t:TypeId} {k:Nat} {rv:Value} {vs:List Value} {name:String} (hx:ρ x=.iface t v) (hm:Meth c.P w t v name k rv)
   (hc:∀ (a:Array Value) (w:World),(callFunc k a).run c.P w=.ok (.enter k a) w) (ha:args.map ρ=vs.toArray):(execOp ρ ⟨d,.call ⟨.invoke x name,args,T⟩,ty,pos,af,g⟩).run c.P w=.ok (.enter k ⟨rv::vs⟩) w:=by
 unfold Meth at hm
 have h2:((#[Value.iface t v]++vs.toArray)[0]? : Option Value)=some (.iface t v):=by simp
 have h3:(#[Value.iface t v]++vs.toArray).extract 1 (#[Value.iface t v]++vs.toArray).size=vs.toArray:=by simp
 simp only [execOp,resolve,invoke,hx,ha,Sem.run_bind,Sem.run_pure,Result.andThen,h2,h3,callMethod,run_program,hm]
 have h4:(#[rv]++vs.toArray)=⟨rv::vs⟩:=by simp
 rw [h4,hc]
theorem oq_invoke {x:Operand} {args:Array Operand} {T:Array TypeId} {t:TypeId} {k:Nat} {u rv:Value} {vs:List Value} {name:String} (hx:ev F x=some (.iface t u)) (hm:∀ D w,Has c.w0 ⟨c.M,D⟩ H w→Meth c.P w t u name k rv)
   (hc:∀ (a:Array Value) (w:World),(callFunc k a).run c.P w=.ok (.enter k a) w) (ha:evs F args.toList=some vs) (h:∀ D w,Has c.w0 ⟨c.M,D⟩ H w→Calls c.P k ⟨rv::vs⟩ w fun e w'=>e=.returned v∧Ext w w') :
   OQ c ⟨d,.call ⟨.invoke x name,args,T⟩,ty,pos,af,g⟩ F H v:=by
 intro D a w hA hw
 have h1:=hA.evs ha
 have h2:args.map a.eval=vs.toArray:=by rw [← h1];cases args;simp
 rw [run_invoke (hA.ev hx) (hm D w hw) hc h2]
 exact (h D w hw).mono fun e w' he=>⟨v,he.1,rfl,he.2⟩
theorem os_invokeM {x:Operand} {args:Array Operand} {T:Array TypeId} {t:TypeId} {k:Nat} {u rv:Value} {vs:List Value} {name:String} (hx:ev F x=some (.iface t u)) (hp:HpSub H (G++R)) (hm:∀ D w,Has c.w0 ⟨c.M,D⟩ H w→Meth c.P w t u name k rv)
   (hc:∀ (a:Array Value) (w:World),(callFunc k a).run c.P w=.ok (.enter k a) w) (ha:evs F args.toList=some vs)
   (h:∀ D w,Has c.w0 ⟨c.M,D⟩ H w→Has w ⟨G.map Prod.fst,[]⟩ G w→Calls c.P k ⟨rv::vs⟩ w fun e w'=>∃ v H1,e=.returned v∧PV v H1∧Has w ⟨G.map Prod.fst,[]⟩ H1 w')
   (hk:∀ v H1,PV v H1→K v (H1++R)):OS c ⟨d,.call ⟨.invoke x name,args,T⟩,ty,pos,af,g⟩ F H K:=by
 intro D a w hA hw
 have h1:=hA.evs ha
 have h2:args.map a.eval=vs.toArray:=by rw [← h1];cases args;simp
 rw [run_invoke (hA.ev hx) (hm D w hw) hc h2]
 exact (h D w hw ((hw.sub hp).left.ownG (HpSub.refl _))).mono fun e w' ⟨v,H1,h1,h2,h3⟩=>⟨v,h1,_,hk v H1 h2,(hw.sub hp).called h3⟩
end
structure Qm where
 b:Nat
 o:Nat
 cap:Nat
 c0:Nat
 C:List Value
def Qok (q:List Int) (m:Qm):Prop:=(m.cap=0∧q=[])∨(∃ pre:List Value,pre.length=m.o∧m.C=pre++q.map iv∧m.c0=m.o+m.cap∧0<m.cap)
abbrev qS (q:List Int) (m:Qm):Value:=.slice (some ⟨m.b,m.o,none⟩) q.length m.cap
abbrev qB (m:Qm):Nat×List Value×Tg:=(m.b,m.C,some (3,1,m.c0))
theorem Qok.at_ {q:List Int} {m:Qm} (h:Qok q m) {i:Nat} {z:Int} (hz:q[i]?=some z):m.C[m.o+i*1]?=some (.int .i64 z):=by
 rcases h with ⟨_,rfl⟩|⟨pre,h1,h2,_⟩
 · simp at hz
 · rw [h2,List.getElem?_append_right (by omega),List.getElem?_map,show m.o+i*1-pre.length=i by omega,hz];rfl
def Qm.tail (m:Qm):Qm:=if m.cap=1 then { m with cap:=0 } else { m with o:=m.o+1,cap:=m.cap-1 }
theorem Qok.tail {q:List Int} {m:Qm} {z:Int} (h:Qok (z::q) m) (hc:(z::q).length≤m.cap):Qok q m.tail:=by
 rcases h with ⟨_,e⟩|⟨pre,h1,h2,h3,h4⟩
 · cases e
 · unfold Qm.tail
   simp only [List.length_cons] at hc
   split
   · exact .inl ⟨rfl,List.eq_nil_of_length_eq_zero (by omega)⟩
   · exact .inr ⟨pre++[iv z],by simp [h1],by simp [h2],by simp only [];omega,by simp only [];omega⟩
theorem Qm.tail_b (m:Qm):m.tail.b=m.b∧m.tail.C=m.C∧m.tail.c0=m.c0∧m.tail.cap=m.cap-1:=by
 unfold Qm.tail
 split
 · rename_i h;simp [h]
 · simp
theorem Qok.room {q:List Int} {m:Qm} {w:World} (h:Qok q m) (hB:Blk w m.b m.C (some (3,1,m.c0))):q.length≤m.cap:=by
 rcases h with ⟨h,rfl⟩|⟨pre,h1,h2,h3,h4⟩
 · simp
 · rcases hB with ⟨c,t,k1,k2,_,k4,_⟩|⟨e,_⟩
   · rcases Nat.lt_or_ge m.cap q.length with h5|h5
     · have hl:m.C.length=m.o+q.length:=by rw [h2];simp [h1]
       have:=k2 (m.o+m.cap) m.C[m.o+m.cap] (List.getElem?_eq_getElem (by omega))
       have:=(Array.getElem?_eq_some_iff.1 this).1
       omega
     · exact h5
   · rw [h2] at e
     have:=(List.append_eq_nil_iff.1 e).2
     have:q=[]:=by simpa using this
     subst this;simp
section
variable {c:Cx} {F:Fr} {H H':Hp} {K:Value→Hp→Prop} {d:Option Tmp} {ty t:TypeId} {pos:String} {af:Array Edge} {g:Option (Nat×Bool)} {x y s:Operand}
theorem oq_sliceQ {a0 a1:Bool} {s0 e:Nat} {z0 z1:List Value} {k1:TyK} {k:IntKind} {q:List Int} {m:Qm} {z:Int} (ht:tyAt c.tys t=some ⟨a0,s0,z0,.slice e⟩) (he:tyAt c.tys e=some ⟨a1,1,z1,k1⟩)
   (hx:ev F x=some (qS (z::q) m)) (hy:ev F y=some (.int k 1)):OQ c ⟨d,.slice t x (some y) none none,ty,pos,af,g⟩ F H (qS q m.tail):=.of fun D a w ha _=>by
 have hk:=(c.ty ht).kind w
 have hs:=(c.ty he).size w
 have h1:(1:Int)≤(q.length:Int)+1:=by omega
 simp only [execOp,Option.map,ha.ev hx,ha.ev hy]
 unfold Qm.tail
 by_cases h:m.cap=1
 · simp [Instr.sliceAt,Instr.slice,Instr.sliceBounds,Instr.sliceBound,asIntOf,Sem.run_bind,hk,hs,h1,Result.andThen,go_sem,add_eq,h]
 · simp [Instr.sliceAt,Instr.slice,Instr.sliceBounds,Instr.sliceBound,asIntOf,Sem.run_bind,hk,hs,h1,Result.andThen,go_sem,add_eq,h]
theorem Blk.more {w:World} {b e cap:Nat} {C:List Value} (h:Blk w b C (some (e,1,cap))) (hc:C.length<cap):∃ u,Blk w b (C++[u]) (some (e,1,cap)):=by
 rcases h with ⟨c,t,h1,h2,h3,h4,h5⟩|⟨_,t,L,e,_⟩
 · have hlt:C.length<c.size:=by omega
   refine ⟨c[C.length],.inl ⟨c,t,h1,fun o v ho=>?_,h3,h4,h5⟩⟩
   rw [List.getElem?_append] at ho
   split at ho
   · exact h2 o v ho
   · have ho2:o-C.length=0:=by
       have:=(List.getElem?_eq_some_iff.1 ho).1
       simp at this;omega
     rw [ho2] at ho
     have hv:c[C.length]=v:=by simpa using ho
     have:o=C.length:=by omega
     subst this
     rw [← hv]
     exact Array.getElem?_eq_getElem hlt
 · simp only [mapTg,Option.some.injEq,Prod.mk.injEq] at e
   omega
theorem os_appQ {tt b2 c2:Nat} {q:List Int} {m:Qm} {z:Int} (hk:AppOk c.P tt 3 1 8) (hs:ev F s=some (qS q m)) (hx:ev F x=some (.slice (some ⟨b2,0,none⟩) 1 c2)) (hq:Qok q m) (hn:q.length≤1000000)
   (hp:Pick H m.b m.C (some (3,1,m.c0)) H') (hr:Rd c H ⟨b2,0,none⟩ (.int .i64 z))
   (k:∀ m',Qok (q++[z]) m'→K (.slice (some ⟨m'.b,m'.o,none⟩) (q.length+1) m'.cap) (qB m'::H')):OS c ⟨d,.call ⟨.builtin .append,#[s,x],#[tt,tt]⟩,ty,pos,af,g⟩ F H K:=by
 intro D a w ha hw
 have hw':=hw.perm hp.perm
 have hB:Blk w m.b m.C (some (3,1,m.c0)):=(hw'.blk _ (List.mem_cons_self ..)).2
 have hroom:=hq.room hB
 obtain ⟨i,zz,k1,k2,k3,k4,k5⟩:=hk.info
 have hc:=hr D w hw
 have hnews:∀ j u,[Value.int .i64 z][j]?=some u→w.cell? ((⟨b2,0,none⟩:Addr).add j)=some u:=fun j u hj=>by
   cases j with
   | zero=>rw [add_eq,Nat.zero_add];rw [hc];simpa using hj
   | succ j=>simp at hj
 by_cases hlt:q.length+1≤m.cap
 · -- there is room
   rcases hq with ⟨h0,_⟩|⟨pre,h1,h2,h3,h4⟩
   · omega
   · have hCl:m.C.length=m.o+q.length:=by rw [h2];simp [h1]
     obtain ⟨u,hu⟩:=hB.more (by omega)
     obtain ⟨w',r1,r2,r3⟩:=run_storeCells c.P m.b (m.o+q.length) [.int .i64 z] 0 w (m.C++[u]) _ hu (by simp only [List.length_append,List.length_singleton];omega) (by simp [Value.oneCell'])
     have e:setL (m.C++[u]) (m.o+q.length+0) [Value.int .i64 z]=m.C++[.int .i64 z]:=by
       simp only [setL,Nat.add_zero]
       rw [← hCl,List.set_append_right _ _ (Nat.le_refl _)]
       simp
     rw [e] at r2
     have hf:=run_firstCells_some (P:=c.P) w 1 1 ⟨b2,0,none⟩ 1 c2 [.int .i64 z] rfl hnews
     have:(execOp a.eval ⟨d,.call ⟨.builtin .append,#[s,x],#[tt,tt]⟩,ty,pos,af,g⟩).run c.P w=.ok (.value (.slice (some ⟨m.b,m.o,none⟩) (q.length+1) m.cap)) w':=by
       have hadd:(Addr.add ⟨m.b,m.o,none⟩ (q.length*1))=⟨m.b,m.o+q.length,none⟩:=by rw [add_eq,Nat.mul_one]
       simp [execOp,resolve,invoke,builtin,Sem.run_bind,Sem.run_pure,Result.andThen,ha.ev hs,ha.ev hx,Builtin.append_,run_underlying hk.und,sizeOf,typeInfo,k1,k3,Builtin.lenOf,hlt,hf,add_eq,r1,run_program]
     rw [this]
     refine ⟨_,k { m with C:=m.C++[.int .i64 z] } (.inr ⟨pre,h1,by simp [h2,iv],h3,h4⟩),hw'.wrote r3 r2⟩
 · -- a new block
   have holds:∀ j v,(q.map iv)[j]?=some v→w.cell? ((⟨m.b,m.o,none⟩:Addr).add j)=some v:=fun j v hj=>by
     rw [List.getElem?_map,Option.map_eq_some_iff] at hj
     obtain ⟨y,hy,rfl⟩:=hj
     have:=hq.at_ hy
     rw [add_eq]
     have h:=hB.cell this
     rw [Nat.mul_one] at h
     exact h
   have hr:=run_append_grow (P:=c.P) w tt ty 3 i zz hk.und k1 k2 ⟨m.b,m.o,none⟩ q.length m.cap (q.map iv) (by simp [k3]) holds ⟨b2,0,none⟩ 1 c2 [.int .i64 z] (by simp [k3]) hnews (by omega) (by omega) (by
     have:=nextslicecap_le (need:=q.length+1) (old:=m.cap) (by omega)
     rw [k4];omega)
   have hg:=grownCap_ge w (q.length+1) m.cap 3
   have hm:=grownCap_le_maxLen w (q.length+1) m.cap 3 (by unfold maxLen;omega)
   generalize grownCap w (q.length+1) m.cap 3=gc at hr hg hm
   generalize hcs:((q.map iv).toArray++[Value.int .i64 z].toArray++Builtin.zeroCells zz.cells (gc-(q.length+1)))=cs at hr
   have hsz:cs.size=gc:=by
     rw [← hcs]
     simp only [Array.size_append,List.size_toArray,size_zeroCells,k5,List.length_map,List.length_singleton];omega
   have:(execOp a.eval ⟨d,.call ⟨.builtin .append,#[s,x],#[tt,tt]⟩,ty,pos,af,g⟩).run c.P w=.ok (.value (.slice (some ⟨w.heap.size,0,none⟩) (q.length+1) gc)) (w.drew.alloc (.cells cs 3)):=by
     simp [execOp,resolve,invoke,builtin,Sem.run_bind,Sem.run_pure,Result.andThen,ha.ev hs,ha.ev hx,hr]
   rw [this]
   have hE:Ext w (w.drew.alloc (.cells cs 3)):=Ext.alloc (Ext.drew (Ext.refl w)) _
   refine ⟨_,k ⟨w.heap.size,0,gc,gc,(q++[z]).map iv⟩ (.inr ⟨[],rfl,by simp,by simp,by simp only [];omega⟩),?_⟩
   refine (hw'.drop).fresh hE (Nat.le_refl _) (.inl ⟨cs,3,heap_alloc_new w.drew _,fun o v ho=>?_,rfl,(by simp only [];omega),hm⟩)
   rw [← hcs]
   rw [Array.getElem?_append_left (by
     have:=(List.getElem?_eq_some_iff.1 ho).1
     simpa using this)]
   simpa [iv] using ho
end
end Go.Proofs.YtcjkndjjbjoehaaGreat
