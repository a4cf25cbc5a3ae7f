/- TopManned holds: whatever the input, it returns true and leaves it as it was. No condition. -/
import Derived.Test.YtcjkndjjbjoehaaXTmJ
import Derived.Test.YtcjkndjjbjoehaaXTmI
set_option linter.unusedVariables false
set_option linter.unusedSimpArgs false
set_option maxRecDepth 100000
set_option maxHeartbeats 2000000
namespace Go.Proofs.Ytcjkndjjbjoehaa
open Go.ChangeShapes Go.WideShapes Go.ChangeAt Go.RowKit
set_option linter.unusedVariables false
set_option linter.unusedSimpArgs false
set_option maxRecDepth 100000
theorem sh_open {x:List Value} (h:LfsOk [.int .i64,.int .i64,.int .i64] x):∃ y:Sh,x=shCells y∧True:=by
 obtain ⟨z0,u0,rfl,_,h⟩:=h.int
 obtain ⟨z1,u1,rfl,_,h⟩:=h.int
 obtain ⟨z2,u2,rfl,_,h⟩:=h.int
 obtain rfl:=h.nil
 exact ⟨⟨z0,z1,z2⟩,rfl,trivial⟩
theorem open_nilO {H:Type} {enc:TypeId×Value→H} {P:Program} {W:World} {held:Bool} {t e:TypeId} {A:Option Addr} {m c:Nat} {d:DataW H} {p:List MemPlace} (hs:P.underlying t=some (.slice e))
   (h:DataW.Trod enc P W 0 (fun _=>true) held t (.slice A m c) d p):A=none→m=0∧c=0:=by
 obtain ⟨fuel,hf⟩:=h
 intro hA
 rcases Go.Deep.open_slice hs hf with ⟨h1,_⟩|⟨a,len,cap,m',k,D,Pl,h1,_,hlc,_⟩
 · simp only [Value.cells,List.cons.injEq,Value.slice.injEq,and_true] at h1
   omega
 · simp only [Value.cells,List.cons.injEq,Value.slice.injEq,and_true] at h1
   rw [h1.1] at hA
   cases hA
theorem topManned_lifted (os:Os) (started:os.Started) (H:Type) (enc:TypeId×Value→H) :
   ReturnsInHanded {} Try.checked os 6 .any (Rows.topMannedSpec.pre6 enc Try.prog Try.f6 Rows.topMannedRow.domain false) (Rows.topMannedSpec.post enc Try.prog Try.f6 false true false false):=by
 refine returnsInHanded_of_change (C:=Try.checked) Try.own started (by kernel_rfl) Try.func6
   (ChangeSpec.witness6 (enc:=enc) (C:=Try.checked) false ⟨#[],#[.agg #[.slice none 0 0,.slice none 0 0],.agg #[.int .i64 0,.int .i64 0,.int .i64 0,.int .i64 0,.int .i64 0,.int .i64 0,.int .i64 0],.slice none 0 0,.int .i64 0,.slice none 0 0,.agg #[.int .i64 0,.int .i64 0,.int .i64 0,.int .i64 0],.slice none 0 0,.int .i64 0,.int .i64 0,.int .i64 0,.int .u16 0],[]⟩ 8 (by kernel_rfl) (by kernel_rfl) (by kernel_rfl) (by kernel_rfl)) ?_
 intro W base args ds gs before hval0 hW hcnd _
 have hval:∀ (j:Nat) t v,Try.f6.params[j]?=some t→args[j]?=some v→Value.okWide Try.prog W .any base t v:=hval0
 have hW':=hW
 obtain ⟨p,q,hA0,hV,rfl,hfz,hnd⟩:=hW
 have hA:DataW.TrodAll enc Try.prog W 0 (fun _=>true) true Try.f6.params.toList args.toList ds p:=hA0
 obtain ⟨rfl,rfl⟩:=trodVars_none hV
 simp only [List.append_nil] at hW'
 have hlt:∀ x∈p,x.block<W.heap.size:=fun x hx=>by simpa using hW'.lt x hx
 have hargs:∀ W',Ext W W'→DataW.TrodAll enc Try.prog W' 0 (fun b=>decide (b<W.heap.size)) true Try.f6.params.toList args.toList ds p:=fun W' hb=>trodAll_ext Try.laidOut hb (by kernel_rfl) hA hlt
 clear hA0 hval0
 obtain ⟨args⟩:=args
 rw [Try.params6] at hA hval
 simp only at hA
 obtain ⟨v0,as0,d0,ds0,p0,q0,rfl,rfl,rfl,h0,hA0⟩:=trodAll_cons hA
 obtain ⟨v1,as1,d1,ds1,p1,q1,rfl,rfl,rfl,h1,hA1⟩:=trodAll_cons hA0
 obtain ⟨v2,as2,d2,ds2,p2,q2,rfl,rfl,rfl,h2,hA2⟩:=trodAll_cons hA1
 obtain ⟨v3,as3,d3,ds3,p3,q3,rfl,rfl,rfl,h3,hA3⟩:=trodAll_cons hA2
 obtain ⟨v4,as4,d4,ds4,p4,q4,rfl,rfl,rfl,h4,hA4⟩:=trodAll_cons hA3
 obtain ⟨v5,as5,d5,ds5,p5,q5,rfl,rfl,rfl,h5,hA5⟩:=trodAll_cons hA4
 obtain ⟨v6,as6,d6,ds6,p6,q6,rfl,rfl,rfl,h6,hA6⟩:=trodAll_cons hA5
 obtain ⟨v7,as7,d7,ds7,p7,q7,rfl,rfl,rfl,h7,hA7⟩:=trodAll_cons hA6
 obtain ⟨v8,as8,d8,ds8,p8,q8,rfl,rfl,rfl,h8,hA8⟩:=trodAll_cons hA7
 obtain ⟨v9,as9,d9,ds9,p9,q9,rfl,rfl,rfl,h9,hA9⟩:=trodAll_cons hA8
 obtain ⟨v10,as10,d10,ds10,p10,q10,rfl,rfl,rfl,h10,hA10⟩:=trodAll_cons hA9
 obtain ⟨rfl,rfl,rfl⟩:=trodAll_nil hA10
 obtain ⟨B0,L0,A0,n0,c0,D0,m0,k0,rfl,hp0,hr0⟩:=open_chart (hval 0 37 v0 rfl rfl) h0
 obtain ⟨cs1,rfl,g1⟩:=open_struct Try.underlying41 (show ksOf Try.prog 6 41=some [.int .i64,.int .i64,.int .i64,.int .i64,.int .i64,.int .i64,.int .i64] by kernel_rfl) (hval 1 41 v1 rfl rfl) h1
 obtain ⟨x1_0,us1_0,rfl,w1_0,g1⟩:=g1.int
 obtain ⟨x1_1,us1_1,rfl,w1_1,g1⟩:=g1.int
 obtain ⟨x1_2,us1_2,rfl,w1_2,g1⟩:=g1.int
 obtain ⟨x1_3,us1_3,rfl,w1_3,g1⟩:=g1.int
 obtain ⟨x1_4,us1_4,rfl,w1_4,g1⟩:=g1.int
 obtain ⟨x1_5,us1_5,rfl,w1_5,g1⟩:=g1.int
 obtain ⟨x1_6,us1_6,rfl,w1_6,g1⟩:=g1.int
 obtain rfl:=g1.nil
 obtain ⟨A2,n2,c2,C2,rfl,hrc2⟩:=open_cast (hval 2 42 v2 rfl rfl) h2
 obtain ⟨a3,rfl,_,_,w3⟩:=open_int Try.underlying3 (hval 3 3 v3 rfl rfl) h3
 obtain ⟨A4,n4,c4,rows4,rfl,hr4,hm4⟩:=open_rows Try.underlying22 (show ksOf Try.prog 6 3=some [.int .i64] by kernel_rfl) (by kernel_rfl) (by decide) (hval 4 22 v4 rfl rfl) h4
 obtain ⟨l4,rfl,hp4⟩:=rows_ofP (f:=inCells) (p:=fun _=>True) (fun x hx=>in_openO (hm4 x hx))
 obtain ⟨cs5,rfl,g5⟩:=open_struct Try.underlying80 (show ksOf Try.prog 6 80=some [.int .i64,.int .i64,.int .i64,.int .i64] by kernel_rfl) (hval 5 80 v5 rfl rfl) h5
 obtain ⟨x5_0,us5_0,rfl,w5_0,g5⟩:=g5.int
 obtain ⟨x5_1,us5_1,rfl,w5_1,g5⟩:=g5.int
 obtain ⟨x5_2,us5_2,rfl,w5_2,g5⟩:=g5.int
 obtain ⟨x5_3,us5_3,rfl,w5_3,g5⟩:=g5.int
 obtain rfl:=g5.nil
 obtain ⟨A6,n6,c6,rows6,rfl,hr6,hm6⟩:=open_rows Try.underlying81 (show ksOf Try.prog 6 91=some [.int .i64,.int .i64,.int .i64] by kernel_rfl) (by kernel_rfl) (by decide) (hval 6 81 v6 rfl rfl) h6
 obtain ⟨l6,rfl,hp6⟩:=rows_ofP (f:=shCells) (p:=fun _=>True) (fun x hx=>sh_open (hm6 x hx))
 obtain ⟨a7,rfl,_,_,w7⟩:=open_int Try.underlying3 (hval 7 3 v7 rfl rfl) h7
 obtain ⟨a8,rfl,_,_,w8⟩:=open_int Try.underlying3 (hval 8 3 v8 rfl rfl) h8
 obtain ⟨a9,rfl,_,_,w9⟩:=open_int Try.underlying3 (hval 9 3 v9 rfl rfl) h9
 obtain ⟨a10,rfl,_,_,w10⟩:=open_int Try.underlying62 (hval 10 62 v10 rfl rfl) h10
 refine (topManned_T A0 D0 n0 c0 m0 k0 L0 W hr0 x1_0 x1_1 x1_2 x1_3 x1_4 x1_5 x1_6 A2 n2 c2 C2 hrc2 a3 A4 n4 c4 l4 hr4 ⟨x5_0,x5_1,x5_2,x5_3⟩ A6 n6 c6 l6 hr6 (open_nilO Try.underlying81 h6) a7 a8 a9 a10 (by simp only [Lit.wf,Bool.and_eq_true,decide_eq_true_eq] at w10;exact w10)).mono fun e W' ⟨he,hw⟩=>?_
 subst he
 exact ⟨_,rfl,⟨_,_,_,[],_,[],hW',trodAll_mk1 (shut_bool (by kernel_rfl) true),hargs W' hw,rfl,hw.frame _,fun h=>by cases h⟩⟩
theorem topManned_holds:Rows.TopMannedSaid:=
 OpenClaim.holds_of_wide 6 Try.f6 rfl rfl rfl rfl rfl rfl rfl ⟨rfl,rfl,rfl,rfl,rfl⟩ rfl rfl rfl rfl rfl (by kernel_rfl) Try.func6 (by kernel_rfl)
   (of_decide_eq_true (by kernel_rfl)) (by unfold Func.isWrapper;first|(rw [if_pos (by decide +kernel)];kernel_rfl)|(rw [if_neg (by decide +kernel)];exact ⟨rfl,rfl⟩))
   (fun os started H enc _=>topManned_lifted os started H enc)
#print axioms topManned_holds
end Go.Proofs.Ytcjkndjjbjoehaa
