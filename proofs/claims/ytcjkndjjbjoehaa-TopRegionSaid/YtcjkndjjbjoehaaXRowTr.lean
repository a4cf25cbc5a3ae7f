/- The region of loads is the sum of theirs: TopRegion holds, whatever the input. No condition. -/
import Derived.Test.YtcjkndjjbjoehaaXTrI
set_option linter.unusedVariables false
set_option linter.unusedSimpArgs false
set_option maxRecDepth 100000
set_option maxHeartbeats 2000000
namespace Go.Proofs.Ytcjkndjjbjoehaa
open Go.ChangeShapes Go.WideShapes Go.ChangeAt Go.RowKit
set_option linter.unusedVariables false
set_option linter.unusedSimpArgs false
set_option maxRecDepth 100000
theorem ld_openO {x:List Value} (h:LfsOk [.int .i64,.int .i64,.int .i64,.int .i64] x):∃ y:Ld,x=ldCells y∧True:=by
 obtain ⟨z0,u0,rfl,_,h⟩:=h.int
 obtain ⟨z1,u1,rfl,_,h⟩:=h.int
 obtain ⟨z2,u2,rfl,_,h⟩:=h.int
 obtain ⟨z3,u3,rfl,_,h⟩:=h.int
 obtain rfl:=h.nil
 exact ⟨⟨z0,z1,z2,z3⟩,rfl,trivial⟩
theorem u8_openO {x:List Value} (h:LfsOk [.int .u8] x):∃ y:Int,x=u8Cells y∧(0≤y∧y≤255):=by
 obtain ⟨z0,u0,rfl,w0,h⟩:=h.int
 obtain rfl:=h.nil
 exact ⟨z0,rfl,by simp only [Lit.wf,Bool.and_eq_true,decide_eq_true_eq] at w0;exact w0⟩
theorem topRegion_lifted (os:Os) (started:os.Started) (H:Type) (enc:TypeId×Value→H) :
   ReturnsInHanded {} Try.checked os 7 .any (Rows.topRegionSpec.pre6 enc Try.prog Try.f7 Rows.topRegionRow.domain false) (Rows.topRegionSpec.post enc Try.prog Try.f7 false true false false):=by
 refine returnsInHanded_of_change (C:=Try.checked) Try.own started (by kernel_rfl) Try.func7
   (ChangeSpec.witness6 (enc:=enc) (C:=Try.checked) false ⟨#[],#[.slice none 0 0,.agg #[.int .i64 0,.int .i64 0,.int .i64 0],.slice none 0 0],[]⟩ 8 (by kernel_rfl) (by kernel_rfl) (by kernel_rfl) (by kernel_rfl)) ?_
 intro W base args ds gs before hval0 hW hcnd _
 have hval:∀ (j:Nat) t v,Try.f7.params[j]?=some t→args[j]?=some v→Value.okWide Try.prog W .any base t v:=hval0
 have hW':=hW
 obtain ⟨p,q,hA0,hV,rfl,hfz,hnd⟩:=hW
 have hA:DataW.TrodAll enc Try.prog W 0 (fun _=>true) true Try.f7.params.toList args.toList ds p:=hA0
 obtain ⟨rfl,rfl⟩:=trodVars_none hV
 simp only [List.append_nil] at hW'
 have hlt:∀ x∈p,x.block<W.heap.size:=fun x hx=>by simpa using hW'.lt x hx
 have hargs:∀ W',Ext W W'→DataW.TrodAll enc Try.prog W' 0 (fun b=>decide (b<W.heap.size)) true Try.f7.params.toList args.toList ds p:=fun W' hb=>trodAll_ext Try.laidOut hb (by kernel_rfl) hA hlt
 clear hA0 hval0
 obtain ⟨args⟩:=args
 rw [Try.params7] at hA hval
 simp only at hA
 obtain ⟨v0,as0,d0,ds0,p0,q0,rfl,rfl,rfl,h0,hA0⟩:=trodAll_cons hA
 obtain ⟨v1,as1,d1,ds1,p1,q1,rfl,rfl,rfl,h1,hA1⟩:=trodAll_cons hA0
 obtain ⟨v2,as2,d2,ds2,p2,q2,rfl,rfl,rfl,h2,hA2⟩:=trodAll_cons hA1
 obtain ⟨rfl,rfl,rfl⟩:=trodAll_nil hA2
 obtain ⟨A0,n0,c0,rows0,rfl,hr0,hm0⟩:=open_rows Try.underlying96 (show ksOf Try.prog 6 113=some [.int .i64,.int .i64,.int .i64,.int .i64] by kernel_rfl) (by kernel_rfl) (by decide) (hval 0 96 v0 rfl rfl) h0
 obtain ⟨l0,rfl,hp0⟩:=rows_ofP (f:=ldCells) (p:=fun _=>True) (fun x hx=>ld_openO (hm0 x hx))
 obtain ⟨cs1,rfl,g1⟩:=open_struct Try.underlying98 (show ksOf Try.prog 6 98=some [.int .i64,.int .i64,.int .i64] by kernel_rfl) (hval 1 98 v1 rfl rfl) h1
 obtain ⟨x1_0,us1_0,rfl,w1_0,g1⟩:=g1.int
 obtain ⟨x1_1,us1_1,rfl,w1_1,g1⟩:=g1.int
 obtain ⟨x1_2,us1_2,rfl,w1_2,g1⟩:=g1.int
 obtain rfl:=g1.nil
 obtain ⟨A2,n2,c2,rows2,rfl,hr2,hm2⟩:=open_rows Try.underlying99 (show ksOf Try.prog 6 5=some [.int .u8] by kernel_rfl) (by kernel_rfl) (by decide) (hval 2 99 v2 rfl rfl) h2
 obtain ⟨l2,rfl,hp2⟩:=rows_ofP (f:=u8Cells) (p:=fun x=>0≤x∧x≤255) (fun x hx=>u8_openO (hm2 x hx))
 refine (topRegion_T A0 n0 c0 l0 W hr0 x1_0 x1_1 x1_2 A2 n2 c2 l2 hr2 hp2).mono fun e W' ⟨he,hw⟩=>?_
 subst he
 exact ⟨_,rfl,⟨_,_,_,[],_,[],hW',trodAll_mk1 (shut_bool (by kernel_rfl) true),hargs W' hw,rfl,hw.frame _,fun h=>by cases h⟩⟩
theorem topRegion_holds:Rows.TopRegionSaid:=
 OpenClaim.holds_of_wide 7 Try.f7 rfl rfl rfl rfl rfl rfl rfl ⟨rfl,rfl,rfl,rfl,rfl⟩ rfl rfl rfl rfl rfl (by kernel_rfl) Try.func7 (by kernel_rfl)
   (of_decide_eq_true (by kernel_rfl)) (by unfold Func.isWrapper;first|(rw [if_pos (by decide +kernel)];kernel_rfl)|(rw [if_neg (by decide +kernel)];exact ⟨rfl,rfl⟩))
   (fun os started H enc _=>topRegion_lifted os started H enc)
#print axioms topRegion_holds
end Go.Proofs.Ytcjkndjjbjoehaa
