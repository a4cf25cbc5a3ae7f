/- RouteReached holds: whatever the input, it returns true and leaves it as it was. No condition. -/
import Derived.Test.YtcjkndjjbjoehaaGreatXBA
import Derived.Test.YtcjkndjjbjoehaaGreatXBB
import Derived.Test.YtcjkndjjbjoehaaGreatXBC
import Derived.Test.YtcjkndjjbjoehaaGreatXBD
import Derived.Test.YtcjkndjjbjoehaaGreatXBE
import Derived.Test.YtcjkndjjbjoehaaGreatXBF
import Derived.Test.YtcjkndjjbjoehaaGreatXBG
import Derived.Test.YtcjkndjjbjoehaaGreatXBH
import Derived.Test.YtcjkndjjbjoehaaGreatXBI
import Derived.Test.YtcjkndjjbjoehaaGreatXBJ
import Derived.Test.YtcjkndjjbjoehaaGreatXBK
import Derived.Test.YtcjkndjjbjoehaaGreatXBL
import Derived.Test.YtcjkndjjbjoehaaGreatXBM
import Derived.Test.YtcjkndjjbjoehaaGreatXBN
import Derived.Test.YtcjkndjjbjoehaaGreatXBO
import Derived.Test.YtcjkndjjbjoehaaGreatXBP
import Derived.Test.YtcjkndjjbjoehaaGreatX13B
import Derived.Test.YtcjkndjjbjoehaaGreatX13A
import Derived.ProofKit
import Derived.Lib.SmallJoins
import Derived.RangeFuncNested
import Derived.RangeFuncCalls
import Derived.LoopIn
import Derived.RangeFuncLeaves
import Derived.RangeFuncRecord
import Derived.Maps.AppendAt
import Derived.IntWalk
import Derived.Orders
import Derived.Still
import Derived.WalkKit
import Derived.Lib.Hide
import Derived.OrdersIn
import Derived.TacticsIn
import Derived.Test.YtcjkndjjbjoehaaGreatChecked
import Derived.Laws.MakeOwn
import Derived.Laws.StructEq
set_option linter.unusedVariables false
set_option linter.unusedSimpArgs false
set_option maxRecDepth 100000
set_option maxHeartbeats 2000000
namespace Go.Proofs.YtcjkndjjbjoehaaGreat
open Go.ChangeShapes Go.WideShapes Go.ChangeAt Go.RowKit
set_option linter.unusedVariables false
set_option linter.unusedSimpArgs false
set_option maxRecDepth 100000
theorem routeReached_lifted (os:Os) (started:os.Started) (H:Type) (enc:TypeId×Value→H) :
   ReturnsInHanded {} Tryz.checked os 13 .any (Rows.routeReachedSpec.pre6 enc Tryz.prog Tryz.f13 Rows.routeReachedRow.domain false) (Rows.routeReachedSpec.post enc Tryz.prog Tryz.f13 false true false false):=by
 refine returnsInHanded_of_change (C:=Tryz.checked) Tryz.own started (by kernel_rfl) Tryz.func13
   (ChangeSpec.witness6 (enc:=enc) (C:=Tryz.checked) false ⟨#[],#[.agg #[.slice none 0 0,.slice none 0 0],.agg #[.int .i64 0,.int .i64 0,.int .i64 0,.int .i64 0,.int .i64 0,.int .i64 0,.int .i64 0],.slice none 0 0,.int .i64 0,.slice none 0 0,.int .i64 0],[]⟩ 8 (by kernel_rfl) (by kernel_rfl) (by kernel_rfl) (by kernel_rfl)) ?_
 intro W base args ds gs before hval0 hW hcnd _
 have hval:∀ (j:Nat) t v,Tryz.f13.params[j]?=some t→args[j]?=some v→Value.okWide Tryz.prog W .any base t v:=hval0
 have hW':=hW
 obtain ⟨p,q,hA0,hV,rfl,hfz,hnd⟩:=hW
 have hA:DataW.TrodAll enc Tryz.prog W 0 (fun _=>true) true Tryz.f13.params.toList args.toList ds p:=hA0
 obtain ⟨rfl,rfl⟩:=trodVars_none hV
 simp only [List.append_nil] at hW'
 have hlt:∀ x∈p,x.block<W.heap.size:=fun x hx=>by simpa using hW'.lt x hx
 have hargs:∀ W',Ext W W'→DataW.TrodAll enc Tryz.prog W' 0 (fun b=>decide (b<W.heap.size)) true Tryz.f13.params.toList args.toList ds p:=fun W' hb=>trodAll_ext Tryz.laidOut hb (by kernel_rfl) hA hlt
 clear hA0 hval0
 obtain ⟨args⟩:=args
 rw [Tryz.params13] at hA hval
 simp only at hA
 obtain ⟨v0,as0,d0,ds0,p0,q0,rfl,rfl,rfl,h0,hA0⟩:=trodAll_cons hA
 obtain ⟨v1,as1,d1,ds1,p1,q1,rfl,rfl,rfl,h1,hA1⟩:=trodAll_cons hA0
 obtain ⟨v2,as2,d2,ds2,p2,q2,rfl,rfl,rfl,h2,hA2⟩:=trodAll_cons hA1
 obtain ⟨v3,as3,d3,ds3,p3,q3,rfl,rfl,rfl,h3,hA3⟩:=trodAll_cons hA2
 obtain ⟨v4,as4,d4,ds4,p4,q4,rfl,rfl,rfl,h4,hA4⟩:=trodAll_cons hA3
 obtain ⟨v5,as5,d5,ds5,p5,q5,rfl,rfl,rfl,h5,hA5⟩:=trodAll_cons hA4
 obtain ⟨rfl,rfl,rfl⟩:=trodAll_nil hA5
 obtain ⟨B0,L0,A0,n0,c0,D0,m0,k0,rfl,hp0,hr0⟩:=open_chart (hval 0 25 v0 rfl rfl) h0
 obtain ⟨cs1,rfl,g1⟩:=open_struct Tryz.underlying29 (show ksOf Tryz.prog 6 29=some [.int .i64,.int .i64,.int .i64,.int .i64,.int .i64,.int .i64,.int .i64] by kernel_rfl) (hval 1 29 v1 rfl rfl) h1
 obtain ⟨x1_0,us1_0,rfl,w1_0,g1⟩:=g1.int
 obtain ⟨x1_1,us1_1,rfl,w1_1,g1⟩:=g1.int
 obtain ⟨x1_2,us1_2,rfl,w1_2,g1⟩:=g1.int
 obtain ⟨x1_3,us1_3,rfl,w1_3,g1⟩:=g1.int
 obtain ⟨x1_4,us1_4,rfl,w1_4,g1⟩:=g1.int
 obtain ⟨x1_5,us1_5,rfl,w1_5,g1⟩:=g1.int
 obtain ⟨x1_6,us1_6,rfl,w1_6,g1⟩:=g1.int
 obtain rfl:=g1.nil
 obtain ⟨A2,n2,c2,C2,rfl,hrc2⟩:=open_cast (hval 2 30 v2 rfl rfl) h2
 obtain ⟨a3,rfl,_,_,w3⟩:=open_int Tryz.underlying3 (hval 3 3 v3 rfl rfl) h3
 obtain ⟨A4,n4,c4,rows4,rfl,hr4,hm4⟩:=open_rows Tryz.underlying31 (show ksOf Tryz.prog 6 3=some [.int .i64] by kernel_rfl) (by kernel_rfl) (by decide) (hval 4 31 v4 rfl rfl) h4
 obtain ⟨l4,rfl,hp4⟩:=rows_ofP (f:=inCells) (p:=fun _=>True) (fun x hx=>in_openO (hm4 x hx))
 obtain ⟨a5,rfl,_,_,w5⟩:=open_int Tryz.underlying3 (hval 5 3 v5 rfl rfl) h5
 refine (routeReached_T A0 D0 n0 c0 m0 k0 L0 W hr0 x1_0 x1_1 x1_2 x1_3 x1_4 x1_5 x1_6 A2 n2 c2 C2 hrc2 B0 hp0 a3 A4 n4 c4 l4 hr4 (open_sh Tryz.underlying31 (by kernel_rfl) h4).1 (open_sh Tryz.underlying31 (by kernel_rfl) h4).2 a5).mono fun e W' ⟨he,hw⟩=>?_
 subst he
 exact ⟨_,rfl,⟨_,_,_,[],_,[],hW',trodAll_mk1 (shut_bool (by kernel_rfl) true),hargs W' hw,rfl,hw.frame _,fun h=>by cases h⟩⟩
theorem routeReached_holds:Rows.RouteReachedSaid:=
 OpenClaim.holds_of_wide 13 Tryz.f13 rfl rfl rfl rfl rfl rfl rfl ⟨rfl,rfl,rfl,rfl,rfl⟩ rfl rfl rfl rfl rfl (by kernel_rfl) Tryz.func13 (by kernel_rfl)
   (of_decide_eq_true (by kernel_rfl)) (by unfold Func.isWrapper;first|(rw [if_pos (by decide +kernel)];kernel_rfl)|(rw [if_neg (by decide +kernel)];exact ⟨rfl,rfl⟩))
   (fun os started H enc _=>routeReached_lifted os started H enc)
#print axioms routeReached_holds
end Go.Proofs.YtcjkndjjbjoehaaGreat
