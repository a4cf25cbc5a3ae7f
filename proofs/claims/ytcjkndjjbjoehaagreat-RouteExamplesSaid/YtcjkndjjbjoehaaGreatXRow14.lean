/- RouteExamples holds: whatever the input, it returns true and leaves it as it was. No condition. -/
import Derived.Test.YtcjkndjjbjoehaaGreatXBA
import Derived.Test.YtcjkndjjbjoehaaGreatXBB
import Derived.Test.YtcjkndjjbjoehaaGreatXBC
import Derived.Test.YtcjkndjjbjoehaaGreatXBD
import Derived.Test.YtcjkndjjbjoehaaGreatXBE
import Derived.Test.YtcjkndjjbjoehaaGreatXBF
import Derived.Test.YtcjkndjjbjoehaaGreatXBG
import Derived.Test.YtcjkndjjbjoehaaGreatXBH
import Derived.Test.YtcjkndjjbjoehaaGreatXBI
import Derived.Test.YtcjkndjjbjoehaaGreatXBJ
import Derived.Test.YtcjkndjjbjoehaaGreatXBK
import Derived.Test.YtcjkndjjbjoehaaGreatXBL
import Derived.Test.YtcjkndjjbjoehaaGreatXBM
import Derived.Test.YtcjkndjjbjoehaaGreatXBN
import Derived.Test.YtcjkndjjbjoehaaGreatXBO
import Derived.Test.YtcjkndjjbjoehaaGreatXBP
import Derived.Test.YtcjkndjjbjoehaaGreatX14B
import Derived.Test.YtcjkndjjbjoehaaGreatX14A
import Derived.ProofKit
import Derived.Lib.SmallJoins
import Derived.RangeFuncNested
import Derived.RangeFuncCalls
import Derived.LoopIn
import Derived.RangeFuncLeaves
import Derived.RangeFuncRecord
import Derived.Maps.AppendAt
import Derived.IntWalk
import Derived.Orders
import Derived.Still
import Derived.WalkKit
import Derived.Lib.Hide
import Derived.OrdersIn
import Derived.TacticsIn
import Derived.Laws.MakeOwn
import Derived.Laws.StructEq
import Derived.Test.YtcjkndjjbjoehaaGreatChecked
set_option linter.unusedVariables false
set_option linter.unusedSimpArgs false
set_option maxRecDepth 100000
set_option maxHeartbeats 2000000
namespace Go.Proofs.YtcjkndjjbjoehaaGreat
open Go.ChangeShapes Go.WideShapes Go.ChangeAt Go.RowKit
set_option linter.unusedVariables false
set_option linter.unusedSimpArgs false
set_option maxRecDepth 100000
theorem routeExamples_lifted (os:Os) (started:os.Started) (H:Type) (enc:TypeId×Value→H) :
   ReturnsInHanded {} Tryz.checked os 14 .any (Rows.routeExamplesSpec.pre6 enc Tryz.prog Tryz.f14 Rows.routeExamplesRow.domain false) (Rows.routeExamplesSpec.post enc Tryz.prog Tryz.f14 false true false false):=by
 refine returnsInHanded_of_change (C:=Tryz.checked) Tryz.own started (by kernel_rfl) Tryz.func14
   (ChangeSpec.witness6 (enc:=enc) (C:=Tryz.checked) false ⟨#[],#[],[]⟩ 8 (by kernel_rfl) (by kernel_rfl) (by kernel_rfl) (by kernel_rfl)) ?_
 intro W base args ds gs before hval0 hW hcnd _
 have hval:∀ (j:Nat) t v,Tryz.f14.params[j]?=some t→args[j]?=some v→Value.okWide Tryz.prog W .any base t v:=hval0
 have hW':=hW
 obtain ⟨p,q,hA0,hV,rfl,hfz,hnd⟩:=hW
 have hA:DataW.TrodAll enc Tryz.prog W 0 (fun _=>true) true Tryz.f14.params.toList args.toList ds p:=hA0
 obtain ⟨rfl,rfl⟩:=trodVars_none hV
 simp only [List.append_nil] at hW'
 have hlt:∀ x∈p,x.block<W.heap.size:=fun x hx=>by simpa using hW'.lt x hx
 have hargs:∀ W',Ext W W'→DataW.TrodAll enc Tryz.prog W' 0 (fun b=>decide (b<W.heap.size)) true Tryz.f14.params.toList args.toList ds p:=fun W' hb=>trodAll_ext Tryz.laidOut hb (by kernel_rfl) hA hlt
 clear hA0 hval0
 obtain ⟨args⟩:=args
 rw [Tryz.params14] at hA hval
 simp only at hA
 obtain ⟨rfl,rfl,rfl⟩:=trodAll_nil hA
 refine (routeExamples_T W).mono fun e W' ⟨he,hw⟩=>?_
 subst he
 exact ⟨_,rfl,⟨_,_,_,[],_,[],hW',trodAll_mk1 (shut_bool (by kernel_rfl) true),hargs W' hw,rfl,hw.frame _,fun h=>by cases h⟩⟩
theorem routeExamples_holds:Rows.RouteExamplesSaid:=
 OpenClaim.holds_of_wide 14 Tryz.f14 rfl rfl rfl rfl rfl rfl rfl ⟨rfl,rfl,rfl,rfl,rfl⟩ rfl rfl rfl rfl rfl (by kernel_rfl) Tryz.func14 (by kernel_rfl)
   (of_decide_eq_true (by kernel_rfl)) (by unfold Func.isWrapper;first|(rw [if_pos (by decide +kernel)];kernel_rfl)|(rw [if_neg (by decide +kernel)];exact ⟨rfl,rfl⟩))
   (fun os started H enc _=>routeExamples_lifted os started H enc)
#print axioms routeExamples_holds
end Go.Proofs.YtcjkndjjbjoehaaGreat
