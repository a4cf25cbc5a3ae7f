/- A part of the proof: rules for walks, and contracts of functions (2). -/
import Derived.Test.YtcjkndjjbjoehaaGreatX12A
import Derived.Test.YtcjkndjjbjoehaaGreatX8A
import Derived.Test.YtcjkndjjbjoehaaGreatX8B
import Derived.Test.YtcjkndjjbjoehaaGreatX8C
import Derived.Test.YtcjkndjjbjoehaaGreatX8D
import Derived.Test.YtcjkndjjbjoehaaGreatX8E
import Derived.Test.YtcjkndjjbjoehaaGreatX8F
import Derived.Test.YtcjkndjjbjoehaaGreatX8G
import Derived.Test.YtcjkndjjbjoehaaGreatX8H
import Derived.Test.YtcjkndjjbjoehaaGreatX8I
import Derived.Test.YtcjkndjjbjoehaaGreatX8J
import Derived.Test.YtcjkndjjbjoehaaGreatX8K
import Derived.Test.YtcjkndjjbjoehaaGreatX8L
import Derived.Test.YtcjkndjjbjoehaaGreatX8M
import Derived.Test.YtcjkndjjbjoehaaGreatX8N
import Derived.Test.YtcjkndjjbjoehaaGreatX8O
import Derived.Test.YtcjkndjjbjoehaaGreatX8P
import Derived.Test.YtcjkndjjbjoehaaGreatChecked
import Derived.Test.YtcjkndjjbjoehaaGreatRows
import Derived.ProofKit
import Derived.Lib.SmallJoins
import Derived.Carry
import Derived.WalkKit
import Derived.Lib.Hide
set_option linter.unusedVariables false
set_option linter.unusedSimpArgs false
set_option maxRecDepth 100000
set_option maxHeartbeats 2000000
namespace Go.Proofs.YtcjkndjjbjoehaaGreat
open Go.ChangeShapes Go.WideShapes Go.ChangeAt Go.RowKit
theorem Tryz.own : ownKnob Tryz.prog.godebug = none := by kernel_rfl
theorem Tryz.laidOut : laidOutB Tryz.prog = true := by kernel_rfl
section
variable {H : Type} {enc : TypeId × Value → H} {P : Program}
theorem trodAll_ext (hl : laidOutB P = true) {W W' : World} (hb : Ext W W') : ∀ {ts : List TypeId} {vs : List Value} {ds : List (DataW H)} {p : List MemPlace}, (ts.all fun t => P.readableRec t && decide (t < P.types.size)) = true →
   DataW.TrodAll enc P W 0 (fun _ => true) true ts vs ds p → (∀ x ∈ p, x.block < W.heap.size) → DataW.TrodAll enc P W' 0 (fun b => decide (b < W.heap.size)) true ts vs ds p
 | [], vs, ds, p, _, h, _ => by
   obtain ⟨rfl, rfl, rfl⟩ := trodAll_nil h
   exact trodAll_mk0
 | t :: ts, vs, ds, p, ht, h, hlt => by
   obtain ⟨v, vs', d, ds', p0, q0, rfl, rfl, rfl, h1, h2⟩ := trodAll_cons h
   simp only [List.all_cons, Bool.and_eq_true, decide_eq_true_eq] at ht
   exact ⟨p0, q0, Below.trod hl ht.1.1 ht.1.2 h1 hb (fun x hx => hlt x (List.mem_append_left _ hx)), trodAll_ext hl hb ht.2 h2 (fun x hx => hlt x (List.mem_append_right _ hx)), rfl⟩
end
end Go.Proofs.YtcjkndjjbjoehaaGreat
