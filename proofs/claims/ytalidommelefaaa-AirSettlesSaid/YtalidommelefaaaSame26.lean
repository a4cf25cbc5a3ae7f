/- Equal spans. -/
import Derived.Test.YtalidommelefaaaTys
import Derived.Laws.StructEq
namespace Go.Proofs.Ytalidommelefaaa
open Go.RowKit
set_option linter.unusedVariables false
set_option linter.unusedSimpArgs false
/-- Two spans that are the same. -/
theorem oq_same26 {w : World} {N : Nat} {F : Fr} {H : Hp} {M : List Nat} {d : Option Tmp} {ty t' : TypeId} {pos : String} {af : Array Edge} {g : Option (Nat × Bool)} {x y : Operand} {a b : Int}
    (hx : ev F x = some (.agg ⟨[.int .i64 a, .int .i64 b]⟩)) (hy : ev F y = some (.agg ⟨[.int .i64 a, .int .i64 b]⟩)) : OQ (cxM M w N) ⟨d, .binOp .eql 26 x y t', ty, pos, af, g⟩ F H (.bool true) := .of fun D a w ha _ => by
  have hS : Try.prog.underlying 26 = some (.struct (Try.prog.fieldsOf 26)) := by kernel_rfl
  have hp : Try.prog.stoodInHeld 26 = false := by kernel_rfl
  have hm : Try.prog.eqGuardType Try.prog.depth 26 = false := by kernel_rfl
  have u3 := Try.underlying3
  have a3 := Try.isAgg3
  have z3 := Try.sizeOf3
  simp only [execOp, ha.ev hx, ha.ev hy, Sem.run_bind, run_eqGuard_agg _ _ _ _ _ _ _ hm, Result.andThen]
  rw [run_eql_struct, show (10000 : Nat) = 9999 + 1 from rfl, run_equalIn_agg _ 9999 26 _ _ hS hp]
  simp only [Program.fieldsOf, Try.underlying26]
  go_simp
end Go.Proofs.Ytalidommelefaaa
