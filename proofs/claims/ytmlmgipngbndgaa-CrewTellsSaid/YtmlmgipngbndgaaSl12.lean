/- Arithmetic whose outcome is told in another form. -/
import Derived.Test.YtmlmgipngbndgaaSl11
namespace Go.Proofs.Ytmlmgipngbndgaa
set_option linter.unusedVariables false
set_option linter.unusedSimpArgs false
open Go.RowKit
section
variable {c : Cx} {F : Fr} {H : Hp} {d : Option Tmp} {ty t t' : TypeId} {pos : String} {af : Array Edge} {g : Option (Nat × Bool)} {x y : Operand} {m n k : Int} {v u : Value}
theorem OQ.as {o : Oper} (h : OQ c o F H u) (e : u = v) : OQ c o F H v := e ▸ h
theorem oq_subE (hx : ev F x = some (.int .i64 m)) (hy : ev F y = some (.int .i64 n)) (e : m - n = k ∧ -9223372036854775808 ≤ k ∧ k ≤ 9223372036854775807) : OQ c ⟨d, .binOp .sub t x y t', ty, pos, af, g⟩ F H (.int .i64 k) :=
  (oq_sub hx hy ⟨by omega, by omega⟩).as (by rw [e.1])
theorem oq_addE (hx : ev F x = some (.int .i64 m)) (hy : ev F y = some (.int .i64 n)) (e : m + n = k ∧ -9223372036854775808 ≤ k ∧ k ≤ 9223372036854775807) : OQ c ⟨d, .binOp .add t x y t', ty, pos, af, g⟩ F H (.int .i64 k) :=
  (oq_add hx hy ⟨by omega, by omega⟩).as (by rw [e.1])
theorem oq_min2E {T : Array TypeId} (hx : ev F x = some (.int .i64 m)) (hy : ev F y = some (.int .i64 n)) (e : min m n = k) : OQ c ⟨d, .call ⟨.builtin .min, #[x, y], T⟩, ty, pos, af, g⟩ F H (.int .i64 k) :=
  (oq_min2 hx hy).as (by rw [e])
theorem oq_max2E {T : Array TypeId} (hx : ev F x = some (.int .i64 m)) (hy : ev F y = some (.int .i64 n)) (e : max m n = k) : OQ c ⟨d, .call ⟨.builtin .max, #[x, y], T⟩, ty, pos, af, g⟩ F H (.int .i64 k) :=
  (oq_max2 hx hy).as (by rw [e])
theorem oq_shr1N {k' : IntKind} {a : Nat} (hx : ev F x = some (.int .u64 m)) (hy : ev F y = some (.int k' 1)) (e : m = (a : Int)) : OQ c ⟨d, .binOp .shr t x y t', ty, pos, af, g⟩ F H (.int .u64 ((a / 2 : Nat) : Int)) :=
  (oq_shr1U hx hy (by omega)).as (by subst e; simp)
end
end Go.Proofs.Ytmlmgipngbndgaa
