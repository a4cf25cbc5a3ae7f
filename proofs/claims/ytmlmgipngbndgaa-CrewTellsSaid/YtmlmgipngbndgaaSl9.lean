/- Arithmetic of unsigned numbers, masks and shifts. -/
import Derived.Test.YtmlmgipngbndgaaSl8
namespace Go.Proofs.Ytmlmgipngbndgaa
set_option linter.unusedVariables false
set_option linter.unusedSimpArgs false
open Go.RowKit
def InU (z : Int) : Prop := 0 ≤ z ∧ z ≤ 18446744073709551615
theorem wrapU {z : Int} (h : InU z) : IntKind.u64.wrap z = z := IntWalk.u64_in _ h
section
variable {c : Cx} {F : Fr} {H : Hp} {d : Option Tmp} {ty t t' : TypeId} {pos : String} {af : Array Edge} {g : Option (Nat × Bool)} {x y : Operand} {m n : Int}
theorem oq_addU (hx : ev F x = some (.int .u64 m)) (hy : ev F y = some (.int .u64 n)) (hr : InU (m + n)) : OQ c ⟨d, .binOp .add t x y t', ty, pos, af, g⟩ F H (.int .u64 (m + n)) := .of fun D a w ha _ => by
  have := wrapU hr
  simp [execOp, ha.ev hx, ha.ev hy, eqGuard, binOp, Op.intArith, go_sem, this]
theorem oq_mulU (hx : ev F x = some (.int .u64 m)) (hy : ev F y = some (.int .u64 n)) (hr : InU (m * n)) : OQ c ⟨d, .binOp .mul t x y t', ty, pos, af, g⟩ F H (.int .u64 (m * n)) := .of fun D a w ha _ => by
  have := wrapU hr
  simp [execOp, ha.ev hx, ha.ev hy, eqGuard, binOp, Op.intArith, go_sem, this]
theorem oq_quoU (hx : ev F x = some (.int .u64 m)) (hy : ev F y = some (.int .u64 n)) (h0 : n ≠ 0) (hr : InU (m.tdiv n)) : OQ c ⟨d, .binOp .quo t x y t', ty, pos, af, g⟩ F H (.int .u64 (m.tdiv n)) := .of fun D a w ha _ => by
  have := wrapU hr
  simp [execOp, ha.ev hx, ha.ev hy, eqGuard, binOp, Op.intDiv, go_sem, this, h0]
theorem oq_remU (hx : ev F x = some (.int .u64 m)) (hy : ev F y = some (.int .u64 n)) (h0 : n ≠ 0) : OQ c ⟨d, .binOp .rem t x y t', ty, pos, af, g⟩ F H (.int .u64 (m.tmod n)) := .of fun D a w ha _ => by
  simp [execOp, ha.ev hx, ha.ev hy, eqGuard, binOp, Op.intDiv, go_sem, h0]
theorem oq_shr {k k' : IntKind} (hx : ev F x = some (.int k m)) (hy : ev F y = some (.int k' n)) (h0 : 0 ≤ n) : OQ c ⟨d, .binOp .shr t x y t', ty, pos, af, g⟩ F H (.int k (m.fdiv (2 ^ (min n.toNat k.bits)))) := .of fun D a w ha _ => by
  have : ¬ n < 0 := by omega
  simp [execOp, ha.ev hx, ha.ev hy, eqGuard, binOp, Op.shift, go_sem, this]
theorem and_mask {a : Int} {j : Nat} (h : InU a) (hj : j < 64) : (BitVec.ofInt 64 a &&& BitVec.ofInt 64 (2 ^ j - 1)).toNat = (a % 2 ^ j).toNat := by
  have h1 : ((2 : Int) ^ j - 1) = ((2 ^ j - 1 : Nat) : Int) := by
    have : 0 < 2 ^ j := Nat.pow_pos (by omega)
    rw [Int.ofNat_sub (by omega)]; simp
  have ha : a = (a.toNat : Int) := (Int.toNat_of_nonneg h.1).symm
  have hlt : a.toNat < 2 ^ 64 := by have := h.2; omega
  have hp : 2 ^ j - 1 < 2 ^ 64 := by
    have : 2 ^ j < 2 ^ 64 := Nat.pow_lt_pow_right (by omega) hj
    omega
  rw [h1, ha, BitVec.ofInt_natCast, BitVec.ofInt_natCast, BitVec.toNat_and, BitVec.toNat_ofNat, BitVec.toNat_ofNat, Nat.mod_eq_of_lt hlt, Nat.mod_eq_of_lt hp, Nat.and_two_pow_sub_one_eq_mod]
  have : ((a.toNat : Int) % 2 ^ j) = ((a.toNat % 2 ^ j : Nat) : Int) := by simp
  rw [this, Int.toNat_natCast]
theorem oq_andU {j : Nat} (hx : ev F x = some (.int .u64 m)) (hy : ev F y = some (.int .u64 (2 ^ j - 1))) (h : InU m) (hj : j < 64) : OQ c ⟨d, .binOp .and t x y t', ty, pos, af, g⟩ F H (.int .u64 (m % 2 ^ j)) := .of fun D a w ha _ => by
  have hm := and_mask h hj
  have hp : (0 : Int) < 2 ^ j := Int.pow_pos (by omega)
  have h0 := Int.emod_nonneg m (Int.ne_of_gt hp)
  have h1 : m % 2 ^ j ≤ m := by
    rw [Int.emod_def]
    exact Int.sub_le_self _ (Int.mul_nonneg (Int.le_of_lt hp) (Int.ediv_nonneg h.1 (Int.le_of_lt hp)))
  have hw : IntKind.u64.wrap (((BitVec.ofInt IntKind.u64.bits m &&& BitVec.ofInt IntKind.u64.bits (2 ^ j - 1)).toNat : Nat) : Int) = m % 2 ^ j := by
    rw [show (BitVec.ofInt IntKind.u64.bits m &&& BitVec.ofInt IntKind.u64.bits (2 ^ j - 1)).toNat = (m % 2 ^ j).toNat from hm, Int.toNat_of_nonneg h0]
    exact wrapU ⟨h0, by have := h.2; omega⟩
  simp only [execOp, ha.ev hx, ha.ev hy, eqGuard, binOp, Op.intBits]
  rw [hw]
  simp [go_sem]
theorem oq_convU {a0 a1 : Bool} {s0 s1 : Nat} {z0 z1 : List Value} {k : IntKind} (ht : tyAt c.tys t = some ⟨a0, s0, z0, .int k⟩) (ht' : tyAt c.tys t' = some ⟨a1, s1, z1, .int .u64⟩) (hx : ev F x = some (.int k m)) (hr : InU m) :
    OQ c ⟨d, .convert t t' x, ty, pos, af, g⟩ F H (.int .u64 m) := .of fun D a w ha _ => by
  have h := (c.ty ht).kind
  have h2 := h w
  have h' := (c.ty ht').kind
  have h3 := h' w
  have := wrapU hr
  simp [execOp, ha.ev hx, convert, go_sem, h2, h3, Conv.intToInt, this]
theorem oq_shr32 {k' : IntKind} (hx : ev F x = some (.int .u64 m)) (hy : ev F y = some (.int k' 32)) (_ : 0 ≤ m) : OQ c ⟨d, .binOp .shr t x y t', ty, pos, af, g⟩ F H (.int .u64 (m / 4294967296)) := by
  have := oq_shr (c := c) (d := d) (ty := ty) (t := t) (t' := t') (pos := pos) (af := af) (g := g) (H := H) hx hy (by omega)
  rw [show (2 : Int) ^ (min (32 : Int).toNat IntKind.u64.bits) = 4294967296 from rfl, Int.fdiv_eq_ediv_of_nonneg _ (by omega)] at this
  exact this
theorem oq_shrLow {k' : IntKind} (hx : ev F x = some (.int .u64 m)) (hy : ev F y = some (.int k' 32)) (h : 0 ≤ m ∧ m < 4294967296) : OQ c ⟨d, .binOp .shr t x y t', ty, pos, af, g⟩ F H (.int .u64 0) := by
  have := oq_shr32 (c := c) (d := d) (ty := ty) (t := t) (t' := t') (pos := pos) (af := af) (g := g) (H := H) hx hy h.1
  rw [show m / 4294967296 = 0 by omega] at this
  exact this
theorem oq_andLow (hx : ev F x = some (.int .u64 m)) (hy : ev F y = some (.int .u64 4294967295)) (h : 0 ≤ m ∧ m < 4294967296) : OQ c ⟨d, .binOp .and t x y t', ty, pos, af, g⟩ F H (.int .u64 m) := by
  have := oq_andU (c := c) (d := d) (ty := ty) (t := t) (t' := t') (pos := pos) (af := af) (g := g) (H := H) (j := 32) hx hy ⟨h.1, by omega⟩ (by omega)
  rw [show m % 2 ^ 32 = m by omega] at this
  exact this
end
end Go.Proofs.Ytmlmgipngbndgaa
