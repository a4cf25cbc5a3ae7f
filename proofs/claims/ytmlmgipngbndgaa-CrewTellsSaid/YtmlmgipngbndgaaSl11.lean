/- Shifts and masks of small numbers; a cut behind a region. -/
import Derived.Test.YtmlmgipngbndgaaSl10
namespace Go.Proofs.Ytmlmgipngbndgaa
set_option linter.unusedVariables false
set_option linter.unusedSimpArgs false
open Go.RowKit
section
variable {c : Cx} {F : Fr} {H : Hp} {d : Option Tmp} {ty t t' : TypeId} {pos : String} {af : Array Edge} {g : Option (Nat × Bool)} {x y : Operand} {m n : Int}
theorem oq_shr1U {k' : IntKind} (hx : ev F x = some (.int .u64 m)) (hy : ev F y = some (.int k' 1)) (_ : 0 ≤ m) : OQ c ⟨d, .binOp .shr t x y t', ty, pos, af, g⟩ F H (.int .u64 (m / 2)) := by
  have := oq_shr (c := c) (d := d) (ty := ty) (t := t) (t' := t') (pos := pos) (af := af) (g := g) (H := H) hx hy (by omega)
  rw [show (2 : Int) ^ (min (1 : Int).toNat IntKind.u64.bits) = 2 from rfl, Int.fdiv_eq_ediv_of_nonneg _ (by omega)] at this
  exact this
theorem oq_shr1I {k' : IntKind} (hx : ev F x = some (.int .i64 m)) (hy : ev F y = some (.int k' 1)) : OQ c ⟨d, .binOp .shr t x y t', ty, pos, af, g⟩ F H (.int .i64 (m / 2)) := by
  have := oq_shr (c := c) (d := d) (ty := ty) (t := t) (t' := t') (pos := pos) (af := af) (g := g) (H := H) hx hy (by omega)
  rw [show (2 : Int) ^ (min (1 : Int).toNat IntKind.i64.bits) = 2 from rfl, Int.fdiv_eq_ediv_of_nonneg _ (by omega)] at this
  exact this
theorem oq_shr2I {k' : IntKind} (hx : ev F x = some (.int .i64 m)) (hy : ev F y = some (.int k' 2)) : OQ c ⟨d, .binOp .shr t x y t', ty, pos, af, g⟩ F H (.int .i64 (m / 4)) := by
  have := oq_shr (c := c) (d := d) (ty := ty) (t := t) (t' := t') (pos := pos) (af := af) (g := g) (H := H) hx hy (by omega)
  rw [show (2 : Int) ^ (min (2 : Int).toNat IntKind.i64.bits) = 4 from rfl, Int.fdiv_eq_ediv_of_nonneg _ (by omega)] at this
  exact this
theorem oq_and1I (hx : ev F x = some (.int .i64 m)) (hy : ev F y = some (.int .i64 1)) (h : 0 ≤ m ∧ m ≤ 9223372036854775807) : OQ c ⟨d, .binOp .and t x y t', ty, pos, af, g⟩ F H (.int .i64 (m % 2)) := .of fun D a w ha _ => by
  have hm := and_mask (a := m) (j := 1) ⟨h.1, by omega⟩ (by omega)
  rw [show ((2 : Int) ^ 1 - 1) = 1 from rfl, show ((2 : Int) ^ 1) = 2 from rfl] at hm
  have hw : IntKind.i64.wrap (((BitVec.ofInt IntKind.i64.bits m &&& BitVec.ofInt IntKind.i64.bits 1).toNat : Nat) : Int) = m % 2 := by
    rw [show (BitVec.ofInt IntKind.i64.bits m &&& BitVec.ofInt IntKind.i64.bits 1).toNat = (m % 2).toNat from hm, Int.toNat_of_nonneg (by omega)]
    exact wrap_in ⟨by omega, by omega⟩
  simp only [execOp, ha.ev hx, ha.ev hy, eqGuard, binOp, Op.intBits]
  rw [hw]
  simp [go_sem]
end
/-- Where a piece of code ends: slots and blocks, by an index. -/
def cutQ {ι : Type} (ch : ι → Fr) (hc : ι → Hp) (G : Fr) (GH : Hp) : QS := fun e F' H' => e = .normal ∧ ∃ i, FrSub F' (ch i ++ G) ∧ HpSub H' (hc i ++ GH)
section
variable {c : Cx} {S : WS c.P} {Q : QS} {F : Fr} {H : Hp}
/-- A cut behind a region: the slots 'keep' stay, 'ch' are new, so are the blocks 'hc'; the blocks H stay. -/
theorem t_cutK {ι : Type} (rid : Nat) {ops : Array Oper} {dr : Bool} {y : Code} (keep : List Nat) (ch : ι → Fr) (hc : ι → Hp) {G : Fr} (hK : KeepF F keep G)
    (h1 : T c S (.region rid ops dr) (cutQ ch hc G H) F H) (h2 : ∀ i, T c S y Q (ch i ++ G) (hc i ++ H)) : T c S (.seq (.region rid ops dr) y) Q F H :=
  t_cut (fun i => ch i ++ G) (fun i => hc i ++ H) (fun _ => True) (fun D a w ha hw => S.mono (h1 D a w ha hw) fun e a' w' ⟨D', F', H', ⟨he, i, hF, hH⟩, h4, h5⟩ => ⟨D', F', H', ⟨he, i, trivial, hF, hH⟩, h4, h5⟩) (fun i _ => h2 i)
theorem cut_in0 {ch : Unit → Fr} {hc : Unit → Hp} {G F' : Fr} {GH H' : Hp} (h : FrSub F' (ch () ++ G)) (k : HpSub H' (hc () ++ GH)) : cutQ ch hc G GH .normal F' H' := ⟨rfl, (), h, k⟩
theorem cut_in1 {ch : Nat → Fr} {hc : Nat → Hp} {G F' : Fr} {GH H' : Hp} (i : Nat) (h : FrSub F' (ch i ++ G)) (k : HpSub H' (hc i ++ GH)) : cutQ ch hc G GH .normal F' H' := ⟨rfl, i, h, k⟩
theorem cut_in2 {ch : Nat × Nat → Fr} {hc : Nat × Nat → Hp} {G F' : Fr} {GH H' : Hp} (i j : Nat) (h : FrSub F' (ch (i, j) ++ G)) (k : HpSub H' (hc (i, j) ++ GH)) : cutQ ch hc G GH .normal F' H' := ⟨rfl, (i, j), h, k⟩
theorem cut_in3 {ch : Nat × Nat × Nat → Fr} {hc : Nat × Nat × Nat → Hp} {G F' : Fr} {GH H' : Hp} (i j l : Nat) (h : FrSub F' (ch (i, j, l) ++ G)) (k : HpSub H' (hc (i, j, l) ++ GH)) : cutQ ch hc G GH .normal F' H' := ⟨rfl, (i, j, l), h, k⟩
end
end Go.Proofs.Ytmlmgipngbndgaa
