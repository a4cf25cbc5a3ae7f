/- Parts of slices, and arrays as slices. -/
import Derived.Test.YtmlmgipngbndgaaSl9
namespace Go.Proofs.Ytmlmgipngbndgaa
set_option linter.unusedVariables false
set_option linter.unusedSimpArgs false
open Go.RowKit
section
variable {c : Cx} {F : Fr} {H : Hp} {d : Option Tmp} {ty t : TypeId} {pos : String} {af : Array Edge} {g : Option (Nat × Bool)} {x y : Operand}
theorem oq_sliceL {a0 a1 : Bool} {s0 s1 e b o len cap l : Nat} {z0 z1 : List Value} {k1 : TyK} {k : IntKind} {li : Int} (ht : tyAt c.tys t = some ⟨a0, s0, z0, .slice e⟩) (he : tyAt c.tys e = some ⟨a1, s1, z1, k1⟩)
    (hx : ev F x = some (.slice (some ⟨b, o, none⟩) len cap)) (hy : ev F y = some (.int k li)) (hl : li = l) (h1 : l ≤ len) (h2 : cap ≠ l) :
    OQ c ⟨d, .slice t x (some y) none none, ty, pos, af, g⟩ F H (.slice (some ⟨b, o + l * s1, none⟩) (len - l) (cap - l)) := .of fun D a w ha _ => by
  subst hl
  have hk := (c.ty ht).kind w
  have hs := (c.ty he).size w
  simp only [execOp, Option.map, ha.ev hx, ha.ev hy]
  simp [Instr.sliceAt, Instr.slice, Instr.sliceBounds, Instr.sliceBound, asIntOf, Sem.run_bind, hk, hs, h1, h2, Result.andThen, go_sem, add_eq]
theorem oq_sliceArr {a0 a1 : Bool} {s0 s1 n e b o : Nat} {z0 z1 : List Value} {k1 : TyK} (ht : tyAt c.tys t = some ⟨a0, s0, z0, .array n e⟩) (he : tyAt c.tys e = some ⟨a1, s1, z1, k1⟩)
    (hx : ev F x = some (.pointer (some ⟨b, o, none⟩))) :
    OQ c ⟨d, .slice t x none none none, ty, pos, af, g⟩ F H (.slice (some ⟨b, o, none⟩) n n) := .of fun D a w ha _ => by
  have hk := (c.ty ht).kind w
  have hs := (c.ty he).size w
  simp only [execOp, Option.map, ha.ev hx]
  simp [Instr.sliceAt, Instr.sureAddr, Instr.sliceBounds, Instr.sliceBound, asIntOf, Sem.run_bind, hk, hs, Result.andThen, go_sem, add_eq]
end
end Go.Proofs.Ytmlmgipngbndgaa
