/- A slice of spans that is written out. -/
import Derived.Test.YtmlmgipngbndgaaSl6
namespace Go.Proofs.Ytmlmgipngbndgaa
set_option linter.unusedVariables false
set_option linter.unusedSimpArgs false
open Go.RowKit

theorem setL_eq : ∀ (l C : List Value) (o : Nat), o + l.length ≤ C.length → setL C o l = C.take o ++ l ++ C.drop (o + l.length)
  | [], C, o, _ => by simp [setL]
  | v :: l, C, o, h => by
    simp only [List.length_cons] at h
    have ih := setL_eq l (C.set o v) (o + 1) (by simp; omega)
    simp only [setL]
    rw [ih, List.take_add_one, List.getElem?_set_self (by omega), List.take_set_of_le (Nat.le_refl _), List.drop_set_of_lt (by omega)]
    simp only [List.length_cons, Option.toList, List.append_assoc, List.cons_append, List.nil_append]
    rw [show o + 1 + l.length = o + (l.length + 1) by omega]
def pick2 : List (Nat × Value) → Nat → Option (List Value)
  | [], _ => some []
  | (j, v) :: l, i => match Nat.beq j i, v, pick2 l (i + 1) with
    | true, .agg ⟨[a, b]⟩, some r => some (a :: b :: r)
    | _, _, _ => none
theorem pick2_fill : ∀ (vs : List (Nat × Value)) (k : Nat) (C r : List Value), pick2 vs k = some r → (k + vs.length) * 2 = C.length → r.length = vs.length * 2 ∧ fillL (fun i => some (i * 2, 2)) C vs = some (C.take (k * 2) ++ r)
  | [], k, C, r, h, hl => by
    simp only [pick2, Option.some.injEq] at h
    subst h
    simp at hl
    exact ⟨rfl, by simp [fillL, hl]⟩
  | (j, v) :: l, k, C, r, h, hl => by
    simp only [pick2] at h
    split at h
    · rename_i a b r' h1 h2
      have hj : j = k := Nat.eq_of_beq_eq_true h1
      subst hj
      cases h
      simp only [List.length_cons] at hl
      have hC : (setL C (j * 2) [a, b]).length = C.length := setL_length _ _ _
      obtain ⟨g1, g2⟩ := pick2_fill l (j + 1) (setL C (j * 2) [a, b]) r' h2 (by omega)
      refine ⟨by simp [g1]; omega, ?_⟩
      have hb2 : (Nat.beq (cellsL (.agg ⟨[a, b]⟩)).length 2 && Nat.ble (j * 2 + 2) C.length) = true := by
        rw [Nat.ble_eq_true_of_le (by omega)]; rfl
      simp only [fillL]
      rw [hb2]
      simp only
      rw [show cellsL (.agg ⟨[a, b]⟩) = [a, b] from rfl, g2, setL_eq _ _ _ (by simp; omega)]
      have ht : (C.take (j * 2) ++ [a, b] ++ C.drop (j * 2 + [a, b].length)).take ((j + 1) * 2) = C.take (j * 2) ++ [a, b] := by
        rw [List.take_append_of_le_length (by simp; omega)]
        exact List.take_of_length_le (by simp; omega)
      rw [ht]
      simp
    · cases h
section
variable {c : Cx} {F : Fr} {H : Hp} {K : Value → Hp → Prop} {d : Option Tmp} {ty : TypeId} {pos : String} {af : Array Edge} {g : Option (Nat × Bool)}
/-- A slice of elements of two cells. -/
theorem ox_buildSlice2 {t : Nat} {a0 a1 : Bool} {s0 e len : Nat} {z0 z1 r : List Value} {k1 : TyK} {parts : List (Nat × Operand)} {vs : List (Nat × Value)} (ht : tyAt c.tys t = some ⟨a0, s0, z0, .slice e⟩) (he : tyAt c.tys e = some ⟨a1, 2, z1, k1⟩) (hp : evp F parts = some vs)
    (hf : pick2 vs 0 = some r) (hb : Nat.ble (len * 2) 1000000 = true) (hs : Nat.beq vs.length len = true)
    (k : ∀ b, K (.slice (some ⟨b, 0, none⟩) len len) ((b, r, some (e, 2, len)) :: H)) : OX c ⟨d, .buildSlice t len ⟨parts⟩, ty, pos, af, g⟩ F H K := by
  have hl : vs.length = len := Nat.eq_of_beq_eq_true hs
  obtain ⟨h1, h2⟩ := pick2_fill vs 0 ((List.range (len * 2)).map fun j => z1.toArray[j % z1.toArray.size]!) r hf (by simp [hl])
  exact ox_buildSlice ht he hp h2 (Norm.self _) hb (by rw [Nat.zero_mul, List.take_zero, List.nil_append, h1, hl]; exact Nat.beq_refl _) rfl (fun b => by simpa using k b)
end
end Go.Proofs.Ytmlmgipngbndgaa
