/- More rules. -/
import Derived.Test.YtmlmgipngbndgaaSl5
namespace Go.Proofs.Ytmlmgipngbndgaa
set_option linter.unusedVariables false
set_option linter.unusedSimpArgs false
open Go.RowKit

/-- A call of a function that hands out some of the memory that it has made. -/
theorem enterF {c : Cx} {k : FuncId} {fn : Func} {code : Code} {rs : List ResultVar} {args : List Value} {PV : Value → Hp → Prop} (hf : c.P.funcs[k]? = some fn) (hb : fn.body = some code) (hrs : fn.results = ⟨rs⟩) (hN : c.N = args.length + (fn.ntmps - args.length)) (hM : c.M = [])
    (h : T c (WS.own c.P) code (endQ c rs fun v H => ∃ H', PV v H' ∧ HpSub H H') (frOf 0 args) []) : Calls c.P k ⟨args⟩ c.w0 fun e w' => ∃ v H', e = .returned v ∧ PV v H' ∧ Has c.w0 ⟨[], []⟩ H' w' :=
  (enter hf hb hrs hN (fun d v hv => (look_frOf args 0 d v hv).2) (by rw [hM]; exact Has.start _) h).mono fun e w' ⟨v, H', h1, ⟨G, h2, h3⟩, h4⟩ => ⟨v, G, h1, h2, by rw [hM] at h4; exact h4.sub h3⟩

theorem Norm.self : ∀ (l : List Value), Norm l l
  | [] => .nil rfl
  | _ :: l => .cons rfl (Norm.self l)
def flatV : Value → Bool
  | .agg _ => false
  | _ => true
theorem flatV_cells {v : Value} (h : flatV v = true) : cellsL v = [v] := by
  cases v <;> first | rfl | cases h
def pickV : List (Nat × Value) → Nat → Option (List Value)
  | [], _ => some []
  | (j, v) :: l, i => match Nat.beq j i && flatV v, pickV l (i + 1) with
    | true, some r => some (v :: r)
    | _, _ => none
theorem pickV_fill : ∀ (vs : List (Nat × Value)) (k : Nat) (C r : List Value), pickV vs k = some r → k + vs.length = C.length → r.length = vs.length ∧ fillL (fun i => some (i * 1, 1)) C vs = some (C.take k ++ r)
  | [], k, C, r, h, hl => by
    simp only [pickV, Option.some.injEq] at h
    subst h
    simp at hl
    subst hl
    exact ⟨rfl, by simp [fillL]⟩
  | (j, v) :: l, k, C, r, h, hl => by
    simp only [pickV] at h
    split at h
    · rename_i r' h1 h2
      simp only [Bool.and_eq_true] at h1
      have hj : j = k := Nat.eq_of_beq_eq_true h1.1
      subst hj
      cases h
      have hC : (setL C j [v]).length = C.length := setL_length _ _ _
      simp only [List.length_cons] at hl
      obtain ⟨g1, g2⟩ := pickV_fill l (j + 1) (setL C j [v]) r' h2 (by omega)
      refine ⟨by simp [g1], ?_⟩
      simp only [fillL, flatV_cells h1.2, Nat.mul_one]
      have hb : Nat.ble (j + 1) C.length = true := Nat.ble_eq_true_of_le (by omega)
      have hb2 : (Nat.beq [v].length 1 && Nat.ble (j + 1) C.length) = true := by rw [hb]; rfl
      rw [hb2]
      simp only [Nat.mul_one] at g2
      rw [g2]
      simp only [setL]
      congr 1
      rw [List.take_add_one, List.getElem?_set_self (by omega), List.take_set_of_le (Nat.le_refl _)]
      simp
    · cases h
section
variable {c : Cx} {F : Fr} {H : Hp} {K : Value → Hp → Prop} {d : Option Tmp} {ty : TypeId} {pos : String} {af : Array Edge} {g : Option (Nat × Bool)}
/-- A slice of elements of one cell. -/
theorem ox_buildSlice1 {t : Nat} {a0 a1 : Bool} {s0 e len : Nat} {z0 z1 r : List Value} {k1 : TyK} {parts : List (Nat × Operand)} {vs : List (Nat × Value)} (ht : tyAt c.tys t = some ⟨a0, s0, z0, .slice e⟩) (he : tyAt c.tys e = some ⟨a1, 1, z1, k1⟩) (hp : evp F parts = some vs)
    (hf : pickV vs 0 = some r) (hb : Nat.ble len 1000000 = true) (hs : Nat.beq vs.length len = true)
    (k : ∀ b, K (.slice (some ⟨b, 0, none⟩) len len) ((b, r, some (e, 1, len)) :: H)) : OX c ⟨d, .buildSlice t len ⟨parts⟩, ty, pos, af, g⟩ F H K := by
  have hl : vs.length = len := Nat.eq_of_beq_eq_true hs
  obtain ⟨h1, h2⟩ := pickV_fill vs 0 ((List.range (len * 1)).map fun j => z1.toArray[j % z1.toArray.size]!) r hf (by simp [hl])
  exact ox_buildSlice ht he hp h2 (Norm.self _) (by simpa using hb) (by rw [List.take_zero, List.nil_append, h1, hl, Nat.mul_one]; exact Nat.beq_refl _) rfl (fun b => by simpa using k b)
end
end Go.Proofs.Ytmlmgipngbndgaa
