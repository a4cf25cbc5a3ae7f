/- Where a pressure may be; comparisons whose outcome is known. -/
import Derived.Test.YtalidommelefaaaPkL
/- Where a pressure may be: plain laws; comparisons whose outcome is known. -/
namespace Go.Proofs.Ytalidommelefaaa
set_option linter.unusedVariables false
set_option linter.unusedSimpArgs false
theorem ends_of (P : Nat → Prop) : ∀ N : Nat, (∀ k, k ≤ N → ¬ P k) ∨ ∃ a b, a ≤ b ∧ b ≤ N ∧ P a ∧ P b ∧ ∀ k, k ≤ N → P k → a ≤ k ∧ k ≤ b
  | 0 => by
    by_cases h : P 0
    · exact .inr ⟨0, 0, Nat.le_refl _, Nat.le_refl _, h, h, fun k hk _ => ⟨Nat.zero_le _, hk⟩⟩
    · exact .inl fun k hk => by obtain rfl : k = 0 := by omega
                                exact h
  | N + 1 => by
    by_cases h : P (N + 1)
    · rcases ends_of P N with g | ⟨a, b, h1, h2, h3, h4, h5⟩
      · refine .inr ⟨N + 1, N + 1, Nat.le_refl _, Nat.le_refl _, h, h, fun k hk hp => ⟨?_, hk⟩⟩
        rcases Nat.lt_or_ge k (N + 1) with e | e
        · exact absurd hp (g k (by omega))
        · exact e
      · refine .inr ⟨a, N + 1, by omega, Nat.le_refl _, h3, h, fun k hk hp => ⟨?_, hk⟩⟩
        rcases Nat.lt_or_ge k (N + 1) with e | e
        · exact (h5 k (by omega) hp).1
        · omega
    · rcases ends_of P N with g | ⟨a, b, h1, h2, h3, h4, h5⟩
      · refine .inl fun k hk hp => ?_
        rcases Nat.lt_or_ge k (N + 1) with e | e
        · exact g k (by omega) hp
        · obtain rfl : k = N + 1 := by omega
          exact h hp
      · refine .inr ⟨a, b, h1, by omega, h3, h4, fun k hk hp => ?_⟩
        rcases Nat.lt_or_ge k (N + 1) with e | e
        · exact h5 k (by omega) hp
        · obtain rfl : k = N + 1 := by omega
          exact absurd hp h
theorem whV_is {l : List Lv} (hs : Snd l) (p q : Int) : IsWh l p q (whV l p q) := by
  obtain ⟨x0, xn, e0, en, hlt, b0, bn⟩ := hs.ends
  have f0 := lvFst_eq e0
  have fn := lvLst_eq en
  have key : ∃ r, IsWh l p q r := by
    rcases ends_of (fun k => wP l p q (lvFst l + (k : Int))) (lvLst l - lvFst l).toNat with g | ⟨a, b, h1, h2, h3, h4, h5⟩
    · refine ⟨(0, 0, 6), .inl ⟨rfl, fun h k1 k2 hw => ?_⟩⟩
      refine g (h - lvFst l).toNat (by omega) ?_
      rw [show lvFst l + ((h - lvFst l).toNat : Int) = h by omega]
      exact hw
    · refine ⟨(lvFst l + (a : Int), lvFst l + (b : Int), 0), .inr ⟨rfl, by simp only; omega, by simp only; omega, by simp only; omega, h3, h4, fun h k1 k2 hw => ?_⟩⟩
      have := h5 (h - lvFst l).toNat (by omega) (by rw [show lvFst l + ((h - lvFst l).toNat : Int) = h by omega]; exact hw)
      simp only
      omega
  obtain ⟨r, hr⟩ := key
  rw [hr.val]
  exact hr
/-- Where it may be at two heights it may be between them. -/
theorem wP_conv {l : List Lv} (hs : Snd l) (hu : unfit l = false) {p q a b h : Int} (h1 : lvFst l ≤ a) (h2 : a ≤ h) (h3 : h ≤ b) (h4 : b ≤ lvLst l) (ha : wP l p q a) (hb : wP l p q b) : wP l p q h := by
  have k1 := pr_facts hs hu h1 h2 (Int.le_refl h) (by omega)
  have k2 := pr_facts hs hu (show lvFst l ≤ h by omega) h3 (Int.le_refl b) h4
  unfold wP at *
  have k3 := pr_facts hs hu h1 h2 h3 h4
  have k4 := pr_facts hs hu (show lvFst l ≤ h by omega) (Int.le_refl h) h3 h4
  have k5 := pr_facts hs hu (show lvFst l ≤ a by omega) (Int.le_refl a) h2 (by omega)
  omega
section
variable {c : Cx} {F : Fr} {H : Hp} {d : Option Tmp} {ty t t' : TypeId} {pos : String} {af : Array Edge} {g : Option (Nat × Bool)} {x y : Operand} {k : IntKind} {m n : Int}
theorem oq_leqT (hx : ev F x = some (.int k m)) (hy : ev F y = some (.int k n)) (h : m ≤ n) : OQ c ⟨d, .binOp .leq t x y t', ty, pos, af, g⟩ F H (.bool true) := (oq_leq hx hy).as (by simp [h])
theorem oq_leqF (hx : ev F x = some (.int k m)) (hy : ev F y = some (.int k n)) (h : ¬ m ≤ n) : OQ c ⟨d, .binOp .leq t x y t', ty, pos, af, g⟩ F H (.bool false) := (oq_leq hx hy).as (by simp [h])
theorem oq_lssT (hx : ev F x = some (.int k m)) (hy : ev F y = some (.int k n)) (h : m < n) : OQ c ⟨d, .binOp .lss t x y t', ty, pos, af, g⟩ F H (.bool true) := (oq_lss hx hy).as (by simp [h])
theorem oq_lssF (hx : ev F x = some (.int k m)) (hy : ev F y = some (.int k n)) (h : ¬ m < n) : OQ c ⟨d, .binOp .lss t x y t', ty, pos, af, g⟩ F H (.bool false) := (oq_lss hx hy).as (by simp [h])
theorem oq_gtrT (hx : ev F x = some (.int k m)) (hy : ev F y = some (.int k n)) (h : n < m) : OQ c ⟨d, .binOp .gtr t x y t', ty, pos, af, g⟩ F H (.bool true) := (oq_gtr hx hy).as (by simp [h])
theorem oq_gtrF (hx : ev F x = some (.int k m)) (hy : ev F y = some (.int k n)) (h : ¬ n < m) : OQ c ⟨d, .binOp .gtr t x y t', ty, pos, af, g⟩ F H (.bool false) := (oq_gtr hx hy).as (by simp [h])
theorem oq_geqT (hx : ev F x = some (.int k m)) (hy : ev F y = some (.int k n)) (h : n ≤ m) : OQ c ⟨d, .binOp .geq t x y t', ty, pos, af, g⟩ F H (.bool true) := (oq_geq hx hy).as (by simp [h])
theorem oq_geqF (hx : ev F x = some (.int k m)) (hy : ev F y = some (.int k n)) (h : ¬ n ≤ m) : OQ c ⟨d, .binOp .geq t x y t', ty, pos, af, g⟩ F H (.bool false) := (oq_geq hx hy).as (by simp [h])
theorem oq_eqlT (hx : ev F x = some (.int k m)) (hy : ev F y = some (.int k n)) (h : m = n) : OQ c ⟨d, .binOp .eql t x y t', ty, pos, af, g⟩ F H (.bool true) := (oq_eql hx hy).as (by simp [h])
theorem oq_eqlF (hx : ev F x = some (.int k m)) (hy : ev F y = some (.int k n)) (h : ¬ m = n) : OQ c ⟨d, .binOp .eql t x y t', ty, pos, af, g⟩ F H (.bool false) := (oq_eql hx hy).as (by simp [h])
theorem oq_neqT (hx : ev F x = some (.int k m)) (hy : ev F y = some (.int k n)) (h : ¬ m = n) : OQ c ⟨d, .binOp .neq t x y t', ty, pos, af, g⟩ F H (.bool true) := (oq_neq hx hy).as (by simp [h])
theorem oq_neqF (hx : ev F x = some (.int k m)) (hy : ev F y = some (.int k n)) (h : m = n) : OQ c ⟨d, .binOp .neq t x y t', ty, pos, af, g⟩ F H (.bool false) := (oq_neq hx hy).as (by simp [h])
end
/-- A number of a list of the call's own. -/
theorem rdI {c : Cx} {H H' : Hp} {g : Nat} {tg : Tg} {C : List Value} {zs : List Int} {k : Nat} {z : Int} (hz : zs[k]? = some z) (hC : C = zs.map (Value.int .i64)) (p : Pick H g C tg H') : Rd c H ⟨g, 0 + k * 1, none⟩ (.int .i64 z) :=
  Rd.own p (by rw [hC, show 0 + k * 1 = k by omega, List.getElem?_map, hz]; rfl)
end Go.Proofs.Ytalidommelefaaa
