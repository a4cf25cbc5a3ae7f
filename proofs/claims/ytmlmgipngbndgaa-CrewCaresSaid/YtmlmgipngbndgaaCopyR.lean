/- copy within a block of the call's own, and from elsewhere. -/
import Derived.Test.YtmlmgipngbndgaaIntB
import Derived.Laws.IdiomCopy
namespace Go.Proofs.Ytmlmgipngbndgaa
set_option linter.unusedVariables false
set_option linter.unusedSimpArgs false
open Go.RowKit
section
variable {c : Cx} {F : Fr} {H H' : Hp} {K : Value → Hp → Prop} {d : Option Tmp} {ty : TypeId} {pos : String} {af : Array Edge} {gd : Option (Nat × Bool)} {t t' : TypeId} {x y : Operand} {a0 a1 : Bool} {s0 s1 : Nat} {z0 z1 : List Value} {k1 : TyK} {g : Nat} {tg : Tg} {C : List Value}
theorem os_copy {e od dLen dCap b2 o2 sLen sCap : Nat} {vs : List Value} (ht : tyAt c.tys t = some ⟨a0, s0, z0, .slice e⟩) (he : tyAt c.tys e = some ⟨a1, 1, z1, k1⟩) (hx : ev F x = some (.slice (some ⟨g, od, none⟩) dLen dCap)) (hy : ev F y = some (.slice (some ⟨b2, o2, none⟩) sLen sCap))
    (hp : Pick H g C tg H') (hr : Rds c H b2 o2 vs) (hn : vs.length = Nat.min sLen dLen) (ho : od + vs.length ≤ C.length) (h1 : ∀ v ∈ vs, v.oneCell' = true) (kk : K (.int .i64 (vs.length : Nat)) ((g, setL C od vs, tg) :: H')) : OS c ⟨d, .call ⟨.builtin .copy, #[x, y], #[t, t']⟩, ty, pos, af, gd⟩ F H K := by
  intro D a w ha hw
  have hw' := hw.perm hp.perm
  have hb := (hw'.blk _ (List.mem_cons_self ..)).2
  obtain ⟨w', h2, h3, h4⟩ := run_storeCells c.P g od vs 0 w C tg hb (by omega) h1
  have hk := (c.ty ht).kind w
  have hs := (c.ty he).size w
  have hl := run_loadCells_eq c.P w b2 o2 vs (fun j v hj => Rds.at_ hw vs o2 hr j v hj)
  have hl2 : (loadCells ⟨b2, o2, none⟩ (Nat.min sLen dLen)).run c.P w = .ok vs.toArray w := by rw [← hn]; exact hl
  have : (execOp a.eval ⟨d, .call ⟨.builtin .copy, #[x, y], #[t, t']⟩, ty, pos, af, gd⟩).run c.P w = .ok (.value (.int .i64 (vs.length : Nat))) w' := by
    simp [execOp, resolve, invoke, builtin, ha.ev hx, ha.ev hy, Builtin.copy_, Builtin.lenOf, Builtin.firstCells, Sem.run_bind, Sem.run_pure, Result.andThen, hk, hs, hl2, h2, goInt, hn]
  rw [this]
  exact ⟨_, by simpa using kk, hw'.wrote h4 h3⟩
theorem oq_sliceH {e b o len cap h : Nat} {k : IntKind} {hi : Int} (ht : tyAt c.tys t = some ⟨a0, s0, z0, .slice e⟩) (he : tyAt c.tys e = some ⟨a1, s1, z1, k1⟩)
    (hx : ev F x = some (.slice (some ⟨b, o, none⟩) len cap)) (hy : ev F y = some (.int k hi)) (hl : hi = h) (h1 : h ≤ cap) :
    OQ c ⟨d, .slice t x none (some y) none, ty, pos, af, gd⟩ F H (.slice (some ⟨b, o, none⟩) h cap) := .of fun D a w ha _ => by
  subst hl
  have hk := (c.ty ht).kind w
  have hs := (c.ty he).size w
  simp only [execOp, Option.map, ha.ev hx, ha.ev hy]
  by_cases h2 : cap = 0
  · subst h2
    simp [Instr.sliceAt, Instr.slice, Instr.sliceBounds, Instr.sliceBound, asIntOf, Sem.run_bind, hk, hs, h1, Result.andThen, go_sem, add_eq]
  · simp [Instr.sliceAt, Instr.slice, Instr.sliceBounds, Instr.sliceBound, asIntOf, Sem.run_bind, hk, hs, h1, h2, Result.andThen, go_sem, add_eq]
/-- k times x, then zeros. -/
def fillX (x : Int) (n k : Nat) : List Value := List.replicate k (Value.int .i64 x) ++ List.replicate (n - k) (Value.int .i64 0)
theorem fillX_len {x : Int} {n k : Nat} (h : k ≤ n) : (fillX x n k).length = n := by unfold fillX; simp; omega
theorem fillX_zero {x : Int} {n : Nat} : List.replicate n (Value.int .i64 0) = fillX x n 0 := by unfold fillX; simp
theorem fillX_done {x : Int} {n : Nat} : fillX x n n = (List.replicate n x).map iv := by unfold fillX; simp [iv]
theorem fillX_set {x : Int} {n : Nat} : ∀ (m k : Nat), k + m ≤ n → setL (fillX x n k) k (List.replicate m (Value.int .i64 x)) = fillX x n (k + m)
  | 0, k, _ => rfl
  | m + 1, k, h => by
    rw [List.replicate_succ]
    simp only [setL]
    have e : (fillX x n k).set k (Value.int .i64 x) = fillX x n (k + 1) := by
      unfold fillX
      rw [List.set_append_right _ _ (by simp), show n - k = (n - (k + 1)) + 1 by omega, List.replicate_succ]
      simp [List.replicate_succ']
    rw [e, fillX_set m (k + 1) (by omega), show k + 1 + m = k + (m + 1) by omega]
theorem Rds.own {b : Nat} (hp : Pick H b C tg H') : ∀ (vs : List Value) (o : Nat), (∀ j v, vs[j]? = some v → C[o + j]? = some v) → Rds c H b o vs
  | [], _, _ => trivial
  | v :: vs, o, h => ⟨Rd.own hp (h 0 v rfl), Rds.own hp vs (o + 1) fun j u hj => by have := h (j + 1) u (by simpa using hj); rw [← this]; congr 1; omega⟩
theorem fillX_at {x : Int} {n k m : Nat} (hm : m ≤ k) (j : Nat) (v : Value) (h : (List.replicate m (Value.int .i64 x))[j]? = some v) : (fillX x n k)[0 + j]? = some v := by
  have hj := (List.getElem?_eq_some_iff.1 h).1
  simp only [List.length_replicate] at hj
  unfold fillX
  rw [Nat.zero_add, List.getElem?_append_left (by simp; omega)]
  rw [List.getElem?_replicate] at h ⊢
  rw [if_pos hj] at h
  rw [if_pos (by omega)]
  exact h
/-- A list's front is copied onto what is behind it. -/
theorem os_copyX {e n k cap cap2 : Nat} {z : Int} (h1 : k ≤ n) (ht : tyAt c.tys t = some ⟨a0, s0, z0, .slice e⟩) (he : tyAt c.tys e = some ⟨a1, 1, z1, k1⟩) (hx : ev F x = some (.slice (some ⟨g, 0 + k * 1, none⟩) (n - k) cap)) (hy : ev F y = some (.slice (some ⟨g, 0, none⟩) k cap2))
    (hp : Pick H g (fillX z n k) tg H') (kk : K (.int .i64 (min k (n - k) : Nat)) ((g, fillX z n (k + min k (n - k)), tg) :: H')) : OS c ⟨d, .call ⟨.builtin .copy, #[x, y], #[t, t']⟩, ty, pos, af, gd⟩ F H K := by
  rw [Nat.zero_add, Nat.mul_one] at hx
  refine os_copy (vs := List.replicate (min k (n - k)) (Value.int .i64 z)) ht he hx hy hp (Rds.own hp _ _ fun j v hj => fillX_at (by omega) j v hj) (by simp) (by rw [fillX_len h1]; simp; omega) (by intro v hv; obtain rfl := (List.mem_replicate.1 hv).2; rfl) ?_
  rw [fillX_set _ _ (by omega)]
  simpa using kk
theorem os_copy1 {e n b2 o2 cap cap2 : Nat} {z : Int} (h1 : 1 ≤ n) (ht : tyAt c.tys t = some ⟨a0, s0, z0, .slice e⟩) (he : tyAt c.tys e = some ⟨a1, 1, z1, k1⟩) (hx : ev F x = some (.slice (some ⟨g, 0, none⟩) n cap)) (hy : ev F y = some (.slice (some ⟨b2, o2, none⟩) 1 cap2))
    (hp : Pick H g (List.replicate n (Value.int .i64 0)) tg H') (hr : Rd c H ⟨b2, o2, none⟩ (.int .i64 z)) (kk : K (.int .i64 (1 : Nat)) ((g, fillX z n 1, tg) :: H')) : OS c ⟨d, .call ⟨.builtin .copy, #[x, y], #[t, t']⟩, ty, pos, af, gd⟩ F H K := by
  refine os_copy (vs := [Value.int .i64 z]) ht he hx hy hp ⟨hr, trivial⟩ (by show 1 = min 1 n; omega) (by simp; omega) (by intro v hv; simp only [List.mem_singleton] at hv; rw [hv]; rfl) ?_
  have := fillX_set (x := z) (n := n) 1 0 (by omega)
  rw [fillX_zero (x := z)]
  rw [show ([Value.int .i64 z] : List Value) = List.replicate 1 (Value.int .i64 z) from rfl, this]
  exact kk
end
end Go.Proofs.Ytmlmgipngbndgaa
