/- A drawn region, part by part: behind an operation that had to come first, quiet operations again in the text's order. And parts of slices with both bounds. -/
import Derived.Test.YtmlmgipngbndgaaSl13
namespace Go.Proofs.Ytmlmgipngbndgaa
set_option linter.unusedVariables false
set_option linter.unusedSimpArgs false
open Go.RowKit
/-- All that the listed operations wait for is listed. -/
def downB (ops : List Oper) (listed : Array Bool) : Bool := go ops 0
where
  go : List Oper → Nat → Bool
  | [], _ => true
  | o :: r, k => (!listed.getD k false || o.after.all fun e => !Region.binds .any e || listed.getD e.on false) && go r (k + 1)
theorem downB_go {listed : Array Bool} : ∀ {ops : List Oper} {k j : Nat} {o : Oper}, downB.go listed ops k = true → ops[j]? = some o → listed.getD (k + j) false = true → ∀ e ∈ o.after, Region.binds .any e = true → listed.getD e.on false = true
  | [], _, _, _, _, h, _ => by simp at h
  | o' :: r, k, 0, o, h, ho, hl => by
    unfold downB.go at h
    obtain rfl : o' = o := by simpa using ho
    intro e he hb
    simp only [Bool.and_eq_true, Bool.or_eq_true, Bool.not_eq_true', Array.all_eq_true_iff_forall_mem] at h
    rcases h.1 with h1 | h1
    · rw [show k + 0 = k from rfl, h1] at hl; cases hl
    · rcases h1 e he with h2 | h2
      · rw [h2] at hb; cases hb
      · exact h2
  | o' :: r, k, j + 1, o, h, ho, hl => by
    unfold downB.go at h
    simp only [Bool.and_eq_true] at h
    exact downB_go (k := k + 1) (j := j) h.2 (by simpa using ho) (by rw [show k + 1 + j = k + (j + 1) by omega]; exact hl)
theorem downB_spec {l : List Oper} {listed : Array Bool} (h : downB l listed = true) : Down ⟨l⟩ listed := fun k o hk ho e he hb =>
  downB_go (k := 0) (j := k) h (by simpa using ho) (by simpa using hk) e he hb
theorem al_more {c : Cx} {l ql : List Oper} {cov : Array Bool} {H0 H : Hp} {n : Nat} {listed : Array Bool} {R : Fr → Hp → Prop} {F : Fr} (q : List Nat) (m : Nat) (hB : (Region.noSelect ⟨l⟩ && downB l listed && lexOk ⟨l⟩ cov q listed) = true) (hn : n = m + q.length) (hq : pickOps l q = some ql) (hs : HpSub H H0)
    (h : GX c ⟨l⟩ ql (fun F' => AL c ⟨l⟩ cov H0 m (listedBy q listed) R F' H0) F H0) : AL c ⟨l⟩ cov H0 n listed R F H := fun D a w ha hw => by
  subst hn
  simp only [Bool.and_eq_true] at hB
  exact SAnyI_lex (Has.up (M := ⟨c.M, D⟩)) hB.1.1 m q listed a hB.2 (downB_spec hB.1.2) (wpGI_mono (fun a' ⟨F', h1, h2⟩ w' hw' => h1 D a' w' h2 hw') q a (h q (pickOps_spec hq) D a ha)) w (hw.sub hs)
section
variable {c : Cx} {F : Fr} {H : Hp} {d : Option Tmp} {ty t : TypeId} {pos : String} {af : Array Edge} {g : Option (Nat × Bool)} {x y z : Operand}
theorem oq_sliceLH {a0 a1 : Bool} {s0 s1 e b o len cap l h : Nat} {z0 z1 : List Value} {k1 : TyK} {k k' : IntKind} {li hi : Int} (ht : tyAt c.tys t = some ⟨a0, s0, z0, .slice e⟩) (he : tyAt c.tys e = some ⟨a1, s1, z1, k1⟩)
    (hx : ev F x = some (.slice (some ⟨b, o, none⟩) len cap)) (hy : ev F y = some (.int k li)) (hz : ev F z = some (.int k' hi)) (hl : li = l) (hh : hi = h) (h1 : l ≤ h) (h3 : h ≤ cap) (h2 : cap ≠ l) :
    OQ c ⟨d, .slice t x (some y) (some z) none, ty, pos, af, g⟩ F H (.slice (some ⟨b, o + l * s1, none⟩) (h - l) (cap - l)) := .of fun D a w ha _ => by
  subst hl hh
  have hk := (c.ty ht).kind w
  have hs := (c.ty he).size w
  simp only [execOp, Option.map, ha.ev hx, ha.ev hy, ha.ev hz]
  simp [Instr.sliceAt, Instr.slice, Instr.sliceBounds, Instr.sliceBound, asIntOf, Sem.run_bind, hk, hs, h1, h2, h3, Result.andThen, go_sem, add_eq]
end
end Go.Proofs.Ytmlmgipngbndgaa
