/- append of an old slice. -/
import Derived.Test.YtmlmgipngbndgaaSl6
namespace Go.Proofs.Ytmlmgipngbndgaa
set_option linter.unusedVariables false
set_option linter.unusedSimpArgs false
open Go.RowKit

theorem flatten_at {k : Nat} : ∀ {rows : List (List Value)}, (∀ r ∈ rows, r.length = k) → ∀ {j : Nat} {u : Value}, rows.flatten[j]? = some u → ∃ i r j', rows[i]? = some r ∧ r[j']? = some u ∧ j = i * k + j'
  | [], _, j, u, h => by simp at h
  | r :: rows, hk, j, u, h => by
    simp only [List.flatten_cons] at h
    have hr := hk r (List.mem_cons_self ..)
    by_cases hj : j < r.length
    · rw [List.getElem?_append_left hj] at h
      exact ⟨0, r, j, rfl, h, by simp⟩
    · rw [List.getElem?_append_right (by omega)] at h
      obtain ⟨i, r', j', h1, h2, h3⟩ := flatten_at (fun r hr => hk r (List.mem_cons_of_mem _ hr)) h
      exact ⟨i + 1, r', j', by simpa using h1, h2, by rw [Nat.succ_mul]; omega⟩
theorem flatten_len {k : Nat} : ∀ {rows : List (List Value)}, (∀ r ∈ rows, r.length = k) → rows.flatten.length = rows.length * k
  | [], _ => by simp
  | r :: rows, hk => by
    rw [List.flatten_cons, List.length_append, hk r (List.mem_cons_self ..), flatten_len fun r hr => hk r (List.mem_cons_of_mem _ hr), List.length_cons, Nat.succ_mul]
    omega
section
variable {c : Cx} {F : Fr} {H H' : Hp} {C : List Value} {K : Value → Hp → Prop} {d : Option Tmp} {ty : TypeId} {pos : String} {af : Array Edge} {g : Option (Nat × Bool)}
theorem append_run0 {g0 : Option (Nat × Bool)} {s x : Operand} {t e size bytes c2 n cap gb : Nat} {A : Option Addr} {a : Act} {w : World} (hk : AppOk c.P t e size bytes) (hs : a.eval s = .slice (some ⟨gb, 0, none⟩) n cap)
    (hx : a.eval x = .slice A 0 c2) (hn : n ≤ cap) : (execOp a.eval ⟨d, .call ⟨.builtin .append, #[s, x], #[t, t]⟩, ty, pos, af, g0⟩).run c.P w = .ok (.value (.slice (some ⟨gb, 0, none⟩) n cap)) w := by
  obtain ⟨i, z, k1, k2, k3, k4, k5⟩ := hk.info
  have ht := hk.und
  cases A <;>
  simp [execOp, resolve, invoke, builtin, Sem.run_bind, Sem.run_pure, Result.andThen, hs, hx, Builtin.append_, run_underlying ht, sizeOf, typeInfo, k1, Builtin.lenOf, Builtin.firstCells, loadCells, loadCellsFrom, hn, storeCells]
/-- append of a slice of rows onto a slice of the call's own. -/
theorem os_appendRows {s x : Operand} {t e size bytes m c2 n cap gb : Nat} {A : Option Addr} {rows : List (List Value)} (hk : AppOk c.P t e size bytes) (hs : ev F s = some (.slice (some ⟨gb, 0, none⟩) n cap)) (hx : ev F x = some (.slice A m c2))
    (hp : Pick H gb C (some (e, size, cap)) H') (hr : ∀ D w, Has c.w0 ⟨c.M, D⟩ H w → RdS w size A m rows) (hrk : ∀ r ∈ rows, r.length = size) (hC : C.length = n * size) (h1 : ∀ r ∈ rows, ∀ u ∈ r, u.oneCell' = true) (hn : n ≤ cap) (hb : (n + m) * bytes ≤ 140737488355328) (hmax : n + m ≤ 9223372036854775807)
    (k : ∀ b cap', K (.slice (some ⟨b, 0, none⟩) (n + m) cap') ((b, C ++ rows.flatten, some (e, size, cap')) :: H')) : OS c ⟨d, .call ⟨.builtin .append, #[s, x], #[t, t]⟩, ty, pos, af, g⟩ F H K := by
  intro D a w ha hw
  have hw' := hw.perm hp.perm
  have hR := hr D w hw
  have hlen := hR.len
  by_cases hm : m = 0
  · subst hm
    have : rows = [] := List.eq_nil_of_length_eq_zero hlen
    subst this
    rw [append_run0 (d := d) (ty := ty) (pos := pos) (af := af) (g0 := g) hk (ha.ev hs) (ha.ev hx) hn]
    exact ⟨_, k gb cap, by simpa using hw'⟩
  · obtain ⟨b2, o2, rfl, _, hc⟩ := hR.at_ (by omega)
    obtain ⟨g', cap', w', r1, r2, r3, r4⟩ := append_run (d := d) (ty := ty) (pos := pos) (af := af) (g0 := g) (news := rows.flatten) hk (ha.ev hs) (own_of_blk (hw'.blk _ (List.mem_cons_self ..)).2 hC hk.pos) (ha.ev hx) (by rw [flatten_len hrk, hlen])
      (fun j u hj => by
        obtain ⟨i, r, j', h2, h3, rfl⟩ := flatten_at hrk hj
        have := (hc i r h2).2 j' u h3
        rw [Nat.add_assoc] at this
        exact this)
      (fun u hu => by
        obtain ⟨r, h2, h3⟩ := List.mem_flatten.1 hu
        exact h1 r h2 u h3) (by omega) hb hmax
    rw [r1]
    have he : ExtM [gb] w w' := ExtM.of_grown r3 (fun k e => by simpa [Value.ownBlock] using e.symm)
    refine ⟨_, k g' cap', ?_⟩
    rcases r4 with r4 | r4
    · obtain rfl : g' = gb := by simpa [Value.ownBlock] using r4
      exact hw'.wrote he r2
    · subst r4
      exact (hw'.lost he).fresh' (w := w) hw.ext.size (fun y hy => (hw'.blk y (List.mem_cons_of_mem _ hy)).2.lt) r2
end
end Go.Proofs.Ytmlmgipngbndgaa
