/- Inspections. -/
import Derived.Test.YtmlmgipngbndgaaPkC
import Derived.Laws.IdiomCopy
import Derived.Test.YtmlmgipngbndgaaPkB
/- copy within a block of the call's own, and from elsewhere. -/
namespace Go.Proofs.Ytmlmgipngbndgaa
set_option linter.unusedVariables false
set_option linter.unusedSimpArgs false
open Go.RowKit
section
variable {c : Cx} {F : Fr} {H H' : Hp} {K : Value → Hp → Prop} {d : Option Tmp} {ty : TypeId} {pos : String} {af : Array Edge} {gd : Option (Nat × Bool)} {t t' : TypeId} {x y : Operand} {a0 a1 : Bool} {s0 s1 : Nat} {z0 z1 : List Value} {k1 : TyK} {g : Nat} {tg : Tg} {C : List Value}
theorem os_copy {e od dLen dCap b2 o2 sLen sCap : Nat} {vs : List Value} (ht : tyAt c.tys t = some ⟨a0, s0, z0, .slice e⟩) (he : tyAt c.tys e = some ⟨a1, 1, z1, k1⟩) (hx : ev F x = some (.slice (some ⟨g, od, none⟩) dLen dCap)) (hy : ev F y = some (.slice (some ⟨b2, o2, none⟩) sLen sCap))
    (hp : Pick H g C tg H') (hr : Rds c H b2 o2 vs) (hn : vs.length = Nat.min sLen dLen) (ho : od + vs.length ≤ C.length) (h1 : ∀ v ∈ vs, v.oneCell' = true) (kk : K (.int .i64 (vs.length : Nat)) ((g, setL C od vs, tg) :: H')) : OS c ⟨d, .call ⟨.builtin .copy, #[x, y], #[t, t']⟩, ty, pos, af, gd⟩ F H K := by
  intro D a w ha hw
  have hw' := hw.perm hp.perm
  have hb := (hw'.blk _ (List.mem_cons_self ..)).2
  obtain ⟨w', h2, h3, h4⟩ := run_storeCells c.P g od vs 0 w C tg hb (by omega) h1
  have hk := (c.ty ht).kind w
  have hs := (c.ty he).size w
  have hl := run_loadCells_eq c.P w b2 o2 vs (fun j v hj => Rds.at_ hw vs o2 hr j v hj)
  have hl2 : (loadCells ⟨b2, o2, none⟩ (Nat.min sLen dLen)).run c.P w = .ok vs.toArray w := by rw [← hn]; exact hl
  have : (execOp a.eval ⟨d, .call ⟨.builtin .copy, #[x, y], #[t, t']⟩, ty, pos, af, gd⟩).run c.P w = .ok (.value (.int .i64 (vs.length : Nat))) w' := by
    simp [execOp, resolve, invoke, builtin, ha.ev hx, ha.ev hy, Builtin.copy_, Builtin.lenOf, Builtin.firstCells, Sem.run_bind, Sem.run_pure, Result.andThen, hk, hs, hl2, h2, goInt, hn]
  rw [this]
  exact ⟨_, by simpa using kk, hw'.wrote h4 h3⟩
theorem oq_sliceH {e b o len cap h : Nat} {k : IntKind} {hi : Int} (ht : tyAt c.tys t = some ⟨a0, s0, z0, .slice e⟩) (he : tyAt c.tys e = some ⟨a1, s1, z1, k1⟩)
    (hx : ev F x = some (.slice (some ⟨b, o, none⟩) len cap)) (hy : ev F y = some (.int k hi)) (hl : hi = h) (h1 : h ≤ cap) :
    OQ c ⟨d, .slice t x none (some y) none, ty, pos, af, gd⟩ F H (.slice (some ⟨b, o, none⟩) h cap) := .of fun D a w ha _ => by
  subst hl
  have hk := (c.ty ht).kind w
  have hs := (c.ty he).size w
  simp only [execOp, Option.map, ha.ev hx, ha.ev hy]
  by_cases h2 : cap = 0
  · subst h2
    simp [Instr.sliceAt, Instr.slice, Instr.sliceBounds, Instr.sliceBound, asIntOf, Sem.run_bind, hk, hs, h1, Result.andThen, go_sem, add_eq]
  · simp [Instr.sliceAt, Instr.slice, Instr.sliceBounds, Instr.sliceBound, asIntOf, Sem.run_bind, hk, hs, h1, h2, Result.andThen, go_sem, add_eq]
/-- k times x, then zeros. -/
def fillX (x : Int) (n k : Nat) : List Value := List.replicate k (Value.int .i64 x) ++ List.replicate (n - k) (Value.int .i64 0)
theorem fillX_len {x : Int} {n k : Nat} (h : k ≤ n) : (fillX x n k).length = n := by unfold fillX; simp; omega
theorem fillX_zero {x : Int} {n : Nat} : List.replicate n (Value.int .i64 0) = fillX x n 0 := by unfold fillX; simp
theorem fillX_done {x : Int} {n : Nat} : fillX x n n = (List.replicate n x).map iv := by unfold fillX; simp [iv]
theorem fillX_set {x : Int} {n : Nat} : ∀ (m k : Nat), k + m ≤ n → setL (fillX x n k) k (List.replicate m (Value.int .i64 x)) = fillX x n (k + m)
  | 0, k, _ => rfl
  | m + 1, k, h => by
    rw [List.replicate_succ]
    simp only [setL]
    have e : (fillX x n k).set k (Value.int .i64 x) = fillX x n (k + 1) := by
      unfold fillX
      rw [List.set_append_right _ _ (by simp), show n - k = (n - (k + 1)) + 1 by omega, List.replicate_succ]
      simp [List.replicate_succ']
    rw [e, fillX_set m (k + 1) (by omega), show k + 1 + m = k + (m + 1) by omega]
theorem Rds.own {b : Nat} (hp : Pick H b C tg H') : ∀ (vs : List Value) (o : Nat), (∀ j v, vs[j]? = some v → C[o + j]? = some v) → Rds c H b o vs
  | [], _, _ => trivial
  | v :: vs, o, h => ⟨Rd.own hp (h 0 v rfl), Rds.own hp vs (o + 1) fun j u hj => by have := h (j + 1) u (by simpa using hj); rw [← this]; congr 1; omega⟩
theorem fillX_at {x : Int} {n k m : Nat} (hm : m ≤ k) (j : Nat) (v : Value) (h : (List.replicate m (Value.int .i64 x))[j]? = some v) : (fillX x n k)[0 + j]? = some v := by
  have hj := (List.getElem?_eq_some_iff.1 h).1
  simp only [List.length_replicate] at hj
  unfold fillX
  rw [Nat.zero_add, List.getElem?_append_left (by simp; omega)]
  rw [List.getElem?_replicate] at h ⊢
  rw [if_pos hj] at h
  rw [if_pos (by omega)]
  exact h
/-- A list's front is copied onto what is behind it. -/
theorem os_copyX {e n k cap cap2 : Nat} {z : Int} (h1 : k ≤ n) (ht : tyAt c.tys t = some ⟨a0, s0, z0, .slice e⟩) (he : tyAt c.tys e = some ⟨a1, 1, z1, k1⟩) (hx : ev F x = some (.slice (some ⟨g, 0 + k * 1, none⟩) (n - k) cap)) (hy : ev F y = some (.slice (some ⟨g, 0, none⟩) k cap2))
    (hp : Pick H g (fillX z n k) tg H') (kk : K (.int .i64 (min k (n - k) : Nat)) ((g, fillX z n (k + min k (n - k)), tg) :: H')) : OS c ⟨d, .call ⟨.builtin .copy, #[x, y], #[t, t']⟩, ty, pos, af, gd⟩ F H K := by
  rw [Nat.zero_add, Nat.mul_one] at hx
  refine os_copy (vs := List.replicate (min k (n - k)) (Value.int .i64 z)) ht he hx hy hp (Rds.own hp _ _ fun j v hj => fillX_at (by omega) j v hj) (by simp) (by rw [fillX_len h1]; simp; omega) (by intro v hv; obtain rfl := (List.mem_replicate.1 hv).2; rfl) ?_
  rw [fillX_set _ _ (by omega)]
  simpa using kk
theorem os_copy1 {e n b2 o2 cap cap2 : Nat} {z : Int} (h1 : 1 ≤ n) (ht : tyAt c.tys t = some ⟨a0, s0, z0, .slice e⟩) (he : tyAt c.tys e = some ⟨a1, 1, z1, k1⟩) (hx : ev F x = some (.slice (some ⟨g, 0, none⟩) n cap)) (hy : ev F y = some (.slice (some ⟨b2, o2, none⟩) 1 cap2))
    (hp : Pick H g (List.replicate n (Value.int .i64 0)) tg H') (hr : Rd c H ⟨b2, o2, none⟩ (.int .i64 z)) (kk : K (.int .i64 (1 : Nat)) ((g, fillX z n 1, tg) :: H')) : OS c ⟨d, .call ⟨.builtin .copy, #[x, y], #[t, t']⟩, ty, pos, af, gd⟩ F H K := by
  refine os_copy (vs := [Value.int .i64 z]) ht he hx hy hp ⟨hr, trivial⟩ (by show 1 = min 1 n; omega) (by simp; omega) (by intro v hv; simp only [List.mem_singleton] at hv; rw [hv]; rfl) ?_
  have := fillX_set (x := z) (n := n) 1 0 (by omega)
  rw [fillX_zero (x := z)]
  rw [show ([Value.int .i64 z] : List Value) = List.replicate 1 (Value.int .i64 z) from rfl, this]
  exact kk
end
end Go.Proofs.Ytmlmgipngbndgaa
/- What may be due at most, row by row. Plain laws. -/
namespace Go.Proofs.Ytmlmgipngbndgaa
set_option linter.unusedVariables false
set_option linter.unusedSimpArgs false
def flK (fs : List Int) (fl : Int) : Nat → Int
  | 0 => fl
  | k + 1 => flK fs fl k + fs[k]?.getD 0
def rowK (ev gr : Int) (fs : List Int) (fl : Int) (b : List Int) : Nat → List Int
  | 0 => b
  | k + 1 => nxRow ev gr (flK fs fl k) (fs[k]?.getD 0) (rowK ev gr fs fl b k)
theorem flK_cons (f : Int) (t : List Int) (fl : Int) : ∀ k, flK (f :: t) fl (k + 1) = flK t (fl + f) k
  | 0 => by simp [flK]
  | k + 1 => by
    have := flK_cons f t fl k
    rw [show flK (f :: t) fl (k + 1 + 1) = flK (f :: t) fl (k + 1) + (f :: t)[k + 1]?.getD 0 from rfl, this]
    rfl
theorem rowK_cons (ev gr f : Int) (t : List Int) (fl : Int) (b : List Int) : ∀ k, rowK ev gr (f :: t) fl b (k + 1) = rowK ev gr t (fl + f) (nxRow ev gr fl f b) k
  | 0 => rfl
  | k + 1 => by
    have h1 := rowK_cons ev gr f t fl b k
    have h2 := flK_cons f t fl k
    rw [show rowK ev gr (f :: t) fl b (k + 1 + 1) = nxRow ev gr (flK (f :: t) fl (k + 1)) ((f :: t)[k + 1]?.getD 0) (rowK ev gr (f :: t) fl b (k + 1)) from rfl, h1, h2]
    rfl
theorem frL_rowK (ev gr : Int) : ∀ (t : List Int) (fl : Int) (b : List Int), frL ev gr t fl b = rowK ev gr t fl b t.length
  | [], _, _ => rfl
  | f :: t, fl, b => by
    rw [List.length_cons, rowK_cons, ← frL_rowK ev gr t]
    rfl
theorem rowK_len (ev gr : Int) (fs : List Int) (fl : Int) (b : List Int) : ∀ k, (rowK ev gr fs fl b k).length = b.length + k
  | 0 => rfl
  | k + 1 => by
    have := rowK_len ev gr fs fl b k
    simp only [rowK, nxRow, List.length_map, List.length_range, this]
    omega
theorem flK_in {fs : List Int} (hf : FsOk fs) {fl : Int} (h0 : 0 ≤ fl) : ∀ {k : Nat}, k ≤ fs.length → fl ≤ flK fs fl k ∧ flK fs fl k ≤ fl + 10000 * (k : Int)
  | 0, _ => by simp [flK]
  | k + 1, hk => by
    have ih := flK_in hf h0 (k := k) (by omega)
    have hx : fs[k]? = some fs[k] := List.getElem?_eq_getElem (by omega)
    have := hf fs[k] (List.getElem_mem (by omega))
    rw [show flK fs fl (k + 1) = flK fs fl k + fs[k]?.getD 0 from rfl, hx]
    simp only [Option.getD_some]
    omega
theorem rowK_ok {ev gr : Int} (he : 1 ≤ ev ∧ ev ≤ 100000) (hg : 0 ≤ gr ∧ gr ≤ 100000) {fs : List Int} (hf : FsOk fs) {fl : Int} (h0 : 0 ≤ fl) {b : List Int} (h : RowOk fl b) : ∀ {k : Nat}, k ≤ fs.length → RowOk (flK fs fl k) (rowK ev gr fs fl b k)
  | 0, _ => h
  | k + 1, hk => by
    have ih := rowK_ok he hg hf h0 h (k := k) (by omega)
    have hx : fs[k]? = some fs[k] := List.getElem?_eq_getElem (by omega)
    have := hf fs[k] (List.getElem_mem (by omega))
    have h2 := (flK_in hf h0 (k := k) (by omega)).1
    rw [show flK fs fl (k + 1) = flK fs fl k + fs[k]?.getD 0 from rfl, show rowK ev gr fs fl b (k + 1) = nxRow ev gr (flK fs fl k) (fs[k]?.getD 0) (rowK ev gr fs fl b k) from rfl, hx]
    exact nxRow_ok he hg this (by omega) ih
theorem nxC_0 {ev fl : Int} {b : List Int} {x : Int} (h : b[0]? = some x) : nxC ev fl b 0 = x := by unfold nxC; rw [if_neg (fun hc => by omega), atD_some h]
theorem nxC_in {ev fl : Int} {b : List Int} {k : Nat} {x y : Int} (h : b[k + 1]? = some x) (h2 : b[k]? = some y) : nxC ev fl b (k + 1) = if -never < y then max x (min fl y + ev) else x := by
  unfold nxC
  rw [Nat.add_sub_cancel, atD_some h, atD_some h2]
  by_cases hc : -never < y
  · rw [if_pos ⟨by omega, hc⟩, if_pos hc]
  · rw [if_neg (fun h => hc h.2), if_neg hc]
theorem nxC_end {ev fl : Int} {b : List Int} {k : Nat} {y : Int} (h : b.length = k + 1) (h2 : b[k]? = some y) : nxC ev fl b (k + 1) = if -never < y then max (-never) (min fl y + ev) else -never := by
  have e : atD b (k + 1) = -never := by unfold atD; rw [List.getElem?_eq_none (by omega)]; rfl
  unfold nxC
  rw [Nat.add_sub_cancel, e, atD_some h2]
  by_cases hc : -never < y
  · rw [if_pos ⟨by omega, hc⟩, if_pos hc]
  · rw [if_neg (fun h => hc h.2), if_neg hc]
end Go.Proofs.Ytmlmgipngbndgaa
/- Lists that are filled. -/
namespace Go.Proofs.Ytmlmgipngbndgaa
open Go.RowKit
attribute [local irreducible] OQ OS OX Rd T TL GX GL AL AI RV wpG SAny Calls
set_option maxRecDepth 100000
set_option maxHeartbeats 2000000
set_option linter.unusedVariables false
set_option linter.unusedSimpArgs false

theorem info3 : (Try.prog.info? 3).map (fun i => i.zero) = some (some (.int .i64 0)) := by kernel_rfl
/-- A list that is filled, from the front. -/
def fillV (nx : Nat → Int) (m k : Nat) : List Value := ((List.range k).map nx).map iv ++ List.replicate (m - k) (Value.int .i64 0)
theorem fill_open {nx : Nat → Int} {m k : Nat} (h : k < m) : fillV nx m k = ((List.range k).map nx).map iv ++ Value.int .i64 0 :: List.replicate (m - (k + 1)) (Value.int .i64 0) := by
  unfold fillV
  rw [show m - k = (m - (k + 1)) + 1 by omega, List.replicate_succ]
theorem fill_close {nx : Nat → Int} {m k : Nat} {v : Int} (h : nx k = v) : ((List.range k).map nx).map iv ++ Value.int .i64 v :: List.replicate (m - (k + 1)) (Value.int .i64 0) = fillV nx m (k + 1) := by
  unfold fillV
  rw [List.range_succ]
  simp [h, iv]
theorem fill_done {nx : Nat → Int} {m : Nat} : fillV nx m m = ((List.range m).map nx).map iv := by unfold fillV; simp
end Go.Proofs.Ytmlmgipngbndgaa
/- Repeat. -/
namespace Go.Proofs.Ytmlmgipngbndgaa
open Go.RowKit
attribute [local irreducible] OQ OS OX Rd T TL GX GL AL AI RV wpG SAny Calls
set_option maxRecDepth 100000
set_option maxHeartbeats 2000000
set_option linter.unusedVariables false
set_option linter.unusedSimpArgs false


theorem mul64_calls (x y : Int) (h0 : 0 ≤ x) (h1 : x < 4294967296) (h2 : 0 ≤ y) (h3 : y < 4294967296) (w : World) : Calls Try.prog 122 #[.int .u64 x, .int .u64 y] w fun e w' => e = .returned (.tuple #[.int .u64 0, .int .u64 (x * y)]) ∧ Ext w w' := by
  have hp : 0 ≤ x * y ∧ x * y ≤ 4294967295 * 4294967295 := ⟨Int.mul_nonneg h0 h2, Int.mul_le_mul (by omega) (by omega) h2 (by omega)⟩
  have hxy : InU (x * y) := ⟨by omega, by omega⟩
  refine enterQ (c := cx w 51) Try.func122 rfl rfl rfl rfl ?_
  repeat' (first | ((with_reducible apply oq_id); first | (apply oq_fn; exact rfl; first | exact trivial | (refine ⟨?_, ?_⟩ <;> omega) | (refine ⟨?_, ?_, ?_⟩ <;> omega) | omega | skip) | (focus ((with_reducible apply oq_shrLow); exact rfl; exact rfl; (refine ⟨?_, ?_⟩ <;> omega))) | (focus ((with_reducible apply oq_andLow); exact rfl; exact rfl; (refine ⟨?_, ?_⟩ <;> omega))) | (focus ((with_reducible apply oq_shr32); exact rfl; exact rfl; omega)) | (focus ((with_reducible apply oq_addU); exact rfl; exact rfl; (first | exact hxy | (refine ⟨?_, ?_⟩ <;> omega)))) | (focus ((with_reducible apply oq_mulU); exact rfl; exact rfl; (first | exact hxy | (refine ⟨?_, ?_⟩ <;> omega))))) | ((with_reducible apply tl_id); first | ((with_reducible apply tl_nil)) | ((with_reducible apply u_q); exact rfl; exact rfl; exact rfl; exact rfl)) | ((with_reducible apply t_id); first | ((with_reducible apply t_seq)) | (apply t_region; kernel_rfl) | ((with_reducible apply t_ret))) | with_reducible apply q_thenN | ((with_reducible apply end_ret)) | exact rvs_nil | ((with_reducible apply rvs_cons)) | ((with_reducible apply rv_tmp); exact rfl))
  all_goals rfl
theorem mul_calls (y : Int) (h2 : 0 ≤ y) (h3 : y < 4294967296) (w : World) : Calls Try.prog 103 #[.int .u64 1, .int .u64 y] w fun e w' => e = .returned (.tuple #[.int .u64 0, .int .u64 y]) ∧ Ext w w' := by
  have HM := fun w1 => mul64_calls 1 y (by omega) (by omega) h2 h3 w1
  rw [Int.one_mul] at HM
  refine enterQ (c := cx w 30) Try.func103 rfl rfl rfl rfl ?_
  repeat' (first | ((with_reducible apply oq_id); first | (apply oq_fn; exact rfl; first | exact trivial | (refine ⟨?_, ?_⟩ <;> omega) | (refine ⟨?_, ?_, ?_⟩ <;> omega) | omega | skip) | ((with_reducible apply oq_call (k := 122) (hc := Try.call122)); exact rfl; exact rfl; exact fun D w1 hw1 => HM w1)) | ((with_reducible apply tl_id); first | ((with_reducible apply tl_nil)) | ((with_reducible apply u_q); exact rfl; exact rfl; exact rfl; exact rfl)) | ((with_reducible apply t_id); first | ((with_reducible apply t_seq)) | (apply t_region; kernel_rfl) | ((with_reducible apply t_condF); exact rfl) | ((with_reducible apply t_ret)) | ((with_reducible apply t_skip))) | with_reducible apply q_thenN | ((with_reducible apply end_ret)) | exact rvs_nil | ((with_reducible apply rvs_cons)) | ((with_reducible apply rv_tmp); exact rfl))
  all_goals rfl


def RepV (x : Int) (n : Nat) (V : Value) (H : Hp) : Prop := ∃ g, V = .slice (some ⟨g, 0, none⟩) n n ∧ H = [(g, (List.replicate n x).map iv, some (3, 1, n))]
theorem repeat_T (x : Int) (A : Option Addr) (n c : Nat) (w : World) (hr : RdS w 1 A 1 ([x].map inCells)) (hn0 : 1 ≤ n) (hn : n ≤ 1000) :
    Calls Try.prog 74 #[.slice A 1 c, .int .i64 (n : Int)] w fun e w' => ∃ V H', e = .returned V ∧ RepV x n V H' ∧ Has w ⟨[], []⟩ H' w' := by
  have HM := fun w1 => mul_calls (n : Int) (by omega) (by omega) w1
  obtain ⟨b1, o1, x', rfl, _, hx, c0⟩ := in_read hr (show 0 < 1 by omega)
  obtain rfl : x = x' := by simpa using hx
  refine enterF (c := cx w 48) Try.func74 rfl rfl rfl rfl ?_
  repeat' (first | ((with_reducible apply oq_id); first | (apply oq_fn; exact rfl; first | exact trivial | (refine ⟨?_, ?_⟩ <;> omega) | (refine ⟨?_, ?_, ?_⟩ <;> omega) | omega | skip) | (focus ((with_reducible apply oq_convU); exact rfl; exact rfl; exact rfl; (refine ⟨?_, ?_⟩ <;> omega))) | ((with_reducible apply oq_call (k := 103) (hc := Try.call103)); exact rfl; exact rfl; exact fun D w1 hw1 => HM w1)) | ((with_reducible apply tl_id); first | ((with_reducible apply tl_nil)) | ((with_reducible apply u_s); exact rfl; exact rfl; exact rfl; ((with_reducible apply os_copy1); omega; exact rfl; exact rfl; exact rfl; exact rfl; (repeat (first | exact P0 | apply P1)))) | ((with_reducible apply u_q); exact rfl; exact rfl; exact rfl; exact rfl) | ((with_reducible apply u_s); exact rfl; exact rfl; exact rfl)) | ((with_reducible apply rd_id); first | (apply Rd.old; (first | (with_reducible assumption) | exact c0 | exact c1 | exact c2 | exact c3 | exact c4 | exact c5 | exact c6 | exact c7 | exact c8 | exact d0 | exact d1 | exact d2 | exact d3 | exact d4 | exact d5); first | exact List.not_mem_nil | exact m0 | exact m1 | exact m2 | exact m3 | exact m4 | exact m5 | exact m6 | exact m7 | exact m8 | exact m9)) | ((with_reducible apply t_id); first | ((with_reducible apply t_seq)) | (apply t_region; kernel_rfl) | ((with_reducible apply t_condF); exact rfl) | ((with_reducible apply t_condD); exact rfl; all_goals first | (intro hp; try (exfalso; omega)) | skip) | ((with_reducible apply t_skip)) | ((with_reducible apply t_block))) | with_reducible apply q_thenN | ((with_reducible apply os_makeI (hk := app_ok41) (hz := info3)); exact rfl; exact rfl; omega; (unfold maxLen; omega); intro _))
  rename_i gN
  apply t_loopK (ι := Nat) [4, 7, 47] (fun k => [(8, .int .i64 (k : Nat))]) (fun k => [(gN, fillX x n k, some (3, 1, n))]) (fun k => 1 ≤ k ∧ k ≤ n) (fun k => n - k) (1)
  (repeat (first | exact KeepF.nil | (apply KeepF.cons; exact rfl) | apply KeepF.skip))
  (repeat (first | exact FrSub.nil | (apply FrSub.cons; exact rfl)))
  (repeat (first | exact HpSub.refl _ | (apply HpSub.consE; (repeat (first | exact P0 | apply P1)); exact rfl) | exact HpSub.nil))
  · exact ⟨by omega, hn0⟩
  rintro k ⟨hk0, hk⟩
  try simp only [List.cons_append, List.nil_append]
  by_cases hlt : k < n
  · have hm : k + min k (n - k) ≤ n := by omega
    repeat' (first | ((with_reducible apply oq_id); first | (focus ((with_reducible apply oq_sliceH (h := k)); exact rfl; exact rfl; exact rfl; exact rfl; exact rfl; omega)) | (focus ((with_reducible apply oq_sliceL (l := k)); exact rfl; exact rfl; exact rfl; exact rfl; exact rfl; omega; omega)) | ((with_reducible apply oq_addE (k := ((k + min k (n - k) : Nat) : Int))); exact rfl; exact rfl; omega) | (apply oq_fn; exact rfl; first | exact trivial | (refine ⟨?_, ?_⟩ <;> omega) | (refine ⟨?_, ?_, ?_⟩ <;> omega) | omega | skip)) | ((with_reducible apply tl_id); first | ((with_reducible apply tl_nil)) | ((with_reducible apply u_q); exact rfl; exact rfl; exact rfl; exact rfl)) | ((with_reducible apply gx_id); first | ((with_reducible apply v_nil)) | ((with_reducible apply v_q); exact rfl; exact rfl; exact rfl)) | ((with_reducible apply ai_id); first | ((with_reducible apply ai_s); exact rfl; exact rfl; exact rfl; exact rfl; exact rfl; ((with_reducible apply os_copyX (n := n) (k := k)); omega; exact rfl; exact rfl; exact rfl; exact rfl; (repeat (first | exact P0 | apply P1)))) | ((with_reducible apply ai_q); exact rfl; exact rfl; exact rfl; exact rfl; exact rfl)) | ((with_reducible apply t_id); first | (apply t_mix (id := 9) [1, 2, 3, 4, 5, 6] 4 #[false, false, false, false, false, false, false, true, false, false]; kernel_rfl; kernel_rfl; exact rfl) | ((with_reducible apply t_seq)) | (apply t_region; kernel_rfl) | ((with_reducible apply t_condD); exact rfl; all_goals first | (intro hp; try (exfalso; omega)) | skip) | ((with_reducible apply t_skip)) | ((with_reducible apply t_block))) | with_reducible apply q_thenN | with_reducible apply q_blockN | ((with_reducible apply al_id); first | (apply al_done; decide +kernel) | (apply al_one 0; decide +kernel) | (apply al_one 7; decide +kernel) | (apply al_one 8; decide +kernel) | (apply al_one 9; decide +kernel) | (apply al_two 0 7; decide +kernel)))
    all_goals (refine ⟨k + min k (n - k), ⟨by omega, hm⟩, by omega, ?_, ?_⟩)
    all_goals ((try simp only [List.cons_append, List.nil_append]); (repeat' (first | exact FrSub.nil | (apply FrSub.cons; exact rfl) | exact HpSub.refl _)))
  · obtain rfl : k = n := by omega
    repeat' (first | ((with_reducible apply oq_id); first | (apply oq_fn; exact rfl; first | exact trivial | (refine ⟨?_, ?_⟩ <;> omega) | (refine ⟨?_, ?_, ?_⟩ <;> omega) | omega | skip)) | ((with_reducible apply tl_id); first | ((with_reducible apply tl_nil)) | ((with_reducible apply u_q); exact rfl; exact rfl; exact rfl; exact rfl)) | ((with_reducible apply t_id); first | ((with_reducible apply t_seq)) | (apply t_region; kernel_rfl) | ((with_reducible apply t_condD); exact rfl; all_goals first | (intro hp; try (exfalso; omega)) | skip) | ((with_reducible apply t_ret)) | ((with_reducible apply t_exit))) | with_reducible apply q_thenN | with_reducible apply q_thenE | ((with_reducible apply q_blockE); exact rfl) | ((with_reducible apply end_ret)) | exact rvs_nil | ((with_reducible apply rvs_cons)) | ((with_reducible apply rv_tmp); exact rfl))
    all_goals exact ⟨_, ⟨gN, rfl, by rw [← fillX_done]⟩, by (repeat (first | exact HpSub.refl _ | (apply HpSub.consE; (repeat (first | exact P0 | apply P1)); exact rfl) | exact HpSub.nil))⟩

end Go.Proofs.Ytmlmgipngbndgaa
/- Plans of inspections: plain laws, part 2. -/
namespace Go.Proofs.Ytmlmgipngbndgaa
set_option linter.unusedVariables false
set_option linter.unusedSimpArgs false
theorem FsOk.drop {fs : List Int} (h : FsOk fs) (i : Nat) : FsOk (fs.drop i) := fun x hx => h x (List.mem_of_mem_drop hx)
theorem row_ok1 {fl b : Int} (h : -100000 ≤ b ∧ b ≤ fl + 100000) : RowOk fl [b] := by
  intro x hx
  obtain rfl : x = b := by simpa using hx
  exact .inr h
theorem row_iff {ev gr : Int} (he : 1 ≤ ev ∧ ev ≤ 100000) (hg : 0 ≤ gr ∧ gr ≤ 100000) {fs : List Int} (hf : FsOk fs) (hn : fs.length ≤ 60) {fl b : Int} (h0 : 0 ≤ fl ∧ fl ≤ 1000000) (hb : -100000 ≤ b ∧ b ≤ fl + 100000) (K : Nat) :
    -100000 ≤ atD (rowK ev gr fs fl [b] fs.length) K ↔ ndL ev gr fs K ≤ b - fl := by
  have hnv : never = 1099511627776 := rfl
  rw [← frL_rowK, frL_iff he hg hf h0.1 (by omega) (row_ok1 hb)]
  constructor
  · rintro ⟨j, hj, hv, hd⟩
    cases j with
    | zero => exact hd
    | succ j =>
      have : atD [b] (j + 1) = -never := rfl
      omega
  · intro h
    exact ⟨0, Nat.zero_le _, hb.1, h⟩
theorem few_at {ev gr du : Int} {fs : List Int} {k : Nat} (hk : k ≤ fs.length) (h : ndL ev gr fs k ≤ du) (hb : ∀ j, j < k → ¬ ndL ev gr fs j ≤ du) : fewV ev gr du fs = (k : Int) := by
  unfold fewV
  refine idxV_some (x := ndL ev gr fs k) (by rw [List.getElem?_map, List.getElem?_range (by omega)]; rfl) (by simpa using h) fun y hy => ?_
  obtain ⟨j, hj⟩ := List.mem_iff_getElem?.1 hy
  rw [List.getElem?_take] at hj
  split at hj
  · rename_i hlt
    have h2 := hb j hlt
    simp only [List.getElem?_map, Option.map_eq_some_iff] at hj
    obtain ⟨j', h3, rfl⟩ := hj
    obtain rfl : j = j' := by
      have := (List.getElem?_eq_some_iff.1 h3).2
      simpa using this
    simpa using h2
  · cases hj
theorem few_no {ev gr du : Int} {fs : List Int} (hb : ∀ j, j < fs.length + 1 → ¬ ndL ev gr fs j ≤ du) : fewV ev gr du fs = -1 := by
  unfold fewV
  refine idxV_none fun y hy => ?_
  obtain ⟨j, hj, rfl⟩ := List.mem_map.1 hy
  simpa using hb j (List.mem_range.1 hj)
theorem skip_iff {ev gr : Int} (he : 1 ≤ ev ∧ ev ≤ 100000) (hg : 0 ≤ gr ∧ gr ≤ 100000) {x : Int} {t : List Int} (hf : FsOk t) (hn : t.length ≤ 60) (hx : 1 ≤ x ∧ x ≤ 10000) {fl b : Int} (h0 : 0 ≤ fl ∧ fl + x ≤ 1000000) (hb : -100000 ≤ b ∧ b ≤ fl + 100000) (k : Nat) :
    befV gr x (ndL ev gr t k) ≤ b - fl ↔ fl + x ≤ b + gr ∧ k ≤ t.length ∧ -100000 ≤ atD (rowK ev gr t (fl + x) [b] t.length) k := by
  have hnv : never = 1099511627776 := rfl
  rw [row_iff he hg hf hn (by omega) (by omega)]
  unfold befV
  constructor
  · intro h
    refine ⟨by omega, ?_, by omega⟩
    refine Decidable.by_contra fun hc => ?_
    have := nd_big (gr := gr) he hf (show t.length < k by omega)
    omega
  · rintro ⟨h1, _, h2⟩
    omega
theorem insG_skip {ev gr x : Int} {t : List Int} {i k : Nat} {L : Int} (h : befV gr x (ndL ev gr t k) ≤ L) : insG ev gr (x :: t) i k L = insG ev gr t (i + 1) k (L - x) := by
  rw [insG, if_pos h]
theorem insG_ins {ev gr x : Int} {t : List Int} {i k : Nat} {L : Int} (h : ¬ befV gr x (ndL ev gr t k) ≤ L) : insG ev gr (x :: t) i k L = (i : Int) :: insG ev gr t (i + 1) (k - 1) (min L 0 + ev - x) := by
  rw [insG, if_neg h]
/-- What is needed behind a flight, where there is an inspection before it or not. -/
theorem nd_skip {ev gr x : Int} {t : List Int} {k : Nat} {L : Int} (h : befV gr x (ndL ev gr t k) ≤ L) : ndL ev gr t k ≤ L - x := by unfold befV at h; omega
theorem nd_ins {ev gr x : Int} {t : List Int} {k : Nat} {L : Int} (h0 : ndL ev gr (x :: t) k ≤ L) (h : ¬ befV gr x (ndL ev gr t k) ≤ L) : 1 ≤ k ∧ ndL ev gr t (k - 1) ≤ min L 0 + ev - x ∧ x - gr ≤ min L 0 + ev := by
  rcases nd_iff.1 h0 with h1 | ⟨j, rfl, h1⟩
  · exact absurd h1 h
  · unfold befV at h1
    rw [Nat.add_sub_cancel]
    exact ⟨by omega, by omega, by omega⟩
end Go.Proofs.Ytmlmgipngbndgaa
/- A plan: nil, or a block of one's own. -/
namespace Go.Proofs.Ytmlmgipngbndgaa
open Go.RowKit
attribute [local irreducible] OQ OS OX Rd T TL GX GL AL AI RV wpG SAny Calls
set_option maxRecDepth 100000
set_option maxHeartbeats 2000000
set_option linter.unusedVariables false
set_option linter.unusedSimpArgs false

section
variable {c : Cx} {F : Fr} {H : Hp} {d : Option Tmp} {ty t : TypeId} {pos : String} {af : Array Edge} {g : Option (Nat × Bool)} {x y : Operand}
theorem oq_sliceL2 {a0 a1 : Bool} {s0 s1 e b o len cap l : Nat} {z0 z1 : List Value} {k1 : TyK} {k : IntKind} {li : Int} (ht : tyAt c.tys t = some ⟨a0, s0, z0, .slice e⟩) (he : tyAt c.tys e = some ⟨a1, s1, z1, k1⟩)
    (hx : ev F x = some (.slice (some ⟨b, o, none⟩) len cap)) (hy : ev F y = some (.int k li)) (hl : li = l) (h1 : l ≤ len) :
    OQ c ⟨d, .slice t x (some y) none none, ty, pos, af, g⟩ F H (.slice (some ⟨b, if cap = l then o else o + l * s1, none⟩) (len - l) (cap - l)) := .of fun D a w ha _ => by
  subst hl
  have hk := (c.ty ht).kind w
  have hs := (c.ty he).size w
  simp only [execOp, Option.map, ha.ev hx, ha.ev hy]
  by_cases h2 : cap = l
  · subst h2
    simp [Instr.sliceAt, Instr.slice, Instr.sliceBounds, Instr.sliceBound, asIntOf, Sem.run_bind, hk, hs, h1, Result.andThen, go_sem, add_eq]
  · rw [if_neg h2]
    simp [Instr.sliceAt, Instr.slice, Instr.sliceBounds, Instr.sliceBound, asIntOf, Sem.run_bind, hk, hs, h1, h2, Result.andThen, go_sem, add_eq]
end
theorem rows_drop {w : World} {b o n c j : Nat} {l : List Int} (h : RdS w 1 (some ⟨b, o, none⟩) n (l.map inCells)) (hj : j ≤ n) (hc : n ≤ c) : RdS w 1 (some ⟨b, if c = j then o else o + j * 1, none⟩) (n - j) ((l.drop j).map inCells) := by
  have hl := h.len
  simp only [List.length_map] at hl
  refine ⟨by simp; omega, fun hp => ?_⟩
  rw [if_neg (by omega)]
  obtain ⟨b', o', hA, hb, hat⟩ := h.at_ (by omega)
  simp only [Option.some.injEq, Addr.mk.injEq, and_true] at hA
  obtain ⟨rfl, rfl⟩ := hA
  refine ⟨b, o + j * 1, rfl, hb, fun i x hx => ?_⟩
  rw [List.map_drop, List.getElem?_drop] at hx
  obtain ⟨h1, h2⟩ := hat (j + i) x hx
  refine ⟨h1, fun q u hu => ?_⟩
  have := h2 q u hu
  rw [← this]
  congr 2
  omega
/-- A list that is nil, or a block of the call's own. -/
def planS (pre : List Int) : Option (Nat × Nat) → Value
  | none => .slice none 0 0
  | some (g, cap) => .slice (some ⟨g, 0, none⟩) pre.length cap
def planH (pre : List Int) : Option (Nat × Nat) → Hp
  | none => []
  | some (g, cap) => [(g, pre.map iv, some (3, 1, cap))]
theorem planS_none (pre : List Int) : planS pre none = .slice none 0 0 := rfl
theorem planS_some (pre : List Int) (g cap : Nat) : planS pre (some (g, cap)) = .slice (some ⟨g, 0, none⟩) pre.length cap := rfl
theorem planH_none (pre : List Int) : planH pre none = [] := rfl
theorem planH_some (pre : List Int) (g cap : Nat) : planH pre (some (g, cap)) = [(g, pre.map iv, some (3, 1, cap))] := rfl
/-- What Inspect returns. -/
def InsO (E : Int) (pl : List Int) (V : Value) (H : Hp) : Prop :=
  (E ≠ 0 ∧ V = .tuple #[.slice none 0 0, .int .i64 E] ∧ H = []) ∨ (E = 0 ∧ ∃ o, (o = none → pl = []) ∧ V = .tuple #[planS pl o, .int .i64 0] ∧ H = planH pl o)
end Go.Proofs.Ytmlmgipngbndgaa
/- Inspect: what is needed, row by row: small parts. -/
namespace Go.Proofs.Ytmlmgipngbndgaa
open Go.RowKit
attribute [local irreducible] OQ OS OX Rd T TL GX GL AL AI RV wpG SAny Calls
set_option maxRecDepth 100000
set_option maxHeartbeats 2000000
set_option linter.unusedVariables false
set_option linter.unusedSimpArgs false

/-- What 'before' tells. -/
theorem bef_calls (b3 b2 b8 bN gR i k n : Nat) (A : Option Addr) (c cN cR : Nat) (fs : List Int) (gr x r : Int) (w : World) (hr : RdS w 1 A n (fs.map inCells)) (hx : fs[i]? = some x) (k0 : w.cell? ⟨b3, 0, none⟩ = some (.slice A n c)) (k1 : w.cell? ⟨b2, 0 + 1, none⟩ = some (.int .i64 gr)) (k2 : w.cell? ⟨b8, 0, none⟩ = some (.slice (some ⟨bN, 0, none⟩) (n + 1) cN))
    (k3 : w.cell? ⟨bN, 0 + (i + 1) * 1, none⟩ = some (.slice (some ⟨gR, 0, none⟩) (n + 1) cR)) (k4 : w.cell? ⟨gR, 0 + k * 1, none⟩ = some (.int .i64 r)) (hk : k ≤ n) (hn : n ≤ 1000) (hxx : 1 ≤ x ∧ x ≤ 10000) (hg : 0 ≤ gr ∧ gr ≤ 100000) (hrr : -1099511627776 ≤ r ∧ r ≤ 2199023255552) :
    Calls Try.prog 75 #[.int .i64 (i : Int), .int .i64 (k : Int), .pointer (some ⟨b3, 0, none⟩), .pointer (some ⟨b2, 0, none⟩), .pointer (some ⟨b8, 0, none⟩)] w fun e w' => e = .returned (.int .i64 (befV gr x r)) ∧ Ext w w' := by
  have hl := hr.len
  simp only [List.length_map] at hl
  have hi := (List.getElem?_eq_some_iff.1 hx).1
  obtain ⟨b1, o1, x', rfl, _, hx', c0⟩ := in_read hr (show i < n by omega)
  obtain rfl : x = x' := by rw [hx] at hx'; exact Option.some.inj hx'
  refine enterQ (c := cx w 29) Try.func75 rfl rfl rfl rfl ?_
  repeat' (first | ((with_reducible apply oq_id); first | (focus ((with_reducible apply oq_indexAddrN); exact rfl; exact rfl; exact rfl; exact rfl; omega)) | ((with_reducible apply oq_addE (k := ((i + 1 : Nat) : Int))); exact rfl; exact rfl; omega) | (apply oq_fn; exact rfl; first | exact trivial | (refine ⟨?_, ?_⟩ <;> omega) | (refine ⟨?_, ?_, ?_⟩ <;> omega) | omega | skip) | ((with_reducible apply oq_load); exact rfl; exact rfl)) | ((with_reducible apply tl_id); first | ((with_reducible apply tl_nil)) | ((with_reducible apply u_q); exact rfl; exact rfl; exact rfl; exact rfl)) | ((with_reducible apply gx_id); first | ((with_reducible apply v_nil)) | ((with_reducible apply v_q); exact rfl; exact rfl; exact rfl)) | ((with_reducible apply rd_id); first | (apply Rd.old; (first | exact k0 | exact k1 | exact k2 | exact k3 | exact k4); exact List.not_mem_nil) | (apply Rd.old; (first | (with_reducible assumption) | exact c0 | exact c1 | exact c2 | exact c3 | exact c4 | exact c5 | exact c6 | exact c7 | exact c8 | exact d0 | exact d1 | exact d2 | exact d3 | exact d4 | exact d5); first | exact List.not_mem_nil | exact m0 | exact m1 | exact m2 | exact m3 | exact m4 | exact m5 | exact m6 | exact m7 | exact m8 | exact m9)) | ((with_reducible apply t_id); first | ((with_reducible apply t_seq)) | (apply t_region; kernel_rfl) | (apply t_drawn; kernel_rfl; decide +kernel; try simp only [List.append_eq, List.cons_append, List.nil_append]) | ((with_reducible apply t_ret))) | with_reducible apply q_thenN | ((with_reducible apply end_ret)) | exact rvs_nil | ((with_reducible apply rvs_cons)) | ((with_reducible apply rv_tmp); exact rfl))
  all_goals rfl
theorem most_calls (b2 : Nat) (du z : Int) (w : World) (c0 : w.cell? ⟨b2, 0 + 2, none⟩ = some (.int .i64 du)) : Calls Try.prog 77 #[.int .i64 z, .pointer (some ⟨b2, 0, none⟩)] w fun e w' => e = .returned (.bool (decide (z ≤ du))) ∧ Ext w w' := by
  refine enterQ (c := cx w 8) Try.func77 rfl rfl rfl rfl ?_
  repeat' (first | ((with_reducible apply oq_id); first | (apply oq_fn; exact rfl; first | exact trivial | (refine ⟨?_, ?_⟩ <;> omega) | (refine ⟨?_, ?_, ?_⟩ <;> omega) | omega | skip) | ((with_reducible apply oq_load); exact rfl; exact rfl)) | ((with_reducible apply tl_id); first | ((with_reducible apply tl_nil)) | ((with_reducible apply u_q); exact rfl; exact rfl; exact rfl; exact rfl)) | ((with_reducible apply rd_id); first | (apply Rd.old; (first | (with_reducible assumption) | exact c0 | exact c1 | exact c2 | exact c3 | exact c4 | exact c5 | exact c6 | exact c7 | exact c8 | exact d0 | exact d1 | exact d2 | exact d3 | exact d4 | exact d5); first | exact List.not_mem_nil | exact m0 | exact m1 | exact m2 | exact m3 | exact m4 | exact m5 | exact m6 | exact m7 | exact m8 | exact m9)) | ((with_reducible apply t_id); first | ((with_reducible apply t_seq)) | (apply t_region; kernel_rfl) | ((with_reducible apply t_ret))) | with_reducible apply q_thenN | ((with_reducible apply end_ret)) | exact rvs_nil | ((with_reducible apply rvs_cons)) | ((with_reducible apply rv_tmp); exact rfl))
  all_goals rfl


theorem HpSub.skip {x : Nat × List Value × Tg} {H G : Hp} (h : HpSub H G) : HpSub (x :: H) G := by
  induction h with
  | nil => exact .nil
  | cons p _ ih => exact .cons (.tail p) ih
/-- The rows that are there, by the number of flights behind them: the table's tail, and the blocks. -/
def tailV (n : Nat) (gs : Nat → Nat) : Nat → List Value
  | 0 => []
  | m + 1 => .slice (some ⟨gs m, 0, none⟩) (n + 1) (n + 1) :: tailV n gs m
def rowV (ev gr : Int) (fs : List Int) (m : Nat) : List Value := ((List.range (fs.length + 1)).map (ndL ev gr (fs.drop (fs.length - m)))).map iv
def rowsH (n : Nat) (ev gr : Int) (fs : List Int) (gs : Nat → Nat) : Nat → Hp
  | 0 => []
  | m + 1 => (gs m, rowV ev gr fs m, some (3, 1, n + 1)) :: rowsH n ev gr fs gs m
theorem tailV_congr {n : Nat} {gs gs' : Nat → Nat} : ∀ {m : Nat}, (∀ j, j < m → gs j = gs' j) → tailV n gs m = tailV n gs' m
  | 0, _ => rfl
  | m + 1, h => by
    unfold tailV
    rw [h m (by omega), tailV_congr fun j hj => h j (by omega)]
theorem rowsH_congr {n : Nat} {ev gr : Int} {fs : List Int} {gs gs' : Nat → Nat} : ∀ {m : Nat}, (∀ j, j < m → gs j = gs' j) → rowsH n ev gr fs gs m = rowsH n ev gr fs gs' m
  | 0, _ => rfl
  | m + 1, h => by
    unfold rowsH
    rw [h m (by omega), rowsH_congr fun j hj => h j (by omega)]
theorem tailV_at {n : Nat} {gs : Nat → Nat} : ∀ {m j : Nat}, j < m → (tailV n gs m)[m - 1 - j]? = some (.slice (some ⟨gs j, 0, none⟩) (n + 1) (n + 1))
  | 0, _, h => by omega
  | m + 1, j, h => by
    unfold tailV
    rcases (by omega : j = m ∨ j < m) with rfl | hlt
    · rw [show j + 1 - 1 - j = 0 by omega]; rfl
    · rw [show m + 1 - 1 - j = (m - 1 - j) + 1 by omega, List.getElem?_cons_succ]
      exact tailV_at hlt
theorem rowsH_mem {n : Nat} {ev gr : Int} {fs : List Int} {gs : Nat → Nat} : ∀ {m j : Nat}, j < m → (gs j, rowV ev gr fs j, some (3, 1, n + 1)) ∈ rowsH n ev gr fs gs m
  | 0, _, h => by omega
  | m + 1, j, h => by
    unfold rowsH
    rcases (by omega : j = m ∨ j < m) with rfl | hlt
    · exact List.mem_cons_self ..
    · exact List.mem_cons_of_mem _ (rowsH_mem hlt)
theorem rowV_at {ev gr : Int} {fs : List Int} {m k : Nat} (hk : k ≤ fs.length) : (rowV ev gr fs m)[0 + k * 1]? = some (.int .i64 (ndL ev gr (fs.drop (fs.length - m)) k)) := by
  unfold rowV
  rw [Nat.zero_add, Nat.mul_one, List.getElem?_map, List.getElem?_map, List.getElem?_range (by omega)]
  rfl
section
variable {c : Cx} {F : Fr} {H H' : Hp} {K : Value → Hp → Prop} {d : Option Tmp} {ty : TypeId} {pos : String} {af : Array Edge} {gd : Option (Nat × Bool)} {t : TypeId} {x y : Operand} {a0 : Bool} {z0 : List Value} {k0 : TyK} {g k : Nat} {tg : Tg} {A B : List Value} {z u : Value}
theorem rdG (h : A.length = k) (p : Pick H g (A ++ z :: B) tg H') : Rd c H ⟨g, 0 + k * 1, none⟩ z := Rd.own p (by rw [Nat.zero_add, Nat.mul_one, ← h]; simp)
theorem os_storeG (h : A.length = k) (ht : tyAt c.tys t = some ⟨a0, 1, z0, k0⟩) (hx : ev F x = some (.pointer (some ⟨g, 0 + k * 1, none⟩))) (hy : ev F y = some u) (hu : u.oneCell' = true) (hp : Pick H g (A ++ z :: B) tg H')
    (kk : K undef ((g, A ++ u :: B, tg) :: H')) : OS c ⟨d, .store t x y, ty, pos, af, gd⟩ F H K :=
  store_gen (vs := [u]) ht hx hy (by cases u <;> first | rfl | (simp [Value.oneCell'] at hu)) rfl (by simpa using hu) hp (by simp; omega) (by
    have e : setL (A ++ z :: B) (0 + k * 1) [u] = A ++ u :: B := by
      simp only [setL]
      rw [Nat.zero_add, Nat.mul_one, ← h, List.set_append_right _ _ (by simp)]
      simp
    rw [e]; exact kk)
end

end Go.Proofs.Ytmlmgipngbndgaa
/- Inspect. -/
namespace Go.Proofs.Ytmlmgipngbndgaa
open Go.RowKit
attribute [local irreducible] OQ OS OX Rd T TL GX GL AL AI RV wpG SAny Calls
set_option maxRecDepth 100000
set_option maxHeartbeats 2000000
set_option linter.unusedVariables false
set_option linter.unusedSimpArgs false

theorem info41 : (Try.prog.info? 41).map (fun i => i.zero) = some (some (.slice none 0 0)) := by kernel_rfl
theorem os_makeS {w : World} {N n : Nat} {F : Fr} {H : Hp} {M : List Nat} {K : Value → Hp → Prop} {d : Option Tmp} {ty : TypeId} {pos : String} {af : Array Edge} {gd : Option (Nat × Bool)} {x y : Operand}
    (hx : ev F x = some (.int .i64 ((n + 1 : Nat) : Int))) (hy : ev F y = some (.int .i64 ((n + 1 : Nat) : Int))) (hn : n ≤ 1000) (k : ∀ b, K (.slice (some ⟨b, 0, none⟩) (n + 1) (n + 1)) ((b, List.replicate n (Value.slice none 0 0) ++ Value.slice none 0 0 :: [], some (41, 1, n + 1)) :: H)) : OS (cxM M w N) ⟨d, .makeSlice 90 x y, ty, pos, af, gd⟩ F H K := by
  refine .ofX (ox_make (zs := [.slice none 0 0]) app_ok90 info41 rfl rfl hx hy (by omega) (by unfold maxLen; omega) fun b => ?_)
  have e : (List.replicate (n + 1) [Value.slice none 0 0]).flatten = List.replicate n (Value.slice none 0 0) ++ Value.slice none 0 0 :: [] := by
    rw [show (List.replicate n (Value.slice none 0 0) ++ Value.slice none 0 0 :: []) = List.replicate (n + 1) (Value.slice none 0 0) from List.replicate_succ'.symm]
    simp
  rw [e]
  exact k b
theorem row0_eq {ev gr : Int} {fs : List Int} {n : Nat} (hl : fs.length = n) : ((List.replicate (n + 1) (1099511627776 : Int)).set 0 (-1099511627776)).map iv = rowV ev gr fs 0 := by
  unfold rowV
  rw [hl, List.drop_of_length_le (by omega)]
  congr 1
  refine List.ext_getElem (by simp) fun i h1 h2 => ?_
  simp only [List.length_set, List.length_replicate] at h1
  simp only [List.getElem_set, List.getElem_replicate, List.getElem_map, List.getElem_range, nd_nil]
  unfold never
  by_cases hi : i = 0
  · subst hi; simp
  · rw [if_neg (fun h => hi h.symm), if_neg hi]
theorem few_spec {ev gr du : Int} {fs : List Int} {k : Nat} (h : fewV ev gr du fs = (k : Int)) : k ≤ fs.length ∧ ndL ev gr fs k ≤ du := by
  unfold fewV idxV at h
  cases hq : ((List.range (fs.length + 1)).map (ndL ev gr fs)).findIdx? (fun x => decide (x ≤ du)) with
  | none => rw [hq] at h; simp only at h; omega
  | some i =>
    rw [hq] at h
    simp only at h
    obtain rfl : i = k := by omega
    obtain ⟨hi, hp, _⟩ := List.findIdx?_eq_some_iff_getElem.1 hq
    simp only [List.length_map, List.length_range] at hi
    simp only [List.getElem_map, List.getElem_range, decide_eq_true_eq] at hp
    exact ⟨by omega, hp⟩
theorem row_top {w0 : World} {M : Ms} {H H' : Hp} {w : World} {g n : Nat} {ev gr : Int} {fs : List Int} {tg : Tg} (hl : fs.length = n) (h : Has w0 M H w) (q : Pick H g (rowV ev gr fs n) tg H') : RdS w 1 (some ⟨g, 0, none⟩) (n + 1) (((List.range (n + 1)).map (ndL ev gr fs)).map inCells) := by
  have e : rowV ev gr fs n = ((List.range (n + 1)).map (ndL ev gr fs)).map iv := by unfold rowV; rw [hl, Nat.sub_self, List.drop_zero]
  rw [e] at q
  exact int_rows (by simp) h q
theorem few_calls (ev gr du : Int) (fs : List Int) (n g b2 : Nat) (w1 : World) (hl : fs.length = n) (hn : n ≤ 1000) (hr : RdS w1 1 (some ⟨g, 0, none⟩) (n + 1) (((List.range (n + 1)).map (ndL ev gr fs)).map inCells)) (c0 : w1.cell? ⟨b2, 0 + 2, none⟩ = some (.int .i64 du)) :
    Calls Try.prog 76 #[.slice (some ⟨g, 0, none⟩) (n + 1) (n + 1), .func (.func 77) #[] ⟨[.pointer (some ⟨b2, 0, none⟩)]⟩] w1 fun e w' => e = .returned (.int .i64 (fewV ev gr du fs)) ∧ Ext w1 w' := by
  have := indexInt_calls 77 [.pointer (some ⟨b2, 0, none⟩)] (fun z => decide (z ≤ du)) (some ⟨g, 0, none⟩) (n + 1) (n + 1) ((List.range (n + 1)).map (ndL ev gr fs)) w1 hr (by omega) Try.call77 (fun z _ w2 h2 => most_calls b2 du z w2 (h2.cell c0))
  unfold fewV
  rw [hl]
  exact this
theorem bef_row {w0 : World} {M : Ms} {w1 : World} {bN b8 b2 b3 n c i k : Nat} {gs : Nat → Nat} {A : Option Addr} {ev gr du x : Int} {fs : List Int} (hl : fs.length = n)
    (h : Has w0 M ((bN, tailV n gs (n + 1), some (41, 1, n + 1)) :: (b8, [.slice (some ⟨bN, 0, none⟩) (n + 1) (n + 1)], some (90, 1, 1)) :: (b2, [.int .i64 ev, .int .i64 gr, .int .i64 du], some (40, 3, 1)) :: (b3, [.slice A n c], some (41, 1, 1)) :: rowsH n ev gr fs gs (n + 1)) w1)
    (hr : RdS w1 1 A n (fs.map inCells)) (hx : fs[i]? = some x) (hi : i < n) (hk : k ≤ n) (hn : n ≤ 60) (he : 1 ≤ ev ∧ ev ≤ 100000) (hg : 0 ≤ gr ∧ gr ≤ 100000) (hf : FsOk fs) :
    Calls Try.prog 75 #[.int .i64 (i : Int), .int .i64 (k : Int), .pointer (some ⟨b3, 0, none⟩), .pointer (some ⟨b2, 0, none⟩), .pointer (some ⟨b8, 0, none⟩)] w1 fun e w' => e = .returned (.int .i64 (befV gr x (ndL ev gr (fs.drop (i + 1)) k))) ∧ Ext w1 w' := by
  have hm := rowsH_mem (n := n) (ev := ev) (gr := gr) (fs := fs) (gs := gs) (show n - (i + 1) < n + 1 by omega)
  have hb := (h.blk _ (List.mem_cons_of_mem _ (List.mem_cons_of_mem _ (List.mem_cons_of_mem _ (List.mem_cons_of_mem _ hm))))).2
  have k4 := hb.cell (rowV_at (ev := ev) (gr := gr) (m := n - (i + 1)) (k := k) (show k ≤ fs.length by omega))
  rw [show fs.length - (n - (i + 1)) = i + 1 by omega] at k4
  have k3 := (h.blk _ (List.mem_cons_self ..)).2.cell (o := 0 + (i + 1) * 1) (v := .slice (some ⟨gs (n - (i + 1)), 0, none⟩) (n + 1) (n + 1)) (by
    have := tailV_at (n := n) (gs := gs) (show n - (i + 1) < n + 1 by omega)
    rw [← this]
    congr 1
    omega)
  have hnd := nd_in he hg (hf.drop (i + 1)) k
  have h2 : (fs.drop (i + 1)).length ≤ 60 := by rw [List.length_drop]; omega
  have hnv : never = 1099511627776 := rfl
  exact bef_calls b3 b2 b8 bN _ i k n A c (n + 1) (n + 1) fs gr x _ w1 hr hx
    ((h.blk _ (List.mem_cons_of_mem _ (List.mem_cons_of_mem _ (List.mem_cons_of_mem _ (List.mem_cons_self ..))))).2.cell rfl)
    ((h.blk _ (List.mem_cons_of_mem _ (List.mem_cons_of_mem _ (List.mem_cons_self ..)))).2.cell rfl)
    ((h.blk _ (List.mem_cons_of_mem _ (List.mem_cons_self ..))).2.cell rfl) k3 k4 hk (by omega) (hf x (List.mem_of_getElem? hx)) hg (by omega)
theorem need_nx {q : Nat} {a b : Value} {T : List Value} : (List.replicate q (Value.slice none 0 0) ++ a :: b :: T)[0 + (q + 1) * 1]? = some b := by
  rw [Nat.zero_add, Nat.mul_one, List.getElem?_append_right (by simp)]
  simp
theorem rep_open {q : Nat} {T : List Value} : List.replicate (q + 1) (Value.slice none 0 0) ++ T = List.replicate q (Value.slice none 0 0) ++ Value.slice none 0 0 :: T := by
  rw [List.replicate_succ']
  simp

theorem inspect_T (ev gr du : Int) (A : Option Addr) (n c : Nat) (fs : List Int) (w : World) (hr : RdS w 1 A n (fs.map inCells)) (hn : n ≤ 1000) :
    Calls Try.prog 28 #[.agg #[.int .i64 ev, .int .i64 gr, .int .i64 du], .slice A n c] w fun e w' => ∃ V H', e = .returned V ∧ InsO (insE ev gr du fs) (insV ev gr du fs) V H' ∧ Has w ⟨[], []⟩ H' w' := by
  have hl := hr.len
  simp only [List.length_map] at hl
  have HC := fun w1 (hx : Ext w w1) => checkFlights_calls ev gr du A n c fs w1 (hr.ext hx) (by omega)
  by_cases hce : caredE ev gr du fs = 0
  · rw [hce] at HC
    have hE : insE ev gr du fs = if fewV ev gr du fs < 0 then 6 else 0 := by unfold insE; rw [if_pos hce]
    obtain ⟨e1, e2, g1, g2, d1, d2, hn60, hfs⟩ := cared_ok hce
    have he : 1 ≤ ev ∧ ev ≤ 100000 := ⟨e1, e2⟩
    have hg : 0 ≤ gr ∧ gr ≤ 100000 := ⟨g1, g2⟩
    have hf : FsOk fs := hfs
    have hnv : never = 1099511627776 := rfl
    have hA : (List.replicate n (Value.slice none 0 0)).length = n := by simp
    refine enterF (c := cx w 144) Try.func28 rfl rfl rfl rfl ?_
    repeat' (first | ((with_reducible apply oq_id); first | (focus ((with_reducible apply oq_indexAddrN); exact rfl; exact rfl; exact rfl; exact rfl; omega)) | (focus ((with_reducible apply oq_indexAddrN (i := 0)); exact rfl; exact rfl; exact rfl; exact rfl; omega)) | ((with_reducible apply oq_addE (k := ((n + 1 : Nat) : Int))); exact rfl; exact rfl; omega) | (apply oq_fn; exact rfl; first | exact trivial | (refine ⟨?_, ?_⟩ <;> omega) | (refine ⟨?_, ?_, ?_⟩ <;> omega) | omega | skip) | ((with_reducible apply oq_load); exact rfl; exact rfl) | ((with_reducible apply oq_loadAgg); exact rfl; exact rfl) | ((with_reducible apply oq_call (k := 71) (hc := Try.call71)); exact rfl; exact rfl; exact fun D w1 hw1 => HC w1 hw1.ext.ext)) | ((with_reducible apply tl_id); first | ((with_reducible apply tl_nil)) | ((with_reducible apply u_q); exact rfl; exact rfl; exact rfl; exact rfl) | ((with_reducible apply u_s0); exact rfl; exact rfl) | ((with_reducible apply u_s); exact rfl; exact rfl; exact rfl)) | ((with_reducible apply gx_id); first | ((with_reducible apply v_nil)) | ((with_reducible apply v_q); exact rfl; exact rfl; exact rfl)) | ((with_reducible apply os_id); first | ((with_reducible apply os_storeG hA); exact rfl; exact rfl; exact rfl; exact rfl; (repeat (first | exact P0 | apply P1))) | ((with_reducible apply os_storeI (k := 0) (row := List.replicate (n + 1) (1099511627776 : Int))); (focus (simp only [List.length_replicate]; omega)); exact rfl; exact rfl; exact rfl; (repeat (first | exact P0 | apply P1))) | ((with_reducible apply os_x); exact rfl) | ((with_reducible apply os_store); exact rfl; exact rfl; exact rfl; exact rfl)) | ((with_reducible apply ox_id); first | ((with_reducible apply ox_alloc); exact rfl; intro _) | ((with_reducible apply ox_box); exact rfl; exact rfl; intro _) | ((with_reducible apply ox_boxAgg); exact rfl; intro _) | ((with_reducible apply ox_buildSlice1); exact rfl; exact rfl; exact rfl; exact rfl; exact rfl; exact rfl; intro _)) | ((with_reducible apply ai_id); first | ((with_reducible apply ai_n); exact rfl; exact rfl; exact rfl; exact rfl; (with_reducible apply os_callF (PV := (fun V H' => RepV 1099511627776 (n + 1) V H')) (k := 74) (hc := Try.call74)); exact rfl; exact rfl; exact fun D w1 hw1 => repeat_T 1099511627776 _ (n + 1) _ w1 (one_rows hw1 (by (repeat (first | exact P0 | apply P1)))) (by omega) (by omega); rintro V' H' ⟨g, rfl, rfl⟩; simp only [List.cons_append, List.nil_append]) | ((with_reducible apply ai_q); exact rfl; exact rfl; exact rfl; exact rfl; exact rfl) | ((with_reducible apply ai_x); exact rfl; exact rfl; exact rfl; exact rfl; exact rfl) | ((with_reducible apply ai_s0); exact rfl; exact rfl; exact rfl; exact rfl)) | ((with_reducible apply al_keep); focus (repeat (first | exact HpSub.refl _ | (apply HpSub.cons; (repeat (first | exact P0 | apply P1))) | apply HpSub.skip | exact HpSub.nil))) | ((with_reducible apply rd_id); first | (apply rdG hA; (repeat (first | exact P0 | apply P1)); done) | (apply Rd.own; (repeat (first | exact P0 | apply P1)); exact rfl; done)) | ((with_reducible apply t_id); first | (apply t_mix (id := 6) [0, 1, 3, 4] 4 #[false, false, false, false, false, false, false, true]; kernel_rfl; kernel_rfl; exact rfl) | ((with_reducible apply t_seq)) | (apply t_region; kernel_rfl) | ((with_reducible apply t_condF); exact rfl) | ((with_reducible apply t_skip)) | ((with_reducible apply t_block))) | with_reducible apply q_thenN | exact P0 | exact Rdn.zero | apply Rdn.succ | ((with_reducible apply Norm.nil); exact rfl) | ((with_reducible apply Norm.cons); exact rfl) | ((with_reducible apply al_id); first | (apply al_done; decide +kernel) | (apply al_one 2; decide +kernel) | (apply al_one 5; decide +kernel) | (apply al_one 6; decide +kernel) | (apply al_one 7; decide +kernel)) | ((with_reducible apply os_makeS (n := n)); exact rfl; exact rfl; omega; intro _) | exact Nat.le_of_ble_eq_true rfl)
    rename_i b2 b3 bN b8 bS
    apply t_loopK (GH := []) (ι := Nat × (Nat → Nat)) [2, 3, 4, 5, 7, 8, 9, 12, 13, 14, 15, 16, 106, 107, 108, 109, 110, 111, 112, 113, 114, 115, 116, 117, 118, 119, 120, 121, 122, 123, 124, 125, 126, 127, 128, 129, 130, 131, 132, 133, 134, 135, 136, 137, 138, 139, 140, 141, 142, 143] (fun i => [(10, .int .i64 ((n : Int) - ((i.1 : Nat) + 1 : Int)))]) (fun i => [(bN, List.replicate (n - i.1) (Value.slice none 0 0) ++ .slice (some ⟨i.2 i.1, 0, none⟩) (n + 1) (n + 1) :: tailV n i.2 i.1, some (41, 1, n + 1)), (b8, [.slice (some ⟨bN, 0, none⟩) (n + 1) (n + 1)], some (90, 1, 1)), (b2, [.int .i64 ev, .int .i64 gr, .int .i64 du], some (40, 3, 1)), (b3, [.slice A n c], some (41, 1, 1))] ++ rowsH n ev gr fs i.2 (i.1 + 1)) (fun i => i.1 ≤ n) (fun i => n - i.1) ((0, fun _ => g))
    (repeat (first | exact KeepF.nil | (apply KeepF.cons; exact rfl) | apply KeepF.skip))
    (repeat (first | exact FrSub.nil | (apply FrSub.cons; exact rfl)))
    (repeat (first | exact HpSub.refl _ | (apply HpSub.consE; (repeat (first | exact P0 | apply P1)); first | exact rfl | (exact row0_eq hl)) | exact HpSub.nil))
    · exact Nat.zero_le _
    rintro ⟨j, gs⟩ hj
    simp only at hj
    try simp only [List.cons_append, List.nil_append]
    by_cases hlt : j < n
    · obtain ⟨q, hq⟩ : ∃ q, n - j = q + 1 := ⟨n - j - 1, by omega⟩
      have hA : (List.replicate q (Value.slice none 0 0)).length = q := by simp
      obtain ⟨b1, o1, x, hA1, _, hx, c0⟩ := in_read hr (show q < n by omega)
      have hfx := hf x (List.mem_of_getElem? hx)
      have hdrop : fs.drop (fs.length - (j + 1)) = x :: fs.drop (fs.length - j) := by
        have hil := List.getElem?_eq_some_iff.1 hx
        rw [show fs.length - (j + 1) = q by omega, show fs.length - j = q + 1 by omega, List.drop_eq_getElem_cons hil.1, hil.2]
      have hnd : ∀ k, -1099511627776 ≤ ndL ev gr (fs.drop (fs.length - j)) k ∧ ndL ev gr (fs.drop (fs.length - j)) k ≤ 2199023255552 := fun k => by
        have := nd_in he hg (hf.drop (fs.length - j)) k
        have h2 : (fs.drop (fs.length - j)).length ≤ 60 := by rw [List.length_drop]; omega
        omega
      have hbv : ∀ k, -1099511727776 ≤ befV gr x (ndL ev gr (fs.drop (fs.length - j)) k) ∧ befV gr x (ndL ev gr (fs.drop (fs.length - j)) k) ≤ 2199023355552 := fun k => by
        have := hnd k
        unfold befV
        omega
      rw [hq, show (n : Int) - ((j : Int) + 1) = (q : Int) by omega, rep_open]
      repeat' (first | ((with_reducible apply oq_id); first | (focus ((with_reducible apply oq_indexAddrN); exact rfl; exact rfl; exact rfl; exact rfl; omega)) | ((with_reducible apply oq_addE (k := ((n + 1 : Nat) : Int))); exact rfl; exact rfl; omega) | (apply oq_fn; exact rfl; first | exact trivial | (refine ⟨?_, ?_⟩ <;> omega) | (refine ⟨?_, ?_, ?_⟩ <;> omega) | omega | skip) | ((with_reducible apply oq_load); exact rfl; exact rfl)) | ((with_reducible apply tl_id); first | ((with_reducible apply tl_nil)) | ((with_reducible apply u_q); exact rfl; exact rfl; exact rfl; exact rfl)) | ((with_reducible apply gx_id); first | ((with_reducible apply v_nil)) | ((with_reducible apply v_q); exact rfl; exact rfl; exact rfl)) | ((with_reducible apply os_id); first | ((with_reducible apply os_storeG hA); exact rfl; exact rfl; exact rfl; exact rfl; (repeat (first | exact P0 | apply P1)))) | ((with_reducible apply ai_id); first | ((with_reducible apply ai_q); exact rfl; exact rfl; exact rfl; exact rfl; exact rfl) | ((with_reducible apply ai_s0); exact rfl; exact rfl; exact rfl; exact rfl) | ((with_reducible apply ai_n); exact rfl; exact rfl; exact rfl; exact rfl)) | ((with_reducible apply al_keep); focus (repeat (first | exact HpSub.refl _ | (apply HpSub.cons; (repeat (first | exact P0 | apply P1))) | apply HpSub.skip | exact HpSub.nil))) | ((with_reducible apply rd_id); first | (apply rdG hA; (repeat (first | exact P0 | apply P1)); done) | (apply Rd.own; (repeat (first | exact P0 | apply P1)); exact rfl; done)) | ((with_reducible apply t_id); first | (apply t_mix (id := 12) [0, 1, 2, 3] 3 #[false, false, false, false, false, false, true]; kernel_rfl; kernel_rfl; exact rfl) | ((with_reducible apply t_seq)) | (apply t_region; kernel_rfl) | ((with_reducible apply t_condT); exact rfl) | ((with_reducible apply t_skip)) | ((with_reducible apply t_block))) | with_reducible apply q_thenN | ((with_reducible apply al_id); first | (apply al_done; decide +kernel) | (apply al_one 4; decide +kernel) | (apply al_one 5; decide +kernel) | (apply al_one 6; decide +kernel)) | ((with_reducible apply os_makeI (hk := app_ok41) (hz := info3)); exact rfl; exact rfl; omega; (unfold maxLen; omega); intro _))
      rename_i gN
      apply t_loopK (ι := Nat) [2, 3, 4, 5, 7, 8, 9, 10, 12, 13, 14, 15, 16, 43, 44, 45, 46, 47, 48, 49, 50, 51, 52, 53, 54, 55, 56, 57, 106, 107, 108, 109, 110, 111, 112, 113, 114, 115, 116, 117, 118, 119, 120, 121, 122, 123, 124, 125, 126, 127, 128, 129, 130, 131, 132, 133, 134, 135, 136, 137, 138, 139, 140, 141, 142, 143] (fun k => [(58, .int .i64 (k : Nat))]) (fun k => [(gN, fillV (ndL ev gr (x :: fs.drop (fs.length - j))) (n + 1) k, some (3, 1, n + 1))]) (fun k => k ≤ n + 1) (fun k => n + 1 - k) (0)
      (repeat (first | exact KeepF.nil | (apply KeepF.cons; exact rfl) | apply KeepF.skip))
      (repeat (first | exact FrSub.nil | (apply FrSub.cons; exact rfl)))
      (repeat (first | exact HpSub.refl _ | (apply HpSub.consE; (repeat (first | exact P0 | apply P1)); exact rfl) | exact HpSub.nil))
      · exact Nat.zero_le _
      rintro k hk
      try simp only [List.cons_append, List.nil_append]
      by_cases hlt2 : k < n + 1
      · rw [fill_open hlt2]
        have hA2 : ((List.range k).map (ndL ev gr (x :: fs.drop (fs.length - j)))).length = k := by simp
        cases k with
        | zero =>
          have hnx : (ndL ev gr (x :: fs.drop (fs.length - j))) 0 = befV gr x (ndL ev gr (fs.drop (fs.length - j)) 0) := nd_zero ..
          repeat' (first | ((with_reducible apply oq_id); first | (focus ((with_reducible apply oq_indexAddrN); exact rfl; exact rfl; exact rfl; exact rfl; omega)) | (apply oq_fn; exact rfl; first | exact trivial | (refine ⟨?_, ?_⟩ <;> omega) | (refine ⟨?_, ?_, ?_⟩ <;> omega) | omega | skip) | ((with_reducible apply oq_load); exact rfl; exact rfl) | ((with_reducible apply oq_call (k := 75) (hc := Try.call75)); exact rfl; exact rfl; exact fun D w1 hw1 => bef_calls _ _ _ _ _ q 0 n A c _ _ fs gr x (ndL ev gr (fs.drop (fs.length - j)) 0) w1 (hr.ext hw1.ext.ext) hx (hw1.cellAt (by (repeat (first | exact P0 | apply P1))) rfl) (hw1.cellAt (by (repeat (first | exact P0 | apply P1))) rfl) (hw1.cellAt (by (repeat (first | exact P0 | apply P1))) rfl) (hw1.cellAt (by (repeat (first | exact P0 | apply P1))) need_nx) (hw1.cellAt (by (repeat (first | exact P0 | apply P1))) (rowV_at (by omega))) (by omega) (by omega) hfx hg (hnd 0))) | ((with_reducible apply tl_id); first | ((with_reducible apply tl_nil)) | ((with_reducible apply u_q); exact rfl; exact rfl; exact rfl; exact rfl)) | ((with_reducible apply gx_id); first | ((with_reducible apply v_nil)) | ((with_reducible apply v_q); exact rfl; exact rfl; exact rfl) | ((with_reducible apply v_skip); exact rfl; exact rfl; exact rfl)) | ((with_reducible apply os_id); first | ((with_reducible apply os_storeM hA2); exact rfl; exact rfl; exact rfl; (repeat (first | exact P0 | apply P1)))) | ((with_reducible apply ai_id); first | ((with_reducible apply ai_s0); exact rfl; exact rfl; exact rfl; exact rfl)) | ((with_reducible apply rd_id); first | (apply rdG hA; (repeat (first | exact P0 | apply P1)); done) | (apply Rd.own; (repeat (first | exact P0 | apply P1)); exact rfl; done)) | ((with_reducible apply t_id); first | (apply t_mix (id := 16) [0, 1, 2, 3, 4, 5, 6, 7, 8, 9] 1 #[false, false, false, false, false, false, false, false, false, false, true]; kernel_rfl; kernel_rfl; exact rfl) | ((with_reducible apply t_seq)) | (apply t_region; kernel_rfl) | (apply t_drawn; kernel_rfl; decide +kernel; try simp only [List.append_eq, List.cons_append, List.nil_append]) | ((with_reducible apply t_condF); exact rfl) | ((with_reducible apply t_condD); exact rfl; all_goals first | (intro hp; try (exfalso; omega)) | skip) | ((with_reducible apply t_skip)) | ((with_reducible apply t_block))) | with_reducible apply q_thenN | with_reducible apply q_blockN | ((with_reducible apply al_id); first | (apply al_done; decide +kernel) | (apply al_one 10; decide +kernel)))
          all_goals (refine ⟨0 + 1, by omega, by omega, ?_, ?_⟩)
          all_goals ((try simp only [List.cons_append, List.nil_append]); (repeat' (first | exact FrSub.nil | (apply FrSub.cons; exact rfl) | exact HpSub.refl _)))
        | succ k =>
          have hB1 := hbv k
          have hB2 := hbv (k + 1)
          by_cases hb : befV gr x (ndL ev gr (fs.drop (fs.length - j)) k) ≤ ev
          · have hnx : (ndL ev gr (x :: fs.drop (fs.length - j))) (k + 1) = min (befV gr x (ndL ev gr (fs.drop (fs.length - j)) (k + 1))) (befV gr x (ndL ev gr (fs.drop (fs.length - j)) k) - ev) := by rw [nd_succ, if_pos hb]
            repeat' (first | ((with_reducible apply oq_id); first | (focus ((with_reducible apply oq_indexAddrN); exact rfl; exact rfl; exact rfl; exact rfl; omega)) | ((with_reducible apply oq_subE (k := (k : Int))); exact rfl; exact rfl; omega) | (apply oq_fn; exact rfl; first | exact trivial | (refine ⟨?_, ?_⟩ <;> omega) | (refine ⟨?_, ?_, ?_⟩ <;> omega) | omega | skip) | ((with_reducible apply oq_load); exact rfl; exact rfl) | ((with_reducible apply oq_call (k := 75) (hc := Try.call75)); exact rfl; exact rfl; exact fun D w1 hw1 => bef_calls _ _ _ _ _ q (k + 1) n A c _ _ fs gr x (ndL ev gr (fs.drop (fs.length - j)) (k + 1)) w1 (hr.ext hw1.ext.ext) hx (hw1.cellAt (by (repeat (first | exact P0 | apply P1))) rfl) (hw1.cellAt (by (repeat (first | exact P0 | apply P1))) rfl) (hw1.cellAt (by (repeat (first | exact P0 | apply P1))) rfl) (hw1.cellAt (by (repeat (first | exact P0 | apply P1))) need_nx) (hw1.cellAt (by (repeat (first | exact P0 | apply P1))) (rowV_at (by omega))) (by omega) (by omega) hfx hg (hnd (k + 1))) | ((with_reducible apply oq_call (k := 75) (hc := Try.call75)); exact rfl; exact rfl; exact fun D w1 hw1 => bef_calls _ _ _ _ _ q k n A c _ _ fs gr x (ndL ev gr (fs.drop (fs.length - j)) k) w1 (hr.ext hw1.ext.ext) hx (hw1.cellAt (by (repeat (first | exact P0 | apply P1))) rfl) (hw1.cellAt (by (repeat (first | exact P0 | apply P1))) rfl) (hw1.cellAt (by (repeat (first | exact P0 | apply P1))) rfl) (hw1.cellAt (by (repeat (first | exact P0 | apply P1))) need_nx) (hw1.cellAt (by (repeat (first | exact P0 | apply P1))) (rowV_at (by omega))) (by omega) (by omega) hfx hg (hnd k))) | ((with_reducible apply tl_id); first | ((with_reducible apply tl_nil)) | ((with_reducible apply u_q); exact rfl; exact rfl; exact rfl; exact rfl)) | ((with_reducible apply gx_id); first | ((with_reducible apply v_nil)) | ((with_reducible apply v_q); exact rfl; exact rfl; exact rfl) | ((with_reducible apply v_splitD); exact rfl; exact rfl; all_goals first | (intro hp; try (exfalso; omega)) | skip)) | ((with_reducible apply os_id); first | ((with_reducible apply os_storeM hA2); exact rfl; exact rfl; exact rfl; (repeat (first | exact P0 | apply P1)))) | ((with_reducible apply ai_id); first | ((with_reducible apply ai_s0); exact rfl; exact rfl; exact rfl; exact rfl)) | ((with_reducible apply rd_id); first | (apply rdG hA; (repeat (first | exact P0 | apply P1)); done) | (apply rdM hA2; (repeat (first | exact P0 | apply P1)); done) | (apply Rd.own; (repeat (first | exact P0 | apply P1)); exact rfl; done)) | ((with_reducible apply t_id); first | (apply t_mix (id := 16) [0, 1, 2, 3, 4, 5, 6, 7, 8, 9] 1 #[false, false, false, false, false, false, false, false, false, false, true]; kernel_rfl; kernel_rfl; exact rfl) | (apply t_mix (id := 18) [0, 1, 2, 3, 4, 5, 6, 7, 8, 9, 10, 11, 12, 13, 14, 15, 16, 17, 18, 19, 20, 21] 1 #[false, false, false, false, false, false, false, false, false, false, false, false, false, false, false, false, false, false, false, false, false, false, true]; kernel_rfl; kernel_rfl; exact rfl) | ((with_reducible apply t_seq)) | (apply t_region; kernel_rfl) | (apply t_drawn; kernel_rfl; decide +kernel; try simp only [List.append_eq, List.cons_append, List.nil_append]) | ((with_reducible apply t_condD); exact rfl; all_goals first | (intro hp; try (exfalso; omega)) | skip) | ((with_reducible apply t_skip)) | ((with_reducible apply t_block))) | with_reducible apply q_thenN | with_reducible apply q_blockN | ((with_reducible apply al_id); first | (apply al_done; decide +kernel) | (apply al_one 10; decide +kernel)) | ((with_reducible apply al_id); first | (apply al_one 22; decide +kernel)))
            all_goals (refine ⟨(k + 1) + 1, by omega, by omega, ?_, ?_⟩)
            all_goals ((try simp only [List.cons_append, List.nil_append]); (repeat' (first | exact FrSub.nil | (apply FrSub.cons; exact rfl) | exact HpSub.refl _ | (apply HpSub.consE; (repeat (first | exact P0 | apply P1)); first | exact rfl | (exact fill_close hnx)))))
          · have hnx : (ndL ev gr (x :: fs.drop (fs.length - j))) (k + 1) = befV gr x (ndL ev gr (fs.drop (fs.length - j)) (k + 1)) := by rw [nd_succ, if_neg hb]
            repeat' (first | ((with_reducible apply oq_id); first | (focus ((with_reducible apply oq_indexAddrN); exact rfl; exact rfl; exact rfl; exact rfl; omega)) | ((with_reducible apply oq_subE (k := (k : Int))); exact rfl; exact rfl; omega) | (apply oq_fn; exact rfl; first | exact trivial | (refine ⟨?_, ?_⟩ <;> omega) | (refine ⟨?_, ?_, ?_⟩ <;> omega) | omega | skip) | ((with_reducible apply oq_load); exact rfl; exact rfl) | ((with_reducible apply oq_call (k := 75) (hc := Try.call75)); exact rfl; exact rfl; exact fun D w1 hw1 => bef_calls _ _ _ _ _ q (k + 1) n A c _ _ fs gr x (ndL ev gr (fs.drop (fs.length - j)) (k + 1)) w1 (hr.ext hw1.ext.ext) hx (hw1.cellAt (by (repeat (first | exact P0 | apply P1))) rfl) (hw1.cellAt (by (repeat (first | exact P0 | apply P1))) rfl) (hw1.cellAt (by (repeat (first | exact P0 | apply P1))) rfl) (hw1.cellAt (by (repeat (first | exact P0 | apply P1))) need_nx) (hw1.cellAt (by (repeat (first | exact P0 | apply P1))) (rowV_at (by omega))) (by omega) (by omega) hfx hg (hnd (k + 1))) | ((with_reducible apply oq_call (k := 75) (hc := Try.call75)); exact rfl; exact rfl; exact fun D w1 hw1 => bef_calls _ _ _ _ _ q k n A c _ _ fs gr x (ndL ev gr (fs.drop (fs.length - j)) k) w1 (hr.ext hw1.ext.ext) hx (hw1.cellAt (by (repeat (first | exact P0 | apply P1))) rfl) (hw1.cellAt (by (repeat (first | exact P0 | apply P1))) rfl) (hw1.cellAt (by (repeat (first | exact P0 | apply P1))) rfl) (hw1.cellAt (by (repeat (first | exact P0 | apply P1))) need_nx) (hw1.cellAt (by (repeat (first | exact P0 | apply P1))) (rowV_at (by omega))) (by omega) (by omega) hfx hg (hnd k))) | ((with_reducible apply tl_id); first | ((with_reducible apply tl_nil)) | ((with_reducible apply u_q); exact rfl; exact rfl; exact rfl; exact rfl)) | ((with_reducible apply gx_id); first | ((with_reducible apply v_nil)) | ((with_reducible apply v_q); exact rfl; exact rfl; exact rfl) | ((with_reducible apply v_splitD); exact rfl; exact rfl; all_goals first | (intro hp; try (exfalso; omega)) | skip)) | ((with_reducible apply os_id); first | ((with_reducible apply os_storeM hA2); exact rfl; exact rfl; exact rfl; (repeat (first | exact P0 | apply P1)))) | ((with_reducible apply ai_id); first | ((with_reducible apply ai_s0); exact rfl; exact rfl; exact rfl; exact rfl)) | ((with_reducible apply rd_id); first | (apply rdG hA; (repeat (first | exact P0 | apply P1)); done) | (apply Rd.own; (repeat (first | exact P0 | apply P1)); exact rfl; done)) | ((with_reducible apply t_id); first | (apply t_mix (id := 16) [0, 1, 2, 3, 4, 5, 6, 7, 8, 9] 1 #[false, false, false, false, false, false, false, false, false, false, true]; kernel_rfl; kernel_rfl; exact rfl) | ((with_reducible apply t_seq)) | (apply t_region; kernel_rfl) | (apply t_drawn; kernel_rfl; decide +kernel; try simp only [List.append_eq, List.cons_append, List.nil_append]) | ((with_reducible apply t_condD); exact rfl; all_goals first | (intro hp; try (exfalso; omega)) | skip) | ((with_reducible apply t_skip)) | ((with_reducible apply t_block))) | with_reducible apply q_thenN | with_reducible apply q_blockN | ((with_reducible apply al_id); first | (apply al_done; decide +kernel) | (apply al_one 10; decide +kernel)))
            all_goals (refine ⟨(k + 1) + 1, by omega, by omega, ?_, ?_⟩)
            all_goals ((try simp only [List.cons_append, List.nil_append]); (repeat' (first | exact FrSub.nil | (apply FrSub.cons; exact rfl) | exact HpSub.refl _ | (apply HpSub.consE; (repeat (first | exact P0 | apply P1)); first | exact rfl | (exact fill_close hnx)))))
      · obtain rfl : k = n + 1 := by omega
        have hrow : ((List.range (n + 1)).map (ndL ev gr (x :: fs.drop (fs.length - j)))).map iv = rowV ev gr fs (j + 1) := by unfold rowV; rw [hdrop, hl]
        rw [fill_done, hrow]
        repeat' (first | ((with_reducible apply oq_id); first | (apply oq_fn; exact rfl; first | exact trivial | (refine ⟨?_, ?_⟩ <;> omega) | (refine ⟨?_, ?_, ?_⟩ <;> omega) | omega | skip)) | ((with_reducible apply tl_id); first | ((with_reducible apply tl_nil)) | ((with_reducible apply u_q); exact rfl; exact rfl; exact rfl; exact rfl)) | ((with_reducible apply t_id); first | ((with_reducible apply t_seq)) | (apply t_region; kernel_rfl) | ((with_reducible apply t_condD); exact rfl; all_goals first | (intro hp; try (exfalso; omega)) | skip) | ((with_reducible apply t_exit))) | with_reducible apply q_thenN | with_reducible apply q_blockN | with_reducible apply q_thenE | ((with_reducible apply q_blockE); exact rfl))
        all_goals (refine ⟨(j + 1, fun m => if m = j + 1 then gN else gs m), by simp only; omega, by simp only; omega, ?_, ?_⟩)
        · try simp only [List.cons_append, List.nil_append]
          (repeat (first | exact FrSub.nil | (apply FrSub.cons; exact rfl) | (apply FrSub.consE; exact rfl; (congr 1; omega))))
        · have t1 : tailV n (fun m => if m = j + 1 then gN else gs m) (j + 1) = tailV n gs (j + 1) := tailV_congr fun i hi => if_neg (by omega)
          have t2 : rowsH n ev gr fs (fun m => if m = j + 1 then gN else gs m) (j + 1) = rowsH n ev gr fs gs (j + 1) := rowsH_congr fun i hi => if_neg (by omega)
          simp only [show rowsH n ev gr fs (fun m => if m = j + 1 then gN else gs m) (j + 1 + 1) = (gN, rowV ev gr fs (j + 1), some (3, 1, n + 1)) :: rowsH n ev gr fs gs (j + 1) by rw [← t2]; simp [rowsH], t1, if_true, show n - (j + 1) = q by omega]
          (repeat (first | exact HpSub.refl _ | (apply HpSub.consE; (repeat (first | exact P0 | apply P1)); exact rfl) | apply HpSub.skip | exact HpSub.nil))
    · obtain rfl : n = j := by omega
      have hneed : List.replicate (n - n) (Value.slice none 0 0) ++ Value.slice (some ⟨gs n, 0, none⟩) (n + 1) (n + 1) :: tailV n gs n = tailV n gs (n + 1) := by rw [Nat.sub_self]; rfl
      rw [hneed]
      simp only [List.append_nil]
      have HF := fun w1 => few_calls ev gr du fs n (gs n) b2 w1 hl hn
      by_cases hneg : fewV ev gr du fs < 0
      · rw [if_pos hneg] at hE
        rw [hE]
        obtain ⟨fv, hfv⟩ : ∃ fv, fewV ev gr du fs = fv := ⟨_, rfl⟩
        rw [hfv] at HF hneg
        repeat' (first | ((with_reducible apply oq_id); first | (focus ((with_reducible apply oq_indexAddrN (i := 0)); exact rfl; exact rfl; exact rfl; exact rfl; omega)) | (apply oq_fn; exact rfl; first | exact trivial | (refine ⟨?_, ?_⟩ <;> omega) | (refine ⟨?_, ?_, ?_⟩ <;> omega) | omega | skip) | ((with_reducible apply oq_load); exact rfl; exact rfl) | ((with_reducible apply oq_call (k := 76) (hc := Try.call76)); exact rfl; exact rfl; exact fun D w1 hw1 => HF w1 (row_top hl hw1 (by (repeat (first | exact P0 | apply P1)))) (hw1.cellAt (by (repeat (first | exact P0 | apply P1))) rfl))) | ((with_reducible apply tl_id); first | ((with_reducible apply tl_nil)) | ((with_reducible apply u_q); exact rfl; exact rfl; exact rfl; exact rfl)) | ((with_reducible apply rd_id); first | (apply Rd.own; (repeat (first | exact P0 | apply P1)); exact rfl; done)) | ((with_reducible apply t_id); first | ((with_reducible apply t_seq)) | (apply t_region; kernel_rfl) | ((with_reducible apply t_condD); exact rfl; all_goals first | (intro hp; try (exfalso; omega)) | skip) | ((with_reducible apply t_ret)) | ((with_reducible apply t_exit))) | with_reducible apply q_thenN | with_reducible apply q_thenR | with_reducible apply q_thenE | ((with_reducible apply q_blockE); exact rfl) | ((with_reducible apply end_ret)) | exact rvs_nil | ((with_reducible apply rvs_cons)) | ((with_reducible apply rv_tmp); exact rfl))
        all_goals exact ⟨_, .inl ⟨by decide, rfl, rfl⟩, HpSub.nil⟩
      · obtain ⟨k0, hk0⟩ : ∃ k0 : Nat, fewV ev gr du fs = (k0 : Int) := ⟨(fewV ev gr du fs).toNat, by omega⟩
        rw [if_neg hneg] at hE
        rw [hk0] at HF
        have hIV : insV ev gr du fs = insG ev gr fs 0 k0 du := by unfold insV; rw [hk0]; rfl
        have hfs := few_spec hk0
        clear HC
        repeat' (first | ((with_reducible apply oq_id); first | (focus ((with_reducible apply oq_indexAddrN (i := 0)); exact rfl; exact rfl; exact rfl; exact rfl; omega)) | (apply oq_fn; exact rfl; first | exact trivial | (refine ⟨?_, ?_⟩ <;> omega) | (refine ⟨?_, ?_, ?_⟩ <;> omega) | omega | skip) | ((with_reducible apply oq_load); exact rfl; exact rfl) | ((with_reducible apply oq_call (k := 76) (hc := Try.call76)); exact rfl; exact rfl; exact fun D w1 hw1 => HF w1 (row_top hl hw1 (by (repeat (first | exact P0 | apply P1)))) (hw1.cellAt (by (repeat (first | exact P0 | apply P1))) rfl))) | ((with_reducible apply tl_id); first | ((with_reducible apply tl_nil)) | ((with_reducible apply u_q); exact rfl; exact rfl; exact rfl; exact rfl)) | ((with_reducible apply rd_id); first | (apply Rd.own; (repeat (first | exact P0 | apply P1)); exact rfl; done)) | ((with_reducible apply t_id); first | ((with_reducible apply t_seq)) | (apply t_region; kernel_rfl) | ((with_reducible apply t_condF); exact rfl) | ((with_reducible apply t_condD); exact rfl; all_goals first | (intro hp; try (exfalso; omega)) | skip) | ((with_reducible apply t_skip)) | ((with_reducible apply t_exit)) | ((with_reducible apply t_block))) | with_reducible apply q_thenN | with_reducible apply q_thenE | ((with_reducible apply q_blockE); exact rfl))
        apply t_loopK (ι := Nat × Nat × Int × List Int × Option (Nat × Nat)) [2, 4, 5, 9, 115, 116, 143] (fun j => [(117, .int .i64 (j.1 : Nat)), (12, .int .i64 (j.2.1 : Nat)), (14, .int .i64 j.2.2.1), (13, planS j.2.2.2.1 j.2.2.2.2)]) (fun j => planH j.2.2.2.1 j.2.2.2.2) (fun j => j.1 ≤ n ∧ insV ev gr du fs = j.2.2.2.1 ++ insG ev gr (fs.drop j.1) j.1 j.2.1 j.2.2.1 ∧ ndL ev gr (fs.drop j.1) j.2.1 ≤ j.2.2.1 ∧ -100000 ≤ j.2.2.1 ∧ j.2.2.1 ≤ 100000 ∧ j.2.1 ≤ n ∧ j.2.2.2.1.length ≤ j.1 ∧ (j.2.2.2.2 = none → j.2.2.2.1 = [])) (fun j => n - j.1) ((0, k0, du, [], none))
        (repeat (first | exact KeepF.nil | (apply KeepF.cons; exact rfl) | apply KeepF.skip))
        (repeat (first | exact FrSub.nil | (apply FrSub.cons; exact rfl)))
        (repeat (first | exact HpSub.refl _ | (apply HpSub.consE; (repeat (first | exact P0 | apply P1)); exact rfl) | exact HpSub.nil))
        · exact ⟨Nat.zero_le _, by simp only [List.drop_zero, List.nil_append]; exact hIV, by simp only [List.drop_zero]; exact hfs.2, by simp only; omega, by simp only; omega, by simp only; omega, by simp, fun _ => rfl⟩
        rintro ⟨i, k, L, pre, o⟩ ⟨hi, hpl, hnd, hL0, hL1, hkn, hprl, hpre⟩
        simp only at hi hpl hnd hL0 hL1 hkn hprl hpre
        by_cases hlt2 : i < n
        · obtain ⟨b1, o1, x, hA1, _, hx, c0⟩ := in_read hr hlt2
          have hfx := hf x (List.mem_of_getElem? hx)
          have hdrop : fs.drop i = x :: fs.drop (i + 1) := by
            have hil := (List.getElem?_eq_some_iff.1 hx)
            rw [List.drop_eq_getElem_cons hil.1, hil.2]
          obtain ⟨B, hBe⟩ : ∃ B, befV gr x (ndL ev gr (fs.drop (i + 1)) k) = B := ⟨_, rfl⟩
          have HB : ∀ {M : Ms} {w0 w1 : World}, Ext w w1 → Has w0 M ((bN, tailV n gs (n + 1), some (41, 1, n + 1)) :: (b8, [.slice (some ⟨bN, 0, none⟩) (n + 1) (n + 1)], some (90, 1, 1)) :: (b2, [.int .i64 ev, .int .i64 gr, .int .i64 du], some (40, 3, 1)) :: (b3, [.slice A n c], some (41, 1, 1)) :: rowsH n ev gr fs gs (n + 1)) w1 →
              Calls Try.prog 75 #[.int .i64 (i : Int), .int .i64 (k : Int), .pointer (some ⟨b3, 0, none⟩), .pointer (some ⟨b2, 0, none⟩), .pointer (some ⟨b8, 0, none⟩)] w1 fun e w' => e = .returned (.int .i64 B) ∧ Ext w1 w' :=
            fun hx1 hh => hBe ▸ bef_row hl hh (hr.ext hx1) hx hlt2 hkn (by omega) he hg hf
          subst hA1
          rcases o with _ | ⟨go, co⟩
          · obtain rfl := hpre rfl
            try simp only [planS_none, planS_some, planH_none, planH_some, List.cons_append, List.nil_append]
            by_cases hsk : B ≤ L
            · have hB := hsk
              rw [← hBe] at hB
              have hge : x - gr ≤ L := by unfold befV at hB; omega
              repeat' (first | ((with_reducible apply oq_id); first | (focus ((with_reducible apply oq_indexAddrN); exact rfl; exact rfl; exact rfl; exact rfl; omega)) | ((with_reducible apply oq_addE (k := ((i + 1 : Nat) : Int))); exact rfl; exact rfl; omega) | (apply oq_fn; exact rfl; first | exact trivial | (refine ⟨?_, ?_⟩ <;> omega) | (refine ⟨?_, ?_, ?_⟩ <;> omega) | omega | skip) | ((with_reducible apply oq_load); exact rfl; exact rfl) | ((with_reducible apply oq_call (k := 75) (hc := Try.call75)); exact rfl; exact rfl; exact fun D w1 hw1 => HB hw1.ext.ext (Has.sub (by (repeat (first | exact HpSub.refl _ | apply HpSub.skip))) hw1))) | ((with_reducible apply tl_id); first | ((with_reducible apply tl_nil)) | ((with_reducible apply u_q); exact rfl; exact rfl; exact rfl; exact rfl)) | ((with_reducible apply rd_id); first | (apply Rd.old; (first | (with_reducible assumption) | exact c0 | exact c1 | exact c2 | exact c3 | exact c4 | exact c5 | exact c6 | exact c7 | exact c8 | exact d0 | exact d1 | exact d2 | exact d3 | exact d4 | exact d5); first | exact List.not_mem_nil | exact m0 | exact m1 | exact m2 | exact m3 | exact m4 | exact m5 | exact m6 | exact m7 | exact m8 | exact m9)) | ((with_reducible apply t_id); first | ((with_reducible apply t_seq)) | (apply t_region; kernel_rfl) | ((with_reducible apply t_condD); exact rfl; all_goals first | (intro hp; try (exfalso; omega)) | skip) | ((with_reducible apply t_skip)) | ((with_reducible apply t_block))) | with_reducible apply q_thenN | with_reducible apply q_blockN)
              all_goals (refine ⟨(i + 1, k, L - x, [], none), ⟨by simp only; omega, ?_, ?_, by simp only; omega, by simp only; omega, by simp only; omega, ?_, ?_⟩, by simp only; omega, ?_, ?_⟩)
              all_goals first
                | (simp only; rw [hpl, hdrop, insG_skip hB]; done)
                | (simp only; exact nd_skip hB)
                | (simp only; rw [hpl, hdrop, insG_ins hB]; simp; done)
                | (simp only; exact hnd2)
                | exact hpre
                | (simp only; omega)
                | (simp only [List.length_append, List.length_cons, List.length_nil]; omega)
                | (intro h; cases h; done)
                | ((try simp only [planS_none, planS_some, planH_none, planH_some, List.cons_append, List.nil_append]); (repeat (first | exact FrSub.nil | (apply FrSub.cons; exact rfl) | (apply FrSub.consE; exact rfl; (focus (simp; done))))); done)
                | ((try simp only [planS_none, planS_some, planH_none, planH_some, List.cons_append, List.nil_append]); (repeat (first | exact HpSub.refl _ | (apply HpSub.consE; (repeat (first | exact P0 | apply P1)); first | exact rfl | ((focus (simp [iv]; done)))) | apply HpSub.skip | exact HpSub.nil)); done)
            · have hB := hsk
              rw [← hBe] at hB
              obtain ⟨hk1, hnd2, hgx⟩ := nd_ins (by rw [← hdrop]; exact hnd) hB
              repeat' (first | ((with_reducible apply oq_id); first | (focus ((with_reducible apply oq_indexAddrN); exact rfl; exact rfl; exact rfl; exact rfl; omega)) | ((with_reducible apply oq_subE (k := ((k - 1 : Nat) : Int))); exact rfl; exact rfl; omega) | ((with_reducible apply oq_addE (k := ((i + 1 : Nat) : Int))); exact rfl; exact rfl; omega) | (apply oq_fn; exact rfl; first | exact trivial | (refine ⟨?_, ?_⟩ <;> omega) | (refine ⟨?_, ?_, ?_⟩ <;> omega) | omega | skip) | ((with_reducible apply oq_load); exact rfl; exact rfl) | ((with_reducible apply oq_call (k := 75) (hc := Try.call75)); exact rfl; exact rfl; exact fun D w1 hw1 => HB hw1.ext.ext (Has.sub (by (repeat (first | exact HpSub.refl _ | apply HpSub.skip))) hw1))) | ((with_reducible apply tl_id); first | ((with_reducible apply tl_nil)) | ((with_reducible apply u_q); exact rfl; exact rfl; exact rfl; exact rfl) | ((with_reducible apply u_s); exact rfl; exact rfl; exact rfl)) | ((with_reducible apply os_id); first | ((with_reducible apply os_x); exact rfl) | ((with_reducible apply os_appendNil (hk := app_ok41)); exact rfl; exact rfl)) | ((with_reducible apply ox_id); first | ((with_reducible apply ox_buildSlice1); exact rfl; exact rfl; exact rfl; exact rfl; exact rfl; exact rfl; intro _)) | ((with_reducible apply rd_id); first | (apply Rd.own; (repeat (first | exact P0 | apply P1)); exact rfl; done) | (apply Rd.old; (first | (with_reducible assumption) | exact c0 | exact c1 | exact c2 | exact c3 | exact c4 | exact c5 | exact c6 | exact c7 | exact c8 | exact d0 | exact d1 | exact d2 | exact d3 | exact d4 | exact d5); first | exact List.not_mem_nil | exact m0 | exact m1 | exact m2 | exact m3 | exact m4 | exact m5 | exact m6 | exact m7 | exact m8 | exact m9)) | ((with_reducible apply t_id); first | ((with_reducible apply t_seq)) | (apply t_region; kernel_rfl) | ((with_reducible apply t_condD); exact rfl; all_goals first | (intro hp; try (exfalso; omega)) | skip) | ((with_reducible apply t_skip)) | ((with_reducible apply t_block))) | with_reducible apply q_thenN | with_reducible apply q_blockN | exact Rdn.zero | apply Rdn.succ | exact Nat.le_of_ble_eq_true rfl | exact (rfl : (_ : Bool) = true) | (intro _ _; with_reducible apply tl_id))
              all_goals (rename_i gN cN; refine ⟨(i + 1, k - 1, min L 0 + ev - x, [] ++ [(i : Int)], some (gN, cN)), ⟨by simp only; omega, ?_, ?_, by simp only; omega, by simp only; omega, by simp only; omega, ?_, ?_⟩, by simp only; omega, ?_, ?_⟩)
              all_goals first
                | (simp only; rw [hpl, hdrop, insG_skip hB]; done)
                | (simp only; exact nd_skip hB)
                | (simp only; rw [hpl, hdrop, insG_ins hB]; simp; done)
                | (simp only; exact hnd2)
                | exact hpre
                | (simp only; omega)
                | (simp only [List.length_append, List.length_cons, List.length_nil]; omega)
                | (intro h; cases h; done)
                | ((try simp only [planS_none, planS_some, planH_none, planH_some, List.cons_append, List.nil_append]); (repeat (first | exact FrSub.nil | (apply FrSub.cons; exact rfl) | (apply FrSub.consE; exact rfl; (focus (simp; done))))); done)
                | ((try simp only [planS_none, planS_some, planH_none, planH_some, List.cons_append, List.nil_append]); (repeat (first | exact HpSub.refl _ | (apply HpSub.consE; (repeat (first | exact P0 | apply P1)); first | exact rfl | ((focus (simp [iv]; done)))) | apply HpSub.skip | exact HpSub.nil)); done)
          · try simp only [planS_none, planS_some, planH_none, planH_some, List.cons_append, List.nil_append]
            by_cases hsk : B ≤ L
            · have hB := hsk
              rw [← hBe] at hB
              have hge : x - gr ≤ L := by unfold befV at hB; omega
              repeat' (first | ((with_reducible apply oq_id); first | (focus ((with_reducible apply oq_indexAddrN); exact rfl; exact rfl; exact rfl; exact rfl; omega)) | ((with_reducible apply oq_addE (k := ((i + 1 : Nat) : Int))); exact rfl; exact rfl; omega) | (apply oq_fn; exact rfl; first | exact trivial | (refine ⟨?_, ?_⟩ <;> omega) | (refine ⟨?_, ?_, ?_⟩ <;> omega) | omega | skip) | ((with_reducible apply oq_load); exact rfl; exact rfl) | ((with_reducible apply oq_call (k := 75) (hc := Try.call75)); exact rfl; exact rfl; exact fun D w1 hw1 => HB hw1.ext.ext (Has.sub (by (repeat (first | exact HpSub.refl _ | apply HpSub.skip))) hw1))) | ((with_reducible apply tl_id); first | ((with_reducible apply tl_nil)) | ((with_reducible apply u_q); exact rfl; exact rfl; exact rfl; exact rfl)) | ((with_reducible apply rd_id); first | (apply Rd.old; (first | (with_reducible assumption) | exact c0 | exact c1 | exact c2 | exact c3 | exact c4 | exact c5 | exact c6 | exact c7 | exact c8 | exact d0 | exact d1 | exact d2 | exact d3 | exact d4 | exact d5); first | exact List.not_mem_nil | exact m0 | exact m1 | exact m2 | exact m3 | exact m4 | exact m5 | exact m6 | exact m7 | exact m8 | exact m9)) | ((with_reducible apply t_id); first | ((with_reducible apply t_seq)) | (apply t_region; kernel_rfl) | ((with_reducible apply t_condD); exact rfl; all_goals first | (intro hp; try (exfalso; omega)) | skip) | ((with_reducible apply t_skip)) | ((with_reducible apply t_block))) | with_reducible apply q_thenN | with_reducible apply q_blockN)
              all_goals (refine ⟨(i + 1, k, L - x, pre, some (go, co)), ⟨by simp only; omega, ?_, ?_, by simp only; omega, by simp only; omega, by simp only; omega, ?_, ?_⟩, by simp only; omega, ?_, ?_⟩)
              all_goals first
                | (simp only; rw [hpl, hdrop, insG_skip hB]; done)
                | (simp only; exact nd_skip hB)
                | (simp only; rw [hpl, hdrop, insG_ins hB]; simp; done)
                | (simp only; exact hnd2)
                | exact hpre
                | (simp only; omega)
                | (simp only [List.length_append, List.length_cons, List.length_nil]; omega)
                | (intro h; cases h; done)
                | ((try simp only [planS_none, planS_some, planH_none, planH_some, List.cons_append, List.nil_append]); (repeat (first | exact FrSub.nil | (apply FrSub.cons; exact rfl) | (apply FrSub.consE; exact rfl; (focus (simp; done))))); done)
                | ((try simp only [planS_none, planS_some, planH_none, planH_some, List.cons_append, List.nil_append]); (repeat (first | exact HpSub.refl _ | (apply HpSub.consE; (repeat (first | exact P0 | apply P1)); first | exact rfl | ((focus (simp [iv]; done)))) | apply HpSub.skip | exact HpSub.nil)); done)
            · have hB := hsk
              rw [← hBe] at hB
              obtain ⟨hk1, hnd2, hgx⟩ := nd_ins (by rw [← hdrop]; exact hnd) hB
              repeat' (first | ((with_reducible apply oq_id); first | (focus ((with_reducible apply oq_indexAddrN); exact rfl; exact rfl; exact rfl; exact rfl; omega)) | ((with_reducible apply oq_subE (k := ((k - 1 : Nat) : Int))); exact rfl; exact rfl; omega) | ((with_reducible apply oq_addE (k := ((i + 1 : Nat) : Int))); exact rfl; exact rfl; omega) | (apply oq_fn; exact rfl; first | exact trivial | (refine ⟨?_, ?_⟩ <;> omega) | (refine ⟨?_, ?_, ?_⟩ <;> omega) | omega | skip) | ((with_reducible apply oq_load); exact rfl; exact rfl) | ((with_reducible apply oq_call (k := 75) (hc := Try.call75)); exact rfl; exact rfl; exact fun D w1 hw1 => HB hw1.ext.ext (Has.sub (by (repeat (first | exact HpSub.refl _ | apply HpSub.skip))) hw1))) | ((with_reducible apply tl_id); first | ((with_reducible apply tl_nil)) | ((with_reducible apply u_q); exact rfl; exact rfl; exact rfl; exact rfl) | ((with_reducible apply u_s); exact rfl; exact rfl; exact rfl)) | ((with_reducible apply os_id); first | ((with_reducible apply os_x); exact rfl) | ((with_reducible apply os_append (hk := app_ok41)); exact rfl; exact rfl; (repeat (first | exact P0 | apply P1)))) | ((with_reducible apply ox_id); first | ((with_reducible apply ox_buildSlice1); exact rfl; exact rfl; exact rfl; exact rfl; exact rfl; exact rfl; intro _)) | ((with_reducible apply rd_id); first | (apply Rd.own; (repeat (first | exact P0 | apply P1)); exact rfl; done) | (apply Rd.old; (first | (with_reducible assumption) | exact c0 | exact c1 | exact c2 | exact c3 | exact c4 | exact c5 | exact c6 | exact c7 | exact c8 | exact d0 | exact d1 | exact d2 | exact d3 | exact d4 | exact d5); first | exact List.not_mem_nil | exact m0 | exact m1 | exact m2 | exact m3 | exact m4 | exact m5 | exact m6 | exact m7 | exact m8 | exact m9)) | ((with_reducible apply t_id); first | ((with_reducible apply t_seq)) | (apply t_region; kernel_rfl) | ((with_reducible apply t_condD); exact rfl; all_goals first | (intro hp; try (exfalso; omega)) | skip) | ((with_reducible apply t_skip)) | ((with_reducible apply t_block))) | with_reducible apply q_thenN | with_reducible apply q_blockN | exact Rdn.zero | apply Rdn.succ | (simp only [List.length_map, Nat.mul_one]; done) | exact Nat.le_of_ble_eq_true rfl | exact (rfl : (_ : Bool) = true) | omega | (intro _ _; with_reducible apply tl_id))
              all_goals (rename_i gN cN; refine ⟨(i + 1, k - 1, min L 0 + ev - x, pre ++ [(i : Int)], some (gN, cN)), ⟨by simp only; omega, ?_, ?_, by simp only; omega, by simp only; omega, by simp only; omega, ?_, ?_⟩, by simp only; omega, ?_, ?_⟩)
              all_goals first
                | (simp only; rw [hpl, hdrop, insG_skip hB]; done)
                | (simp only; exact nd_skip hB)
                | (simp only; rw [hpl, hdrop, insG_ins hB]; simp; done)
                | (simp only; exact hnd2)
                | exact hpre
                | (simp only; omega)
                | (simp only [List.length_append, List.length_cons, List.length_nil]; omega)
                | (intro h; cases h; done)
                | ((try simp only [planS_none, planS_some, planH_none, planH_some, List.cons_append, List.nil_append]); (repeat (first | exact FrSub.nil | (apply FrSub.cons; exact rfl) | (apply FrSub.consE; exact rfl; (focus (simp; done))))); done)
                | ((try simp only [planS_none, planS_some, planH_none, planH_some, List.cons_append, List.nil_append]); (repeat (first | exact HpSub.refl _ | (apply HpSub.consE; (repeat (first | exact P0 | apply P1)); first | exact rfl | ((focus (simp [iv]; done)))) | apply HpSub.skip | exact HpSub.nil)); done)
        · obtain rfl : n = i := by omega
          have hfin : insV ev gr du fs = pre := by rw [hpl, List.drop_of_length_le (by omega)]; simp [insG]
          rw [hE, hfin]
          rcases o with _ | ⟨go, co⟩
          · obtain rfl := hpre rfl
            try simp only [planS_none, planS_some, planH_none, planH_some, List.cons_append, List.nil_append]
            repeat' (first | ((with_reducible apply oq_id); first | (apply oq_fn; exact rfl; first | exact trivial | (refine ⟨?_, ?_⟩ <;> omega) | (refine ⟨?_, ?_, ?_⟩ <;> omega) | omega | skip)) | ((with_reducible apply tl_id); first | ((with_reducible apply tl_nil)) | ((with_reducible apply u_q); exact rfl; exact rfl; exact rfl; exact rfl)) | ((with_reducible apply t_id); first | ((with_reducible apply t_seq)) | (apply t_region; kernel_rfl) | ((with_reducible apply t_condD); exact rfl; all_goals first | (intro hp; try (exfalso; omega)) | skip) | ((with_reducible apply t_ret)) | ((with_reducible apply t_exit))) | with_reducible apply q_thenN | with_reducible apply q_thenE | ((with_reducible apply q_blockE); exact rfl) | ((with_reducible apply end_ret)) | exact rvs_nil | ((with_reducible apply rvs_cons)) | ((with_reducible apply rv_tmp); exact rfl))
            all_goals exact ⟨_, .inr ⟨rfl, none, fun _ => rfl, rfl, rfl⟩, HpSub.nil⟩
          · try simp only [planS_none, planS_some, planH_none, planH_some, List.cons_append, List.nil_append]
            repeat' (first | ((with_reducible apply oq_id); first | (apply oq_fn; exact rfl; first | exact trivial | (refine ⟨?_, ?_⟩ <;> omega) | (refine ⟨?_, ?_, ?_⟩ <;> omega) | omega | skip)) | ((with_reducible apply tl_id); first | ((with_reducible apply tl_nil)) | ((with_reducible apply u_q); exact rfl; exact rfl; exact rfl; exact rfl)) | ((with_reducible apply t_id); first | ((with_reducible apply t_seq)) | (apply t_region; kernel_rfl) | ((with_reducible apply t_condD); exact rfl; all_goals first | (intro hp; try (exfalso; omega)) | skip) | ((with_reducible apply t_ret)) | ((with_reducible apply t_exit))) | with_reducible apply q_thenN | with_reducible apply q_thenE | ((with_reducible apply q_blockE); exact rfl) | ((with_reducible apply end_ret)) | exact rvs_nil | ((with_reducible apply rvs_cons)) | ((with_reducible apply rv_tmp); exact rfl))
            all_goals exact ⟨_, .inr ⟨rfl, some (go, co), (fun h => by cases h), rfl, rfl⟩, by (repeat (first | exact HpSub.refl _ | (apply HpSub.consE; (repeat (first | exact P0 | apply P1)); exact rfl) | apply HpSub.skip | exact HpSub.nil))⟩
  · have hE : insE ev gr du fs = caredE ev gr du fs := by unfold insE; rw [if_neg hce]
    rw [hE]
    obtain ⟨E, hEE⟩ : ∃ E, caredE ev gr du fs = E := ⟨_, rfl⟩
    rw [hEE] at HC hce ⊢
    refine enterF (c := cx w 144) Try.func28 rfl rfl rfl rfl ?_
    repeat' (first | ((with_reducible apply oq_id); first | (apply oq_fn; exact rfl; first | exact trivial | (refine ⟨?_, ?_⟩ <;> omega) | (refine ⟨?_, ?_, ?_⟩ <;> omega) | omega | skip) | ((with_reducible apply oq_load); exact rfl; exact rfl) | ((with_reducible apply oq_loadAgg); exact rfl; exact rfl) | ((with_reducible apply oq_call (k := 71) (hc := Try.call71)); exact rfl; exact rfl; exact fun D w1 hw1 => HC w1 hw1.ext.ext)) | ((with_reducible apply tl_id); first | ((with_reducible apply tl_nil)) | ((with_reducible apply u_q); exact rfl; exact rfl; exact rfl; exact rfl) | ((with_reducible apply u_s); exact rfl; exact rfl; exact rfl)) | ((with_reducible apply os_id); first | ((with_reducible apply os_x); exact rfl)) | ((with_reducible apply ox_id); first | ((with_reducible apply ox_box); exact rfl; exact rfl; intro _) | ((with_reducible apply ox_boxAgg); exact rfl; intro _)) | ((with_reducible apply rd_id); first | (apply Rd.own; (repeat (first | exact P0 | apply P1)); exact rfl; done)) | ((with_reducible apply t_id); first | ((with_reducible apply t_seq)) | (apply t_region; kernel_rfl) | ((with_reducible apply t_condN); exact rfl; all_goals first | (intro hp; try (exfalso; omega)) | skip) | ((with_reducible apply t_ret))) | with_reducible apply q_thenN | with_reducible apply q_thenR | exact Rdn.zero | apply Rdn.succ | ((with_reducible apply end_ret)) | exact rvs_nil | ((with_reducible apply rvs_cons)) | ((with_reducible apply rv_tmp); exact rfl))
    all_goals exact ⟨_, .inl ⟨hce, rfl, rfl⟩, HpSub.nil⟩

end Go.Proofs.Ytmlmgipngbndgaa
/- Law 4: late flights and plans are the specification's. -/
namespace Go.Proofs.Ytmlmgipngbndgaa
open Go.RowKit
attribute [local irreducible] OQ OS OX Rd T TL GX GL AL AI RV wpG SAny Calls
set_option maxRecDepth 100000
set_option maxHeartbeats 2000000
set_option linter.unusedVariables false
set_option linter.unusedSimpArgs false


theorem sameInts_calls (A A' : Option Addr) (n c n' c' : Nat) (l m : List Int) (q : Bool) (hq : q = true ↔ l = m) (w : World) (hr : RdS w 1 A n (l.map inCells)) (hr' : RdS w 1 A' n' (m.map inCells)) (hn : n ≤ 1000000) (hn' : n' ≤ 1000000) :
    Calls Try.prog 32 #[.slice A n c, .slice A' n' c'] w fun e w' => e = .returned (.bool q) ∧ Ext w w' := by
  have hl := hr.len
  have hl' := hr'.len
  simp only [List.length_map] at hl hl'
  by_cases hnn : n = n'
  · subst hnn
    refine enterQ (c := cx w 26) Try.func32 rfl rfl rfl rfl ?_
    repeat' (first | ((with_reducible apply oq_id); first | (apply oq_fn; exact rfl; first | exact trivial | (refine ⟨?_, ?_⟩ <;> omega) | (refine ⟨?_, ?_, ?_⟩ <;> omega) | omega | skip)) | ((with_reducible apply tl_id); first | ((with_reducible apply tl_nil)) | ((with_reducible apply u_q); exact rfl; exact rfl; exact rfl; exact rfl)) | ((with_reducible apply t_id); first | ((with_reducible apply t_seq)) | (apply t_region; kernel_rfl) | ((with_reducible apply t_condN); exact rfl; all_goals first | (intro hp; try (exfalso; omega)) | skip) | ((with_reducible apply t_skip)) | ((with_reducible apply t_block))) | with_reducible apply q_thenN)
    apply t_loopK (ι := Nat) [0, 1] (fun k => [(5, .int .i64 (k : Nat))]) (fun _ => []) (fun k => k ≤ n ∧ ∀ j, j < k → l[j]? = m[j]?) (fun k => n - k) (0)
    (repeat (first | exact KeepF.nil | (apply KeepF.cons; exact rfl) | apply KeepF.skip))
    (repeat (first | exact FrSub.nil | (apply FrSub.cons; exact rfl)))
    (repeat (first | exact HpSub.refl _ | (apply HpSub.consE; (repeat (first | exact P0 | apply P1)); exact rfl) | exact HpSub.nil))
    · exact ⟨by omega, fun j hj => by omega⟩
    rintro k ⟨hk, hkp⟩
    try simp only [List.cons_append, List.nil_append]
    by_cases hlt : k < n
    · obtain ⟨b, o, x, rfl, _, hx, c0⟩ := in_read hr hlt
      obtain ⟨b', o', y, rfl, _, hy, d0⟩ := in_read hr' hlt
      by_cases hxy : x = y
      · subst hxy
        repeat' (first | ((with_reducible apply oq_id); first | (focus ((with_reducible apply oq_indexAddrN); exact rfl; exact rfl; exact rfl; exact rfl; omega)) | (apply oq_fn; exact rfl; first | exact trivial | (refine ⟨?_, ?_⟩ <;> omega) | (refine ⟨?_, ?_, ?_⟩ <;> omega) | omega | skip) | ((with_reducible apply oq_load); exact rfl; exact rfl)) | ((with_reducible apply tl_id); first | ((with_reducible apply tl_nil)) | ((with_reducible apply u_q); exact rfl; exact rfl; exact rfl; exact rfl)) | ((with_reducible apply gx_id); first | ((with_reducible apply v_nil)) | ((with_reducible apply v_q); exact rfl; exact rfl; exact rfl)) | ((with_reducible apply rd_id); first | (apply Rd.old; (first | (with_reducible assumption) | exact c0 | exact c1 | exact c2 | exact c3 | exact c4 | exact c5 | exact c6 | exact c7 | exact c8 | exact d0 | exact d1 | exact d2 | exact d3 | exact d4 | exact d5); first | exact List.not_mem_nil | exact m0 | exact m1 | exact m2 | exact m3 | exact m4 | exact m5 | exact m6 | exact m7 | exact m8 | exact m9)) | ((with_reducible apply t_id); first | ((with_reducible apply t_seq)) | (apply t_region; kernel_rfl) | (apply t_drawn; kernel_rfl; decide +kernel; try simp only [List.append_eq, List.cons_append, List.nil_append]) | ((with_reducible apply t_condD); exact rfl; all_goals first | (intro hp; try (exfalso; omega)) | skip) | ((with_reducible apply t_condN); exact rfl; all_goals first | (intro hp; try (exfalso; omega)) | skip) | ((with_reducible apply t_skip)) | ((with_reducible apply t_block))) | with_reducible apply q_thenN | with_reducible apply q_blockN)
        refine ⟨k + 1, ⟨by omega, fun j hj => ?_⟩, by omega, ?_, ?_⟩
        · rcases Nat.lt_or_ge j k with h | h
          · exact hkp j h
          · obtain rfl : j = k := by omega
            rw [hx, hy]
        · try simp only [List.cons_append, List.nil_append]
          (repeat' (first | exact FrSub.nil | (apply FrSub.cons; exact rfl)))
        · try simp only [List.cons_append, List.nil_append]
          (repeat' (first | exact HpSub.refl _))
      · repeat' (first | ((with_reducible apply oq_id); first | (focus ((with_reducible apply oq_indexAddrN); exact rfl; exact rfl; exact rfl; exact rfl; omega)) | (apply oq_fn; exact rfl; first | exact trivial | (refine ⟨?_, ?_⟩ <;> omega) | (refine ⟨?_, ?_, ?_⟩ <;> omega) | omega | skip) | ((with_reducible apply oq_load); exact rfl; exact rfl)) | ((with_reducible apply tl_id); first | ((with_reducible apply tl_nil)) | ((with_reducible apply u_q); exact rfl; exact rfl; exact rfl; exact rfl)) | ((with_reducible apply gx_id); first | ((with_reducible apply v_nil)) | ((with_reducible apply v_q); exact rfl; exact rfl; exact rfl)) | ((with_reducible apply rd_id); first | (apply Rd.old; (first | (with_reducible assumption) | exact c0 | exact c1 | exact c2 | exact c3 | exact c4 | exact c5 | exact c6 | exact c7 | exact c8 | exact d0 | exact d1 | exact d2 | exact d3 | exact d4 | exact d5); first | exact List.not_mem_nil | exact m0 | exact m1 | exact m2 | exact m3 | exact m4 | exact m5 | exact m6 | exact m7 | exact m8 | exact m9)) | ((with_reducible apply t_id); first | ((with_reducible apply t_seq)) | (apply t_region; kernel_rfl) | (apply t_drawn; kernel_rfl; decide +kernel; try simp only [List.append_eq, List.cons_append, List.nil_append]) | ((with_reducible apply t_condD); exact rfl; all_goals first | (intro hp; try (exfalso; omega)) | skip) | ((with_reducible apply t_condN); exact rfl; all_goals first | (intro hp; try (exfalso; omega)) | skip) | ((with_reducible apply t_ret)) | ((with_reducible apply t_skip)) | ((with_reducible apply t_block))) | with_reducible apply q_thenN | with_reducible apply q_thenR | with_reducible apply q_blockR | ((with_reducible apply end_ret)) | exact rvs_nil | ((with_reducible apply rvs_cons)) | ((with_reducible apply rv_tmp); exact rfl))
        have hf : q = false := by
          cases q with
          | false => rfl
          | true =>
            have e := hq.1 rfl
            rw [e, hy] at hx
            exact absurd (Option.some.inj hx).symm hxy
        rw [hf]; rfl
    · repeat' (first | ((with_reducible apply oq_id); first | (apply oq_fn; exact rfl; first | exact trivial | (refine ⟨?_, ?_⟩ <;> omega) | (refine ⟨?_, ?_, ?_⟩ <;> omega) | omega | skip)) | ((with_reducible apply tl_id); first | ((with_reducible apply tl_nil)) | ((with_reducible apply u_q); exact rfl; exact rfl; exact rfl; exact rfl)) | ((with_reducible apply t_id); first | ((with_reducible apply t_seq)) | (apply t_region; kernel_rfl) | ((with_reducible apply t_condD); exact rfl; all_goals first | (intro hp; try (exfalso; omega)) | skip) | ((with_reducible apply t_ret)) | ((with_reducible apply t_exit))) | with_reducible apply q_thenN | with_reducible apply q_thenE | ((with_reducible apply q_blockE); exact rfl) | ((with_reducible apply end_ret)) | exact rvs_nil | ((with_reducible apply rvs_cons)) | ((with_reducible apply rv_tmp); exact rfl))
      have : q = true := hq.2 (List.ext_getElem? fun j => by
        rcases Nat.lt_or_ge j n with h | h
        · exact hkp j (by omega)
        · rw [List.getElem?_eq_none (by omega), List.getElem?_eq_none (by omega)])
      rw [this]; rfl
  · have : q = false := by
      cases q with
      | false => rfl
      | true => exact absurd (by rw [← hl, ← hl', hq.1 rfl]) hnn
    refine enterQ (c := cx w 26) Try.func32 rfl rfl rfl rfl ?_
    repeat' (first | ((with_reducible apply oq_id); first | (apply oq_fn; exact rfl; first | exact trivial | (refine ⟨?_, ?_⟩ <;> omega) | (refine ⟨?_, ?_, ?_⟩ <;> omega) | omega | skip)) | ((with_reducible apply tl_id); first | ((with_reducible apply tl_nil)) | ((with_reducible apply u_q); exact rfl; exact rfl; exact rfl; exact rfl)) | ((with_reducible apply t_id); first | ((with_reducible apply t_seq)) | (apply t_region; kernel_rfl) | ((with_reducible apply t_condN); exact rfl; all_goals first | (intro hp; try (exfalso; omega)) | skip) | ((with_reducible apply t_ret))) | with_reducible apply q_thenN | with_reducible apply q_thenR | ((with_reducible apply end_ret)) | exact rvs_nil | ((with_reducible apply rvs_cons)) | ((with_reducible apply rv_tmp); exact rfl))
    rw [this]
    all_goals rfl
theorem in_len (l : List Int) : ∀ r ∈ l.map inCells, r.length = 1 := by simp only [List.mem_map]; rintro r ⟨x, _, rfl⟩; rfl
theorem in_one (l : List Int) : ∀ r ∈ l.map inCells, ∀ u ∈ r, u.oneCell' = true := by
  simp only [List.mem_map]
  rintro r ⟨x, _, rfl⟩ u hu
  obtain rfl : u = _ := by simpa [inCells] using hu
  rfl
theorem in_own {w0 : World} {M : Ms} {H H' : Hp} {w : World} {g n : Nat} {l : List Int} {tg : Tg} (hl : l.length = n) (h : Has w0 M H w) (q : Pick H g (l.map inCells).flatten tg H') : RdS w 1 (some ⟨g, 0, none⟩) n (l.map inCells) :=
  Blk.rows (h.blk _ q.mem).2 (by simpa using hl) (in_len l)
theorem in_open {x : List Value} (h : LfsOk [.int .i64] x) : ∃ y : Int, x = inCells y ∧ True := by
  obtain ⟨z0, u0, rfl, _, h⟩ := h.int
  obtain rfl := h.nil
  exact ⟨z0, rfl, trivial⟩
theorem open_cap {H : Type} {enc : TypeId × Value → H} {r : Reach} {P : Program} {W : World} {held : Bool} {t e : TypeId} {A : Option Addr} {m c : Nat} {d : DataW H} {p : List MemPlace} (hs : P.underlying t = some (.slice e))
    (h : DataW.Trod enc P W 0 (fun _ => true) held t (.slice A m c) d p) : m ≤ c := by
  obtain ⟨fuel, hf⟩ := h
  rcases Go.Deep.open_slice hs hf with ⟨h1, _⟩ | ⟨a, len, cap, m', k, D, Pl, h1, _, hlc, _⟩
  · simp only [Value.cells, List.cons.injEq, Value.slice.injEq, and_true] at h1
    omega
  · simp only [Value.cells, List.cons.injEq, Value.slice.injEq, and_true] at h1
    omega
def InsN (E : Int) (V : Value) (H : Hp) : Prop := V = .tuple #[.slice none 0 0, .int .i64 E] ∧ H = []
def InsY (pl : List Int) (V : Value) (H : Hp) : Prop := ∃ o, (o = none → pl = []) ∧ V = .tuple #[planS pl o, .int .i64 0] ∧ H = planH pl o
theorem insN {E : Int} {pl : List Int} {V : Value} {H : Hp} (he : E ≠ 0) (h : InsO E pl V H) : InsN E V H := by
  rcases h with ⟨_, h⟩ | ⟨h, _⟩
  · exact h
  · exact absurd h he
theorem insY {E : Int} {pl : List Int} {V : Value} {H : Hp} (he : E = 0) (h : InsO E pl V H) : InsY pl V H := by
  rcases h with ⟨h, _⟩ | ⟨_, h⟩
  · exact absurd he h
  · exact h
theorem insV_len {ev gr : Int} : ∀ {fs : List Int} {i k : Nat} {L : Int}, (insG ev gr fs i k L).length ≤ fs.length
  | [], _, _, _ => Nat.le_refl _
  | f :: t, i, k, L => by
    unfold insG
    split
    · have := insV_len (ev := ev) (gr := gr) (fs := t) (i := i + 1) (k := k) (L := L - f); simp; omega
    · have := insV_len (ev := ev) (gr := gr) (fs := t) (i := i + 1) (k := k - 1) (L := min L 0 + ev - f); simp; omega
end Go.Proofs.Ytmlmgipngbndgaa
