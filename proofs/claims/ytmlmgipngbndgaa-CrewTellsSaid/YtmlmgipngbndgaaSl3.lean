/- A calculus for walks, part 3: operations that make or write blocks of the call's own. -/
import Derived.Test.YtmlmgipngbndgaaSl2
import Derived.Maps.AppendAt
namespace Go.Proofs.Ytmlmgipngbndgaa
set_option linter.unusedVariables false
set_option linter.unusedSimpArgs false
open Go.RowKit

theorem Has.perm {w0 : World} {M : Ms} {H H' : Hp} {w : World} (h : Has w0 M H w) (p : H.Perm H') : Has w0 M H' w :=
  ⟨h.ext, fun x hx => h.blk x (p.mem_iff.2 hx), (p.map _).nodup_iff.1 h.nodup, h.marks⟩
theorem Has.drop {w0 : World} {M : Ms} {x : Nat × List Value × Tg} {H : Hp} {w : World} (h : Has w0 M (x :: H) w) : Has w0 M H w :=
  ⟨h.ext, fun y hy => h.blk y (List.mem_cons_of_mem _ hy), (List.nodup_cons.1 h.nodup).2, h.marks⟩
/-- A fresh block. -/
theorem Has.fresh {w0 : World} {M : Ms} {H : Hp} {w w' : World} (h : Has w0 M H w) (e : Ext w w') {b : Nat} {C : List Value} {g : Tg} (hb : w.heap.size ≤ b) (k : Blk w' b C g) : Has w0 M ((b, C, g) :: H) w' := by
  have h' := h.grow e
  refine ⟨h'.ext, fun x hx => ?_, ?_, h'.marks⟩
  · rcases List.mem_cons.1 hx with rfl | hx
    · exact ⟨.inl (Nat.le_trans h.ext.size hb), k⟩
    · exact h'.blk x hx
  · rw [List.map_cons, List.nodup_cons]
    refine ⟨fun hm => ?_, h.nodup⟩
    obtain ⟨x, hx, hx2⟩ := List.mem_map.1 hm
    have := (h.blk x hx).2.lt
    simp only at hx2
    omega
theorem mark_ne {w : World} {b k : Nat} {C : List Value} {g : Tg} (h : Blk w b C g) (hk : w.heap[k]? = some (.deferred (some []))) (e : k = b) : False := by
  subst e
  obtain ⟨c, t, h1, _⟩ := h
  rw [h1] at hk; cases hk
/-- Block b, the first, is written; nothing else. -/
theorem Has.wrote {w0 : World} {M : Ms} {H : Hp} {w w' : World} {b : Nat} {C C' : List Value} {g g' : Tg} (h : Has w0 M ((b, C, g) :: H) w) (e : ExtM [b] w w') (k : Blk w' b C' g') : Has w0 M ((b, C', g') :: H) w' := by
  have hb := (h.blk _ (List.mem_cons_self ..)).1
  refine ⟨⟨e.os.trans h.ext.os, e.tape.trans h.ext.tape, e.output.trans h.ext.output, Nat.le_trans h.ext.size e.size, fun i hi hm => ?_⟩, fun x hx => ?_, h.nodup, h.marks.1, fun k hk => ⟨(h.marks.2 k hk).1, (e.block k (mark_lt (h.marks.2 k hk).2) (fun hm => mark_ne (h.blk _ (List.mem_cons_self ..)).2 (h.marks.2 k hk).2 (by simpa using hm))).trans (h.marks.2 k hk).2⟩⟩
  · rw [e.block i (Nat.lt_of_lt_of_le hi h.ext.size) (fun hmem => ?_), h.ext.block i hi hm]
    obtain rfl : i = b := by simpa using hmem
    rcases hb with hb | hb
    · exact absurd hi (by simp only at hb; omega)
    · exact hm hb
  · rcases List.mem_cons.1 hx with rfl | hx'
    · exact ⟨hb, k⟩
    · have hx := List.mem_cons_of_mem (b, C, g) hx'
      refine ⟨(h.blk x hx).1, (h.blk x hx).2.same (e.block _ (h.blk x hx).2.lt fun hmem => ?_)⟩
      have hne := (List.nodup_cons.1 h.nodup).1
      obtain hxb : x.1 = b := by simpa using hmem
      exact hne (List.mem_map.2 ⟨x, hx', hxb⟩)

theorem Blk.made (w : World) (C : List Value) (t : TypeId) : Blk (w.alloc (.cells C.toArray t)) w.heap.size C none :=
  ⟨C.toArray, t, heap_alloc_new w _, fun o v h => by simpa using h, trivial⟩
theorem Blk.row (w : World) (C : List Value) (t s n : Nat) (hs : C.length = n * s) (hn : n ≤ maxLen) : Blk (w.alloc (.cells C.toArray t)) w.heap.size C (some (t, s, n)) :=
  ⟨C.toArray, t, heap_alloc_new w _, fun o v h => by simpa using h, rfl, by simpa using hs, hn⟩
theorem Blk.set {w : World} {b : Nat} {C : List Value} {g : Tg} (h : Blk w b C g) (o : Nat) (v : Value) : Blk (w.setCell ⟨b, o, none⟩ v) b (C.set o v) g := by
  obtain ⟨c, t, h1, h2, h3⟩ := h
  refine ⟨c.setIfInBounds o v, t, ?_, fun i u hi => ?_, ?_⟩
  · simp [World.setCell, Array.getElem?_modify, h1]
  · rw [Array.getElem?_setIfInBounds]
    rw [List.getElem?_set] at hi
    split
    · rename_i hoi
      subst hoi
      simp only [if_true] at hi
      split at hi
      · rename_i hlt
        have := h2 o C[o] (by simp [hlt])
        have hlt2 := (Array.getElem?_eq_some_iff.1 this).1
        rw [if_pos hlt2]; exact hi
      · cases hi
    · rename_i hoi
      rw [if_neg hoi] at hi
      exact h2 i u hi
  · cases g with
    | none => trivial
    | some g =>
      obtain ⟨e, s, cap⟩ := g
      simpa [TgOk] using h3
theorem ExtM.setCell (w : World) (b o : Nat) (v : Value) : ExtM [b] w (w.setCell ⟨b, o, none⟩ v) :=
  ⟨rfl, rfl, rfl, by simp [World.setCell], fun i hi hm => Below.heap_setCell w _ v i (fun e => hm (by rw [e]; simp))⟩

theorem run_store (P : Program) (w : World) (p : Addr) (v u : Value) (hv : v.oneCell' = true) (hc : w.cell? p = some u) (hf : w.frozen? p = false) : (Go.store p v).run P w = .ok () (w.setCell p v) := by
  cases v <;> first | (simp [Go.store, Sem.run, hc, hf]; done) | (simp [Value.oneCell'] at hv)
theorem run_storeCells (P : Program) (b o : Nat) : ∀ (l : List Value) (i : Nat) (w : World) (C : List Value) (g : Tg), Blk w b C g → o + i + l.length ≤ C.length → (∀ v ∈ l, v.oneCell' = true) →
    ∃ w', (storeCells ⟨b, o, none⟩ l i).run P w = .ok () w' ∧ Blk w' b (setL C (o + i) l) g ∧ ExtM [b] w w'
  | [], i, w, C, g, hb, _, _ => ⟨w, by simp [storeCells, Sem.run_pure], hb, ExtM.refl _ _⟩
  | v :: l, i, w, C, g, hb, hl, hv => by
    have hlt : o + i < C.length := by simp at hl; omega
    have hcell := hb.cell (o := o + i) (v := C[o + i]) (by simp [hlt])
    have h1 := run_store P w ⟨b, o + i, none⟩ v _ (hv v (List.mem_cons_self ..)) hcell (hb.free _)
    obtain ⟨w', h2, h3, h4⟩ := run_storeCells P b o l (i + 1) (w.setCell ⟨b, o + i, none⟩ v) (C.set (o + i) v) g (hb.set _ _) (by simp at hl ⊢; omega) (fun u hu => hv u (List.mem_cons_of_mem _ hu))
    refine ⟨w', ?_, by simpa [setL, Nat.add_assoc] using h3, (ExtM.setCell ..).trans h4⟩
    unfold storeCells
    rw [add_eq, run_bind' P _ _ w () _ h1]
    exact h2

/-- The operation may make or write blocks of the call's own. -/
def OS (c : Cx) (o : Oper) (F : Fr) (H : Hp) (K : Value → Hp → Prop) : Prop :=
  ∀ D a w, Frm D c.N F a → Has c.w0 ⟨c.M, D⟩ H w → givesUpon c.P (fun u w' => ∃ H', K u H' ∧ Has c.w0 ⟨c.M, D⟩ H' w') ((execOp a.eval o).run c.P w)

section
variable {c : Cx} {F : Fr} {H H' : Hp} {K : Value → Hp → Prop} {d : Option Tmp} {ty : TypeId} {pos : String} {af : Array Edge} {g : Option (Nat × Bool)} {t t' : TypeId} {x y z : Operand} {v u : Value} {m n : Int} {a0 : Bool} {s0 : Nat} {z0 : List Value} {k0 : TyK} {b o : Nat} {C C' : List Value} {tg : Tg}

theorem OS.ofQ {o : Oper} (h : OQ c o F H v) (k : K v H) : OS c o F H K := by
  intro D a w ha hw
  have := h D a w ha hw
  generalize (execOp a.eval o).run c.P w = r at *
  cases r with
  | ok n w' =>
    cases n <;> simp only [givesUpon] at this ⊢ <;> first
      | exact ⟨H, by rw [this.1]; exact k, hw.grow this.2⟩
      | exact this.mono fun e w2 ⟨u, he, hu, hx⟩ => ⟨u, he, H, by rw [hu]; exact k, hw.grow hx⟩
      | exact this.mono fun u w2 ⟨hu, hx⟩ => ⟨H, by rw [hu]; exact k, hw.grow hx⟩
  | halt h w' => cases h <;> exact this.elim

/-- It makes blocks, and writes none. -/
def OX (c : Cx) (o : Oper) (F : Fr) (H : Hp) (K : Value → Hp → Prop) : Prop :=
  ∀ D a w, Frm D c.N F a → Has c.w0 ⟨c.M, D⟩ H w → givesUpon c.P (fun u w' => (∃ H', K u H' ∧ Has c.w0 ⟨c.M, D⟩ H' w') ∧ Ext w w') ((execOp a.eval o).run c.P w)
theorem givesUpon.mono {P : Program} {R R' : Value → World → Prop} (hr : ∀ v w, R v w → R' v w) {r : Result Next} (h : givesUpon P R r) : givesUpon P R' r := by
  cases r with
  | ok n w' =>
    cases n <;> simp only [givesUpon] at h ⊢ <;> first
      | exact hr _ _ h
      | exact h.mono fun e w2 ⟨u, he, hu⟩ => ⟨u, he, hr _ _ hu⟩
      | exact h.mono fun u w2 hu => hr _ _ hu
  | halt h0 w' => cases h0 <;> exact h.elim
theorem OS.ofX {o : Oper} (h : OX c o F H K) : OS c o F H K := fun D a w ha hw => givesUpon.mono (fun _ _ h => h.1) (h D a w ha hw)
theorem run_new (P : Program) (w : World) (C : Array Value) (e : TypeId) : (newRow e C).run P w = .ok ⟨w.heap.size, 0, none⟩ (w.alloc (.cells C e)) := by
  simp [newRow, newObj, Sem.run_bind, Sem.run_pure, Result.andThen]
  rfl

theorem ox_alloc (ht : tyAt c.tys t = some ⟨a0, s0, z0, k0⟩) (k : ∀ b, K (.pointer (some ⟨b, 0, none⟩)) ((b, z0, some (t, s0, 1)) :: H)) : OX c ⟨d, .alloc t, ty, pos, af, g⟩ F H K := by
  intro D a w ha hw
  obtain ⟨zz, h1, h2⟩ := (c.ty ht).zero w
  have : (execOp a.eval ⟨d, .alloc t, ty, pos, af, g⟩).run c.P w = .ok (.value (.pointer (some ⟨w.heap.size, 0, none⟩))) (w.alloc (.cells z0.toArray t)) := by
    simp [execOp, Instr.alloc, newVar, Sem.run_bind, Sem.run_pure, h1, Result.andThen, h2, run_new]
  rw [this]
  exact ⟨⟨_, k w.heap.size, hw.fresh ((Ext.refl w).alloc _) (Nat.le_refl _) (Blk.row w z0 t s0 1 (by have := (c.ty ht).zlen; simpa using this) (by unfold maxLen; omega))⟩, (Ext.refl w).alloc _⟩
theorem ox_box (hx : ev F x = some v) (hv : v.oneCell' = true) (k : ∀ b, K (.pointer (some ⟨b, 0, none⟩)) ((b, [v], some (t, 1, 1)) :: H)) : OX c ⟨d, .box t x, ty, pos, af, g⟩ F H K := by
  intro D a w ha hw
  have hc : v.cells = #[v] := by cases v <;> first | rfl | (simp [Value.oneCell'] at hv)
  have : (execOp a.eval ⟨d, .box t x, ty, pos, af, g⟩).run c.P w = .ok (.value (.pointer (some ⟨w.heap.size, 0, none⟩))) (w.alloc (.cells [v].toArray t)) := by
    simp [execOp, Instr.box, newVar, Sem.run_bind, Sem.run_pure, ha.ev hx, hc, Result.andThen, run_new]
  rw [this]
  exact ⟨⟨_, k w.heap.size, hw.fresh ((Ext.refl w).alloc _) (Nat.le_refl _) (Blk.row w [v] t 1 1 rfl (by unfold maxLen; omega))⟩, (Ext.refl w).alloc _⟩
theorem ox_boxAgg {l : List Value} (hx : ev F x = some (.agg ⟨l⟩)) (k : ∀ b, K (.pointer (some ⟨b, 0, none⟩)) ((b, l, some (t, l.length, 1)) :: H)) : OX c ⟨d, .box t x, ty, pos, af, g⟩ F H K := by
  intro D a w ha hw
  have : (execOp a.eval ⟨d, .box t x, ty, pos, af, g⟩).run c.P w = .ok (.value (.pointer (some ⟨w.heap.size, 0, none⟩))) (w.alloc (.cells l.toArray t)) := by
    simp [execOp, Instr.box, newVar, Sem.run_bind, Sem.run_pure, ha.ev hx, Value.cells, Result.andThen, run_new]
  rw [this]
  exact ⟨⟨_, k w.heap.size, hw.fresh ((Ext.refl w).alloc _) (Nat.le_refl _) (Blk.row w l t l.length 1 (by omega) (by unfold maxLen; omega))⟩, (Ext.refl w).alloc _⟩
theorem store_gen {vs : List Value} (ht : tyAt c.tys t = some ⟨a0, s0, z0, k0⟩) (hx : ev F x = some (.pointer (some ⟨b, o, none⟩))) (hy : ev F y = some v) (hv : v.cells = vs.toArray) (hl : vs.length = s0) (h1 : ∀ u ∈ vs, u.oneCell' = true)
    (hp : Pick H b C tg H') (ho : o + s0 ≤ C.length) (k : K undef ((b, setL C o vs, tg) :: H')) : OS c ⟨d, .store t x y, ty, pos, af, g⟩ F H K := by
  intro D a w ha hw
  have hw' := hw.perm hp.perm
  have hb := (hw'.blk _ (List.mem_cons_self ..)).2
  obtain ⟨w', h2, h3, h4⟩ := run_storeCells c.P b o vs 0 w C tg hb (by rw [hl]; omega) h1
  have h5 := (c.ty ht).size w
  have hsz : v.cells.size = s0 := by rw [hv]; simpa using hl
  have : (execOp a.eval ⟨d, .store t x y, ty, pos, af, g⟩).run c.P w = .ok .skip w' := by
    simp only [execOp, Instr.storeAt, Instr.sureAddr, storeVar, ha.ev hx, ha.ev hy, Sem.run_bind, Sem.run_pure, Result.andThen, h5, hsz]
    simp [Sem.run_bind, Sem.run_pure, Result.andThen, h2, hv]
  rw [this]
  exact ⟨_, k, hw'.wrote h4 h3⟩
theorem os_store (ht : tyAt c.tys t = some ⟨a0, 1, z0, k0⟩) (hx : ev F x = some (.pointer (some ⟨b, o, none⟩))) (hy : ev F y = some v) (hv : v.oneCell' = true)
    (hp : Pick H b C tg H') (ho : o + 1 ≤ C.length) (hC : Norm (C.set o v) C') (k : K undef ((b, C', tg) :: H')) : OS c ⟨d, .store t x y, ty, pos, af, g⟩ F H K :=
  store_gen (vs := [v]) ht hx hy (by cases v <;> first | rfl | (simp [Value.oneCell'] at hv)) rfl (by simpa using hv) hp ho (by rw [← hC.eq] at k; exact k)
theorem os_storeAgg {l : List Value} (ht : tyAt c.tys t = some ⟨a0, s0, z0, k0⟩) (hx : ev F x = some (.pointer (some ⟨b, o, none⟩))) (hy : ev F y = some (.agg ⟨l⟩)) (hl : l.length = s0) (h1 : (l.all fun u => u.oneCell') = true)
    (hp : Pick H b C tg H') (ho : o + s0 ≤ C.length) (hC : Norm (setL C o l) C') (k : K undef ((b, C', tg) :: H')) : OS c ⟨d, .store t x y, ty, pos, af, g⟩ F H K :=
  store_gen (vs := l) ht hx hy rfl hl (by simpa using h1) hp ho (by rw [← hC.eq] at k; exact k)


/-- A slice that is written out. -/
theorem ox_buildSlice {a1 : Bool} {s1 e len : Nat} {z1 l r : List Value} {k1 : TyK} {parts : List (Nat × Operand)} {vs : List (Nat × Value)} (ht : tyAt c.tys t = some ⟨a0, s0, z0, .slice e⟩) (he : tyAt c.tys e = some ⟨a1, s1, z1, k1⟩) (hp : evp F parts = some vs)
    (hf : fillL (fun i => some (i * s1, s1)) ((List.range (len * s1)).map fun j => z1.toArray[j % z1.toArray.size]!) vs = some l) (hn : Norm l r) (hb : Nat.ble (len * s1) 1000000 = true) (hs : Nat.beq r.length (len * s1) = true) (hs1 : Nat.ble 1 s1 = true)
    (k : ∀ b, K (.slice (some ⟨b, 0, none⟩) len len) ((b, r, some (e, s1, len)) :: H)) : OX c ⟨d, .buildSlice t len ⟨parts⟩, ty, pos, af, g⟩ F H K := by
  intro D a w ha hw
  have h1 := (c.ty ht).kind w
  have h2 := (c.ty he).size w
  obtain ⟨zz, h3, h4⟩ := (c.ty he).zero w
  have hE : Ev F a.eval := fun x v hx => ha.ev hx
  have h5 := hE.evp hp
  have h6 := fill_of _ _ _ _ hf
  have hlen := Nat.eq_of_beq_eq_true hs
  have hlt : ¬ (len * s1 > 2 ^ 24) := by have := Nat.le_of_ble_eq_true hb; omega
  have hs1' := Nat.le_of_ble_eq_true hs1
  have h7 : (Array.map (fun x => (x.fst, a.eval x.snd)) (⟨parts⟩ : Array (Nat × Operand))).toList = vs := by simpa using h5
  have hmax : len ≤ maxLen := by
    have := Nat.le_of_ble_eq_true hb
    have h9 : len * 1 ≤ len * s1 := Nat.mul_le_mul_left _ hs1'
    unfold maxLen; omega
  have : (execOp a.eval ⟨d, .buildSlice t len ⟨parts⟩, ty, pos, af, g⟩).run c.P w = .ok (.value (.slice (some ⟨w.heap.size, 0, none⟩) len len)) (w.alloc (.cells r.toArray e)) := by
    simp only [execOp, Instr.buildSlice, Sem.run_bind, Sem.run_pure, h1, h2, Result.andThen]
    rw [if_neg hlt]
    by_cases hz : len * s1 = 0
    · rw [if_pos hz]
      rw [hz] at h6
      have : (Array.range (len * s1)).map (fun x => (#[] : Array Value)[x % 0]!) = ⟨(List.range 0).map fun j => z1.toArray[j % z1.toArray.size]!⟩ := by rw [hz]; simp
      simp only [Sem.run_bind, Sem.run_pure, Result.andThen, h7, List.size_toArray, List.length_nil]
      rw [this, h6]
      simp only [Sem.run_bind, Sem.run_pure, Result.andThen, run_new, hn.eq]
    · rw [if_neg hz]
      have : (Array.range (len * s1)).map (fun x => z1.toArray[x % z1.toArray.size]!) = ⟨(List.range (len * s1)).map fun j => z1.toArray[j % z1.toArray.size]!⟩ := by
        rw [← Array.toList_inj]; simp
      simp only [Sem.run_bind, Sem.run_pure, Result.andThen, h3, h4, h7]
      rw [this, h6]
      simp only [Sem.run_bind, Sem.run_pure, Result.andThen, run_new, hn.eq]
  rw [this]
  exact ⟨⟨_, k w.heap.size, hw.fresh ((Ext.refl w).alloc _) (Nat.le_refl _) (Blk.row w r e s1 len hlen hmax)⟩, (Ext.refl w).alloc _⟩


theorem os_alloc (ht : tyAt c.tys t = some ⟨a0, s0, z0, k0⟩) (k : ∀ b, K (.pointer (some ⟨b, 0, none⟩)) ((b, z0, some (t, s0, 1)) :: H)) : OS c ⟨d, .alloc t, ty, pos, af, g⟩ F H K := .ofX (ox_alloc ht k)
theorem os_box (hx : ev F x = some v) (hv : v.oneCell' = true) (k : ∀ b, K (.pointer (some ⟨b, 0, none⟩)) ((b, [v], some (t, 1, 1)) :: H)) : OS c ⟨d, .box t x, ty, pos, af, g⟩ F H K := .ofX (ox_box hx hv k)
theorem os_boxAgg {l : List Value} (hx : ev F x = some (.agg ⟨l⟩)) (k : ∀ b, K (.pointer (some ⟨b, 0, none⟩)) ((b, l, some (t, l.length, 1)) :: H)) : OS c ⟨d, .box t x, ty, pos, af, g⟩ F H K := .ofX (ox_boxAgg hx k)
theorem os_buildSlice {a1 : Bool} {s1 e len : Nat} {z1 l r : List Value} {k1 : TyK} {parts : List (Nat × Operand)} {vs : List (Nat × Value)} (ht : tyAt c.tys t = some ⟨a0, s0, z0, .slice e⟩) (he : tyAt c.tys e = some ⟨a1, s1, z1, k1⟩) (hp : evp F parts = some vs)
    (hf : fillL (fun i => some (i * s1, s1)) ((List.range (len * s1)).map fun j => z1.toArray[j % z1.toArray.size]!) vs = some l) (hn : Norm l r) (hb : Nat.ble (len * s1) 1000000 = true) (hs : Nat.beq r.length (len * s1) = true) (hs1 : Nat.ble 1 s1 = true)
    (k : ∀ b, K (.slice (some ⟨b, 0, none⟩) len len) ((b, r, some (e, s1, len)) :: H)) : OS c ⟨d, .buildSlice t len ⟨parts⟩, ty, pos, af, g⟩ F H K := .ofX (ox_buildSlice ht he hp hf hn hb hs hs1 k)
/-- What an append must know of its types. -/
structure AppOk (P : Program) (t e size bytes : Nat) : Prop where
  und : P.underlying t = some (.slice e)
  info : ∃ i z, P.info? e = some i ∧ i.zero = some z ∧ i.size = size ∧ i.bytes = bytes ∧ z.cells.size = size
  pos : 0 < size

theorem Has.lost {w0 : World} {M : Ms} {H : Hp} {w w' : World} {b : Nat} {C : List Value} {g : Tg} (h : Has w0 M ((b, C, g) :: H) w) (e : ExtM [b] w w') : Has w0 M H w' := by
  have hb := (h.blk _ (List.mem_cons_self ..)).1
  refine ⟨⟨e.os.trans h.ext.os, e.tape.trans h.ext.tape, e.output.trans h.ext.output, Nat.le_trans h.ext.size e.size, fun i hi hm => ?_⟩, fun x hx => ?_, (List.nodup_cons.1 h.nodup).2, h.marks.1, fun k hk => ⟨(h.marks.2 k hk).1, (e.block k (mark_lt (h.marks.2 k hk).2) (fun hm => mark_ne (h.blk _ (List.mem_cons_self ..)).2 (h.marks.2 k hk).2 (by simpa using hm))).trans (h.marks.2 k hk).2⟩⟩
  · rw [e.block i (Nat.lt_of_lt_of_le hi h.ext.size) (fun hmem => ?_), h.ext.block i hi hm]
    obtain rfl : i = b := by simpa using hmem
    rcases hb with hb | hb
    · exact absurd hi (by simp only at hb; omega)
    · exact hm hb
  · have hx' := List.mem_cons_of_mem (b, C, g) hx
    refine ⟨(h.blk x hx').1, (h.blk x hx').2.same (e.block _ (h.blk x hx').2.lt fun hmem => ?_)⟩
    have hne := (List.nodup_cons.1 h.nodup).1
    obtain hxb : x.1 = b := by simpa using hmem
    exact hne (List.mem_map.2 ⟨x, hx, hxb⟩)
theorem Has.fresh' {w0 : World} {M : Ms} {H : Hp} {w w' : World} (h' : Has w0 M H w') {n : Nat} (hs : w0.heap.size ≤ n) (hlt : ∀ x ∈ H, x.1 < n) {C : List Value} {g : Tg} (k : Blk w' n C g) : Has w0 M ((n, C, g) :: H) w' := by
  refine ⟨h'.ext, fun x hx => ?_, ?_, h'.marks⟩
  · rcases List.mem_cons.1 hx with rfl | hx
    · exact ⟨.inl hs, k⟩
    · exact h'.blk x hx
  · rw [List.map_cons, List.nodup_cons]
    refine ⟨fun hm => ?_, h'.nodup⟩
    obtain ⟨x, hx, hx2⟩ := List.mem_map.1 hm
    have := hlt x hx
    simp only at hx2
    omega
theorem own_of_blk {w : World} {g e size n cap : Nat} {C : List Value} (h : Blk w g C (some (e, size, cap))) (hl : C.length = n * size) (hs : 0 < size) : w.ownsRow 0 e size (.slice (some ⟨g, 0, none⟩) n cap) n C := by
  obtain ⟨c, t, h1, h2, rfl, h4, h5⟩ := h
  refine ⟨hl, .inr ⟨g, cap, c, rfl, Nat.zero_le _, h1, ?_, h5, h4, ?_⟩⟩
  · rcases Nat.eq_zero_or_pos n with h0 | h0
    · omega
    · have hlt : C.length - 1 < C.length := by have := Nat.mul_pos h0 hs; omega
      have := h2 (C.length - 1) _ (List.getElem?_eq_getElem hlt)
      have := (Array.getElem?_eq_some_iff.1 this).1
      rw [h4, hl] at this
      have h9 : n * size ≤ cap * size := by omega
      exact Nat.le_of_mul_le_mul_right h9 hs
  · apply List.ext_getElem?
    intro i
    rw [List.getElem?_take]
    split
    · rename_i hi
      have hi' : i < C.length := by omega
      rw [List.getElem?_eq_getElem hi']
      have := h2 i _ (List.getElem?_eq_getElem hi')
      simpa using this
    · rename_i hi
      rw [List.getElem?_eq_none (by omega)]
theorem blk_of_own {w : World} {e size n : Nat} {v : Value} {C : List Value} (h : w.ownsRow 0 e size v n C) (hne : ¬ v = .slice none 0 0) : ∃ g cap, v = .slice (some ⟨g, 0, none⟩) n cap ∧ Blk w g C (some (e, size, cap)) := by
  obtain ⟨hl, h | ⟨g, cap, cur, hv, _, h1, h2, h3, h4, h5⟩⟩ := h
  · exact absurd h.1 hne
  · refine ⟨g, cap, hv, cur, e, h1, fun o v ho => ?_, rfl, h4, h3⟩
    have : (cur.toList.take (n * size))[o]? = some v := by rw [h5]; exact ho
    rw [List.getElem?_take] at this
    split at this
    · simpa using this
    · cases this
theorem append_run {g0 : Option (Nat × Bool)} {s x : Operand} {t e size bytes m c2 b2 o2 n : Nat} {a : Act} {w : World} {v : Value} {C news : List Value} (hk : AppOk c.P t e size bytes) (hs : a.eval s = v) (hown : w.ownsRow 0 e size v n C)
    (hx : a.eval x = .slice (some ⟨b2, o2, none⟩) m c2) (hl : news.length = m * size) (hnews : ∀ j u, news[j]? = some u → w.cell? ⟨b2, o2 + j, none⟩ = some u) (h1 : ∀ u ∈ news, u.oneCell' = true) (hm : 0 < m) (hb : (n + m) * bytes ≤ 140737488355328) (hmax : n + m ≤ 9223372036854775807) :
    ∃ g cap w', (execOp a.eval ⟨d, .call ⟨.builtin .append, #[s, x], #[t, t]⟩, ty, pos, af, g0⟩).run c.P w = .ok (.value (.slice (some ⟨g, 0, none⟩) (n + m) cap)) w' ∧ Blk w' g (C ++ news) (some (e, size, cap)) ∧ w.grownBy w' v.ownBlock ∧ (some g = v.ownBlock ∨ g = w.heap.size) := by
  obtain ⟨i, z, k1, k2, k3, k4, k5⟩ := hk.info
  obtain ⟨v', w', r1, r2, r3, r4, r5⟩ := run_append_own_at (P := c.P) w 0 t ty e i z size bytes hk.und k1 k2 k3 k4 k5 hk.pos v n C hown ⟨b2, o2, none⟩ m c2 news hl (fun j u hj => by rw [add_eq]; exact hnews j u hj) h1 (by unfold maxLen; omega) hb (Nat.zero_le _)
  obtain ⟨g, cap, rfl, r6⟩ := blk_of_own r2 (fun e => by have := (r4.1 e).2; omega)
  refine ⟨g, cap, w', ?_, r6, r3, ?_⟩
  · simp [execOp, resolve, invoke, builtin, Sem.run_bind, Sem.run_pure, Result.andThen, hs, hx, r1]
  · rcases r5 with r5 | r5
    · exact .inl r5
    · exact .inr (Option.some.inj r5)
theorem ExtM.of_grown {w w' : World} {row : Option Nat} (h : w.grownBy w' row) {b : Nat} (hr : ∀ k, row = some k → k = b) : ExtM [b] w w' :=
  ⟨h.os, h.tape, h.output, h.size, fun i hi hm => h.block i hi fun e => hm (by rw [hr i e.symm]; simp)⟩
theorem Ext.of_grown {w w' : World} (h : w.grownBy w' none) : Ext w w' := ⟨h.os, h.tape, h.output, h.size, fun i hi => h.block i hi (fun e => by cases e)⟩

/-- append onto a slice of the call's own. -/
theorem os_append {s x : Operand} {t e size bytes m c2 b2 o2 n cap gb : Nat} {news : List Value} (hk : AppOk c.P t e size bytes) (hs : ev F s = some (.slice (some ⟨gb, 0, none⟩) n cap)) (hx : ev F x = some (.slice (some ⟨b2, o2, none⟩) m c2))
    (hp : Pick H gb C (some (e, size, cap)) H') (hr : Rdn c H b2 o2 (m * size) news) (hC : C.length = n * size) (h1 : (news.all fun u => u.oneCell') = true) (hm : 0 < m) (hb : (n + m) * bytes ≤ 140737488355328) (hmax : n + m ≤ 9223372036854775807)
    (k : ∀ b cap', K (.slice (some ⟨b, 0, none⟩) (n + m) cap') ((b, C ++ news, some (e, size, cap')) :: H')) : OS c ⟨d, .call ⟨.builtin .append, #[s, x], #[t, t]⟩, ty, pos, af, g⟩ F H K := by
  intro D a w ha hw
  have hw' := hw.perm hp.perm
  obtain ⟨hr1, hr2⟩ := hr.spec
  obtain ⟨g', cap', w', r1, r2, r3, r4⟩ := append_run (d := d) (ty := ty) (pos := pos) (af := af) (g0 := g) hk (ha.ev hs) (own_of_blk (hw'.blk _ (List.mem_cons_self ..)).2 hC hk.pos) (ha.ev hx) hr2 (fun j u hj => Rds.at_ hw news o2 hr1 j u hj) (by simpa using h1) hm hb hmax
  rw [r1]
  have he : ExtM [gb] w w' := ExtM.of_grown r3 (fun k e => by simpa [Value.ownBlock] using e.symm)
  refine ⟨_, k g' cap', ?_⟩
  rcases r4 with r4 | r4
  · obtain rfl : g' = gb := by simpa [Value.ownBlock] using r4
    exact hw'.wrote he r2
  · subst r4
    exact (hw'.lost he).fresh' (w := w) hw.ext.size (fun y hy => (hw'.blk y (List.mem_cons_of_mem _ hy)).2.lt) r2
/-- append onto nil. -/
theorem os_appendNil {s x : Operand} {t e size bytes m c2 b2 o2 : Nat} {news : List Value} (hk : AppOk c.P t e size bytes) (hs : ev F s = some (.slice none 0 0)) (hx : ev F x = some (.slice (some ⟨b2, o2, none⟩) m c2))
    (hr : Rdn c H b2 o2 (m * size) news) (h1 : (news.all fun u => u.oneCell') = true) (hm : 0 < m) (hb : (0 + m) * bytes ≤ 140737488355328) (hmax : 0 + m ≤ 9223372036854775807)
    (k : ∀ b cap', K (.slice (some ⟨b, 0, none⟩) (0 + m) cap') ((b, news, some (e, size, cap')) :: H)) : OS c ⟨d, .call ⟨.builtin .append, #[s, x], #[t, t]⟩, ty, pos, af, g⟩ F H K := by
  intro D a w ha hw
  obtain ⟨hr1, hr2⟩ := hr.spec
  obtain ⟨g', cap', w', r1, r2, r3, r4⟩ := append_run (d := d) (ty := ty) (pos := pos) (af := af) (g0 := g) hk (ha.ev hs) (World.ownsRow_nil w 0 e size) (ha.ev hx) hr2 (fun j u hj => Rds.at_ hw news o2 hr1 j u hj) (by simpa using h1) hm hb hmax
  rw [r1]
  refine ⟨_, k g' cap', ?_⟩
  rcases r4 with r4 | r4
  · simp [Value.ownBlock] at r4
  · subst r4
    exact hw.fresh (Ext.of_grown r3) (Nat.le_refl _) r2

/-- A call that makes or writes memory. -/
theorem os_call {f : Operand} {args : Array Operand} {T : Array TypeId} {k : Nat} {fst cap vs : List Value} (hf : ev F f = some (.func (.func k) ⟨fst⟩ ⟨cap⟩)) (hc : ∀ (a : Array Value) (w : World), (callFunc k a).run c.P w = .ok (.enter k a) w)
    (ha : evs F args.toList = some vs) (h : ∀ D w, Has c.w0 ⟨c.M, D⟩ H w → Calls c.P k ⟨fst ++ vs ++ cap⟩ w fun e w' => ∃ v H', e = .returned v ∧ K v H' ∧ Has c.w0 ⟨c.M, D⟩ H' w') : OS c ⟨d, .call ⟨.value f, args, T⟩, ty, pos, af, g⟩ F H K := by
  intro D a w hA hw
  have h1 := hA.evs ha
  have h2 : args.map a.eval = vs.toArray := by rw [← h1]; cases args; simp
  have : (execOp a.eval ⟨d, .call ⟨.value f, args, T⟩, ty, pos, af, g⟩).run c.P w = .ok (.enter k ⟨fst ++ vs ++ cap⟩) w := by
    simp [execOp, resolve, invoke, hA.ev hf, Deferred.ofValue, Sem.run_bind, Sem.run_pure, h2, Result.andThen, hc]
  rw [this]
  exact (h D w hw).mono fun e w' ⟨v, H', h1, h2, h3⟩ => ⟨v, h1, H', h2, h3⟩
end
end Go.Proofs.Ytmlmgipngbndgaa
