/- Words for worlds that only grow, and for slices that are read. No program in sight. -/
import Derived.WalkKit
import Derived.Lib.Hide
namespace Go.Proofs.Ytmlmgipngbndgaa
set_option linter.unusedVariables false
set_option linter.unusedSimpArgs false
open Go.RowKit

/-- w grows to w': what there was stays. -/
def Ext (w w' : World) : Prop := Below w.heap.size w w'

theorem Ext.refl (w : World) : Ext w w := Below.refl _ _
theorem Ext.size {a b : World} (h : Ext a b) : a.heap.size ≤ b.heap.size := Below.size h
theorem Ext.trans {a b c : World} (h : Ext a b) (k : Ext b c) : Ext a c := Below.trans h (Below.mono k h.size)
theorem Ext.drew {a b : World} (h : Ext a b) : Ext a b.drew := Below.drew h
theorem Ext.alloc {a b : World} (h : Ext a b) (o : Obj) : Ext a (b.alloc o) := Below.alloc h h.size o
theorem Ext.setCell {a b : World} (h : Ext a b) {p : Addr} (hp : a.heap.size ≤ p.block) (u : Value) : Ext a (b.setCell p u) := Below.setCell h hp u
theorem Ext.of_alloc {a b : World} {o : Obj} (h : Ext (a.alloc o) b) : Ext a b := Ext.trans ((Ext.refl a).alloc o) h
theorem cell_lt {a : World} {p : Addr} {v : Value} (hc : a.cell? p = some v) : p.block < a.heap.size := by
  unfold World.cell? at hc
  rcases Nat.lt_or_ge p.block a.heap.size with h1 | h1
  · exact h1
  · rw [Array.getElem?_eq_none h1] at hc; cases hc
theorem Ext.cell {a b : World} (h : Ext a b) {p : Addr} {v : Value} (hc : a.cell? p = some v) : b.cell? p = some v := by
  rw [Below.cell h (cell_lt hc)]; exact hc

/-! What is known behind a call, as rules for the walk -/
theorem Ext.rules {w w' : World} (h : Ext w w') : (∀ b o, b < w.heap.size → w'.cell? ⟨b, o, none⟩ = w.cell? ⟨b, o, none⟩) ∧ (∀ b, b < w.heap.size → b < w'.heap.size) :=
  ⟨fun b o hb => Below.cell (p := ⟨b, o, none⟩) h hb, fun _ hb => Nat.lt_of_lt_of_le hb h.size⟩
theorem Ext.frz {w w' : World} (h : Ext w w') : ∀ b o, b < w.heap.size → w'.frozen? ⟨b, o, none⟩ = w.frozen? ⟨b, o, none⟩ :=
  fun b o hb => Below.frozen (p := ⟨b, o, none⟩) h hb
/-- A block as rules for the walk. -/
def isNew (w : World) (b : Nat) (C : Array Value) : Prop := (∀ o, w.cell? ⟨b, o, none⟩ = C[o]?) ∧ (∀ o, w.frozen? ⟨b, o, none⟩ = false) ∧ b < w.heap.size
theorem Ext.new {w w' : World} {C : Array Value} {t : TypeId} (h : Ext (w.alloc (.cells C t)) w') : isNew w' w.heap.size C :=
  ⟨fun o => by rw [Below.cell (p := ⟨w.heap.size, o, none⟩) h (by simp)]; simp,
   fun o => by rw [Below.frozen (p := ⟨w.heap.size, o, none⟩) h (by simp)]; simp [go_sem],
   Nat.lt_of_lt_of_le (by simp) h.size⟩
theorem isNew.ext {w w' : World} {b : Nat} {C : Array Value} (h : isNew w b C) (he : Ext w w') : isNew w' b C :=
  ⟨fun o => (Below.cell (p := ⟨b, o, none⟩) he h.2.2).trans (h.1 o), fun o => (Below.frozen (p := ⟨b, o, none⟩) he h.2.2).trans (h.2.1 o), Nat.lt_of_lt_of_le h.2.2 he.size⟩
theorem isNew.set {w : World} {b : Nat} {C : Array Value} (h : isNew w b C) (i : Nat) (v : Value) : isNew (w.setCell ⟨b, i, none⟩ v) b (C.setIfInBounds i v) := by
  obtain ⟨h1, h2, h3⟩ := h
  refine ⟨fun o => ?_, fun o => ?_, by simpa [World.setCell] using h3⟩
  · have hb : w.heap[b]? = some w.heap[b] := Array.getElem?_eq_getElem h3
    have h0 := h1 o
    simp only [World.cell?, hb] at h0
    simp only [World.cell?, World.setCell, Array.getElem?_modify, if_pos rfl, hb, Option.map_some]
    generalize w.heap[b] = x at *
    cases x with
    | cells c t f =>
      have hc : c = C := by
        apply Array.ext_getElem?
        intro j
        have := h1 j
        simpa [World.cell?, hb] using this
      subst hc
      simp
    | _ =>
      have hC : C = #[] := by
        apply Array.ext_getElem?
        intro j
        have := h1 j
        simpa [World.cell?, hb] using this.symm
      subst hC
      simp
  · rw [← h2 o]
    simp [World.frozen?_setCell]
theorem isNew.far {w : World} {b : Nat} {C : Array Value} (h : isNew w b C) {p : Addr} (hne : b ≠ p.block) (v : Value) : isNew (w.setCell p v) b C := by
  obtain ⟨h1, h2, h3⟩ := h
  refine ⟨fun o => ?_, fun o => ?_, by simpa [World.setCell] using h3⟩
  · rw [← h1 o]
    exact World.cell?_of_block (w := w) (a := ⟨b, o, none⟩) (Below.heap_setCell w p v b hne)
  · rw [← h2 o]
    simp [World.frozen?_setCell]
theorem isNew.alloc {w : World} {b : Nat} {C : Array Value} (h : isNew w b C) (o : Obj) : isNew (w.alloc o) b C := h.ext ((Ext.refl w).alloc o)
theorem isNew.made (w : World) (C : Array Value) (t : TypeId) : isNew (w.alloc (.cells C t)) w.heap.size C := Ext.new (Ext.refl _)
theorem Ext.blk {w w' : World} {b : Nat} {C : Array Value} (he : Ext w w') (h : (∀ o, w.cell? ⟨b, o, none⟩ = C[o]?) ∧ (∀ o, w.frozen? ⟨b, o, none⟩ = false) ∧ b < w.heap.size) :
    (∀ o, w'.cell? ⟨b, o, none⟩ = C[o]?) ∧ (∀ o, w'.frozen? ⟨b, o, none⟩ = false) ∧ b < w'.heap.size := isNew.ext h he
/-- What was there, as rules for the walk. -/
def isOld (w w' : World) : Prop := (∀ b o, b < w.heap.size → w'.cell? ⟨b, o, none⟩ = w.cell? ⟨b, o, none⟩) ∧ (∀ b o, b < w.heap.size → w'.frozen? ⟨b, o, none⟩ = w.frozen? ⟨b, o, none⟩) ∧ (∀ b, b < w.heap.size → b < w'.heap.size)
theorem Ext.old {w w' : World} (h : Ext w w') : isOld w w' :=
  ⟨h.rules.1, h.frz, h.rules.2⟩
theorem Ext.use {w w' : World} {M : Prop} (h : Ext w w') (k : Ext w w' → ((∀ b o, b < w.heap.size → w'.cell? ⟨b, o, none⟩ = w.cell? ⟨b, o, none⟩) ∧ (∀ b o, b < w.heap.size → w'.frozen? ⟨b, o, none⟩ = w.frozen? ⟨b, o, none⟩) ∧ (∀ b, b < w.heap.size → b < w'.heap.size)) → M) : M := k h h.old
theorem Ext.use1 {w w' : World} {M : Prop} {C1 : Array Value} {t1 : TypeId} (h : Ext (w.alloc (.cells C1 t1)) w')
    (k : Ext w w' → ((∀ b o, b < w.heap.size → w'.cell? ⟨b, o, none⟩ = w.cell? ⟨b, o, none⟩) ∧ (∀ b o, b < w.heap.size → w'.frozen? ⟨b, o, none⟩ = w.frozen? ⟨b, o, none⟩) ∧ (∀ b, b < w.heap.size → b < w'.heap.size)) → ((∀ o, w'.cell? ⟨w.heap.size, o, none⟩ = C1[o]?) ∧ (∀ o, w'.frozen? ⟨w.heap.size, o, none⟩ = false) ∧ w.heap.size < w'.heap.size) → M) : M :=
  k h.of_alloc h.of_alloc.old h.new
theorem Ext.use2 {w w' : World} {M : Prop} {C1 C2 : Array Value} {t1 t2 : TypeId} (h : Ext ((w.alloc (.cells C1 t1)).alloc (.cells C2 t2)) w')
    (k : Ext w w' → ((∀ b o, b < w.heap.size → w'.cell? ⟨b, o, none⟩ = w.cell? ⟨b, o, none⟩) ∧ (∀ b o, b < w.heap.size → w'.frozen? ⟨b, o, none⟩ = w.frozen? ⟨b, o, none⟩) ∧ (∀ b, b < w.heap.size → b < w'.heap.size)) → ((∀ o, w'.cell? ⟨w.heap.size, o, none⟩ = C1[o]?) ∧ (∀ o, w'.frozen? ⟨w.heap.size, o, none⟩ = false) ∧ w.heap.size < w'.heap.size) → ((∀ o, w'.cell? ⟨w.heap.size + 1, o, none⟩ = C2[o]?) ∧ (∀ o, w'.frozen? ⟨w.heap.size + 1, o, none⟩ = false) ∧ w.heap.size + 1 < w'.heap.size) → M) : M :=
  h.of_alloc.use1 fun x y a => k x y a (by simpa [isNew] using h.new)
theorem Ext.use3 {w w' : World} {M : Prop} {C1 C2 C3 : Array Value} {t1 t2 t3 : TypeId} (h : Ext (((w.alloc (.cells C1 t1)).alloc (.cells C2 t2)).alloc (.cells C3 t3)) w')
    (k : Ext w w' → ((∀ b o, b < w.heap.size → w'.cell? ⟨b, o, none⟩ = w.cell? ⟨b, o, none⟩) ∧ (∀ b o, b < w.heap.size → w'.frozen? ⟨b, o, none⟩ = w.frozen? ⟨b, o, none⟩) ∧ (∀ b, b < w.heap.size → b < w'.heap.size)) → ((∀ o, w'.cell? ⟨w.heap.size, o, none⟩ = C1[o]?) ∧ (∀ o, w'.frozen? ⟨w.heap.size, o, none⟩ = false) ∧ w.heap.size < w'.heap.size) → ((∀ o, w'.cell? ⟨w.heap.size + 1, o, none⟩ = C2[o]?) ∧ (∀ o, w'.frozen? ⟨w.heap.size + 1, o, none⟩ = false) ∧ w.heap.size + 1 < w'.heap.size) → ((∀ o, w'.cell? ⟨w.heap.size + 2, o, none⟩ = C3[o]?) ∧ (∀ o, w'.frozen? ⟨w.heap.size + 2, o, none⟩ = false) ∧ w.heap.size + 2 < w'.heap.size) → M) : M :=
  h.of_alloc.use2 fun x y a b => k x y a b (by simpa [isNew] using h.new)
theorem Ext.use4 {w w' : World} {M : Prop} {C1 C2 C3 C4 : Array Value} {t1 t2 t3 t4 : TypeId} (h : Ext ((((w.alloc (.cells C1 t1)).alloc (.cells C2 t2)).alloc (.cells C3 t3)).alloc (.cells C4 t4)) w')
    (k : Ext w w' → ((∀ b o, b < w.heap.size → w'.cell? ⟨b, o, none⟩ = w.cell? ⟨b, o, none⟩) ∧ (∀ b o, b < w.heap.size → w'.frozen? ⟨b, o, none⟩ = w.frozen? ⟨b, o, none⟩) ∧ (∀ b, b < w.heap.size → b < w'.heap.size)) → ((∀ o, w'.cell? ⟨w.heap.size, o, none⟩ = C1[o]?) ∧ (∀ o, w'.frozen? ⟨w.heap.size, o, none⟩ = false) ∧ w.heap.size < w'.heap.size) → ((∀ o, w'.cell? ⟨w.heap.size + 1, o, none⟩ = C2[o]?) ∧ (∀ o, w'.frozen? ⟨w.heap.size + 1, o, none⟩ = false) ∧ w.heap.size + 1 < w'.heap.size) → ((∀ o, w'.cell? ⟨w.heap.size + 2, o, none⟩ = C3[o]?) ∧ (∀ o, w'.frozen? ⟨w.heap.size + 2, o, none⟩ = false) ∧ w.heap.size + 2 < w'.heap.size) → ((∀ o, w'.cell? ⟨w.heap.size + 3, o, none⟩ = C4[o]?) ∧ (∀ o, w'.frozen? ⟨w.heap.size + 3, o, none⟩ = false) ∧ w.heap.size + 3 < w'.heap.size) → M) : M :=
  h.of_alloc.use3 fun x y a b c => k x y a b c (by simpa [isNew] using h.new)
theorem Ext.use5 {w w' : World} {M : Prop} {C1 C2 C3 C4 C5 : Array Value} {t1 t2 t3 t4 t5 : TypeId} (h : Ext (((((w.alloc (.cells C1 t1)).alloc (.cells C2 t2)).alloc (.cells C3 t3)).alloc (.cells C4 t4)).alloc (.cells C5 t5)) w')
    (k : Ext w w' → ((∀ b o, b < w.heap.size → w'.cell? ⟨b, o, none⟩ = w.cell? ⟨b, o, none⟩) ∧ (∀ b o, b < w.heap.size → w'.frozen? ⟨b, o, none⟩ = w.frozen? ⟨b, o, none⟩) ∧ (∀ b, b < w.heap.size → b < w'.heap.size)) → ((∀ o, w'.cell? ⟨w.heap.size, o, none⟩ = C1[o]?) ∧ (∀ o, w'.frozen? ⟨w.heap.size, o, none⟩ = false) ∧ w.heap.size < w'.heap.size) → ((∀ o, w'.cell? ⟨w.heap.size + 1, o, none⟩ = C2[o]?) ∧ (∀ o, w'.frozen? ⟨w.heap.size + 1, o, none⟩ = false) ∧ w.heap.size + 1 < w'.heap.size) → ((∀ o, w'.cell? ⟨w.heap.size + 2, o, none⟩ = C3[o]?) ∧ (∀ o, w'.frozen? ⟨w.heap.size + 2, o, none⟩ = false) ∧ w.heap.size + 2 < w'.heap.size) → ((∀ o, w'.cell? ⟨w.heap.size + 3, o, none⟩ = C4[o]?) ∧ (∀ o, w'.frozen? ⟨w.heap.size + 3, o, none⟩ = false) ∧ w.heap.size + 3 < w'.heap.size) → ((∀ o, w'.cell? ⟨w.heap.size + 4, o, none⟩ = C5[o]?) ∧ (∀ o, w'.frozen? ⟨w.heap.size + 4, o, none⟩ = false) ∧ w.heap.size + 4 < w'.heap.size) → M) : M :=
  h.of_alloc.use4 fun x y a b c d => k x y a b c d (by simpa [isNew] using h.new)
theorem Ext.use6 {w w' : World} {M : Prop} {C1 C2 C3 C4 C5 C6 : Array Value} {t1 t2 t3 t4 t5 t6 : TypeId} (h : Ext ((((((w.alloc (.cells C1 t1)).alloc (.cells C2 t2)).alloc (.cells C3 t3)).alloc (.cells C4 t4)).alloc (.cells C5 t5)).alloc (.cells C6 t6)) w')
    (k : Ext w w' → ((∀ b o, b < w.heap.size → w'.cell? ⟨b, o, none⟩ = w.cell? ⟨b, o, none⟩) ∧ (∀ b o, b < w.heap.size → w'.frozen? ⟨b, o, none⟩ = w.frozen? ⟨b, o, none⟩) ∧ (∀ b, b < w.heap.size → b < w'.heap.size)) → ((∀ o, w'.cell? ⟨w.heap.size, o, none⟩ = C1[o]?) ∧ (∀ o, w'.frozen? ⟨w.heap.size, o, none⟩ = false) ∧ w.heap.size < w'.heap.size) → ((∀ o, w'.cell? ⟨w.heap.size + 1, o, none⟩ = C2[o]?) ∧ (∀ o, w'.frozen? ⟨w.heap.size + 1, o, none⟩ = false) ∧ w.heap.size + 1 < w'.heap.size) → ((∀ o, w'.cell? ⟨w.heap.size + 2, o, none⟩ = C3[o]?) ∧ (∀ o, w'.frozen? ⟨w.heap.size + 2, o, none⟩ = false) ∧ w.heap.size + 2 < w'.heap.size) → ((∀ o, w'.cell? ⟨w.heap.size + 3, o, none⟩ = C4[o]?) ∧ (∀ o, w'.frozen? ⟨w.heap.size + 3, o, none⟩ = false) ∧ w.heap.size + 3 < w'.heap.size) → ((∀ o, w'.cell? ⟨w.heap.size + 4, o, none⟩ = C5[o]?) ∧ (∀ o, w'.frozen? ⟨w.heap.size + 4, o, none⟩ = false) ∧ w.heap.size + 4 < w'.heap.size) → ((∀ o, w'.cell? ⟨w.heap.size + 5, o, none⟩ = C6[o]?) ∧ (∀ o, w'.frozen? ⟨w.heap.size + 5, o, none⟩ = false) ∧ w.heap.size + 5 < w'.heap.size) → M) : M :=
  h.of_alloc.use5 fun x y a b c d e => k x y a b c d e (by simpa [isNew] using h.new)

/-- A slice value '.slice A n c' reads as the rows xs, each of k cells. -/
structure RdS (w : World) (k : Nat) (A : Option Addr) (n : Nat) (xs : List (List Value)) : Prop where
  len : xs.length = n
  at_ : 0 < n → ∃ b o, A = some ⟨b, o, none⟩ ∧ b < w.heap.size ∧ ∀ (i : Nat) (x : List Value), xs[i]? = some x → x.length = k ∧ ∀ (j : Nat) (u : Value), x[j]? = some u → w.cell? ⟨b, o + i * k + j, none⟩ = some u

theorem RdS.ext {w w' : World} {k : Nat} {A : Option Addr} {n : Nat} {xs : List (List Value)} (h : RdS w k A n xs) (he : Ext w w') : RdS w' k A n xs :=
  ⟨h.len, fun hn => by
    obtain ⟨b, o, rfl, hb, hc⟩ := h.at_ hn
    exact ⟨b, o, rfl, Nat.lt_of_lt_of_le hb he.size, fun i x hx => ⟨(hc i x hx).1, fun j u hu => he.cell ((hc i x hx).2 j u hu)⟩⟩⟩
theorem RdS.nil (w : World) (k : Nat) (A : Option Addr) : RdS w k A 0 [] := ⟨rfl, fun h => absurd h (by omega)⟩
/-- A new block that was just laid. -/
theorem RdS.one1 {w : World} {b : Nat} {x : Value} {c : Array Value} {t : TypeId} (hb : b = w.heap.size) (hc : c = #[x]) : RdS (w.alloc (.cells c t)) 1 (some ⟨b, 0, none⟩) 1 [[x]] := by
  subst hb hc
  refine ⟨rfl, fun _ => ⟨_, _, rfl, by simp, fun i y hy => ?_⟩⟩
  match i, hy with
  | 0, hy =>
    obtain rfl : [x] = y := by simpa using hy
    refine ⟨rfl, fun j u hu => ?_⟩
    match j, hu with
    | 0, hu => simpa using hu
/-- A new block of one-cell elements. -/
theorem RdS.row1 {w : World} {b n : Nat} {xs : List Value} {t : TypeId} (hb : b = w.heap.size) (hn : n = xs.length) : RdS (w.alloc (.cells xs.toArray t)) 1 (some ⟨b, 0, none⟩) n (xs.map fun x => [x]) := by
  subst hb hn
  refine ⟨by simp, fun _ => ⟨_, _, rfl, by simp, fun i y hy => ?_⟩⟩
  simp only [List.getElem?_map, Option.map_eq_some_iff] at hy
  obtain ⟨x, hx, rfl⟩ := hy
  refine ⟨rfl, fun j u hu => ?_⟩
  match j, hu with
  | 0, hu =>
    obtain rfl : x = u := by simpa using hu
    simpa using hx

/-! max and min, without a parting of the ways -/
theorem max_ite (a b : Int) : (if a < b then b else a) = max a b := by omega
theorem min_ite (a b : Int) : (if b < a then b else a) = min a b := by omega
@[go_sem ↓] theorem run_max2 {P : Program} (T : Array TypeId) (t : TypeId) (a b : Int) (w : World) : (Builtin.max_ T t #[.int .i64 a, .int .i64 b]).run P w = .ok (.int .i64 (max a b)) w := by
  rw [← max_ite]
  go_simp
@[go_sem ↓] theorem run_min2 {P : Program} (T : Array TypeId) (t : TypeId) (a b : Int) (w : World) : (Builtin.min_ T t #[.int .i64 a, .int .i64 b]).run P w = .ok (.int .i64 (min a b)) w := by
  rw [← min_ite]
  go_simp
@[go_sem ↓] theorem run_max3 {P : Program} (T : Array TypeId) (t : TypeId) (a b c : Int) (w : World) : (Builtin.max_ T t #[.int .i64 a, .int .i64 b, .int .i64 c]).run P w = .ok (.int .i64 (max (max a b) c)) w := by
  rw [← max_ite, ← max_ite]
  simp [Builtin.max_, Builtin.max2, go_sem]
@[go_sem ↓] theorem run_min3 {P : Program} (T : Array TypeId) (t : TypeId) (a b c : Int) (w : World) : (Builtin.min_ T t #[.int .i64 a, .int .i64 b, .int .i64 c]).run P w = .ok (.int .i64 (min (min a b) c)) w := by
  rw [← min_ite, ← min_ite]
  simp [Builtin.min_, Builtin.min2, go_sem]

theorem RdS.row {w : World} {k : Nat} {A : Option Addr} {n : Nat} {xs : List (List Value)} (h : RdS w k A n xs) {i : Nat} (hi : i < n) :
    ∃ b o x, A = some ⟨b, o, none⟩ ∧ b < w.heap.size ∧ xs[i]? = some x ∧ x.length = k ∧ ∀ (j : Nat) (u : Value), x[j]? = some u → w.cell? ⟨b, o + i * k + j, none⟩ = some u := by
  obtain ⟨b, o, hA, hb, hc⟩ := h.at_ (by omega)
  have hl : i < xs.length := by have := h.len; omega
  exact ⟨b, o, xs[i], hA, hb, List.getElem?_eq_getElem hl, (hc i _ (List.getElem?_eq_getElem hl)).1, (hc i _ (List.getElem?_eq_getElem hl)).2⟩

theorem post_ret {P : Program} {fn : Func} {R : Ending → World → Prop} {a : Act} {w : World} (hd : a.defers = []) (hr : ∃ v, (results fn a.tmps).run P w = .ok v w ∧ R (.returned v) w) : bodyPost P fn R .ret a w := ⟨hd, hr⟩
theorem ret_int {k : IntKind} {a b : Int} (h : a = b) : Ending.returned (.int k a) = .returned (.int k b) := by rw [h]
theorem ret_bool {a b : Bool} (h : a = b) : Ending.returned (.bool a) = .returned (.bool b) := by rw [h]
end Go.Proofs.Ytmlmgipngbndgaa
