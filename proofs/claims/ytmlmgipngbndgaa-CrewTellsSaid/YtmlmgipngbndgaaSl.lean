/- A calculus for walks: what a frame and the blocks of a call's own hold, in lists; no world in sight. Part 1: frames, blocks, values of operations that leave memory alone or only add to it. -/
import Derived.Test.YtmlmgipngbndgaaReg
namespace Go.Proofs.Ytmlmgipngbndgaa
set_option linter.unusedVariables false
set_option linter.unusedSimpArgs false
open Go.RowKit

abbrev Fr := List (Nat × Value)
/-- What more is known of a block: its elements' type, their cells, how many there is room for. -/
abbrev Tg := Option (Nat × Nat × Nat)
abbrev Hp := List (Nat × List Value × Tg)

def look : Fr → Nat → Option Value
  | [], _ => none
  | (d, v) :: F, t => match Nat.beq d t with | true => some v | false => look F t

inductive TyK where
  | struct (fs : List (Nat × Nat × Bool))
  | slice (e : Nat)
  | array (n e : Nat)
  | ptr (e : Nat)
  | int (k : IntKind)
  | other

/-- What is known of a type: is it a struct or an array; how many cells; the zero cells; its parts. -/
structure TyI where
  agg : Bool
  size : Nat
  zero : List Value
  kind : TyK

def KindOk (P : Program) (t : Nat) : TyK → Prop
  | .struct fs => ∃ ds : Array Field, (∀ w, (underlying t).run P w = .ok (.struct ds) w) ∧ ds.size = fs.length ∧ ∀ (f off n : Nat) (g : Bool), fs[f]? = some (off, n, g) →
      ∃ d : Field, ds[f]? = some d ∧ d.offset = off ∧ (∀ w, (sizeOf d.type).run P w = .ok n w) ∧ ∀ w, (isAgg d.type).run P w = .ok g w
  | .slice e => ∀ w, (underlying t).run P w = .ok (.slice e) w
  | .array n e => ∀ w, (underlying t).run P w = .ok (.array n e) w
  | .ptr e => ∀ w, (underlying t).run P w = .ok (.pointer e) w
  | .int k => ∀ w, (underlying t).run P w = .ok (.int k) w
  | .other => True

structure TyOk (P : Program) (t : Nat) (i : TyI) : Prop where
  agg : ∀ w, (isAgg t).run P w = .ok i.agg w
  size : ∀ w, (sizeOf t).run P w = .ok i.size w
  zero : ∀ w, ∃ z, (zeroValue t).run P w = .ok z w ∧ z.cells = i.zero.toArray
  zlen : i.zero.length = i.size
  kind : KindOk P t i.kind

def tyAt : List (Nat × TyI) → Nat → Option TyI
  | [], _ => none
  | (d, v) :: F, t => match Nat.beq d t with | true => some v | false => tyAt F t

theorem tyAt_mem {l : List (Nat × TyI)} {t : Nat} {i : TyI} (h : tyAt l t = some i) : (t, i) ∈ l := by
  induction l with
  | nil => cases h
  | cons x l ih =>
    obtain ⟨d, v⟩ := x
    unfold tyAt at h
    split at h
    · rename_i hb
      have hd := Nat.eq_of_beq_eq_true hb
      subst hd
      obtain rfl := Option.some.inj h
      exact List.mem_cons_self ..
    · exact List.mem_cons_of_mem _ (ih h)

/-- The old blocks that the call may write; the blocks that mark a range over a function. -/
structure Ms where
  wr : List Nat
  dk : List Nat
def dmark (D : Nat) : Deferred := { target := .collected D, args := #[] }
/-- The setting of a walk: the program, what is known of its types; the world at the call; the old blocks that the call may write; the frame's size. -/
structure Cx where
  P : Program
  tys : List (Nat × TyI)
  ok : ∀ x ∈ tys, TyOk P x.1 x.2
  w0 : World
  M : List Nat
  N : Nat

theorem Cx.ty (c : Cx) {t : Nat} {i : TyI} (h : tyAt c.tys t = some i) : TyOk c.P t i := c.ok _ (tyAt_mem h)

def ev (F : Fr) : Operand → Option Value
  | .tmp t => look F t
  | .const v => some v
  | .global g => some (.pointer (some ⟨g, 0, none⟩))
  | .func f => some (.func (.func f) #[] #[])

def evs (F : Fr) : List Operand → Option (List Value)
  | [] => some []
  | x :: l => match ev F x, evs F l with
    | some v, some vs => some (v :: vs)
    | _, _ => none

structure Frm (D : List Nat) (N : Nat) (F : Fr) (a : Act) : Prop where
  size : a.tmps.size = N
  defers : a.defers = D.map dmark
  at_ : ∀ d v, look F d = some v → a.tmps[d]? = some v

theorem Frm.ev {D : List Nat} {N : Nat} {F : Fr} {a : Act} (h : Frm D N F a) {x : Operand} {v : Value} (hx : ev F x = some v) : a.eval x = v := by
  cases x with
  | tmp t => simp only [Ytmlmgipngbndgaa.ev] at hx; have := h.at_ t v hx; simp [Act.eval, Array.getD_eq_getD_getElem?, this]
  | const u => exact Option.some.inj hx
  | global g => exact Option.some.inj hx
  | func f => exact Option.some.inj hx

theorem Frm.evs {D : List Nat} {N : Nat} {F : Fr} {a : Act} (h : Frm D N F a) : ∀ {l : List Operand} {vs : List Value}, evs F l = some vs → l.map a.eval = vs
  | [], _, hx => Option.some.inj hx
  | x :: l, vs, hx => by
    simp only [Ytmlmgipngbndgaa.evs] at hx
    split at hx
    · rename_i v us h1 h2
      obtain rfl := Option.some.inj hx
      rw [List.map_cons, h.ev h1, h.evs h2]
    · cases hx

theorem look_cons_self (F : Fr) (d : Nat) (v : Value) : look ((d, v) :: F) d = some v := by
  have : Nat.beq d d = true := by simp
  simp only [look, this]
theorem look_cons_ne (F : Fr) {d t : Nat} (v : Value) (h : d ≠ t) : look ((d, v) :: F) t = look F t := by
  have : Nat.beq d t = false := by
    cases hb : Nat.beq d t with
    | false => rfl
    | true => exact absurd (Nat.eq_of_beq_eq_true hb) h
  simp only [look, this]

theorem Frm.put {D : List Nat} {N : Nat} {F : Fr} {a : Act} (h : Frm D N F a) {d : Nat} (hd : Nat.blt d N = true) (v : Value) : Frm D N ((d, v) :: F) (a.put (some d) v) := by
  have hd' : d < N := by simpa [Nat.blt_eq] using hd
  refine ⟨by simp [Act.put, h.size], h.defers, fun t u hu => ?_⟩
  simp only [Act.put, Array.getElem?_setIfInBounds]
  by_cases hdt : d = t
  · subst hdt
    rw [look_cons_self] at hu
    rw [if_pos rfl, if_pos (by rw [h.size]; exact hd')]
    exact hu
  · rw [look_cons_ne F v hdt] at hu
    rw [if_neg hdt]
    exact h.at_ t u hu
theorem Frm.putNone {D : List Nat} {N : Nat} {F : Fr} {a : Act} (h : Frm D N F a) (v : Value) : Frm D N F (a.put none v) := h

def TgOk (c : Array Value) (t : TypeId) : Tg → Prop
  | none => True
  | some (e, s, cap) => t = e ∧ c.size = cap * s ∧ cap ≤ maxLen

/-- The first cells of a block that may be written. -/
def Blk (w : World) (b : Nat) (C : List Value) (g : Tg) : Prop :=
  ∃ c t, w.heap[b]? = some (.cells c t (0, 0)) ∧ (∀ (o : Nat) (v : Value), C[o]? = some v → c[o]? = some v) ∧ TgOk c t g

theorem Blk.lt {w : World} {b : Nat} {C : List Value} {g : Tg} (h : Blk w b C g) : b < w.heap.size := by
  obtain ⟨c, t, h, _⟩ := h
  exact (Array.getElem?_eq_some_iff.1 h).1
theorem Blk.cell {w : World} {b : Nat} {C : List Value} {g : Tg} (h : Blk w b C g) {o : Nat} {v : Value} (ho : C[o]? = some v) : w.cell? ⟨b, o, none⟩ = some v := by
  obtain ⟨c, t, h, hc, _⟩ := h
  simp only [World.cell?, h]
  exact hc o v ho
theorem Blk.free {w : World} {b : Nat} {C : List Value} {g : Tg} (h : Blk w b C g) (o : Nat) : w.frozen? ⟨b, o, none⟩ = false := by
  obtain ⟨c, t, h, hc⟩ := h
  simp [World.frozen?, h]
theorem Blk.same {w w' : World} {b : Nat} {C : List Value} {g : Tg} (h : Blk w b C g) (e : w'.heap[b]? = w.heap[b]?) : Blk w' b C g := by
  unfold Blk; rw [e]; exact h

/-- w grows to w', but for blocks of M. -/
structure ExtM (M : List Nat) (w w' : World) : Prop where
  os : w'.os = w.os
  tape : w'.tape = w.tape
  output : w'.output = w.output
  size : w.heap.size ≤ w'.heap.size
  block : ∀ b, b < w.heap.size → b ∉ M → w'.heap[b]? = w.heap[b]?

theorem Ext.toM {w w' : World} (h : Ext w w') (M : List Nat) : ExtM M w w' := ⟨h.os, h.tape, h.output, h.size, fun b hb _ => h.block b hb⟩
theorem ExtM.ext {w w' : World} (h : ExtM [] w w') : Ext w w' := ⟨h.os, h.tape, h.output, h.size, fun b hb => h.block b hb (List.not_mem_nil)⟩
theorem ExtM.refl (M : List Nat) (w : World) : ExtM M w w := (Ext.refl w).toM M
theorem ExtM.trans {M : List Nat} {a b c : World} (h : ExtM M a b) (k : ExtM M b c) : ExtM M a c :=
  ⟨k.os.trans h.os, k.tape.trans h.tape, k.output.trans h.output, Nat.le_trans h.size k.size, fun i hi hm => (k.block i (Nat.lt_of_lt_of_le hi h.size) hm).trans (h.block i hi hm)⟩

/-- What is known of the world: old blocks are as they were but for those of M; each block of H is the call's own or of M. -/
structure Has (w0 : World) (M : Ms) (H : Hp) (w : World) : Prop where
  ext : ExtM M.wr w0 w
  blk : ∀ x ∈ H, (w0.heap.size ≤ x.1 ∨ x.1 ∈ M.wr) ∧ Blk w x.1 x.2.1 x.2.2
  nodup : (H.map Prod.fst).Nodup
  marks : M.dk.Nodup ∧ ∀ k ∈ M.dk, w0.heap.size ≤ k ∧ w.heap[k]? = some (.deferred (some []))

theorem mark_lt {w : World} {k : Nat} {o : Obj} (h : w.heap[k]? = some o) : k < w.heap.size := (Array.getElem?_eq_some_iff.1 h).1
theorem Has.grow {w0 : World} {M : Ms} {H : Hp} {w w' : World} (h : Has w0 M H w) (e : Ext w w') : Has w0 M H w' :=
  ⟨h.ext.trans (e.toM M.wr), fun x hx => ⟨(h.blk x hx).1, (h.blk x hx).2.same (e.block _ (h.blk x hx).2.lt)⟩, h.nodup, h.marks.1, fun k hk => ⟨(h.marks.2 k hk).1, (e.block k (mark_lt (h.marks.2 k hk).2)).trans (h.marks.2 k hk).2⟩⟩

/-! Reading -/
/-- In every such world cell p holds v. -/
def Rd (c : Cx) (H : Hp) (p : Addr) (v : Value) : Prop := ∀ D w, Has c.w0 ⟨c.M, D⟩ H w → w.cell? p = some v
theorem Rd.old {c : Cx} {H : Hp} {b o : Nat} {v : Value} (h : c.w0.cell? ⟨b, o, none⟩ = some v) (hm : b ∉ c.M) : Rd c H ⟨b, o, none⟩ v := fun D w hw => by
  have hb := cell_lt h
  rw [World.cell?_of_block (w := c.w0) (a := ⟨b, o, none⟩) (hw.ext.block b hb hm)]
  exact h
/-- Block b is among H, with C; H' are the others. -/
inductive Pick : Hp → Nat → List Value → Tg → Hp → Prop
  | head (b : Nat) (C : List Value) (g : Tg) (H : Hp) : Pick ((b, C, g) :: H) b C g H
  | tail {x : Nat × List Value × Tg} {H H' : Hp} {b : Nat} {C : List Value} {g : Tg} (h : Pick H b C g H') : Pick (x :: H) b C g (x :: H')
theorem Pick.perm {H H' : Hp} {b : Nat} {C : List Value} {g : Tg} (h : Pick H b C g H') : H.Perm ((b, C, g) :: H') := by
  induction h with
  | head b C g H => exact List.Perm.refl _
  | tail _ ih => exact (List.Perm.cons _ ih).trans (List.Perm.swap ..)
theorem Pick.mem {H H' : Hp} {b : Nat} {C : List Value} {g : Tg} (h : Pick H b C g H') : (b, C, g) ∈ H := h.perm.mem_iff.2 (List.mem_cons_self ..)
theorem Rd.own {c : Cx} {H H' : Hp} {b o : Nat} {C : List Value} {g : Tg} {v : Value} (h : Pick H b C g H') (ho : C[o]? = some v) : Rd c H ⟨b, o, none⟩ v := fun D w hw => (hw.blk _ h.mem).2.cell ho
/-- Cells one behind the other. -/
def Rds (c : Cx) (H : Hp) (b : Nat) : Nat → List Value → Prop
  | _, [] => True
  | o, v :: vs => Rd c H ⟨b, o, none⟩ v ∧ Rds c H b (o + 1) vs
theorem Rds.nil {c : Cx} {H : Hp} {b o : Nat} : Rds c H b o [] := trivial
theorem Rds.cons {c : Cx} {H : Hp} {b o : Nat} {v : Value} {vs : List Value} (h : Rd c H ⟨b, o, none⟩ v) (k : Rds c H b (o + 1) vs) : Rds c H b o (v :: vs) := ⟨h, k⟩

/-- n cells one behind the other. -/
inductive Rdn (c : Cx) (H : Hp) (b : Nat) : Nat → Nat → List Value → Prop
  | zero {o : Nat} : Rdn c H b o 0 []
  | succ {o n : Nat} {v : Value} {vs : List Value} (h : Rd c H ⟨b, o, none⟩ v) (k : Rdn c H b (o + 1) n vs) : Rdn c H b o (n + 1) (v :: vs)
theorem Rdn.spec {c : Cx} {H : Hp} {b o n : Nat} {vs : List Value} (h : Rdn c H b o n vs) : Rds c H b o vs ∧ vs.length = n := by
  induction h with
  | zero => exact ⟨trivial, rfl⟩
  | succ h _ ih => exact ⟨⟨h, ih.1⟩, by simp [ih.2]⟩

theorem run_bind' {α β : Type} (P : Program) (x : Sem α) (f : α → Sem β) (w : World) (a : α) (w' : World) (h : x.run P w = .ok a w') : (x >>= f).run P w = (f a).run P w' := by
  rw [Sem.run_bind, h]; rfl

theorem run_load (P : Program) (a : Addr) (w : World) (v : Value) (h : w.cell? a = some v) : (Go.load a).run P w = .ok v w := by
  simp [Go.load, Sem.run, h]
theorem run_loadCellsFrom (P : Program) (w : World) (b o : Nat) : ∀ (vs : List Value) (i : Nat) (acc : Array Value), (∀ j v, vs[j]? = some v → w.cell? ⟨b, o + (i + j), none⟩ = some v) →
    (loadCellsFrom ⟨b, o, none⟩ i vs.length acc).run P w = .ok (acc ++ vs.toArray) w
  | [], i, acc, _ => by simp [loadCellsFrom, Sem.run_pure]
  | v :: vs, i, acc, h => by
    unfold loadCellsFrom
    have h0 := h 0 v rfl
    have ha : (Addr.add ⟨b, o, none⟩ i) = ⟨b, o + i, none⟩ := by
      unfold Addr.add; split
      · rename_i hi; subst hi; rfl
      · rfl
    rw [List.length_cons]
    simp only []
    rw [run_bind' P _ _ w v w (run_load P _ w v (by rw [ha]; simpa using h0))]
    rw [run_loadCellsFrom P w b o vs (i + 1) (acc.push v) (fun j u hj => by have := h (j + 1) u (by simpa using hj); rw [← this]; congr 2; omega)]
    simp
theorem Rds.at_ {c : Cx} {H : Hp} {D : List Nat} {b : Nat} {w : World} (hw : Has c.w0 ⟨c.M, D⟩ H w) : ∀ (vs : List Value) (o : Nat), Rds c H b o vs → ∀ j v, vs[j]? = some v → w.cell? ⟨b, o + j, none⟩ = some v
  | [], _, _, j, v, h => by simp at h
  | u :: vs, o, hr, 0, v, h => by
    obtain rfl : u = v := by simpa using h
    exact hr.1 D w hw
  | u :: vs, o, hr, j + 1, v, h => by
    have := Rds.at_ hw vs (o + 1) hr.2 j v (by simpa using h)
    rw [← this]; congr 2; omega
end Go.Proofs.Ytmlmgipngbndgaa
