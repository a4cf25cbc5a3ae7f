/- A calculus for walks, part 2: the operations that leave the call's own blocks as they are. -/
import Derived.Test.YtmlmgipngbndgaaSl
import Derived.IntWalk
namespace Go.Proofs.Ytmlmgipngbndgaa
set_option linter.unusedVariables false
set_option linter.unusedSimpArgs false
open Go.RowKit

/-- The operation yields v, and the world only grows. -/
def OQ (c : Cx) (o : Oper) (F : Fr) (H : Hp) (v : Value) : Prop :=
  ∀ D a w, Frm D c.N F a → Has c.w0 ⟨c.M, D⟩ H w → givesUpon c.P (fun u w' => u = v ∧ Ext w w') ((execOp a.eval o).run c.P w)

def InR (z : Int) : Prop := -9223372036854775808 ≤ z ∧ z ≤ 9223372036854775807
theorem inr_mk {z : Int} (h1 : -9223372036854775808 ≤ z) (h2 : z ≤ 9223372036854775807) : InR z := ⟨h1, h2⟩
theorem wrap_in {z : Int} (h : InR z) : IntKind.i64.wrap z = z := IntWalk.i64_in _ h

/-- A list, written out. -/
inductive Norm : List Value → List Value → Prop
  | nil {l : List Value} (h : l = []) : Norm l []
  | cons {l l' r : List Value} {v : Value} (h : l = v :: l') (k : Norm l' r) : Norm l (v :: r)
theorem Norm.eq {l r : List Value} (h : Norm l r) : l = r := by
  induction h with
  | nil h => exact h
  | cons h _ ih => rw [h, ih]

section
variable {c : Cx} {F : Fr} {H : Hp} {d : Option Tmp} {ty : TypeId} {pos : String} {af : Array Edge} {g : Option (Nat × Bool)} {t t' : TypeId} {x y z : Operand} {v u : Value} {m n : Int}

/-- ρ gives the operands what F says. -/
def Ev (F : Fr) (ρ : Operand → Value) : Prop := ∀ x v, ev F x = some v → ρ x = v
theorem Ev.ev {ρ : Operand → Value} (h : Ev F ρ) (hx : ev F x = some v) : ρ x = v := h x v hx
theorem Ev.evs {ρ : Operand → Value} (h : Ev F ρ) : ∀ {l : List Operand} {vs : List Value}, evs F l = some vs → l.map ρ = vs
  | [], _, hx => Option.some.inj hx
  | x :: l, vs, hx => by
    simp only [Ytmlmgipngbndgaa.evs] at hx
    split at hx
    · rename_i v us h1 h2
      obtain rfl := Option.some.inj hx
      rw [List.map_cons, h.ev h1, h.evs h2]
    · cases hx
theorem OQ.of {o : Oper} (h : ∀ D ρ w, Ev F ρ → Has c.w0 ⟨c.M, D⟩ H w → (execOp ρ o).run c.P w = .ok (.value v) w) : OQ c o F H v := by
  intro D a w ha hw
  rw [h D a.eval w (fun x v hx => ha.ev hx) hw]
  exact ⟨rfl, Ext.refl _⟩

theorem oq_move (hx : ev F x = some v) : OQ c ⟨d, .move x, ty, pos, af, g⟩ F H v := .of fun D a w ha _ => by
  simp [execOp, ha.ev hx, go_sem]
theorem oq_assign (hx : ev F x = some v) : OQ c ⟨d, .assign x, ty, pos, af, g⟩ F H v := .of fun D a w ha _ => by
  simp [execOp, ha.ev hx, go_sem]
theorem oq_pickT (hc : ev F z = some (.bool true)) (hx : ev F x = some v) : OQ c ⟨d, .pick z x y, ty, pos, af, g⟩ F H v := .of fun D a w ha _ => by
  simp [execOp, ha.ev hx, ha.ev hc, go_sem]
theorem oq_pickF (hc : ev F z = some (.bool false)) (hy : ev F y = some v) : OQ c ⟨d, .pick z x y, ty, pos, af, g⟩ F H v := .of fun D a w ha _ => by
  simp [execOp, ha.ev hy, ha.ev hc, go_sem]

theorem oq_add (hx : ev F x = some (.int .i64 m)) (hy : ev F y = some (.int .i64 n)) (hr : InR (m + n)) : OQ c ⟨d, .binOp .add t x y t', ty, pos, af, g⟩ F H (.int .i64 (m + n)) := .of fun D a w ha _ => by
  have := wrap_in hr
  simp [execOp, ha.ev hx, ha.ev hy, eqGuard, binOp, Op.intArith, go_sem, this]
theorem oq_sub (hx : ev F x = some (.int .i64 m)) (hy : ev F y = some (.int .i64 n)) (hr : InR (m - n)) : OQ c ⟨d, .binOp .sub t x y t', ty, pos, af, g⟩ F H (.int .i64 (m - n)) := .of fun D a w ha _ => by
  have := wrap_in hr
  simp [execOp, ha.ev hx, ha.ev hy, eqGuard, binOp, Op.intArith, go_sem, this]
theorem oq_mul (hx : ev F x = some (.int .i64 m)) (hy : ev F y = some (.int .i64 n)) (hr : InR (m * n)) : OQ c ⟨d, .binOp .mul t x y t', ty, pos, af, g⟩ F H (.int .i64 (m * n)) := .of fun D a w ha _ => by
  have := wrap_in hr
  simp [execOp, ha.ev hx, ha.ev hy, eqGuard, binOp, Op.intArith, go_sem, this]
theorem oq_quo (hx : ev F x = some (.int .i64 m)) (hy : ev F y = some (.int .i64 n)) (h0 : n ≠ 0) (hr : InR (m.tdiv n)) : OQ c ⟨d, .binOp .quo t x y t', ty, pos, af, g⟩ F H (.int .i64 (m.tdiv n)) := .of fun D a w ha _ => by
  have := wrap_in hr
  simp [execOp, ha.ev hx, ha.ev hy, eqGuard, binOp, Op.intDiv, go_sem, this, h0]
theorem oq_rem (hx : ev F x = some (.int .i64 m)) (hy : ev F y = some (.int .i64 n)) (h0 : n ≠ 0) : OQ c ⟨d, .binOp .rem t x y t', ty, pos, af, g⟩ F H (.int .i64 (m.tmod n)) := .of fun D a w ha _ => by
  simp [execOp, ha.ev hx, ha.ev hy, eqGuard, binOp, Op.intDiv, go_sem, h0]
theorem oq_lss {k : IntKind} (hx : ev F x = some (.int k m)) (hy : ev F y = some (.int k n)) : OQ c ⟨d, .binOp .lss t x y t', ty, pos, af, g⟩ F H (.bool (decide (m < n))) := .of fun D a w ha _ => by
  simp [execOp, ha.ev hx, ha.ev hy, eqGuard, binOp, Op.intCmp, go_sem]
theorem oq_leq {k : IntKind} (hx : ev F x = some (.int k m)) (hy : ev F y = some (.int k n)) : OQ c ⟨d, .binOp .leq t x y t', ty, pos, af, g⟩ F H (.bool (decide (m ≤ n))) := .of fun D a w ha _ => by
  simp [execOp, ha.ev hx, ha.ev hy, eqGuard, binOp, Op.intCmp, go_sem]
theorem oq_gtr {k : IntKind} (hx : ev F x = some (.int k m)) (hy : ev F y = some (.int k n)) : OQ c ⟨d, .binOp .gtr t x y t', ty, pos, af, g⟩ F H (.bool (decide (n < m))) := .of fun D a w ha _ => by
  simp [execOp, ha.ev hx, ha.ev hy, eqGuard, binOp, Op.intCmp, go_sem]
theorem oq_geq {k : IntKind} (hx : ev F x = some (.int k m)) (hy : ev F y = some (.int k n)) : OQ c ⟨d, .binOp .geq t x y t', ty, pos, af, g⟩ F H (.bool (decide (n ≤ m))) := .of fun D a w ha _ => by
  simp [execOp, ha.ev hx, ha.ev hy, eqGuard, binOp, Op.intCmp, go_sem]
theorem oq_eql {k : IntKind} (hx : ev F x = some (.int k m)) (hy : ev F y = some (.int k n)) : OQ c ⟨d, .binOp .eql t x y t', ty, pos, af, g⟩ F H (.bool (decide (m = n))) := .of fun D a w ha _ => by
  have : (m == n) = decide (m = n) := rfl
  simp [execOp, ha.ev hx, ha.ev hy, eqGuard, binOp, Op.intCmp, go_sem, this]
theorem oq_neq {k : IntKind} (hx : ev F x = some (.int k m)) (hy : ev F y = some (.int k n)) : OQ c ⟨d, .binOp .neq t x y t', ty, pos, af, g⟩ F H (.bool (!decide (m = n))) := .of fun D a w ha _ => by
  have : (m != n) = !decide (m = n) := rfl
  simp [execOp, ha.ev hx, ha.ev hy, eqGuard, binOp, Op.intCmp, go_sem, this]
theorem oq_neg (hx : ev F x = some (.int .i64 m)) (hr : InR (-m)) : OQ c ⟨d, .unOp .neg t x, ty, pos, af, g⟩ F H (.int .i64 (-m)) := .of fun D a w ha _ => by
  have := wrap_in hr
  simp [execOp, ha.ev hx, Op.unary, Op.intArith, go_sem, this]
theorem oq_not {b : Bool} (hx : ev F x = some (.bool b)) : OQ c ⟨d, .unOp .not t x, ty, pos, af, g⟩ F H (.bool (!b)) := .of fun D a w ha _ => by
  simp [execOp, ha.ev hx, Op.unary, go_sem]
theorem oq_extract {vs : Array Value} {i : Nat} (hx : ev F x = some (.tuple vs)) (hi : vs[i]? = some v) : OQ c ⟨d, .extract x i, ty, pos, af, g⟩ F H v := .of fun D a w ha _ => by
  simp [execOp, ha.ev hx, Instr.extract, go_sem, hi]
theorem oq_nilCheck {p : Addr} (hx : ev F x = some (.pointer (some p))) : OQ c ⟨d, .nilCheck x, ty, pos, af, g⟩ F H (.pointer (some p)) := .of fun D a w ha _ => by
  simp [execOp, ha.ev hx, go_sem]
theorem oq_len {A : Option Addr} {k cap e s0 : Nat} {a0 : Bool} {z0 : List Value} (ht : tyAt c.tys t = some ⟨a0, s0, z0, .slice e⟩) (hx : ev F x = some (.slice A k cap)) :
    OQ c ⟨d, .call ⟨.builtin .len, #[x], #[t]⟩, ty, pos, af, g⟩ F H (.int .i64 k) := .of fun D a w ha _ => by
  have h := (c.ty ht).kind
  have h' := h w
  simp [execOp, resolve, invoke, builtin, ha.ev hx, Builtin.len_, go_sem, h', goInt]
theorem oq_max2 (hx : ev F x = some (.int .i64 m)) (hy : ev F y = some (.int .i64 n)) {T : Array TypeId} : OQ c ⟨d, .call ⟨.builtin .max, #[x, y], T⟩, ty, pos, af, g⟩ F H (.int .i64 (max m n)) := .of fun D a w ha _ => by
  have h := run_max2 (P := c.P) T ty m n w
  simp [execOp, resolve, invoke, builtin, ha.ev hx, ha.ev hy, Sem.run_bind, Sem.run_pure, h, Result.andThen]
theorem oq_min2 (hx : ev F x = some (.int .i64 m)) (hy : ev F y = some (.int .i64 n)) {T : Array TypeId} : OQ c ⟨d, .call ⟨.builtin .min, #[x, y], T⟩, ty, pos, af, g⟩ F H (.int .i64 (min m n)) := .of fun D a w ha _ => by
  have h := run_min2 (P := c.P) T ty m n w
  simp [execOp, resolve, invoke, builtin, ha.ev hx, ha.ev hy, Sem.run_bind, Sem.run_pure, h, Result.andThen]
theorem oq_max3 {k : Int} (hx : ev F x = some (.int .i64 m)) (hy : ev F y = some (.int .i64 n)) (hz : ev F z = some (.int .i64 k)) {T : Array TypeId} : OQ c ⟨d, .call ⟨.builtin .max, #[x, y, z], T⟩, ty, pos, af, g⟩ F H (.int .i64 (max (max m n) k)) := .of fun D a w ha _ => by
  have h := run_max3 (P := c.P) T ty m n k w
  simp [execOp, resolve, invoke, builtin, ha.ev hx, ha.ev hy, ha.ev hz, Sem.run_bind, Sem.run_pure, h, Result.andThen]
theorem oq_min3 {k : Int} (hx : ev F x = some (.int .i64 m)) (hy : ev F y = some (.int .i64 n)) (hz : ev F z = some (.int .i64 k)) {T : Array TypeId} : OQ c ⟨d, .call ⟨.builtin .min, #[x, y, z], T⟩, ty, pos, af, g⟩ F H (.int .i64 (min (min m n) k)) := .of fun D a w ha _ => by
  have h := run_min3 (P := c.P) T ty m n k w
  simp [execOp, resolve, invoke, builtin, ha.ev hx, ha.ev hy, ha.ev hz, Sem.run_bind, Sem.run_pure, h, Result.andThen]

theorem add_eq (b o n : Nat) : Addr.add ⟨b, o, none⟩ n = ⟨b, o + n, none⟩ := by
  unfold Addr.add
  split
  · rename_i h; subst h; rfl
  · rfl

theorem oq_fieldAddr {a0 : Bool} {s0 : Nat} {z0 : List Value} {fs : List (Nat × Nat × Bool)} {f off k : Nat} {gg : Bool} {b o : Nat} (ht : tyAt c.tys t = some ⟨a0, s0, z0, .struct fs⟩) (hf : fs[f]? = some (off, k, gg)) (h0 : Nat.beq k 0 = false)
    (hx : ev F x = some (.pointer (some ⟨b, o, none⟩))) : OQ c ⟨d, .fieldAddr t x f, ty, pos, af, g⟩ F H (.pointer (some ⟨b, o + off, none⟩)) := .of fun D a w ha _ => by
  have h := (c.ty ht).kind
  obtain ⟨ds, h1, _, h2⟩ := h
  obtain ⟨dd, h3, h4, h5, h6⟩ := h2 f off k gg hf
  have hne : k ≠ 0 := fun e => by subst e; cases h0
  simp [execOp, ha.ev hx, Instr.fieldAt, Instr.sureAddr, fieldPlace, go_sem, h1, h3, h4, h5, hne, add_eq]
theorem oq_field {a0 : Bool} {s0 : Nat} {z0 : List Value} {fs : List (Nat × Nat × Bool)} {f off k : Nat} {cs : Array Value} (ht : tyAt c.tys t = some ⟨a0, s0, z0, .struct fs⟩) (hf : fs[f]? = some (off, k, false))
    (hx : ev F x = some (.agg cs)) (hv : cs[off]? = some v) : OQ c ⟨d, .field t x f, ty, pos, af, g⟩ F H v := .of fun D a w ha _ => by
  have h := (c.ty ht).kind
  obtain ⟨ds, h1, _, h2⟩ := h
  obtain ⟨dd, h3, h4, h5, h6⟩ := h2 f off k false hf
  simp [execOp, ha.ev hx, Instr.field, go_sem, h1, h3, h4, h5, h6, part, asAgg, hv]
theorem oq_fieldAgg {a0 : Bool} {s0 : Nat} {z0 : List Value} {fs : List (Nat × Nat × Bool)} {f off k : Nat} {l vs : List Value} (ht : tyAt c.tys t = some ⟨a0, s0, z0, .struct fs⟩) (hf : fs[f]? = some (off, k, true))
    (hx : ev F x = some (.agg ⟨l⟩)) (hv : Norm ((l.drop off).take k) vs) : OQ c ⟨d, .field t x f, ty, pos, af, g⟩ F H (.agg ⟨vs⟩) := .of fun D a w ha _ => by
  have h := (c.ty ht).kind
  obtain ⟨ds, h1, _, h2⟩ := h
  obtain ⟨dd, h3, h4, h5, h6⟩ := h2 f off k true hf
  have hv' := hv.eq
  simp [execOp, ha.ev hx, Instr.field, go_sem, h1, h3, h4, h5, h6, part, asAgg, hv']
theorem oq_indexAddr {a0 a1 : Bool} {s0 s1 : Nat} {z0 z1 : List Value} {k1 : TyK} {e b o k cap : Nat} {i : Int} (ht : tyAt c.tys t = some ⟨a0, s0, z0, .slice e⟩) (he : tyAt c.tys e = some ⟨a1, s1, z1, k1⟩)
    (hx : ev F x = some (.slice (some ⟨b, o, none⟩) k cap)) (hy : ev F y = some (.int .i64 i)) (h0 : 0 ≤ i) (h1 : i < k) : OQ c ⟨d, .indexAddr t x y, ty, pos, af, g⟩ F H (.pointer (some ⟨b, o + i.toNat * s1, none⟩)) := .of fun D a w ha _ => by
  have h := (c.ty ht).kind
  have h2 := h w
  have h3 := (c.ty he).size w
  simp [execOp, ha.ev hx, ha.ev hy, Instr.indexAt, go_sem, h2, h3, asIntOf, h0, h1, add_eq]
theorem oq_indexAddrN {a0 a1 : Bool} {s0 s1 : Nat} {z0 z1 : List Value} {k1 : TyK} {e b o k cap : Nat} {i : Nat} (ht : tyAt c.tys t = some ⟨a0, s0, z0, .slice e⟩) (he : tyAt c.tys e = some ⟨a1, s1, z1, k1⟩)
    (hx : ev F x = some (.slice (some ⟨b, o, none⟩) k cap)) (hy : ev F y = some (.int .i64 (i : Int))) (h1 : i < k) : OQ c ⟨d, .indexAddr t x y, ty, pos, af, g⟩ F H (.pointer (some ⟨b, o + i * s1, none⟩)) := by
  have := oq_indexAddr (d := d) (ty := ty) (pos := pos) (af := af) (g := g) (H := H) ht he hx hy (by omega) (by omega)
  simpa using this
theorem oq_indexAddrA {a0 a1 : Bool} {s0 s1 : Nat} {z0 z1 : List Value} {k1 : TyK} {e b o k : Nat} {i : Int} (ht : tyAt c.tys t = some ⟨a0, s0, z0, .array k e⟩) (he : tyAt c.tys e = some ⟨a1, s1, z1, k1⟩)
    (hx : ev F x = some (.pointer (some ⟨b, o, none⟩))) (hy : ev F y = some (.int .i64 i)) (h0 : 0 ≤ i) (h1 : i < k) : OQ c ⟨d, .indexAddr t x y, ty, pos, af, g⟩ F H (.pointer (some ⟨b, o + i.toNat * s1, none⟩)) := .of fun D a w ha _ => by
  have h := (c.ty ht).kind
  have h2 := h w
  have h3 := (c.ty he).size w
  simp [execOp, ha.ev hx, ha.ev hy, Instr.indexAt, Instr.sureAddr, go_sem, h2, h3, asIntOf, h0, h1, add_eq]
theorem oq_index {a0 : Bool} {s0 s1 : Nat} {z0 z1 : List Value} {k1 : TyK} {e k : Nat} {i : Int} {cs : Array Value} (ht : tyAt c.tys t = some ⟨a0, s0, z0, .array k e⟩) (he : tyAt c.tys e = some ⟨false, s1, z1, k1⟩)
    (hx : ev F x = some (.agg cs)) (hy : ev F y = some (.int .i64 i)) (hv : cs[i.toNat * s1]? = some v) (h0 : 0 ≤ i) (h1 : i < k) : OQ c ⟨d, .index t x y, ty, pos, af, g⟩ F H v := .of fun D a w ha _ => by
  have h := (c.ty ht).kind
  have h2 := h w
  have h3 := (c.ty he).size w
  have h4 := (c.ty he).agg w
  simp [execOp, ha.ev hx, ha.ev hy, Instr.index, go_sem, h2, h3, h4, asIntOf, h0, h1, part, hv]
theorem oq_indexAgg {a0 : Bool} {s0 s1 : Nat} {z0 z1 : List Value} {k1 : TyK} {e k : Nat} {i : Int} {l vs : List Value} (ht : tyAt c.tys t = some ⟨a0, s0, z0, .array k e⟩) (he : tyAt c.tys e = some ⟨true, s1, z1, k1⟩)
    (hx : ev F x = some (.agg ⟨l⟩)) (hy : ev F y = some (.int .i64 i)) (hv : Norm ((l.drop (i.toNat * s1)).take s1) vs) (h0 : 0 ≤ i) (h1 : i < k) : OQ c ⟨d, .index t x y, ty, pos, af, g⟩ F H (.agg ⟨vs⟩) := .of fun D a w ha _ => by
  have h := (c.ty ht).kind
  have h2 := h w
  have h3 := (c.ty he).size w
  have h4 := (c.ty he).agg w
  have hv' := hv.eq
  simp [execOp, ha.ev hx, ha.ev hy, Instr.index, go_sem, h2, h3, h4, asIntOf, h0, h1, part, hv']
theorem oq_makeFunc {fn : Fn} {cap : Array Operand} {vs : List Value} (hc : evs F cap.toList = some vs) : OQ c ⟨d, .makeFunc fn #[] cap, ty, pos, af, g⟩ F H (.func fn #[] vs.toArray) := .of fun D a w ha _ => by
  have := ha.evs hc
  have h2 : cap.map a = vs.toArray := by rw [← this]; cases cap; simp
  simp [execOp, Instr.makeFunc, go_sem, h2]
theorem oq_conv64 {a0 a1 : Bool} {s0 s1 : Nat} {z0 z1 : List Value} {k : IntKind} (ht : tyAt c.tys t = some ⟨a0, s0, z0, .int k⟩) (ht' : tyAt c.tys t' = some ⟨a1, s1, z1, .int .i64⟩) (hx : ev F x = some (.int k m)) (hr : InR m) :
    OQ c ⟨d, .convert t t' x, ty, pos, af, g⟩ F H (.int .i64 m) := .of fun D a w ha _ => by
  have h := (c.ty ht).kind
  have h2 := h w
  have h' := (c.ty ht').kind
  have h3 := h' w
  have := wrap_in hr
  simp [execOp, ha.ev hx, convert, go_sem, h2, h3, Conv.intToInt, this]

theorem run_loadCells_eq (P : Program) (w : World) (b o : Nat) (vs : List Value) (h : ∀ j v, vs[j]? = some v → w.cell? ⟨b, o + j, none⟩ = some v) : (loadCells ⟨b, o, none⟩ vs.length).run P w = .ok vs.toArray w := by
  unfold loadCells
  rw [run_loadCellsFrom P w b o vs 0 #[] (fun j v hj => by rw [Nat.zero_add]; exact h j v hj)]
  simp
theorem oq_load {s0 : Nat} {z0 : List Value} {k0 : TyK} {p : Addr} (ht : tyAt c.tys t = some ⟨false, s0, z0, k0⟩) (hx : ev F x = some (.pointer (some p))) (hv : Rd c H p v) : OQ c ⟨d, .load t x, ty, pos, af, g⟩ F H v := .of fun D a w ha hw => by
  have h1 := (c.ty ht).agg w
  have h2 := run_load c.P p w v (hv D w hw)
  simp [execOp, ha.ev hx, Instr.loadAt, Instr.sureAddr, loadVar, Sem.run_bind, Sem.run_pure, h1, h2, Result.andThen]
theorem oq_loadAgg {z0 : List Value} {k0 : TyK} {b o k : Nat} {vs : List Value} (ht : tyAt c.tys t = some ⟨true, k, z0, k0⟩) (hx : ev F x = some (.pointer (some ⟨b, o, none⟩))) (hr : Rdn c H b o k vs) :
    OQ c ⟨d, .load t x, ty, pos, af, g⟩ F H (.agg ⟨vs⟩) := .of fun D a w ha hw => by
  obtain ⟨hv, hl⟩ := hr.spec
  have h1 := (c.ty ht).agg w
  have h3 := (c.ty ht).size w
  rw [← hl] at h3
  have h2 := run_loadCells_eq c.P w b o vs (fun j v hj => Rds.at_ hw vs o hv j v hj)
  simp [execOp, ha.ev hx, Instr.loadAt, Instr.sureAddr, loadVar, Sem.run_bind, Sem.run_pure, h1, h2, h3, Result.andThen]


/-! Composite values -/
def cellsL : Value → List Value
  | .agg c => c.toList
  | v => [v]
theorem cellsL_eq (v : Value) : v.cells = (cellsL v).toArray := by cases v <;> simp [Value.cells, cellsL]
def evp (F : Fr) : List (Nat × Operand) → Option (List (Nat × Value))
  | [] => some []
  | (i, x) :: l => match ev F x, evp F l with
    | some v, some vs => some ((i, v) :: vs)
    | _, _ => none
theorem Ev.evp {ρ : Operand → Value} (h : Ev F ρ) : ∀ {l : List (Nat × Operand)} {vs : List (Nat × Value)}, evp F l = some vs → l.map (fun p => (p.1, ρ p.2)) = vs
  | [], _, hx => Option.some.inj hx
  | (i, x) :: l, vs, hx => by
    simp only [Ytmlmgipngbndgaa.evp] at hx
    split at hx
    · rename_i v us h1 h2
      obtain rfl := Option.some.inj hx
      rw [List.map_cons, h.ev h1, h.evp h2]
    · cases hx
/-- Cells written one behind the other. -/
def setL : List Value → Nat → List Value → List Value
  | C, _, [] => C
  | C, o, v :: l => setL (C.set o v) (o + 1) l
theorem setL_length : ∀ (l : List Value) (C : List Value) (o : Nat), (setL C o l).length = C.length
  | [], _, _ => rfl
  | v :: l, C, o => by simp only [setL]; rw [setL_length l]; simp
def fillL (place : Nat → Option (Nat × Nat)) : List Value → List (Nat × Value) → Option (List Value)
  | C, [] => some C
  | C, (i, v) :: r => match place i with
    | none => none
    | some (off, n) => match Nat.beq (cellsL v).length n && Nat.ble (off + n) C.length with
      | true => fillL place (setL C off (cellsL v)) r
      | false => none
theorem foldl_setL : ∀ (vs : List Value) (k off : Nat) (C : List Value), ((vs.zipIdx k).foldl (fun (cs : Array Value) (p : Value × Nat) => cs.setIfInBounds (off + p.2) p.1) ⟨C⟩) = ⟨setL C (off + k) vs⟩
  | [], _, _, _ => rfl
  | v :: vs, k, off, C => by
    rw [List.zipIdx_cons, List.foldl_cons]
    have := foldl_setL vs (k + 1) off (C.set (off + k) v)
    simp only [setL]
    rw [← Nat.add_assoc] at this
    rw [← this]
    congr 1
    simp
theorem fill_of (place : Nat → Option (Nat × Nat)) : ∀ (parts : List (Nat × Value)) (C r : List Value), fillL place C parts = some r → Instr.fill place ⟨C⟩ parts = some ⟨r⟩
  | [], C, r, h => by simp only [fillL] at h; obtain rfl := Option.some.inj h; rfl
  | (i, v) :: parts, C, r, h => by
    unfold fillL at h
    unfold Instr.fill
    cases hp : place i with
    | none => rw [hp] at h; cases h
    | some q =>
      obtain ⟨off, n⟩ := q
      rw [hp] at h
      simp only at h ⊢
      split at h
      · rename_i hb
        simp only [Bool.and_eq_true, Nat.beq_eq, Nat.ble_eq] at hb
        have hs : v.cells.size = n := by rw [cellsL_eq]; simpa using hb.1
        rw [hs]
        have hz : ¬ (off + n > C.length) := by omega
        simp only [ne_eq, not_true_eq_false, decide_false, Bool.false_or, List.size_toArray, hz, Bool.false_eq_true, if_false]
        have h2 := foldl_setL (cellsL v) 0 off C
        have h3 : (v.cells.zipIdx.foldl (fun (cs : Array Value) (p : Value × Nat) => cs.setIfInBounds (off + p.2) p.1) ⟨C⟩) = ⟨setL C off (cellsL v)⟩ := by
          rw [cellsL_eq, ← Array.foldl_toList]
          simpa using h2
        have h4 := fill_of place parts (setL C off (cellsL v)) r h
        rw [← h3] at h4
        exact h4
      · cases h

theorem run_mapM_ok {α β : Type} (P : Program) (w : World) (f : α → Sem β) : ∀ (l : List α) (r : List β), l.length = r.length → (∀ (i : Nat) x y, l[i]? = some x → r[i]? = some y → (f x).run P w = .ok y w) → (l.mapM f).run P w = .ok r w
  | [], [], _, _ => by simp [Sem.run_pure]
  | [], _ :: _, h, _ => by simp at h
  | _ :: _, [], h, _ => by simp at h
  | x :: l, y :: r, hl, h => by
    have h0 := h 0 x y rfl rfl
    have h1 := run_mapM_ok P w f l r (by simpa using hl) (fun i r' v' hr hv => h (i + 1) r' v' (by simpa using hr) (by simpa using hv))
    simp [List.mapM_cons, Sem.run_bind, Sem.run_pure, h0, h1, Result.andThen]

def placeS (fs : List (Nat × Nat × Bool)) (i : Nat) : Option (Nat × Nat) := match fs[i]? with | some (o, n, _) => some (o, n) | none => none
theorem oq_build {a0 : Bool} {s0 : Nat} {z0 r l : List Value} {fs : List (Nat × Nat × Bool)} {parts : List (Nat × Operand)} {vs : List (Nat × Value)} (ht : tyAt c.tys t = some ⟨a0, s0, z0, .struct fs⟩) (hp : evp F parts = some vs)
    (hf : fillL (placeS fs) z0 vs = some l) (hn : Norm l r) : OQ c ⟨d, .build t ⟨parts⟩, ty, pos, af, g⟩ F H (.agg ⟨r⟩) := .of fun D a w ha _ => by
  have h := (c.ty ht).kind
  obtain ⟨ds, h1, hl, h2⟩ := h
  obtain ⟨zz, h3, h4⟩ := (c.ty ht).zero w
  have h5 := ha.evp hp
  have h6 := fill_of _ _ _ _ hf
  have hm : (ds.toList.mapM fun f => (do pure (f.offset, ← sizeOf f.type) : Sem (Nat × Nat))).run c.P w = .ok (fs.map fun p => (p.1, p.2.1)) w := by
    refine run_mapM_ok c.P w _ _ _ (by simp [hl]) (fun i x y hx hy => ?_)
    simp only [List.getElem?_map, Option.map_eq_some_iff] at hy
    obtain ⟨⟨o, n, gg⟩, hy, rfl⟩ := hy
    obtain ⟨dd, k1, k2, k3, _⟩ := h2 i o n gg hy
    obtain rfl : dd = x := by simpa [k1] using hx
    simp [Sem.run_bind, Sem.run_pure, k3, k2, Result.andThen]
  have hpl : (fun i => ((fs.map fun p => (p.1, p.2.1)).toArray)[i]?) = placeS fs := by
    funext i
    simp only [placeS, List.getElem?_toArray, List.getElem?_map]
    cases fs[i]? <;> rfl
  have hq := h5
  simp only [execOp, Instr.build, Sem.run_bind, Sem.run_pure, h3, h1 w, Result.andThen, Array.mapM_eq_mapM_toList, map_eq_pure_bind, hm]
  have h7 : (Array.map (fun x => (x.fst, a x.snd)) (⟨parts⟩ : Array (Nat × Operand))).toList = vs := by simpa using h5
  rw [h4]
  simp only [h7, hpl, h6, Sem.run_pure, Result.andThen, hn.eq]
theorem oq_buildA {a0 a1 : Bool} {s0 s1 n0 e : Nat} {z0 z1 r l : List Value} {k1 : TyK} {parts : List (Nat × Operand)} {vs : List (Nat × Value)} (ht : tyAt c.tys t = some ⟨a0, s0, z0, .array n0 e⟩) (he : tyAt c.tys e = some ⟨a1, s1, z1, k1⟩) (hp : evp F parts = some vs)
    (hf : fillL (fun i => some (i * s1, s1)) z0 vs = some l) (hn : Norm l r) : OQ c ⟨d, .build t ⟨parts⟩, ty, pos, af, g⟩ F H (.agg ⟨r⟩) := .of fun D a w ha _ => by
  have h1 := (c.ty ht).kind w
  obtain ⟨zz, h3, h4⟩ := (c.ty ht).zero w
  have h2 := (c.ty he).size w
  have h5 := ha.evp hp
  have h6 := fill_of _ _ _ _ hf
  simp only [execOp, Instr.build, Sem.run_bind, Sem.run_pure, h3, h1, h2, Result.andThen]
  have h7 : (Array.map (fun x => (x.fst, a x.snd)) (⟨parts⟩ : Array (Nat × Operand))).toList = vs := by simpa using h5
  rw [h4]
  simp only [h7, h6, Sem.run_pure, Result.andThen, hn.eq]

/-- A call, by the callee's contract. -/
theorem oq_call {f : Operand} {args : Array Operand} {T : Array TypeId} {k : Nat} {fst cap vs : List Value} (hf : ev F f = some (.func (.func k) ⟨fst⟩ ⟨cap⟩)) (hc : ∀ (a : Array Value) (w : World), (callFunc k a).run c.P w = .ok (.enter k a) w)
    (ha : evs F args.toList = some vs) (h : ∀ D w, Has c.w0 ⟨c.M, D⟩ H w → Calls c.P k ⟨fst ++ vs ++ cap⟩ w fun e w' => e = .returned v ∧ Ext w w') : OQ c ⟨d, .call ⟨.value f, args, T⟩, ty, pos, af, g⟩ F H v := by
  intro D a w hA hw
  have h1 := hA.evs ha
  have h2 : args.map a.eval = vs.toArray := by rw [← h1]; cases args; simp
  have : (execOp a.eval ⟨d, .call ⟨.value f, args, T⟩, ty, pos, af, g⟩).run c.P w = .ok (.enter k ⟨fst ++ vs ++ cap⟩) w := by
    simp [execOp, resolve, invoke, hA.ev hf, Deferred.ofValue, Sem.run_bind, Sem.run_pure, h2, Result.andThen, hc]
  rw [this]
  exact (h D w hw).mono fun e w' he => ⟨v, he.1, rfl, he.2⟩

/-- What an operation yields, and on what condition: the operations that look at the frame alone. -/
def cmpV (op : BinOp) (k : IntKind) (m n : Int) : Option (Value × Prop) :=
  match op with
  | .lss => some (.bool (decide (m < n)), True)
  | .leq => some (.bool (decide (m ≤ n)), True)
  | .gtr => some (.bool (decide (n < m)), True)
  | .geq => some (.bool (decide (n ≤ m)), True)
  | .eql => some (.bool (decide (m = n)), True)
  | .neq => some (.bool (!decide (m = n)), True)
  | .add => match k with | .i64 => some (.int .i64 (m + n), InR (m + n)) | _ => none
  | .sub => match k with | .i64 => some (.int .i64 (m - n), InR (m - n)) | _ => none
  | .mul => match k with | .i64 => some (.int .i64 (m * n), InR (m * n)) | _ => none
  | .quo => match k with | .i64 => some (.int .i64 (m.tdiv n), n ≠ 0 ∧ InR (m.tdiv n)) | _ => none
  | .rem => match k with | .i64 => some (.int .i64 (m.tmod n), n ≠ 0) | _ => none
  | _ => none
def builtinV (tys : List (Nat × TyI)) (F : Fr) (b : Builtin) (args : List Operand) (T : List TypeId) : Option (Value × Prop) :=
  match b, args with
  | .len, [x] => match T with
    | [t] => match tyAt tys t with
      | some ⟨_, _, _, .slice _⟩ => match ev F x with
        | some (.slice _ k _) => some (.int .i64 (k : Int), True)
        | _ => none
      | _ => none
    | _ => none
  | .max, [x, y] => match ev F x, ev F y with | some (.int .i64 m), some (.int .i64 n) => some (.int .i64 (max m n), True) | _, _ => none
  | .min, [x, y] => match ev F x, ev F y with | some (.int .i64 m), some (.int .i64 n) => some (.int .i64 (min m n), True) | _, _ => none
  | .max, [x, y, z] => match ev F x, ev F y, ev F z with | some (.int .i64 m), some (.int .i64 n), some (.int .i64 k) => some (.int .i64 (max (max m n) k), True) | _, _, _ => none
  | .min, [x, y, z] => match ev F x, ev F y, ev F z with | some (.int .i64 m), some (.int .i64 n), some (.int .i64 k) => some (.int .i64 (min (min m n) k), True) | _, _, _ => none
  | _, _ => none
def opV (tys : List (Nat × TyI)) (F : Fr) (o : Op) : Option (Value × Prop) :=
  match o with
  | .move x => match ev F x with | some v => some (v, True) | none => none
  | .assign x => match ev F x with | some v => some (v, True) | none => none
  | .pick z x y => match ev F z with
    | some (.bool true) => match ev F x with | some v => some (v, True) | none => none
    | some (.bool false) => match ev F y with | some v => some (v, True) | none => none
    | _ => none
  | .binOp op _ x y _ => match ev F x, ev F y with
    | some (.int k m), some (.int k' n) => match decEq k' k with | .isTrue _ => cmpV op k m n | .isFalse _ => none
    | _, _ => none
  | .unOp .neg _ x => match ev F x with | some (.int .i64 m) => some (.int .i64 (-m), InR (-m)) | _ => none
  | .unOp .not _ x => match ev F x with | some (.bool b) => some (.bool (!b), True) | _ => none
  | .extract x i => match ev F x with | some (.tuple vs) => (match vs[i]? with | some v => some (v, True) | none => none) | _ => none
  | .nilCheck x => match ev F x with | some (.pointer (some p)) => some (.pointer (some p), True) | _ => none
  | .fieldAddr t x f => match tyAt tys t with
    | some ⟨_, _, _, .struct fs⟩ => match fs[f]? with
      | some (off, k, _) => match h : Nat.beq k 0 with
        | false => match ev F x with | some (.pointer (some ⟨b, o, none⟩)) => some (.pointer (some ⟨b, o + off, none⟩), True) | _ => none
        | true => none
      | none => none
    | _ => none
  | .field t x f => match tyAt tys t with
    | some ⟨_, _, _, .struct fs⟩ => match fs[f]? with
      | some (off, _, false) => match ev F x with | some (.agg cs) => (match cs[off]? with | some v => some (v, True) | none => none) | _ => none
      | _ => none
    | _ => none
  | .indexAddr t x y => match tyAt tys t with
    | some ⟨_, _, _, .slice e⟩ => match tyAt tys e with
      | some ⟨_, s, _, _⟩ => match ev F x, ev F y with
        | some (.slice (some ⟨b, o, none⟩) k _), some (.int .i64 i) => some (.pointer (some ⟨b, o + i.toNat * s, none⟩), 0 ≤ i ∧ i < k)
        | _, _ => none
      | none => none
    | some ⟨_, _, _, .array k e⟩ => match tyAt tys e with
      | some ⟨_, s, _, _⟩ => match ev F x, ev F y with
        | some (.pointer (some ⟨b, o, none⟩)), some (.int .i64 i) => some (.pointer (some ⟨b, o + i.toNat * s, none⟩), 0 ≤ i ∧ i < k)
        | _, _ => none
      | none => none
    | _ => none
  | .index t x y => match tyAt tys t with
    | some ⟨_, _, _, .array k e⟩ => match tyAt tys e with
      | some ⟨false, s, _, _⟩ => match ev F x, ev F y with
        | some (.agg cs), some (.int .i64 i) => (match cs[i.toNat * s]? with | some v => some (v, 0 ≤ i ∧ i < k) | none => none)
        | _, _ => none
      | _ => none
    | _ => none
  | .makeFunc fn ⟨[]⟩ cap => match evs F cap.toList with | some vs => some (.func fn #[] ⟨vs⟩, True) | none => none
  | .convert t t' x => match tyAt tys t, tyAt tys t' with
    | some ⟨_, _, _, .int k⟩, some ⟨_, _, _, .int .i64⟩ => match ev F x with
      | some (.int k' m) => (match decEq k' k with | .isTrue _ => some (.int .i64 m, InR m) | .isFalse _ => none)
      | _ => none
    | _, _ => none
  | .call ⟨.builtin b, ⟨args⟩, ⟨T⟩⟩ => builtinV tys F b args T
  | _ => none
theorem oq_cmp {op : BinOp} {k : IntKind} {C : Prop} (hx : ev F x = some (.int k m)) (hy : ev F y = some (.int k n)) (h : cmpV op k m n = some (v, C)) (hC : C) : OQ c ⟨d, .binOp op t x y t', ty, pos, af, g⟩ F H v := by
  unfold cmpV at h
  cases op <;> simp only at h <;> first
    | (cases h; done)
    | (cases h; first
      | exact oq_lss ‹_› ‹_›
      | exact oq_leq ‹_› ‹_›
      | exact oq_gtr ‹_› ‹_›
      | exact oq_geq ‹_› ‹_›
      | exact oq_eql ‹_› ‹_›
      | exact oq_neq ‹_› ‹_›)
    | (cases k <;> simp only at h <;> first
      | (cases h; done)
      | (cases h; first
        | exact oq_add ‹_› ‹_› hC
        | exact oq_sub ‹_› ‹_› hC
        | exact oq_mul ‹_› ‹_› hC
        | exact oq_quo ‹_› ‹_› hC.1 hC.2
        | exact oq_rem ‹_› ‹_› hC))
theorem oq_builtin {b : Builtin} {args : List Operand} {T : List TypeId} {C : Prop} (h : builtinV c.tys F b args T = some (v, C)) (hC : C) : OQ c ⟨d, .call ⟨.builtin b, ⟨args⟩, ⟨T⟩⟩, ty, pos, af, g⟩ F H v := by
  unfold builtinV at h
  split at h
  all_goals (repeat' split at h)
  all_goals first
    | (cases h; done)
    | (cases h; first
      | exact oq_len ‹_› ‹_›
      | exact oq_max2 ‹_› ‹_›
      | exact oq_min2 ‹_› ‹_›
      | exact oq_max3 ‹_› ‹_› ‹_›
      | exact oq_min3 ‹_› ‹_› ‹_›)
set_option maxHeartbeats 4000000 in
theorem oq_fn {o : Oper} {C : Prop} (h : opV c.tys F o.op = some (v, C)) (hC : C) : OQ c o F H v := by
  obtain ⟨d, op, ty, pos, af, g⟩ := o
  simp only at h
  unfold opV at h
  split at h
  all_goals (repeat' split at h)
  all_goals first
    | (cases h; done)
    | exact oq_builtin h hC
    | (subst_vars; first
      | exact oq_cmp ‹_› ‹_› h hC
      | (cases h; first
        | exact oq_move ‹_›
        | exact oq_assign ‹_›
        | exact oq_pickT ‹_› ‹_›
        | exact oq_pickF ‹_› ‹_›
        | exact oq_neg ‹_› hC
        | exact oq_not ‹_›
        | exact oq_extract ‹_› ‹_›
        | exact oq_nilCheck ‹_›
        | exact oq_fieldAddr ‹_› ‹_› ‹_› ‹_›
        | exact oq_field ‹_› ‹_› ‹_› ‹_›
        | exact oq_indexAddr ‹_› ‹_› ‹_› ‹_› hC.1 hC.2
        | exact oq_indexAddrA ‹_› ‹_› ‹_› ‹_› hC.1 hC.2
        | exact oq_index ‹_› ‹_› ‹_› ‹_› ‹_› hC.1 hC.2
        | exact oq_makeFunc ‹_›
        | exact oq_conv64 ‹_› ‹_› ‹_› hC))
theorem oq_id {o : Oper} (h : OQ c o F H v) : OQ c o F H v := h
theorem rd_id {p : Addr} (h : Rd c H p v) : Rd c H p v := h
end
end Go.Proofs.Ytmlmgipngbndgaa
