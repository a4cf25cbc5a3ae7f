/- Arguments that are numbers, structs of numbers, and slices of those: what they hold. -/
import Derived.Test.YtmlmgipngbndgaaSl11
import Derived.ProofKit
import Derived.Lib.SmallJoins
namespace Go.Proofs.Ytmlmgipngbndgaa
open Go.ChangeShapes Go.WideShapes Go.ChangeAt Go.RowKit
set_option linter.unusedVariables false
set_option linter.unusedSimpArgs false

inductive Lf where
  | int (k : IntKind)
  | bool
def LfOk : Lf → Value → Prop
  | .int k, v => ∃ z, v = .int k z ∧ (Lit.int k z).wf = true
  | .bool, v => ∃ b, v = .bool b
def LfsOk : List Lf → List Value → Prop
  | [], [] => True
  | k :: ks, v :: vs => LfOk k v ∧ LfsOk ks vs
  | _, _ => False
theorem LfsOk.len : ∀ {ks : List Lf} {vs : List Value}, LfsOk ks vs → vs.length = ks.length
  | [], [], _ => rfl
  | k :: ks, v :: vs, h => by simp [LfsOk.len h.2]
  | [], _ :: _, h => h.elim
  | _ :: _, [], h => h.elim
theorem LfsOk.nil {vs : List Value} (h : LfsOk [] vs) : vs = [] := by cases vs with | nil => rfl | cons _ _ => exact h.elim
theorem LfsOk.int {k : IntKind} {ks : List Lf} {vs : List Value} (h : LfsOk (.int k :: ks) vs) : ∃ z us, vs = .int k z :: us ∧ (Lit.int k z).wf = true ∧ LfsOk ks us := by
  cases vs with
  | nil => exact h.elim
  | cons v vs => obtain ⟨⟨z, rfl, hw⟩, h2⟩ := h; exact ⟨z, vs, rfl, hw, h2⟩
theorem LfsOk.bool {ks : List Lf} {vs : List Value} (h : LfsOk (.bool :: ks) vs) : ∃ b us, vs = .bool b :: us ∧ LfsOk ks us := by
  cases vs with
  | nil => exact h.elim
  | cons v vs => obtain ⟨⟨z, rfl⟩, h2⟩ := h; exact ⟨z, vs, rfl, h2⟩
theorem LfsOk.append : ∀ {ks ls : List Lf} {vs us : List Value}, LfsOk ks vs → LfsOk ls us → LfsOk (ks ++ ls) (vs ++ us)
  | [], _, [], _, _, h => h
  | _ :: _, _, _ :: _, _, h, k => ⟨h.1, LfsOk.append h.2 k⟩
  | [], _, _ :: _, _, h, _ => h.elim
  | _ :: _, _, [], _, h, _ => h.elim

def ksFs (P : Program) (rec_ : TypeId → Option (List Lf)) : List Field → Nat → Option (List Lf)
  | [], _ => some []
  | f :: fs, o => match Nat.beq f.offset o, rec_ f.type, ksFs P rec_ fs (o + P.cellsOf f.type) with
    | true, some ks, some ls => match Nat.beq (P.cellsOf f.type) ks.length with
      | true => some (ks ++ ls)
      | false => none
    | _, _, _ => none
def ksOf (P : Program) : Nat → TypeId → Option (List Lf)
  | 0, _ => none
  | n + 1, t => match P.underlying t with
    | some (.int k) => some [.int k]
    | some .bool => some [.bool]
    | some (.struct fs) => match ksFs P (ksOf P n) fs.toList 0 with
      | some ks => match Nat.beq (P.cellsOf t) ks.length with
        | true => some ks
        | false => none
      | none => none
    | _ => none
section
variable {H : Type} {enc : TypeId × Value → H} {P : Program} {W : World} {base : Nat} {spare : Nat → Bool} {held : Bool}
theorem ksFs_ok {rec_ : TypeId → Option (List Lf)} {m : Nat} (hr : ∀ {t : TypeId} {ks : List Lf} {cs : List Value} {x : DataW H × List MemPlace}, rec_ t = some ks → DataW.trod enc P W base spare held m t cs = some x → LfsOk ks cs) {cs : List Value} :
    ∀ {fs : List Field} {o : Nat} {ks : List Lf}, ksFs P rec_ fs o = some ks → (∀ f ∈ fs, ∃ y, DataW.trod enc P W base spare held m f.type ((cs.drop f.offset).take (P.cellsOf f.type)) = some y) → o + ks.length ≤ cs.length → LfsOk ks ((cs.drop o).take ks.length)
  | [], o, ks, h, _, _ => by
    obtain rfl := Option.some.inj h
    simp [LfsOk]
  | f :: fs, o, ks, h, hy, hl => by
    unfold ksFs at h
    split at h
    · rename_i k1 l1 h1 h2 h3
      split at h
      · rename_i h4
        obtain rfl := Option.some.inj h
        have ho := Nat.eq_of_beq_eq_true h1
        have hc := Nat.eq_of_beq_eq_true h4
        obtain ⟨y, hy0⟩ := hy f (List.mem_cons_self ..)
        rw [ho, hc] at hy0
        have a1 := hr h2 hy0
        rw [hc] at h3
        simp only [List.length_append] at hl
        have a2 := ksFs_ok hr h3 (fun g hg => hy g (List.mem_cons_of_mem _ hg)) (by omega)
        have e : (cs.drop o).take (k1 ++ l1).length = (cs.drop o).take k1.length ++ (cs.drop (o + k1.length)).take l1.length := by
          rw [List.length_append, List.take_add, List.drop_drop]
        rw [e]
        exact a1.append a2
      · cases h
    · cases h
theorem ksOf_ok : ∀ {n : Nat} {t : TypeId} {ks : List Lf} {m : Nat} {cs : List Value} {x : DataW H × List MemPlace}, ksOf P n t = some ks → DataW.trod enc P W base spare held m t cs = some x → LfsOk ks cs
  | 0, _, _, _, _, _, h, _ => by cases h
  | n + 1, t, ks, m, cs, x, h, hx => by
    unfold ksOf at h
    split at h
    · rename_i k hu
      obtain rfl := Option.some.inj h
      obtain ⟨z, rfl, _, hw⟩ := DataW.trod_int hu hx
      exact ⟨⟨z, rfl, hw⟩, trivial⟩
    · rename_i hu
      obtain rfl := Option.some.inj h
      obtain ⟨b, rfl, _⟩ := DataW.trod_bool hu hx
      exact ⟨⟨b, rfl⟩, trivial⟩
    · rename_i fs hu
      split at h
      · rename_i ks' hk
        split at h
        · rename_i hc
          obtain rfl := Option.some.inj h
          have hc := Nat.eq_of_beq_eq_true hc
          obtain ⟨xs, k, _, _, hl, hlen, hf⟩ := DataW.trod_struct hu hx
          have := ksFs_ok (m := k) (cs := cs) (fun h1 h2 => ksOf_ok h1 h2) hk (fun f hfm => by
            obtain ⟨i, hi, hif⟩ := List.getElem_of_mem hfm
            have hi' : i < fs.size := by simpa using hi
            have e := hf i f (by rw [Array.getElem?_eq_getElem hi']; simpa using hif)
            rw [List.getElem?_eq_getElem (by omega)] at e
            exact ⟨_, e⟩) (by omega)
          rw [List.drop_zero, List.take_of_length_le (by omega)] at this
          exact this
        · cases h
      · cases h
    · cases h

/-- A struct of numbers, by value. -/
theorem open_struct {r : Reach} {b0 : Nat} {t : TypeId} {fs : Array Field} {n : Nat} {ks : List Lf} {v : Value} {d : DataW H} {p : List MemPlace} (hs : P.underlying t = some (.struct fs)) (hk : ksOf P n t = some ks)
    (hv : Value.okWide P W r b0 t v) (h : DataW.Trod enc P W base spare held t v d p) : ∃ cs, v = .agg ⟨cs⟩ ∧ LfsOk ks cs := by
  obtain ⟨cs, rfl, _⟩ := okWide_struct hs hv
  obtain ⟨fuel, hf⟩ := h
  obtain ⟨cs⟩ := cs
  exact ⟨cs, rfl, ksOf_ok hk hf⟩
/-- A slice of such. -/
theorem open_rows {r : Reach} {b0 : Nat} {t e : TypeId} {n : Nat} {ks : List Lf} {v : Value} {d : DataW H} {p : List MemPlace} (hs : P.underlying t = some (.slice e)) (hk : ksOf P n e = some ks) (hc : P.cellsOf e = ks.length) (hpos : 0 < ks.length)
    (hv : Value.okWide P W r b0 t v) (h : DataW.Trod enc P W 0 (fun _ => true) held t v d p) :
    ∃ (A : Option Addr) (m c : Nat) (rows : List (List Value)), v = .slice A m c ∧ RdS W ks.length A m rows ∧ ∀ x ∈ rows, LfsOk ks x := by
  obtain ⟨A, m, c, rfl⟩ := okWide_slice hs hv
  obtain ⟨fuel, hf⟩ := h
  refine ⟨A, m, c, ?_⟩
  rcases Go.Deep.open_slice hs hf with ⟨h1, _⟩ | ⟨a, len, cap, m', k, D, Pl, h1, _, hlc, _, hm, _, hi⟩
  · simp only [Value.cells, List.cons.injEq, Value.slice.injEq, and_true] at h1
    obtain ⟨rfl, rfl, rfl⟩ := h1
    exact ⟨[], rfl, RdS.nil _ _ _, fun x hx => (List.not_mem_nil hx).elim⟩
  · simp only [Value.cells, List.cons.injEq, Value.slice.injEq, and_true] at h1
    obtain ⟨rfl, rfl, rfl⟩ := h1
    simp only [if_true] at hm
    subst hm
    rw [hc] at hi
    have key : ∀ i, i < m → ∃ y : List Value, LfsOk ks y ∧ ∀ j u, y[j]? = some u → W.cell? ((a.add (i * ks.length)).add j) = some u := fun i hin => by
      obtain ⟨cs, hc, ht⟩ := hi i (by omega)
      obtain ⟨_, hlc, hat⟩ := World.cells?_some hc
      exact ⟨cs, ksOf_ok hk ht, fun j u hu => by rw [hat j (by rw [← hlc]; exact (List.getElem?_eq_some_iff.1 hu).1)]; exact hu⟩
    let f : Nat → List Value := fun i => if h : i < m then Classical.choose (key i h) else []
    have hfk : ∀ i, i < m → LfsOk ks (f i) ∧ ∀ j u, (f i)[j]? = some u → W.cell? ((a.add (i * ks.length)).add j) = some u := fun i hin => by
      simp only [f, dif_pos hin]
      exact Classical.choose_spec (key i hin)
    have hmem : ∀ x ∈ (List.range m).map f, LfsOk ks x := fun x hx => by
      obtain ⟨i, hi, rfl⟩ := List.mem_map.1 hx
      exact (hfk i (List.mem_range.1 hi)).1
    refine ⟨(List.range m).map f, rfl, ⟨by simp, fun h0 => ?_⟩, hmem⟩
    have l0 := (hfk 0 h0).1.len
    have c0 := (hfk 0 h0).2 0 _ (List.getElem?_eq_getElem (by omega))
    obtain ⟨b, o, sp⟩ := a
    have hsp : sp = none := by simpa [Addr.add] using World.cell?_spot c0
    subst hsp
    refine ⟨b, o, rfl, by simpa [Addr.add] using cell_lt c0, fun i x hx => ⟨(hmem x (List.mem_of_getElem? hx)).len, fun j u hu => ?_⟩⟩
    rw [List.getElem?_map, Option.map_eq_some_iff] at hx
    obtain ⟨i', h2, rfl⟩ := hx
    obtain ⟨h3, h4⟩ := List.getElem?_eq_some_iff.1 h2
    simp only [List.getElem_range, List.length_range] at h3 h4
    subst h4
    have := (hfk i h3).2 j u hu
    rw [add_eq, add_eq] at this
    exact this
end
/-- Rows that are each of some shape. -/
theorem rows_of {α : Type} {f : α → List Value} : ∀ {rows : List (List Value)}, (∀ x ∈ rows, ∃ y, x = f y) → ∃ l : List α, rows = l.map f
  | [], _ => ⟨[], rfl⟩
  | x :: rows, h => by
    obtain ⟨y, rfl⟩ := h x (List.mem_cons_self ..)
    obtain ⟨l, rfl⟩ := rows_of (fun z hz => h z (List.mem_cons_of_mem _ hz))
    exact ⟨y :: l, rfl⟩
theorem rows_ofP {α : Type} {f : α → List Value} {p : α → Prop} : ∀ {rows : List (List Value)}, (∀ x ∈ rows, ∃ y, x = f y ∧ p y) → ∃ l : List α, rows = l.map f ∧ ∀ y ∈ l, p y
  | [], _ => ⟨[], rfl, fun y hy => (List.not_mem_nil hy).elim⟩
  | x :: rows, h => by
    obtain ⟨y, rfl, hy⟩ := h x (List.mem_cons_self ..)
    obtain ⟨l, rfl, hl⟩ := rows_ofP (fun z hz => h z (List.mem_cons_of_mem _ hz))
    exact ⟨y :: l, rfl, fun z hz => by rcases List.mem_cons.1 hz with rfl | hz; exact hy; exact hl z hz⟩
end Go.Proofs.Ytmlmgipngbndgaa
