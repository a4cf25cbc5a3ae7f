/- A part of the proof: rules for walks, and contracts of functions (2). -/
import Derived.Test.YtcjkndjjbjoehaaX3A
import Derived.RangeFuncNested
import Derived.RangeFuncCalls
import Derived.Test.YtcjkndjjbjoehaaChecked
import Derived.Laws.MakeOwn
import Derived.Laws.StructEq
set_option linter.unusedVariables false
set_option linter.unusedSimpArgs false
set_option maxRecDepth 100000
set_option maxHeartbeats 2000000
namespace Go.Proofs.Ytcjkndjjbjoehaa
open Go.RowKit
/-- Blocks known by themselves. -/
structure Blks (n : Nat) (H : Hp) (W : World) : Prop where
  blk : ∀ x ∈ H, n ≤ x.1 ∧ Blk W x.1 x.2.1 x.2.2
  nodup : (H.map Prod.fst).Nodup
/-- None of the blocks is a map. -/
def NoM (H : Hp) : Prop := ∀ x ∈ H, ∀ t L, x.2.2 ≠ mapTg t L
theorem NoM.nil : NoM [] := fun x hx => (List.not_mem_nil hx).elim
theorem NoM.none {b : Nat} {C : List Value} {H : Hp} (h : NoM H) : NoM ((b, C, none) :: H) := fun x hx t L e => by
  rcases List.mem_cons.1 hx with rfl | hx
  · simp [mapTg] at e
  · exact h x hx t L e
theorem NoM.some {b t0 s cap : Nat} {C : List Value} {H : Hp} (h : NoM H) (hs : Nat.beq s 0 = false) : NoM ((b, C, some (t0, s, cap)) :: H) := fun x hx t L e => by
  rcases List.mem_cons.1 hx with rfl | hx
  · simp only [mapTg, Option.some.injEq, Prod.mk.injEq] at e
    rw [e.2.1] at hs
    simp at hs
  · exact h x hx t L e
theorem NoM.cells {H : Hp} (n : NoM H) {x : Nat × List Value × Tg} (hx : x ∈ H) {W : World} (h : Blk W x.1 x.2.1 x.2.2) : ∃ c t, W.heap[x.1]? = Option.some (.cells c t (0, 0)) := by
  rcases h with ⟨c, t, h, _⟩ | ⟨_, t, L, e, _⟩
  · exact ⟨c, t, h⟩
  · exact (n x hx t L e).elim
theorem Has.cells {w0 : World} {M : Ms} {H : Hp} {W : World} (h : Has w0 M H W) {b : Nat} (hb : b ∈ H.map Prod.fst) : (∃ c t, W.heap[b]? = some (.cells c t (0, 0))) ∨ ∃ es ck, W.heap[b]? = some (.map es ck) := by
  obtain ⟨x, hx, rfl⟩ := List.mem_map.1 hb
  rcases (h.blk x hx).2 with ⟨c, t, h1, _⟩ | ⟨_, t, L, _, es, ck, h1, _⟩
  · exact .inl ⟨c, t, h1⟩
  · exact .inr ⟨es, ck, h1⟩
theorem Has.self {w0 : World} {M : Ms} {H : Hp} {W : World} (h : Has w0 M H W) : Has W ⟨H.map Prod.fst, []⟩ H W :=
  ⟨ExtM.refl _ _, fun x hx => ⟨.inr (List.mem_map.2 ⟨x, hx, rfl⟩), (h.blk x hx).2⟩, h.nodup, List.nodup_nil, fun k hk => (List.not_mem_nil hk).elim⟩
def parF : List (Nat × Value) → Fr → Fr
  | [], F => F
  | (p, v) :: l, F => parF l ((p, v) :: F)
/-- How a round may be left. -/
def QB {α ι κ : Type} (hp : ι → Hp) (Pi : List α → ι → Prop) (hl : κ → Hp) (Pl : Code → List α → κ → Prop) (xs : List α) : QS
  | .normal, _, H' => ∃ j, Pi xs j ∧ HpSub H' (hp j)
  | .ret, _, H' => ∃ j, Pl .ret xs j ∧ HpSub H' (hl j)
  | .exit id, _, H' => ∃ j, Pl (.exit id) xs j ∧ HpSub H' (hl j)
  | _, _, _ => False
section
variable {c : Cx} {F : Fr} {H : Hp} {g : Operand} {ps : Array Tmp} {assign body : Code} {α ι κ β : Type} {Q : QS}
/-- Straight code: regions that don't draw, one behind the other. -/
def SL0 (c : Cx) : Code → (Fr → Hp → Prop) → Fr → Hp → Prop
  | .region _ ops false, R, F, H => noDefer ops = true ∧ TL c ops ops.toList R F H
  | .seq x y, R, F, H => SL0 c x (fun F H => SL0 c y R F H) F H
  | _, _, _, _ => False
theorem SL0.wpIn {l m : Nat} : ∀ (k : Code) {R : Fr → Hp → Prop} {F : Fr} {H : Hp}, SL0 c k R F H → ∀ (D : List Nat) (a : Act) (w : World), Frm D c.N F a → Has c.w0 ⟨c.M, D⟩ H w →
    k.wpIn (Fence.wide.inRound l) m c.P (fun e a' w' => e = .normal ∧ ∃ F' H', R F' H' ∧ Frm D c.N F' a' ∧ Has c.w0 ⟨c.M, D⟩ H' w') a w
  | .region _ ops false, R, F, H, h, D, a, w, ha, hw => by
    have := h.2 0 rfl D a w ha hw
    exact wpIn_region (wpOpsIn_of_chain (R := fun a' W' => ∃ F' H', R F' H' ∧ Frm D c.N F' a' ∧ Has c.w0 ⟨c.M, D⟩ H' W') h.1 (fun a' W' he => ⟨rfl, he⟩) _ _ _ (by rw [List.range_eq_range']; exact this))
  | .seq x y, R, F, H, h, D, a, w, ha, hw => by
    refine wpIn_seq (wpIn_mono (SL0.wpIn x h D a w ha hw) fun e a' w' ⟨he, F', H', h1, h2, h3⟩ => ?_)
    subst he
    exact SL0.wpIn y h1 D a' w' h2 h3
  | .region _ _ true, _, _, _, h, _, _, _, _, _ => h.elim
  | .skip, _, _, _, h, _, _, _, _, _ => h.elim
  | .cond _ _ _, _, _, _, h, _, _, _, _, _ => h.elim
  | .block _ _, _, _, _, h, _, _, _, _, _ => h.elim
  | .loop _, _, _, _, h, _, _, _, _, _ => h.elim
  | .rangeFunc _ _ _ _, _, _, _, h, _, _, _, _, _ => h.elim
  | .exit _, _, _, _, h, _, _, _, _, _ => h.elim
  | .scope _, _, _, _, h, _, _, _, _, _ => h.elim
  | .label _, _, _, _, h, _, _, _, _, _ => h.elim
  | .goto _, _, _, _, h, _, _, _, _, _ => h.elim
  | .ret, _, _, _, h, _, _, _, _, _ => h.elim
  | .refuse _, _, _, _, h, _, _, _, _, _ => h.elim
structure RangeOk (c : Cx) (F : Fr) (ns : List Nat) (hk : Hp) (ps : Array Tmp) (assign body : Code) (m : Nat) (encs : α → List Value) (N : Nat)
    (hp : ι → Hp) (Pi : List α → ι → Prop) (bx : α → β → Hp) (fx : α → β → Fr) (hl : κ → Hp) (Pl : Code → List α → κ → Prop) : Prop where
  size : ∀ x, (encs x).length = ps.size
  slots : (ps.toList.all fun p => Nat.blt p c.N) = true
  assign_ : ∀ (x : α) (W : World), SL0 { c with w0 := W, M := [] } assign (fun F' H' => ∃ bs, FrSub F' (fx x bs) ∧ HpSub H' (bx x bs)) (parF (ps.toList.zip (encs x)) F) []
  disj : ∀ x bs i n W D, Blks n (bx x bs) W → Has c.w0 ⟨c.M, D⟩ (hp i ++ hk) W → (∀ b ∈ ns, b < n) → ∀ y ∈ bx x bs, ∀ z ∈ hp i ++ hk, y.1 ≠ z.1
  body_ : ∀ (l : Nat) (pre : List α) (x : α) (i : ι) (bs : β) (W : World) (D : List Nat), Pi pre i → Has c.w0 ⟨c.M, D⟩ (bx x bs ++ hp i ++ hk) W → pre.length < N → (∃ r, W.heap[l]? = some (.loop r)) →
    T { c with w0 := W, M := (bx x bs ++ hp i).map Prod.fst } (WS.round c.P l m) body (QB hp Pi hl Pl (pre ++ [x])) (fx x bs) (bx x bs ++ hp i)
  nob : ∀ x bs, NoM (bx x bs)
  nop : ∀ i, NoM (hp i)
  nok : NoM hk
  nol : ∀ j, NoM (hl j)
end
/-! Calls that hand out memory -/
theorem Has.call {w0 : World} {M D : List Nat} {H H' : Hp} {w w' : World} (h : Has w0 ⟨M, D⟩ H w) (k : Has w ⟨[], []⟩ H' w') : Has w0 ⟨M, D⟩ (H' ++ H) w' := by
  have h' := h.grow k.ext.ext
  have own : ∀ x ∈ H', w.heap.size ≤ x.1 := fun x hx => by
    rcases (k.blk x hx).1 with h1 | h1
    · exact h1
    · exact (List.not_mem_nil h1).elim
  refine ⟨h'.ext, fun x hx => ?_, ?_, h'.marks⟩
  · rcases List.mem_append.1 hx with hx | hx
    · exact ⟨.inl (Nat.le_trans h.ext.size (own x hx)), (k.blk x hx).2⟩
    · exact h'.blk x hx
  · rw [List.map_append, List.nodup_append]
    refine ⟨k.nodup, h.nodup, fun a ha b hb => ?_⟩
    obtain ⟨x, hx, rfl⟩ := List.mem_map.1 ha
    obtain ⟨y, hy, rfl⟩ := List.mem_map.1 hb
    have h1 := own x hx
    have h2 := (h.blk y hy).2.lt
    omega
section
variable {c : Cx} {F : Fr} {H : Hp} {K : Value → Hp → Prop} {d : Option Tmp} {ty : TypeId} {pos : String} {af : Array Edge} {g : Option (Nat × Bool)}
/-- A call that hands out memory that it has made. -/
theorem os_callF {f : Operand} {args : Array Operand} {T : Array TypeId} {k : Nat} {fst cap vs : List Value} {PV : Value → Hp → Prop} (hf : ev F f = some (.func (.func k) ⟨fst⟩ ⟨cap⟩)) (hc : ∀ (a : Array Value) (w : World), (callFunc k a).run c.P w = .ok (.enter k a) w)
    (ha : evs F args.toList = some vs) (h : ∀ D w, Has c.w0 ⟨c.M, D⟩ H w → Calls c.P k ⟨fst ++ vs ++ cap⟩ w fun e w' => ∃ v H', e = .returned v ∧ PV v H' ∧ Has w ⟨[], []⟩ H' w')
    (hk : ∀ v H', PV v H' → K v (H' ++ H)) : OS c ⟨d, .call ⟨.value f, args, T⟩, ty, pos, af, g⟩ F H K :=
  os_call hf hc ha fun D w hw => (h D w hw).mono fun e w' ⟨v, H', h1, h2, h3⟩ => ⟨v, H' ++ H, h1, hk v H' h2, hw.call h3⟩
end
/-- A block of rows, read as a slice. -/
theorem Blk.rows {w : World} {b n k : Nat} {rows : List (List Value)} {g : Tg} (h : Blk w b rows.flatten g) (hl : rows.length = n) (hk : ∀ r ∈ rows, r.length = k) : RdS w k (some ⟨b, 0, none⟩) n rows := by
  refine ⟨hl, fun _ => ⟨b, 0, rfl, h.lt, fun i x hx => ⟨hk x (List.mem_of_getElem? hx), fun j u hu => ?_⟩⟩⟩
  refine h.cell ?_
  rw [Nat.zero_add]
  clear h hl
  induction rows generalizing i with
  | nil => simp at hx
  | cons r rows ih =>
    have hr := hk r (List.mem_cons_self ..)
    cases i with
    | zero =>
      obtain rfl : r = x := by simpa using hx
      have hj := (List.getElem?_eq_some_iff.1 hu).1
      simp only [List.flatten_cons, Nat.zero_mul, Nat.zero_add]
      rw [List.getElem?_append_left hj]; exact hu
    | succ i =>
      have := ih (fun r hr => hk r (List.mem_cons_of_mem _ hr)) i (by simpa using hx)
      simp only [List.flatten_cons]
      rw [List.getElem?_append_right (by rw [hr, Nat.succ_mul]; omega)]
      rw [← this]; congr 1; rw [hr, Nat.succ_mul]; omega
theorem Has.cellAt {w0 : World} {M : Ms} {H H' : Hp} {w : World} {b o : Nat} {C : List Value} {g : Tg} {v : Value} (h : Has w0 M H w) (p : Pick H b C g H') (ho : C[o]? = some v) : w.cell? ⟨b, o, none⟩ = some v := (h.blk _ p.mem).2.cell ho
theorem Has.off {w0 : World} {M : Ms} {X K : Hp} {w : World} (h : Has w0 M (X ++ K) w) {b : Nat} (hb : b ∈ K.map Prod.fst) : b ∉ X.map Prod.fst := fun hm => by
  have := h.nodup
  rw [List.map_append, List.nodup_append] at this
  exact this.2.2 _ hm _ hb rfl
theorem Has.oldc {w0 : World} {M : Ms} {H : Hp} {w : World} {b o : Nat} {v : Value} (h : Has w0 M H w) (hc : w0.cell? ⟨b, o, none⟩ = some v) (hm : b ∉ M.wr) : w.cell? ⟨b, o, none⟩ = some v := by
  rw [World.cell?_of_block (w := w0) (a := ⟨b, o, none⟩) (h.ext.block b (cell_lt hc) hm)]
  exact hc
/-- A call of a function that hands out some of the memory that it has made. -/
theorem enterF {c : Cx} {k : FuncId} {fn : Func} {code : Code} {rs : List ResultVar} {args : List Value} {PV : Value → Hp → Prop} (hf : c.P.funcs[k]? = some fn) (hb : fn.body = some code) (hrs : fn.results = ⟨rs⟩) (hN : c.N = args.length + (fn.ntmps - args.length)) (hM : c.M = [])
    (h : T c (WS.own c.P) code (endQ c rs fun v H => ∃ H', PV v H' ∧ HpSub H H') (frOf 0 args) []) : Calls c.P k ⟨args⟩ c.w0 fun e w' => ∃ v H', e = .returned v ∧ PV v H' ∧ Has c.w0 ⟨[], []⟩ H' w' :=
  (enter hf hb hrs hN (fun d v hv => (look_frOf args 0 d v hv).2) (by rw [hM]; exact Has.start _) h).mono fun e w' ⟨v, H', h1, ⟨G, h2, h3⟩, h4⟩ => ⟨v, G, h1, h2, by rw [hM] at h4; exact h4.sub h3⟩
theorem Norm.self : ∀ (l : List Value), Norm l l
  | [] => .nil rfl
  | _ :: l => .cons rfl (Norm.self l)
def flatV : Value → Bool
  | .agg _ => false
  | _ => true
theorem flatV_cells {v : Value} (h : flatV v = true) : cellsL v = [v] := by
  cases v <;> first | rfl | cases h
def pickV : List (Nat × Value) → Nat → Option (List Value)
  | [], _ => some []
  | (j, v) :: l, i => match Nat.beq j i && flatV v, pickV l (i + 1) with
    | true, some r => some (v :: r)
    | _, _ => none
theorem pickV_fill : ∀ (vs : List (Nat × Value)) (k : Nat) (C r : List Value), pickV vs k = some r → k + vs.length = C.length → r.length = vs.length ∧ fillL (fun i => some (i * 1, 1)) C vs = some (C.take k ++ r)
  | [], k, C, r, h, hl => by
    simp only [pickV, Option.some.injEq] at h
    subst h
    simp at hl
    subst hl
    exact ⟨rfl, by simp [fillL]⟩
  | (j, v) :: l, k, C, r, h, hl => by
    simp only [pickV] at h
    split at h
    · rename_i r' h1 h2
      simp only [Bool.and_eq_true] at h1
      have hj : j = k := Nat.eq_of_beq_eq_true h1.1
      subst hj
      cases h
      have hC : (setL C j [v]).length = C.length := setL_length _ _ _
      simp only [List.length_cons] at hl
      obtain ⟨g1, g2⟩ := pickV_fill l (j + 1) (setL C j [v]) r' h2 (by omega)
      refine ⟨by simp [g1], ?_⟩
      simp only [fillL, flatV_cells h1.2, Nat.mul_one]
      have hb : Nat.ble (j + 1) C.length = true := Nat.ble_eq_true_of_le (by omega)
      have hb2 : (Nat.beq [v].length 1 && Nat.ble (j + 1) C.length) = true := by rw [hb]; rfl
      rw [hb2]
      simp only [Nat.mul_one] at g2
      rw [g2]
      simp only [setL]
      congr 1
      rw [List.take_add_one, List.getElem?_set_self (by omega), List.take_set_of_le (Nat.le_refl _)]
      simp
    · cases h
section
variable {c : Cx} {F : Fr} {H : Hp} {K : Value → Hp → Prop} {d : Option Tmp} {ty : TypeId} {pos : String} {af : Array Edge} {g : Option (Nat × Bool)}
/-- A slice of elements of one cell. -/
theorem ox_buildSlice1 {t : Nat} {a0 a1 : Bool} {s0 e len : Nat} {z0 z1 r : List Value} {k1 : TyK} {parts : List (Nat × Operand)} {vs : List (Nat × Value)} (ht : tyAt c.tys t = some ⟨a0, s0, z0, .slice e⟩) (he : tyAt c.tys e = some ⟨a1, 1, z1, k1⟩) (hp : evp F parts = some vs)
    (hf : pickV vs 0 = some r) (hb : Nat.ble len 1000000 = true) (hs : Nat.beq vs.length len = true)
    (k : ∀ b, K (.slice (some ⟨b, 0, none⟩) len len) ((b, r, some (e, 1, len)) :: H)) : OX c ⟨d, .buildSlice t len ⟨parts⟩, ty, pos, af, g⟩ F H K := by
  have hl : vs.length = len := Nat.eq_of_beq_eq_true hs
  obtain ⟨h1, h2⟩ := pickV_fill vs 0 ((List.range (len * 1)).map fun j => z1.toArray[j % z1.toArray.size]!) r hf (by simp [hl])
  exact ox_buildSlice ht he hp h2 (Norm.self _) (by simpa using hb) (by rw [List.take_zero, List.nil_append, h1, hl, Nat.mul_one]; exact Nat.beq_refl _) rfl (fun b => by simpa using k b)
end
theorem setL_eq : ∀ (l C : List Value) (o : Nat), o + l.length ≤ C.length → setL C o l = C.take o ++ l ++ C.drop (o + l.length)
  | [], C, o, _ => by simp [setL]
  | v :: l, C, o, h => by
    simp only [List.length_cons] at h
    have ih := setL_eq l (C.set o v) (o + 1) (by simp; omega)
    simp only [setL]
    rw [ih, List.take_add_one, List.getElem?_set_self (by omega), List.take_set_of_le (Nat.le_refl _), List.drop_set_of_lt (by omega)]
    simp only [List.length_cons, Option.toList, List.append_assoc, List.cons_append, List.nil_append]
    rw [show o + 1 + l.length = o + (l.length + 1) by omega]
def pick2 : List (Nat × Value) → Nat → Option (List Value)
  | [], _ => some []
  | (j, v) :: l, i => match Nat.beq j i, v, pick2 l (i + 1) with
    | true, .agg ⟨[a, b]⟩, some r => some (a :: b :: r)
    | _, _, _ => none
theorem pick2_fill : ∀ (vs : List (Nat × Value)) (k : Nat) (C r : List Value), pick2 vs k = some r → (k + vs.length) * 2 = C.length → r.length = vs.length * 2 ∧ fillL (fun i => some (i * 2, 2)) C vs = some (C.take (k * 2) ++ r)
  | [], k, C, r, h, hl => by
    simp only [pick2, Option.some.injEq] at h
    subst h
    simp at hl
    exact ⟨rfl, by simp [fillL, hl]⟩
  | (j, v) :: l, k, C, r, h, hl => by
    simp only [pick2] at h
    split at h
    · rename_i a b r' h1 h2
      have hj : j = k := Nat.eq_of_beq_eq_true h1
      subst hj
      cases h
      simp only [List.length_cons] at hl
      have hC : (setL C (j * 2) [a, b]).length = C.length := setL_length _ _ _
      obtain ⟨g1, g2⟩ := pick2_fill l (j + 1) (setL C (j * 2) [a, b]) r' h2 (by omega)
      refine ⟨by simp [g1]; omega, ?_⟩
      have hb2 : (Nat.beq (cellsL (.agg ⟨[a, b]⟩)).length 2 && Nat.ble (j * 2 + 2) C.length) = true := by
        rw [Nat.ble_eq_true_of_le (by omega)]; rfl
      simp only [fillL]
      rw [hb2]
      simp only
      rw [show cellsL (.agg ⟨[a, b]⟩) = [a, b] from rfl, g2, setL_eq _ _ _ (by simp; omega)]
      have ht : (C.take (j * 2) ++ [a, b] ++ C.drop (j * 2 + [a, b].length)).take ((j + 1) * 2) = C.take (j * 2) ++ [a, b] := by
        rw [List.take_append_of_le_length (by simp; omega)]
        exact List.take_of_length_le (by simp; omega)
      rw [ht]
      simp
    · cases h
section
variable {c : Cx} {F : Fr} {H : Hp} {K : Value → Hp → Prop} {d : Option Tmp} {ty : TypeId} {pos : String} {af : Array Edge} {g : Option (Nat × Bool)}
/-- A slice of elements of two cells. -/
theorem ox_buildSlice2 {t : Nat} {a0 a1 : Bool} {s0 e len : Nat} {z0 z1 r : List Value} {k1 : TyK} {parts : List (Nat × Operand)} {vs : List (Nat × Value)} (ht : tyAt c.tys t = some ⟨a0, s0, z0, .slice e⟩) (he : tyAt c.tys e = some ⟨a1, 2, z1, k1⟩) (hp : evp F parts = some vs)
    (hf : pick2 vs 0 = some r) (hb : Nat.ble (len * 2) 1000000 = true) (hs : Nat.beq vs.length len = true)
    (k : ∀ b, K (.slice (some ⟨b, 0, none⟩) len len) ((b, r, some (e, 2, len)) :: H)) : OX c ⟨d, .buildSlice t len ⟨parts⟩, ty, pos, af, g⟩ F H K := by
  have hl : vs.length = len := Nat.eq_of_beq_eq_true hs
  obtain ⟨h1, h2⟩ := pick2_fill vs 0 ((List.range (len * 2)).map fun j => z1.toArray[j % z1.toArray.size]!) r hf (by simp [hl])
  exact ox_buildSlice ht he hp h2 (Norm.self _) hb (by rw [Nat.zero_mul, List.take_zero, List.nil_append, h1, hl]; exact Nat.beq_refl _) rfl (fun b => by simpa using k b)
end
section
variable {c : Cx} {F : Fr} {H : Hp} {d : Option Tmp} {ty t t' : TypeId} {pos : String} {af : Array Edge} {g : Option (Nat × Bool)} {x y : Operand} {m n : Int}
end
/-- Where a piece of code ends: slots and blocks, by an index. -/
def cutQ {ι : Type} (ch : ι → Fr) (hc : ι → Hp) (G : Fr) (GH : Hp) : QS := fun e F' H' => e = .normal ∧ ∃ i, FrSub F' (ch i ++ G) ∧ HpSub H' (hc i ++ GH)
section
variable {c : Cx} {S : WS c.P} {Q : QS} {F : Fr} {H : Hp}
theorem cut_in0 {ch : Unit → Fr} {hc : Unit → Hp} {G F' : Fr} {GH H' : Hp} (h : FrSub F' (ch () ++ G)) (k : HpSub H' (hc () ++ GH)) : cutQ ch hc G GH .normal F' H' := ⟨rfl, (), h, k⟩
theorem cut_in1 {ch : Nat → Fr} {hc : Nat → Hp} {G F' : Fr} {GH H' : Hp} (i : Nat) (h : FrSub F' (ch i ++ G)) (k : HpSub H' (hc i ++ GH)) : cutQ ch hc G GH .normal F' H' := ⟨rfl, i, h, k⟩
theorem cut_in2 {ch : Nat × Nat → Fr} {hc : Nat × Nat → Hp} {G F' : Fr} {GH H' : Hp} (i j : Nat) (h : FrSub F' (ch (i, j) ++ G)) (k : HpSub H' (hc (i, j) ++ GH)) : cutQ ch hc G GH .normal F' H' := ⟨rfl, (i, j), h, k⟩
theorem cut_in3 {ch : Nat × Nat × Nat → Fr} {hc : Nat × Nat × Nat → Hp} {G F' : Fr} {GH H' : Hp} (i j l : Nat) (h : FrSub F' (ch (i, j, l) ++ G)) (k : HpSub H' (hc (i, j, l) ++ GH)) : cutQ ch hc G GH .normal F' H' := ⟨rfl, (i, j, l), h, k⟩
end
section
variable {c : Cx} {F : Fr} {H : Hp} {d : Option Tmp} {ty t t' : TypeId} {pos : String} {af : Array Edge} {g : Option (Nat × Bool)} {x y : Operand} {m n k : Int} {v u : Value}
theorem OQ.as {o : Oper} (h : OQ c o F H u) (e : u = v) : OQ c o F H v := e ▸ h
theorem oq_subE (hx : ev F x = some (.int .i64 m)) (hy : ev F y = some (.int .i64 n)) (e : m - n = k ∧ -9223372036854775808 ≤ k ∧ k ≤ 9223372036854775807) : OQ c ⟨d, .binOp .sub t x y t', ty, pos, af, g⟩ F H (.int .i64 k) :=
  (oq_sub hx hy ⟨by omega, by omega⟩).as (by rw [e.1])
theorem oq_addE (hx : ev F x = some (.int .i64 m)) (hy : ev F y = some (.int .i64 n)) (e : m + n = k ∧ -9223372036854775808 ≤ k ∧ k ≤ 9223372036854775807) : OQ c ⟨d, .binOp .add t x y t', ty, pos, af, g⟩ F H (.int .i64 k) :=
  (oq_add hx hy ⟨by omega, by omega⟩).as (by rw [e.1])
end
def FOk (P : Program) : List Field → List (Nat × Nat × Bool) → Prop
  | [], [] => True
  | d :: ds, (off, n, g) :: fs => d.offset = off ∧ (∀ w, (sizeOf d.type).run P w = .ok n w) ∧ (∀ w, (isAgg d.type).run P w = .ok g w) ∧ FOk P ds fs
  | _, _ => False
theorem FOk.len {P : Program} {ds : Array Field} {fs : List (Nat × Nat × Bool)} (h : FOk P ds.toList fs) : ds.size = fs.length := by
  have : ∀ (l : List Field) (fs : List (Nat × Nat × Bool)), FOk P l fs → l.length = fs.length := by
    intro l
    induction l with
    | nil => intro fs h; cases fs with | nil => rfl | cons a b => exact h.elim
    | cons d l ih => intro fs h; cases fs with | nil => exact h.elim | cons a b => obtain ⟨x, y, z⟩ := a; simp [ih b h.2.2.2]
  simpa using this _ _ h
theorem FOk.at_ {P : Program} : ∀ {ds : List Field} {fs : List (Nat × Nat × Bool)}, FOk P ds fs → ∀ (f off n : Nat) (g : Bool), fs[f]? = some (off, n, g) →
      ∃ d : Field, ds[f]? = some d ∧ d.offset = off ∧ (∀ w, (sizeOf d.type).run P w = .ok n w) ∧ ∀ w, (isAgg d.type).run P w = .ok g w
  | [], [], _, f, off, n, g, h => by simp at h
  | [], _ :: _, h, _, _, _, _, _ => h.elim
  | _ :: _, [], h, _, _, _, _, _ => h.elim
  | d :: ds, (off', n', g') :: fs, h, 0, off, n, g, hf => by
    obtain ⟨rfl, rfl, rfl⟩ : off' = off ∧ n' = n ∧ g' = g := by simpa using hf
    exact ⟨d, rfl, h.1, h.2.1, h.2.2.1⟩
  | d :: ds, (off', n', g') :: fs, h, f + 1, off, n, g, hf => by
    obtain ⟨d', h1, h2⟩ := FOk.at_ h.2.2.2 f off n g (by simpa using hf)
    exact ⟨d', by simpa using h1, h2⟩
theorem struct_ok {P : Program} {t : Nat} {ds : Array Field} {fs : List (Nat × Nat × Bool)} (hu : ∀ w, (underlying t).run P w = .ok (.struct ds) w) (h : FOk P ds.toList fs) : KindOk P t (.struct fs) :=
  ⟨ds, hu, h.len, fun f off n g hf => by
    obtain ⟨d, h1, h2⟩ := h.at_ f off n g hf
    exact ⟨d, by simpa using h1, h2⟩⟩
theorem ty_ok3 : TyOk Try.prog 3 ⟨false, 1, [(.int .i64 0)], .int .i64⟩ := ⟨Try.isAgg3, Try.sizeOf3, fun w => ⟨_, Try.zeroValue3 w, rfl⟩, rfl, Try.runUnderlying3⟩ -- int
theorem ty_ok4 : TyOk Try.prog 4 ⟨false, 1, [(.bool false)], .other⟩ := ⟨Try.isAgg4, Try.sizeOf4, fun w => ⟨_, Try.zeroValue4 w, rfl⟩, rfl, trivial⟩ -- bool
theorem ty_ok5 : TyOk Try.prog 5 ⟨false, 1, [(.int .u8 0)], .int .u8⟩ := ⟨Try.isAgg5, Try.sizeOf5, fun w => ⟨_, Try.zeroValue5 w, rfl⟩, rfl, Try.runUnderlying5⟩ -- uint8
theorem ty_ok9 : TyOk Try.prog 9 ⟨false, 1, [(.string { data := #[] })], .other⟩ := ⟨Try.isAgg9, Try.sizeOf9, fun w => ⟨_, Try.zeroValue9 w, rfl⟩, rfl, trivial⟩ -- string
theorem ty_ok20 : TyOk Try.prog 20 ⟨false, 1, [.nilIface], .other⟩ := ⟨Try.isAgg20, Try.sizeOf20, fun w => ⟨_, Try.zeroValue20 w, rfl⟩, rfl, trivial⟩ -- interface {}
theorem ty_ok22 : TyOk Try.prog 22 ⟨false, 1, [(.slice none 0 0)], .slice 3⟩ := ⟨Try.isAgg22, Try.sizeOf22, fun w => ⟨_, Try.zeroValue22 w, rfl⟩, rfl, Try.runUnderlying22⟩ -- []int
theorem ty_ok24 : TyOk Try.prog 24 ⟨true, 3, [.int .i64 0, .int .i64 0, .slice none 0 0], .struct [(0, 1, false), (1, 1, false), (2, 1, false)]⟩ := ⟨Try.isAgg24, Try.sizeOf24, fun w => ⟨_, Try.zeroValue24 w, rfl⟩, rfl, struct_ok Try.runUnderlying24 ⟨rfl, Try.sizeOf3, Try.isAgg3, ⟨rfl, Try.sizeOf3, Try.isAgg3, ⟨rfl, Try.sizeOf22, Try.isAgg22, trivial⟩⟩⟩⟩ -- api.Terrain
theorem ty_ok25 : TyOk Try.prog 25 ⟨false, 1, [(.int .i64 0)], .int .i64⟩ := ⟨Try.isAgg25, Try.sizeOf25, fun w => ⟨_, Try.zeroValue25 w, rfl⟩, rfl, Try.runUnderlying25⟩ -- api.Errno
theorem ty_ok34 : TyOk Try.prog 34 ⟨false, 1, [(.slice none 0 0)], .slice 4⟩ := ⟨Try.isAgg34, Try.sizeOf34, fun w => ⟨_, Try.zeroValue34 w, rfl⟩, rfl, Try.runUnderlying34⟩ -- []bool
theorem ty_ok35 : TyOk Try.prog 35 ⟨false, 1, [(.slice none 0 0)], .slice 126⟩ := ⟨Try.isAgg35, Try.sizeOf35, fun w => ⟨_, Try.zeroValue35 w, rfl⟩, rfl, Try.runUnderlying35⟩ -- []api.Track
theorem ty_ok37 : TyOk Try.prog 37 ⟨true, 2, [.slice none 0 0, .slice none 0 0], .struct [(0, 1, false), (1, 1, false)]⟩ := ⟨Try.isAgg37, Try.sizeOf37, fun w => ⟨_, Try.zeroValue37 w, rfl⟩, rfl, struct_ok Try.runUnderlying37 ⟨rfl, Try.sizeOf34, Try.isAgg34, ⟨rfl, Try.sizeOf35, Try.isAgg35, trivial⟩⟩⟩ -- api.Chart
theorem ty_ok39 : TyOk Try.prog 39 ⟨true, 2, [.int .i64 0, .int .i64 0], .struct [(0, 1, false), (1, 1, false)]⟩ := ⟨Try.isAgg39, Try.sizeOf39, fun w => ⟨_, Try.zeroValue39 w, rfl⟩, rfl, struct_ok Try.runUnderlying39 ⟨rfl, Try.sizeOf3, Try.isAgg3, ⟨rfl, Try.sizeOf3, Try.isAgg3, trivial⟩⟩⟩ -- api.Span
theorem ty_ok41 : TyOk Try.prog 41 ⟨true, 7, [.int .i64 0, .int .i64 0, .int .i64 0, .int .i64 0, .int .i64 0, .int .i64 0, .int .i64 0], .struct [(0, 1, false), (1, 1, false), (2, 1, false), (3, 1, false), (4, 1, false), (5, 2, true)]⟩ := ⟨Try.isAgg41, Try.sizeOf41, fun w => ⟨_, Try.zeroValue41 w, rfl⟩, rfl, struct_ok Try.runUnderlying41 ⟨rfl, Try.sizeOf3, Try.isAgg3, ⟨rfl, Try.sizeOf3, Try.isAgg3, ⟨rfl, Try.sizeOf3, Try.isAgg3, ⟨rfl, Try.sizeOf3, Try.isAgg3, ⟨rfl, Try.sizeOf3, Try.isAgg3, ⟨rfl, Try.sizeOf39, Try.isAgg39, trivial⟩⟩⟩⟩⟩⟩⟩ -- api.Pace
theorem ty_ok42 : TyOk Try.prog 42 ⟨false, 1, [(.slice none 0 0)], .slice 59⟩ := ⟨Try.isAgg42, Try.sizeOf42, fun w => ⟨_, Try.zeroValue42 w, rfl⟩, rfl, Try.runUnderlying42⟩ -- [][]api.Gale
theorem ty_ok59 : TyOk Try.prog 59 ⟨false, 1, [(.slice none 0 0)], .slice 142⟩ := ⟨Try.isAgg59, Try.sizeOf59, fun w => ⟨_, Try.zeroValue59 w, rfl⟩, rfl, Try.runUnderlying59⟩ -- []api.Gale
theorem ty_ok61 : TyOk Try.prog 61 ⟨true, 2, [.int .i64 0, .int .i64 0], .struct [(0, 1, false), (1, 1, false)]⟩ := ⟨Try.isAgg61, Try.sizeOf61, fun w => ⟨_, Try.zeroValue61 w, rfl⟩, rfl, struct_ok Try.runUnderlying61 ⟨rfl, Try.sizeOf3, Try.isAgg3, ⟨rfl, Try.sizeOf3, Try.isAgg3, trivial⟩⟩⟩ -- api.Axis
theorem ty_ok62 : TyOk Try.prog 62 ⟨false, 1, [(.int .u16 0)], .int .u16⟩ := ⟨Try.isAgg62, Try.sizeOf62, fun w => ⟨_, Try.zeroValue62 w, rfl⟩, rfl, Try.runUnderlying62⟩ -- uint16
theorem ty_ok67 : TyOk Try.prog 67 ⟨true, 4, [.int .i64 0, .int .i64 0, .int .i64 0, .int .i64 0], .struct [(0, 2, true), (2, 2, true)]⟩ := ⟨Try.isAgg67, Try.sizeOf67, fun w => ⟨_, Try.zeroValue67 w, rfl⟩, rfl, struct_ok Try.runUnderlying67 ⟨rfl, Try.sizeOf39, Try.isAgg39, ⟨rfl, Try.sizeOf39, Try.isAgg39, trivial⟩⟩⟩ -- api.Wind
theorem ty_ok80 : TyOk Try.prog 80 ⟨true, 4, [.int .i64 0, .int .i64 0, .int .i64 0, .int .i64 0], .struct [(0, 1, false), (1, 1, false), (2, 1, false), (3, 1, false)]⟩ := ⟨Try.isAgg80, Try.sizeOf80, fun w => ⟨_, Try.zeroValue80 w, rfl⟩, rfl, struct_ok Try.runUnderlying80 ⟨rfl, Try.sizeOf3, Try.isAgg3, ⟨rfl, Try.sizeOf3, Try.isAgg3, ⟨rfl, Try.sizeOf3, Try.isAgg3, ⟨rfl, Try.sizeOf3, Try.isAgg3, trivial⟩⟩⟩⟩⟩ -- api.Duty
theorem ty_ok81 : TyOk Try.prog 81 ⟨false, 1, [(.slice none 0 0)], .slice 91⟩ := ⟨Try.isAgg81, Try.sizeOf81, fun w => ⟨_, Try.zeroValue81 w, rfl⟩, rfl, Try.runUnderlying81⟩ -- []api.Shift
theorem ty_ok84 : TyOk Try.prog 84 ⟨false, 1, [(.slice none 0 0)], .slice 22⟩ := ⟨Try.isAgg84, Try.sizeOf84, fun w => ⟨_, Try.zeroValue84 w, rfl⟩, rfl, Try.runUnderlying84⟩ -- [][]int
theorem ty_ok88 : TyOk Try.prog 88 ⟨true, 3, [.int .i64 0, .int .i64 0, .int .i64 0], .struct [(0, 1, false), (1, 1, false), (2, 1, false)]⟩ := ⟨Try.isAgg88, Try.sizeOf88, fun w => ⟨_, Try.zeroValue88 w, rfl⟩, rfl, struct_ok Try.runUnderlying88 ⟨rfl, Try.sizeOf3, Try.isAgg3, ⟨rfl, Try.sizeOf3, Try.isAgg3, ⟨rfl, Try.sizeOf3, Try.isAgg3, trivial⟩⟩⟩⟩ -- api.Trip
theorem ty_ok89 : TyOk Try.prog 89 ⟨false, 1, [(.slice none 0 0)], .slice 88⟩ := ⟨Try.isAgg89, Try.sizeOf89, fun w => ⟨_, Try.zeroValue89 w, rfl⟩, rfl, Try.runUnderlying89⟩ -- []api.Trip
theorem ty_ok91 : TyOk Try.prog 91 ⟨true, 3, [.int .i64 0, .int .i64 0, .int .i64 0], .struct [(0, 1, false), (1, 1, false), (2, 1, false)]⟩ := ⟨Try.isAgg91, Try.sizeOf91, fun w => ⟨_, Try.zeroValue91 w, rfl⟩, rfl, struct_ok Try.runUnderlying91 ⟨rfl, Try.sizeOf3, Try.isAgg3, ⟨rfl, Try.sizeOf3, Try.isAgg3, ⟨rfl, Try.sizeOf3, Try.isAgg3, trivial⟩⟩⟩⟩ -- api.Shift
theorem ty_ok92 : TyOk Try.prog 92 ⟨false, 1, [(.slice none 0 0)], .slice 222⟩ := ⟨Try.isAgg92, Try.sizeOf92, fun w => ⟨_, Try.zeroValue92 w, rfl⟩, rfl, Try.runUnderlying92⟩ -- []api.Tired
theorem ty_ok96 : TyOk Try.prog 96 ⟨false, 1, [(.slice none 0 0)], .slice 113⟩ := ⟨Try.isAgg96, Try.sizeOf96, fun w => ⟨_, Try.zeroValue96 w, rfl⟩, rfl, Try.runUnderlying96⟩ -- []api.Load
theorem ty_ok98 : TyOk Try.prog 98 ⟨true, 3, [.int .i64 0, .int .i64 0, .int .i64 0], .struct [(0, 1, false), (1, 1, false), (2, 1, false)]⟩ := ⟨Try.isAgg98, Try.sizeOf98, fun w => ⟨_, Try.zeroValue98 w, rfl⟩, rfl, struct_ok Try.runUnderlying98 ⟨rfl, Try.sizeOf3, Try.isAgg3, ⟨rfl, Try.sizeOf3, Try.isAgg3, ⟨rfl, Try.sizeOf3, Try.isAgg3, trivial⟩⟩⟩⟩ -- api.Limit
theorem ty_ok99 : TyOk Try.prog 99 ⟨false, 1, [(.slice none 0 0)], .slice 5⟩ := ⟨Try.isAgg99, Try.sizeOf99, fun w => ⟨_, Try.zeroValue99 w, rfl⟩, rfl, Try.runUnderlying99⟩ -- []uint8
theorem ty_ok101 : TyOk Try.prog 101 ⟨false, 1, [(.slice none 0 0)], .slice 111⟩ := ⟨Try.isAgg101, Try.sizeOf101, fun w => ⟨_, Try.zeroValue101 w, rfl⟩, rfl, Try.runUnderlying101⟩ -- []api.Corner
theorem ty_ok105 : TyOk Try.prog 105 ⟨true, 3, [.int .i64 0, .int .i64 0, .int .i64 0], .struct [(0, 1, false), (1, 1, false), (2, 1, false)]⟩ := ⟨Try.isAgg105, Try.sizeOf105, fun w => ⟨_, Try.zeroValue105 w, rfl⟩, rfl, struct_ok Try.runUnderlying105 ⟨rfl, Try.sizeOf3, Try.isAgg3, ⟨rfl, Try.sizeOf3, Try.isAgg3, ⟨rfl, Try.sizeOf3, Try.isAgg3, trivial⟩⟩⟩⟩ -- struct { dx int; dy int; want int }
theorem ty_ok106 : TyOk Try.prog 106 ⟨false, 1, [(.slice none 0 0)], .slice 105⟩ := ⟨Try.isAgg106, Try.sizeOf106, fun w => ⟨_, Try.zeroValue106 w, rfl⟩, rfl, Try.runUnderlying106⟩ -- []struct { dx int; dy int; want int }
theorem ty_ok108 : TyOk Try.prog 108 ⟨false, 1, [(.slice none 0 0)], .slice 228⟩ := ⟨Try.isAgg108, Try.sizeOf108, fun w => ⟨_, Try.zeroValue108 w, rfl⟩, rfl, Try.runUnderlying108⟩ -- []api.Put
theorem ty_ok111 : TyOk Try.prog 111 ⟨true, 2, [.int .i64 0, .int .i64 0], .struct [(0, 1, false), (1, 1, false)]⟩ := ⟨Try.isAgg111, Try.sizeOf111, fun w => ⟨_, Try.zeroValue111 w, rfl⟩, rfl, struct_ok Try.runUnderlying111 ⟨rfl, Try.sizeOf3, Try.isAgg3, ⟨rfl, Try.sizeOf3, Try.isAgg3, trivial⟩⟩⟩ -- api.Corner
theorem ty_ok113 : TyOk Try.prog 113 ⟨true, 4, [.int .i64 0, .int .i64 0, .int .i64 0, .int .i64 0], .struct [(0, 2, true), (2, 2, true)]⟩ := ⟨Try.isAgg113, Try.sizeOf113, fun w => ⟨_, Try.zeroValue113 w, rfl⟩, rfl, struct_ok Try.runUnderlying113 ⟨rfl, Try.sizeOf39, Try.isAgg39, ⟨rfl, Try.sizeOf39, Try.isAgg39, trivial⟩⟩⟩ -- api.Load
theorem ty_ok120 : TyOk Try.prog 120 ⟨false, 1, [.nilFunc], .other⟩ := ⟨Try.isAgg120, Try.sizeOf120, fun w => ⟨_, Try.zeroValue120 w, rfl⟩, rfl, trivial⟩ -- func(int) bool
theorem ty_ok126 : TyOk Try.prog 126 ⟨true, 5, [.int .i64 0, .int .i64 0, .int .i64 0, .int .i64 0, .int .i64 0], .struct [(0, 1, false), (1, 1, false), (2, 1, false), (3, 1, false), (4, 1, false)]⟩ := ⟨Try.isAgg126, Try.sizeOf126, fun w => ⟨_, Try.zeroValue126 w, rfl⟩, rfl, struct_ok Try.runUnderlying126 ⟨rfl, Try.sizeOf3, Try.isAgg3, ⟨rfl, Try.sizeOf3, Try.isAgg3, ⟨rfl, Try.sizeOf3, Try.isAgg3, ⟨rfl, Try.sizeOf3, Try.isAgg3, ⟨rfl, Try.sizeOf3, Try.isAgg3, trivial⟩⟩⟩⟩⟩⟩ -- api.Track
theorem ty_ok128 : TyOk Try.prog 128 ⟨false, 1, [(.pointer none)], .ptr 198⟩ := ⟨Try.isAgg128, Try.sizeOf128, fun w => ⟨_, Try.zeroValue128 w, rfl⟩, rfl, Try.runUnderlying128⟩ -- *route.desk
theorem ty_ok134 : TyOk Try.prog 134 ⟨true, 2, [.int .i64 0, .bool false], .struct [(0, 1, false), (1, 1, false)]⟩ := ⟨Try.isAgg134, Try.sizeOf134, fun w => ⟨_, Try.zeroValue134 w, rfl⟩, rfl, struct_ok Try.runUnderlying134 ⟨rfl, Try.sizeOf3, Try.isAgg3, ⟨rfl, Try.sizeOf4, Try.isAgg4, trivial⟩⟩⟩ -- route.flown
theorem ty_ok142 : TyOk Try.prog 142 ⟨true, 6, [.int .i64 0, .int .i64 0, .int .i64 0, .int .i64 0, .int .i64 0, .int .i64 0], .struct [(0, 1, false), (1, 4, true), (5, 1, false)]⟩ := ⟨Try.isAgg142, Try.sizeOf142, fun w => ⟨_, Try.zeroValue142 w, rfl⟩, rfl, struct_ok Try.runUnderlying142 ⟨rfl, Try.sizeOf3, Try.isAgg3, ⟨rfl, Try.sizeOf67, Try.isAgg67, ⟨rfl, Try.sizeOf3, Try.isAgg3, trivial⟩⟩⟩⟩ -- api.Gale
theorem ty_ok145 : TyOk Try.prog 145 ⟨false, 1, [.nilFunc], .other⟩ := ⟨Try.isAgg145, Try.sizeOf145, fun w => ⟨_, Try.zeroValue145 w, rfl⟩, rfl, trivial⟩ -- func(api.Wind) api.Span
theorem ty_ok147 : TyOk Try.prog 147 ⟨true, 4, [.int .i64 0, .int .i64 0, .int .i64 0, .int .i64 0], .array 2 39⟩ := ⟨Try.isAgg147, Try.sizeOf147, fun w => ⟨_, Try.zeroValue147 w, rfl⟩, rfl, Try.runUnderlying147⟩ -- [2]api.Span
theorem ty_ok157 : TyOk Try.prog 157 ⟨false, 1, [.nilFunc], .other⟩ := ⟨Try.isAgg157, Try.sizeOf157, fun w => ⟨_, Try.zeroValue157 w, rfl⟩, rfl, trivial⟩ -- func(api.Trip) bool
theorem ty_ok159 : TyOk Try.prog 159 ⟨false, 1, [.nilFunc], .other⟩ := ⟨Try.isAgg159, Try.sizeOf159, fun w => ⟨_, Try.zeroValue159 w, rfl⟩, rfl, trivial⟩ -- func(int, int, []api.Shift) bool
theorem ty_ok165 : TyOk Try.prog 165 ⟨false, 1, [.nilFunc], .other⟩ := ⟨Try.isAgg165, Try.sizeOf165, fun w => ⟨_, Try.zeroValue165 w, rfl⟩, rfl, trivial⟩ -- func(api.Load) bool
theorem ty_ok170 : TyOk Try.prog 170 ⟨false, 1, [.nilFunc], .other⟩ := ⟨Try.isAgg170, Try.sizeOf170, fun w => ⟨_, Try.zeroValue170 w, rfl⟩, rfl, trivial⟩ -- func(api.Load) api.Span
theorem ty_ok178 : TyOk Try.prog 178 ⟨false, 1, [.nilFunc], .other⟩ := ⟨Try.isAgg178, Try.sizeOf178, fun w => ⟨_, Try.zeroValue178 w, rfl⟩, rfl, trivial⟩ -- func(api.Load) (api.Put, int)
theorem ty_ok180 : TyOk Try.prog 180 ⟨true, 3, [.int .i64 0, .int .i64 0, .int .i64 0], .struct [(0, 3, true)]⟩ := ⟨Try.isAgg180, Try.sizeOf180, fun w => ⟨_, Try.zeroValue180 w, rfl⟩, rfl, struct_ok Try.runUnderlying180 ⟨rfl, Try.sizeOf98, Try.isAgg98, trivial⟩⟩ -- trim.side
theorem ty_ok186 : TyOk Try.prog 186 ⟨true, 3, [.int .i64 0, .int .i64 0, .int .i64 0], .struct [(0, 1, false), (1, 1, false), (2, 1, false)]⟩ := ⟨Try.isAgg186, Try.sizeOf186, fun w => ⟨_, Try.zeroValue186 w, rfl⟩, rfl, struct_ok Try.runUnderlying186 ⟨rfl, Try.sizeOf3, Try.isAgg3, ⟨rfl, Try.sizeOf3, Try.isAgg3, ⟨rfl, Try.sizeOf3, Try.isAgg3, trivial⟩⟩⟩⟩ -- route.reached
theorem ty_ok188 : TyOk Try.prog 188 ⟨false, 1, [(.slice none 0 0)], .slice 186⟩ := ⟨Try.isAgg188, Try.sizeOf188, fun w => ⟨_, Try.zeroValue188 w, rfl⟩, rfl, Try.runUnderlying188⟩ -- route.front
theorem ty_ok191 : TyOk Try.prog 191 ⟨true, 2, [.int .i64 0, .bool false], .struct [(0, 1, false), (1, 1, false)]⟩ := ⟨Try.isAgg191, Try.sizeOf191, fun w => ⟨_, Try.zeroValue191 w, rfl⟩, rfl, struct_ok Try.runUnderlying191 ⟨rfl, Try.sizeOf3, Try.isAgg3, ⟨rfl, Try.sizeOf4, Try.isAgg4, trivial⟩⟩⟩ -- struct { cell int; is bool }
theorem ty_ok192 : TyOk Try.prog 192 ⟨true, 8, [.int .i64 0, .bool false, .int .i64 0, .bool false, .int .i64 0, .bool false, .int .i64 0, .bool false], .array 4 191⟩ := ⟨Try.isAgg192, Try.sizeOf192, fun w => ⟨_, Try.zeroValue192 w, rfl⟩, rfl, Try.runUnderlying192⟩ -- [4]struct { cell int; is bool }
theorem ty_ok195 : TyOk Try.prog 195 ⟨true, 3, [.int .i64 0, .int .i64 0, .int .i64 0], .array 3 25⟩ := ⟨Try.isAgg195, Try.sizeOf195, fun w => ⟨_, Try.zeroValue195 w, rfl⟩, rfl, Try.runUnderlying195⟩ -- [3]api.Errno
theorem ty_ok196 : TyOk Try.prog 196 ⟨false, 1, [(.map none)], .other⟩ := ⟨Try.isAgg196, Try.sizeOf196, fun w => ⟨_, Try.zeroValue196 w, rfl⟩, rfl, trivial⟩ -- map[route.flown][]route.rate
theorem ty_ok198 : TyOk Try.prog 198 ⟨true, 10, [.slice none 0 0, .slice none 0 0, .int .i64 0, .int .i64 0, .int .i64 0, .int .i64 0, .int .i64 0, .int .i64 0, .int .i64 0, .map none], .struct [(0, 2, true), (2, 7, true), (9, 1, false)]⟩ := ⟨Try.isAgg198, Try.sizeOf198, fun w => ⟨_, Try.zeroValue198 w, rfl⟩, rfl, struct_ok Try.runUnderlying198 ⟨rfl, Try.sizeOf37, Try.isAgg37, ⟨rfl, Try.sizeOf41, Try.isAgg41, ⟨rfl, Try.sizeOf196, Try.isAgg196, trivial⟩⟩⟩⟩ -- route.desk
theorem ty_ok199 : TyOk Try.prog 199 ⟨false, 1, [(.slice none 0 0)], .slice 202⟩ := ⟨Try.isAgg199, Try.sizeOf199, fun w => ⟨_, Try.zeroValue199 w, rfl⟩, rfl, Try.runUnderlying199⟩ -- []route.rate
theorem ty_ok202 : TyOk Try.prog 202 ⟨true, 2, [.int .i64 0, .int .i64 0], .struct [(0, 1, false), (1, 1, false)]⟩ := ⟨Try.isAgg202, Try.sizeOf202, fun w => ⟨_, Try.zeroValue202 w, rfl⟩, rfl, struct_ok Try.runUnderlying202 ⟨rfl, Try.sizeOf3, Try.isAgg3, ⟨rfl, Try.sizeOf3, Try.isAgg3, trivial⟩⟩⟩ -- route.rate
theorem ty_ok208 : TyOk Try.prog 208 ⟨false, 1, [(.int .u64 0)], .int .u64⟩ := ⟨Try.isAgg208, Try.sizeOf208, fun w => ⟨_, Try.zeroValue208 w, rfl⟩, rfl, Try.runUnderlying208⟩ -- uint
theorem ty_ok209 : TyOk Try.prog 209 ⟨false, 1, [(.slice none 0 0)], .slice 211⟩ := ⟨Try.isAgg209, Try.sizeOf209, fun w => ⟨_, Try.zeroValue209 w, rfl⟩, rfl, Try.runUnderlying209⟩ -- []api.Knot
theorem ty_ok211 : TyOk Try.prog 211 ⟨true, 3, [.int .i64 0, .int .i64 0, .int .i64 0], .struct [(0, 1, false), (1, 2, true)]⟩ := ⟨Try.isAgg211, Try.sizeOf211, fun w => ⟨_, Try.zeroValue211 w, rfl⟩, rfl, struct_ok Try.runUnderlying211 ⟨rfl, Try.sizeOf3, Try.isAgg3, ⟨rfl, Try.sizeOf39, Try.isAgg39, trivial⟩⟩⟩ -- api.Knot
theorem ty_ok215 : TyOk Try.prog 215 ⟨false, 1, [(.slice none 0 0)], .slice 25⟩ := ⟨Try.isAgg215, Try.sizeOf215, fun w => ⟨_, Try.zeroValue215 w, rfl⟩, rfl, Try.runUnderlying215⟩ -- []api.Errno
theorem ty_ok218 : TyOk Try.prog 218 ⟨false, 1, [.nilFunc], .other⟩ := ⟨Try.isAgg218, Try.sizeOf218, fun w => ⟨_, Try.zeroValue218 w, rfl⟩, rfl, trivial⟩ -- func(api.Shift, api.Shift) int
theorem ty_ok219 : TyOk Try.prog 219 ⟨true, 2, [.int .i64 0, .bool false], .struct [(0, 1, false), (1, 1, false)]⟩ := ⟨Try.isAgg219, Try.sizeOf219, fun w => ⟨_, Try.zeroValue219 w, rfl⟩, rfl, struct_ok Try.runUnderlying219 ⟨rfl, Try.sizeOf3, Try.isAgg3, ⟨rfl, Try.sizeOf4, Try.isAgg4, trivial⟩⟩⟩ -- struct { kind int; is bool }
theorem ty_ok220 : TyOk Try.prog 220 ⟨true, 6, [.int .i64 0, .bool false, .int .i64 0, .bool false, .int .i64 0, .bool false], .array 3 219⟩ := ⟨Try.isAgg220, Try.sizeOf220, fun w => ⟨_, Try.zeroValue220 w, rfl⟩, rfl, Try.runUnderlying220⟩ -- [3]struct { kind int; is bool }
theorem ty_ok222 : TyOk Try.prog 222 ⟨true, 3, [.int .i64 0, .int .i64 0, .int .i64 0], .struct [(0, 1, false), (1, 1, false), (2, 1, false)]⟩ := ⟨Try.isAgg222, Try.sizeOf222, fun w => ⟨_, Try.zeroValue222 w, rfl⟩, rfl, struct_ok Try.runUnderlying222 ⟨rfl, Try.sizeOf3, Try.isAgg3, ⟨rfl, Try.sizeOf3, Try.isAgg3, ⟨rfl, Try.sizeOf3, Try.isAgg3, trivial⟩⟩⟩⟩ -- api.Tired
theorem ty_ok228 : TyOk Try.prog 228 ⟨true, 2, [.int .i64 0, .int .i64 0], .struct [(0, 1, false), (1, 1, false)]⟩ := ⟨Try.isAgg228, Try.sizeOf228, fun w => ⟨_, Try.zeroValue228 w, rfl⟩, rfl, struct_ok Try.runUnderlying228 ⟨rfl, Try.sizeOf3, Try.isAgg3, ⟨rfl, Try.sizeOf3, Try.isAgg3, trivial⟩⟩⟩ -- api.Put
theorem ty_ok235 : TyOk Try.prog 235 ⟨false, 1, [.nilFunc], .other⟩ := ⟨Try.isAgg235, Try.sizeOf235, fun w => ⟨_, Try.zeroValue235 w, rfl⟩, rfl, trivial⟩ -- func(api.Corner, api.Corner) int
theorem ty_ok237 : TyOk Try.prog 237 ⟨false, 1, [.nilIface], .other⟩ := ⟨Try.isAgg237, Try.sizeOf237, fun w => ⟨_, Try.zeroValue237 w, rfl⟩, rfl, trivial⟩ -- heap.Interface
theorem ty_ok245 : TyOk Try.prog 245 ⟨true, 16, [.int .i64 0, .int .i64 0, .int .i64 0, .int .i64 0, .int .i64 0, .int .i64 0, .int .i64 0, .int .i64 0, .int .i64 0, .int .i64 0, .int .i64 0, .int .i64 0, .int .i64 0, .int .i64 0, .int .i64 0, .int .i64 0], .array 8 39⟩ := ⟨Try.isAgg245, Try.sizeOf245, fun w => ⟨_, Try.zeroValue245 w, rfl⟩, rfl, Try.runUnderlying245⟩ -- [8]api.Span
theorem ty_ok246 : TyOk Try.prog 246 ⟨true, 2, [.int .i64 0, .int .i64 0], .array 2 3⟩ := ⟨Try.isAgg246, Try.sizeOf246, fun w => ⟨_, Try.zeroValue246 w, rfl⟩, rfl, Try.runUnderlying246⟩ -- [2]int
theorem ty_ok249 : TyOk Try.prog 249 ⟨false, 1, [(.slice none 0 0)], .slice 39⟩ := ⟨Try.isAgg249, Try.sizeOf249, fun w => ⟨_, Try.zeroValue249 w, rfl⟩, rfl, Try.runUnderlying249⟩ -- []api.Span
theorem ty_ok261 : TyOk Try.prog 261 ⟨false, 1, [(.slice none 0 0)], .slice 101⟩ := ⟨Try.isAgg261, Try.sizeOf261, fun w => ⟨_, Try.zeroValue261 w, rfl⟩, rfl, Try.runUnderlying261⟩ -- [][]api.Corner
theorem ty_ok265 : TyOk Try.prog 265 ⟨false, 1, [(.int .u64 0)], .int .u64⟩ := ⟨Try.isAgg265, Try.sizeOf265, fun w => ⟨_, Try.zeroValue265 w, rfl⟩, rfl, Try.runUnderlying265⟩ -- uint64
theorem ty_ok281 : TyOk Try.prog 281 ⟨false, 1, [.nilIface], .other⟩ := ⟨Try.isAgg281, Try.sizeOf281, fun w => ⟨_, Try.zeroValue281 w, rfl⟩, rfl, trivial⟩ -- error
theorem ty_ok287 : TyOk Try.prog 287 ⟨false, 1, [(.int .i64 0)], .int .i64⟩ := ⟨Try.isAgg287, Try.sizeOf287, fun w => ⟨_, Try.zeroValue287 w, rfl⟩, rfl, Try.runUnderlying287⟩ -- slices.sortedHint
theorem ty_ok294 : TyOk Try.prog 294 ⟨false, 1, [(.int .u32 0)], .int .u32⟩ := ⟨Try.isAgg294, Try.sizeOf294, fun w => ⟨_, Try.zeroValue294 w, rfl⟩, rfl, Try.runUnderlying294⟩ -- uint32
theorem ty_ok297 : TyOk Try.prog 297 ⟨false, 1, [(.int .u64 0)], .int .u64⟩ := ⟨Try.isAgg297, Try.sizeOf297, fun w => ⟨_, Try.zeroValue297 w, rfl⟩, rfl, Try.runUnderlying297⟩ -- slices.xorshift
theorem ty_ok301 : TyOk Try.prog 301 ⟨false, 1, [(.pointer none)], .ptr 3⟩ := ⟨Try.isAgg301, Try.sizeOf301, fun w => ⟨_, Try.zeroValue301 w, rfl⟩, rfl, Try.runUnderlying301⟩ -- *int
def tys : List (Nat × TyI) := [(3, ⟨false, 1, [(.int .i64 0)], .int .i64⟩),
  (4, ⟨false, 1, [(.bool false)], .other⟩),
  (5, ⟨false, 1, [(.int .u8 0)], .int .u8⟩),
  (9, ⟨false, 1, [(.string { data := #[] })], .other⟩),
  (20, ⟨false, 1, [.nilIface], .other⟩),
  (22, ⟨false, 1, [(.slice none 0 0)], .slice 3⟩),
  (24, ⟨true, 3, [.int .i64 0, .int .i64 0, .slice none 0 0], .struct [(0, 1, false), (1, 1, false), (2, 1, false)]⟩),
  (25, ⟨false, 1, [(.int .i64 0)], .int .i64⟩),
  (34, ⟨false, 1, [(.slice none 0 0)], .slice 4⟩),
  (35, ⟨false, 1, [(.slice none 0 0)], .slice 126⟩),
  (37, ⟨true, 2, [.slice none 0 0, .slice none 0 0], .struct [(0, 1, false), (1, 1, false)]⟩),
  (39, ⟨true, 2, [.int .i64 0, .int .i64 0], .struct [(0, 1, false), (1, 1, false)]⟩),
  (41, ⟨true, 7, [.int .i64 0, .int .i64 0, .int .i64 0, .int .i64 0, .int .i64 0, .int .i64 0, .int .i64 0], .struct [(0, 1, false), (1, 1, false), (2, 1, false), (3, 1, false), (4, 1, false), (5, 2, true)]⟩),
  (42, ⟨false, 1, [(.slice none 0 0)], .slice 59⟩),
  (59, ⟨false, 1, [(.slice none 0 0)], .slice 142⟩),
  (61, ⟨true, 2, [.int .i64 0, .int .i64 0], .struct [(0, 1, false), (1, 1, false)]⟩),
  (62, ⟨false, 1, [(.int .u16 0)], .int .u16⟩),
  (67, ⟨true, 4, [.int .i64 0, .int .i64 0, .int .i64 0, .int .i64 0], .struct [(0, 2, true), (2, 2, true)]⟩),
  (80, ⟨true, 4, [.int .i64 0, .int .i64 0, .int .i64 0, .int .i64 0], .struct [(0, 1, false), (1, 1, false), (2, 1, false), (3, 1, false)]⟩),
  (81, ⟨false, 1, [(.slice none 0 0)], .slice 91⟩),
  (84, ⟨false, 1, [(.slice none 0 0)], .slice 22⟩),
  (88, ⟨true, 3, [.int .i64 0, .int .i64 0, .int .i64 0], .struct [(0, 1, false), (1, 1, false), (2, 1, false)]⟩),
  (89, ⟨false, 1, [(.slice none 0 0)], .slice 88⟩),
  (91, ⟨true, 3, [.int .i64 0, .int .i64 0, .int .i64 0], .struct [(0, 1, false), (1, 1, false), (2, 1, false)]⟩),
  (92, ⟨false, 1, [(.slice none 0 0)], .slice 222⟩),
  (96, ⟨false, 1, [(.slice none 0 0)], .slice 113⟩),
  (98, ⟨true, 3, [.int .i64 0, .int .i64 0, .int .i64 0], .struct [(0, 1, false), (1, 1, false), (2, 1, false)]⟩),
  (99, ⟨false, 1, [(.slice none 0 0)], .slice 5⟩),
  (101, ⟨false, 1, [(.slice none 0 0)], .slice 111⟩),
  (105, ⟨true, 3, [.int .i64 0, .int .i64 0, .int .i64 0], .struct [(0, 1, false), (1, 1, false), (2, 1, false)]⟩),
  (106, ⟨false, 1, [(.slice none 0 0)], .slice 105⟩),
  (108, ⟨false, 1, [(.slice none 0 0)], .slice 228⟩),
  (111, ⟨true, 2, [.int .i64 0, .int .i64 0], .struct [(0, 1, false), (1, 1, false)]⟩),
  (113, ⟨true, 4, [.int .i64 0, .int .i64 0, .int .i64 0, .int .i64 0], .struct [(0, 2, true), (2, 2, true)]⟩),
  (120, ⟨false, 1, [.nilFunc], .other⟩),
  (126, ⟨true, 5, [.int .i64 0, .int .i64 0, .int .i64 0, .int .i64 0, .int .i64 0], .struct [(0, 1, false), (1, 1, false), (2, 1, false), (3, 1, false), (4, 1, false)]⟩),
  (128, ⟨false, 1, [(.pointer none)], .ptr 198⟩),
  (134, ⟨true, 2, [.int .i64 0, .bool false], .struct [(0, 1, false), (1, 1, false)]⟩),
  (142, ⟨true, 6, [.int .i64 0, .int .i64 0, .int .i64 0, .int .i64 0, .int .i64 0, .int .i64 0], .struct [(0, 1, false), (1, 4, true), (5, 1, false)]⟩),
  (145, ⟨false, 1, [.nilFunc], .other⟩),
  (147, ⟨true, 4, [.int .i64 0, .int .i64 0, .int .i64 0, .int .i64 0], .array 2 39⟩),
  (157, ⟨false, 1, [.nilFunc], .other⟩),
  (159, ⟨false, 1, [.nilFunc], .other⟩),
  (165, ⟨false, 1, [.nilFunc], .other⟩),
  (170, ⟨false, 1, [.nilFunc], .other⟩),
  (178, ⟨false, 1, [.nilFunc], .other⟩),
  (180, ⟨true, 3, [.int .i64 0, .int .i64 0, .int .i64 0], .struct [(0, 3, true)]⟩),
  (186, ⟨true, 3, [.int .i64 0, .int .i64 0, .int .i64 0], .struct [(0, 1, false), (1, 1, false), (2, 1, false)]⟩),
  (188, ⟨false, 1, [(.slice none 0 0)], .slice 186⟩),
  (191, ⟨true, 2, [.int .i64 0, .bool false], .struct [(0, 1, false), (1, 1, false)]⟩),
  (192, ⟨true, 8, [.int .i64 0, .bool false, .int .i64 0, .bool false, .int .i64 0, .bool false, .int .i64 0, .bool false], .array 4 191⟩),
  (195, ⟨true, 3, [.int .i64 0, .int .i64 0, .int .i64 0], .array 3 25⟩),
  (196, ⟨false, 1, [(.map none)], .other⟩),
  (198, ⟨true, 10, [.slice none 0 0, .slice none 0 0, .int .i64 0, .int .i64 0, .int .i64 0, .int .i64 0, .int .i64 0, .int .i64 0, .int .i64 0, .map none], .struct [(0, 2, true), (2, 7, true), (9, 1, false)]⟩),
  (199, ⟨false, 1, [(.slice none 0 0)], .slice 202⟩),
  (202, ⟨true, 2, [.int .i64 0, .int .i64 0], .struct [(0, 1, false), (1, 1, false)]⟩),
  (208, ⟨false, 1, [(.int .u64 0)], .int .u64⟩),
  (209, ⟨false, 1, [(.slice none 0 0)], .slice 211⟩),
  (211, ⟨true, 3, [.int .i64 0, .int .i64 0, .int .i64 0], .struct [(0, 1, false), (1, 2, true)]⟩),
  (215, ⟨false, 1, [(.slice none 0 0)], .slice 25⟩),
  (218, ⟨false, 1, [.nilFunc], .other⟩),
  (219, ⟨true, 2, [.int .i64 0, .bool false], .struct [(0, 1, false), (1, 1, false)]⟩),
  (220, ⟨true, 6, [.int .i64 0, .bool false, .int .i64 0, .bool false, .int .i64 0, .bool false], .array 3 219⟩),
  (222, ⟨true, 3, [.int .i64 0, .int .i64 0, .int .i64 0], .struct [(0, 1, false), (1, 1, false), (2, 1, false)]⟩),
  (228, ⟨true, 2, [.int .i64 0, .int .i64 0], .struct [(0, 1, false), (1, 1, false)]⟩),
  (235, ⟨false, 1, [.nilFunc], .other⟩),
  (237, ⟨false, 1, [.nilIface], .other⟩),
  (245, ⟨true, 16, [.int .i64 0, .int .i64 0, .int .i64 0, .int .i64 0, .int .i64 0, .int .i64 0, .int .i64 0, .int .i64 0, .int .i64 0, .int .i64 0, .int .i64 0, .int .i64 0, .int .i64 0, .int .i64 0, .int .i64 0, .int .i64 0], .array 8 39⟩),
  (246, ⟨true, 2, [.int .i64 0, .int .i64 0], .array 2 3⟩),
  (249, ⟨false, 1, [(.slice none 0 0)], .slice 39⟩),
  (261, ⟨false, 1, [(.slice none 0 0)], .slice 101⟩),
  (265, ⟨false, 1, [(.int .u64 0)], .int .u64⟩),
  (281, ⟨false, 1, [.nilIface], .other⟩),
  (287, ⟨false, 1, [(.int .i64 0)], .int .i64⟩),
  (294, ⟨false, 1, [(.int .u32 0)], .int .u32⟩),
  (297, ⟨false, 1, [(.int .u64 0)], .int .u64⟩),
  (301, ⟨false, 1, [(.pointer none)], .ptr 3⟩)]
theorem tys_ok : ∀ x ∈ tys, TyOk Try.prog x.1 x.2 := by
  unfold tys
  refine List.forall_mem_cons.2 ⟨ty_ok3, ?_⟩
  refine List.forall_mem_cons.2 ⟨ty_ok4, ?_⟩
  refine List.forall_mem_cons.2 ⟨ty_ok5, ?_⟩
  refine List.forall_mem_cons.2 ⟨ty_ok9, ?_⟩
  refine List.forall_mem_cons.2 ⟨ty_ok20, ?_⟩
  refine List.forall_mem_cons.2 ⟨ty_ok22, ?_⟩
  refine List.forall_mem_cons.2 ⟨ty_ok24, ?_⟩
  refine List.forall_mem_cons.2 ⟨ty_ok25, ?_⟩
  refine List.forall_mem_cons.2 ⟨ty_ok34, ?_⟩
  refine List.forall_mem_cons.2 ⟨ty_ok35, ?_⟩
  refine List.forall_mem_cons.2 ⟨ty_ok37, ?_⟩
  refine List.forall_mem_cons.2 ⟨ty_ok39, ?_⟩
  refine List.forall_mem_cons.2 ⟨ty_ok41, ?_⟩
  refine List.forall_mem_cons.2 ⟨ty_ok42, ?_⟩
  refine List.forall_mem_cons.2 ⟨ty_ok59, ?_⟩
  refine List.forall_mem_cons.2 ⟨ty_ok61, ?_⟩
  refine List.forall_mem_cons.2 ⟨ty_ok62, ?_⟩
  refine List.forall_mem_cons.2 ⟨ty_ok67, ?_⟩
  refine List.forall_mem_cons.2 ⟨ty_ok80, ?_⟩
  refine List.forall_mem_cons.2 ⟨ty_ok81, ?_⟩
  refine List.forall_mem_cons.2 ⟨ty_ok84, ?_⟩
  refine List.forall_mem_cons.2 ⟨ty_ok88, ?_⟩
  refine List.forall_mem_cons.2 ⟨ty_ok89, ?_⟩
  refine List.forall_mem_cons.2 ⟨ty_ok91, ?_⟩
  refine List.forall_mem_cons.2 ⟨ty_ok92, ?_⟩
  refine List.forall_mem_cons.2 ⟨ty_ok96, ?_⟩
  refine List.forall_mem_cons.2 ⟨ty_ok98, ?_⟩
  refine List.forall_mem_cons.2 ⟨ty_ok99, ?_⟩
  refine List.forall_mem_cons.2 ⟨ty_ok101, ?_⟩
  refine List.forall_mem_cons.2 ⟨ty_ok105, ?_⟩
  refine List.forall_mem_cons.2 ⟨ty_ok106, ?_⟩
  refine List.forall_mem_cons.2 ⟨ty_ok108, ?_⟩
  refine List.forall_mem_cons.2 ⟨ty_ok111, ?_⟩
  refine List.forall_mem_cons.2 ⟨ty_ok113, ?_⟩
  refine List.forall_mem_cons.2 ⟨ty_ok120, ?_⟩
  refine List.forall_mem_cons.2 ⟨ty_ok126, ?_⟩
  refine List.forall_mem_cons.2 ⟨ty_ok128, ?_⟩
  refine List.forall_mem_cons.2 ⟨ty_ok134, ?_⟩
  refine List.forall_mem_cons.2 ⟨ty_ok142, ?_⟩
  refine List.forall_mem_cons.2 ⟨ty_ok145, ?_⟩
  refine List.forall_mem_cons.2 ⟨ty_ok147, ?_⟩
  refine List.forall_mem_cons.2 ⟨ty_ok157, ?_⟩
  refine List.forall_mem_cons.2 ⟨ty_ok159, ?_⟩
  refine List.forall_mem_cons.2 ⟨ty_ok165, ?_⟩
  refine List.forall_mem_cons.2 ⟨ty_ok170, ?_⟩
  refine List.forall_mem_cons.2 ⟨ty_ok178, ?_⟩
  refine List.forall_mem_cons.2 ⟨ty_ok180, ?_⟩
  refine List.forall_mem_cons.2 ⟨ty_ok186, ?_⟩
  refine List.forall_mem_cons.2 ⟨ty_ok188, ?_⟩
  refine List.forall_mem_cons.2 ⟨ty_ok191, ?_⟩
  refine List.forall_mem_cons.2 ⟨ty_ok192, ?_⟩
  refine List.forall_mem_cons.2 ⟨ty_ok195, ?_⟩
  refine List.forall_mem_cons.2 ⟨ty_ok196, ?_⟩
  refine List.forall_mem_cons.2 ⟨ty_ok198, ?_⟩
  refine List.forall_mem_cons.2 ⟨ty_ok199, ?_⟩
  refine List.forall_mem_cons.2 ⟨ty_ok202, ?_⟩
  refine List.forall_mem_cons.2 ⟨ty_ok208, ?_⟩
  refine List.forall_mem_cons.2 ⟨ty_ok209, ?_⟩
  refine List.forall_mem_cons.2 ⟨ty_ok211, ?_⟩
  refine List.forall_mem_cons.2 ⟨ty_ok215, ?_⟩
  refine List.forall_mem_cons.2 ⟨ty_ok218, ?_⟩
  refine List.forall_mem_cons.2 ⟨ty_ok219, ?_⟩
  refine List.forall_mem_cons.2 ⟨ty_ok220, ?_⟩
  refine List.forall_mem_cons.2 ⟨ty_ok222, ?_⟩
  refine List.forall_mem_cons.2 ⟨ty_ok228, ?_⟩
  refine List.forall_mem_cons.2 ⟨ty_ok235, ?_⟩
  refine List.forall_mem_cons.2 ⟨ty_ok237, ?_⟩
  refine List.forall_mem_cons.2 ⟨ty_ok245, ?_⟩
  refine List.forall_mem_cons.2 ⟨ty_ok246, ?_⟩
  refine List.forall_mem_cons.2 ⟨ty_ok249, ?_⟩
  refine List.forall_mem_cons.2 ⟨ty_ok261, ?_⟩
  refine List.forall_mem_cons.2 ⟨ty_ok265, ?_⟩
  refine List.forall_mem_cons.2 ⟨ty_ok281, ?_⟩
  refine List.forall_mem_cons.2 ⟨ty_ok287, ?_⟩
  refine List.forall_mem_cons.2 ⟨ty_ok294, ?_⟩
  refine List.forall_mem_cons.2 ⟨ty_ok297, ?_⟩
  refine List.forall_mem_cons.2 ⟨ty_ok301, ?_⟩
  exact fun x hx => (List.not_mem_nil hx).elim
theorem app_ok22 : AppOk Try.prog 22 3 1 8 := ⟨Try.underlying22, ⟨Try.t3, _, (by kernel_rfl), rfl, rfl, rfl, rfl⟩, by decide⟩
theorem app_ok188 : AppOk Try.prog 188 186 3 24 := ⟨Try.underlying188, ⟨Try.t186, _, (by kernel_rfl), rfl, rfl, rfl, rfl⟩, by decide⟩
/-- The setting of a walk that only adds to the world. -/
@[reducible] noncomputable def cx (w : World) (N : Nat) : Cx := ⟨Try.prog, tys, tys_ok, w, [], N⟩
/-- The setting of a walk that may write the blocks M. -/
@[reducible] noncomputable def cxM (M : List Nat) (w : World) (N : Nat) : Cx := ⟨Try.prog, tys, tys_ok, w, M, N⟩
theorem madeCells_rows (zs : List Value) : ∀ n : Nat, (madeCells zs.toArray (n * zs.length)).toList = (List.replicate n zs).flatten := by
  intro n
  have key : (List.range (n * zs.length)).map (fun j => zs[j % zs.length]!) = (List.replicate n zs).flatten := by
    induction n with
    | zero => simp
    | succ n ih =>
      rw [Nat.succ_mul, Nat.add_comm, List.range_add, List.map_append, List.map_map, List.replicate_succ, List.flatten_cons, ← ih]
      congr 1
      · refine List.ext_getElem (by simp) fun i h1 h2 => ?_
        simp at h1
        simp [Nat.mod_eq_of_lt h1, h1]
      · refine List.map_congr_left fun j _ => ?_
        simp
  rw [← key]
  simp [madeCells]
theorem ox_make {c : Cx} {F : Fr} {H : Hp} {K : Value → Hp → Prop} {d : Option Tmp} {ty : TypeId} {pos : String} {af : Array Edge} {g : Option (Nat × Bool)} {x y : Operand} {t e size bytes n : Nat} {z : Value} {zs : List Value} (hk : AppOk c.P t e size bytes) (hz : (c.P.info? e).map (fun i => i.zero) = some (some z)) (hzs : z.cells = zs.toArray) (hl : zs.length = size)
    (hx : ev F x = some (.int .i64 (n : Int))) (hy : ev F y = some (.int .i64 (n : Int))) (hb : bytes * n ≤ 281474976710656) (hn : n ≤ maxLen) (k : ∀ b, K (.slice (some ⟨b, 0, none⟩) n n) ((b, (List.replicate n zs).flatten, some (e, size, n)) :: H)) : OX c ⟨d, .makeSlice t x y, ty, pos, af, g⟩ F H K := by
  intro D a w ha hw
  obtain ⟨i, z', k1, k2, k3, k4, k5⟩ := hk.info
  have hz' : i.zero = some z := by rw [k1] at hz; simpa using hz
  have hn' : (n : Int) ≤ 9223372036854775807 := by unfold maxLen at hn; omega
  have hb' : (i.bytes : Int) * (n : Int) ≤ 281474976710656 := by
    have h : ((i.bytes * n : Nat) : Int) ≤ 281474976710656 := by rw [k4]; omega
    rwa [Int.natCast_mul] at h
  have hr := run_make (P := c.P) w t e i z hk.und k1 hz' .i64 .i64 n n (by omega) (Int.le_refl _) hb' hn'
  simp only [Int.toNat_natCast, k3, hzs] at hr
  have hc : (madeCells zs.toArray (n * size)) = ((List.replicate n zs).flatten).toArray := by
    rw [← Array.toList_inj, ← hl, madeCells_rows]
  rw [hc] at hr
  have : (execOp a.eval ⟨d, .makeSlice t x y, ty, pos, af, g⟩).run c.P w = .ok (.value (.slice (some ⟨w.heap.size, 0, none⟩) n n)) (w.alloc (.cells ((List.replicate n zs).flatten).toArray e)) := by
    simp [execOp, ha.ev hx, ha.ev hy, Sem.run_bind, Sem.run_pure, Result.andThen, hr]
  rw [this]
  exact ⟨⟨_, k w.heap.size, hw.fresh ((Ext.refl w).alloc _) (Nat.le_refl _) (Blk.row w _ e size n (by simp [hl]) hn)⟩, (Ext.refl w).alloc _⟩
section
variable {c : Cx} {S : WS c.P} {Q : QS} {F : Fr} {H : Hp}
end
theorem Has.blkP {w0 : World} {M : Ms} {H H' : Hp} {w : World} {b : Nat} {C : List Value} {tg : Tg} (h : Has w0 M H w) (p : Pick H b C tg H') : Blk w b C tg := (h.blk _ p.mem).2
theorem Has.left {w0 : World} {M : Ms} {w : World} {G H : Hp} (h : Has w0 M (G ++ H) w) : Has w0 M G w :=
  ⟨h.ext, fun x hx => h.blk x (List.mem_append_left _ hx), by have := h.nodup; rw [List.map_append, List.nodup_append] at this; exact this.1, h.marks⟩
theorem Has.ownG {w0 : World} {M : Ms} {H G : Hp} {w : World} (h : Has w0 M H w) (p : HpSub H G) : Has w ⟨G.map Prod.fst, []⟩ G w := by
  have h' := h.sub p
  exact ⟨ExtM.refl _ _, fun x hx => ⟨.inr (List.mem_map.2 ⟨x, hx, rfl⟩), (h'.blk x hx).2⟩, h'.nodup, List.nodup_nil, fun k hk => (List.not_mem_nil hk).elim⟩
theorem Has.called {w0 : World} {M : Ms} {G R H1 : Hp} {w w' : World} (h : Has w0 M (G ++ R) w) (k : Has w ⟨G.map Prod.fst, []⟩ H1 w') : Has w0 M (H1 ++ R) w' := by
  have hn := h.nodup
  rw [List.map_append, List.nodup_append] at hn
  have hG : ∀ b, b ∈ G.map Prod.fst → (w0.heap.size ≤ b ∨ b ∈ M.wr) ∧ ∃ C g, Blk w b C g := fun b hb => by
    obtain ⟨x, hx, rfl⟩ := List.mem_map.1 hb
    have hh := h.blk x (List.mem_append_left _ hx)
    exact ⟨hh.1, _, _, hh.2⟩
  refine ⟨⟨k.ext.os.trans h.ext.os, k.ext.tape.trans h.ext.tape, k.ext.output.trans h.ext.output, Nat.le_trans h.ext.size k.ext.size, fun b hb hm => ?_⟩, fun x hx => ?_, ?_, h.marks.1, fun d hd => ⟨(h.marks.2 d hd).1, ?_⟩⟩
  · rw [k.ext.block b (Nat.lt_of_lt_of_le hb h.ext.size) (fun hg => by
      rcases (hG b hg).1 with h1 | h1
      · omega
      · exact hm h1)]
    exact h.ext.block b hb hm
  · rcases List.mem_append.1 hx with hx | hx
    · have hh := k.blk x hx
      refine ⟨?_, hh.2⟩
      rcases hh.1 with h1 | h1
      · exact .inl (Nat.le_trans h.ext.size h1)
      · exact (hG _ h1).1
    · have hh := h.blk x (List.mem_append_right _ hx)
      refine ⟨hh.1, hh.2.same (k.ext.block _ hh.2.lt fun hg => ?_)⟩
      exact hn.2.2 _ hg _ (List.mem_map.2 ⟨x, hx, rfl⟩) rfl
  · rw [List.map_append, List.nodup_append]
    refine ⟨k.nodup, hn.2.1, fun a ha b hb e => ?_⟩
    obtain ⟨x, hx, rfl⟩ := List.mem_map.1 ha
    obtain ⟨y, hy, rfl⟩ := List.mem_map.1 hb
    have hlt := (h.blk y (List.mem_append_right _ hy)).2.lt
    rcases (k.blk x hx).1 with h1 | h1
    · omega
    · exact hn.2.2 _ h1 _ (List.mem_map.2 ⟨y, hy, rfl⟩) e
  · have hd' := (h.marks.2 d hd).2
    rw [k.ext.block d (mark_lt hd') (fun hg => by
      obtain ⟨_, C, g, h1⟩ := hG d hg
      exact mark_ne h1 hd' rfl)]
    exact hd'
theorem HpSub.skipX {x : Nat × List Value × Tg} {H G : Hp} (h : HpSub H G) : HpSub (x :: H) G := by
  induction h with
  | nil => exact .nil
  | cons p _ ih => exact .cons (.tail p) ih
theorem hp_perm : ∀ {G H : Hp}, H.Perm G → HpSub H G
  | [], H, _ => HpSub.nil
  | (b, C, g) :: G, H, h => by
    have hm : (b, C, g) ∈ H := h.mem_iff.2 (List.mem_cons_self ..)
    obtain ⟨H', hp⟩ : ∃ H', Pick H b C g H' := by
      clear h
      induction H with
      | nil => cases hm
      | cons x H ih =>
        rcases List.mem_cons.1 hm with rfl | hm
        · exact ⟨H, Pick.head _ _ _ _⟩
        · obtain ⟨H', hp⟩ := ih hm
          exact ⟨x :: H', hp.tail⟩
    exact HpSub.cons hp (hp_perm ((hp.perm.symm.trans h).cons_inv))
theorem hp_comm (A B : Hp) : HpSub (A ++ B) (B ++ A) := hp_perm List.perm_append_comm
theorem HpSub.front {x : Nat × List Value × Tg} {H G : Hp} (h : HpSub H G) : HpSub (x :: H) (x :: G) := by
  obtain ⟨b, C, g⟩ := x; exact HpSub.cons P0 h
/-- What holds of the blocks H holds of the blocks G. -/
def HpW (H G : Hp) : Prop := ∀ w0 M w, Has w0 M H w → Has w0 M G w
theorem HpSub.w {H G : Hp} (h : HpSub H G) : HpW H G := fun _ _ _ hw => hw.sub h
theorem HpW.refl (H : Hp) : HpW H H := fun _ _ _ h => h
theorem HpW.trans {H G K : Hp} (h : HpW H G) (k : HpW G K) : HpW H K := fun _ _ _ hw => k _ _ _ (h _ _ _ hw)
theorem Blk.pre {w : World} {b : Nat} {C D : List Value} {tg : Tg} (h : Blk w b (C ++ D) tg) : Blk w b C tg := by
  rcases h with ⟨c, t, e1, e2, e3⟩ | ⟨e, h⟩
  · exact .inl ⟨c, t, e1, fun o v ho => e2 o v (by
      have := (List.getElem?_eq_some_iff.1 ho).1
      rw [List.getElem?_append_left this]; exact ho), e3⟩
  · exact .inr ⟨(List.append_eq_nil_iff.1 e).1, h⟩
theorem HpW.pre {b : Nat} {C D : List Value} {tg : Tg} {H : Hp} : HpW ((b, C ++ D, tg) :: H) ((b, C, tg) :: H) := fun w0 M w h => by
  refine ⟨h.ext, fun x hx => ?_, h.nodup, h.marks⟩
  rcases List.mem_cons.1 hx with rfl | hx
  · have h1 := h.blk _ (List.mem_cons_self ..)
    exact ⟨h1.1, h1.2.pre⟩
  · exact h.blk _ (List.mem_cons_of_mem _ hx)
theorem HpW.cons {x : Nat × List Value × Tg} {H G : Hp} (h : ∀ w0 M w, Has w0 M (x :: H) w → Has w0 M (x :: G) w) : HpW (x :: H) (x :: G) := h
section
variable {c : Cx} {S : WS c.P} {Q : QS} {F : Fr} {H G R : Hp} {x y : Code} {K : Value → Hp → Prop} {d : Option Tmp} {ty : TypeId} {pos : String} {af : Array Edge} {g : Option (Nat × Bool)} {PV : Value → Hp → Prop} {v : Value}
theorem t_fact {P : Prop} (hf : ∀ M w, Has c.w0 M H w → P) (h : P → T c S x Q F H) : T c S x Q F H := fun D a w ha hw => h (hf _ _ hw) D a w ha hw
theorem t_cutW {ι : Type} (fr : ι → Fr) (hp : ι → Hp) (Pi : ι → Prop) (h1 : T c S x (fun e F' H' => e = .normal ∧ ∃ i, Pi i ∧ FrSub F' (fr i) ∧ HpW H' (hp i)) F H) (h2 : ∀ i, Pi i → T c S y Q (fr i) (hp i)) : T c S (.seq x y) Q F H := by
  refine t_seq fun D a w ha hw => S.mono (h1 D a w ha hw) fun e a' w' he => ?_
  obtain ⟨D', F', H', ⟨rfl, i, hi, hF, hH⟩, h3, h4⟩ := he
  exact ⟨D', _, _, h2 i hi, h3.sub hF, hH _ _ _ h4⟩
/-- A call of a function that writes the blocks G, and may hand out others. -/
theorem os_callM {f : Operand} {args : Array Operand} {T : Array TypeId} {k : Nat} {fst cap vs : List Value} (hf : ev F f = some (.func (.func k) ⟨fst⟩ ⟨cap⟩)) (hc : ∀ (a : Array Value) (w : World), (callFunc k a).run c.P w = .ok (.enter k a) w)
    (ha : evs F args.toList = some vs) (hp : HpSub H (G ++ R)) (h : ∀ D w, Has c.w0 ⟨c.M, D⟩ H w → Has w ⟨G.map Prod.fst, []⟩ G w → Calls c.P k ⟨fst ++ vs ++ cap⟩ w fun e w' => ∃ v H1, e = .returned v ∧ PV v H1 ∧ Has w ⟨G.map Prod.fst, []⟩ H1 w')
    (hk : ∀ v H1, PV v H1 → K v (H1 ++ R)) : OS c ⟨d, .call ⟨.value f, args, T⟩, ty, pos, af, g⟩ F H K :=
  os_call hf hc ha fun D w hw => (h D w hw ((hw.sub hp).left.ownG (HpSub.refl _))).mono fun e w' ⟨v, H1, h1, h2, h3⟩ => ⟨v, _, h1, hk v H1 h2, (hw.sub hp).called h3⟩
/-- A function that writes the blocks G. -/
theorem enterM {k : FuncId} {fn : Func} {code : Code} {rs : List ResultVar} {args : List Value} (hf : c.P.funcs[k]? = some fn) (hb : fn.body = some code) (hrs : fn.results = ⟨rs⟩) (hN : c.N = args.length + (fn.ntmps - args.length)) (hG : Has c.w0 ⟨c.M, []⟩ G c.w0)
    (h : T c (WS.own c.P) code (endQ c rs fun v H => ∃ H1, PV v H1 ∧ HpW H H1) (frOf 0 args) G) : Calls c.P k ⟨args⟩ c.w0 fun e w' => ∃ v H1, e = .returned v ∧ PV v H1 ∧ Has c.w0 ⟨c.M, []⟩ H1 w' :=
  (enter hf hb hrs hN (fun d v hv => (look_frOf args 0 d v hv).2) hG h).mono fun e w' ⟨v, H', h1, ⟨H1, h2, h3⟩, h4⟩ => ⟨v, H1, h1, h2, h3 _ _ _ h4⟩
/-! Interfaces -/
theorem oq_makeIface {t : TypeId} {x : Operand} {ds : TypeDesc} (hu : ∀ w, (underlying t).run c.P w = .ok ds w) (hi : ∀ m, ds ≠ .interface m) (hx : ev F x = some v) : OQ c ⟨d, .makeInterface t x, ty, pos, af, g⟩ F H (.iface t v) := .of fun D a w ha _ => by
  have h1 := ha.ev hx
  simp only [execOp, Instr.makeInterface, Sem.run_bind, hu w, Result.andThen, h1]
  cases ds <;> first | (simp [Sem.run_pure, Result.andThen]; done) | exact (hi _ rfl).elim
theorem oq_assert {t s : TypeId} {x : Operand} {ds : TypeDesc} (hu : ∀ w, (underlying t).run c.P w = .ok ds w) (hi : ∀ m, ds ≠ .interface m) (hx : ev F x = some (.iface t v)) : OQ c ⟨d, .typeAssert x s t false, ty, pos, af, g⟩ F H v := .of fun D a w ha _ => by
  have h1 := ha.ev hx
  simp only [execOp, Instr.typeAssert, Sem.run_bind, hu w, Result.andThen, h1]
  cases ds <;> first | (simp [Sem.run_pure, Result.andThen]; done) | exact (hi _ rfl).elim
/-- How a method is found. -/
def Meth (P : Program) (w : World) (t : TypeId) (v : Value) (name : String) (k : Nat) (rv : Value) : Prop := (method (P.types.size + Made.depth) t v name).run P w = .ok (k, rv) w
theorem run_invoke {ρ : Operand → Value} {w : World} {x : Operand} {args : Array Operand} {T : Array TypeId} {t : TypeId} {k : Nat} {rv : Value} {vs : List Value} {name : String} (hx : ρ x = .iface t v) (hm : Meth c.P w t v name k rv)
    (hc : ∀ (a : Array Value) (w : World), (callFunc k a).run c.P w = .ok (.enter k a) w) (ha : args.map ρ = vs.toArray) : (execOp ρ ⟨d, .call ⟨.invoke x name, args, T⟩, ty, pos, af, g⟩).run c.P w = .ok (.enter k ⟨rv :: vs⟩) w := by
  unfold Meth at hm
  have h2 : ((#[Value.iface t v] ++ vs.toArray)[0]? : Option Value) = some (.iface t v) := by simp
  have h3 : (#[Value.iface t v] ++ vs.toArray).extract 1 (#[Value.iface t v] ++ vs.toArray).size = vs.toArray := by simp
  simp only [execOp, resolve, invoke, hx, ha, Sem.run_bind, Sem.run_pure, Result.andThen, h2, h3, callMethod, run_program, hm]
  have h4 : (#[rv] ++ vs.toArray) = ⟨rv :: vs⟩ := by simp
  rw [h4, hc]
theorem oq_invoke {x : Operand} {args : Array Operand} {T : Array TypeId} {t : TypeId} {k : Nat} {u rv : Value} {vs : List Value} {name : String} (hx : ev F x = some (.iface t u)) (hm : ∀ D w, Has c.w0 ⟨c.M, D⟩ H w → Meth c.P w t u name k rv)
    (hc : ∀ (a : Array Value) (w : World), (callFunc k a).run c.P w = .ok (.enter k a) w) (ha : evs F args.toList = some vs) (h : ∀ D w, Has c.w0 ⟨c.M, D⟩ H w → Calls c.P k ⟨rv :: vs⟩ w fun e w' => e = .returned v ∧ Ext w w') :
    OQ c ⟨d, .call ⟨.invoke x name, args, T⟩, ty, pos, af, g⟩ F H v := by
  intro D a w hA hw
  have h1 := hA.evs ha
  have h2 : args.map a.eval = vs.toArray := by rw [← h1]; cases args; simp
  rw [run_invoke (hA.ev hx) (hm D w hw) hc h2]
  exact (h D w hw).mono fun e w' he => ⟨v, he.1, rfl, he.2⟩
theorem os_invokeM {x : Operand} {args : Array Operand} {T : Array TypeId} {t : TypeId} {k : Nat} {u rv : Value} {vs : List Value} {name : String} (hx : ev F x = some (.iface t u)) (hp : HpSub H (G ++ R)) (hm : ∀ D w, Has c.w0 ⟨c.M, D⟩ H w → Meth c.P w t u name k rv)
    (hc : ∀ (a : Array Value) (w : World), (callFunc k a).run c.P w = .ok (.enter k a) w) (ha : evs F args.toList = some vs)
    (h : ∀ D w, Has c.w0 ⟨c.M, D⟩ H w → Has w ⟨G.map Prod.fst, []⟩ G w → Calls c.P k ⟨rv :: vs⟩ w fun e w' => ∃ v H1, e = .returned v ∧ PV v H1 ∧ Has w ⟨G.map Prod.fst, []⟩ H1 w')
    (hk : ∀ v H1, PV v H1 → K v (H1 ++ R)) : OS c ⟨d, .call ⟨.invoke x name, args, T⟩, ty, pos, af, g⟩ F H K := by
  intro D a w hA hw
  have h1 := hA.evs ha
  have h2 : args.map a.eval = vs.toArray := by rw [← h1]; cases args; simp
  rw [run_invoke (hA.ev hx) (hm D w hw) hc h2]
  exact (h D w hw ((hw.sub hp).left.ownG (HpSub.refl _))).mono fun e w' ⟨v, H1, h1, h2, h3⟩ => ⟨v, h1, _, hk v H1 h2, (hw.sub hp).called h3⟩
end
end Go.Proofs.Ytcjkndjjbjoehaa
namespace Go.Proofs.Ytcjkndjjbjoehaa
open Go.RowKit
attribute [local irreducible] OQ OS OX Rd T TL GX GL AL AI RV wpG SAny Calls
def inCells (z : Int) : List Value := [.int .i64 z]
theorem in_read {w : World} {A : Option Addr} {n : Nat} {l : List Int} (h : RdS w 1 A n (l.map inCells)) {i : Nat} (hi : i < n) :
    ∃ b o x, A = some ⟨b, o, none⟩ ∧ b < w.heap.size ∧ l[i]? = some x ∧ w.cell? ⟨b, o + i * 1, none⟩ = some (.int .i64 x) := by
  obtain ⟨b, o, cs, hA, hb, hx, _, hc⟩ := h.row hi
  simp only [List.getElem?_map, Option.map_eq_some_iff] at hx
  obtain ⟨x, hx, rfl⟩ := hx
  exact ⟨b, o, x, hA, hb, hx, hc 0 _ rfl⟩
def idxV {α : Type} (p : α → Bool) (l : List α) : Int := match l.findIdx? p with | some i => (i : Int) | none => -1
theorem idxV_some {α : Type} {p : α → Bool} {l : List α} {k : Nat} {x : α} (h : l[k]? = some x) (hp : p x = true) (hb : ∀ y ∈ l.take k, p y = false) : idxV p l = (k : Int) := by
  have : l.findIdx? p = some k := by
    rw [List.findIdx?_eq_some_iff_getElem]
    obtain ⟨hk, rfl⟩ := List.getElem?_eq_some_iff.1 h
    refine ⟨hk, hp, fun j hj => ?_⟩
    have := hb l[j] (List.mem_iff_getElem.2 ⟨j, by simp; omega, by simp⟩)
    simp [this]
  unfold idxV; rw [this]
theorem idxV_none {α : Type} {p : α → Bool} {l : List α} (hb : ∀ y ∈ l, p y = false) : idxV p l = -1 := by
  have : l.findIdx? p = none := List.findIdx?_eq_none_iff.2 hb
  unfold idxV; rw [this]
theorem indexInt_calls (f : Nat) (caps : List Value) (p : Int → Bool) (A : Option Addr) (n c : Nat) (l : List Int) (w : World) (hr : RdS w 1 A n (l.map inCells)) (hn : n ≤ 1000000) (hc : ∀ (a : Array Value) (w : World), (callFunc f a).run Try.prog w = .ok (.enter f a) w)
    (hf : ∀ x ∈ l, ∀ w1, Ext w w1 → Calls Try.prog f ⟨.int .i64 x :: caps⟩ w1 fun e w' => e = .returned (.bool (p x)) ∧ Ext w1 w') :
    Calls Try.prog 48 #[.slice A n c, .func (.func f) #[] ⟨caps⟩] w fun e w' => e = .returned (.int .i64 (idxV p l)) ∧ Ext w w' := by
  have hl := hr.len
  simp only [List.length_map] at hl
  
  refine enterQ (c := cx w 19) Try.func48 rfl rfl rfl rfl ?_
  repeat' (first | ((with_reducible apply oq_id); first | (apply oq_fn; exact rfl; try first | exact trivial | (and_intros <;> omega))) | ((with_reducible apply tl_id); first | (with_reducible apply tl_nil) | ((with_reducible apply u_q); (iterate 4 exact rfl))) | ((with_reducible apply t_id); first | (with_reducible apply t_seq) | (apply t_region; kernel_rfl) | (with_reducible apply t_block)) | with_reducible apply q_thenN)
  apply t_loopK (ι := Nat) [0, 1, 7] (fun k => [(8, .int .i64 (k : Nat))]) (fun _ => []) (fun k => k ≤ n ∧ ∀ x ∈ l.take k, p x = false) (fun k => n - k) (0)
  (repeat (first | exact KeepF.nil | (apply KeepF.cons; exact rfl) | apply KeepF.skip))
  (repeat (first | exact FrSub.nil | (apply FrSub.cons; exact rfl)))
  (repeat (first | exact HpSub.refl _ | (apply HpSub.consE; (repeat (first | exact P0 | apply P1)); exact rfl) | exact HpSub.nil))
  · exact ⟨by omega, by simp⟩
  rintro k ⟨hk, hkp⟩
  try simp only [List.cons_append, List.nil_append]
  by_cases hlt : k < n
  · obtain ⟨b1, o1, x, rfl, _, hx, c0⟩ := in_read hr hlt
    have hfx := hf x (List.mem_of_getElem? hx)
    cases hpx : p x with
    | true =>
      rw [hpx] at hfx
      repeat' (first | ((with_reducible apply oq_id); first | (focus ((with_reducible apply oq_indexAddrN); (iterate 4 exact rfl); omega)) | (apply oq_fn; exact rfl; try first | exact trivial | (and_intros <;> omega)) | ((with_reducible apply oq_load); exact rfl; exact rfl) | ((with_reducible apply oq_call (k := f) (hc := hc)); exact rfl; exact rfl; exact fun D w1 hw1 => hfx w1 hw1.ext.ext)) | ((with_reducible apply tl_id); first | (with_reducible apply tl_nil) | ((with_reducible apply u_q); (iterate 4 exact rfl))) | ((with_reducible apply rd_id); first | (apply Rd.old; (first | (with_reducible assumption) | exact c0 | exact c1 | exact c2 | exact c3 | exact c4 | exact c5 | exact c6 | exact c7 | exact c8 | exact d0 | exact d1 | exact d2 | exact d3 | exact d4 | exact d5); first | exact List.not_mem_nil | exact m0 | exact m1 | exact m2 | exact m3 | exact m4 | exact m5 | exact m6 | exact m7 | exact m8 | exact m9)) | ((with_reducible apply t_id); first | (with_reducible apply t_seq) | (apply t_region; kernel_rfl) | ((with_reducible apply t_condT); exact rfl) | ((with_reducible apply t_condD); exact rfl; all_goals first | (intro hp; try (exfalso; omega)) | skip) | (with_reducible apply t_ret) | (with_reducible apply t_skip) | (with_reducible apply t_block)) | with_reducible apply q_thenN | with_reducible apply q_thenR | with_reducible apply q_blockR | (with_reducible apply end_ret) | exact rvs_nil | (with_reducible apply rvs_cons) | ((with_reducible apply rv_tmp); exact rfl))
      rw [idxV_some hx hpx hkp]; rfl
    | false =>
      rw [hpx] at hfx
      repeat' (first | ((with_reducible apply oq_id); first | (focus ((with_reducible apply oq_indexAddrN); (iterate 4 exact rfl); omega)) | (apply oq_fn; exact rfl; try first | exact trivial | (and_intros <;> omega)) | ((with_reducible apply oq_load); exact rfl; exact rfl) | ((with_reducible apply oq_call (k := f) (hc := hc)); exact rfl; exact rfl; exact fun D w1 hw1 => hfx w1 hw1.ext.ext)) | ((with_reducible apply tl_id); first | (with_reducible apply tl_nil) | ((with_reducible apply u_q); (iterate 4 exact rfl))) | ((with_reducible apply rd_id); first | (apply Rd.old; (first | (with_reducible assumption) | exact c0 | exact c1 | exact c2 | exact c3 | exact c4 | exact c5 | exact c6 | exact c7 | exact c8 | exact d0 | exact d1 | exact d2 | exact d3 | exact d4 | exact d5); first | exact List.not_mem_nil | exact m0 | exact m1 | exact m2 | exact m3 | exact m4 | exact m5 | exact m6 | exact m7 | exact m8 | exact m9)) | ((with_reducible apply t_id); first | (with_reducible apply t_seq) | (apply t_region; kernel_rfl) | ((with_reducible apply t_condF); exact rfl) | ((with_reducible apply t_condD); exact rfl; all_goals first | (intro hp; try (exfalso; omega)) | skip) | (with_reducible apply t_skip) | (with_reducible apply t_block)) | with_reducible apply q_thenN | with_reducible apply q_blockN)
      refine ⟨k + 1, ⟨by omega, fun y hy => ?_⟩, by omega, ?_, ?_⟩
      · rw [List.take_add_one, hx, List.mem_append] at hy
        rcases hy with hy | hy
        · exact hkp y hy
        · obtain rfl : y = x := by simpa using hy
          exact hpx
      · try simp only [List.cons_append, List.nil_append]
        (repeat (first | exact FrSub.nil | (apply FrSub.cons; exact rfl)))
      · try simp only [List.cons_append, List.nil_append]
        (repeat (first | exact HpSub.refl _ | (apply HpSub.consE; (repeat (first | exact P0 | apply P1)); exact rfl) | exact HpSub.nil))
  · repeat' (first | ((with_reducible apply oq_id); first | (apply oq_fn; exact rfl; try first | exact trivial | (and_intros <;> omega))) | ((with_reducible apply tl_id); first | (with_reducible apply tl_nil) | ((with_reducible apply u_q); (iterate 4 exact rfl))) | ((with_reducible apply t_id); first | (with_reducible apply t_seq) | (apply t_region; kernel_rfl) | ((with_reducible apply t_condD); exact rfl; all_goals first | (intro hp; try (exfalso; omega)) | skip) | (with_reducible apply t_ret) | (with_reducible apply t_exit)) | with_reducible apply q_thenN | with_reducible apply q_thenE | ((with_reducible apply q_blockE); exact rfl) | (with_reducible apply end_ret) | exact rvs_nil | (with_reducible apply rvs_cons) | ((with_reducible apply rv_tmp); exact rfl))
    rw [idxV_none (fun y hy => hkp y (by rw [List.take_of_length_le (by omega)]; exact hy))]; rfl
end Go.Proofs.Ytcjkndjjbjoehaa
namespace Go.Proofs.Ytcjkndjjbjoehaa
open Go.RowKit
def iv (z : Int) : Value := .int .i64 z
theorem iv_flat (l : List Int) : (l.map inCells).flatten = l.map iv := by
  induction l with
  | nil => rfl
  | cons z l ih => simp [inCells, iv] at ih ⊢; exact ih
theorem int_rows {w0 : World} {M : Ms} {H H' : Hp} {w : World} {g n : Nat} {l : List Int} {tg : Tg} (hl : l.length = n) (h : Has w0 M H w) (q : Pick H g (l.map iv) tg H') : RdS w 1 (some ⟨g, 0, none⟩) n (l.map inCells) :=
  Blk.rows (by rw [iv_flat]; exact (h.blk _ q.mem).2) (by simpa using hl) (by simp only [List.mem_map]; rintro r ⟨x, _, rfl⟩; rfl)
section
variable {c : Cx} {F : Fr} {H H' : Hp} {K : Value → Hp → Prop} {d : Option Tmp} {ty : TypeId} {pos : String} {af : Array Edge} {gd : Option (Nat × Bool)} {t : TypeId} {x y : Operand} {a0 : Bool} {z0 : List Value} {k0 : TyK} {g k : Nat} {tg : Tg} {row A : List Int} {B : List Value} {z u : Int}
theorem rdI (hx : row[k]? = some z) (p : Pick H g (row.map iv) tg H') : Rd c H ⟨g, 0 + k * 1, none⟩ (.int .i64 z) := Rd.own p (by rw [Nat.zero_add, Nat.mul_one, List.getElem?_map, hx]; rfl)
theorem os_storeI (h : k < row.length) (ht : tyAt c.tys t = some ⟨a0, 1, z0, k0⟩) (hx : ev F x = some (.pointer (some ⟨g, 0 + k * 1, none⟩))) (hy : ev F y = some (.int .i64 u)) (hp : Pick H g (row.map iv) tg H')
    (kk : K undef ((g, (row.set k u).map iv, tg) :: H')) : OS c ⟨d, .store t x y, ty, pos, af, gd⟩ F H K :=
  store_gen (vs := [.int .i64 u]) ht hx hy rfl rfl (by simp [Value.oneCell']) hp (by simp; omega) (by
    have e : setL (row.map iv) (0 + k * 1) [Value.int .i64 u] = (row.set k u).map iv := by simp only [setL]; rw [Nat.zero_add, Nat.mul_one, List.map_set]; rfl
    rw [e]; exact kk)
theorem ox_makeI {n : Nat} {tt : TypeId} {bytes : Nat} (hk : AppOk c.P tt 3 1 bytes) (hz : (c.P.info? 3).map (fun i => i.zero) = some (some (.int .i64 0)))
    (hx : ev F x = some (.int .i64 (n : Int))) (hy : ev F y = some (.int .i64 (n : Int))) (hb : bytes * n ≤ 281474976710656) (hn : n ≤ maxLen) (k : ∀ b, K (.slice (some ⟨b, 0, none⟩) n n) ((b, List.replicate n (Value.int .i64 0), some (3, 1, n)) :: H)) : OX c ⟨d, .makeSlice tt x y, ty, pos, af, gd⟩ F H K := by
  refine ox_make (zs := [.int .i64 0]) hk hz rfl rfl hx hy hb hn fun b => ?_
  have e : (List.replicate n [Value.int .i64 0]).flatten = List.replicate n (Value.int .i64 0) := by simp
  rw [e]
  exact k b
theorem os_makeI {n : Nat} {tt : TypeId} {bytes : Nat} (hk : AppOk c.P tt 3 1 bytes) (hz : (c.P.info? 3).map (fun i => i.zero) = some (some (.int .i64 0)))
    (hx : ev F x = some (.int .i64 (n : Int))) (hy : ev F y = some (.int .i64 (n : Int))) (hb : bytes * n ≤ 281474976710656) (hn : n ≤ maxLen) (k : ∀ b, K (.slice (some ⟨b, 0, none⟩) n n) ((b, List.replicate n (Value.int .i64 0), some (3, 1, n)) :: H)) : OS c ⟨d, .makeSlice tt x y, ty, pos, af, gd⟩ F H K := .ofX (ox_makeI hk hz hx hy hb hn k)
end
/-- Where a queue lies: its block, the place of its first one, the room from there, the room of the block, what is known of the block. -/
structure Qm where
  b : Nat
  o : Nat
  cap : Nat
  c0 : Nat
  C : List Value
def Qok (q : List Int) (m : Qm) : Prop := (m.cap = 0 ∧ q = []) ∨ (∃ pre : List Value, pre.length = m.o ∧ m.C = pre ++ q.map iv ∧ m.c0 = m.o + m.cap ∧ 0 < m.cap)
abbrev qS (q : List Int) (m : Qm) : Value := .slice (some ⟨m.b, m.o, none⟩) q.length m.cap
abbrev qB (m : Qm) : Nat × List Value × Tg := (m.b, m.C, some (3, 1, m.c0))
theorem Qok.at_ {q : List Int} {m : Qm} (h : Qok q m) {i : Nat} {z : Int} (hz : q[i]? = some z) : m.C[m.o + i * 1]? = some (.int .i64 z) := by
  rcases h with ⟨_, rfl⟩ | ⟨pre, h1, h2, _⟩
  · simp at hz
  · rw [h2, List.getElem?_append_right (by omega), List.getElem?_map, show m.o + i * 1 - pre.length = i by omega, hz]; rfl
/-- Sliced from the second one on. -/
def Qm.tail (m : Qm) : Qm := if m.cap = 1 then { m with cap := 0 } else { m with o := m.o + 1, cap := m.cap - 1 }
theorem Qok.tail {q : List Int} {m : Qm} {z : Int} (h : Qok (z :: q) m) (hc : (z :: q).length ≤ m.cap) : Qok q m.tail := by
  rcases h with ⟨_, e⟩ | ⟨pre, h1, h2, h3, h4⟩
  · cases e
  · unfold Qm.tail
    simp only [List.length_cons] at hc
    split
    · exact .inl ⟨rfl, List.eq_nil_of_length_eq_zero (by omega)⟩
    · exact .inr ⟨pre ++ [iv z], by simp [h1], by simp [h2], by simp only []; omega, by simp only []; omega⟩
theorem Qm.tail_b (m : Qm) : m.tail.b = m.b ∧ m.tail.C = m.C ∧ m.tail.c0 = m.c0 ∧ m.tail.cap = m.cap - 1 := by
  unfold Qm.tail
  split
  · rename_i h; simp [h]
  · simp
theorem Qok.room {q : List Int} {m : Qm} {w : World} (h : Qok q m) (hB : Blk w m.b m.C (some (3, 1, m.c0))) : q.length ≤ m.cap := by
  rcases h with ⟨h, rfl⟩ | ⟨pre, h1, h2, h3, h4⟩
  · simp
  · rcases hB with ⟨c, t, k1, k2, _, k4, _⟩ | ⟨e, _⟩
    · rcases Nat.lt_or_ge m.cap q.length with h5 | h5
      · have hl : m.C.length = m.o + q.length := by rw [h2]; simp [h1]
        have := k2 (m.o + m.cap) m.C[m.o + m.cap] (List.getElem?_eq_getElem (by omega))
        have := (Array.getElem?_eq_some_iff.1 this).1
        omega
      · exact h5
    · rw [h2] at e
      have := (List.append_eq_nil_iff.1 e).2
      have : q = [] := by simpa using this
      subst this; simp
section
variable {c : Cx} {F : Fr} {H H' : Hp} {K : Value → Hp → Prop} {d : Option Tmp} {ty t : TypeId} {pos : String} {af : Array Edge} {g : Option (Nat × Bool)} {x y s : Operand}
theorem oq_sliceQ {a0 a1 : Bool} {s0 e : Nat} {z0 z1 : List Value} {k1 : TyK} {k : IntKind} {q : List Int} {m : Qm} {z : Int} (ht : tyAt c.tys t = some ⟨a0, s0, z0, .slice e⟩) (he : tyAt c.tys e = some ⟨a1, 1, z1, k1⟩)
    (hx : ev F x = some (qS (z :: q) m)) (hy : ev F y = some (.int k 1)) : OQ c ⟨d, .slice t x (some y) none none, ty, pos, af, g⟩ F H (qS q m.tail) := .of fun D a w ha _ => by
  have hk := (c.ty ht).kind w
  have hs := (c.ty he).size w
  have h1 : (1 : Int) ≤ (q.length : Int) + 1 := by omega
  simp only [execOp, Option.map, ha.ev hx, ha.ev hy]
  unfold Qm.tail
  by_cases h : m.cap = 1
  · simp [Instr.sliceAt, Instr.slice, Instr.sliceBounds, Instr.sliceBound, asIntOf, Sem.run_bind, hk, hs, h1, Result.andThen, go_sem, add_eq, h]
  · simp [Instr.sliceAt, Instr.slice, Instr.sliceBounds, Instr.sliceBound, asIntOf, Sem.run_bind, hk, hs, h1, Result.andThen, go_sem, add_eq, h]
theorem Blk.more {w : World} {b e cap : Nat} {C : List Value} (h : Blk w b C (some (e, 1, cap))) (hc : C.length < cap) : ∃ u, Blk w b (C ++ [u]) (some (e, 1, cap)) := by
  rcases h with ⟨c, t, h1, h2, h3, h4, h5⟩ | ⟨_, t, L, e, _⟩
  · have hlt : C.length < c.size := by omega
    refine ⟨c[C.length], .inl ⟨c, t, h1, fun o v ho => ?_, h3, h4, h5⟩⟩
    rw [List.getElem?_append] at ho
    split at ho
    · exact h2 o v ho
    · have ho2 : o - C.length = 0 := by
        have := (List.getElem?_eq_some_iff.1 ho).1
        simp at this; omega
      rw [ho2] at ho
      have hv : c[C.length] = v := by simpa using ho
      have : o = C.length := by omega
      subst this
      rw [← hv]
      exact Array.getElem?_eq_getElem hlt
  · simp only [mapTg, Option.some.injEq, Prod.mk.injEq] at e
    omega
/-- One more at the end. -/
theorem os_appQ {tt b2 c2 : Nat} {q : List Int} {m : Qm} {z : Int} (hk : AppOk c.P tt 3 1 8) (hs : ev F s = some (qS q m)) (hx : ev F x = some (.slice (some ⟨b2, 0, none⟩) 1 c2)) (hq : Qok q m) (hn : q.length ≤ 1000000)
    (hp : Pick H m.b m.C (some (3, 1, m.c0)) H') (hr : Rd c H ⟨b2, 0, none⟩ (.int .i64 z))
    (k : ∀ m', Qok (q ++ [z]) m' → K (.slice (some ⟨m'.b, m'.o, none⟩) (q.length + 1) m'.cap) (qB m' :: H')) : OS c ⟨d, .call ⟨.builtin .append, #[s, x], #[tt, tt]⟩, ty, pos, af, g⟩ F H K := by
  intro D a w ha hw
  have hw' := hw.perm hp.perm
  have hB : Blk w m.b m.C (some (3, 1, m.c0)) := (hw'.blk _ (List.mem_cons_self ..)).2
  have hroom := hq.room hB
  obtain ⟨i, zz, k1, k2, k3, k4, k5⟩ := hk.info
  have hc := hr D w hw
  have hnews : ∀ j u, [Value.int .i64 z][j]? = some u → w.cell? ((⟨b2, 0, none⟩ : Addr).add j) = some u := fun j u hj => by
    cases j with
    | zero => rw [add_eq, Nat.zero_add]; rw [hc]; simpa using hj
    | succ j => simp at hj
  by_cases hlt : q.length + 1 ≤ m.cap
  · -- there is room
    rcases hq with ⟨h0, _⟩ | ⟨pre, h1, h2, h3, h4⟩
    · omega
    · have hCl : m.C.length = m.o + q.length := by rw [h2]; simp [h1]
      obtain ⟨u, hu⟩ := hB.more (by omega)
      obtain ⟨w', r1, r2, r3⟩ := run_storeCells c.P m.b (m.o + q.length) [.int .i64 z] 0 w (m.C ++ [u]) _ hu (by simp only [List.length_append, List.length_singleton]; omega) (by simp [Value.oneCell'])
      have e : setL (m.C ++ [u]) (m.o + q.length + 0) [Value.int .i64 z] = m.C ++ [.int .i64 z] := by
        simp only [setL, Nat.add_zero]
        rw [← hCl, List.set_append_right _ _ (Nat.le_refl _)]
        simp
      rw [e] at r2
      have hf := run_firstCells_some (P := c.P) w 1 1 ⟨b2, 0, none⟩ 1 c2 [.int .i64 z] rfl hnews
      have : (execOp a.eval ⟨d, .call ⟨.builtin .append, #[s, x], #[tt, tt]⟩, ty, pos, af, g⟩).run c.P w = .ok (.value (.slice (some ⟨m.b, m.o, none⟩) (q.length + 1) m.cap)) w' := by
        have hadd : (Addr.add ⟨m.b, m.o, none⟩ (q.length * 1)) = ⟨m.b, m.o + q.length, none⟩ := by rw [add_eq, Nat.mul_one]
        simp [execOp, resolve, invoke, builtin, Sem.run_bind, Sem.run_pure, Result.andThen, ha.ev hs, ha.ev hx, Builtin.append_, run_underlying hk.und, sizeOf, typeInfo, k1, k3, Builtin.lenOf, hlt, hf, add_eq, r1, run_program]
      rw [this]
      refine ⟨_, k { m with C := m.C ++ [.int .i64 z] } (.inr ⟨pre, h1, by simp [h2, iv], h3, h4⟩), hw'.wrote r3 r2⟩
  · -- a new block
    have holds : ∀ j v, (q.map iv)[j]? = some v → w.cell? ((⟨m.b, m.o, none⟩ : Addr).add j) = some v := fun j v hj => by
      rw [List.getElem?_map, Option.map_eq_some_iff] at hj
      obtain ⟨y, hy, rfl⟩ := hj
      have := hq.at_ hy
      rw [add_eq]
      have h := hB.cell this
      rw [Nat.mul_one] at h
      exact h
    have hr := run_append_grow (P := c.P) w tt ty 3 i zz hk.und k1 k2 ⟨m.b, m.o, none⟩ q.length m.cap (q.map iv) (by simp [k3]) holds ⟨b2, 0, none⟩ 1 c2 [.int .i64 z] (by simp [k3]) hnews (by omega) (by omega) (by
      have := nextslicecap_le (need := q.length + 1) (old := m.cap) (by omega)
      rw [k4]; omega)
    have hg := grownCap_ge w (q.length + 1) m.cap 3
    have hm := grownCap_le_maxLen w (q.length + 1) m.cap 3 (by unfold maxLen; omega)
    generalize grownCap w (q.length + 1) m.cap 3 = gc at hr hg hm
    generalize hcs : ((q.map iv).toArray ++ [Value.int .i64 z].toArray ++ Builtin.zeroCells zz.cells (gc - (q.length + 1))) = cs at hr
    have hsz : cs.size = gc := by
      rw [← hcs]
      simp only [Array.size_append, List.size_toArray, size_zeroCells, k5, List.length_map, List.length_singleton]; omega
    have : (execOp a.eval ⟨d, .call ⟨.builtin .append, #[s, x], #[tt, tt]⟩, ty, pos, af, g⟩).run c.P w = .ok (.value (.slice (some ⟨w.heap.size, 0, none⟩) (q.length + 1) gc)) (w.drew.alloc (.cells cs 3)) := by
      simp [execOp, resolve, invoke, builtin, Sem.run_bind, Sem.run_pure, Result.andThen, ha.ev hs, ha.ev hx, hr]
    rw [this]
    have hE : Ext w (w.drew.alloc (.cells cs 3)) := Ext.alloc (Ext.drew (Ext.refl w)) _
    refine ⟨_, k ⟨w.heap.size, 0, gc, gc, (q ++ [z]).map iv⟩ (.inr ⟨[], rfl, by simp, by simp, by simp only []; omega⟩), ?_⟩
    refine (hw'.drop).fresh hE (Nat.le_refl _) (.inl ⟨cs, 3, heap_alloc_new w.drew _, fun o v ho => ?_, rfl, (by simp only []; omega), hm⟩)
    rw [← hcs]
    rw [Array.getElem?_append_left (by
      have := (List.getElem?_eq_some_iff.1 ho).1
      simpa using this)]
    simpa [iv] using ho
end
end Go.Proofs.Ytcjkndjjbjoehaa
namespace Go.Proofs.Ytcjkndjjbjoehaa
theorem countP_drop {α : Type} {p : α → Bool} : ∀ {l : List α} {i : Nat} {u v : α}, l[i]? = some u → p u = true → p v = false → (l.set i v).countP p + 1 = l.countP p
  | [], i, u, v, h, _, _ => by simp at h
  | x :: l, 0, u, v, h, hu, hv => by
    obtain rfl : x = u := by simpa using h
    simp [List.countP_cons, hu, hv]
  | x :: l, i + 1, u, v, h, hu, hv => by
    have := countP_drop (l := l) (i := i) (by simpa using h) hu hv
    simp only [List.set_cons_succ, List.countP_cons]
    omega
/-- The cells beside a cell. -/
def nb (W n a : Nat) : List Nat :=
  (if W ≤ a then [a - W] else []) ++ ((if 0 < a % W then [a - 1] else []) ++ ((if a % W + 1 < W then [a + 1] else []) ++ (if a + W < n then [a + W] else [])))
theorem mem_nb {W n a c : Nat} : c ∈ nb W n a ↔ (W ≤ a ∧ c = a - W) ∨ (0 < a % W ∧ c = a - 1) ∨ (a % W + 1 < W ∧ c = a + 1) ∨ (a + W < n ∧ c = a + W) := by
  unfold nb
  simp only [List.mem_append]
  constructor
  · rintro (h | h | h | h) <;> split at h <;> simp at h <;> omega
  · rintro (⟨h, rfl⟩ | ⟨h, rfl⟩ | ⟨h, rfl⟩ | ⟨h, rfl⟩) <;> simp [h]
theorem nb_len (W n a : Nat) : (nb W n a).length ≤ 4 := by
  unfold nb
  simp only [List.length_append]
  repeat' split
  all_goals simp
/-- A terrain's frame. -/
structure Ter (W Hh n : Nat) : Prop where
  w1 : 1 ≤ W
  h1 : 1 ≤ Hh
  w24 : W ≤ 24
  h24 : Hh ≤ 24
  hn : n = W * Hh
theorem Ter.n0 {W Hh n : Nat} (h : Ter W Hh n) : 0 < n := by rw [h.hn]; exact Nat.mul_pos h.w1 h.h1
theorem Ter.n576 {W Hh n : Nat} (h : Ter W Hh n) : n ≤ 576 := by rw [h.hn]; exact Nat.mul_le_mul h.w24 h.h24
theorem row_lt {W Hh a : Nat} (h : a < W * Hh) (hw : 1 ≤ W) : a / W < Hh := by
  rw [Nat.div_lt_iff_lt_mul (by omega), Nat.mul_comm]; exact h
theorem nb_lt {W Hh n a c : Nat} (t : Ter W Hh n) (ha : a < n) (h : c ∈ nb W n a) : c < n := by
  rw [mem_nb] at h
  rcases h with ⟨h, rfl⟩ | ⟨h, rfl⟩ | ⟨h, rfl⟩ | ⟨h, rfl⟩
  · have := t.w1; omega
  · omega
  · have hr := row_lt (t.hn ▸ ha) t.w1
    have h1 := Nat.div_add_mod a W
    have h2 : W * (a / W) + W ≤ W * Hh := by
      have := Nat.mul_le_mul_left W (show a / W + 1 ≤ Hh by omega)
      rw [Nat.mul_add, Nat.mul_one] at this; exact this
    rw [t.hn]; omega
  · exact h
theorem mod_up {W a : Nat} (hw : 1 ≤ W) (h : a % W + 1 < W) : (a + 1) % W = a % W + 1 := by
  rw [Nat.add_mod]
  by_cases h1 : W = 1
  · omega
  · rw [Nat.mod_eq_of_lt (show 1 < W by omega), Nat.mod_eq_of_lt h]
theorem mod_dn {W a : Nat} (hw : 1 ≤ W) (h : 0 < a % W) : (a - 1) % W + 1 = a % W := by
  have h1 := Nat.mod_lt a (show 0 < W by omega)
  have h2 := Nat.div_add_mod a W
  have h3 : a - 1 = W * (a / W) + (a % W - 1) := by omega
  rw [h3, Nat.mul_add_mod, Nat.mod_eq_of_lt (by omega)]; omega
theorem nb_symm {W Hh n a c : Nat} (t : Ter W Hh n) (ha : a < n) (h : c ∈ nb W n a) : a ∈ nb W n c := by
  have hw := t.w1
  rw [mem_nb] at h ⊢
  rcases h with ⟨h, rfl⟩ | ⟨h, rfl⟩ | ⟨h, rfl⟩ | ⟨h, rfl⟩
  · exact .inr (.inr (.inr ⟨by omega, by omega⟩))
  · have h1 := mod_dn hw h
    have h2 := Nat.mod_lt a (show 0 < W by omega)
    exact .inr (.inr (.inl ⟨by omega, by
      have : 0 < a := by rcases Nat.eq_zero_or_pos a with rfl | h3; simp at h; exact h3
      omega⟩))
  · have h1 := mod_up hw h
    exact .inr (.inl ⟨by omega, by omega⟩)
  · exact .inl ⟨by omega, by omega⟩
/-- The height of a cell. -/
def gr (g : List Int) (c : Nat) : Int := g.getD c 0
theorem gr_of {g : List Int} {c : Nat} {x : Int} (h : g[c]? = some x) : gr g c = x := by simp [gr, List.getD, h]
/-- What can be reached from a cell over cells up to a height. -/
inductive Rch (W n : Nat) (g : List Int) (h : Int) (a : Nat) : Nat → Prop
  | refl (ha : gr g a ≤ h) : Rch W n g h a a
  | step {b c : Nat} (k : Rch W n g h a b) (hc : c ∈ nb W n b) (hg : gr g c ≤ h) : Rch W n g h a c
section
variable {W Hh n : Nat} {g : List Int} {h : Int} {a b c : Nat}
theorem Rch.src (k : Rch W n g h a b) : gr g a ≤ h := by
  induction k with
  | refl ha => exact ha
  | step _ _ _ ih => exact ih
theorem Rch.dst (k : Rch W n g h a b) : gr g b ≤ h := by
  cases k with
  | refl ha => exact ha
  | step _ _ hg => exact hg
theorem Rch.lt (t : Ter W Hh n) (ha : a < n) (k : Rch W n g h a b) : b < n := by
  induction k with
  | refl _ => exact ha
  | step _ hc _ ih => exact nb_lt t ih hc
theorem Rch.mono {h' : Int} (hh : h ≤ h') (k : Rch W n g h a b) : Rch W n g h' a b := by
  induction k with
  | refl ha => exact .refl (by omega)
  | step _ hc hg ih => exact .step ih hc (by omega)
theorem Rch.trans (k : Rch W n g h a b) (l : Rch W n g h b c) : Rch W n g h a c := by
  induction l with
  | refl _ => exact k
  | step _ hc hg ih => exact .step ih hc hg
theorem Rch.symm (t : Ter W Hh n) (ha : a < n) (k : Rch W n g h a b) : Rch W n g h b a := by
  induction k with
  | refl h1 => exact .refl h1
  | step k hc hg ih =>
    exact (Rch.step (.refl hg) (nb_symm t (k.lt t ha) hc) k.dst).trans ih
/-- All cells can be reached up to the top. -/
theorem rch_zero (t : Ter W Hh n) (hg : ∀ c, c < n → gr g c ≤ h) : ∀ c, c < n → Rch W n g h c 0 := by
  intro c
  induction c using Nat.strongRecOn with
  | ind c ih =>
    intro hc
    have hw := t.w1
    by_cases h0 : c = 0
    · subst h0; exact .refl (hg 0 hc)
    · by_cases h1 : W ≤ c
      · exact (Rch.step (.refl (hg c hc)) (mem_nb.2 (.inl ⟨h1, rfl⟩)) (hg _ (by omega))).trans (ih (c - W) (by omega) (by omega))
      · have : 0 < c % W := by rw [Nat.mod_eq_of_lt (by omega)]; omega
        exact (Rch.step (.refl (hg c hc)) (mem_nb.2 (.inr (.inl ⟨this, rfl⟩))) (hg _ (by omega))).trans (ih (c - 1) (by omega) (by omega))
theorem rch_all (t : Ter W Hh n) (hg : ∀ c, c < n → gr g c ≤ h) (ha : a < n) (hb : b < n) : Rch W n g h a b :=
  (rch_zero t hg a ha).trans ((rch_zero t hg b hb).symm t hb)
end
/-- The height of the pass. -/
structure IsPass (W n : Nat) (g : List Int) (a b : Nat) (h : Int) : Prop where
  is : Rch W n g h a b
  least : ∀ k, Rch W n g k a b → h ≤ k
theorem IsPass.uniq {W n : Nat} {g : List Int} {a b : Nat} {h h' : Int} (x : IsPass W n g a b h) (y : IsPass W n g a b h') : h = h' :=
  Int.le_antisymm (x.least _ y.is) (y.least _ x.is)
/-! The search for the lowest path -/
section
variable {W Hh n : Nat} {g : List Int} {a : Nat}
/-- The state of the search: which cells are seen; the front: heights and cells. -/
structure Sea (W n : Nat) (g : List Int) (a : Nat) (seen : List Bool) (f : List (Int × Nat)) : Prop where
  len : seen.length = n
  lt : ∀ x ∈ f, x.2 < n
  rch : ∀ x ∈ f, Rch W n g x.1 a x.2
  seen_ : ∀ u, seen[u]? = some true → ∃ k, (∀ H, Rch W n g H a u → k ≤ H) ∧ ∀ c ∈ nb W n u, seen[c]? = some true ∨ ∃ x ∈ f, x.2 = c ∧ x.1 ≤ max k (gr g c)
  start : seen[a]? = some true ∨ ∃ x ∈ f, x.2 = a ∧ x.1 ≤ gr g a
/-- On the way to a cell that is not seen the front has a cell. -/
theorem Sea.front {seen : List Bool} {f : List (Int × Nat)} (s : Sea W n g a seen f) {b : Nat} {H : Int} (k : Rch W n g H a b) (hb : ¬ seen[b]? = some true) : ∃ x ∈ f, x.1 ≤ H := by
  induction k with
  | refl ha =>
    rcases s.start with h | ⟨x, h1, _, h2⟩
    · exact (hb h).elim
    · exact ⟨x, h1, by omega⟩
  | step k hc hg ih =>
    rename_i b c
    by_cases hs : seen[b]? = some true
    · obtain ⟨q, h1, h2⟩ := s.seen_ b hs
      rcases h2 _ hc with h3 | ⟨x, h3, _, h4⟩
      · exact (hb h3).elim
      · have := h1 _ k
        exact ⟨x, h3, by omega⟩
    · exact ih hs
/-- The least of the front is the lowest way to its cell. -/
theorem Sea.least {seen : List Bool} {f : List (Int × Nat)} (s : Sea W n g a seen f) {x : Int × Nat} (hx : x ∈ f) (hm : ∀ y ∈ f, x.1 ≤ y.1) (hs : ¬ seen[x.2]? = some true) : IsPass W n g a x.2 x.1 :=
  ⟨s.rch x hx, fun k hk => by
    obtain ⟨y, h1, h2⟩ := s.front hk hs
    have := hm y h1; omega⟩
theorem Sea.first (h0 : a < n) : Sea W n g a (List.replicate n false) [(gr g a, a)] := by
  refine ⟨by simp, fun x hx => ?_, fun x hx => ?_, fun u hu => ?_, .inr ⟨_, List.mem_cons_self .., rfl, Int.le_refl _⟩⟩
  · obtain rfl : x = (gr g a, a) := by simpa using hx
    exact h0
  · obtain rfl : x = (gr g a, a) := by simpa using hx
    exact .refl (Int.le_refl _)
  · rw [List.getElem?_replicate] at hu
    split at hu <;> simp at hu
/-- A cell that was seen before is left out. -/
theorem Sea.skip {seen : List Bool} {f f' : List (Int × Nat)} (s : Sea W n g a seen f) {x : Int × Nat} (hp : f.Perm (x :: f')) (hs : seen[x.2]? = some true) : Sea W n g a seen f' := by
  have hin : ∀ y ∈ f', y ∈ f := fun y hy => hp.mem_iff.2 (List.mem_cons_of_mem _ hy)
  have hout : ∀ y ∈ f, y.2 ≠ x.2 → y ∈ f' := fun y hy hne => by
    rcases List.mem_cons.1 (hp.mem_iff.1 hy) with rfl | h
    · exact (hne rfl).elim
    · exact h
  refine ⟨s.len, fun y hy => s.lt y (hin y hy), fun y hy => s.rch y (hin y hy), fun u hu => ?_, ?_⟩
  · obtain ⟨k, h1, h2⟩ := s.seen_ u hu
    refine ⟨k, h1, fun c hc => ?_⟩
    rcases h2 c hc with h3 | ⟨y, h3, rfl, h4⟩
    · exact .inl h3
    · by_cases he : y.2 = x.2
      · rw [he]; exact .inl hs
      · exact .inr ⟨y, hout y h3 he, rfl, h4⟩
  · rcases s.start with h | ⟨y, h1, h2, h3⟩
    · exact .inl h
    · by_cases he : y.2 = x.2
      · rw [← h2, he]; exact .inl hs
      · exact .inr ⟨y, hout y h1 he, h2, h3⟩
/-- A cell that was not seen: its neighbours come to the front. -/
theorem Sea.next (t : Ter W Hh n) {seen : List Bool} {f f' f2 : List (Int × Nat)} (s : Sea W n g a seen f) {x : Int × Nat} (hp : f.Perm (x :: f')) (hm : ∀ y ∈ f, x.1 ≤ y.1) (hs : ¬ seen[x.2]? = some true)
    (hf : f2.Perm ((nb W n x.2).map (fun c => (max x.1 (gr g c), c)) ++ f')) : Sea W n g a (seen.set x.2 true) f2 := by
  have hx : x ∈ f := hp.mem_iff.2 (List.mem_cons_self ..)
  have hlt := s.lt x hx
  have hP := s.least hx hm hs
  have hin : ∀ y ∈ f', y ∈ f := fun y hy => hp.mem_iff.2 (List.mem_cons_of_mem _ hy)
  have hnew : ∀ y ∈ f2, (∃ c ∈ nb W n x.2, y = (max x.1 (gr g c), c)) ∨ y ∈ f' := fun y hy => by
    rcases List.mem_append.1 (hf.mem_iff.1 hy) with h | h
    · obtain ⟨c, h1, rfl⟩ := List.mem_map.1 h
      exact .inl ⟨c, h1, rfl⟩
    · exact .inr h
  have hset : ∀ c, (seen.set x.2 true)[c]? = some true ↔ c = x.2 ∨ seen[c]? = some true := fun c => by
    rw [List.getElem?_set]
    by_cases h : x.2 = c
    · subst h; simp [s.len, hlt]
    · rw [if_neg h]
      constructor
      · intro h1; exact .inr h1
      · rintro (h1 | h1)
        · exact (h h1.symm).elim
        · exact h1
  have hkeep : ∀ y ∈ f, y.2 ≠ x.2 → y ∈ f2 := fun y hy hne => by
    rcases List.mem_cons.1 (hp.mem_iff.1 hy) with rfl | h
    · exact (hne rfl).elim
    · exact hf.mem_iff.2 (List.mem_append_right _ h)
  refine ⟨by simp [s.len], fun y hy => ?_, fun y hy => ?_, fun u hu => ?_, ?_⟩
  · rcases hnew y hy with ⟨c, h1, rfl⟩ | h1
    · exact nb_lt t hlt h1
    · exact s.lt y (hin y h1)
  · rcases hnew y hy with ⟨c, h1, rfl⟩ | h1
    · exact (Rch.step ((s.rch x hx).mono (by simp only []; omega)) h1 (by simp only []; omega))
    · exact s.rch y (hin y h1)
  · by_cases he : u = x.2
    · subst he
      refine ⟨x.1, hP.least, fun c hc => .inr ⟨_, hf.mem_iff.2 (List.mem_append_left _ (List.mem_map.2 ⟨c, hc, rfl⟩)), rfl, Int.le_refl _⟩⟩
    · obtain ⟨k, h1, h2⟩ := s.seen_ u (((hset u).1 hu).resolve_left he)
      refine ⟨k, h1, fun c hc => ?_⟩
      rcases h2 c hc with h3 | ⟨y, h3, rfl, h4⟩
      · exact .inl ((hset c).2 (.inr h3))
      · by_cases hy : y.2 = x.2
        · exact .inl ((hset _).2 (.inl hy))
        · exact .inr ⟨y, hkeep y h3 hy, rfl, h4⟩
  · rcases s.start with h | ⟨y, h1, h2, h3⟩
    · exact .inl ((hset a).2 (.inr h))
    · by_cases hy : y.2 = x.2
      · exact .inl ((hset a).2 (.inl (by rw [← h2, hy])))
      · exact .inr ⟨y, hkeep y h1 hy, h2, h3⟩
end
/-! How many steps are left -/
/-- The cells beside a cell get the steps d, where they have none and are not too high; they are added to the queue. -/
def bfsRow (g : List Int) (h : Int) (d : Nat) : List Nat → List Nat × List Nat → List Nat × List Nat
  | [], s => s
  | c :: l, s => bfsRow g h d l (if s.1.getD c 0 = 0 ∧ gr g c ≤ h then (s.1.set c d, s.2 ++ [c]) else s)
/-- From the levels and the queue k rounds lead to the levels L. -/
inductive Bfs (W n : Nat) (g : List Int) (h : Int) (L : List Nat) : Nat → List Nat → List Nat → Prop
  | done : Bfs W n g h L 0 L []
  | next {k a : Nat} {lev q : List Nat} (s : Bfs W n g h L k (bfsRow g h (lev.getD a 0 + 1) (nb W n a) (lev, q)).1 (bfsRow g h (lev.getD a 0 + 1) (nb W n a) (lev, q)).2) : Bfs W n g h L (k + 1) lev (a :: q)
/-- Steps, one more than from the end; 0: not reached. -/
structure Dist (W n : Nat) (g : List Int) (h : Int) (b : Nat) (L : List Nat) : Prop where
  len : L.length = n
  one : ∀ c, c < n → (L.getD c 0 = 1 ↔ c = b)
  low : ∀ c, c < n → 0 < L.getD c 0 → gr g c ≤ h
  prev : ∀ c, c < n → 1 < L.getD c 0 → ∃ d ∈ nb W n c, L.getD d 0 + 1 = L.getD c 0
  next : ∀ c, c < n → 0 < L.getD c 0 → ∀ d ∈ nb W n c, gr g d ≤ h → 0 < L.getD d 0 ∧ L.getD d 0 ≤ L.getD c 0 + 1
  bnd : ∀ c, L.getD c 0 ≤ n + 1
theorem getD_set {l : List Nat} {i j v : Nat} : (l.set i v).getD j 0 = if i = j ∧ i < l.length then v else l.getD j 0 := by
  simp only [List.getD_eq_getElem?_getD, List.getElem?_set]
  by_cases h : i = j
  · subst h
    by_cases h2 : i < l.length
    · simp [h2]
    · simp [h2]
  · simp [h]
/-- What holds on the way: enough for the walks. -/
structure WI (n : Nat) (lev q : List Nat) : Prop where
  len : lev.length = n
  lt : ∀ c ∈ q, c < n
  cnt : q.length + lev.countP (fun x => x == 0) ≤ n
  bnd : ∀ c, lev.getD c 0 + lev.countP (fun x => x == 0) ≤ n + 1
theorem WI.one {n d c : Nat} {lev q : List Nat} (w : WI n lev q) (hc : c < n) (h0 : lev.getD c 0 = 0) (hd : 0 < d) (hdb : d + lev.countP (fun x => x == 0) ≤ n + 2) : WI n (lev.set c d) (q ++ [c]) := by
  have hg : lev[c]? = some 0 := by
    have : c < lev.length := by rw [w.len]; exact hc
    rw [List.getD_eq_getElem?_getD, List.getElem?_eq_getElem this] at h0
    rw [List.getElem?_eq_getElem this]
    simpa using h0
  have hk := countP_drop (p := fun x : Nat => x == 0) (v := d) hg (by simp) (by simp; omega)
  refine ⟨by simp [w.len], fun x hx => ?_, ?_, fun x => ?_⟩
  · rcases List.mem_append.1 hx with h | h
    · exact w.lt x h
    · obtain rfl : x = c := by simpa using h
      exact hc
  · have := w.cnt; simp only [List.length_append, List.length_singleton]; omega
  · rw [getD_set]
    have := w.bnd x
    split <;> omega
theorem WI.pop {n a : Nat} {lev q : List Nat} (w : WI n lev (a :: q)) : WI n lev q :=
  ⟨w.len, fun c hc => w.lt c (List.mem_cons_of_mem _ hc), by have := w.cnt; simp at this; omega, w.bnd⟩
/-- What a row of the search does. -/
structure RowF (g : List Int) (h : Int) (d : Nat) (l lev q lev' q' : List Nat) : Prop where
  len : lev'.length = lev.length
  keep : ∀ c, 0 < lev.getD c 0 → lev'.getD c 0 = lev.getD c 0
  new : ∀ c, lev'.getD c 0 ≠ lev.getD c 0 → lev.getD c 0 = 0 ∧ lev'.getD c 0 = d ∧ c ∈ l ∧ gr g c ≤ h ∧ c ∈ q'
  all : ∀ c ∈ l, c < lev.length → gr g c ≤ h → 0 < lev'.getD c 0
  que : ∃ x, q' = q ++ x ∧ ∀ c ∈ x, lev'.getD c 0 = d ∧ c < lev.length
theorem bfsRow_spec {g : List Int} {h : Int} {d : Nat} (hd : 0 < d) : ∀ (l lev q : List Nat), (∀ c ∈ l, c < lev.length) → RowF g h d l lev q (bfsRow g h d l (lev, q)).1 (bfsRow g h d l (lev, q)).2
  | [], lev, q, _ => ⟨rfl, fun _ _ => rfl, fun _ h => (h rfl).elim, fun _ h => (List.not_mem_nil h).elim, [], by simp [bfsRow], fun _ h => (List.not_mem_nil h).elim⟩
  | c :: l, lev, q, hl => by
    unfold bfsRow
    have hcl := hl c (List.mem_cons_self ..)
    by_cases hc : lev.getD c 0 = 0 ∧ gr g c ≤ h
    · rw [if_pos hc]
      have ih := bfsRow_spec (g := g) (h := h) hd l (lev.set c d) (q ++ [c]) (fun x hx => by simpa using hl x (List.mem_cons_of_mem _ hx))
      simp only []
      generalize (bfsRow g h d l (lev.set c d, q ++ [c])).1 = lev' at ih ⊢
      generalize (bfsRow g h d l (lev.set c d, q ++ [c])).2 = q' at ih ⊢
      have hset : ∀ x, (lev.set c d).getD x 0 = if c = x then d else lev.getD x 0 := fun x => by
        rw [getD_set]; simp [hcl]
      have hcd : lev'.getD c 0 = d := by rw [ih.keep c (by rw [hset]; simp; exact hd), hset]; simp
      obtain ⟨y, hq1, hq2⟩ := ih.que
      have hcq : c ∈ q' := by rw [hq1]; simp
      refine ⟨by rw [ih.len]; simp, fun x hx => ?_, fun x hx => ?_, fun x hx hlt hgx => ?_, ⟨c :: y, by simp [hq1], fun x hx => ?_⟩⟩
      · have hne : c ≠ x := fun e => by subst e; omega
        rw [ih.keep x (by rw [hset, if_neg hne]; exact hx), hset, if_neg hne]
      · by_cases hne : c = x
        · subst hne
          exact ⟨hc.1, hcd, List.mem_cons_self .., hc.2, hcq⟩
        · obtain ⟨h1, h2, h3, h4, h5⟩ := ih.new x (by rw [hset, if_neg hne]; exact hx)
          rw [hset, if_neg hne] at h1
          exact ⟨h1, h2, List.mem_cons_of_mem _ h3, h4, h5⟩
      · rcases List.mem_cons.1 hx with rfl | hx
        · omega
        · exact ih.all x hx (by simpa using hlt) hgx
      · rcases List.mem_cons.1 hx with rfl | hx
        · exact ⟨hcd, hcl⟩
        · obtain ⟨h1, h2⟩ := hq2 x hx
          exact ⟨h1, by simpa using h2⟩
    · rw [if_neg hc]
      have ih := bfsRow_spec (g := g) (h := h) hd l lev q (fun x hx => hl x (List.mem_cons_of_mem _ hx))
      skip
      generalize (bfsRow g h d l (lev, q)).1 = lev' at ih ⊢
      generalize (bfsRow g h d l (lev, q)).2 = q' at ih ⊢
      refine ⟨ih.len, ih.keep, fun x hx => ?_, fun x hx hlt hgx => ?_, ih.que⟩
      · obtain ⟨h1, h2, h3, h4, h5⟩ := ih.new x hx
        exact ⟨h1, h2, List.mem_cons_of_mem _ h3, h4, h5⟩
      · rcases List.mem_cons.1 hx with rfl | hx
        · have : lev.getD x 0 ≠ 0 := fun e => hc ⟨e, hgx⟩
          rw [ih.keep x (by omega)]; omega
        · exact ih.all x hx hlt hgx
theorem bfsRow_WI {n : Nat} {g : List Int} {h : Int} {d : Nat} (hd : 0 < d) : ∀ (l lev q : List Nat), (∀ c ∈ l, c < n) → WI n lev q → d + lev.countP (fun x => x == 0) ≤ n + 2 →
    WI n (bfsRow g h d l (lev, q)).1 (bfsRow g h d l (lev, q)).2
  | [], lev, q, _, w, _ => w
  | c :: l, lev, q, hl, w, hb => by
    unfold bfsRow
    have hcl := hl c (List.mem_cons_self ..)
    by_cases hc : lev.getD c 0 = 0 ∧ gr g c ≤ h
    · rw [if_pos hc]
      refine bfsRow_WI hd l _ _ (fun x hx => hl x (List.mem_cons_of_mem _ hx)) (w.one hcl hc.1 hd hb) ?_
      have hg : lev[c]? = some 0 := by
        have h0 := hc.1
        have : c < lev.length := by rw [w.len]; exact hcl
        rw [List.getD_eq_getElem?_getD, List.getElem?_eq_getElem this] at h0
        rw [List.getElem?_eq_getElem this]
        simpa using h0
      have := countP_drop (p := fun x : Nat => x == 0) (v := d) hg (by simp) (by simp; omega)
      simp only []
      omega
    · rw [if_neg hc]
      exact bfsRow_WI hd l _ _ (fun x hx => hl x (List.mem_cons_of_mem _ hx)) w hb
/-- What holds between two rounds. -/
structure BI (W n : Nat) (g : List Int) (h : Int) (b : Nat) (lev q : List Nat) : Prop extends WI n lev q where
  set_ : ∀ c ∈ q, 0 < lev.getD c 0
  one : ∀ c, c < n → (lev.getD c 0 = 1 ↔ c = b)
  low : ∀ c, c < n → 0 < lev.getD c 0 → gr g c ≤ h
  prev : ∀ c, c < n → 1 < lev.getD c 0 → ∃ d ∈ nb W n c, lev.getD d 0 + 1 = lev.getD c 0
  next : ∀ c, c < n → 0 < lev.getD c 0 → c ∉ q → ∀ d ∈ nb W n c, gr g d ≤ h → 0 < lev.getD d 0 ∧ lev.getD d 0 ≤ lev.getD c 0 + 1
  ord : ∃ e q1 q2, (∀ c, lev.getD c 0 ≤ e + 1) ∧ q = q1 ++ q2 ∧ (∀ c ∈ q1, lev.getD c 0 = e) ∧ ∀ c ∈ q2, lev.getD c 0 = e + 1
theorem BI.round {W Hh n : Nat} {g : List Int} {h : Int} {b a : Nat} {lev q : List Nat} (t : Ter W Hh n) (i : BI W n g h b lev (a :: q)) :
    BI W n g h b (bfsRow g h (lev.getD a 0 + 1) (nb W n a) (lev, q)).1 (bfsRow g h (lev.getD a 0 + 1) (nb W n a) (lev, q)).2 := by
  have ha : a < n := i.lt a (List.mem_cons_self ..)
  have ha0 := i.set_ a (List.mem_cons_self ..)
  have hl : ∀ c ∈ nb W n a, c < n := fun c hc => nb_lt t ha hc
  have hw := bfsRow_WI (g := g) (h := h) (d := lev.getD a 0 + 1) (by omega) (nb W n a) lev q hl i.toWI.pop (by have := i.bnd a; omega)
  have hr := bfsRow_spec (g := g) (h := h) (d := lev.getD a 0 + 1) (by omega) (nb W n a) lev q (fun c hc => by rw [i.len]; exact hl c hc)
  generalize (bfsRow g h (lev.getD a 0 + 1) (nb W n a) (lev, q)).1 = lev' at hw hr ⊢
  generalize (bfsRow g h (lev.getD a 0 + 1) (nb W n a) (lev, q)).2 = q' at hw hr ⊢
  -- the front's levels
  obtain ⟨e, q1, q2, hm, hqe, hq1, hq2⟩ : ∃ e q1 q2, (∀ c, lev.getD c 0 ≤ e + 1) ∧ q = q1 ++ q2 ∧ (∀ c ∈ q1, lev.getD c 0 = e) ∧ (∀ c ∈ q2, lev.getD c 0 = e + 1) ∧ lev.getD a 0 = e := by
    obtain ⟨e, q1, q2, hm, hqe, hq1, hq2⟩ := i.ord
    cases q1 with
    | nil =>
      rw [List.nil_append] at hqe
      subst hqe
      exact ⟨e + 1, q, [], fun c => by have := hm c; omega, by simp, fun c hc => hq2 c (List.mem_cons_of_mem _ hc), fun c hc => (List.not_mem_nil hc).elim, hq2 a (List.mem_cons_self ..)⟩
    | cons x q1 =>
      rw [List.cons_append, List.cons.injEq] at hqe
      obtain ⟨rfl, rfl⟩ := hqe
      exact ⟨e, q1, q2, hm, rfl, fun c hc => hq1 c (List.mem_cons_of_mem _ hc), hq2, hq1 a (List.mem_cons_self ..)⟩
  obtain ⟨hq2, hae⟩ := hq2
  obtain ⟨x, hx1, hx2⟩ := hr.que
  have hcase : ∀ c, lev'.getD c 0 = lev.getD c 0 ∨ (lev.getD c 0 = 0 ∧ lev'.getD c 0 = lev.getD a 0 + 1 ∧ c ∈ nb W n a ∧ gr g c ≤ h ∧ c ∈ q') := fun c => by
    by_cases hc : lev'.getD c 0 = lev.getD c 0
    · exact .inl hc
    · exact .inr (hr.new c hc)
  have hge : ∀ c, lev.getD c 0 ≤ lev'.getD c 0 := fun c => by rcases hcase c with h1 | h1 <;> omega
  have ha' : lev'.getD a 0 = lev.getD a 0 := hr.keep a ha0
  refine ⟨hw, fun c hc => ?_, fun c hc => ?_, fun c hc h0 => ?_, fun c hc h1 => ?_, fun c hc h0 hnq d hd hgd => ?_, ⟨e, q1, q2 ++ x, fun c => ?_, by rw [hx1, hqe, List.append_assoc], fun c hc => ?_, fun c hc => ?_⟩⟩
  · rw [hx1] at hc
    rcases List.mem_append.1 hc with hc | hc
    · have := i.set_ c (List.mem_cons_of_mem _ hc); have := hge c; omega
    · have := hx2 c hc; omega
  · rcases hcase c with h1 | h1
    · rw [h1]; exact i.one c hc
    · constructor
      · intro h2; omega
      · rintro rfl
        have := (i.one c hc).2 rfl; omega
  · rcases hcase c with h1 | h1
    · exact i.low c hc (by omega)
    · exact h1.2.2.2.1
  · rcases hcase c with h2 | h2
    · obtain ⟨d, h3, h4⟩ := i.prev c hc (by omega)
      exact ⟨d, h3, by rw [hr.keep d (by omega)]; omega⟩
    · exact ⟨a, nb_symm t ha h2.2.2.1, by omega⟩
  · rcases hcase c with h2 | h2
    · by_cases hca : c = a
      · subst hca
        have h3 := hr.all d hd (by rw [i.len]; exact hl d hd) hgd
        refine ⟨h3, ?_⟩
        rcases hcase d with h4 | h4
        · have := hm d; omega
        · omega
      · have hcq : c ∉ a :: q := fun hmem => by
          rcases List.mem_cons.1 hmem with h3 | h3
          · exact hca h3
          · exact hnq (by rw [hx1]; exact List.mem_append_left _ h3)
        obtain ⟨h3, h4⟩ := i.next c hc (by omega) hcq d hd hgd
        rw [hr.keep d h3]
        omega
    · exact (hnq h2.2.2.2.2).elim
  · rcases hcase c with h1 | h1
    · have := hm c; omega
    · omega
  · rw [hr.keep c (i.set_ c (List.mem_cons_of_mem _ (by rw [hqe]; exact List.mem_append_left _ hc)))]
    exact hq1 c hc
  · rcases List.mem_append.1 hc with hc | hc
    · rw [hr.keep c (i.set_ c (List.mem_cons_of_mem _ (by rw [hqe]; exact List.mem_append_right _ hc)))]
      exact hq2 c hc
    · have := hx2 c hc; omega
theorem bfsRow_cnt {n : Nat} {g : List Int} {h : Int} {d : Nat} (hd : 0 < d) : ∀ (l lev q : List Nat), (∀ c ∈ l, c < lev.length) →
    (bfsRow g h d l (lev, q)).2.length + (bfsRow g h d l (lev, q)).1.countP (fun x => x == 0) = q.length + lev.countP (fun x => x == 0)
  | [], lev, q, _ => rfl
  | c :: l, lev, q, hl => by
    unfold bfsRow
    by_cases hc : lev.getD c 0 = 0 ∧ gr g c ≤ h
    · rw [if_pos hc, bfsRow_cnt (n := n) hd l _ _ (fun x hx => by simpa using hl x (List.mem_cons_of_mem _ hx))]
      have hg : lev[c]? = some 0 := by
        have h0 := hc.1
        have : c < lev.length := hl c (List.mem_cons_self ..)
        rw [List.getD_eq_getElem?_getD, List.getElem?_eq_getElem this] at h0
        rw [List.getElem?_eq_getElem this]
        simpa using h0
      have := countP_drop (p := fun x : Nat => x == 0) (v := d) hg (by simp) (by simp; omega)
      simp only [List.length_append, List.length_singleton]
      omega
    · rw [if_neg hc]
      exact bfsRow_cnt (n := n) hd l _ _ (fun x hx => hl x (List.mem_cons_of_mem _ hx))
theorem BI.runs {W Hh n : Nat} {g : List Int} {h : Int} {b : Nat} (t : Ter W Hh n) : ∀ (m : Nat) {lev q : List Nat}, q.length + 2 * lev.countP (fun x => x == 0) = m → BI W n g h b lev q → ∃ k L, Bfs W n g h L k lev q ∧ Dist W n g h b L := by
  intro m
  induction m using Nat.strongRecOn with
  | ind m ih =>
    intro lev q hm i
    cases q with
    | nil =>
      exact ⟨0, lev, .done, i.len, i.one, i.low, i.prev, fun c hc h0 d hd hg => i.next c hc h0 List.not_mem_nil d hd hg, fun c => by have := i.bnd c; omega⟩
    | cons a q =>
      have ha : a < n := i.lt a (List.mem_cons_self ..)
      have hcn := bfsRow_cnt (n := n) (g := g) (h := h) (d := lev.getD a 0 + 1) (by omega) (nb W n a) lev q (fun c hc => by rw [i.len]; exact nb_lt t ha hc)
      have hr := bfsRow_spec (g := g) (h := h) (d := lev.getD a 0 + 1) (by omega) (nb W n a) lev q (fun c hc => by rw [i.len]; exact nb_lt t ha hc)
      obtain ⟨x, hx1, _⟩ := hr.que
      have hq : q.length ≤ (bfsRow g h (lev.getD a 0 + 1) (nb W n a) (lev, q)).2.length := by rw [hx1]; simp
      simp only [List.length_cons] at hm
      obtain ⟨k, L, h1, h2⟩ := ih _ (by omega) rfl (i.round t)
      exact ⟨k + 1, L, .next h1, h2⟩
theorem bfs_start {W Hh n : Nat} {g : List Int} {h : Int} {b : Nat} (t : Ter W Hh n) (hb : b < n) (hg : gr g b ≤ h) : BI W n g h b ((List.replicate n 0).set b 1) [b] := by
  have hgd : ∀ c, ((List.replicate n 0).set b 1).getD c 0 = if b = c then 1 else 0 := fun c => by
    rw [getD_set]
    by_cases h1 : b = c
    · subst h1; simp [hb]
    · simp only [h1, false_and, if_false]
      rw [List.getD_eq_getElem?_getD, List.getElem?_replicate]
      split <;> simp
  have hcp : ((List.replicate n 0).set b 1).countP (fun x => x == 0) + 1 = n := by
    rw [countP_drop (u := 0) (by rw [List.getElem?_replicate]; simp [hb]) (by simp) (by simp)]
    simp [List.countP_replicate]
  refine ⟨⟨by simp, fun c hc => ?_, ?_, fun c => ?_⟩, fun c hc => ?_, fun c hc => ?_, fun c hc h0 => ?_, fun c hc h1 => ?_, fun c hc h0 hq => ?_, ⟨1, [b], [], fun c => ?_, rfl, fun c hc => ?_, fun c hc => (List.not_mem_nil hc).elim⟩⟩
  · obtain rfl : c = b := by simpa using hc
    exact hb
  · simp only [List.length_singleton]; omega
  · rw [hgd]; split <;> omega
  · obtain rfl : c = b := by simpa using hc
    rw [hgd]; simp
  · rw [hgd]
    by_cases h1 : b = c
    · subst h1; simp
    · rw [if_neg h1]; constructor
      · intro h2; omega
      · intro h2; exact (h1 h2.symm).elim
  · rw [hgd] at h0
    split at h0
    · rename_i h1; subst h1; exact hg
    · omega
  · rw [hgd] at h1
    split at h1 <;> omega
  · rw [hgd] at h0
    split at h0
    · rename_i h1; subst h1; simp at hq
    · omega
  · rw [hgd]; split <;> omega
  · obtain rfl : c = b := by simpa using hc
    rw [hgd]; simp
/-- What can be reached has steps. -/
theorem Dist.reach {W Hh n : Nat} {g : List Int} {h : Int} {b : Nat} {L : List Nat} (t : Ter W Hh n) (d : Dist W n g h b L) (hb : b < n) {c : Nat} (k : Rch W n g h b c) : 0 < L.getD c 0 := by
  induction k with
  | refl _ => have := (d.one b hb).2 rfl; omega
  | step k hc hg ih => exact (d.next _ (k.lt t hb) ih _ hc hg).1
/-- What has steps can be reached. -/
theorem Dist.back {W Hh n : Nat} {g : List Int} {h : Int} {b : Nat} {L : List Nat} (t : Ter W Hh n) (d : Dist W n g h b L) (hg : gr g b ≤ h) : ∀ (m c : Nat), c < n → L.getD c 0 = m + 1 → Rch W n g h b c
  | 0, c, hc, hm => by rw [(d.one c hc).1 hm]; exact .refl hg
  | m + 1, c, hc, hm => by
    obtain ⟨e, h1, h2⟩ := d.prev c hc (by omega)
    have he := nb_lt t hc h1
    exact .step (Dist.back t d hg m e he (by omega)) (nb_symm t hc h1) (d.low c hc (by omega))
/-! The way -/
/-- The next cell on the way. -/
def nxt (W n : Nat) (L : List Nat) (a : Nat) : Option Nat := (nb W n a).find? fun c => L.getD c 0 + 1 == L.getD a 0
inductive Pth (W n : Nat) (L : List Nat) (b : Nat) : Nat → List Nat → Prop
  | done : Pth W n L b b [b]
  | next {a c : Nat} {l : List Nat} (hne : a ≠ b) (hn : nxt W n L a = some c) (k : Pth W n L b c l) : Pth W n L b a (a :: l)
theorem Dist.nxt {W n : Nat} {g : List Int} {h : Int} {a b : Nat} {L : List Nat} (d : Dist W n g h b L) (ha : a < n) (h0 : 0 < L.getD a 0) (hne : a ≠ b) : ∃ c, nxt W n L a = some c ∧ c ∈ nb W n a ∧ L.getD c 0 + 1 = L.getD a 0 := by
  have h1 : 1 < L.getD a 0 := by
    have : L.getD a 0 ≠ 1 := fun e => hne ((d.one a ha).1 e)
    omega
  obtain ⟨c, h2, h3⟩ := d.prev a ha h1
  generalize hf : Go.Proofs.Ytcjkndjjbjoehaa.nxt W n L a = o
  cases o with
  | none =>
    have := List.find?_eq_none.1 hf c h2
    exact absurd (beq_iff_eq.2 h3) this
  | some x =>
    have h4 := List.find?_some hf
    exact ⟨x, rfl, List.mem_of_find?_eq_some hf, by simpa using h4⟩
theorem Dist.path {W Hh n : Nat} {g : List Int} {h : Int} {b : Nat} {L : List Nat} (t : Ter W Hh n) (d : Dist W n g h b L) : ∀ (m a : Nat), a < n → L.getD a 0 = m + 1 → ∃ l, Pth W n L b a l ∧ l.length = m + 1
  | 0, a, ha, hm => by rw [(d.one a ha).1 hm]; exact ⟨[b], .done, rfl⟩
  | m + 1, a, ha, hm => by
    have hne : a ≠ b := fun e => by have := (d.one a ha).2 e; omega
    obtain ⟨c, h1, h2, h3⟩ := d.nxt ha (by omega) hne
    obtain ⟨l, h4, h5⟩ := Dist.path t d m c (nb_lt t ha h2) (by omega)
    exact ⟨a :: l, .next hne h1 h4, by simp [h5]⟩
theorem Pth.uniq {W n : Nat} {L : List Nat} {a b : Nat} {l l' : List Nat} (x : Pth W n L b a l) (y : Pth W n L b a l') : l = l' := by
  induction x generalizing l' with
  | done => cases y with
    | done => rfl
    | next hne _ _ => exact (hne rfl).elim
  | next hne hn k ih => cases y with
    | done => exact (hne rfl).elim
    | next _ hn' k' =>
      rw [hn] at hn'
      obtain rfl := Option.some.inj hn'
      rw [ih k']
theorem Bfs.uniq {W n : Nat} {g : List Int} {h : Int} {L L' : List Nat} {k k' : Nat} {lev q : List Nat} (x : Bfs W n g h L k lev q) (y : Bfs W n g h L' k' lev q) : L = L' := by
  induction x generalizing k' with
  | done => cases y; rfl
  | next s ih => cases y with
    | next s' => exact ih s'
section
variable {c : Cx} {F : Fr} {H : Hp} {d : Option Tmp} {ty t t' : TypeId} {pos : String} {af : Array Edge} {g : Option (Nat × Bool)} {x y : Operand} {k : IntKind} {m n : Int}
theorem oq_leqT (hx : ev F x = some (.int k m)) (hy : ev F y = some (.int k n)) (h : m ≤ n) : OQ c ⟨d, .binOp .leq t x y t', ty, pos, af, g⟩ F H (.bool true) := (oq_leq hx hy).as (by simp [h])
theorem oq_leqF (hx : ev F x = some (.int k m)) (hy : ev F y = some (.int k n)) (h : ¬ m ≤ n) : OQ c ⟨d, .binOp .leq t x y t', ty, pos, af, g⟩ F H (.bool false) := (oq_leq hx hy).as (by simp [h])
theorem oq_lssT (hx : ev F x = some (.int k m)) (hy : ev F y = some (.int k n)) (h : m < n) : OQ c ⟨d, .binOp .lss t x y t', ty, pos, af, g⟩ F H (.bool true) := (oq_lss hx hy).as (by simp [h])
theorem oq_lssF (hx : ev F x = some (.int k m)) (hy : ev F y = some (.int k n)) (h : ¬ m < n) : OQ c ⟨d, .binOp .lss t x y t', ty, pos, af, g⟩ F H (.bool false) := (oq_lss hx hy).as (by simp [h])
theorem oq_gtrT (hx : ev F x = some (.int k m)) (hy : ev F y = some (.int k n)) (h : n < m) : OQ c ⟨d, .binOp .gtr t x y t', ty, pos, af, g⟩ F H (.bool true) := (oq_gtr hx hy).as (by simp [h])
theorem oq_gtrF (hx : ev F x = some (.int k m)) (hy : ev F y = some (.int k n)) (h : ¬ n < m) : OQ c ⟨d, .binOp .gtr t x y t', ty, pos, af, g⟩ F H (.bool false) := (oq_gtr hx hy).as (by simp [h])
theorem oq_geqT (hx : ev F x = some (.int k m)) (hy : ev F y = some (.int k n)) (h : n ≤ m) : OQ c ⟨d, .binOp .geq t x y t', ty, pos, af, g⟩ F H (.bool true) := (oq_geq hx hy).as (by simp [h])
theorem oq_geqF (hx : ev F x = some (.int k m)) (hy : ev F y = some (.int k n)) (h : ¬ n ≤ m) : OQ c ⟨d, .binOp .geq t x y t', ty, pos, af, g⟩ F H (.bool false) := (oq_geq hx hy).as (by simp [h])
theorem oq_eqlT (hx : ev F x = some (.int k m)) (hy : ev F y = some (.int k n)) (h : m = n) : OQ c ⟨d, .binOp .eql t x y t', ty, pos, af, g⟩ F H (.bool true) := (oq_eql hx hy).as (by simp [h])
theorem oq_eqlF (hx : ev F x = some (.int k m)) (hy : ev F y = some (.int k n)) (h : ¬ m = n) : OQ c ⟨d, .binOp .eql t x y t', ty, pos, af, g⟩ F H (.bool false) := (oq_eql hx hy).as (by simp [h])
theorem oq_neqT (hx : ev F x = some (.int k m)) (hy : ev F y = some (.int k n)) (h : ¬ m = n) : OQ c ⟨d, .binOp .neq t x y t', ty, pos, af, g⟩ F H (.bool true) := (oq_neq hx hy).as (by simp [h])
theorem oq_neqF (hx : ev F x = some (.int k m)) (hy : ev F y = some (.int k n)) (h : m = n) : OQ c ⟨d, .binOp .neq t x y t', ty, pos, af, g⟩ F H (.bool false) := (oq_neq hx hy).as (by simp [h])
end
theorem oq_mulE {c : Cx} {F : Fr} {H : Hp} {d : Option Tmp} {ty t t' : TypeId} {pos : String} {af : Array Edge} {g : Option (Nat × Bool)} {x y : Operand} {m n k : Int} (hx : ev F x = some (.int .i64 m)) (hy : ev F y = some (.int .i64 n)) (e : m * n = k) (hk : -9223372036854775808 ≤ k ∧ k ≤ 9223372036854775807) : OQ c ⟨d, .binOp .mul t x y t', ty, pos, af, g⟩ F H (.int .i64 k) := by
  subst e
  exact oq_mul hx hy ⟨hk.1, hk.2⟩
end Go.Proofs.Ytcjkndjjbjoehaa
namespace Go.Proofs.Ytcjkndjjbjoehaa
open Go.RowKit
theorem SAnyI_lexE {P : Program} {ops : Array Oper} {cov : Array Bool} {Q : Act → World → Prop} {I : World → Prop} (hU : Up I) (hs : Region.noSelect ops = true) (n : Nat) : ∀ (l : List Nat) (listed : Array Bool) (a : Act) (w0 : World), I w0 → lexOk ops cov l listed = true → Down ops listed →
    wpGI P ops I (fun a' => ∀ w, Ext w0 w → SAnyI P ops cov I Q n (listedBy l listed) a' w) l a → ∀ w, Ext w0 w → SAnyI P ops cov I Q (n + l.length) listed a w
  | [], _, _, _, _, _, _, h => h
  | i :: l, listed, a, w0, hw0, hB, hd, h => by
    simp only [lexOk, Bool.and_eq_true] at hB
    obtain ⟨⟨⟨hr, hf⟩, hc⟩, hB'⟩ := hB
    have hr' : i ∈ Region.ready .any ops listed := by simpa using hr
    unfold wpGI at h
    cases ho : ops[i]? with
    | none => simp only [ho] at h
    | some o =>
      simp only [ho] at h
      by_cases hw : Region.wanted o (yielded ops a.tmps) = true
      · simp only [hw, if_true] at h
        obtain ⟨v, hv, hK⟩ := h
        exact SAnyI_first hU ho (Region.noSelect_spec hs) hc (n + l.length) listed a w0 hw0 hd (Region.free_spec ho hf) hr' (.inl ⟨hw, hv⟩) (SAnyI_lexE hU hs n l _ _ w0 hw0 hB' (hd.set hr') hK)
      · simp only [hw] at h
        exact SAnyI_first hU ho (Region.noSelect_spec hs) hc (n + l.length) listed a w0 hw0 hd (Region.free_spec ho hf) hr' (.inr ⟨by simpa using hw, rfl⟩) (SAnyI_lexE hU hs n l _ _ w0 hw0 hB' (hd.set hr') h)
theorem t_mixZ {c : Cx} {Q : QS} {F : Fr} {H : Hp} {id : Nat} {l ql : List Oper} (q : List Nat) (n : Nat) (hm : c.P.follows .mixedOrders = true) (hB : (Region.noSelect ⟨l⟩ && (n + q.length == (Array.mk l).size) && lexOk ⟨l⟩ #[] q (Array.replicate (Array.mk l).size false)) = true) (hq : pickOps l q = some ql)
    (h : GX c ⟨l⟩ ql (fun F' => AL c ⟨l⟩ #[] [] n (listedBy q (Array.replicate (Array.mk l).size false)) (fun F H => Q .normal F H) F' H) F []) : T c (WS.own c.P) (.region id ⟨l⟩ true) Q F H := fun D a w ha hw => by
  show (Code.region id ⟨l⟩ true).wp c.P (cv c Q) a w
  simp only [Bool.and_eq_true, beq_iff_eq] at hB
  obtain ⟨⟨hs, hn⟩, hl⟩ := hB
  have hI : Has c.w0 ⟨c.M, D⟩ [] w := hw.sub HpSub.nil
  refine wp_region_any hm (wpAny_of_SAnyI (Q := fun a w => ∃ D F H, Q .normal F H ∧ Frm D c.N F a ∧ Has c.w0 ⟨c.M, D⟩ H w) (I := Has c.w0 ⟨c.M, D⟩ []) (cov := #[]) (fun _ _ h => h) _ _ _ _ ?_)
  rw [← hn]
  have key := SAnyI_lexE (P := c.P) (cov := #[]) (Q := fun a w => ∃ D F H, Q .normal F H ∧ Frm D c.N F a ∧ Has c.w0 ⟨c.M, D⟩ H w) (Has.up (M := ⟨c.M, D⟩)) hs n q (Array.replicate (Array.mk l).size false) a w hI hl (Down.none _)
    (wpGI_mono (fun a' ⟨F', h1, h2⟩ w' hw' => h1 D a' w' h2 (hw.grow hw')) q a (h q (pickOps_spec hq) D a ha)) w.drew (Ext.refl w).drew
  exact hn.symm ▸ key
end Go.Proofs.Ytcjkndjjbjoehaa
