/- The calculus of walks, part 2; the types. -/
import Derived.Test.YtmlmgipngbndgaaPkA
import Derived.RangeFuncNested
import Derived.RangeFuncCalls
import Derived.Test.YtmlmgipngbndgaaChecked
import Derived.Laws.StructEq
import Derived.Laws.MakeOwn
import Derived.ProofKit
import Derived.Lib.SmallJoins
/- A calculus for walks, part 5: loops over iterators. -/
namespace Go.Proofs.Ytmlmgipngbndgaa
set_option linter.unusedVariables false
set_option linter.unusedSimpArgs false
open Go.RowKit

/-- The blocks of Mi lie as they lay. -/
def KeepB (Mi : Nat → Prop) (W W' : World) : Prop := ∀ b, Mi b → W'.heap[b]? = W.heap[b]?
/-- Blocks known by themselves. -/
structure Blks (n : Nat) (H : Hp) (W : World) : Prop where
  blk : ∀ x ∈ H, n ≤ x.1 ∧ Blk W x.1 x.2.1 x.2.2
  nodup : (H.map Prod.fst).Nodup

theorem Has.grown {w0 : World} {M : Ms} {H : Hp} {W W' : World} {row : Option Nat} (h : Has w0 M H W) (hg : W.grownBy W' row) (hr : ∀ r, row = some r → w0.heap.size ≤ r ∧ r ∉ M.dk ∧ ∃ o : Obj, W.heap[r]? = some o ∧ o.isCells = false) : Has w0 M H W' := by
  refine ⟨⟨hg.os.trans h.ext.os, hg.tape.trans h.ext.tape, hg.output.trans h.ext.output, Nat.le_trans h.ext.size hg.size, fun b hb hm => ?_⟩, fun x hx => ⟨(h.blk x hx).1, (h.blk x hx).2.same (hg.block _ (h.blk x hx).2.lt fun e => ?_)⟩, h.nodup, h.marks.1, fun k hk => ⟨(h.marks.2 k hk).1, ?_⟩⟩
  · rw [hg.block b (Nat.lt_of_lt_of_le hb h.ext.size) (fun e => by have := (hr b e.symm).1; omega)]
    exact h.ext.block b hb hm
  · obtain ⟨_, _, o, ho, hc⟩ := hr _ e.symm
    obtain ⟨c, t, h1, _⟩ := (h.blk x hx).2
    rw [h1] at ho; cases ho; cases hc
  · rw [hg.block k (mark_lt (h.marks.2 k hk).2) (fun e => (hr k e.symm).2.1 hk)]
    exact (h.marks.2 k hk).2
theorem Blks.grown {n : Nat} {H : Hp} {W W' : World} {row : Option Nat} (h : Blks n H W) (hg : W.grownBy W' row) (hr : ∀ r, row = some r → ∃ o : Obj, W.heap[r]? = some o ∧ o.isCells = false) : Blks n H W' :=
  ⟨fun x hx => ⟨(h.blk x hx).1, (h.blk x hx).2.same (hg.block _ (h.blk x hx).2.lt fun e => by
    obtain ⟨o, ho, hc⟩ := hr _ e.symm
    obtain ⟨c, t, h1, _⟩ := (h.blk x hx).2
    rw [h1] at ho; cases ho; cases hc)⟩, h.nodup⟩
/-- Two blocks of different elements are different. -/
theorem Blk.ne {W : World} {b b' e s c e' s' c' : Nat} {C C' : List Value} (h : Blk W b C (some (e, s, c))) (h' : Blk W b' C' (some (e', s', c'))) (hne : e ≠ e') : b ≠ b' := by
  rintro rfl
  obtain ⟨x, t, h1, _, h2, _⟩ := h
  obtain ⟨x', t', h1', _, h2', _⟩ := h'
  rw [h1] at h1'
  cases h1'
  exact hne (h2.symm.trans h2')
theorem ExtM.keeps {M : List Nat} {W W' : World} {n : Nat} (h : ExtM M W W') (hc : ∀ b ∈ M, ∃ c t, W.heap[b]? = some (.cells c t (0, 0))) : KeepsFrom n W W' :=
  ⟨h.size, fun k o hk h0 ho => (h.block k (mark_lt h0) (fun hm => by obtain ⟨c, t, h1⟩ := hc k hm; rw [h1] at h0; cases h0; cases ho)).trans h0⟩

theorem Has.cells {w0 : World} {M : Ms} {H : Hp} {W : World} (h : Has w0 M H W) {b : Nat} (hb : b ∈ H.map Prod.fst) : ∃ c t, W.heap[b]? = some (.cells c t (0, 0)) := by
  obtain ⟨x, hx, rfl⟩ := List.mem_map.1 hb
  obtain ⟨c, t, h1, _⟩ := (h.blk x hx).2
  exact ⟨c, t, h1⟩
/-- A piece of a walk that may write the blocks of H. -/
theorem Has.comp {w0 : World} {M D M' : List Nat} {H H' : Hp} {W W' : World} (h : Has w0 ⟨M, D⟩ H W) (k : Has W ⟨M', []⟩ H' W') (hM : ∀ b ∈ M', b ∈ H.map Prod.fst) : Has w0 ⟨M, D⟩ H' W' := by
  have own : ∀ b ∈ M', w0.heap.size ≤ b ∨ b ∈ M := fun b hb => by
    obtain ⟨x, hx, rfl⟩ := List.mem_map.1 (hM b hb)
    exact (h.blk x hx).1
  refine ⟨⟨k.ext.os.trans h.ext.os, k.ext.tape.trans h.ext.tape, k.ext.output.trans h.ext.output, Nat.le_trans h.ext.size k.ext.size, fun b hb hm => ?_⟩, fun x hx => ⟨?_, (k.blk x hx).2⟩, k.nodup, h.marks.1, fun m hm => ⟨(h.marks.2 m hm).1, ?_⟩⟩
  · rw [k.ext.block b (Nat.lt_of_lt_of_le hb h.ext.size) (fun e => by rcases own b e with h1 | h1; omega; exact hm h1)]
    exact h.ext.block b hb hm
  · rcases (k.blk x hx).1 with h1 | h1
    · exact .inl (Nat.le_trans h.ext.size h1)
    · exact own _ h1
  · have h1 := (h.marks.2 m hm).2
    rw [k.ext.block m (mark_lt h1) (fun e => by
      obtain ⟨c, t, h2⟩ := h.cells (hM m e)
      rw [h2] at h1; cases h1)]
    exact h1
theorem Has.join {w0 : World} {M : Ms} {H B : Hp} {W : World} {n : Nat} (h : Has w0 M H W) (hb : Blks n B W) (hn : w0.heap.size ≤ n) (hd : ∀ x ∈ B, ∀ y ∈ H, x.1 ≠ y.1) : Has w0 M (B ++ H) W := by
  refine ⟨h.ext, fun x hx => ?_, ?_, h.marks⟩
  · rcases List.mem_append.1 hx with hx | hx
    · exact ⟨.inl (Nat.le_trans hn (hb.blk x hx).1), (hb.blk x hx).2⟩
    · exact h.blk x hx
  · rw [List.map_append, List.nodup_append]
    refine ⟨hb.nodup, h.nodup, fun a ha b hbm => ?_⟩
    obtain ⟨x, hx, rfl⟩ := List.mem_map.1 ha
    obtain ⟨y, hy, rfl⟩ := List.mem_map.1 hbm
    exact hd x hx y hy
theorem Has.self {w0 : World} {M : Ms} {H : Hp} {W : World} (h : Has w0 M H W) : Has W ⟨H.map Prod.fst, []⟩ H W :=
  ⟨ExtM.refl _ _, fun x hx => ⟨.inr (List.mem_map.2 ⟨x, hx, rfl⟩), (h.blk x hx).2⟩, h.nodup, List.nodup_nil, fun k hk => (List.not_mem_nil hk).elim⟩
def parF : List (Nat × Value) → Fr → Fr
  | [], F => F
  | (p, v) :: l, F => parF l ((p, v) :: F)
theorem Frm.par {D : List Nat} {N : Nat} : ∀ (l : List (Nat × Value)) {F : Fr} {tmps : Array Value}, (∀ p ∈ l, Nat.blt p.1 N = true) → Frm D N F ⟨tmps, D.map dmark⟩ → Frm [] N (parF l F) ⟨l.foldl (fun t p => t.setIfInBounds p.1 p.2) tmps, []⟩
  | [], F, tmps, _, h => ⟨h.size, rfl, h.at_⟩
  | (p, v) :: l, F, tmps, hl, h => by
    have := h.put (hl (p, v) (List.mem_cons_self ..)) v
    exact Frm.par (D := D) l (fun q hq => hl q (List.mem_cons_of_mem _ hq)) this

/-- How a round may be left. -/
def QB {α ι κ : Type} (hp : ι → Hp) (Pi : List α → ι → Prop) (hl : κ → Hp) (Pl : Code → List α → κ → Prop) (xs : List α) : QS
  | .normal, _, H' => ∃ j, Pi xs j ∧ HpSub H' (hp j)
  | .ret, _, H' => ∃ j, Pl .ret xs j ∧ HpSub H' (hl j)
  | .exit id, _, H' => ∃ j, Pl (.exit id) xs j ∧ HpSub H' (hl j)
  | _, _, _ => False

section
variable {c : Cx} {F : Fr} {H : Hp} {g : Operand} {ps : Array Tmp} {assign body : Code} {α ι κ β : Type} {Q : QS}

/-- Straight code: regions that don't draw, one behind the other. -/
def SL0 (c : Cx) : Code → (Fr → Hp → Prop) → Fr → Hp → Prop
  | .region _ ops false, R, F, H => noDefer ops = true ∧ TL c ops ops.toList R F H
  | .seq x y, R, F, H => SL0 c x (fun F H => SL0 c y R F H) F H
  | _, _, _, _ => False
theorem sl0_region {id : Nat} {l : List Oper} {R : Fr → Hp → Prop} (h1 : noDefer ⟨l⟩ = true) (h2 : TL c ⟨l⟩ l R F H) : SL0 c (.region id ⟨l⟩ false) R F H := ⟨h1, h2⟩
theorem sl0_seq {x y : Code} {R : Fr → Hp → Prop} (h : SL0 c x (fun F H => SL0 c y R F H) F H) : SL0 c (.seq x y) R F H := h
theorem SL0.wpIn {l m : Nat} : ∀ (k : Code) {R : Fr → Hp → Prop} {F : Fr} {H : Hp}, SL0 c k R F H → ∀ (D : List Nat) (a : Act) (w : World), Frm D c.N F a → Has c.w0 ⟨c.M, D⟩ H w →
    k.wpIn (Fence.wide.inRound l) m c.P (fun e a' w' => e = .normal ∧ ∃ F' H', R F' H' ∧ Frm D c.N F' a' ∧ Has c.w0 ⟨c.M, D⟩ H' w') a w
  | .region _ ops false, R, F, H, h, D, a, w, ha, hw => by
    have := h.2 0 rfl D a w ha hw
    exact wpIn_region (wpOpsIn_of_chain (R := fun a' W' => ∃ F' H', R F' H' ∧ Frm D c.N F' a' ∧ Has c.w0 ⟨c.M, D⟩ H' W') h.1 (fun a' W' he => ⟨rfl, he⟩) _ _ _ (by rw [List.range_eq_range']; exact this))
  | .seq x y, R, F, H, h, D, a, w, ha, hw => by
    refine wpIn_seq (wpIn_mono (SL0.wpIn x h D a w ha hw) fun e a' w' ⟨he, F', H', h1, h2, h3⟩ => ?_)
    subst he
    exact SL0.wpIn y h1 D a' w' h2 h3
  | .region _ _ true, _, _, _, h, _, _, _, _, _ => h.elim
  | .skip, _, _, _, h, _, _, _, _, _ => h.elim
  | .cond _ _ _, _, _, _, h, _, _, _, _, _ => h.elim
  | .block _ _, _, _, _, h, _, _, _, _, _ => h.elim
  | .loop _, _, _, _, h, _, _, _, _, _ => h.elim
  | .rangeFunc _ _ _ _, _, _, _, h, _, _, _, _, _ => h.elim
  | .exit _, _, _, _, h, _, _, _, _, _ => h.elim
  | .scope _, _, _, _, h, _, _, _, _, _ => h.elim
  | .label _, _, _, _, h, _, _, _, _, _ => h.elim
  | .goto _, _, _, _, h, _, _, _, _, _ => h.elim
  | .ret, _, _, _, h, _, _, _, _, _ => h.elim
  | .refuse _, _, _, _, h, _, _, _, _, _ => h.elim
/-- What the body of a loop over an iterator leaves as it lies: old blocks, and those of hk. -/
def MiOf (c : Cx) (hk : Hp) (b : Nat) : Prop := (b < c.w0.heap.size ∧ b ∉ c.M) ∨ b ∈ hk.map Prod.fst
structure RangeOk (c : Cx) (F : Fr) (ns : List Nat) (hk : Hp) (ps : Array Tmp) (assign body : Code) (m : Nat) (encs : α → List Value) (N : Nat)
    (hp : ι → Hp) (Pi : List α → ι → Prop) (bx : α → β → Hp) (fx : α → β → Fr) (hl : κ → Hp) (Pl : Code → List α → κ → Prop) : Prop where
  size : ∀ x, (encs x).length = ps.size
  slots : (ps.toList.all fun p => Nat.blt p c.N) = true
  assign_ : ∀ (x : α) (W : World), SL0 { c with w0 := W, M := [] } assign (fun F' H' => ∃ bs, FrSub F' (fx x bs) ∧ HpSub H' (bx x bs)) (parF (ps.toList.zip (encs x)) F) []
  disj : ∀ x bs i n W D, Blks n (bx x bs) W → Has c.w0 ⟨c.M, D⟩ (hp i ++ hk) W → (∀ b ∈ ns, b < n) → ∀ y ∈ bx x bs, ∀ z ∈ hp i ++ hk, y.1 ≠ z.1
  body_ : ∀ (l : Nat) (pre : List α) (x : α) (i : ι) (bs : β) (W : World) (D : List Nat), Pi pre i → Has c.w0 ⟨c.M, D⟩ (bx x bs ++ hp i ++ hk) W → pre.length < N → (∃ r, W.heap[l]? = some (.loop r)) →
    T { c with w0 := W, M := (bx x bs ++ hp i).map Prod.fst } (WS.round c.P l m) body (QB hp Pi hl Pl (pre ++ [x])) (fx x bs) (bx x bs ++ hp i)

theorem range_assign {m N : Nat} {ns : List Nat} {hk : Hp} {encs : α → List Value} {hp : ι → Hp} {Pi : List α → ι → Prop} {bx : α → β → Hp} {fx : α → β → Fr} {hl : κ → Hp} {Pl : Code → List α → κ → Prop}
    (R : RangeOk c F ns hk ps assign body m encs N hp Pi bx fx hl Pl) {D : List Nat} {a : Act} (ha : Frm D c.N F a) (l : Nat) (x : α) (W : World) (n0 : Nat) (hn0 : n0 ≤ W.heap.size) (K : Act → World → Prop)
    (hK : ∀ a' W' bs, Ext W W' → Frm [] c.N (fx x bs) a' → Blks n0 (bx x bs) W' → K a' W') :
    assign.wpIn (Fence.wide.inRound l) m c.P (Exit.then K (fun _ _ _ => False)) { tmps := (ps.zip ⟨encs x⟩).foldl (fun t (p, v) => t.setIfInBounds p v) a.tmps, defers := [] } W := by
  have hF : Frm [] c.N (parF (ps.toList.zip (encs x)) F) { tmps := (ps.zip ⟨encs x⟩).foldl (fun t (p, v) => t.setIfInBounds p v) a.tmps, defers := [] } := by
    have h1 : Frm D c.N F ⟨a.tmps, D.map dmark⟩ := ⟨ha.size, rfl, ha.at_⟩
    have := Frm.par (ps.toList.zip (encs x)) (fun p hp => by
      have h2 := List.all_eq_true.1 R.slots
      exact h2 p.1 (List.of_mem_zip hp).1) h1
    have e : (ps.zip ⟨encs x⟩).foldl (fun t (p, v) => t.setIfInBounds p v) a.tmps = (ps.toList.zip (encs x)).foldl (fun t p => t.setIfInBounds p.1 p.2) a.tmps := by
      rw [← Array.foldl_toList, Array.toList_zip]
    rw [e]; exact this
  have h0 : Has W ⟨[], []⟩ [] W := Has.start W
  refine wpIn_mono (SL0.wpIn assign (R.assign_ x W) [] _ W hF h0) fun e a' W' he => ?_
  obtain ⟨rfl, F', H', ⟨bs, h1, h2⟩, h3, h4⟩ := he
  have h5 := h4.sub h2
  refine hK a' W' bs h4.ext.ext (h3.sub h1) ⟨fun y hy => ⟨?_, (h5.blk y hy).2⟩, h5.nodup⟩
  rcases (h5.blk y hy).1 with h6 | h6
  · exact Nat.le_trans hn0 h6
  · exact (List.not_mem_nil h6).elim

/-- A piece of a walk that may write some of the blocks. -/
theorem Has.comp2 {w0 : World} {M D : List Nat} {X hk H' : Hp} {W W' : World} (h : Has w0 ⟨M, D⟩ (X ++ hk) W) (k : Has W ⟨X.map Prod.fst, []⟩ H' W') : Has w0 ⟨M, D⟩ (H' ++ hk) W' := by
  have h1 := h.comp (H' := H') k (fun b hb => by rw [List.map_append]; exact List.mem_append_left _ hb)
  have hnd := h.nodup
  rw [List.map_append, List.nodup_append] at hnd
  have kept : ∀ x ∈ hk, x.1 ∉ X.map Prod.fst := fun x hx hm => hnd.2.2 _ hm _ (List.mem_map.2 ⟨x, hx, rfl⟩) rfl
  refine ⟨h1.ext, fun x hx => ?_, ?_, h1.marks⟩
  · rcases List.mem_append.1 hx with hx | hx
    · exact h1.blk x hx
    · have h2 := h.blk x (List.mem_append_right _ hx)
      exact ⟨h2.1, h2.2.same (k.ext.block _ h2.2.lt (kept x hx))⟩
  · rw [List.map_append, List.nodup_append]
    refine ⟨k.nodup, hnd.2.1, fun a ha b hb => ?_⟩
    obtain ⟨x, hx, rfl⟩ := List.mem_map.1 ha
    obtain ⟨y, hy, rfl⟩ := List.mem_map.1 hb
    intro e
    have h2 := (h.blk y (List.mem_append_right _ hy)).2.lt
    rcases (k.blk x hx).1 with h3 | h3
    · omega
    · exact kept y hy (e ▸ h3)
/-- What a round's body must show, for the law. -/
theorem range_body {m N : Nat} {ns : List Nat} {hk : Hp} {encs : α → List Value} {hp : ι → Hp} {Pi : List α → ι → Prop} {bx : α → β → Hp} {fx : α → β → Fr} {hl : κ → Hp} {Pl : Code → List α → κ → Prop}
    (R : RangeOk c F ns hk ps assign body m encs N hp Pi bx fx hl Pl) {D : List Nat} (n0 : Nat) (l : Nat) (pre : List α) (x : α) (i : ι) (bs : β) (a' : Act) (W : World) (hi : Pi pre i) (hw : Has c.w0 ⟨c.M, D⟩ (bx x bs ++ hp i ++ hk) W) (hlen : pre.length < N) (hr : ∃ r, W.heap[l]? = some (.loop r)) (hmi : ∀ b, MiOf c hk b → b < n0)
    (ha : Frm [] c.N (fx x bs) a') (hn : n0 ≤ W.heap.size) :
    body.wpIn (Fence.wide.inRound l) m c.P (ownPostG n0 (KeepB (MiOf c hk)) (fun xs W' => ∃ j, Pi xs j ∧ Has c.w0 ⟨c.M, D⟩ (hp j ++ hk) W' ∧ n0 ≤ W'.heap.size) (fun k xs W' => ∃ j, Pl k xs j ∧ Has c.w0 ⟨c.M, D⟩ (hl j ++ hk) W') (pre ++ [x]) W) a' W := by
  have hself : Has W ⟨(bx x bs ++ hp i).map Prod.fst, []⟩ (bx x bs ++ hp i) W := by
    refine ⟨ExtM.refl _ _, fun y hy => ⟨.inr (List.mem_map.2 ⟨y, hy, rfl⟩), (hw.blk y (List.mem_append_left _ hy)).2⟩, ?_, List.nodup_nil, fun k hk => (List.not_mem_nil hk).elim⟩
    have := hw.nodup
    rw [List.map_append, List.nodup_append] at this
    exact this.1
  have h := R.body_ l pre x i bs W D hi hw hlen hr [] a' W ha hself
  refine wpIn_mono h fun e a2 W' he => ?_
  obtain ⟨D', F', H', h1, h2, h3⟩ := he
  have hk0 : KeepsFrom n0 W W' := h3.ext.keeps (fun b hb => hw.cells (by rw [List.map_append]; exact List.mem_append_left _ hb))
  have hB : KeepB (MiOf c hk) W W' := fun b hb => h3.ext.block b (Nat.lt_of_lt_of_le (hmi b hb) hn) (fun hm => by
    rcases hb with hb | hb
    · obtain ⟨y, hy, rfl⟩ := List.mem_map.1 hm
      rcases (hw.blk y (List.mem_append_left _ hy)).1 with h4 | h4
      · omega
      · exact hb.2 h4
    · have := hw.nodup
      rw [List.map_append, List.nodup_append] at this
      exact this.2.2 _ hm _ hb rfl)
  have h3' : Has W ⟨(bx x bs ++ hp i).map Prod.fst, []⟩ H' W' := ⟨h3.ext, h3.blk, h3.nodup, List.nodup_nil, fun k hk => (List.not_mem_nil hk).elim⟩
  cases e with
  | normal =>
    obtain ⟨j, hj, hs⟩ := h1
    exact ⟨hk0, hB, j, hj, hw.comp2 (h3'.sub hs), Nat.le_trans hn h3.ext.size⟩
  | ret =>
    obtain ⟨j, hj, hs⟩ := h1
    exact ⟨hk0, j, hj, hw.comp2 (h3'.sub hs)⟩
  | exit id =>
    obtain ⟨j, hj, hs⟩ := h1
    exact ⟨hk0, j, hj, hw.comp2 (h3'.sub hs)⟩
  | goto _ => exact h1.elim
  | panic _ => exact h1.elim
  | outgrown => exact h1.elim
theorem mi_lt {hk H X : Hp} {D : List Nat} {w : World} (hw : Has c.w0 ⟨c.M, D⟩ H w) (hH : HpSub H (X ++ hk)) (b : Nat) (hb : MiOf c hk b) : b < w.heap.size := by
  rcases hb with hb | hb
  · exact Nat.lt_of_lt_of_le hb.1 hw.ext.size
  · obtain ⟨y, hy, rfl⟩ := List.mem_map.1 hb
    exact ((hw.sub hH).blk y (List.mem_append_right _ hy)).2.lt

/-- A loop over an iterator, outside of all rounds. -/
theorem t_range {N m gf : Nat} {lb : List Value} {encs : α → List Value} {S Sp : List α → Prop} {hk : Hp} (hp : ι → Hp) (Pi : List α → ι → Prop) (bx : α → β → Hp) (fx : α → β → Fr) (hl : κ → Hp) (Pl : Code → List α → κ → Prop) (i0 : ι)
    (hev : ev F g = some (.func (.func gf) #[] ⟨lb⟩)) (eg : ∀ (args : Array Value) (w : World), (callFunc gf args).run c.P w = .ok (.enter gf args) w)
    (hseq : ∀ D w, Has c.w0 ⟨c.M, D⟩ H w → SeqStopsK Fence.wide (m + 1) c.P gf ⟨lb⟩ (fun x => ⟨encs x⟩) (KeepB (MiOf c hk)) S Sp N w)
    (h0 : Pi [] i0) (hH : HpSub H (hp i0 ++ hk)) (R : RangeOk c F (H.map Prod.fst) hk ps assign body m encs N hp Pi bx fx hl Pl)
    (hdone : ∀ xs i, S xs → Pi xs i → Q .normal F (hp i ++ hk)) (hstop : ∀ k pre j, Sp pre → Pl k pre j → T c (WS.own c.P) k Q F (hl j ++ hk)) : T c (WS.own c.P) (.rangeFunc g ps assign body) Q F H := by
  intro D a w ha hw
  refine (wpIn_wide (n := m + 2)).1 ?_
  have hD : ∀ k ∈ D, k < w.heap.size := fun k hk => mark_lt (hw.marks.2 k hk).2
  have stab : ∀ (X : Hp) (A B : World) (row : Option Nat), Has c.w0 ⟨c.M, D⟩ X A → A.grownBy B row → (∀ r, row = some r → w.heap.size ≤ r ∧ ∃ o : Obj, A.heap[r]? = some o ∧ o.isCells = false) → Has c.w0 ⟨c.M, D⟩ X B := fun X A B row h hg hr =>
    h.grown hg fun r e => ⟨Nat.le_trans hw.ext.size (hr r e).1, fun hm => by have := hD r hm; have := (hr r e).1; omega, (hr r e).2⟩
  refine wpIn_rangeFunc_ownH (F := Fence.wide) (encs := fun x => ⟨encs x⟩) (Kp := KeepB (MiOf c hk)) (S := S) (Sp := Sp) (N := N) (w0 := w) rfl (by omega) (gf := gf) (lb := ⟨lb⟩) (ha.ev hev) trivial eg (hseq D w hw) (fun h k b hb => (k b hb).trans (h b hb))
    (fun W l o o' hl ho hc hwk b hb => by have := mi_lt hw hH b hb; exact World.putObj_heap_other (by omega)) (Below.refl _ _) (fun x => by simpa using R.size x)
    (fun xs W' => ∃ j, Pi xs j ∧ Has c.w0 ⟨c.M, D⟩ (hp j ++ hk) W' ∧ w.heap.size ≤ W'.heap.size) (fun k xs W' => ∃ j, Pl k xs j ∧ Has c.w0 ⟨c.M, D⟩ (hl j ++ hk) W')
    (fun s A B row ⟨j, h1, h2, h3⟩ hg hr => ⟨j, h1, stab _ A B row h2 hg hr, Nat.le_trans h3 hg.size⟩) (fun k s A B row ⟨j, h1, h2⟩ hg hr => ⟨j, h1, stab _ A B row h2 hg hr⟩) ⟨i0, h0, hw.sub hH, Nat.le_refl _⟩
    (fun x a' W => ∃ bs, Frm [] c.N (fx x bs) a' ∧ Blks w.heap.size (bx x bs) W) (fun x a' _ A B row ⟨bs, h1, h2⟩ hg hr => ⟨bs, h1, h2.grown hg fun r e => (hr r e).2⟩) ?_ ?_ ?_ ?_
  · intro l pre x W K ⟨j, h1, h2, h3⟩ hK
    refine range_assign R ha l x W w.heap.size h3 K fun a' W' bs he hf hb => hK a' W' ?_ ?_ ⟨j, h1, h2.grow he, Nat.le_trans h3 he.size⟩ ⟨bs, hf, hb⟩
    · exact (he.toM []).keeps (fun b hb => (List.not_mem_nil hb).elim)
    · exact fun b hb => he.block b (Nat.lt_of_lt_of_le (mi_lt hw hH b hb) h3)
  · intro l pre x a' W hl' hr ⟨j, h1, h2, h3⟩ ⟨bs, h4, h5⟩ hlen
    have hj := h2.join h5 hw.ext.size (R.disj x bs j _ W D h5 h2 (fun b hb => by obtain ⟨y, hy, rfl⟩ := List.mem_map.1 hb; exact (hw.blk y hy).2.lt))
    rw [← List.append_assoc] at hj
    exact range_body R w.heap.size l pre x j bs a' W h1 hj hlen hr (fun b hb => mi_lt hw hH b hb) h4 h3
  · intro D' xs W hD' hS ⟨j, h1, h2, h3⟩ hm
    refine ⟨D' :: D, F, hp j ++ hk, hdone xs j hS h1, ⟨ha.size, by simp [ha.defers, dmark], ha.at_⟩, h2.ext, h2.blk, h2.nodup, List.nodup_cons.2 ⟨fun hmem => by have := hD _ hmem; omega, h2.marks.1⟩, fun k hk => ?_⟩
    rcases List.mem_cons.1 hk with rfl | hk
    · exact ⟨Nat.le_trans hw.ext.size hD', hm⟩
    · exact h2.marks.2 k hk
  · intro D' k pre W hD' hS ⟨j, h1, h2⟩ hm
    refine wpIn_wide.2 (hstop k pre j hS h1 (D' :: D) _ W ⟨ha.size, by simp [ha.defers, dmark], ha.at_⟩ ⟨h2.ext, h2.blk, h2.nodup, List.nodup_cons.2 ⟨fun hmem => by have := hD _ hmem; omega, h2.marks.1⟩, fun k hk => ?_⟩)
    rcases List.mem_cons.1 hk with rfl | hk
    · exact ⟨Nat.le_trans hw.ext.size hD', hm⟩
    · exact h2.marks.2 k hk

/-- A loop over an iterator, within a round of loop l₀. -/
theorem t_rangeN {N m gf l₀ : Nat} {lb : List Value} {encs : α → List Value} {S Sp : List α → Prop} {hk : Hp} (hp : ι → Hp) (Pi : List α → ι → Prop) (bx : α → β → Hp) (fx : α → β → Fr) (hl : κ → Hp) (Pl : Code → List α → κ → Prop) (i0 : ι)
    (hl₀ : ∃ r, c.w0.heap[l₀]? = some (.loop r)) (hlM : l₀ ∉ c.M)
    (hev : ev F g = some (.func (.func gf) #[] ⟨lb⟩)) (eg : ∀ (args : Array Value) (w : World), (callFunc gf args).run c.P w = .ok (.enter gf args) w)
    (hseq : ∀ D w, Has c.w0 ⟨c.M, D⟩ H w → SeqStopsK Fence.wide (m + 1) c.P gf ⟨lb⟩ (fun x => ⟨encs x⟩) (KeepB (MiOf c hk)) S Sp N w)
    (h0 : Pi [] i0) (hH : HpSub H (hp i0 ++ hk)) (R : RangeOk c F (H.map Prod.fst) hk ps assign body m encs N hp Pi bx fx hl Pl)
    (hdone : ∀ xs i, S xs → Pi xs i → Q .normal F (hp i ++ hk)) (hstop : ∀ k pre j, Sp pre → Pl k pre j → T c (WS.round c.P l₀ (m + 2)) k Q F (hl j ++ hk)) : T c (WS.round c.P l₀ (m + 2)) (.rangeFunc g ps assign body) Q F H := by
  intro D a w ha hw
  have hD : ∀ k ∈ D, k < w.heap.size := fun k hk => mark_lt (hw.marks.2 k hk).2
  obtain ⟨r₀, hr₀⟩ := hl₀
  have hwl : w.heap[l₀]? = some (.loop r₀) := (hw.ext.block l₀ (mark_lt hr₀) hlM).trans hr₀
  have stab : ∀ (X : Hp) (A B : World) (row : Option Nat), Has c.w0 ⟨c.M, D⟩ X A → A.grownBy B row → (∀ r, row = some r → w.heap.size ≤ r ∧ ∃ o : Obj, A.heap[r]? = some o ∧ o.isCells = false) → Has c.w0 ⟨c.M, D⟩ X B := fun X A B row h hg hr =>
    h.grown hg fun r e => ⟨Nat.le_trans hw.ext.size (hr r e).1, fun hm => by have := hD r hm; have := (hr r e).1; omega, (hr r e).2⟩
  refine wpIn_rangeFunc_ownN (F := Fence.wide.inRound l₀) (n := m + 2) (encs := fun x => ⟨encs x⟩) (Kp := KeepB (MiOf c hk)) (S := S) (Sp := Sp) (N := N) (w0 := w) (l₀ := l₀) (r₀ := r₀) rfl hwl (by omega) (gf := gf) (lb := ⟨lb⟩) (ha.ev hev) trivial eg ((hseq D w hw).inRound l₀) (fun h k b hb => (k b hb).trans (h b hb))
    (fun W l o o' hl ho hc hwk b hb => by have := mi_lt hw hH b hb; exact World.putObj_heap_other (by omega)) (Below.refl _ _) (fun x => by simpa using R.size x)
    (fun xs W' => ∃ j, Pi xs j ∧ Has c.w0 ⟨c.M, D⟩ (hp j ++ hk) W' ∧ w.heap.size ≤ W'.heap.size) (fun k xs W' => ∃ j, Pl k xs j ∧ Has c.w0 ⟨c.M, D⟩ (hl j ++ hk) W')
    (fun s A B row ⟨j, h1, h2, h3⟩ hg hr => ⟨j, h1, stab _ A B row h2 hg hr, Nat.le_trans h3 hg.size⟩) (fun k s A B row ⟨j, h1, h2⟩ hg hr => ⟨j, h1, stab _ A B row h2 hg hr⟩) ⟨i0, h0, hw.sub hH, Nat.le_refl _⟩
    (fun x a' W => ∃ bs, Frm [] c.N (fx x bs) a' ∧ Blks w.heap.size (bx x bs) W) (fun x a' _ A B row ⟨bs, h1, h2⟩ hg hr => ⟨bs, h1, h2.grown hg fun r e => (hr r e).2⟩) ?_ ?_ ?_ ?_
  · intro l pre x W K ⟨j, h1, h2, h3⟩ hK
    refine range_assign R ha l x W w.heap.size h3 K fun a' W' bs he hf hb => hK a' W' ?_ ?_ ⟨j, h1, h2.grow he, Nat.le_trans h3 he.size⟩ ⟨bs, hf, hb⟩
    · exact (he.toM []).keeps (fun b hb => (List.not_mem_nil hb).elim)
    · exact fun b hb => he.block b (Nat.lt_of_lt_of_le (mi_lt hw hH b hb) h3)
  · intro l pre x a' W hl' hr ⟨j, h1, h2, h3⟩ ⟨bs, h4, h5⟩ hlen
    have hj := h2.join h5 hw.ext.size (R.disj x bs j _ W D h5 h2 (fun b hb => by obtain ⟨y, hy, rfl⟩ := List.mem_map.1 hb; exact (hw.blk y hy).2.lt))
    rw [← List.append_assoc] at hj
    exact range_body R w.heap.size l pre x j bs a' W h1 hj hlen hr (fun b hb => mi_lt hw hH b hb) h4 h3
  · intro xs W hS ⟨j, h1, h2, h3⟩
    exact ⟨D, F, hp j ++ hk, hdone xs j hS h1, ha, h2⟩
  · intro k pre W hS ⟨j, h1, h2⟩
    exact hstop k pre j hS h1 D _ W ha h2
end

/-! Calls that hand out memory -/
theorem Has.call {w0 : World} {M D : List Nat} {H H' : Hp} {w w' : World} (h : Has w0 ⟨M, D⟩ H w) (k : Has w ⟨[], []⟩ H' w') : Has w0 ⟨M, D⟩ (H' ++ H) w' := by
  have h' := h.grow k.ext.ext
  have own : ∀ x ∈ H', w.heap.size ≤ x.1 := fun x hx => by
    rcases (k.blk x hx).1 with h1 | h1
    · exact h1
    · exact (List.not_mem_nil h1).elim
  refine ⟨h'.ext, fun x hx => ?_, ?_, h'.marks⟩
  · rcases List.mem_append.1 hx with hx | hx
    · exact ⟨.inl (Nat.le_trans h.ext.size (own x hx)), (k.blk x hx).2⟩
    · exact h'.blk x hx
  · rw [List.map_append, List.nodup_append]
    refine ⟨k.nodup, h.nodup, fun a ha b hb => ?_⟩
    obtain ⟨x, hx, rfl⟩ := List.mem_map.1 ha
    obtain ⟨y, hy, rfl⟩ := List.mem_map.1 hb
    have h1 := own x hx
    have h2 := (h.blk y hy).2.lt
    omega
section
variable {c : Cx} {F : Fr} {H : Hp} {K : Value → Hp → Prop} {d : Option Tmp} {ty : TypeId} {pos : String} {af : Array Edge} {g : Option (Nat × Bool)}
/-- A call that hands out memory that it has made. -/
theorem os_callF {f : Operand} {args : Array Operand} {T : Array TypeId} {k : Nat} {fst cap vs : List Value} {PV : Value → Hp → Prop} (hf : ev F f = some (.func (.func k) ⟨fst⟩ ⟨cap⟩)) (hc : ∀ (a : Array Value) (w : World), (callFunc k a).run c.P w = .ok (.enter k a) w)
    (ha : evs F args.toList = some vs) (h : ∀ D w, Has c.w0 ⟨c.M, D⟩ H w → Calls c.P k ⟨fst ++ vs ++ cap⟩ w fun e w' => ∃ v H', e = .returned v ∧ PV v H' ∧ Has w ⟨[], []⟩ H' w')
    (hk : ∀ v H', PV v H' → K v (H' ++ H)) : OS c ⟨d, .call ⟨.value f, args, T⟩, ty, pos, af, g⟩ F H K :=
  os_call hf hc ha fun D w hw => (h D w hw).mono fun e w' ⟨v, H', h1, h2, h3⟩ => ⟨v, H' ++ H, h1, hk v H' h2, hw.call h3⟩
end
/-- A block of rows, read as a slice. -/
theorem Blk.rows {w : World} {b n k : Nat} {rows : List (List Value)} {g : Tg} (h : Blk w b rows.flatten g) (hl : rows.length = n) (hk : ∀ r ∈ rows, r.length = k) : RdS w k (some ⟨b, 0, none⟩) n rows := by
  refine ⟨hl, fun _ => ⟨b, 0, rfl, h.lt, fun i x hx => ⟨hk x (List.mem_of_getElem? hx), fun j u hu => ?_⟩⟩⟩
  refine h.cell ?_
  rw [Nat.zero_add]
  clear h hl
  induction rows generalizing i with
  | nil => simp at hx
  | cons r rows ih =>
    have hr := hk r (List.mem_cons_self ..)
    cases i with
    | zero =>
      obtain rfl : r = x := by simpa using hx
      have hj := (List.getElem?_eq_some_iff.1 hu).1
      simp only [List.flatten_cons, Nat.zero_mul, Nat.zero_add]
      rw [List.getElem?_append_left hj]; exact hu
    | succ i =>
      have := ih (fun r hr => hk r (List.mem_cons_of_mem _ hr)) i (by simpa using hx)
      simp only [List.flatten_cons]
      rw [List.getElem?_append_right (by rw [hr, Nat.succ_mul]; omega)]
      rw [← this]; congr 1; rw [hr, Nat.succ_mul]; omega
theorem Has.cellAt {w0 : World} {M : Ms} {H H' : Hp} {w : World} {b o : Nat} {C : List Value} {g : Tg} {v : Value} (h : Has w0 M H w) (p : Pick H b C g H') (ho : C[o]? = some v) : w.cell? ⟨b, o, none⟩ = some v := (h.blk _ p.mem).2.cell ho
theorem Has.ne {w0 : World} {M : Ms} {H : Hp} {w : World} (h : Has w0 M H w) : (H.map Prod.fst).Nodup := h.nodup
theorem Has.off {w0 : World} {M : Ms} {X K : Hp} {w : World} (h : Has w0 M (X ++ K) w) {b : Nat} (hb : b ∈ K.map Prod.fst) : b ∉ X.map Prod.fst := fun hm => by
  have := h.nodup
  rw [List.map_append, List.nodup_append] at this
  exact this.2.2 _ hm _ hb rfl
theorem Has.oldc {w0 : World} {M : Ms} {H : Hp} {w : World} {b o : Nat} {v : Value} (h : Has w0 M H w) (hc : w0.cell? ⟨b, o, none⟩ = some v) (hm : b ∉ M.wr) : w.cell? ⟨b, o, none⟩ = some v := by
  rw [World.cell?_of_block (w := w0) (a := ⟨b, o, none⟩) (h.ext.block b (cell_lt hc) hm)]
  exact hc
theorem Has.notloop {w0 : World} {M : Ms} {H : Hp} {w : World} (h : Has w0 M H w) {l : Nat} (hl : ∃ r, w.heap[l]? = some (.loop r)) : l ∉ H.map Prod.fst := fun hm => by
  obtain ⟨c, t, h1⟩ := h.cells hm
  obtain ⟨r, h2⟩ := hl
  rw [h1] at h2; cases h2
theorem Has.oldoff {w0 : World} {M : Ms} {H : Hp} {w : World} (h : Has w0 M H w) {b : Nat} (hb : b < w0.heap.size) (hm : b ∉ M.wr) : b ∉ H.map Prod.fst := fun hh => by
  obtain ⟨x, hx, rfl⟩ := List.mem_map.1 hh
  rcases (h.blk x hx).1 with h1 | h1
  · omega
  · exact hm h1
theorem RdS.extM {M : List Nat} {w w' : World} {k : Nat} {A : Option Addr} {n : Nat} {xs : List (List Value)} (h : RdS w k A n xs) (he : ExtM M w w') (hA : 0 < n → ∀ b o, A = some ⟨b, o, none⟩ → b ∉ M) : RdS w' k A n xs :=
  ⟨h.len, fun hn => by
    obtain ⟨b, o, rfl, hb, hc⟩ := h.at_ hn
    refine ⟨b, o, rfl, Nat.lt_of_lt_of_le hb he.size, fun i x hx => ⟨(hc i x hx).1, fun j u hu => ?_⟩⟩
    have := (hc i x hx).2 j u hu
    rw [World.cell?_of_block (w := w) (a := ⟨b, o + i * k + j, none⟩) (he.block b hb (hA hn b o rfl))]
    exact this⟩
theorem isNew.extM {M : List Nat} {w w' : World} {b : Nat} {C : Array Value} (h : isNew w b C) (he : ExtM M w w') (hm : b ∉ M) : isNew w' b C :=
  ⟨fun o => (World.cell?_of_block (w := w) (a := ⟨b, o, none⟩) (he.block b h.2.2 hm)).trans (h.1 o), fun o => (World.frozen?_of_block (w := w) (a := ⟨b, o, none⟩) (he.block b h.2.2 hm)).trans (h.2.1 o), Nat.lt_of_lt_of_le h.2.2 he.size⟩
end Go.Proofs.Ytmlmgipngbndgaa
/- More rules. -/
namespace Go.Proofs.Ytmlmgipngbndgaa
set_option linter.unusedVariables false
set_option linter.unusedSimpArgs false
open Go.RowKit

/-- A call of a function that hands out some of the memory that it has made. -/
theorem enterF {c : Cx} {k : FuncId} {fn : Func} {code : Code} {rs : List ResultVar} {args : List Value} {PV : Value → Hp → Prop} (hf : c.P.funcs[k]? = some fn) (hb : fn.body = some code) (hrs : fn.results = ⟨rs⟩) (hN : c.N = args.length + (fn.ntmps - args.length)) (hM : c.M = [])
    (h : T c (WS.own c.P) code (endQ c rs fun v H => ∃ H', PV v H' ∧ HpSub H H') (frOf 0 args) []) : Calls c.P k ⟨args⟩ c.w0 fun e w' => ∃ v H', e = .returned v ∧ PV v H' ∧ Has c.w0 ⟨[], []⟩ H' w' :=
  (enter hf hb hrs hN (fun d v hv => (look_frOf args 0 d v hv).2) (by rw [hM]; exact Has.start _) h).mono fun e w' ⟨v, H', h1, ⟨G, h2, h3⟩, h4⟩ => ⟨v, G, h1, h2, by rw [hM] at h4; exact h4.sub h3⟩

theorem Norm.self : ∀ (l : List Value), Norm l l
  | [] => .nil rfl
  | _ :: l => .cons rfl (Norm.self l)
def flatV : Value → Bool
  | .agg _ => false
  | _ => true
theorem flatV_cells {v : Value} (h : flatV v = true) : cellsL v = [v] := by
  cases v <;> first | rfl | cases h
def pickV : List (Nat × Value) → Nat → Option (List Value)
  | [], _ => some []
  | (j, v) :: l, i => match Nat.beq j i && flatV v, pickV l (i + 1) with
    | true, some r => some (v :: r)
    | _, _ => none
theorem pickV_fill : ∀ (vs : List (Nat × Value)) (k : Nat) (C r : List Value), pickV vs k = some r → k + vs.length = C.length → r.length = vs.length ∧ fillL (fun i => some (i * 1, 1)) C vs = some (C.take k ++ r)
  | [], k, C, r, h, hl => by
    simp only [pickV, Option.some.injEq] at h
    subst h
    simp at hl
    subst hl
    exact ⟨rfl, by simp [fillL]⟩
  | (j, v) :: l, k, C, r, h, hl => by
    simp only [pickV] at h
    split at h
    · rename_i r' h1 h2
      simp only [Bool.and_eq_true] at h1
      have hj : j = k := Nat.eq_of_beq_eq_true h1.1
      subst hj
      cases h
      have hC : (setL C j [v]).length = C.length := setL_length _ _ _
      simp only [List.length_cons] at hl
      obtain ⟨g1, g2⟩ := pickV_fill l (j + 1) (setL C j [v]) r' h2 (by omega)
      refine ⟨by simp [g1], ?_⟩
      simp only [fillL, flatV_cells h1.2, Nat.mul_one]
      have hb : Nat.ble (j + 1) C.length = true := Nat.ble_eq_true_of_le (by omega)
      have hb2 : (Nat.beq [v].length 1 && Nat.ble (j + 1) C.length) = true := by rw [hb]; rfl
      rw [hb2]
      simp only [Nat.mul_one] at g2
      rw [g2]
      simp only [setL]
      congr 1
      rw [List.take_add_one, List.getElem?_set_self (by omega), List.take_set_of_le (Nat.le_refl _)]
      simp
    · cases h
section
variable {c : Cx} {F : Fr} {H : Hp} {K : Value → Hp → Prop} {d : Option Tmp} {ty : TypeId} {pos : String} {af : Array Edge} {g : Option (Nat × Bool)}
/-- A slice of elements of one cell. -/
theorem ox_buildSlice1 {t : Nat} {a0 a1 : Bool} {s0 e len : Nat} {z0 z1 r : List Value} {k1 : TyK} {parts : List (Nat × Operand)} {vs : List (Nat × Value)} (ht : tyAt c.tys t = some ⟨a0, s0, z0, .slice e⟩) (he : tyAt c.tys e = some ⟨a1, 1, z1, k1⟩) (hp : evp F parts = some vs)
    (hf : pickV vs 0 = some r) (hb : Nat.ble len 1000000 = true) (hs : Nat.beq vs.length len = true)
    (k : ∀ b, K (.slice (some ⟨b, 0, none⟩) len len) ((b, r, some (e, 1, len)) :: H)) : OX c ⟨d, .buildSlice t len ⟨parts⟩, ty, pos, af, g⟩ F H K := by
  have hl : vs.length = len := Nat.eq_of_beq_eq_true hs
  obtain ⟨h1, h2⟩ := pickV_fill vs 0 ((List.range (len * 1)).map fun j => z1.toArray[j % z1.toArray.size]!) r hf (by simp [hl])
  exact ox_buildSlice ht he hp h2 (Norm.self _) (by simpa using hb) (by rw [List.take_zero, List.nil_append, h1, hl, Nat.mul_one]; exact Nat.beq_refl _) rfl (fun b => by simpa using k b)
end
end Go.Proofs.Ytmlmgipngbndgaa
/- A slice of spans that is written out. -/
namespace Go.Proofs.Ytmlmgipngbndgaa
set_option linter.unusedVariables false
set_option linter.unusedSimpArgs false
open Go.RowKit

theorem setL_eq : ∀ (l C : List Value) (o : Nat), o + l.length ≤ C.length → setL C o l = C.take o ++ l ++ C.drop (o + l.length)
  | [], C, o, _ => by simp [setL]
  | v :: l, C, o, h => by
    simp only [List.length_cons] at h
    have ih := setL_eq l (C.set o v) (o + 1) (by simp; omega)
    simp only [setL]
    rw [ih, List.take_add_one, List.getElem?_set_self (by omega), List.take_set_of_le (Nat.le_refl _), List.drop_set_of_lt (by omega)]
    simp only [List.length_cons, Option.toList, List.append_assoc, List.cons_append, List.nil_append]
    rw [show o + 1 + l.length = o + (l.length + 1) by omega]
def pick2 : List (Nat × Value) → Nat → Option (List Value)
  | [], _ => some []
  | (j, v) :: l, i => match Nat.beq j i, v, pick2 l (i + 1) with
    | true, .agg ⟨[a, b]⟩, some r => some (a :: b :: r)
    | _, _, _ => none
theorem pick2_fill : ∀ (vs : List (Nat × Value)) (k : Nat) (C r : List Value), pick2 vs k = some r → (k + vs.length) * 2 = C.length → r.length = vs.length * 2 ∧ fillL (fun i => some (i * 2, 2)) C vs = some (C.take (k * 2) ++ r)
  | [], k, C, r, h, hl => by
    simp only [pick2, Option.some.injEq] at h
    subst h
    simp at hl
    exact ⟨rfl, by simp [fillL, hl]⟩
  | (j, v) :: l, k, C, r, h, hl => by
    simp only [pick2] at h
    split at h
    · rename_i a b r' h1 h2
      have hj : j = k := Nat.eq_of_beq_eq_true h1
      subst hj
      cases h
      simp only [List.length_cons] at hl
      have hC : (setL C (j * 2) [a, b]).length = C.length := setL_length _ _ _
      obtain ⟨g1, g2⟩ := pick2_fill l (j + 1) (setL C (j * 2) [a, b]) r' h2 (by omega)
      refine ⟨by simp [g1]; omega, ?_⟩
      have hb2 : (Nat.beq (cellsL (.agg ⟨[a, b]⟩)).length 2 && Nat.ble (j * 2 + 2) C.length) = true := by
        rw [Nat.ble_eq_true_of_le (by omega)]; rfl
      simp only [fillL]
      rw [hb2]
      simp only
      rw [show cellsL (.agg ⟨[a, b]⟩) = [a, b] from rfl, g2, setL_eq _ _ _ (by simp; omega)]
      have ht : (C.take (j * 2) ++ [a, b] ++ C.drop (j * 2 + [a, b].length)).take ((j + 1) * 2) = C.take (j * 2) ++ [a, b] := by
        rw [List.take_append_of_le_length (by simp; omega)]
        exact List.take_of_length_le (by simp; omega)
      rw [ht]
      simp
    · cases h
section
variable {c : Cx} {F : Fr} {H : Hp} {K : Value → Hp → Prop} {d : Option Tmp} {ty : TypeId} {pos : String} {af : Array Edge} {g : Option (Nat × Bool)}
/-- A slice of elements of two cells. -/
theorem ox_buildSlice2 {t : Nat} {a0 a1 : Bool} {s0 e len : Nat} {z0 z1 r : List Value} {k1 : TyK} {parts : List (Nat × Operand)} {vs : List (Nat × Value)} (ht : tyAt c.tys t = some ⟨a0, s0, z0, .slice e⟩) (he : tyAt c.tys e = some ⟨a1, 2, z1, k1⟩) (hp : evp F parts = some vs)
    (hf : pick2 vs 0 = some r) (hb : Nat.ble (len * 2) 1000000 = true) (hs : Nat.beq vs.length len = true)
    (k : ∀ b, K (.slice (some ⟨b, 0, none⟩) len len) ((b, r, some (e, 2, len)) :: H)) : OX c ⟨d, .buildSlice t len ⟨parts⟩, ty, pos, af, g⟩ F H K := by
  have hl : vs.length = len := Nat.eq_of_beq_eq_true hs
  obtain ⟨h1, h2⟩ := pick2_fill vs 0 ((List.range (len * 2)).map fun j => z1.toArray[j % z1.toArray.size]!) r hf (by simp [hl])
  exact ox_buildSlice ht he hp h2 (Norm.self _) hb (by rw [Nat.zero_mul, List.take_zero, List.nil_append, h1, hl]; exact Nat.beq_refl _) rfl (fun b => by simpa using k b)
end
end Go.Proofs.Ytmlmgipngbndgaa
/- Arithmetic of unsigned numbers, masks and shifts. -/
namespace Go.Proofs.Ytmlmgipngbndgaa
set_option linter.unusedVariables false
set_option linter.unusedSimpArgs false
open Go.RowKit
def InU (z : Int) : Prop := 0 ≤ z ∧ z ≤ 18446744073709551615
theorem wrapU {z : Int} (h : InU z) : IntKind.u64.wrap z = z := IntWalk.u64_in _ h
section
variable {c : Cx} {F : Fr} {H : Hp} {d : Option Tmp} {ty t t' : TypeId} {pos : String} {af : Array Edge} {g : Option (Nat × Bool)} {x y : Operand} {m n : Int}
theorem oq_addU (hx : ev F x = some (.int .u64 m)) (hy : ev F y = some (.int .u64 n)) (hr : InU (m + n)) : OQ c ⟨d, .binOp .add t x y t', ty, pos, af, g⟩ F H (.int .u64 (m + n)) := .of fun D a w ha _ => by
  have := wrapU hr
  simp [execOp, ha.ev hx, ha.ev hy, eqGuard, binOp, Op.intArith, go_sem, this]
theorem oq_mulU (hx : ev F x = some (.int .u64 m)) (hy : ev F y = some (.int .u64 n)) (hr : InU (m * n)) : OQ c ⟨d, .binOp .mul t x y t', ty, pos, af, g⟩ F H (.int .u64 (m * n)) := .of fun D a w ha _ => by
  have := wrapU hr
  simp [execOp, ha.ev hx, ha.ev hy, eqGuard, binOp, Op.intArith, go_sem, this]
theorem oq_quoU (hx : ev F x = some (.int .u64 m)) (hy : ev F y = some (.int .u64 n)) (h0 : n ≠ 0) (hr : InU (m.tdiv n)) : OQ c ⟨d, .binOp .quo t x y t', ty, pos, af, g⟩ F H (.int .u64 (m.tdiv n)) := .of fun D a w ha _ => by
  have := wrapU hr
  simp [execOp, ha.ev hx, ha.ev hy, eqGuard, binOp, Op.intDiv, go_sem, this, h0]
theorem oq_remU (hx : ev F x = some (.int .u64 m)) (hy : ev F y = some (.int .u64 n)) (h0 : n ≠ 0) : OQ c ⟨d, .binOp .rem t x y t', ty, pos, af, g⟩ F H (.int .u64 (m.tmod n)) := .of fun D a w ha _ => by
  simp [execOp, ha.ev hx, ha.ev hy, eqGuard, binOp, Op.intDiv, go_sem, h0]
theorem oq_shr {k k' : IntKind} (hx : ev F x = some (.int k m)) (hy : ev F y = some (.int k' n)) (h0 : 0 ≤ n) : OQ c ⟨d, .binOp .shr t x y t', ty, pos, af, g⟩ F H (.int k (m.fdiv (2 ^ (min n.toNat k.bits)))) := .of fun D a w ha _ => by
  have : ¬ n < 0 := by omega
  simp [execOp, ha.ev hx, ha.ev hy, eqGuard, binOp, Op.shift, go_sem, this]
theorem and_mask {a : Int} {j : Nat} (h : InU a) (hj : j < 64) : (BitVec.ofInt 64 a &&& BitVec.ofInt 64 (2 ^ j - 1)).toNat = (a % 2 ^ j).toNat := by
  have h1 : ((2 : Int) ^ j - 1) = ((2 ^ j - 1 : Nat) : Int) := by
    have : 0 < 2 ^ j := Nat.pow_pos (by omega)
    rw [Int.ofNat_sub (by omega)]; simp
  have ha : a = (a.toNat : Int) := (Int.toNat_of_nonneg h.1).symm
  have hlt : a.toNat < 2 ^ 64 := by have := h.2; omega
  have hp : 2 ^ j - 1 < 2 ^ 64 := by
    have : 2 ^ j < 2 ^ 64 := Nat.pow_lt_pow_right (by omega) hj
    omega
  rw [h1, ha, BitVec.ofInt_natCast, BitVec.ofInt_natCast, BitVec.toNat_and, BitVec.toNat_ofNat, BitVec.toNat_ofNat, Nat.mod_eq_of_lt hlt, Nat.mod_eq_of_lt hp, Nat.and_two_pow_sub_one_eq_mod]
  have : ((a.toNat : Int) % 2 ^ j) = ((a.toNat % 2 ^ j : Nat) : Int) := by simp
  rw [this, Int.toNat_natCast]
theorem oq_andU {j : Nat} (hx : ev F x = some (.int .u64 m)) (hy : ev F y = some (.int .u64 (2 ^ j - 1))) (h : InU m) (hj : j < 64) : OQ c ⟨d, .binOp .and t x y t', ty, pos, af, g⟩ F H (.int .u64 (m % 2 ^ j)) := .of fun D a w ha _ => by
  have hm := and_mask h hj
  have hp : (0 : Int) < 2 ^ j := Int.pow_pos (by omega)
  have h0 := Int.emod_nonneg m (Int.ne_of_gt hp)
  have h1 : m % 2 ^ j ≤ m := by
    rw [Int.emod_def]
    exact Int.sub_le_self _ (Int.mul_nonneg (Int.le_of_lt hp) (Int.ediv_nonneg h.1 (Int.le_of_lt hp)))
  have hw : IntKind.u64.wrap (((BitVec.ofInt IntKind.u64.bits m &&& BitVec.ofInt IntKind.u64.bits (2 ^ j - 1)).toNat : Nat) : Int) = m % 2 ^ j := by
    rw [show (BitVec.ofInt IntKind.u64.bits m &&& BitVec.ofInt IntKind.u64.bits (2 ^ j - 1)).toNat = (m % 2 ^ j).toNat from hm, Int.toNat_of_nonneg h0]
    exact wrapU ⟨h0, by have := h.2; omega⟩
  simp only [execOp, ha.ev hx, ha.ev hy, eqGuard, binOp, Op.intBits]
  rw [hw]
  simp [go_sem]
theorem oq_convU {a0 a1 : Bool} {s0 s1 : Nat} {z0 z1 : List Value} {k : IntKind} (ht : tyAt c.tys t = some ⟨a0, s0, z0, .int k⟩) (ht' : tyAt c.tys t' = some ⟨a1, s1, z1, .int .u64⟩) (hx : ev F x = some (.int k m)) (hr : InU m) :
    OQ c ⟨d, .convert t t' x, ty, pos, af, g⟩ F H (.int .u64 m) := .of fun D a w ha _ => by
  have h := (c.ty ht).kind
  have h2 := h w
  have h' := (c.ty ht').kind
  have h3 := h' w
  have := wrapU hr
  simp [execOp, ha.ev hx, convert, go_sem, h2, h3, Conv.intToInt, this]
theorem oq_shr32 {k' : IntKind} (hx : ev F x = some (.int .u64 m)) (hy : ev F y = some (.int k' 32)) (_ : 0 ≤ m) : OQ c ⟨d, .binOp .shr t x y t', ty, pos, af, g⟩ F H (.int .u64 (m / 4294967296)) := by
  have := oq_shr (c := c) (d := d) (ty := ty) (t := t) (t' := t') (pos := pos) (af := af) (g := g) (H := H) hx hy (by omega)
  rw [show (2 : Int) ^ (min (32 : Int).toNat IntKind.u64.bits) = 4294967296 from rfl, Int.fdiv_eq_ediv_of_nonneg _ (by omega)] at this
  exact this
theorem oq_shrLow {k' : IntKind} (hx : ev F x = some (.int .u64 m)) (hy : ev F y = some (.int k' 32)) (h : 0 ≤ m ∧ m < 4294967296) : OQ c ⟨d, .binOp .shr t x y t', ty, pos, af, g⟩ F H (.int .u64 0) := by
  have := oq_shr32 (c := c) (d := d) (ty := ty) (t := t) (t' := t') (pos := pos) (af := af) (g := g) (H := H) hx hy h.1
  rw [show m / 4294967296 = 0 by omega] at this
  exact this
theorem oq_andLow (hx : ev F x = some (.int .u64 m)) (hy : ev F y = some (.int .u64 4294967295)) (h : 0 ≤ m ∧ m < 4294967296) : OQ c ⟨d, .binOp .and t x y t', ty, pos, af, g⟩ F H (.int .u64 m) := by
  have := oq_andU (c := c) (d := d) (ty := ty) (t := t) (t' := t') (pos := pos) (af := af) (g := g) (H := H) (j := 32) hx hy ⟨h.1, by omega⟩ (by omega)
  rw [show m % 2 ^ 32 = m by omega] at this
  exact this
end
end Go.Proofs.Ytmlmgipngbndgaa
/- append of an old slice. -/
namespace Go.Proofs.Ytmlmgipngbndgaa
set_option linter.unusedVariables false
set_option linter.unusedSimpArgs false
open Go.RowKit

theorem flatten_at {k : Nat} : ∀ {rows : List (List Value)}, (∀ r ∈ rows, r.length = k) → ∀ {j : Nat} {u : Value}, rows.flatten[j]? = some u → ∃ i r j', rows[i]? = some r ∧ r[j']? = some u ∧ j = i * k + j'
  | [], _, j, u, h => by simp at h
  | r :: rows, hk, j, u, h => by
    simp only [List.flatten_cons] at h
    have hr := hk r (List.mem_cons_self ..)
    by_cases hj : j < r.length
    · rw [List.getElem?_append_left hj] at h
      exact ⟨0, r, j, rfl, h, by simp⟩
    · rw [List.getElem?_append_right (by omega)] at h
      obtain ⟨i, r', j', h1, h2, h3⟩ := flatten_at (fun r hr => hk r (List.mem_cons_of_mem _ hr)) h
      exact ⟨i + 1, r', j', by simpa using h1, h2, by rw [Nat.succ_mul]; omega⟩
theorem flatten_len {k : Nat} : ∀ {rows : List (List Value)}, (∀ r ∈ rows, r.length = k) → rows.flatten.length = rows.length * k
  | [], _ => by simp
  | r :: rows, hk => by
    rw [List.flatten_cons, List.length_append, hk r (List.mem_cons_self ..), flatten_len fun r hr => hk r (List.mem_cons_of_mem _ hr), List.length_cons, Nat.succ_mul]
    omega
section
variable {c : Cx} {F : Fr} {H H' : Hp} {C : List Value} {K : Value → Hp → Prop} {d : Option Tmp} {ty : TypeId} {pos : String} {af : Array Edge} {g : Option (Nat × Bool)}
theorem append_run0 {g0 : Option (Nat × Bool)} {s x : Operand} {t e size bytes c2 n cap gb : Nat} {A : Option Addr} {a : Act} {w : World} (hk : AppOk c.P t e size bytes) (hs : a.eval s = .slice (some ⟨gb, 0, none⟩) n cap)
    (hx : a.eval x = .slice A 0 c2) (hn : n ≤ cap) : (execOp a.eval ⟨d, .call ⟨.builtin .append, #[s, x], #[t, t]⟩, ty, pos, af, g0⟩).run c.P w = .ok (.value (.slice (some ⟨gb, 0, none⟩) n cap)) w := by
  obtain ⟨i, z, k1, k2, k3, k4, k5⟩ := hk.info
  have ht := hk.und
  cases A <;>
  simp [execOp, resolve, invoke, builtin, Sem.run_bind, Sem.run_pure, Result.andThen, hs, hx, Builtin.append_, run_underlying ht, sizeOf, typeInfo, k1, Builtin.lenOf, Builtin.firstCells, loadCells, loadCellsFrom, hn, storeCells]
/-- append of a slice of rows onto a slice of the call's own. -/
theorem os_appendRows {s x : Operand} {t e size bytes m c2 n cap gb : Nat} {A : Option Addr} {rows : List (List Value)} (hk : AppOk c.P t e size bytes) (hs : ev F s = some (.slice (some ⟨gb, 0, none⟩) n cap)) (hx : ev F x = some (.slice A m c2))
    (hp : Pick H gb C (some (e, size, cap)) H') (hr : ∀ D w, Has c.w0 ⟨c.M, D⟩ H w → RdS w size A m rows) (hrk : ∀ r ∈ rows, r.length = size) (hC : C.length = n * size) (h1 : ∀ r ∈ rows, ∀ u ∈ r, u.oneCell' = true) (hn : n ≤ cap) (hb : (n + m) * bytes ≤ 140737488355328) (hmax : n + m ≤ 9223372036854775807)
    (k : ∀ b cap', K (.slice (some ⟨b, 0, none⟩) (n + m) cap') ((b, C ++ rows.flatten, some (e, size, cap')) :: H')) : OS c ⟨d, .call ⟨.builtin .append, #[s, x], #[t, t]⟩, ty, pos, af, g⟩ F H K := by
  intro D a w ha hw
  have hw' := hw.perm hp.perm
  have hR := hr D w hw
  have hlen := hR.len
  by_cases hm : m = 0
  · subst hm
    have : rows = [] := List.eq_nil_of_length_eq_zero hlen
    subst this
    rw [append_run0 (d := d) (ty := ty) (pos := pos) (af := af) (g0 := g) hk (ha.ev hs) (ha.ev hx) hn]
    exact ⟨_, k gb cap, by simpa using hw'⟩
  · obtain ⟨b2, o2, rfl, _, hc⟩ := hR.at_ (by omega)
    obtain ⟨g', cap', w', r1, r2, r3, r4⟩ := append_run (d := d) (ty := ty) (pos := pos) (af := af) (g0 := g) (news := rows.flatten) hk (ha.ev hs) (own_of_blk (hw'.blk _ (List.mem_cons_self ..)).2 hC hk.pos) (ha.ev hx) (by rw [flatten_len hrk, hlen])
      (fun j u hj => by
        obtain ⟨i, r, j', h2, h3, rfl⟩ := flatten_at hrk hj
        have := (hc i r h2).2 j' u h3
        rw [Nat.add_assoc] at this
        exact this)
      (fun u hu => by
        obtain ⟨r, h2, h3⟩ := List.mem_flatten.1 hu
        exact h1 r h2 u h3) (by omega) hb hmax
    rw [r1]
    have he : ExtM [gb] w w' := ExtM.of_grown r3 (fun k e => by simpa [Value.ownBlock] using e.symm)
    refine ⟨_, k g' cap', ?_⟩
    rcases r4 with r4 | r4
    · obtain rfl : g' = gb := by simpa [Value.ownBlock] using r4
      exact hw'.wrote he r2
    · subst r4
      exact (hw'.lost he).fresh' (w := w) hw.ext.size (fun y hy => (hw'.blk y (List.mem_cons_of_mem _ hy)).2.lt) r2
end
end Go.Proofs.Ytmlmgipngbndgaa
/- Parts of slices, and arrays as slices. -/
namespace Go.Proofs.Ytmlmgipngbndgaa
set_option linter.unusedVariables false
set_option linter.unusedSimpArgs false
open Go.RowKit
section
variable {c : Cx} {F : Fr} {H : Hp} {d : Option Tmp} {ty t : TypeId} {pos : String} {af : Array Edge} {g : Option (Nat × Bool)} {x y : Operand}
theorem oq_sliceL {a0 a1 : Bool} {s0 s1 e b o len cap l : Nat} {z0 z1 : List Value} {k1 : TyK} {k : IntKind} {li : Int} (ht : tyAt c.tys t = some ⟨a0, s0, z0, .slice e⟩) (he : tyAt c.tys e = some ⟨a1, s1, z1, k1⟩)
    (hx : ev F x = some (.slice (some ⟨b, o, none⟩) len cap)) (hy : ev F y = some (.int k li)) (hl : li = l) (h1 : l ≤ len) (h2 : cap ≠ l) :
    OQ c ⟨d, .slice t x (some y) none none, ty, pos, af, g⟩ F H (.slice (some ⟨b, o + l * s1, none⟩) (len - l) (cap - l)) := .of fun D a w ha _ => by
  subst hl
  have hk := (c.ty ht).kind w
  have hs := (c.ty he).size w
  simp only [execOp, Option.map, ha.ev hx, ha.ev hy]
  simp [Instr.sliceAt, Instr.slice, Instr.sliceBounds, Instr.sliceBound, asIntOf, Sem.run_bind, hk, hs, h1, h2, Result.andThen, go_sem, add_eq]
theorem oq_sliceArr {a0 a1 : Bool} {s0 s1 n e b o : Nat} {z0 z1 : List Value} {k1 : TyK} (ht : tyAt c.tys t = some ⟨a0, s0, z0, .array n e⟩) (he : tyAt c.tys e = some ⟨a1, s1, z1, k1⟩)
    (hx : ev F x = some (.pointer (some ⟨b, o, none⟩))) :
    OQ c ⟨d, .slice t x none none none, ty, pos, af, g⟩ F H (.slice (some ⟨b, o, none⟩) n n) := .of fun D a w ha _ => by
  have hk := (c.ty ht).kind w
  have hs := (c.ty he).size w
  simp only [execOp, Option.map, ha.ev hx]
  simp [Instr.sliceAt, Instr.sureAddr, Instr.sliceBounds, Instr.sliceBound, asIntOf, Sem.run_bind, hk, hs, Result.andThen, go_sem, add_eq]
end
end Go.Proofs.Ytmlmgipngbndgaa
/- Shifts and masks of small numbers; a cut behind a region. -/
namespace Go.Proofs.Ytmlmgipngbndgaa
set_option linter.unusedVariables false
set_option linter.unusedSimpArgs false
open Go.RowKit
section
variable {c : Cx} {F : Fr} {H : Hp} {d : Option Tmp} {ty t t' : TypeId} {pos : String} {af : Array Edge} {g : Option (Nat × Bool)} {x y : Operand} {m n : Int}
theorem oq_shr1U {k' : IntKind} (hx : ev F x = some (.int .u64 m)) (hy : ev F y = some (.int k' 1)) (_ : 0 ≤ m) : OQ c ⟨d, .binOp .shr t x y t', ty, pos, af, g⟩ F H (.int .u64 (m / 2)) := by
  have := oq_shr (c := c) (d := d) (ty := ty) (t := t) (t' := t') (pos := pos) (af := af) (g := g) (H := H) hx hy (by omega)
  rw [show (2 : Int) ^ (min (1 : Int).toNat IntKind.u64.bits) = 2 from rfl, Int.fdiv_eq_ediv_of_nonneg _ (by omega)] at this
  exact this
theorem oq_shr1I {k' : IntKind} (hx : ev F x = some (.int .i64 m)) (hy : ev F y = some (.int k' 1)) : OQ c ⟨d, .binOp .shr t x y t', ty, pos, af, g⟩ F H (.int .i64 (m / 2)) := by
  have := oq_shr (c := c) (d := d) (ty := ty) (t := t) (t' := t') (pos := pos) (af := af) (g := g) (H := H) hx hy (by omega)
  rw [show (2 : Int) ^ (min (1 : Int).toNat IntKind.i64.bits) = 2 from rfl, Int.fdiv_eq_ediv_of_nonneg _ (by omega)] at this
  exact this
theorem oq_shr2I {k' : IntKind} (hx : ev F x = some (.int .i64 m)) (hy : ev F y = some (.int k' 2)) : OQ c ⟨d, .binOp .shr t x y t', ty, pos, af, g⟩ F H (.int .i64 (m / 4)) := by
  have := oq_shr (c := c) (d := d) (ty := ty) (t := t) (t' := t') (pos := pos) (af := af) (g := g) (H := H) hx hy (by omega)
  rw [show (2 : Int) ^ (min (2 : Int).toNat IntKind.i64.bits) = 4 from rfl, Int.fdiv_eq_ediv_of_nonneg _ (by omega)] at this
  exact this
theorem oq_and1I (hx : ev F x = some (.int .i64 m)) (hy : ev F y = some (.int .i64 1)) (h : 0 ≤ m ∧ m ≤ 9223372036854775807) : OQ c ⟨d, .binOp .and t x y t', ty, pos, af, g⟩ F H (.int .i64 (m % 2)) := .of fun D a w ha _ => by
  have hm := and_mask (a := m) (j := 1) ⟨h.1, by omega⟩ (by omega)
  rw [show ((2 : Int) ^ 1 - 1) = 1 from rfl, show ((2 : Int) ^ 1) = 2 from rfl] at hm
  have hw : IntKind.i64.wrap (((BitVec.ofInt IntKind.i64.bits m &&& BitVec.ofInt IntKind.i64.bits 1).toNat : Nat) : Int) = m % 2 := by
    rw [show (BitVec.ofInt IntKind.i64.bits m &&& BitVec.ofInt IntKind.i64.bits 1).toNat = (m % 2).toNat from hm, Int.toNat_of_nonneg (by omega)]
    exact wrap_in ⟨by omega, by omega⟩
  simp only [execOp, ha.ev hx, ha.ev hy, eqGuard, binOp, Op.intBits]
  rw [hw]
  simp [go_sem]
end
/-- Where a piece of code ends: slots and blocks, by an index. -/
def cutQ {ι : Type} (ch : ι → Fr) (hc : ι → Hp) (G : Fr) (GH : Hp) : QS := fun e F' H' => e = .normal ∧ ∃ i, FrSub F' (ch i ++ G) ∧ HpSub H' (hc i ++ GH)
section
variable {c : Cx} {S : WS c.P} {Q : QS} {F : Fr} {H : Hp}
/-- A cut behind a region: the slots 'keep' stay, 'ch' are new, so are the blocks 'hc'; the blocks H stay. -/
theorem t_cutK {ι : Type} (rid : Nat) {ops : Array Oper} {dr : Bool} {y : Code} (keep : List Nat) (ch : ι → Fr) (hc : ι → Hp) {G : Fr} (hK : KeepF F keep G)
    (h1 : T c S (.region rid ops dr) (cutQ ch hc G H) F H) (h2 : ∀ i, T c S y Q (ch i ++ G) (hc i ++ H)) : T c S (.seq (.region rid ops dr) y) Q F H :=
  t_cut (fun i => ch i ++ G) (fun i => hc i ++ H) (fun _ => True) (fun D a w ha hw => S.mono (h1 D a w ha hw) fun e a' w' ⟨D', F', H', ⟨he, i, hF, hH⟩, h4, h5⟩ => ⟨D', F', H', ⟨he, i, trivial, hF, hH⟩, h4, h5⟩) (fun i _ => h2 i)
theorem cut_in0 {ch : Unit → Fr} {hc : Unit → Hp} {G F' : Fr} {GH H' : Hp} (h : FrSub F' (ch () ++ G)) (k : HpSub H' (hc () ++ GH)) : cutQ ch hc G GH .normal F' H' := ⟨rfl, (), h, k⟩
theorem cut_in1 {ch : Nat → Fr} {hc : Nat → Hp} {G F' : Fr} {GH H' : Hp} (i : Nat) (h : FrSub F' (ch i ++ G)) (k : HpSub H' (hc i ++ GH)) : cutQ ch hc G GH .normal F' H' := ⟨rfl, i, h, k⟩
theorem cut_in2 {ch : Nat × Nat → Fr} {hc : Nat × Nat → Hp} {G F' : Fr} {GH H' : Hp} (i j : Nat) (h : FrSub F' (ch (i, j) ++ G)) (k : HpSub H' (hc (i, j) ++ GH)) : cutQ ch hc G GH .normal F' H' := ⟨rfl, (i, j), h, k⟩
theorem cut_in3 {ch : Nat × Nat × Nat → Fr} {hc : Nat × Nat × Nat → Hp} {G F' : Fr} {GH H' : Hp} (i j l : Nat) (h : FrSub F' (ch (i, j, l) ++ G)) (k : HpSub H' (hc (i, j, l) ++ GH)) : cutQ ch hc G GH .normal F' H' := ⟨rfl, (i, j, l), h, k⟩
end
end Go.Proofs.Ytmlmgipngbndgaa
/- Arithmetic whose outcome is told in another form. -/
namespace Go.Proofs.Ytmlmgipngbndgaa
set_option linter.unusedVariables false
set_option linter.unusedSimpArgs false
open Go.RowKit
section
variable {c : Cx} {F : Fr} {H : Hp} {d : Option Tmp} {ty t t' : TypeId} {pos : String} {af : Array Edge} {g : Option (Nat × Bool)} {x y : Operand} {m n k : Int} {v u : Value}
theorem OQ.as {o : Oper} (h : OQ c o F H u) (e : u = v) : OQ c o F H v := e ▸ h
theorem oq_subE (hx : ev F x = some (.int .i64 m)) (hy : ev F y = some (.int .i64 n)) (e : m - n = k ∧ -9223372036854775808 ≤ k ∧ k ≤ 9223372036854775807) : OQ c ⟨d, .binOp .sub t x y t', ty, pos, af, g⟩ F H (.int .i64 k) :=
  (oq_sub hx hy ⟨by omega, by omega⟩).as (by rw [e.1])
theorem oq_addE (hx : ev F x = some (.int .i64 m)) (hy : ev F y = some (.int .i64 n)) (e : m + n = k ∧ -9223372036854775808 ≤ k ∧ k ≤ 9223372036854775807) : OQ c ⟨d, .binOp .add t x y t', ty, pos, af, g⟩ F H (.int .i64 k) :=
  (oq_add hx hy ⟨by omega, by omega⟩).as (by rw [e.1])
theorem oq_min2E {T : Array TypeId} (hx : ev F x = some (.int .i64 m)) (hy : ev F y = some (.int .i64 n)) (e : min m n = k) : OQ c ⟨d, .call ⟨.builtin .min, #[x, y], T⟩, ty, pos, af, g⟩ F H (.int .i64 k) :=
  (oq_min2 hx hy).as (by rw [e])
theorem oq_max2E {T : Array TypeId} (hx : ev F x = some (.int .i64 m)) (hy : ev F y = some (.int .i64 n)) (e : max m n = k) : OQ c ⟨d, .call ⟨.builtin .max, #[x, y], T⟩, ty, pos, af, g⟩ F H (.int .i64 k) :=
  (oq_max2 hx hy).as (by rw [e])
theorem oq_shr1N {k' : IntKind} {a : Nat} (hx : ev F x = some (.int .u64 m)) (hy : ev F y = some (.int k' 1)) (e : m = (a : Int)) : OQ c ⟨d, .binOp .shr t x y t', ty, pos, af, g⟩ F H (.int .u64 ((a / 2 : Nat) : Int)) :=
  (oq_shr1U hx hy (by omega)).as (by subst e; simp)
end
end Go.Proofs.Ytmlmgipngbndgaa
/- What is known of the types. -/
namespace Go.Proofs.Ytmlmgipngbndgaa
open Go.RowKit

def FOk (P : Program) : List Field → List (Nat × Nat × Bool) → Prop
  | [], [] => True
  | d :: ds, (off, n, g) :: fs => d.offset = off ∧ (∀ w, (sizeOf d.type).run P w = .ok n w) ∧ (∀ w, (isAgg d.type).run P w = .ok g w) ∧ FOk P ds fs
  | _, _ => False
theorem FOk.len {P : Program} {ds : Array Field} {fs : List (Nat × Nat × Bool)} (h : FOk P ds.toList fs) : ds.size = fs.length := by
  have : ∀ (l : List Field) (fs : List (Nat × Nat × Bool)), FOk P l fs → l.length = fs.length := by
    intro l
    induction l with
    | nil => intro fs h; cases fs with | nil => rfl | cons a b => exact h.elim
    | cons d l ih => intro fs h; cases fs with | nil => exact h.elim | cons a b => obtain ⟨x, y, z⟩ := a; simp [ih b h.2.2.2]
  simpa using this _ _ h
theorem FOk.at_ {P : Program} : ∀ {ds : List Field} {fs : List (Nat × Nat × Bool)}, FOk P ds fs → ∀ (f off n : Nat) (g : Bool), fs[f]? = some (off, n, g) →
      ∃ d : Field, ds[f]? = some d ∧ d.offset = off ∧ (∀ w, (sizeOf d.type).run P w = .ok n w) ∧ ∀ w, (isAgg d.type).run P w = .ok g w
  | [], [], _, f, off, n, g, h => by simp at h
  | [], _ :: _, h, _, _, _, _, _ => h.elim
  | _ :: _, [], h, _, _, _, _, _ => h.elim
  | d :: ds, (off', n', g') :: fs, h, 0, off, n, g, hf => by
    obtain ⟨rfl, rfl, rfl⟩ : off' = off ∧ n' = n ∧ g' = g := by simpa using hf
    exact ⟨d, rfl, h.1, h.2.1, h.2.2.1⟩
  | d :: ds, (off', n', g') :: fs, h, f + 1, off, n, g, hf => by
    obtain ⟨d', h1, h2⟩ := FOk.at_ h.2.2.2 f off n g (by simpa using hf)
    exact ⟨d', by simpa using h1, h2⟩
theorem struct_ok {P : Program} {t : Nat} {ds : Array Field} {fs : List (Nat × Nat × Bool)} (hu : ∀ w, (underlying t).run P w = .ok (.struct ds) w) (h : FOk P ds.toList fs) : KindOk P t (.struct fs) :=
  ⟨ds, hu, h.len, fun f off n g hf => by
    obtain ⟨d, h1, h2⟩ := h.at_ f off n g hf
    exact ⟨d, by simpa using h1, h2⟩⟩

theorem ty_ok3 : TyOk Try.prog 3 ⟨false, 1, [(.int .i64 0)], .int .i64⟩ := ⟨Try.isAgg3, Try.sizeOf3, fun w => ⟨_, Try.zeroValue3 w, rfl⟩, rfl, Try.runUnderlying3⟩ -- int
theorem ty_ok4 : TyOk Try.prog 4 ⟨false, 1, [(.bool false)], .other⟩ := ⟨Try.isAgg4, Try.sizeOf4, fun w => ⟨_, Try.zeroValue4 w, rfl⟩, rfl, trivial⟩ -- bool
theorem ty_ok5 : TyOk Try.prog 5 ⟨false, 1, [(.int .u8 0)], .int .u8⟩ := ⟨Try.isAgg5, Try.sizeOf5, fun w => ⟨_, Try.zeroValue5 w, rfl⟩, rfl, Try.runUnderlying5⟩ -- uint8
theorem ty_ok20 : TyOk Try.prog 20 ⟨false, 1, [.nilIface], .other⟩ := ⟨Try.isAgg20, Try.sizeOf20, fun w => ⟨_, Try.zeroValue20 w, rfl⟩, rfl, trivial⟩ -- interface {}
theorem ty_ok22 : TyOk Try.prog 22 ⟨false, 1, [(.slice none 0 0)], .slice 106⟩ := ⟨Try.isAgg22, Try.sizeOf22, fun w => ⟨_, Try.zeroValue22 w, rfl⟩, rfl, Try.runUnderlying22⟩ -- []api.Departure
theorem ty_ok23 : TyOk Try.prog 23 ⟨false, 1, [(.slice none 0 0)], .slice 71⟩ := ⟨Try.isAgg23, Try.sizeOf23, fun w => ⟨_, Try.zeroValue23 w, rfl⟩, rfl, Try.runUnderlying23⟩ -- []api.Booking
theorem ty_ok25 : TyOk Try.prog 25 ⟨true, 7, [.int .i64 0, .int .i64 0, .int .i64 0, .slice none 0 0, .slice none 0 0, .int .i64 0, .int .i64 0], .struct [(0, 1, false), (1, 1, false), (2, 1, false), (3, 1, false), (4, 1, false), (5, 1, false), (6, 1, false)]⟩ := ⟨Try.isAgg25, Try.sizeOf25, fun w => ⟨_, Try.zeroValue25 w, rfl⟩, rfl, struct_ok Try.runUnderlying25 ⟨rfl, Try.sizeOf3, Try.isAgg3, ⟨rfl, Try.sizeOf3, Try.isAgg3, ⟨rfl, Try.sizeOf3, Try.isAgg3, ⟨rfl, Try.sizeOf22, Try.isAgg22, ⟨rfl, Try.sizeOf23, Try.isAgg23, ⟨rfl, Try.sizeOf3, Try.isAgg3, ⟨rfl, Try.sizeOf3, Try.isAgg3, trivial⟩⟩⟩⟩⟩⟩⟩⟩ -- api.Office
theorem ty_ok27 : TyOk Try.prog 27 ⟨false, 1, [(.int .i64 0)], .int .i64⟩ := ⟨Try.isAgg27, Try.sizeOf27, fun w => ⟨_, Try.zeroValue27 w, rfl⟩, rfl, Try.runUnderlying27⟩ -- api.Errno
theorem ty_ok40 : TyOk Try.prog 40 ⟨true, 3, [.int .i64 0, .int .i64 0, .int .i64 0], .struct [(0, 1, false), (1, 1, false), (2, 1, false)]⟩ := ⟨Try.isAgg40, Try.sizeOf40, fun w => ⟨_, Try.zeroValue40 w, rfl⟩, rfl, struct_ok Try.runUnderlying40 ⟨rfl, Try.sizeOf3, Try.isAgg3, ⟨rfl, Try.sizeOf3, Try.isAgg3, ⟨rfl, Try.sizeOf3, Try.isAgg3, trivial⟩⟩⟩⟩ -- api.Care
theorem ty_ok41 : TyOk Try.prog 41 ⟨false, 1, [(.slice none 0 0)], .slice 3⟩ := ⟨Try.isAgg41, Try.sizeOf41, fun w => ⟨_, Try.zeroValue41 w, rfl⟩, rfl, Try.runUnderlying41⟩ -- []int
theorem ty_ok54 : TyOk Try.prog 54 ⟨false, 1, [(.slice none 0 0)], .slice 63⟩ := ⟨Try.isAgg54, Try.sizeOf54, fun w => ⟨_, Try.zeroValue54 w, rfl⟩, rfl, Try.runUnderlying54⟩ -- []api.Deal
theorem ty_ok63 : TyOk Try.prog 63 ⟨true, 5, [.int .u8 0, .int .i64 0, .int .i64 0, .int .i64 0, .int .i64 0], .struct [(0, 1, false), (1, 1, false), (2, 1, false), (3, 1, false), (4, 1, false)]⟩ := ⟨Try.isAgg63, Try.sizeOf63, fun w => ⟨_, Try.zeroValue63 w, rfl⟩, rfl, struct_ok Try.runUnderlying63 ⟨rfl, Try.sizeOf5, Try.isAgg5, ⟨rfl, Try.sizeOf3, Try.isAgg3, ⟨rfl, Try.sizeOf3, Try.isAgg3, ⟨rfl, Try.sizeOf3, Try.isAgg3, ⟨rfl, Try.sizeOf3, Try.isAgg3, trivial⟩⟩⟩⟩⟩⟩ -- api.Deal
theorem ty_ok71 : TyOk Try.prog 71 ⟨true, 3, [.int .i64 0, .int .u8 0, .int .i64 0], .struct [(0, 1, false), (1, 1, false), (2, 1, false)]⟩ := ⟨Try.isAgg71, Try.sizeOf71, fun w => ⟨_, Try.zeroValue71 w, rfl⟩, rfl, struct_ok Try.runUnderlying71 ⟨rfl, Try.sizeOf3, Try.isAgg3, ⟨rfl, Try.sizeOf5, Try.isAgg5, ⟨rfl, Try.sizeOf3, Try.isAgg3, trivial⟩⟩⟩⟩ -- api.Booking
theorem ty_ok74 : TyOk Try.prog 74 ⟨true, 4, [.int .i64 0, .int .i64 0, .int .i64 0, .int .i64 0], .struct [(0, 1, false), (1, 1, false), (2, 1, false), (3, 1, false)]⟩ := ⟨Try.isAgg74, Try.sizeOf74, fun w => ⟨_, Try.zeroValue74 w, rfl⟩, rfl, struct_ok Try.runUnderlying74 ⟨rfl, Try.sizeOf3, Try.isAgg3, ⟨rfl, Try.sizeOf3, Try.isAgg3, ⟨rfl, Try.sizeOf3, Try.isAgg3, ⟨rfl, Try.sizeOf3, Try.isAgg3, trivial⟩⟩⟩⟩⟩ -- api.Duty
theorem ty_ok75 : TyOk Try.prog 75 ⟨false, 1, [(.slice none 0 0)], .slice 101⟩ := ⟨Try.isAgg75, Try.sizeOf75, fun w => ⟨_, Try.zeroValue75 w, rfl⟩, rfl, Try.runUnderlying75⟩ -- []api.Shift
theorem ty_ok77 : TyOk Try.prog 77 ⟨false, 1, [(.slice none 0 0)], .slice 99⟩ := ⟨Try.isAgg77, Try.sizeOf77, fun w => ⟨_, Try.zeroValue77 w, rfl⟩, rfl, Try.runUnderlying77⟩ -- []api.Tired
theorem ty_ok89 : TyOk Try.prog 89 ⟨false, 1, [(.slice none 0 0)], .slice 114⟩ := ⟨Try.isAgg89, Try.sizeOf89, fun w => ⟨_, Try.zeroValue89 w, rfl⟩, rfl, Try.runUnderlying89⟩ -- []api.Trip
theorem ty_ok90 : TyOk Try.prog 90 ⟨false, 1, [(.slice none 0 0)], .slice 41⟩ := ⟨Try.isAgg90, Try.sizeOf90, fun w => ⟨_, Try.zeroValue90 w, rfl⟩, rfl, Try.runUnderlying90⟩ -- [][]int
theorem ty_ok99 : TyOk Try.prog 99 ⟨true, 3, [.int .i64 0, .int .i64 0, .int .i64 0], .struct [(0, 1, false), (1, 1, false), (2, 1, false)]⟩ := ⟨Try.isAgg99, Try.sizeOf99, fun w => ⟨_, Try.zeroValue99 w, rfl⟩, rfl, struct_ok Try.runUnderlying99 ⟨rfl, Try.sizeOf3, Try.isAgg3, ⟨rfl, Try.sizeOf3, Try.isAgg3, ⟨rfl, Try.sizeOf3, Try.isAgg3, trivial⟩⟩⟩⟩ -- api.Tired
theorem ty_ok101 : TyOk Try.prog 101 ⟨true, 3, [.int .i64 0, .int .i64 0, .int .i64 0], .struct [(0, 1, false), (1, 1, false), (2, 1, false)]⟩ := ⟨Try.isAgg101, Try.sizeOf101, fun w => ⟨_, Try.zeroValue101 w, rfl⟩, rfl, struct_ok Try.runUnderlying101 ⟨rfl, Try.sizeOf3, Try.isAgg3, ⟨rfl, Try.sizeOf3, Try.isAgg3, ⟨rfl, Try.sizeOf3, Try.isAgg3, trivial⟩⟩⟩⟩ -- api.Shift
theorem ty_ok106 : TyOk Try.prog 106 ⟨true, 4, [.int .i64 0, .int .i64 0, .int .i64 0, .int .u8 0], .struct [(0, 1, false), (1, 1, false), (2, 1, false), (3, 1, false)]⟩ := ⟨Try.isAgg106, Try.sizeOf106, fun w => ⟨_, Try.zeroValue106 w, rfl⟩, rfl, struct_ok Try.runUnderlying106 ⟨rfl, Try.sizeOf3, Try.isAgg3, ⟨rfl, Try.sizeOf3, Try.isAgg3, ⟨rfl, Try.sizeOf3, Try.isAgg3, ⟨rfl, Try.sizeOf5, Try.isAgg5, trivial⟩⟩⟩⟩⟩ -- api.Departure
theorem ty_ok109 : TyOk Try.prog 109 ⟨false, 1, [(.slice none 0 0)], .slice 5⟩ := ⟨Try.isAgg109, Try.sizeOf109, fun w => ⟨_, Try.zeroValue109 w, rfl⟩, rfl, Try.runUnderlying109⟩ -- []uint8
theorem ty_ok114 : TyOk Try.prog 114 ⟨true, 3, [.int .i64 0, .int .i64 0, .int .i64 0], .struct [(0, 1, false), (1, 1, false), (2, 1, false)]⟩ := ⟨Try.isAgg114, Try.sizeOf114, fun w => ⟨_, Try.zeroValue114 w, rfl⟩, rfl, struct_ok Try.runUnderlying114 ⟨rfl, Try.sizeOf3, Try.isAgg3, ⟨rfl, Try.sizeOf3, Try.isAgg3, ⟨rfl, Try.sizeOf3, Try.isAgg3, trivial⟩⟩⟩⟩ -- api.Trip
theorem ty_ok121 : TyOk Try.prog 121 ⟨false, 1, [(.pointer none)], .ptr 135⟩ := ⟨Try.isAgg121, Try.sizeOf121, fun w => ⟨_, Try.zeroValue121 w, rfl⟩, rfl, Try.runUnderlying121⟩ -- *crew.desk
theorem ty_ok129 : TyOk Try.prog 129 ⟨true, 4, [.int .i64 0, .int .i64 0, .int .i64 0, .int .i64 0], .struct [(0, 1, false), (1, 1, false), (2, 1, false), (3, 1, false)]⟩ := ⟨Try.isAgg129, Try.sizeOf129, fun w => ⟨_, Try.zeroValue129 w, rfl⟩, rfl, struct_ok Try.runUnderlying129 ⟨rfl, Try.sizeOf3, Try.isAgg3, ⟨rfl, Try.sizeOf3, Try.isAgg3, ⟨rfl, Try.sizeOf3, Try.isAgg3, ⟨rfl, Try.sizeOf3, Try.isAgg3, trivial⟩⟩⟩⟩⟩ -- crew.purse
theorem ty_ok133 : TyOk Try.prog 133 ⟨false, 1, [(.pointer none)], .ptr 71⟩ := ⟨Try.isAgg133, Try.sizeOf133, fun w => ⟨_, Try.zeroValue133 w, rfl⟩, rfl, Try.runUnderlying133⟩ -- *api.Booking
theorem ty_ok135 : TyOk Try.prog 135 ⟨true, 7, [.int .i64 0, .int .i64 0, .int .i64 0, .slice none 0 0, .slice none 0 0, .int .i64 0, .int .i64 0], .struct [(0, 7, true)]⟩ := ⟨Try.isAgg135, Try.sizeOf135, fun w => ⟨_, Try.zeroValue135 w, rfl⟩, rfl, struct_ok Try.runUnderlying135 ⟨rfl, Try.sizeOf25, Try.isAgg25, trivial⟩⟩ -- crew.desk
theorem ty_ok145 : TyOk Try.prog 145 ⟨false, 1, [.nilFunc], .other⟩ := ⟨Try.isAgg145, Try.sizeOf145, fun w => ⟨_, Try.zeroValue145 w, rfl⟩, rfl, trivial⟩ -- func(int) bool
theorem ty_ok150 : TyOk Try.prog 150 ⟨false, 1, [.nilFunc], .other⟩ := ⟨Try.isAgg150, Try.sizeOf150, fun w => ⟨_, Try.zeroValue150 w, rfl⟩, rfl, trivial⟩ -- func(api.Trip) bool
theorem ty_ok152 : TyOk Try.prog 152 ⟨false, 1, [.nilFunc], .other⟩ := ⟨Try.isAgg152, Try.sizeOf152, fun w => ⟨_, Try.zeroValue152 w, rfl⟩, rfl, trivial⟩ -- func(int, int, []api.Shift) bool
theorem ty_ok165 : TyOk Try.prog 165 ⟨false, 1, [(.int .u64 0)], .int .u64⟩ := ⟨Try.isAgg165, Try.sizeOf165, fun w => ⟨_, Try.zeroValue165 w, rfl⟩, rfl, Try.runUnderlying165⟩ -- uint
theorem ty_ok169 : TyOk Try.prog 169 ⟨true, 1, [.int .i64 0], .struct [(0, 1, false)]⟩ := ⟨Try.isAgg169, Try.sizeOf169, fun w => ⟨_, Try.zeroValue169 w, rfl⟩, rfl, struct_ok Try.runUnderlying169 ⟨rfl, Try.sizeOf27, Try.isAgg27, trivial⟩⟩ -- crew.refusal
theorem ty_ok171 : TyOk Try.prog 171 ⟨false, 1, [.nilFunc], .other⟩ := ⟨Try.isAgg171, Try.sizeOf171, fun w => ⟨_, Try.zeroValue171 w, rfl⟩, rfl, trivial⟩ -- func(*crew.desk, api.Deal)
theorem ty_ok172 : TyOk Try.prog 172 ⟨true, 8, [.nilFunc, .nilFunc, .nilFunc, .nilFunc, .nilFunc, .nilFunc, .nilFunc, .nilFunc], .array 8 171⟩ := ⟨Try.isAgg172, Try.sizeOf172, fun w => ⟨_, Try.zeroValue172 w, rfl⟩, rfl, Try.runUnderlying172⟩ -- [8]func(*crew.desk, api.Deal)
theorem ty_ok178 : TyOk Try.prog 178 ⟨false, 1, [(.slice none 0 0)], .slice 27⟩ := ⟨Try.isAgg178, Try.sizeOf178, fun w => ⟨_, Try.zeroValue178 w, rfl⟩, rfl, Try.runUnderlying178⟩ -- []api.Errno
theorem ty_ok180 : TyOk Try.prog 180 ⟨false, 1, [.nilFunc], .other⟩ := ⟨Try.isAgg180, Try.sizeOf180, fun w => ⟨_, Try.zeroValue180 w, rfl⟩, rfl, trivial⟩ -- func(api.Shift, api.Shift) int
theorem ty_ok181 : TyOk Try.prog 181 ⟨true, 2, [.int .i64 0, .bool false], .struct [(0, 1, false), (1, 1, false)]⟩ := ⟨Try.isAgg181, Try.sizeOf181, fun w => ⟨_, Try.zeroValue181 w, rfl⟩, rfl, struct_ok Try.runUnderlying181 ⟨rfl, Try.sizeOf3, Try.isAgg3, ⟨rfl, Try.sizeOf4, Try.isAgg4, trivial⟩⟩⟩ -- struct { kind int; is bool }
theorem ty_ok182 : TyOk Try.prog 182 ⟨true, 6, [.int .i64 0, .bool false, .int .i64 0, .bool false, .int .i64 0, .bool false], .array 3 181⟩ := ⟨Try.isAgg182, Try.sizeOf182, fun w => ⟨_, Try.zeroValue182 w, rfl⟩, rfl, Try.runUnderlying182⟩ -- [3]struct { kind int; is bool }
theorem ty_ok187 : TyOk Try.prog 187 ⟨true, 3, [.slice none 0 0, .slice none 0 0, .slice none 0 0], .array 3 109⟩ := ⟨Try.isAgg187, Try.sizeOf187, fun w => ⟨_, Try.zeroValue187 w, rfl⟩, rfl, Try.runUnderlying187⟩ -- [3][]uint8
theorem ty_ok190 : TyOk Try.prog 190 ⟨false, 1, [(.int .u32 0)], .int .u32⟩ := ⟨Try.isAgg190, Try.sizeOf190, fun w => ⟨_, Try.zeroValue190 w, rfl⟩, rfl, Try.runUnderlying190⟩ -- uint32
theorem ty_ok193 : TyOk Try.prog 193 ⟨false, 1, [(.int .u64 0)], .int .u64⟩ := ⟨Try.isAgg193, Try.sizeOf193, fun w => ⟨_, Try.zeroValue193 w, rfl⟩, rfl, Try.runUnderlying193⟩ -- uint64
def tys : List (Nat × TyI) := [(3, ⟨false, 1, [(.int .i64 0)], .int .i64⟩),
  (4, ⟨false, 1, [(.bool false)], .other⟩),
  (5, ⟨false, 1, [(.int .u8 0)], .int .u8⟩),
  (20, ⟨false, 1, [.nilIface], .other⟩),
  (22, ⟨false, 1, [(.slice none 0 0)], .slice 106⟩),
  (23, ⟨false, 1, [(.slice none 0 0)], .slice 71⟩),
  (25, ⟨true, 7, [.int .i64 0, .int .i64 0, .int .i64 0, .slice none 0 0, .slice none 0 0, .int .i64 0, .int .i64 0], .struct [(0, 1, false), (1, 1, false), (2, 1, false), (3, 1, false), (4, 1, false), (5, 1, false), (6, 1, false)]⟩),
  (27, ⟨false, 1, [(.int .i64 0)], .int .i64⟩),
  (40, ⟨true, 3, [.int .i64 0, .int .i64 0, .int .i64 0], .struct [(0, 1, false), (1, 1, false), (2, 1, false)]⟩),
  (41, ⟨false, 1, [(.slice none 0 0)], .slice 3⟩),
  (54, ⟨false, 1, [(.slice none 0 0)], .slice 63⟩),
  (63, ⟨true, 5, [.int .u8 0, .int .i64 0, .int .i64 0, .int .i64 0, .int .i64 0], .struct [(0, 1, false), (1, 1, false), (2, 1, false), (3, 1, false), (4, 1, false)]⟩),
  (71, ⟨true, 3, [.int .i64 0, .int .u8 0, .int .i64 0], .struct [(0, 1, false), (1, 1, false), (2, 1, false)]⟩),
  (74, ⟨true, 4, [.int .i64 0, .int .i64 0, .int .i64 0, .int .i64 0], .struct [(0, 1, false), (1, 1, false), (2, 1, false), (3, 1, false)]⟩),
  (75, ⟨false, 1, [(.slice none 0 0)], .slice 101⟩),
  (77, ⟨false, 1, [(.slice none 0 0)], .slice 99⟩),
  (89, ⟨false, 1, [(.slice none 0 0)], .slice 114⟩),
  (90, ⟨false, 1, [(.slice none 0 0)], .slice 41⟩),
  (99, ⟨true, 3, [.int .i64 0, .int .i64 0, .int .i64 0], .struct [(0, 1, false), (1, 1, false), (2, 1, false)]⟩),
  (101, ⟨true, 3, [.int .i64 0, .int .i64 0, .int .i64 0], .struct [(0, 1, false), (1, 1, false), (2, 1, false)]⟩),
  (106, ⟨true, 4, [.int .i64 0, .int .i64 0, .int .i64 0, .int .u8 0], .struct [(0, 1, false), (1, 1, false), (2, 1, false), (3, 1, false)]⟩),
  (109, ⟨false, 1, [(.slice none 0 0)], .slice 5⟩),
  (114, ⟨true, 3, [.int .i64 0, .int .i64 0, .int .i64 0], .struct [(0, 1, false), (1, 1, false), (2, 1, false)]⟩),
  (121, ⟨false, 1, [(.pointer none)], .ptr 135⟩),
  (129, ⟨true, 4, [.int .i64 0, .int .i64 0, .int .i64 0, .int .i64 0], .struct [(0, 1, false), (1, 1, false), (2, 1, false), (3, 1, false)]⟩),
  (133, ⟨false, 1, [(.pointer none)], .ptr 71⟩),
  (135, ⟨true, 7, [.int .i64 0, .int .i64 0, .int .i64 0, .slice none 0 0, .slice none 0 0, .int .i64 0, .int .i64 0], .struct [(0, 7, true)]⟩),
  (145, ⟨false, 1, [.nilFunc], .other⟩),
  (150, ⟨false, 1, [.nilFunc], .other⟩),
  (152, ⟨false, 1, [.nilFunc], .other⟩),
  (165, ⟨false, 1, [(.int .u64 0)], .int .u64⟩),
  (169, ⟨true, 1, [.int .i64 0], .struct [(0, 1, false)]⟩),
  (171, ⟨false, 1, [.nilFunc], .other⟩),
  (172, ⟨true, 8, [.nilFunc, .nilFunc, .nilFunc, .nilFunc, .nilFunc, .nilFunc, .nilFunc, .nilFunc], .array 8 171⟩),
  (178, ⟨false, 1, [(.slice none 0 0)], .slice 27⟩),
  (180, ⟨false, 1, [.nilFunc], .other⟩),
  (181, ⟨true, 2, [.int .i64 0, .bool false], .struct [(0, 1, false), (1, 1, false)]⟩),
  (182, ⟨true, 6, [.int .i64 0, .bool false, .int .i64 0, .bool false, .int .i64 0, .bool false], .array 3 181⟩),
  (187, ⟨true, 3, [.slice none 0 0, .slice none 0 0, .slice none 0 0], .array 3 109⟩),
  (190, ⟨false, 1, [(.int .u32 0)], .int .u32⟩),
  (193, ⟨false, 1, [(.int .u64 0)], .int .u64⟩)]
theorem tys_ok : ∀ x ∈ tys, TyOk Try.prog x.1 x.2 := by
  unfold tys
  refine List.forall_mem_cons.2 ⟨ty_ok3, ?_⟩
  refine List.forall_mem_cons.2 ⟨ty_ok4, ?_⟩
  refine List.forall_mem_cons.2 ⟨ty_ok5, ?_⟩
  refine List.forall_mem_cons.2 ⟨ty_ok20, ?_⟩
  refine List.forall_mem_cons.2 ⟨ty_ok22, ?_⟩
  refine List.forall_mem_cons.2 ⟨ty_ok23, ?_⟩
  refine List.forall_mem_cons.2 ⟨ty_ok25, ?_⟩
  refine List.forall_mem_cons.2 ⟨ty_ok27, ?_⟩
  refine List.forall_mem_cons.2 ⟨ty_ok40, ?_⟩
  refine List.forall_mem_cons.2 ⟨ty_ok41, ?_⟩
  refine List.forall_mem_cons.2 ⟨ty_ok54, ?_⟩
  refine List.forall_mem_cons.2 ⟨ty_ok63, ?_⟩
  refine List.forall_mem_cons.2 ⟨ty_ok71, ?_⟩
  refine List.forall_mem_cons.2 ⟨ty_ok74, ?_⟩
  refine List.forall_mem_cons.2 ⟨ty_ok75, ?_⟩
  refine List.forall_mem_cons.2 ⟨ty_ok77, ?_⟩
  refine List.forall_mem_cons.2 ⟨ty_ok89, ?_⟩
  refine List.forall_mem_cons.2 ⟨ty_ok90, ?_⟩
  refine List.forall_mem_cons.2 ⟨ty_ok99, ?_⟩
  refine List.forall_mem_cons.2 ⟨ty_ok101, ?_⟩
  refine List.forall_mem_cons.2 ⟨ty_ok106, ?_⟩
  refine List.forall_mem_cons.2 ⟨ty_ok109, ?_⟩
  refine List.forall_mem_cons.2 ⟨ty_ok114, ?_⟩
  refine List.forall_mem_cons.2 ⟨ty_ok121, ?_⟩
  refine List.forall_mem_cons.2 ⟨ty_ok129, ?_⟩
  refine List.forall_mem_cons.2 ⟨ty_ok133, ?_⟩
  refine List.forall_mem_cons.2 ⟨ty_ok135, ?_⟩
  refine List.forall_mem_cons.2 ⟨ty_ok145, ?_⟩
  refine List.forall_mem_cons.2 ⟨ty_ok150, ?_⟩
  refine List.forall_mem_cons.2 ⟨ty_ok152, ?_⟩
  refine List.forall_mem_cons.2 ⟨ty_ok165, ?_⟩
  refine List.forall_mem_cons.2 ⟨ty_ok169, ?_⟩
  refine List.forall_mem_cons.2 ⟨ty_ok171, ?_⟩
  refine List.forall_mem_cons.2 ⟨ty_ok172, ?_⟩
  refine List.forall_mem_cons.2 ⟨ty_ok178, ?_⟩
  refine List.forall_mem_cons.2 ⟨ty_ok180, ?_⟩
  refine List.forall_mem_cons.2 ⟨ty_ok181, ?_⟩
  refine List.forall_mem_cons.2 ⟨ty_ok182, ?_⟩
  refine List.forall_mem_cons.2 ⟨ty_ok187, ?_⟩
  refine List.forall_mem_cons.2 ⟨ty_ok190, ?_⟩
  refine List.forall_mem_cons.2 ⟨ty_ok193, ?_⟩
  exact fun x hx => (List.not_mem_nil hx).elim
theorem app_ok22 : AppOk Try.prog 22 106 4 32 := ⟨Try.underlying22, ⟨Try.t106, _, (by kernel_rfl), rfl, rfl, rfl, rfl⟩, by decide⟩
theorem app_ok23 : AppOk Try.prog 23 71 3 24 := ⟨Try.underlying23, ⟨Try.t71, _, (by kernel_rfl), rfl, rfl, rfl, rfl⟩, by decide⟩
theorem app_ok41 : AppOk Try.prog 41 3 1 8 := ⟨Try.underlying41, ⟨Try.t3, _, (by kernel_rfl), rfl, rfl, rfl, rfl⟩, by decide⟩
theorem app_ok75 : AppOk Try.prog 75 101 3 24 := ⟨Try.underlying75, ⟨Try.t101, _, (by kernel_rfl), rfl, rfl, rfl, rfl⟩, by decide⟩
theorem app_ok77 : AppOk Try.prog 77 99 3 24 := ⟨Try.underlying77, ⟨Try.t99, _, (by kernel_rfl), rfl, rfl, rfl, rfl⟩, by decide⟩
theorem app_ok90 : AppOk Try.prog 90 41 1 24 := ⟨Try.underlying90, ⟨Try.t41, _, (by kernel_rfl), rfl, rfl, rfl, rfl⟩, by decide⟩
/-- The setting of a walk that only adds to the world. -/
@[reducible] noncomputable def cx (w : World) (N : Nat) : Cx := ⟨Try.prog, tys, tys_ok, w, [], N⟩
/-- The setting of a walk that may write the blocks M. -/
@[reducible] noncomputable def cxM (M : List Nat) (w : World) (N : Nat) : Cx := ⟨Try.prog, tys, tys_ok, w, M, N⟩
end Go.Proofs.Ytmlmgipngbndgaa
/- Calls that write a block of the caller's; structs compared. -/
namespace Go.Proofs.Ytmlmgipngbndgaa
set_option linter.unusedVariables false
set_option linter.unusedSimpArgs false
open Go.RowKit
section
variable {c : Cx} {F : Fr} {H H' : Hp} {K : Value → Hp → Prop} {d : Option Tmp} {ty : TypeId} {pos : String} {af : Array Edge} {g : Option (Nat × Bool)} {C C' : List Value} {b : Nat} {tg : Tg} {v : Value}
/-- A call that writes block b, and else only adds to the world. -/
theorem os_callW {f : Operand} {args : Array Operand} {T : Array TypeId} {k : Nat} {fst cap vs : List Value} (hf : ev F f = some (.func (.func k) ⟨fst⟩ ⟨cap⟩)) (hc : ∀ (a : Array Value) (w : World), (callFunc k a).run c.P w = .ok (.enter k a) w)
    (ha : evs F args.toList = some vs) (hp : Pick H b C tg H') (h : ∀ D w, Has c.w0 ⟨c.M, D⟩ H w → Calls c.P k ⟨fst ++ vs ++ cap⟩ w fun e w' => e = .returned v ∧ ExtM [b] w w' ∧ Blk w' b C' tg)
    (hk : K v ((b, C', tg) :: H')) : OS c ⟨d, .call ⟨.value f, args, T⟩, ty, pos, af, g⟩ F H K :=
  os_call hf hc ha fun D w hw => (h D w hw).mono fun e w' ⟨h1, h2, h3⟩ => ⟨v, _, h1, hk, (hw.perm hp.perm).wrote h2 h3⟩
/-- A function that writes block b, and else only adds to the world. -/
theorem enterW {k : FuncId} {fn : Func} {code : Code} {rs : List ResultVar} {args : List Value} {V : Value} (hf : c.P.funcs[k]? = some fn) (hb : fn.body = some code) (hrs : fn.results = ⟨rs⟩) (hN : c.N = args.length + (fn.ntmps - args.length)) (hM : c.M = [b]) (hB : Blk c.w0 b C tg)
    (h : T c (WS.own c.P) code (endQ c rs fun v H => v = V ∧ HpSub H [(b, C', tg)]) (frOf 0 args) [(b, C, tg)]) : Calls c.P k ⟨args⟩ c.w0 fun e w' => e = .returned V ∧ ExtM [b] c.w0 w' ∧ Blk w' b C' tg := by
  refine (enter hf hb hrs hN (fun d v hv => (look_frOf args 0 d v hv).2) ?_ h).mono fun e w' ⟨v, H', h1, ⟨h2, h3⟩, h4⟩ => ⟨by rw [h1, h2], ?_, ?_⟩
  · rw [hM]
    refine ⟨ExtM.refl _ _, fun x hx => ?_, by simp, List.nodup_nil, fun k hk => (List.not_mem_nil hk).elim⟩
    obtain rfl : x = _ := by simpa using hx
    exact ⟨.inr (by simp), hB⟩
  · have := h4.ext; rw [hM] at this; exact this
  · exact ((h4.sub h3).blk _ (List.mem_cons_self ..)).2
end
theorem eqF_cons {P : Program} {w : World} {d : Nat} {xs ys : Array Value} {f : Field} {fs : List Field} {u v : Value} {q : Bool} (hn : (f.name == "_") = false) (hx : (part f.type xs f.offset).run P w = .ok u w) (hy : (part f.type ys f.offset).run P w = .ok v w)
    (he : (Op.equalIn d f.type u v).run P w = .ok q w) : (Op.eqFields d xs ys (f :: fs)).run P w = if q then (Op.eqFields d xs ys fs).run P w else .ok false w := by
  have hn' : f.name ≠ "_" := by simpa using hn
  simp only [Op.eqFields, hn', ne_eq, not_false_eq_true, if_true, Sem.run_bind, hx, hy, he, Result.andThen_ok]
  cases q <;> simp [Sem.run_pure]
theorem part_cell {P : Program} {w : World} {t o : Nat} {xs : List Value} {v : Value} (ha : (isAgg t).run P w = .ok false w) (hv : xs[o]? = some v) : (part t ⟨xs⟩ o).run P w = .ok v w := by
  simp [part, Sem.run_bind, ha, Result.andThen, go_sem, hv]
theorem part_agg {P : Program} {w : World} {t o n : Nat} {xs vs : List Value} (ha : (isAgg t).run P w = .ok true w) (hs : (sizeOf t).run P w = .ok n w) (hv : (xs.drop o).take n = vs) : (part t ⟨xs⟩ o).run P w = .ok (.agg ⟨vs⟩) w := by
  subst hv
  simp [part, Sem.run_bind, ha, hs, Result.andThen, go_sem]
theorem eq_int3 {w : World} {d : Nat} {a b : Int} : (Op.equalIn (d + 1) 3 (.int .i64 a) (.int .i64 b)).run Try.prog w = .ok (decide (a = b)) w := by
  rw [run_equalIn_int w d 3 .i64 .i64 a b Try.underlying3]
  rfl
theorem eqF_int {w : World} {d o : Nat} {xs ys : List Value} {f : Field} {fs : List Field} {a b : Int} {q : Bool} (hn : (f.name == "_") = false) (ht : f.type = 3) (ho : f.offset = o) (hx : xs[o]? = some (.int .i64 a)) (hy : ys[o]? = some (.int .i64 b))
    (hr : (Op.eqFields (d + 1) ⟨xs⟩ ⟨ys⟩ fs).run Try.prog w = .ok q w) : (Op.eqFields (d + 1) ⟨xs⟩ ⟨ys⟩ (f :: fs)).run Try.prog w = .ok (decide (a = b) && q) w := by
  rw [eqF_cons hn (by rw [ht, ho]; exact part_cell (Try.isAgg3 w) hx) (by rw [ht, ho]; exact part_cell (Try.isAgg3 w) hy) (by rw [ht]; exact eq_int3), hr]
  by_cases h : a = b <;> simp [h]
theorem eqF_nil {w : World} {d : Nat} {xs ys : Array Value} : (Op.eqFields d xs ys []).run Try.prog w = .ok true w := by simp [Op.eqFields, Sem.run_pure]
section
variable {w : World} {N : Nat} {F : Fr} {H : Hp} {M : List Nat} {d : Option Tmp} {ty t' : TypeId} {pos : String} {af : Array Edge} {g : Option (Nat × Bool)} {x y : Operand} {a0 a1 a2 a3 a4 b0 b1 b2 b3 b4 : Int}
theorem oq_eqS {t : TypeId} {xs ys : Array Value} {q : Bool} (hm : Try.prog.eqGuardType Try.prog.depth t = false) (he : ∀ w, (Op.equalIn 10000 t (.agg xs) (.agg ys)).run Try.prog w = .ok q w) (hx : ev F x = some (.agg xs)) (hy : ev F y = some (.agg ys)) :
    OQ (cxM M w N) ⟨d, .binOp .eql t x y t', ty, pos, af, g⟩ F H (.bool q) := .of fun D a w ha _ => by
  simp only [execOp, ha.ev hx, ha.ev hy, Sem.run_bind, run_eqGuard_agg _ _ _ _ _ _ _ hm, Result.andThen]
  rw [run_eql_struct, he]
  rfl
theorem oq_neS {t : TypeId} {xs ys : Array Value} {q : Bool} (hm : Try.prog.eqGuardType Try.prog.depth t = false) (he : ∀ w, (Op.equalIn 10000 t (.agg xs) (.agg ys)).run Try.prog w = .ok q w) (hx : ev F x = some (.agg xs)) (hy : ev F y = some (.agg ys)) :
    OQ (cxM M w N) ⟨d, .binOp .neq t x y t', ty, pos, af, g⟩ F H (.bool (!q)) := .of fun D a w ha _ => by
  simp only [execOp, ha.ev hx, ha.ev hy, Sem.run_bind, run_eqGuard_agg _ _ _ _ _ _ _ hm, Result.andThen]
  rw [run_neq_struct, he]
  rfl
end
/-- A slice that is not nil. -/
theorem oq_eqNil {c : Cx} {F : Fr} {H : Hp} {d : Option Tmp} {ty t t' : TypeId} {pos : String} {af : Array Edge} {g : Option (Nat × Bool)} {x y : Operand} {p : Addr} {n cp e s0 : Nat} {a0 : Bool} {z0 : List Value} (ht : tyAt c.tys t = some ⟨a0, s0, z0, .slice e⟩)
    (hx : ev F x = some (.slice (some p) n cp)) (hy : ev F y = some (.slice none 0 0)) : OQ c ⟨d, .binOp .eql t x y t', ty, pos, af, g⟩ F H (.bool false) := .of fun D a w ha _ => by
  have hk := (c.ty ht).kind w
  have e0 : (Op.equalIn 10000 t (.slice (some p) n cp) (.slice none 0 0)).run c.P w = .ok false w := by
    have key : ∀ d : Nat, (Op.equalIn (d + 1) t (.slice (some p) n cp) (.slice none 0 0)).run c.P w = .ok false w := fun d => by
      simp only [Op.equalIn, Sem.run_bind, hk, Result.andThen, Sem.run_pure]
    exact key 9999
  have e : (binOp .eql t (.slice (some p) n cp) (.slice none 0 0)).run c.P w = .ok (.bool false) w := by
    simp only [binOp, Op.equal, Op.maxDepth, Sem.run_bind, e0, Result.andThen, Sem.run_pure]
  have e1 : (eqGuard .eql t x y (.slice (some p) n cp) (.slice none 0 0)).run c.P w = .ok () w := by simp [eqGuard, go_sem]
  simp only [execOp, ha.ev hx, ha.ev hy, Sem.run_bind, e, e1, Result.andThen, Sem.run_pure]
end Go.Proofs.Ytmlmgipngbndgaa
/- A drawn region, part by part: behind an operation that had to come first, quiet operations again in the text's order. And parts of slices with both bounds. -/
namespace Go.Proofs.Ytmlmgipngbndgaa
set_option linter.unusedVariables false
set_option linter.unusedSimpArgs false
open Go.RowKit
/-- All that the listed operations wait for is listed. -/
def downB (ops : List Oper) (listed : Array Bool) : Bool := go ops 0
where
  go : List Oper → Nat → Bool
  | [], _ => true
  | o :: r, k => (!listed.getD k false || o.after.all fun e => !Region.binds .any e || listed.getD e.on false) && go r (k + 1)
theorem downB_go {listed : Array Bool} : ∀ {ops : List Oper} {k j : Nat} {o : Oper}, downB.go listed ops k = true → ops[j]? = some o → listed.getD (k + j) false = true → ∀ e ∈ o.after, Region.binds .any e = true → listed.getD e.on false = true
  | [], _, _, _, _, h, _ => by simp at h
  | o' :: r, k, 0, o, h, ho, hl => by
    unfold downB.go at h
    obtain rfl : o' = o := by simpa using ho
    intro e he hb
    simp only [Bool.and_eq_true, Bool.or_eq_true, Bool.not_eq_true', Array.all_eq_true_iff_forall_mem] at h
    rcases h.1 with h1 | h1
    · rw [show k + 0 = k from rfl, h1] at hl; cases hl
    · rcases h1 e he with h2 | h2
      · rw [h2] at hb; cases hb
      · exact h2
  | o' :: r, k, j + 1, o, h, ho, hl => by
    unfold downB.go at h
    simp only [Bool.and_eq_true] at h
    exact downB_go (k := k + 1) (j := j) h.2 (by simpa using ho) (by rw [show k + 1 + j = k + (j + 1) by omega]; exact hl)
theorem downB_spec {l : List Oper} {listed : Array Bool} (h : downB l listed = true) : Down ⟨l⟩ listed := fun k o hk ho e he hb =>
  downB_go (k := 0) (j := k) h (by simpa using ho) (by simpa using hk) e he hb
theorem al_more {c : Cx} {l ql : List Oper} {cov : Array Bool} {H0 H : Hp} {n : Nat} {listed : Array Bool} {R : Fr → Hp → Prop} {F : Fr} (q : List Nat) (m : Nat) (hB : (Region.noSelect ⟨l⟩ && downB l listed && lexOk ⟨l⟩ cov q listed) = true) (hn : n = m + q.length) (hq : pickOps l q = some ql) (hs : HpSub H H0)
    (h : GX c ⟨l⟩ ql (fun F' => AL c ⟨l⟩ cov H0 m (listedBy q listed) R F' H0) F H0) : AL c ⟨l⟩ cov H0 n listed R F H := fun D a w ha hw => by
  subst hn
  simp only [Bool.and_eq_true] at hB
  exact SAnyI_lex (Has.up (M := ⟨c.M, D⟩)) hB.1.1 m q listed a hB.2 (downB_spec hB.1.2) (wpGI_mono (fun a' ⟨F', h1, h2⟩ w' hw' => h1 D a' w' h2 hw') q a (h q (pickOps_spec hq) D a ha)) w (hw.sub hs)
section
variable {c : Cx} {F : Fr} {H : Hp} {d : Option Tmp} {ty t : TypeId} {pos : String} {af : Array Edge} {g : Option (Nat × Bool)} {x y z : Operand}
theorem oq_sliceLH {a0 a1 : Bool} {s0 s1 e b o len cap l h : Nat} {z0 z1 : List Value} {k1 : TyK} {k k' : IntKind} {li hi : Int} (ht : tyAt c.tys t = some ⟨a0, s0, z0, .slice e⟩) (he : tyAt c.tys e = some ⟨a1, s1, z1, k1⟩)
    (hx : ev F x = some (.slice (some ⟨b, o, none⟩) len cap)) (hy : ev F y = some (.int k li)) (hz : ev F z = some (.int k' hi)) (hl : li = l) (hh : hi = h) (h1 : l ≤ h) (h3 : h ≤ cap) (h2 : cap ≠ l) :
    OQ c ⟨d, .slice t x (some y) (some z) none, ty, pos, af, g⟩ F H (.slice (some ⟨b, o + l * s1, none⟩) (h - l) (cap - l)) := .of fun D a w ha _ => by
  subst hl hh
  have hk := (c.ty ht).kind w
  have hs := (c.ty he).size w
  simp only [execOp, Option.map, ha.ev hx, ha.ev hy, ha.ev hz]
  simp [Instr.sliceAt, Instr.slice, Instr.sliceBounds, Instr.sliceBound, asIntOf, Sem.run_bind, hk, hs, h1, h2, h3, Result.andThen, go_sem, add_eq]
end
end Go.Proofs.Ytmlmgipngbndgaa
/- The calculus: make of a slice. -/
namespace Go.Proofs.Ytmlmgipngbndgaa
set_option linter.unusedVariables false
set_option linter.unusedSimpArgs false
open Go.RowKit
theorem madeCells_rows (zs : List Value) : ∀ n : Nat, (madeCells zs.toArray (n * zs.length)).toList = (List.replicate n zs).flatten := by
  intro n
  have key : (List.range (n * zs.length)).map (fun j => zs[j % zs.length]!) = (List.replicate n zs).flatten := by
    induction n with
    | zero => simp
    | succ n ih =>
      rw [Nat.succ_mul, Nat.add_comm, List.range_add, List.map_append, List.map_map, List.replicate_succ, List.flatten_cons, ← ih]
      congr 1
      · refine List.ext_getElem (by simp) fun i h1 h2 => ?_
        simp at h1
        simp [Nat.mod_eq_of_lt h1, h1]
      · refine List.map_congr_left fun j _ => ?_
        simp
  rw [← key]
  simp [madeCells]
theorem ox_make {c : Cx} {F : Fr} {H : Hp} {K : Value → Hp → Prop} {d : Option Tmp} {ty : TypeId} {pos : String} {af : Array Edge} {g : Option (Nat × Bool)} {x y : Operand} {t e size bytes n : Nat} {z : Value} {zs : List Value} (hk : AppOk c.P t e size bytes) (hz : (c.P.info? e).map (fun i => i.zero) = some (some z)) (hzs : z.cells = zs.toArray) (hl : zs.length = size)
    (hx : ev F x = some (.int .i64 (n : Int))) (hy : ev F y = some (.int .i64 (n : Int))) (hb : bytes * n ≤ 281474976710656) (hn : n ≤ maxLen) (k : ∀ b, K (.slice (some ⟨b, 0, none⟩) n n) ((b, (List.replicate n zs).flatten, some (e, size, n)) :: H)) : OX c ⟨d, .makeSlice t x y, ty, pos, af, g⟩ F H K := by
  intro D a w ha hw
  obtain ⟨i, z', k1, k2, k3, k4, k5⟩ := hk.info
  have hz' : i.zero = some z := by rw [k1] at hz; simpa using hz
  have hn' : (n : Int) ≤ 9223372036854775807 := by unfold maxLen at hn; omega
  have hb' : (i.bytes : Int) * (n : Int) ≤ 281474976710656 := by
    have h : ((i.bytes * n : Nat) : Int) ≤ 281474976710656 := by rw [k4]; omega
    rwa [Int.natCast_mul] at h
  have hr := run_make (P := c.P) w t e i z hk.und k1 hz' .i64 .i64 n n (by omega) (Int.le_refl _) hb' hn'
  simp only [Int.toNat_natCast, k3, hzs] at hr
  have hc : (madeCells zs.toArray (n * size)) = ((List.replicate n zs).flatten).toArray := by
    rw [← Array.toList_inj, ← hl, madeCells_rows]
  rw [hc] at hr
  have : (execOp a.eval ⟨d, .makeSlice t x y, ty, pos, af, g⟩).run c.P w = .ok (.value (.slice (some ⟨w.heap.size, 0, none⟩) n n)) (w.alloc (.cells ((List.replicate n zs).flatten).toArray e)) := by
    simp [execOp, ha.ev hx, ha.ev hy, Sem.run_bind, Sem.run_pure, Result.andThen, hr]
  rw [this]
  exact ⟨⟨_, k w.heap.size, hw.fresh ((Ext.refl w).alloc _) (Nat.le_refl _) (Blk.row w _ e size n (by simp [hl]) hn)⟩, (Ext.refl w).alloc _⟩
theorem os_make {c : Cx} {F : Fr} {H : Hp} {K : Value → Hp → Prop} {d : Option Tmp} {ty : TypeId} {pos : String} {af : Array Edge} {g : Option (Nat × Bool)} {x y : Operand} {t e size bytes n : Nat} {z : Value} {zs : List Value} (hk : AppOk c.P t e size bytes) (hz : (c.P.info? e).map (fun i => i.zero) = some (some z)) (hzs : z.cells = zs.toArray) (hl : zs.length = size)
    (hx : ev F x = some (.int .i64 (n : Int))) (hy : ev F y = some (.int .i64 (n : Int))) (hb : bytes * n ≤ 281474976710656) (hn : n ≤ maxLen) (k : ∀ b, K (.slice (some ⟨b, 0, none⟩) n n) ((b, (List.replicate n zs).flatten, some (e, size, n)) :: H)) : OS c ⟨d, .makeSlice t x y, ty, pos, af, g⟩ F H K := .ofX (ox_make hk hz hzs hl hx hy hb hn k)
section
variable {c : Cx} {S : WS c.P} {Q : QS} {F : Fr} {H : Hp}
/-- A cut behind a region: the slots 'keep' stay, 'ch' are new; of the blocks only hc are known from there on. -/
theorem t_cutD {ι : Type} (rid : Nat) {ops : Array Oper} {dr : Bool} {y : Code} (keep : List Nat) (ch : ι → Fr) (hc : ι → Hp) {G : Fr} (hK : KeepF F keep G)
    (h1 : T c S (.region rid ops dr) (cutQ ch hc G []) F H) (h2 : ∀ i, T c S y Q (ch i ++ G) (hc i ++ [])) : T c S (.seq (.region rid ops dr) y) Q F H :=
  t_cut (fun i => ch i ++ G) (fun i => hc i ++ []) (fun _ => True) (fun D a w ha hw => S.mono (h1 D a w ha hw) fun e a' w' ⟨D', F', H', ⟨he, i, hF, hH⟩, h4, h5⟩ => ⟨D', F', H', ⟨he, i, trivial, hF, hH⟩, h4, h5⟩) (fun i _ => h2 i)
end
end Go.Proofs.Ytmlmgipngbndgaa
/- Arguments that are numbers, structs of numbers, and slices of those: what they hold. -/
namespace Go.Proofs.Ytmlmgipngbndgaa
open Go.ChangeShapes Go.WideShapes Go.ChangeAt Go.RowKit
set_option linter.unusedVariables false
set_option linter.unusedSimpArgs false

inductive Lf where
  | int (k : IntKind)
  | bool
def LfOk : Lf → Value → Prop
  | .int k, v => ∃ z, v = .int k z ∧ (Lit.int k z).wf = true
  | .bool, v => ∃ b, v = .bool b
def LfsOk : List Lf → List Value → Prop
  | [], [] => True
  | k :: ks, v :: vs => LfOk k v ∧ LfsOk ks vs
  | _, _ => False
theorem LfsOk.len : ∀ {ks : List Lf} {vs : List Value}, LfsOk ks vs → vs.length = ks.length
  | [], [], _ => rfl
  | k :: ks, v :: vs, h => by simp [LfsOk.len h.2]
  | [], _ :: _, h => h.elim
  | _ :: _, [], h => h.elim
theorem LfsOk.nil {vs : List Value} (h : LfsOk [] vs) : vs = [] := by cases vs with | nil => rfl | cons _ _ => exact h.elim
theorem LfsOk.int {k : IntKind} {ks : List Lf} {vs : List Value} (h : LfsOk (.int k :: ks) vs) : ∃ z us, vs = .int k z :: us ∧ (Lit.int k z).wf = true ∧ LfsOk ks us := by
  cases vs with
  | nil => exact h.elim
  | cons v vs => obtain ⟨⟨z, rfl, hw⟩, h2⟩ := h; exact ⟨z, vs, rfl, hw, h2⟩
theorem LfsOk.bool {ks : List Lf} {vs : List Value} (h : LfsOk (.bool :: ks) vs) : ∃ b us, vs = .bool b :: us ∧ LfsOk ks us := by
  cases vs with
  | nil => exact h.elim
  | cons v vs => obtain ⟨⟨z, rfl⟩, h2⟩ := h; exact ⟨z, vs, rfl, h2⟩
theorem LfsOk.append : ∀ {ks ls : List Lf} {vs us : List Value}, LfsOk ks vs → LfsOk ls us → LfsOk (ks ++ ls) (vs ++ us)
  | [], _, [], _, _, h => h
  | _ :: _, _, _ :: _, _, h, k => ⟨h.1, LfsOk.append h.2 k⟩
  | [], _, _ :: _, _, h, _ => h.elim
  | _ :: _, _, [], _, h, _ => h.elim

def ksFs (P : Program) (rec_ : TypeId → Option (List Lf)) : List Field → Nat → Option (List Lf)
  | [], _ => some []
  | f :: fs, o => match Nat.beq f.offset o, rec_ f.type, ksFs P rec_ fs (o + P.cellsOf f.type) with
    | true, some ks, some ls => match Nat.beq (P.cellsOf f.type) ks.length with
      | true => some (ks ++ ls)
      | false => none
    | _, _, _ => none
def ksOf (P : Program) : Nat → TypeId → Option (List Lf)
  | 0, _ => none
  | n + 1, t => match P.underlying t with
    | some (.int k) => some [.int k]
    | some .bool => some [.bool]
    | some (.struct fs) => match ksFs P (ksOf P n) fs.toList 0 with
      | some ks => match Nat.beq (P.cellsOf t) ks.length with
        | true => some ks
        | false => none
      | none => none
    | _ => none
section
variable {H : Type} {enc : TypeId × Value → H} {P : Program} {W : World} {base : Nat} {spare : Nat → Bool} {held : Bool}
theorem ksFs_ok {rec_ : TypeId → Option (List Lf)} {m : Nat} (hr : ∀ {t : TypeId} {ks : List Lf} {cs : List Value} {x : DataW H × List MemPlace}, rec_ t = some ks → DataW.trod enc P W base spare held m t cs = some x → LfsOk ks cs) {cs : List Value} :
    ∀ {fs : List Field} {o : Nat} {ks : List Lf}, ksFs P rec_ fs o = some ks → (∀ f ∈ fs, ∃ y, DataW.trod enc P W base spare held m f.type ((cs.drop f.offset).take (P.cellsOf f.type)) = some y) → o + ks.length ≤ cs.length → LfsOk ks ((cs.drop o).take ks.length)
  | [], o, ks, h, _, _ => by
    obtain rfl := Option.some.inj h
    simp [LfsOk]
  | f :: fs, o, ks, h, hy, hl => by
    unfold ksFs at h
    split at h
    · rename_i k1 l1 h1 h2 h3
      split at h
      · rename_i h4
        obtain rfl := Option.some.inj h
        have ho := Nat.eq_of_beq_eq_true h1
        have hc := Nat.eq_of_beq_eq_true h4
        obtain ⟨y, hy0⟩ := hy f (List.mem_cons_self ..)
        rw [ho, hc] at hy0
        have a1 := hr h2 hy0
        rw [hc] at h3
        simp only [List.length_append] at hl
        have a2 := ksFs_ok hr h3 (fun g hg => hy g (List.mem_cons_of_mem _ hg)) (by omega)
        have e : (cs.drop o).take (k1 ++ l1).length = (cs.drop o).take k1.length ++ (cs.drop (o + k1.length)).take l1.length := by
          rw [List.length_append, List.take_add, List.drop_drop]
        rw [e]
        exact a1.append a2
      · cases h
    · cases h
theorem ksOf_ok : ∀ {n : Nat} {t : TypeId} {ks : List Lf} {m : Nat} {cs : List Value} {x : DataW H × List MemPlace}, ksOf P n t = some ks → DataW.trod enc P W base spare held m t cs = some x → LfsOk ks cs
  | 0, _, _, _, _, _, h, _ => by cases h
  | n + 1, t, ks, m, cs, x, h, hx => by
    unfold ksOf at h
    split at h
    · rename_i k hu
      obtain rfl := Option.some.inj h
      obtain ⟨z, rfl, _, hw⟩ := DataW.trod_int hu hx
      exact ⟨⟨z, rfl, hw⟩, trivial⟩
    · rename_i hu
      obtain rfl := Option.some.inj h
      obtain ⟨b, rfl, _⟩ := DataW.trod_bool hu hx
      exact ⟨⟨b, rfl⟩, trivial⟩
    · rename_i fs hu
      split at h
      · rename_i ks' hk
        split at h
        · rename_i hc
          obtain rfl := Option.some.inj h
          have hc := Nat.eq_of_beq_eq_true hc
          obtain ⟨xs, k, _, _, hl, hlen, hf⟩ := DataW.trod_struct hu hx
          have := ksFs_ok (m := k) (cs := cs) (fun h1 h2 => ksOf_ok h1 h2) hk (fun f hfm => by
            obtain ⟨i, hi, hif⟩ := List.getElem_of_mem hfm
            have hi' : i < fs.size := by simpa using hi
            have e := hf i f (by rw [Array.getElem?_eq_getElem hi']; simpa using hif)
            rw [List.getElem?_eq_getElem (by omega)] at e
            exact ⟨_, e⟩) (by omega)
          rw [List.drop_zero, List.take_of_length_le (by omega)] at this
          exact this
        · cases h
      · cases h
    · cases h

/-- A struct of numbers, by value. -/
theorem open_struct {r : Reach} {b0 : Nat} {t : TypeId} {fs : Array Field} {n : Nat} {ks : List Lf} {v : Value} {d : DataW H} {p : List MemPlace} (hs : P.underlying t = some (.struct fs)) (hk : ksOf P n t = some ks)
    (hv : Value.okWide P W r b0 t v) (h : DataW.Trod enc P W base spare held t v d p) : ∃ cs, v = .agg ⟨cs⟩ ∧ LfsOk ks cs := by
  obtain ⟨cs, rfl, _⟩ := okWide_struct hs hv
  obtain ⟨fuel, hf⟩ := h
  obtain ⟨cs⟩ := cs
  exact ⟨cs, rfl, ksOf_ok hk hf⟩
/-- A slice of such. -/
theorem open_rows {r : Reach} {b0 : Nat} {t e : TypeId} {n : Nat} {ks : List Lf} {v : Value} {d : DataW H} {p : List MemPlace} (hs : P.underlying t = some (.slice e)) (hk : ksOf P n e = some ks) (hc : P.cellsOf e = ks.length) (hpos : 0 < ks.length)
    (hv : Value.okWide P W r b0 t v) (h : DataW.Trod enc P W 0 (fun _ => true) held t v d p) :
    ∃ (A : Option Addr) (m c : Nat) (rows : List (List Value)), v = .slice A m c ∧ RdS W ks.length A m rows ∧ ∀ x ∈ rows, LfsOk ks x := by
  obtain ⟨A, m, c, rfl⟩ := okWide_slice hs hv
  obtain ⟨fuel, hf⟩ := h
  refine ⟨A, m, c, ?_⟩
  rcases Go.Deep.open_slice hs hf with ⟨h1, _⟩ | ⟨a, len, cap, m', k, D, Pl, h1, _, hlc, _, hm, _, hi⟩
  · simp only [Value.cells, List.cons.injEq, Value.slice.injEq, and_true] at h1
    obtain ⟨rfl, rfl, rfl⟩ := h1
    exact ⟨[], rfl, RdS.nil _ _ _, fun x hx => (List.not_mem_nil hx).elim⟩
  · simp only [Value.cells, List.cons.injEq, Value.slice.injEq, and_true] at h1
    obtain ⟨rfl, rfl, rfl⟩ := h1
    simp only [if_true] at hm
    subst hm
    rw [hc] at hi
    have key : ∀ i, i < m → ∃ y : List Value, LfsOk ks y ∧ ∀ j u, y[j]? = some u → W.cell? ((a.add (i * ks.length)).add j) = some u := fun i hin => by
      obtain ⟨cs, hc, ht⟩ := hi i (by omega)
      obtain ⟨_, hlc, hat⟩ := World.cells?_some hc
      exact ⟨cs, ksOf_ok hk ht, fun j u hu => by rw [hat j (by rw [← hlc]; exact (List.getElem?_eq_some_iff.1 hu).1)]; exact hu⟩
    let f : Nat → List Value := fun i => if h : i < m then Classical.choose (key i h) else []
    have hfk : ∀ i, i < m → LfsOk ks (f i) ∧ ∀ j u, (f i)[j]? = some u → W.cell? ((a.add (i * ks.length)).add j) = some u := fun i hin => by
      simp only [f, dif_pos hin]
      exact Classical.choose_spec (key i hin)
    have hmem : ∀ x ∈ (List.range m).map f, LfsOk ks x := fun x hx => by
      obtain ⟨i, hi, rfl⟩ := List.mem_map.1 hx
      exact (hfk i (List.mem_range.1 hi)).1
    refine ⟨(List.range m).map f, rfl, ⟨by simp, fun h0 => ?_⟩, hmem⟩
    have l0 := (hfk 0 h0).1.len
    have c0 := (hfk 0 h0).2 0 _ (List.getElem?_eq_getElem (by omega))
    obtain ⟨b, o, sp⟩ := a
    have hsp : sp = none := by simpa [Addr.add] using World.cell?_spot c0
    subst hsp
    refine ⟨b, o, rfl, by simpa [Addr.add] using cell_lt c0, fun i x hx => ⟨(hmem x (List.mem_of_getElem? hx)).len, fun j u hu => ?_⟩⟩
    rw [List.getElem?_map, Option.map_eq_some_iff] at hx
    obtain ⟨i', h2, rfl⟩ := hx
    obtain ⟨h3, h4⟩ := List.getElem?_eq_some_iff.1 h2
    simp only [List.getElem_range, List.length_range] at h3 h4
    subst h4
    have := (hfk i h3).2 j u hu
    rw [add_eq, add_eq] at this
    exact this
end
/-- Rows that are each of some shape. -/
theorem rows_of {α : Type} {f : α → List Value} : ∀ {rows : List (List Value)}, (∀ x ∈ rows, ∃ y, x = f y) → ∃ l : List α, rows = l.map f
  | [], _ => ⟨[], rfl⟩
  | x :: rows, h => by
    obtain ⟨y, rfl⟩ := h x (List.mem_cons_self ..)
    obtain ⟨l, rfl⟩ := rows_of (fun z hz => h z (List.mem_cons_of_mem _ hz))
    exact ⟨y :: l, rfl⟩
theorem rows_ofP {α : Type} {f : α → List Value} {p : α → Prop} : ∀ {rows : List (List Value)}, (∀ x ∈ rows, ∃ y, x = f y ∧ p y) → ∃ l : List α, rows = l.map f ∧ ∀ y ∈ l, p y
  | [], _ => ⟨[], rfl, fun y hy => (List.not_mem_nil hy).elim⟩
  | x :: rows, h => by
    obtain ⟨y, rfl, hy⟩ := h x (List.mem_cons_self ..)
    obtain ⟨l, rfl, hl⟩ := rows_ofP (fun z hz => h z (List.mem_cons_of_mem _ hz))
    exact ⟨y :: l, rfl, fun z hz => by rcases List.mem_cons.1 hz with rfl | hz; exact hy; exact hl z hz⟩
end Go.Proofs.Ytmlmgipngbndgaa
/- Loops over an iterator whose rounds may write what it reads: its contract tells of the world at each yield, and of the world behind the last. -/
namespace Go.Proofs.Ytmlmgipngbndgaa
set_option linter.unusedVariables false
set_option linter.unusedSimpArgs false
open Go.RowKit

/-- An iterator: it asks Rq of the world between two rounds; at a yield of x, behind those of pre, it promises G; at its end E. -/
def SeqV {α : Type} (n : Nat) (P : Program) (g : Nat) (lb : Array Value) (encs : α → Array Value) (Rq : List α → World → Prop) (G : List α → α → World → Prop) (E : List α → World → Prop) : Prop :=
  ∀ (l : Nat) (J Jx : List α → World → Prop) (W : World), (∀ pre A B, J pre A → Ext A B → J pre B) → (∀ pre A B, Jx pre A → Ext A B → Jx pre B) → (∀ pre A, J pre A → Rq pre A) →
    (∀ pre x A, J pre A → G pre x A → YieldAt Fence.wide (n - 1) P l (encs x) A fun e B => (e = .returned (.bool true) ∧ J (pre ++ [x]) B) ∨ (e = .returned (.bool false) ∧ Jx (pre ++ [x]) B)) →
    J [] W → CallsIn Fence.wide n P g (#[.func (.yield l) #[] #[]] ++ lb) W fun e B => (∃ v, e = .returned v) ∧ ((∃ xs, E xs B ∧ J xs B) ∨ (∃ pre, Jx pre B))

/-- What abides growth, and the turn of a block that is no cells, from n0 on. -/
structure Abide {β : Type} (n0 : Nat) (I : β → World → Prop) : Prop where
  ext : ∀ s A B, I s A → Ext A B → I s B
  put : ∀ s A l o o', I s A → n0 ≤ l → A.heap[l]? = some o → o.isCells = false → I s (A.putObj l o')

/-- How a round's body may end. -/
def endV {α : Type} (n0 : Nat) (I : List α → World → Prop) (Ix : Code → List α → World → Prop) (xs : List α) (A : World) : Exit → Act → World → Prop
  | .normal, _, B => KeepsFrom n0 A B ∧ I xs B
  | .ret, _, B => KeepsFrom n0 A B ∧ Ix .ret xs B
  | .exit id, _, B => KeepsFrom n0 A B ∧ Ix (.exit id) xs B
  | .goto t, _, B => KeepsFrom n0 A B ∧ Ix (.goto t) xs B
  | .panic _, _, _ => False
  | .outgrown, _, _ => False

theorem ext_block {A B : World} (h : Ext A B) {k : Nat} {o : Obj} (hk : A.heap[k]? = some o) : B.heap[k]? = some o :=
  (h.block k (Array.getElem?_eq_some_iff.1 hk).1).trans hk

theorem wpIn_rangeV {P : Program} {n : Nat} {α : Type} {g : Operand} {ps : Array Tmp} {assign body : Code} {Q : Exit → Act → World → Prop} {a : Act} {w : World} (hn : 2 ≤ n) {gf : Nat} {lb : Array Value}
    (hg : a.eval g = .func (.func gf) #[] lb) (eg : ∀ args w, (callFunc gf args).run P w = .ok (.enter gf args) w) {encs : α → Array Value} {Rq : List α → World → Prop} {G : List α → α → World → Prop} {E : List α → World → Prop}
    (hseq : SeqV (n - 1) P gf lb encs Rq G E) (hps : ∀ x, (encs x).size = ps.size) (I : List α → World → Prop) (Ix : Code → List α → World → Prop) (hI : Abide w.heap.size I) (hIx : ∀ c, Abide w.heap.size (Ix c)) (hGa : ∀ x, Abide w.heap.size (fun pre W => G pre x W)) (hEa : Abide w.heap.size E)
    (hRq : ∀ pre A, I pre A → Rq pre A) (h0 : I [] w) (Ax : α → Act → World → Prop) (hAx : ∀ x a', Abide w.heap.size (fun (_ : Unit) W => Ax x a' W))
    (hassign : ∀ (l : Nat) (pre : List α) (x : α) (A : World) (K : Act → World → Prop), I pre A → (∀ a' B, Ext A B → Ax x a' B → K a' B) →
      assign.wpIn (Fence.wide.inRound l) (n - 1 - 1) P (Exit.then K (fun _ _ _ => False)) { tmps := (ps.zip (encs x)).foldl (fun t (p, v) => t.setIfInBounds p v) a.tmps, defers := [] } A)
    (hbody : ∀ (l : Nat) (pre : List α) (x : α) (a' : Act) (A : World), (∃ r, A.heap[l]? = some (.loop r)) → I pre A → G pre x A → Ax x a' A → body.wpIn (Fence.wide.inRound l) (n - 1 - 1) P (endV w.heap.size I Ix (pre ++ [x]) A) a' A)
    (hdone : ∀ (D : Nat) (xs : List α) (B : World), w.heap.size ≤ D → E xs B → I xs B → B.heap[D]? = some (.deferred (some [])) → Q .normal { a with defers := { target := .collected D, args := #[] } :: a.defers } B)
    (hstop : ∀ (D : Nat) (c : Code) (pre : List α) (B : World), w.heap.size ≤ D → Ix c pre B → B.heap[D]? = some (.deferred (some [])) → c.wpIn Fence.wide n P Q { a with defers := { target := .collected D, args := #[] } :: a.defers } B) :
    (Code.rangeFunc g ps assign body).wpIn Fence.wide n P Q a w := by
  refine wpIn_rangeFunc fun fn hfn => ?_
  -- the loop's record, in a state and with a jump that waits
  obtain ⟨R, hR⟩ : ∃ R : LoopState → Option Code → Loop, R = fun s j => { state := s, pending := j, fn, tmps := a.tmps, params := ps, assign, body, defers := w.heap.size } := ⟨_, rfl⟩
  obtain ⟨W1, hW1⟩ : ∃ W1, (w.alloc (.deferred (some []))).alloc (.loop (R .ready none)) = W1 := ⟨_, rfl⟩
  have e1 : Ext w W1 := by rw [← hW1]; exact ((Ext.refl w).alloc _).alloc _
  have l1 : W1.heap[w.heap.size + 1]? = some (.loop (R .ready none)) := by
    rw [← hW1]; have := World.alloc_heap_new (w.alloc (.deferred (some []))) (.loop (R .ready none)); rwa [World.size_alloc] at this
  have d1 : W1.heap[w.heap.size]? = some (.deferred (some [])) := by
    rw [← hW1]; exact (Below.heap_alloc _ _ _ (by simp)).trans (World.alloc_heap_new w _)
  have notC : ∀ r : Loop, (Obj.loop r).isCells = false := fun _ => rfl
  refine ⟨w.heap.size + 1, [{ target := .collected w.heap.size, args := #[] }], W1, { target := .fn (.func gf) lb, args := #[.func (.yield (w.heap.size + 1)) #[] #[]] }, W1, gf, #[.func (.yield (w.heap.size + 1)) #[] #[]] ++ lb, W1, ?_, ?_, fun _ _ => trivial, ?_, fun _ => by omega, ?_⟩
  · rw [← hW1, hR]; exact run_enterLoop_outer _ _ _ _ _
  · simp only [resolve, hg]
    simp [go_sem]
  · simp [invoke, go_sem, eg]
  · refine (hseq (w.heap.size + 1)
      (fun pre A => I pre A ∧ A.heap[w.heap.size + 1]? = some (.loop (R .ready none)) ∧ A.heap[w.heap.size]? = some (.deferred (some [])))
      (fun pre A => ∃ c, Ix c pre A ∧ A.heap[w.heap.size + 1]? = some (.loop (R .done (some c))) ∧ A.heap[w.heap.size]? = some (.deferred (some [])))
      W1 (fun pre A B h e => ⟨hI.ext _ _ _ h.1 e, ext_block e h.2.1, ext_block e h.2.2⟩) (fun pre A B ⟨c, h1, h2, h3⟩ e => ⟨c, (hIx c).ext _ _ _ h1 e, ext_block e h2, ext_block e h3⟩) (fun pre A h => hRq _ _ h.1) ?_ ⟨hI.ext _ _ _ h0 e1, l1, d1⟩).mono ?_
    · rintro pre x A ⟨hi, hl, hd⟩ hG
      have hy := run_yield (P := P) (args := encs x) hl (by rw [hR]; exact hps x)
      rw [hR] at hy
      refine ⟨fn, _, assign, body, hy, roundIn_of_wpIn hfn (hassign _ pre x A _ hi fun a' B he hax => ?_)⟩
      have hlB := ext_block he hl
      have hdB := ext_block he hd
      have hltB := (Array.getElem?_eq_some_iff.1 hlB).1
      refine ⟨_, run_beginRound hlB (by rw [hR]), ?_⟩
      obtain ⟨C, hC⟩ : ∃ C, B.putObj (w.heap.size + 1) (.loop { R .ready none with state := .busy }) = C := ⟨_, rfl⟩
      have hlC : C.heap[w.heap.size + 1]? = some (.loop { R .ready none with state := .busy }) := by rw [← hC]; exact World.putObj_heap_same hltB
      have hdC : C.heap[w.heap.size]? = some (.deferred (some [])) := by rw [← hC]; exact (World.putObj_heap_other (by omega)).trans hdB
      rw [hC]
      refine wpIn_mono (hbody _ pre x a' C ⟨_, hlC⟩ (hC ▸ hI.put _ _ _ _ _ (hI.ext _ _ _ hi he) (by omega) hlB rfl) (hC ▸ (hGa x).put _ _ _ _ _ ((hGa x).ext _ _ _ hG he) (by omega) hlB rfl) (hC ▸ (hAx x a').put () _ _ _ _ hax (by omega) hlB rfl)) ?_
      -- the round's end, whatever the jump
      have fin : ∀ (j : Option Code) (D : World), KeepsFrom w.heap.size C D →
          (Instr.endRound (w.heap.size + 1) j).run P D = .ok (.bool j.isNone) (D.putObj (w.heap.size + 1) (.loop (R (if j.isNone then .ready else .done) j))) ∧ D.heap[w.heap.size + 1]? = some (.loop { R .ready none with state := .busy }) ∧
          (D.putObj (w.heap.size + 1) (.loop (R (if j.isNone then .ready else .done) j))).heap[w.heap.size + 1]? = some (.loop (R (if j.isNone then .ready else .done) j)) ∧
          (D.putObj (w.heap.size + 1) (.loop (R (if j.isNone then .ready else .done) j))).heap[w.heap.size]? = some (.deferred (some [])) := fun j D hk => by
        have hl3 := hk.same _ _ (by omega) hlC rfl
        have := run_endRound (P := P) j hl3
        rw [hR] at this ⊢
        exact ⟨this, by rw [hR] at hl3; exact hl3, World.putObj_heap_same (Array.getElem?_eq_some_iff.1 hl3).1, (World.putObj_heap_other (by omega)).trans (hk.same _ _ (Nat.le_refl _) hdC rfl)⟩
      intro e a3 D hp
      cases e with
      | normal =>
        obtain ⟨r1, r2, r3, r4⟩ := fin none D hp.1
        exact ⟨_, _, r1, .inl ⟨rfl, hI.put _ _ _ _ _ hp.2 (by omega) r2 rfl, r3, r4⟩⟩
      | ret =>
        obtain ⟨r1, r2, r3, r4⟩ := fin (some .ret) D hp.1
        exact ⟨_, _, r1, .inr ⟨rfl, .ret, (hIx _).put _ _ _ _ _ hp.2 (by omega) r2 rfl, r3, r4⟩⟩
      | exit id =>
        obtain ⟨r1, r2, r3, r4⟩ := fin (some (.exit id)) D hp.1
        exact ⟨_, _, r1, .inr ⟨rfl, .exit id, (hIx _).put _ _ _ _ _ hp.2 (by omega) r2 rfl, r3, r4⟩⟩
      | goto t =>
        obtain ⟨r1, r2, r3, r4⟩ := fin (some (.goto t)) D hp.1
        exact ⟨_, _, r1, .inr ⟨rfl, .goto t, (hIx _).put _ _ _ _ _ hp.2 (by omega) r2 rfl, r3, r4⟩⟩
      | panic ch => exact hp.elim
      | outgrown => exact hp.elim
    · rintro e B ⟨⟨v, rfl⟩, (⟨xs, hE, hi, hl, hd⟩ | ⟨pre, c, hi, hl, hd⟩)⟩
      · exact ⟨none, _, by have := run_endLoop (P := P) hl (by rw [hR]; simp); rw [hR] at this; exact this, hdone _ xs _ (Nat.le_refl _) (hEa.put _ _ _ _ _ hE (by omega) hl rfl) (hI.put _ _ _ _ _ hi (by omega) hl rfl) ((World.putObj_heap_other (by omega)).trans hd)⟩
      · exact ⟨some c, _, by have := run_endLoop (P := P) hl (by rw [hR]; simp); rw [hR] at this; exact this, hstop _ c pre _ (Nat.le_refl _) ((hIx c).put _ _ _ _ _ hi (by omega) hl rfl) ((World.putObj_heap_other (by omega)).trans hd)⟩

theorem ext_grown {A B : World} (h : Ext A B) : A.grownBy B none := ⟨h.os, h.tape, h.output, h.size, fun k hk _ => h.block k hk⟩
section
variable {c : Cx} {Q : QS} {F : Fr} {H : Hp} {g : Operand} {ps : Array Tmp} {assign body : Code} {ι κ α β : Type}
/-- As SL0, or nothing at all. -/
def SLV (c : Cx) (k : Code) (R : Fr → Hp → Prop) (F : Fr) (H : Hp) : Prop := (k = .skip ∧ R F H) ∨ SL0 c k R F H
theorem SLV.wpIn {l m : Nat} {k : Code} {R : Fr → Hp → Prop} (h : SLV c k R F H) (D : List Nat) (a : Act) (w : World) (ha : Frm D c.N F a) (hw : Has c.w0 ⟨c.M, D⟩ H w) :
    k.wpIn (Fence.wide.inRound l) m c.P (fun e a' w' => e = .normal ∧ ∃ F' H', R F' H' ∧ Frm D c.N F' a' ∧ Has c.w0 ⟨c.M, D⟩ H' w') a w := by
  rcases h with ⟨rfl, h⟩ | h
  · exact wpIn_skip ⟨rfl, F, H, h, ha, hw⟩
  · exact SL0.wpIn k h D a w ha hw
structure RangeOkV (c : Cx) (F : Fr) (ns : List Nat) (hk : Hp) (ps : Array Tmp) (assign body : Code) (m : Nat) (encs : α → List Value) (G : List α → α → World → Prop)
    (hp : ι → Hp) (Pi : List α → ι → Prop) (bx : α → β → Hp) (fx : α → β → Fr) (hl : κ → Hp) (Pl : Code → List α → κ → Prop) : Prop where
  size : ∀ x, (encs x).length = ps.size
  slots : (ps.toList.all fun p => Nat.blt p c.N) = true
  assign_ : ∀ (x : α) (W : World), SLV { c with w0 := W, M := [] } assign (fun F' H' => ∃ bs, FrSub F' (fx x bs) ∧ HpSub H' (bx x bs)) (parF (ps.toList.zip (encs x)) F) []
  disj : ∀ x bs i n W D, Blks n (bx x bs) W → Has c.w0 ⟨c.M, D⟩ (hp i ++ hk) W → (∀ b ∈ ns, b < n) → ∀ y ∈ bx x bs, ∀ z ∈ hp i ++ hk, y.1 ≠ z.1
  body_ : ∀ (l : Nat) (pre : List α) (x : α) (i : ι) (bs : β) (W : World) (D : List Nat), Pi pre i → Has c.w0 ⟨c.M, D⟩ (bx x bs ++ hp i ++ hk) W → G pre x W → (∃ r, W.heap[l]? = some (.loop r)) →
    T { c with w0 := W, M := (bx x bs ++ hp i).map Prod.fst } (WS.round c.P l m) body (QB hp Pi hl Pl (pre ++ [x])) (fx x bs) (bx x bs ++ hp i)
theorem range_assignV {m : Nat} {ns : List Nat} {hk : Hp} {encs : α → List Value} {G : List α → α → World → Prop} {hp : ι → Hp} {Pi : List α → ι → Prop} {bx : α → β → Hp} {fx : α → β → Fr} {hl : κ → Hp} {Pl : Code → List α → κ → Prop}
    (R : RangeOkV c F ns hk ps assign body m encs G hp Pi bx fx hl Pl) {D : List Nat} {a : Act} (ha : Frm D c.N F a) (l : Nat) (x : α) (W : World) (n0 : Nat) (hn0 : n0 ≤ W.heap.size) (K : Act → World → Prop)
    (hK : ∀ a' W' bs, Ext W W' → Frm [] c.N (fx x bs) a' → Blks n0 (bx x bs) W' → K a' W') :
    assign.wpIn (Fence.wide.inRound l) m c.P (Exit.then K (fun _ _ _ => False)) { tmps := (ps.zip ⟨encs x⟩).foldl (fun t (p, v) => t.setIfInBounds p v) a.tmps, defers := [] } W := by
  have hF : Frm [] c.N (parF (ps.toList.zip (encs x)) F) { tmps := (ps.zip ⟨encs x⟩).foldl (fun t (p, v) => t.setIfInBounds p v) a.tmps, defers := [] } := by
    have h1 : Frm D c.N F ⟨a.tmps, D.map dmark⟩ := ⟨ha.size, rfl, ha.at_⟩
    have := Frm.par (ps.toList.zip (encs x)) (fun p hp => by
      have h2 := List.all_eq_true.1 R.slots
      exact h2 p.1 (List.of_mem_zip hp).1) h1
    have e : (ps.zip ⟨encs x⟩).foldl (fun t (p, v) => t.setIfInBounds p v) a.tmps = (ps.toList.zip (encs x)).foldl (fun t p => t.setIfInBounds p.1 p.2) a.tmps := by
      rw [← Array.foldl_toList, Array.toList_zip]
    rw [e]; exact this
  have h0 : Has W ⟨[], []⟩ [] W := Has.start W
  refine wpIn_mono (SLV.wpIn (R.assign_ x W) [] _ W hF h0) fun e a' W' he => ?_
  obtain ⟨rfl, F', H', ⟨bs, h1, h2⟩, h3, h4⟩ := he
  have h5 := h4.sub h2
  refine hK a' W' bs h4.ext.ext (h3.sub h1) ⟨fun y hy => ⟨?_, (h5.blk y hy).2⟩, h5.nodup⟩
  rcases (h5.blk y hy).1 with h6 | h6
  · exact Nat.le_trans hn0 h6
  · exact (List.not_mem_nil h6).elim
theorem range_bodyV {m : Nat} {hk X : Hp} {hp : ι → Hp} {Pi : List α → ι → Prop} {hl : κ → Hp} {Pl : Code → List α → κ → Prop} {Fx : Fr} {xs : List α} {D : List Nat} (n0 l : Nat) (a' : Act) (W : World)
    (h : T { c with w0 := W, M := X.map Prod.fst } (WS.round c.P l m) body (QB hp Pi hl Pl xs) Fx X) (hw : Has c.w0 ⟨c.M, D⟩ (X ++ hk) W) (ha : Frm [] c.N Fx a') (hn : n0 ≤ W.heap.size) :
    body.wpIn (Fence.wide.inRound l) m c.P (endV n0 (fun xs W' => ∃ j, Pi xs j ∧ Has c.w0 ⟨c.M, D⟩ (hp j ++ hk) W' ∧ n0 ≤ W'.heap.size) (fun k xs W' => ∃ j, Pl k xs j ∧ Has c.w0 ⟨c.M, D⟩ (hl j ++ hk) W') xs W) a' W := by
  have hself : Has W ⟨X.map Prod.fst, []⟩ X W := by
    refine ⟨ExtM.refl _ _, fun y hy => ⟨.inr (List.mem_map.2 ⟨y, hy, rfl⟩), (hw.blk y (List.mem_append_left _ hy)).2⟩, ?_, List.nodup_nil, fun k hk => (List.not_mem_nil hk).elim⟩
    have := hw.nodup
    rw [List.map_append, List.nodup_append] at this
    exact this.1
  refine wpIn_mono (h [] a' W ha hself) fun e a2 W' he => ?_
  obtain ⟨D', F', H', h1, h2, h3⟩ := he
  have hk0 : KeepsFrom n0 W W' := h3.ext.keeps (fun b hb => hw.cells (by rw [List.map_append]; exact List.mem_append_left _ hb))
  have h3' : Has W ⟨X.map Prod.fst, []⟩ H' W' := ⟨h3.ext, h3.blk, h3.nodup, List.nodup_nil, fun k hk => (List.not_mem_nil hk).elim⟩
  cases e with
  | normal =>
    obtain ⟨j, hj, hs⟩ := h1
    exact ⟨hk0, j, hj, hw.comp2 (h3'.sub hs), Nat.le_trans hn h3.ext.size⟩
  | ret =>
    obtain ⟨j, hj, hs⟩ := h1
    exact ⟨hk0, j, hj, hw.comp2 (h3'.sub hs)⟩
  | exit id =>
    obtain ⟨j, hj, hs⟩ := h1
    exact ⟨hk0, j, hj, hw.comp2 (h3'.sub hs)⟩
  | goto _ => exact h1.elim
  | panic _ => exact h1.elim
  | outgrown => exact h1.elim
/-- A loop over an iterator, outside of all rounds; its rounds may write what the iterator reads. -/
theorem t_rangeV {m gf : Nat} {lb : List Value} {encs : α → List Value} {Rq : List α → World → Prop} {G : List α → α → World → Prop} {E : List α → World → Prop} {hk : Hp} (hp : ι → Hp) (Pi : List α → ι → Prop) (bx : α → β → Hp) (fx : α → β → Fr) (hl : κ → Hp) (Pl : Code → List α → κ → Prop) (i0 : ι)
    (hev : ev F g = some (.func (.func gf) #[] ⟨lb⟩)) (eg : ∀ (args : Array Value) (w : World), (callFunc gf args).run c.P w = .ok (.enter gf args) w)
    (hseq : SeqV (m + 1) c.P gf ⟨lb⟩ (fun x => ⟨encs x⟩) Rq G E) (hGa : ∀ n0 x, Abide n0 (fun pre W => G pre x W)) (hEa : ∀ n0, Abide n0 E)
    (hRq : ∀ pre i D W, Pi pre i → Has c.w0 ⟨c.M, D⟩ (hp i ++ hk) W → Rq pre W)
    (h0 : Pi [] i0) (hH : HpSub H (hp i0 ++ hk)) (R : RangeOkV c F (H.map Prod.fst) hk ps assign body m encs G hp Pi bx fx hl Pl)
    (hdone : ∀ D xs i W, E xs W → Pi xs i → Has c.w0 ⟨c.M, D⟩ (hp i ++ hk) W → Q .normal F (hp i ++ hk)) (hstop : ∀ k pre j, Pl k pre j → T c (WS.own c.P) k Q F (hl j ++ hk)) : T c (WS.own c.P) (.rangeFunc g ps assign body) Q F H := by
  intro D a w ha hw
  refine (wpIn_wide (n := m + 2)).1 ?_
  have hD : ∀ k ∈ D, k < w.heap.size := fun k hk => mark_lt (hw.marks.2 k hk).2
  have put : ∀ (X : Hp) (A : World) (l : Nat) (o o' : Obj), Has c.w0 ⟨c.M, D⟩ X A → w.heap.size ≤ l → A.heap[l]? = some o → o.isCells = false → Has c.w0 ⟨c.M, D⟩ X (A.putObj l o') := fun X A l o o' h hl ho hc =>
    h.grown (grownBy_putObj' A l o') fun r e => by cases e; exact ⟨Nat.le_trans hw.ext.size hl, fun hm => by have := hD _ hm; omega, o, ho, hc⟩
  refine wpIn_rangeV (n := m + 2) (by omega) (gf := gf) (lb := ⟨lb⟩) (ha.ev hev) eg hseq (fun x => by simpa using R.size x)
    (fun xs W' => ∃ j, Pi xs j ∧ Has c.w0 ⟨c.M, D⟩ (hp j ++ hk) W' ∧ w.heap.size ≤ W'.heap.size) (fun k xs W' => ∃ j, Pl k xs j ∧ Has c.w0 ⟨c.M, D⟩ (hl j ++ hk) W')
    ⟨fun s A B ⟨j, h1, h2, h3⟩ he => ⟨j, h1, h2.grow he, Nat.le_trans h3 he.size⟩, fun s A l o o' ⟨j, h1, h2, h3⟩ hl ho hc => ⟨j, h1, put _ _ _ _ _ h2 hl ho hc, by simpa using h3⟩⟩
    (fun k => ⟨fun s A B ⟨j, h1, h2⟩ he => ⟨j, h1, h2.grow he⟩, fun s A l o o' ⟨j, h1, h2⟩ hl ho hc => ⟨j, h1, put _ _ _ _ _ h2 hl ho hc⟩⟩)
    (hGa _) (hEa _) (fun pre A ⟨j, h1, h2, _⟩ => hRq pre j D A h1 h2) ⟨i0, h0, hw.sub hH, Nat.le_refl _⟩
    (fun x a' W => ∃ bs, Frm [] c.N (fx x bs) a' ∧ Blks w.heap.size (bx x bs) W)
    (fun x a' => ⟨fun _ A B ⟨bs, h1, h2⟩ he => ⟨bs, h1, h2.grown (ext_grown he) (fun r e => by cases e)⟩, fun _ A l o o' ⟨bs, h1, h2⟩ hl ho hc => ⟨bs, h1, h2.grown (grownBy_putObj' A l o') (fun r e => by cases e; exact ⟨o, ho, hc⟩)⟩⟩) ?_ ?_ ?_ ?_
  · intro l pre x A K ⟨j, h1, h2, h3⟩ hK
    exact range_assignV R ha l x A w.heap.size h3 K fun a' B bs he hf hb => hK a' B he ⟨bs, hf, hb⟩
  · intro l pre x a' A hr ⟨j, h1, h2, h3⟩ hG ⟨bs, h4, h5⟩
    have hj := h2.join h5 hw.ext.size (R.disj x bs j _ A D h5 h2 (fun b hb => by obtain ⟨y, hy, rfl⟩ := List.mem_map.1 hb; exact (hw.blk y hy).2.lt))
    rw [← List.append_assoc] at hj
    exact range_bodyV w.heap.size l a' A (R.body_ l pre x j bs A D h1 hj hG hr) hj h4 h3
  · intro D' xs B hD' hE ⟨j, h1, h2, h3⟩ hm
    refine ⟨D' :: D, F, hp j ++ hk, hdone D xs j B hE h1 h2, ⟨ha.size, by simp [ha.defers, dmark], ha.at_⟩, h2.ext, h2.blk, h2.nodup, List.nodup_cons.2 ⟨fun hmem => by have := hD _ hmem; omega, h2.marks.1⟩, fun k hk => ?_⟩
    rcases List.mem_cons.1 hk with rfl | hk
    · exact ⟨Nat.le_trans hw.ext.size hD', hm⟩
    · exact h2.marks.2 k hk
  · intro D' k pre B hD' ⟨j, h1, h2⟩ hm
    refine wpIn_wide.2 (hstop k pre j h1 (D' :: D) _ B ⟨ha.size, by simp [ha.defers, dmark], ha.at_⟩ ⟨h2.ext, h2.blk, h2.nodup, List.nodup_cons.2 ⟨fun hmem => by have := hD _ hmem; omega, h2.marks.1⟩, fun k hk => ?_⟩)
    rcases List.mem_cons.1 hk with rfl | hk
    · exact ⟨Nat.le_trans hw.ext.size hD', hm⟩
    · exact h2.marks.2 k hk
end
end Go.Proofs.Ytmlmgipngbndgaa
/- A region that draws its order, outside of all rounds: what is behind the quiet operations is walked by hand (it may hand the control over to a round). -/
namespace Go.Proofs.Ytmlmgipngbndgaa
set_option linter.unusedVariables false
set_option linter.unusedSimpArgs false
open Go.RowKit

section
variable {P : Program} {ops : Array Oper} {n : Nat} {o : Oper} {a : Act} {w : World} {K : Act → World → Prop} {Q : Exit → Act → World → Prop} {I : World → Prop} {cov : Array Bool}
theorem wpInW_of_wp (h : o.wp P a w K QF) : o.wpIn Fence.wide n P a w K Q := by
  unfold Oper.wpIn
  refine ⟨fun _ _ => trivial, ?_⟩
  have hr : Fence.wide.round = none := rfl
  rw [hr, Oper.semAt_none]
  unfold Oper.wp at h
  generalize (execOp a.eval o).run P w = r at *
  cases r with
  | ok nx w' =>
    cases nx <;> simp only [Oper.upon] at h <;> simp only [Oper.uponIn]
    case value u => exact h
    case skip => exact h
    case defer d => exact h
    case enter f args =>
      refine ⟨fun h0 => by simp [Fence.wide] at h0, callsIn_wide.2 (Calls.mono h fun e w'' he => ?_)⟩
      cases e with
      | returned u => exact he
      | panicked c => exact he.elim
      | outgrown => obtain ⟨_, _, h⟩ := he; exact h.elim
    case row row args => exact ⟨fun h0 => by simp [Fence.wide] at h0, rowsIn_of h⟩
  | halt x w' => cases x <;> simp only [Oper.upon] at h <;> exact h.elim
theorem wpOpInW_of {i : Nat} (hh : wpOp P ops QF i K a w) : wpOpIn Fence.wide n P ops Q i K a w := by
  unfold wpOp at hh
  unfold wpOpIn
  split
  · rename_i ho; simp only [ho] at hh; exact hh
  · rename_i o ho
    simp only [ho] at hh
    split
    · rename_i hw
      simp only [hw, if_true] at hh
      rcases hh with h | ⟨_, _, _, h⟩
      · exact wpInW_of_wp h
      · exact h.elim
    · rename_i hw; simp only [hw] at hh; exact ⟨fun _ _ => trivial, hh⟩

/-- As SAnyI; what 'cov' marks is walked by hand. -/
def SInI (P : Program) (ops : Array Oper) (cov : Array Bool) (I : World → Prop) (m : Nat) (Q : Exit → Act → World → Prop) : Nat → Array Bool → Act → World → Prop
  | 0, listed, a, w => Region.ready .any ops listed = [] ∧ Q .normal a w
  | n + 1, listed, a, w => (Region.ready .any ops listed = [] → Q .normal a w) ∧
      ∀ i ∈ Region.ready .any ops listed, (cov.getD i false = true → wpOpIn Fence.wide m P ops Q i (wpAnyIn Fence.wide m P .any ops Q n (listed.setIfInBounds i true)) a w) ∧
        (cov.getD i false = false → wpOp P ops QF i (fun a' w' => (I w → I w') ∧ ∀ w'', Ext w' w'' → SInI P ops cov I m Q n (listed.setIfInBounds i true) a' w'') a w)

theorem wpAnyIn_of_SInI : ∀ (k : Nat) (listed : Array Bool) (a : Act) (w : World), SInI P ops cov I n Q k listed a w → wpAnyIn Fence.wide n P .any ops Q k listed a w
  | 0, _, _, _, h => h
  | k + 1, _, _, _, h => ⟨h.1, fun i hi => by
      cases hc : cov.getD i false with
      | true => exact (h.2 i hi).1 hc
      | false => exact wpOpIn_mono (fun _ w' h2 => wpAnyIn_of_SInI k _ _ w' (h2.2 w' (Ext.refl _))) (wpOpInW_of ((h.2 i hi).2 hc))⟩

theorem SInI_first (hU : Up I) {i : Nat} {oi : Oper} {v : Value} (hi : ops[i]? = some oi) (hsel : ∀ (j : Nat) (o : Oper) cs b, ops[j]? = some o → o.op ≠ .select cs b)
    (hcov : covFor ops cov i = true) :
    ∀ (k : Nat) (listed : Array Bool) (a : Act) (w0 : World), I w0 → Down ops listed →
      (∀ j oj, ops[j]? = some oj → j ≠ i → listed.getD j true = false → (∀ e ∈ oj.after, Region.binds .any e = true → e.on ≠ i) → oi.apart ops oj = true) →
      i ∈ Region.ready .any ops listed → YGI P ops I oi v a →
      (∀ w, Ext w0 w → SInI P ops cov I n Q k (listed.setIfInBounds i true) (a.put oi.dst v) w) → ∀ w, Ext w0 w → SInI P ops cov I n Q (k + 1) listed a w := by
  intro k
  have ci : ∀ {listed : Array Bool}, Down ops listed → i ∈ Region.ready .any ops listed → cov.getD i false = false := fun {listed} hd hr => by
    refine covFor_spec hcov hd hr ?_
    have h0 := (mem_ready.1 hr).1
    rcases Nat.lt_or_ge i listed.size with h' | h'
    · simp [h'] at h0 ⊢; exact h0
    · simp [Array.getElem?_eq_none h'] at h0
  induction k with
  | zero =>
    intro listed a w0 hW hd _ hr hy H w hw
    refine ⟨fun h => (by rw [h] at hr; cases hr), fun j hj => ?_⟩
    by_cases hji : j = i
    · subst hji
      refine ⟨fun hc => (by rw [ci hd hr] at hc; cases hc), fun _ => hy.wpOp hi (hU _ _ hW hw) fun w' hw' => ⟨fun hI => hU _ _ hI hw', fun w'' hw'' => H _ ((hw.trans hw').trans hw'')⟩⟩
    · have := ready_mono hj hji
      rw [(H w hw).1] at this
      cases this
  | succ k ih =>
    intro listed a w0 hW hd hfree hr hy H w hw
    refine ⟨fun h => (by rw [h] at hr; cases hr), fun j hj => ?_⟩
    by_cases hji : j = i
    · subst hji
      refine ⟨fun hc => (by rw [ci hd hr] at hc; cases hc), fun _ => hy.wpOp hi (hU _ _ hW hw) fun w' hw' => ⟨fun hI => hU _ _ hI hw', fun w'' hw'' => H _ ((hw.trans hw').trans hw'')⟩⟩
    · obtain ⟨hjun, oj, hoj, hall⟩ := mem_ready.1 hj
      have hiun : listed.getD i false = false := by
        have h0 := (mem_ready.1 hr).1
        rcases Nat.lt_or_ge i listed.size with h' | h'
        · simp [h'] at h0 ⊢; exact h0
        · simp [Array.getElem?_eq_none h'] at h0
      have hnot : ∀ e ∈ oj.after, Region.binds .any e = true → e.on ≠ i := fun e he hb heq => by
        have h1 := hall e he hb
        rw [heq, hiun] at h1
        cases h1
      have hc := covFor_spec hcov hd hj hiun
      have h1 := ((H w hw).2 j (ready_mono hj hji)).2 hc
      have hap := hfree j oj hoj hji hjun hnot
      obtain ⟨_, _, h3⟩ := Oper.apart_spec hap
      have h2 := wpOp_put2 (S := YGI P ops I oi v) hoj hap (fun cs b => hsel j oj cs b hoj)
        (fun a u hS => hS.of_same (execOp_put oi (fun cs b => hsel i oi cs b hi) a oj.dst u h3) (wanted_put oi a oj.dst u h3)) (fun a d hS => hS.of_same rfl rfl) hy h1
      have hfree' : ∀ k ok, ops[k]? = some ok → k ≠ i → (listed.setIfInBounds j true).getD k true = false →
          (∀ e ∈ ok.after, Region.binds .any e = true → e.on ≠ i) → oi.apart ops ok = true := fun k ok hk hki hun hno => by
        refine hfree k ok hk hki ?_ hno
        by_cases hjk : j = k
        · subst hjk; exact hjun
        · rw [getD_set_ne true hjk] at hun; exact hun
      refine ⟨fun hc' => (by rw [hc] at hc'; cases hc'), fun _ => wpOp_mono (fun a' w' h3 => ?_) h2⟩
      obtain ⟨hS, hcv, hrest⟩ := h3
      have hww := hcv (hU _ _ hW hw)
      refine ⟨fun _ => hww, fun w'' hw'' => ih (listed.setIfInBounds j true) a' w' hww (hd.set hj) hfree' (ready_mono hr (Ne.symm hji)) hS ?_ w'' hw''⟩
      intro w2 hw2
      rw [Array.setIfInBounds_comm _ _ hji]
      exact hrest w2 hw2

theorem SInI_lex (hU : Up I) (hs : Region.noSelect ops = true) (k : Nat) : ∀ (l : List Nat) (listed : Array Bool) (a : Act), lexOk ops cov l listed = true → Down ops listed →
    wpGI P ops I (fun a' => ∀ w, I w → SInI P ops cov I n Q k (listedBy l listed) a' w) l a → ∀ w, I w → SInI P ops cov I n Q (k + l.length) listed a w
  | [], _, _, _, _, h => h
  | i :: l, listed, a, hB, hd, h => by
    intro w hw0
    simp only [lexOk, Bool.and_eq_true] at hB
    obtain ⟨⟨⟨hr, hf⟩, hc⟩, hB'⟩ := hB
    have hr' : i ∈ Region.ready .any ops listed := by simpa using hr
    unfold wpGI at h
    cases ho : ops[i]? with
    | none => simp only [ho] at h
    | some o =>
      simp only [ho] at h
      by_cases hw : Region.wanted o (yielded ops a.tmps) = true
      · simp only [hw, if_true] at h
        obtain ⟨v, hv, hK⟩ := h
        exact SInI_first hU ho (Region.noSelect_spec hs) hc (k + l.length) listed a w hw0 hd (Region.free_spec ho hf) hr' (.inl ⟨hw, hv⟩) (fun w' hw' => SInI_lex hU hs k l _ _ hB' (hd.set hr') hK w' (hU _ _ hw0 hw')) w (Ext.refl _)
      · simp only [hw] at h
        exact SInI_first hU ho (Region.noSelect_spec hs) hc (k + l.length) listed a w hw0 hd (Region.free_spec ho hf) hr' (.inr ⟨by simpa using hw, rfl⟩) (fun w' hw' => SInI_lex hU hs k l _ _ hB' (hd.set hr') h w' (hU _ _ hw0 hw')) w (Ext.refl _)

theorem wpInW_mixed {id : Nat} (hU : Up I) (hI : I w) (l : List Nat) (k : Nat) (hm : P.follows .mixedOrders = true)
    (hB : (Region.noSelect ops && (k + l.length == ops.size) && lexOk ops cov l (Array.replicate ops.size false)) = true)
    (h : wpGI P ops I (fun a' => ∀ w', I w' → SInI P ops cov I n Q k (listedBy l (Array.replicate ops.size false)) a' w') l a) : (Code.region id ops true).wpIn Fence.wide n P Q a w := by
  simp only [Bool.and_eq_true, beq_iff_eq] at hB
  obtain ⟨⟨hs, hn⟩, hl⟩ := hB
  refine wpIn_region_any hm (wpAnyIn_of_SInI (I := I) (cov := cov) _ _ _ _ ?_)
  rw [← hn]
  have := SInI_lex (P := P) (Q := Q) (n := n) hU hs k l (Array.replicate ops.size false) a hl (Down.none _) h w.drew (hU _ _ hI (Ext.refl w).drew)
  simpa [hn] using this

/-- One operation is left that may come next. -/
theorem SInI_one {k i : Nat} {listed : Array Bool} (hr : Region.ready .any ops listed = [i]) (hc : cov.getD i false = true)
    (h : wpOpIn Fence.wide n P ops Q i (wpAnyIn Fence.wide n P .any ops Q k (listed.setIfInBounds i true)) a w) : SInI P ops cov I n Q (k + 1) listed a w :=
  ⟨fun h0 => (by rw [hr] at h0; cases h0), fun j hj => by
    rw [hr] at hj
    obtain rfl : j = i := by simpa using hj
    exact ⟨fun _ => h, fun hc' => (by rw [hc] at hc'; cases hc')⟩⟩
theorem wpAnyIn_one {k i : Nat} {listed : Array Bool} (hr : Region.ready .any ops listed = [i]) (h : wpOpIn Fence.wide n P ops Q i (wpAnyIn Fence.wide n P .any ops Q k (listed.setIfInBounds i true)) a w) : wpAnyIn Fence.wide n P .any ops Q (k + 1) listed a w :=
  ⟨fun h0 => (by rw [hr] at h0; cases h0), fun j hj => by
    rw [hr] at hj
    obtain rfl : j = i := by simpa using hj
    exact h⟩
theorem wpOpIn_on {i : Nat} (ho : ops[i]? = some o) (hw : Region.wanted o (yielded ops a.tmps) = true) (h : o.wpIn Fence.wide n P a w K Q) : wpOpIn Fence.wide n P ops Q i K a w := by
  unfold wpOpIn; simp only [ho, hw, if_true]; exact h
theorem wpOpIn_off {i : Nat} (ho : ops[i]? = some o) (hw : Region.wanted o (yielded ops a.tmps) = false) (h : K (a.put o.dst undef) w) : wpOpIn Fence.wide n P ops Q i K a w := by
  unfold wpOpIn; simp only [ho, hw]; exact ⟨fun _ _ => trivial, h⟩
/-- A call of yield. -/
theorem wpIn_yield {l : Nat} {args : Array Value} {R : Ending → World → Prop} (hrun : (execOp a.eval o).run P w = (Instr.yield l args).run P w) (h : YieldAt Fence.wide (n - 1) P l args w R)
    (hK : ∀ e w', R e w' → ∃ v, e = .returned v ∧ K (a.put o.dst v) w') : o.wpIn Fence.wide n P a w K Q := by
  obtain ⟨fn, tmps, assign, body, hy, hR⟩ := h
  unfold Oper.wpIn
  refine ⟨fun _ _ => trivial, ?_⟩
  have hr : Fence.wide.round = none := rfl
  rw [hr, Oper.semAt_none, hrun, hy, Oper.uponIn_round]
  refine ⟨fun h0 => by simp [Fence.wide] at h0, RoundIn.mono hR fun e w' he => ?_⟩
  obtain ⟨v, rfl, h2⟩ := hK e w' he
  exact h2
theorem chain_of_wpGI {R : Act → Prop} (hU : Up I) : ∀ (l : List Nat) (a : Act) (w : World), I w → wpGI P ops I R l a → chain P ops (fun a' w' => R a' ∧ I w') l a w
  | [], a, w, hI, h => ⟨h, hI⟩
  | i :: l, a, w, hI, h => by
    unfold wpGI at h
    unfold chain
    cases ho : ops[i]? with
    | none => simp only [ho] at h
    | some o =>
      simp only [ho] at h ⊢
      by_cases hw : Region.wanted o (yielded ops a.tmps) = true
      · simp only [hw, if_true] at h ⊢
        obtain ⟨v, hv, hK⟩ := h
        refine givesUpon_wp (hv w hI) fun u w' ⟨hu, hx⟩ => ?_
        subst hu
        exact chain_of_wpGI hU l _ w' (hU _ _ hI hx) hK
      · simp only [hw] at h ⊢
        exact chain_of_wpGI hU l _ w hI h
end
section
variable {c : Cx} {Q : Exit → Act → World → Prop} {F : Fr} {H : Hp} {D : List Nat} {a : Act} {w : World} {n : Nat}
/-- Quiet operations in the text's order. -/
theorem g_region {id : Nat} {l : List Oper} {R : Fr → Prop} (ha : Frm D c.N F a) (hw : Has c.w0 ⟨c.M, D⟩ H w) (h : GX c ⟨l⟩ l R F H) (k : ∀ F' a' w', R F' → Frm D c.N F' a' → Has c.w0 ⟨c.M, D⟩ H w' → Q .normal a' w') :
    (Code.region id ⟨l⟩ false).wpIn Fence.wide n c.P Q a w := by
  refine wpIn_wide.2 (wp_region (wpOps_of_chain (R := fun a' w' => (∃ F', R F' ∧ Frm D c.N F' a') ∧ Has c.w0 ⟨c.M, D⟩ H w') (fun a' w' h => ?_) _ _ _ (chain_of_wpGI (Has.up (M := ⟨c.M, D⟩)) _ _ _ hw ?_)))
  · obtain ⟨⟨F', h1, h2⟩, h3⟩ := h
    exact k F' a' w' h1 h2 h3
  · have := h _ (range_map l) D a ha
    rwa [← List.range_eq_range'] at this
/-- Quiet operations of a region that draws its order; what is left is walked by hand. -/
theorem g_mixIn {id : Nat} {l ql : List Oper} {R : Fr → Prop} (q : List Nat) (k : Nat) (cov : Array Bool) (hm : c.P.follows .mixedOrders = true) (hB : (Region.noSelect ⟨l⟩ && (k + q.length == (Array.mk l).size) && lexOk ⟨l⟩ cov q (Array.replicate (Array.mk l).size false)) = true) (hq : pickOps l q = some ql)
    (ha : Frm D c.N F a) (hw : Has c.w0 ⟨c.M, D⟩ H w) (h : GX c ⟨l⟩ ql R F H)
    (kk : ∀ F' a' w', R F' → Frm D c.N F' a' → Has c.w0 ⟨c.M, D⟩ H w' → SInI c.P ⟨l⟩ cov (Has c.w0 ⟨c.M, D⟩ H) n Q k (listedBy q (Array.replicate (Array.mk l).size false)) a' w') :
    (Code.region id ⟨l⟩ true).wpIn Fence.wide n c.P Q a w := by
  refine wpInW_mixed (Has.up (M := ⟨c.M, D⟩)) hw q k hm hB (wpGI_mono (fun a' ⟨F', h1, h2⟩ w' hw' => ?_) q a (h q (pickOps_spec hq) D a ha))
  exact kk F' a' w' h1 h2 hw'
/-- A quiet operation, by hand. -/
theorem wpIn_oq {o : Oper} {d : Nat} {v : Value} {K : Act → World → Prop} (ha : Frm D c.N F a) (hw : Has c.w0 ⟨c.M, D⟩ H w) (hd : o.dst = some d) (hN : Nat.blt d c.N = true) (h : OQ c o F H v)
    (k : ∀ a' w', Frm D c.N ((d, v) :: F) a' → Has c.w0 ⟨c.M, D⟩ H w' → K a' w') : o.wpIn Fence.wide n c.P a w K Q :=
  wpInW_of_wp (givesUpon_wp (h D a w ha hw) fun u w' ⟨hu, hx⟩ => by
    subst hu
    rw [hd]
    exact k _ _ (ha.put hN _) (hw.grow hx))
end
end Go.Proofs.Ytmlmgipngbndgaa
