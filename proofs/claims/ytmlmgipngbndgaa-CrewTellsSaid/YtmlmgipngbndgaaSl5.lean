/- A calculus for walks, part 5: loops over iterators. -/
import Derived.Test.YtmlmgipngbndgaaSl4
import Derived.RangeFuncNested
import Derived.RangeFuncCalls
namespace Go.Proofs.Ytmlmgipngbndgaa
set_option linter.unusedVariables false
set_option linter.unusedSimpArgs false
open Go.RowKit

/-- The blocks of Mi lie as they lay. -/
def KeepB (Mi : Nat → Prop) (W W' : World) : Prop := ∀ b, Mi b → W'.heap[b]? = W.heap[b]?
/-- Blocks known by themselves. -/
structure Blks (n : Nat) (H : Hp) (W : World) : Prop where
  blk : ∀ x ∈ H, n ≤ x.1 ∧ Blk W x.1 x.2.1 x.2.2
  nodup : (H.map Prod.fst).Nodup

theorem Has.grown {w0 : World} {M : Ms} {H : Hp} {W W' : World} {row : Option Nat} (h : Has w0 M H W) (hg : W.grownBy W' row) (hr : ∀ r, row = some r → w0.heap.size ≤ r ∧ r ∉ M.dk ∧ ∃ o : Obj, W.heap[r]? = some o ∧ o.isCells = false) : Has w0 M H W' := by
  refine ⟨⟨hg.os.trans h.ext.os, hg.tape.trans h.ext.tape, hg.output.trans h.ext.output, Nat.le_trans h.ext.size hg.size, fun b hb hm => ?_⟩, fun x hx => ⟨(h.blk x hx).1, (h.blk x hx).2.same (hg.block _ (h.blk x hx).2.lt fun e => ?_)⟩, h.nodup, h.marks.1, fun k hk => ⟨(h.marks.2 k hk).1, ?_⟩⟩
  · rw [hg.block b (Nat.lt_of_lt_of_le hb h.ext.size) (fun e => by have := (hr b e.symm).1; omega)]
    exact h.ext.block b hb hm
  · obtain ⟨_, _, o, ho, hc⟩ := hr _ e.symm
    obtain ⟨c, t, h1, _⟩ := (h.blk x hx).2
    rw [h1] at ho; cases ho; cases hc
  · rw [hg.block k (mark_lt (h.marks.2 k hk).2) (fun e => (hr k e.symm).2.1 hk)]
    exact (h.marks.2 k hk).2
theorem Blks.grown {n : Nat} {H : Hp} {W W' : World} {row : Option Nat} (h : Blks n H W) (hg : W.grownBy W' row) (hr : ∀ r, row = some r → ∃ o : Obj, W.heap[r]? = some o ∧ o.isCells = false) : Blks n H W' :=
  ⟨fun x hx => ⟨(h.blk x hx).1, (h.blk x hx).2.same (hg.block _ (h.blk x hx).2.lt fun e => by
    obtain ⟨o, ho, hc⟩ := hr _ e.symm
    obtain ⟨c, t, h1, _⟩ := (h.blk x hx).2
    rw [h1] at ho; cases ho; cases hc)⟩, h.nodup⟩
/-- Two blocks of different elements are different. -/
theorem Blk.ne {W : World} {b b' e s c e' s' c' : Nat} {C C' : List Value} (h : Blk W b C (some (e, s, c))) (h' : Blk W b' C' (some (e', s', c'))) (hne : e ≠ e') : b ≠ b' := by
  rintro rfl
  obtain ⟨x, t, h1, _, h2, _⟩ := h
  obtain ⟨x', t', h1', _, h2', _⟩ := h'
  rw [h1] at h1'
  cases h1'
  exact hne (h2.symm.trans h2')
theorem ExtM.keeps {M : List Nat} {W W' : World} {n : Nat} (h : ExtM M W W') (hc : ∀ b ∈ M, ∃ c t, W.heap[b]? = some (.cells c t (0, 0))) : KeepsFrom n W W' :=
  ⟨h.size, fun k o hk h0 ho => (h.block k (mark_lt h0) (fun hm => by obtain ⟨c, t, h1⟩ := hc k hm; rw [h1] at h0; cases h0; cases ho)).trans h0⟩

theorem Has.cells {w0 : World} {M : Ms} {H : Hp} {W : World} (h : Has w0 M H W) {b : Nat} (hb : b ∈ H.map Prod.fst) : ∃ c t, W.heap[b]? = some (.cells c t (0, 0)) := by
  obtain ⟨x, hx, rfl⟩ := List.mem_map.1 hb
  obtain ⟨c, t, h1, _⟩ := (h.blk x hx).2
  exact ⟨c, t, h1⟩
/-- A piece of a walk that may write the blocks of H. -/
theorem Has.comp {w0 : World} {M D M' : List Nat} {H H' : Hp} {W W' : World} (h : Has w0 ⟨M, D⟩ H W) (k : Has W ⟨M', []⟩ H' W') (hM : ∀ b ∈ M', b ∈ H.map Prod.fst) : Has w0 ⟨M, D⟩ H' W' := by
  have own : ∀ b ∈ M', w0.heap.size ≤ b ∨ b ∈ M := fun b hb => by
    obtain ⟨x, hx, rfl⟩ := List.mem_map.1 (hM b hb)
    exact (h.blk x hx).1
  refine ⟨⟨k.ext.os.trans h.ext.os, k.ext.tape.trans h.ext.tape, k.ext.output.trans h.ext.output, Nat.le_trans h.ext.size k.ext.size, fun b hb hm => ?_⟩, fun x hx => ⟨?_, (k.blk x hx).2⟩, k.nodup, h.marks.1, fun m hm => ⟨(h.marks.2 m hm).1, ?_⟩⟩
  · rw [k.ext.block b (Nat.lt_of_lt_of_le hb h.ext.size) (fun e => by rcases own b e with h1 | h1; omega; exact hm h1)]
    exact h.ext.block b hb hm
  · rcases (k.blk x hx).1 with h1 | h1
    · exact .inl (Nat.le_trans h.ext.size h1)
    · exact own _ h1
  · have h1 := (h.marks.2 m hm).2
    rw [k.ext.block m (mark_lt h1) (fun e => by
      obtain ⟨c, t, h2⟩ := h.cells (hM m e)
      rw [h2] at h1; cases h1)]
    exact h1
theorem Has.join {w0 : World} {M : Ms} {H B : Hp} {W : World} {n : Nat} (h : Has w0 M H W) (hb : Blks n B W) (hn : w0.heap.size ≤ n) (hd : ∀ x ∈ B, ∀ y ∈ H, x.1 ≠ y.1) : Has w0 M (B ++ H) W := by
  refine ⟨h.ext, fun x hx => ?_, ?_, h.marks⟩
  · rcases List.mem_append.1 hx with hx | hx
    · exact ⟨.inl (Nat.le_trans hn (hb.blk x hx).1), (hb.blk x hx).2⟩
    · exact h.blk x hx
  · rw [List.map_append, List.nodup_append]
    refine ⟨hb.nodup, h.nodup, fun a ha b hbm => ?_⟩
    obtain ⟨x, hx, rfl⟩ := List.mem_map.1 ha
    obtain ⟨y, hy, rfl⟩ := List.mem_map.1 hbm
    exact hd x hx y hy
theorem Has.self {w0 : World} {M : Ms} {H : Hp} {W : World} (h : Has w0 M H W) : Has W ⟨H.map Prod.fst, []⟩ H W :=
  ⟨ExtM.refl _ _, fun x hx => ⟨.inr (List.mem_map.2 ⟨x, hx, rfl⟩), (h.blk x hx).2⟩, h.nodup, List.nodup_nil, fun k hk => (List.not_mem_nil hk).elim⟩
def parF : List (Nat × Value) → Fr → Fr
  | [], F => F
  | (p, v) :: l, F => parF l ((p, v) :: F)
theorem Frm.par {D : List Nat} {N : Nat} : ∀ (l : List (Nat × Value)) {F : Fr} {tmps : Array Value}, (∀ p ∈ l, Nat.blt p.1 N = true) → Frm D N F ⟨tmps, D.map dmark⟩ → Frm [] N (parF l F) ⟨l.foldl (fun t p => t.setIfInBounds p.1 p.2) tmps, []⟩
  | [], F, tmps, _, h => ⟨h.size, rfl, h.at_⟩
  | (p, v) :: l, F, tmps, hl, h => by
    have := h.put (hl (p, v) (List.mem_cons_self ..)) v
    exact Frm.par (D := D) l (fun q hq => hl q (List.mem_cons_of_mem _ hq)) this

/-- How a round may be left. -/
def QB {α ι κ : Type} (hp : ι → Hp) (Pi : List α → ι → Prop) (hl : κ → Hp) (Pl : Code → List α → κ → Prop) (xs : List α) : QS
  | .normal, _, H' => ∃ j, Pi xs j ∧ HpSub H' (hp j)
  | .ret, _, H' => ∃ j, Pl .ret xs j ∧ HpSub H' (hl j)
  | .exit id, _, H' => ∃ j, Pl (.exit id) xs j ∧ HpSub H' (hl j)
  | _, _, _ => False

section
variable {c : Cx} {F : Fr} {H : Hp} {g : Operand} {ps : Array Tmp} {assign body : Code} {α ι κ β : Type} {Q : QS}

/-- Straight code: regions that don't draw, one behind the other. -/
def SL0 (c : Cx) : Code → (Fr → Hp → Prop) → Fr → Hp → Prop
  | .region _ ops false, R, F, H => noDefer ops = true ∧ TL c ops ops.toList R F H
  | .seq x y, R, F, H => SL0 c x (fun F H => SL0 c y R F H) F H
  | _, _, _, _ => False
theorem sl0_region {id : Nat} {l : List Oper} {R : Fr → Hp → Prop} (h1 : noDefer ⟨l⟩ = true) (h2 : TL c ⟨l⟩ l R F H) : SL0 c (.region id ⟨l⟩ false) R F H := ⟨h1, h2⟩
theorem sl0_seq {x y : Code} {R : Fr → Hp → Prop} (h : SL0 c x (fun F H => SL0 c y R F H) F H) : SL0 c (.seq x y) R F H := h
theorem SL0.wpIn {l m : Nat} : ∀ (k : Code) {R : Fr → Hp → Prop} {F : Fr} {H : Hp}, SL0 c k R F H → ∀ (D : List Nat) (a : Act) (w : World), Frm D c.N F a → Has c.w0 ⟨c.M, D⟩ H w →
    k.wpIn (Fence.wide.inRound l) m c.P (fun e a' w' => e = .normal ∧ ∃ F' H', R F' H' ∧ Frm D c.N F' a' ∧ Has c.w0 ⟨c.M, D⟩ H' w') a w
  | .region _ ops false, R, F, H, h, D, a, w, ha, hw => by
    have := h.2 0 rfl D a w ha hw
    exact wpIn_region (wpOpsIn_of_chain (R := fun a' W' => ∃ F' H', R F' H' ∧ Frm D c.N F' a' ∧ Has c.w0 ⟨c.M, D⟩ H' W') h.1 (fun a' W' he => ⟨rfl, he⟩) _ _ _ (by rw [List.range_eq_range']; exact this))
  | .seq x y, R, F, H, h, D, a, w, ha, hw => by
    refine wpIn_seq (wpIn_mono (SL0.wpIn x h D a w ha hw) fun e a' w' ⟨he, F', H', h1, h2, h3⟩ => ?_)
    subst he
    exact SL0.wpIn y h1 D a' w' h2 h3
  | .region _ _ true, _, _, _, h, _, _, _, _, _ => h.elim
  | .skip, _, _, _, h, _, _, _, _, _ => h.elim
  | .cond _ _ _, _, _, _, h, _, _, _, _, _ => h.elim
  | .block _ _, _, _, _, h, _, _, _, _, _ => h.elim
  | .loop _, _, _, _, h, _, _, _, _, _ => h.elim
  | .rangeFunc _ _ _ _, _, _, _, h, _, _, _, _, _ => h.elim
  | .exit _, _, _, _, h, _, _, _, _, _ => h.elim
  | .scope _, _, _, _, h, _, _, _, _, _ => h.elim
  | .label _, _, _, _, h, _, _, _, _, _ => h.elim
  | .goto _, _, _, _, h, _, _, _, _, _ => h.elim
  | .ret, _, _, _, h, _, _, _, _, _ => h.elim
  | .refuse _, _, _, _, h, _, _, _, _, _ => h.elim
/-- What the body of a loop over an iterator leaves as it lies: old blocks, and those of hk. -/
def MiOf (c : Cx) (hk : Hp) (b : Nat) : Prop := (b < c.w0.heap.size ∧ b ∉ c.M) ∨ b ∈ hk.map Prod.fst
structure RangeOk (c : Cx) (F : Fr) (ns : List Nat) (hk : Hp) (ps : Array Tmp) (assign body : Code) (m : Nat) (encs : α → List Value) (N : Nat)
    (hp : ι → Hp) (Pi : List α → ι → Prop) (bx : α → β → Hp) (fx : α → β → Fr) (hl : κ → Hp) (Pl : Code → List α → κ → Prop) : Prop where
  size : ∀ x, (encs x).length = ps.size
  slots : (ps.toList.all fun p => Nat.blt p c.N) = true
  assign_ : ∀ (x : α) (W : World), SL0 { c with w0 := W, M := [] } assign (fun F' H' => ∃ bs, FrSub F' (fx x bs) ∧ HpSub H' (bx x bs)) (parF (ps.toList.zip (encs x)) F) []
  disj : ∀ x bs i n W D, Blks n (bx x bs) W → Has c.w0 ⟨c.M, D⟩ (hp i ++ hk) W → (∀ b ∈ ns, b < n) → ∀ y ∈ bx x bs, ∀ z ∈ hp i ++ hk, y.1 ≠ z.1
  body_ : ∀ (l : Nat) (pre : List α) (x : α) (i : ι) (bs : β) (W : World) (D : List Nat), Pi pre i → Has c.w0 ⟨c.M, D⟩ (bx x bs ++ hp i ++ hk) W → pre.length < N → (∃ r, W.heap[l]? = some (.loop r)) →
    T { c with w0 := W, M := (bx x bs ++ hp i).map Prod.fst } (WS.round c.P l m) body (QB hp Pi hl Pl (pre ++ [x])) (fx x bs) (bx x bs ++ hp i)

theorem range_assign {m N : Nat} {ns : List Nat} {hk : Hp} {encs : α → List Value} {hp : ι → Hp} {Pi : List α → ι → Prop} {bx : α → β → Hp} {fx : α → β → Fr} {hl : κ → Hp} {Pl : Code → List α → κ → Prop}
    (R : RangeOk c F ns hk ps assign body m encs N hp Pi bx fx hl Pl) {D : List Nat} {a : Act} (ha : Frm D c.N F a) (l : Nat) (x : α) (W : World) (n0 : Nat) (hn0 : n0 ≤ W.heap.size) (K : Act → World → Prop)
    (hK : ∀ a' W' bs, Ext W W' → Frm [] c.N (fx x bs) a' → Blks n0 (bx x bs) W' → K a' W') :
    assign.wpIn (Fence.wide.inRound l) m c.P (Exit.then K (fun _ _ _ => False)) { tmps := (ps.zip ⟨encs x⟩).foldl (fun t (p, v) => t.setIfInBounds p v) a.tmps, defers := [] } W := by
  have hF : Frm [] c.N (parF (ps.toList.zip (encs x)) F) { tmps := (ps.zip ⟨encs x⟩).foldl (fun t (p, v) => t.setIfInBounds p v) a.tmps, defers := [] } := by
    have h1 : Frm D c.N F ⟨a.tmps, D.map dmark⟩ := ⟨ha.size, rfl, ha.at_⟩
    have := Frm.par (ps.toList.zip (encs x)) (fun p hp => by
      have h2 := List.all_eq_true.1 R.slots
      exact h2 p.1 (List.of_mem_zip hp).1) h1
    have e : (ps.zip ⟨encs x⟩).foldl (fun t (p, v) => t.setIfInBounds p v) a.tmps = (ps.toList.zip (encs x)).foldl (fun t p => t.setIfInBounds p.1 p.2) a.tmps := by
      rw [← Array.foldl_toList, Array.toList_zip]
    rw [e]; exact this
  have h0 : Has W ⟨[], []⟩ [] W := Has.start W
  refine wpIn_mono (SL0.wpIn assign (R.assign_ x W) [] _ W hF h0) fun e a' W' he => ?_
  obtain ⟨rfl, F', H', ⟨bs, h1, h2⟩, h3, h4⟩ := he
  have h5 := h4.sub h2
  refine hK a' W' bs h4.ext.ext (h3.sub h1) ⟨fun y hy => ⟨?_, (h5.blk y hy).2⟩, h5.nodup⟩
  rcases (h5.blk y hy).1 with h6 | h6
  · exact Nat.le_trans hn0 h6
  · exact (List.not_mem_nil h6).elim

/-- A piece of a walk that may write some of the blocks. -/
theorem Has.comp2 {w0 : World} {M D : List Nat} {X hk H' : Hp} {W W' : World} (h : Has w0 ⟨M, D⟩ (X ++ hk) W) (k : Has W ⟨X.map Prod.fst, []⟩ H' W') : Has w0 ⟨M, D⟩ (H' ++ hk) W' := by
  have h1 := h.comp (H' := H') k (fun b hb => by rw [List.map_append]; exact List.mem_append_left _ hb)
  have hnd := h.nodup
  rw [List.map_append, List.nodup_append] at hnd
  have kept : ∀ x ∈ hk, x.1 ∉ X.map Prod.fst := fun x hx hm => hnd.2.2 _ hm _ (List.mem_map.2 ⟨x, hx, rfl⟩) rfl
  refine ⟨h1.ext, fun x hx => ?_, ?_, h1.marks⟩
  · rcases List.mem_append.1 hx with hx | hx
    · exact h1.blk x hx
    · have h2 := h.blk x (List.mem_append_right _ hx)
      exact ⟨h2.1, h2.2.same (k.ext.block _ h2.2.lt (kept x hx))⟩
  · rw [List.map_append, List.nodup_append]
    refine ⟨k.nodup, hnd.2.1, fun a ha b hb => ?_⟩
    obtain ⟨x, hx, rfl⟩ := List.mem_map.1 ha
    obtain ⟨y, hy, rfl⟩ := List.mem_map.1 hb
    intro e
    have h2 := (h.blk y (List.mem_append_right _ hy)).2.lt
    rcases (k.blk x hx).1 with h3 | h3
    · omega
    · exact kept y hy (e ▸ h3)
/-- What a round's body must show, for the law. -/
theorem range_body {m N : Nat} {ns : List Nat} {hk : Hp} {encs : α → List Value} {hp : ι → Hp} {Pi : List α → ι → Prop} {bx : α → β → Hp} {fx : α → β → Fr} {hl : κ → Hp} {Pl : Code → List α → κ → Prop}
    (R : RangeOk c F ns hk ps assign body m encs N hp Pi bx fx hl Pl) {D : List Nat} (n0 : Nat) (l : Nat) (pre : List α) (x : α) (i : ι) (bs : β) (a' : Act) (W : World) (hi : Pi pre i) (hw : Has c.w0 ⟨c.M, D⟩ (bx x bs ++ hp i ++ hk) W) (hlen : pre.length < N) (hr : ∃ r, W.heap[l]? = some (.loop r)) (hmi : ∀ b, MiOf c hk b → b < n0)
    (ha : Frm [] c.N (fx x bs) a') (hn : n0 ≤ W.heap.size) :
    body.wpIn (Fence.wide.inRound l) m c.P (ownPostG n0 (KeepB (MiOf c hk)) (fun xs W' => ∃ j, Pi xs j ∧ Has c.w0 ⟨c.M, D⟩ (hp j ++ hk) W' ∧ n0 ≤ W'.heap.size) (fun k xs W' => ∃ j, Pl k xs j ∧ Has c.w0 ⟨c.M, D⟩ (hl j ++ hk) W') (pre ++ [x]) W) a' W := by
  have hself : Has W ⟨(bx x bs ++ hp i).map Prod.fst, []⟩ (bx x bs ++ hp i) W := by
    refine ⟨ExtM.refl _ _, fun y hy => ⟨.inr (List.mem_map.2 ⟨y, hy, rfl⟩), (hw.blk y (List.mem_append_left _ hy)).2⟩, ?_, List.nodup_nil, fun k hk => (List.not_mem_nil hk).elim⟩
    have := hw.nodup
    rw [List.map_append, List.nodup_append] at this
    exact this.1
  have h := R.body_ l pre x i bs W D hi hw hlen hr [] a' W ha hself
  refine wpIn_mono h fun e a2 W' he => ?_
  obtain ⟨D', F', H', h1, h2, h3⟩ := he
  have hk0 : KeepsFrom n0 W W' := h3.ext.keeps (fun b hb => hw.cells (by rw [List.map_append]; exact List.mem_append_left _ hb))
  have hB : KeepB (MiOf c hk) W W' := fun b hb => h3.ext.block b (Nat.lt_of_lt_of_le (hmi b hb) hn) (fun hm => by
    rcases hb with hb | hb
    · obtain ⟨y, hy, rfl⟩ := List.mem_map.1 hm
      rcases (hw.blk y (List.mem_append_left _ hy)).1 with h4 | h4
      · omega
      · exact hb.2 h4
    · have := hw.nodup
      rw [List.map_append, List.nodup_append] at this
      exact this.2.2 _ hm _ hb rfl)
  have h3' : Has W ⟨(bx x bs ++ hp i).map Prod.fst, []⟩ H' W' := ⟨h3.ext, h3.blk, h3.nodup, List.nodup_nil, fun k hk => (List.not_mem_nil hk).elim⟩
  cases e with
  | normal =>
    obtain ⟨j, hj, hs⟩ := h1
    exact ⟨hk0, hB, j, hj, hw.comp2 (h3'.sub hs), Nat.le_trans hn h3.ext.size⟩
  | ret =>
    obtain ⟨j, hj, hs⟩ := h1
    exact ⟨hk0, j, hj, hw.comp2 (h3'.sub hs)⟩
  | exit id =>
    obtain ⟨j, hj, hs⟩ := h1
    exact ⟨hk0, j, hj, hw.comp2 (h3'.sub hs)⟩
  | goto _ => exact h1.elim
  | panic _ => exact h1.elim
  | outgrown => exact h1.elim
theorem mi_lt {hk H X : Hp} {D : List Nat} {w : World} (hw : Has c.w0 ⟨c.M, D⟩ H w) (hH : HpSub H (X ++ hk)) (b : Nat) (hb : MiOf c hk b) : b < w.heap.size := by
  rcases hb with hb | hb
  · exact Nat.lt_of_lt_of_le hb.1 hw.ext.size
  · obtain ⟨y, hy, rfl⟩ := List.mem_map.1 hb
    exact ((hw.sub hH).blk y (List.mem_append_right _ hy)).2.lt

/-- A loop over an iterator, outside of all rounds. -/
theorem t_range {N m gf : Nat} {lb : List Value} {encs : α → List Value} {S Sp : List α → Prop} {hk : Hp} (hp : ι → Hp) (Pi : List α → ι → Prop) (bx : α → β → Hp) (fx : α → β → Fr) (hl : κ → Hp) (Pl : Code → List α → κ → Prop) (i0 : ι)
    (hev : ev F g = some (.func (.func gf) #[] ⟨lb⟩)) (eg : ∀ (args : Array Value) (w : World), (callFunc gf args).run c.P w = .ok (.enter gf args) w)
    (hseq : ∀ D w, Has c.w0 ⟨c.M, D⟩ H w → SeqStopsK Fence.wide (m + 1) c.P gf ⟨lb⟩ (fun x => ⟨encs x⟩) (KeepB (MiOf c hk)) S Sp N w)
    (h0 : Pi [] i0) (hH : HpSub H (hp i0 ++ hk)) (R : RangeOk c F (H.map Prod.fst) hk ps assign body m encs N hp Pi bx fx hl Pl)
    (hdone : ∀ xs i, S xs → Pi xs i → Q .normal F (hp i ++ hk)) (hstop : ∀ k pre j, Sp pre → Pl k pre j → T c (WS.own c.P) k Q F (hl j ++ hk)) : T c (WS.own c.P) (.rangeFunc g ps assign body) Q F H := by
  intro D a w ha hw
  refine (wpIn_wide (n := m + 2)).1 ?_
  have hD : ∀ k ∈ D, k < w.heap.size := fun k hk => mark_lt (hw.marks.2 k hk).2
  have stab : ∀ (X : Hp) (A B : World) (row : Option Nat), Has c.w0 ⟨c.M, D⟩ X A → A.grownBy B row → (∀ r, row = some r → w.heap.size ≤ r ∧ ∃ o : Obj, A.heap[r]? = some o ∧ o.isCells = false) → Has c.w0 ⟨c.M, D⟩ X B := fun X A B row h hg hr =>
    h.grown hg fun r e => ⟨Nat.le_trans hw.ext.size (hr r e).1, fun hm => by have := hD r hm; have := (hr r e).1; omega, (hr r e).2⟩
  refine wpIn_rangeFunc_ownH (F := Fence.wide) (encs := fun x => ⟨encs x⟩) (Kp := KeepB (MiOf c hk)) (S := S) (Sp := Sp) (N := N) (w0 := w) rfl (by omega) (gf := gf) (lb := ⟨lb⟩) (ha.ev hev) trivial eg (hseq D w hw) (fun h k b hb => (k b hb).trans (h b hb))
    (fun W l o o' hl ho hc hwk b hb => by have := mi_lt hw hH b hb; exact World.putObj_heap_other (by omega)) (Below.refl _ _) (fun x => by simpa using R.size x)
    (fun xs W' => ∃ j, Pi xs j ∧ Has c.w0 ⟨c.M, D⟩ (hp j ++ hk) W' ∧ w.heap.size ≤ W'.heap.size) (fun k xs W' => ∃ j, Pl k xs j ∧ Has c.w0 ⟨c.M, D⟩ (hl j ++ hk) W')
    (fun s A B row ⟨j, h1, h2, h3⟩ hg hr => ⟨j, h1, stab _ A B row h2 hg hr, Nat.le_trans h3 hg.size⟩) (fun k s A B row ⟨j, h1, h2⟩ hg hr => ⟨j, h1, stab _ A B row h2 hg hr⟩) ⟨i0, h0, hw.sub hH, Nat.le_refl _⟩
    (fun x a' W => ∃ bs, Frm [] c.N (fx x bs) a' ∧ Blks w.heap.size (bx x bs) W) (fun x a' _ A B row ⟨bs, h1, h2⟩ hg hr => ⟨bs, h1, h2.grown hg fun r e => (hr r e).2⟩) ?_ ?_ ?_ ?_
  · intro l pre x W K ⟨j, h1, h2, h3⟩ hK
    refine range_assign R ha l x W w.heap.size h3 K fun a' W' bs he hf hb => hK a' W' ?_ ?_ ⟨j, h1, h2.grow he, Nat.le_trans h3 he.size⟩ ⟨bs, hf, hb⟩
    · exact (he.toM []).keeps (fun b hb => (List.not_mem_nil hb).elim)
    · exact fun b hb => he.block b (Nat.lt_of_lt_of_le (mi_lt hw hH b hb) h3)
  · intro l pre x a' W hl' hr ⟨j, h1, h2, h3⟩ ⟨bs, h4, h5⟩ hlen
    have hj := h2.join h5 hw.ext.size (R.disj x bs j _ W D h5 h2 (fun b hb => by obtain ⟨y, hy, rfl⟩ := List.mem_map.1 hb; exact (hw.blk y hy).2.lt))
    rw [← List.append_assoc] at hj
    exact range_body R w.heap.size l pre x j bs a' W h1 hj hlen hr (fun b hb => mi_lt hw hH b hb) h4 h3
  · intro D' xs W hD' hS ⟨j, h1, h2, h3⟩ hm
    refine ⟨D' :: D, F, hp j ++ hk, hdone xs j hS h1, ⟨ha.size, by simp [ha.defers, dmark], ha.at_⟩, h2.ext, h2.blk, h2.nodup, List.nodup_cons.2 ⟨fun hmem => by have := hD _ hmem; omega, h2.marks.1⟩, fun k hk => ?_⟩
    rcases List.mem_cons.1 hk with rfl | hk
    · exact ⟨Nat.le_trans hw.ext.size hD', hm⟩
    · exact h2.marks.2 k hk
  · intro D' k pre W hD' hS ⟨j, h1, h2⟩ hm
    refine wpIn_wide.2 (hstop k pre j hS h1 (D' :: D) _ W ⟨ha.size, by simp [ha.defers, dmark], ha.at_⟩ ⟨h2.ext, h2.blk, h2.nodup, List.nodup_cons.2 ⟨fun hmem => by have := hD _ hmem; omega, h2.marks.1⟩, fun k hk => ?_⟩)
    rcases List.mem_cons.1 hk with rfl | hk
    · exact ⟨Nat.le_trans hw.ext.size hD', hm⟩
    · exact h2.marks.2 k hk

/-- A loop over an iterator, within a round of loop l₀. -/
theorem t_rangeN {N m gf l₀ : Nat} {lb : List Value} {encs : α → List Value} {S Sp : List α → Prop} {hk : Hp} (hp : ι → Hp) (Pi : List α → ι → Prop) (bx : α → β → Hp) (fx : α → β → Fr) (hl : κ → Hp) (Pl : Code → List α → κ → Prop) (i0 : ι)
    (hl₀ : ∃ r, c.w0.heap[l₀]? = some (.loop r)) (hlM : l₀ ∉ c.M)
    (hev : ev F g = some (.func (.func gf) #[] ⟨lb⟩)) (eg : ∀ (args : Array Value) (w : World), (callFunc gf args).run c.P w = .ok (.enter gf args) w)
    (hseq : ∀ D w, Has c.w0 ⟨c.M, D⟩ H w → SeqStopsK Fence.wide (m + 1) c.P gf ⟨lb⟩ (fun x => ⟨encs x⟩) (KeepB (MiOf c hk)) S Sp N w)
    (h0 : Pi [] i0) (hH : HpSub H (hp i0 ++ hk)) (R : RangeOk c F (H.map Prod.fst) hk ps assign body m encs N hp Pi bx fx hl Pl)
    (hdone : ∀ xs i, S xs → Pi xs i → Q .normal F (hp i ++ hk)) (hstop : ∀ k pre j, Sp pre → Pl k pre j → T c (WS.round c.P l₀ (m + 2)) k Q F (hl j ++ hk)) : T c (WS.round c.P l₀ (m + 2)) (.rangeFunc g ps assign body) Q F H := by
  intro D a w ha hw
  have hD : ∀ k ∈ D, k < w.heap.size := fun k hk => mark_lt (hw.marks.2 k hk).2
  obtain ⟨r₀, hr₀⟩ := hl₀
  have hwl : w.heap[l₀]? = some (.loop r₀) := (hw.ext.block l₀ (mark_lt hr₀) hlM).trans hr₀
  have stab : ∀ (X : Hp) (A B : World) (row : Option Nat), Has c.w0 ⟨c.M, D⟩ X A → A.grownBy B row → (∀ r, row = some r → w.heap.size ≤ r ∧ ∃ o : Obj, A.heap[r]? = some o ∧ o.isCells = false) → Has c.w0 ⟨c.M, D⟩ X B := fun X A B row h hg hr =>
    h.grown hg fun r e => ⟨Nat.le_trans hw.ext.size (hr r e).1, fun hm => by have := hD r hm; have := (hr r e).1; omega, (hr r e).2⟩
  refine wpIn_rangeFunc_ownN (F := Fence.wide.inRound l₀) (n := m + 2) (encs := fun x => ⟨encs x⟩) (Kp := KeepB (MiOf c hk)) (S := S) (Sp := Sp) (N := N) (w0 := w) (l₀ := l₀) (r₀ := r₀) rfl hwl (by omega) (gf := gf) (lb := ⟨lb⟩) (ha.ev hev) trivial eg ((hseq D w hw).inRound l₀) (fun h k b hb => (k b hb).trans (h b hb))
    (fun W l o o' hl ho hc hwk b hb => by have := mi_lt hw hH b hb; exact World.putObj_heap_other (by omega)) (Below.refl _ _) (fun x => by simpa using R.size x)
    (fun xs W' => ∃ j, Pi xs j ∧ Has c.w0 ⟨c.M, D⟩ (hp j ++ hk) W' ∧ w.heap.size ≤ W'.heap.size) (fun k xs W' => ∃ j, Pl k xs j ∧ Has c.w0 ⟨c.M, D⟩ (hl j ++ hk) W')
    (fun s A B row ⟨j, h1, h2, h3⟩ hg hr => ⟨j, h1, stab _ A B row h2 hg hr, Nat.le_trans h3 hg.size⟩) (fun k s A B row ⟨j, h1, h2⟩ hg hr => ⟨j, h1, stab _ A B row h2 hg hr⟩) ⟨i0, h0, hw.sub hH, Nat.le_refl _⟩
    (fun x a' W => ∃ bs, Frm [] c.N (fx x bs) a' ∧ Blks w.heap.size (bx x bs) W) (fun x a' _ A B row ⟨bs, h1, h2⟩ hg hr => ⟨bs, h1, h2.grown hg fun r e => (hr r e).2⟩) ?_ ?_ ?_ ?_
  · intro l pre x W K ⟨j, h1, h2, h3⟩ hK
    refine range_assign R ha l x W w.heap.size h3 K fun a' W' bs he hf hb => hK a' W' ?_ ?_ ⟨j, h1, h2.grow he, Nat.le_trans h3 he.size⟩ ⟨bs, hf, hb⟩
    · exact (he.toM []).keeps (fun b hb => (List.not_mem_nil hb).elim)
    · exact fun b hb => he.block b (Nat.lt_of_lt_of_le (mi_lt hw hH b hb) h3)
  · intro l pre x a' W hl' hr ⟨j, h1, h2, h3⟩ ⟨bs, h4, h5⟩ hlen
    have hj := h2.join h5 hw.ext.size (R.disj x bs j _ W D h5 h2 (fun b hb => by obtain ⟨y, hy, rfl⟩ := List.mem_map.1 hb; exact (hw.blk y hy).2.lt))
    rw [← List.append_assoc] at hj
    exact range_body R w.heap.size l pre x j bs a' W h1 hj hlen hr (fun b hb => mi_lt hw hH b hb) h4 h3
  · intro xs W hS ⟨j, h1, h2, h3⟩
    exact ⟨D, F, hp j ++ hk, hdone xs j hS h1, ha, h2⟩
  · intro k pre W hS ⟨j, h1, h2⟩
    exact hstop k pre j hS h1 D _ W ha h2
end

/-! Calls that hand out memory -/
theorem Has.call {w0 : World} {M D : List Nat} {H H' : Hp} {w w' : World} (h : Has w0 ⟨M, D⟩ H w) (k : Has w ⟨[], []⟩ H' w') : Has w0 ⟨M, D⟩ (H' ++ H) w' := by
  have h' := h.grow k.ext.ext
  have own : ∀ x ∈ H', w.heap.size ≤ x.1 := fun x hx => by
    rcases (k.blk x hx).1 with h1 | h1
    · exact h1
    · exact (List.not_mem_nil h1).elim
  refine ⟨h'.ext, fun x hx => ?_, ?_, h'.marks⟩
  · rcases List.mem_append.1 hx with hx | hx
    · exact ⟨.inl (Nat.le_trans h.ext.size (own x hx)), (k.blk x hx).2⟩
    · exact h'.blk x hx
  · rw [List.map_append, List.nodup_append]
    refine ⟨k.nodup, h.nodup, fun a ha b hb => ?_⟩
    obtain ⟨x, hx, rfl⟩ := List.mem_map.1 ha
    obtain ⟨y, hy, rfl⟩ := List.mem_map.1 hb
    have h1 := own x hx
    have h2 := (h.blk y hy).2.lt
    omega
section
variable {c : Cx} {F : Fr} {H : Hp} {K : Value → Hp → Prop} {d : Option Tmp} {ty : TypeId} {pos : String} {af : Array Edge} {g : Option (Nat × Bool)}
/-- A call that hands out memory that it has made. -/
theorem os_callF {f : Operand} {args : Array Operand} {T : Array TypeId} {k : Nat} {fst cap vs : List Value} {PV : Value → Hp → Prop} (hf : ev F f = some (.func (.func k) ⟨fst⟩ ⟨cap⟩)) (hc : ∀ (a : Array Value) (w : World), (callFunc k a).run c.P w = .ok (.enter k a) w)
    (ha : evs F args.toList = some vs) (h : ∀ D w, Has c.w0 ⟨c.M, D⟩ H w → Calls c.P k ⟨fst ++ vs ++ cap⟩ w fun e w' => ∃ v H', e = .returned v ∧ PV v H' ∧ Has w ⟨[], []⟩ H' w')
    (hk : ∀ v H', PV v H' → K v (H' ++ H)) : OS c ⟨d, .call ⟨.value f, args, T⟩, ty, pos, af, g⟩ F H K :=
  os_call hf hc ha fun D w hw => (h D w hw).mono fun e w' ⟨v, H', h1, h2, h3⟩ => ⟨v, H' ++ H, h1, hk v H' h2, hw.call h3⟩
end
/-- A block of rows, read as a slice. -/
theorem Blk.rows {w : World} {b n k : Nat} {rows : List (List Value)} {g : Tg} (h : Blk w b rows.flatten g) (hl : rows.length = n) (hk : ∀ r ∈ rows, r.length = k) : RdS w k (some ⟨b, 0, none⟩) n rows := by
  refine ⟨hl, fun _ => ⟨b, 0, rfl, h.lt, fun i x hx => ⟨hk x (List.mem_of_getElem? hx), fun j u hu => ?_⟩⟩⟩
  refine h.cell ?_
  rw [Nat.zero_add]
  clear h hl
  induction rows generalizing i with
  | nil => simp at hx
  | cons r rows ih =>
    have hr := hk r (List.mem_cons_self ..)
    cases i with
    | zero =>
      obtain rfl : r = x := by simpa using hx
      have hj := (List.getElem?_eq_some_iff.1 hu).1
      simp only [List.flatten_cons, Nat.zero_mul, Nat.zero_add]
      rw [List.getElem?_append_left hj]; exact hu
    | succ i =>
      have := ih (fun r hr => hk r (List.mem_cons_of_mem _ hr)) i (by simpa using hx)
      simp only [List.flatten_cons]
      rw [List.getElem?_append_right (by rw [hr, Nat.succ_mul]; omega)]
      rw [← this]; congr 1; rw [hr, Nat.succ_mul]; omega
theorem Has.cellAt {w0 : World} {M : Ms} {H H' : Hp} {w : World} {b o : Nat} {C : List Value} {g : Tg} {v : Value} (h : Has w0 M H w) (p : Pick H b C g H') (ho : C[o]? = some v) : w.cell? ⟨b, o, none⟩ = some v := (h.blk _ p.mem).2.cell ho
theorem Has.ne {w0 : World} {M : Ms} {H : Hp} {w : World} (h : Has w0 M H w) : (H.map Prod.fst).Nodup := h.nodup
theorem Has.off {w0 : World} {M : Ms} {X K : Hp} {w : World} (h : Has w0 M (X ++ K) w) {b : Nat} (hb : b ∈ K.map Prod.fst) : b ∉ X.map Prod.fst := fun hm => by
  have := h.nodup
  rw [List.map_append, List.nodup_append] at this
  exact this.2.2 _ hm _ hb rfl
theorem Has.oldc {w0 : World} {M : Ms} {H : Hp} {w : World} {b o : Nat} {v : Value} (h : Has w0 M H w) (hc : w0.cell? ⟨b, o, none⟩ = some v) (hm : b ∉ M.wr) : w.cell? ⟨b, o, none⟩ = some v := by
  rw [World.cell?_of_block (w := w0) (a := ⟨b, o, none⟩) (h.ext.block b (cell_lt hc) hm)]
  exact hc
theorem Has.notloop {w0 : World} {M : Ms} {H : Hp} {w : World} (h : Has w0 M H w) {l : Nat} (hl : ∃ r, w.heap[l]? = some (.loop r)) : l ∉ H.map Prod.fst := fun hm => by
  obtain ⟨c, t, h1⟩ := h.cells hm
  obtain ⟨r, h2⟩ := hl
  rw [h1] at h2; cases h2
theorem Has.oldoff {w0 : World} {M : Ms} {H : Hp} {w : World} (h : Has w0 M H w) {b : Nat} (hb : b < w0.heap.size) (hm : b ∉ M.wr) : b ∉ H.map Prod.fst := fun hh => by
  obtain ⟨x, hx, rfl⟩ := List.mem_map.1 hh
  rcases (h.blk x hx).1 with h1 | h1
  · omega
  · exact hm h1
theorem RdS.extM {M : List Nat} {w w' : World} {k : Nat} {A : Option Addr} {n : Nat} {xs : List (List Value)} (h : RdS w k A n xs) (he : ExtM M w w') (hA : 0 < n → ∀ b o, A = some ⟨b, o, none⟩ → b ∉ M) : RdS w' k A n xs :=
  ⟨h.len, fun hn => by
    obtain ⟨b, o, rfl, hb, hc⟩ := h.at_ hn
    refine ⟨b, o, rfl, Nat.lt_of_lt_of_le hb he.size, fun i x hx => ⟨(hc i x hx).1, fun j u hu => ?_⟩⟩
    have := (hc i x hx).2 j u hu
    rw [World.cell?_of_block (w := w) (a := ⟨b, o + i * k + j, none⟩) (he.block b hb (hA hn b o rfl))]
    exact this⟩
theorem isNew.extM {M : List Nat} {w w' : World} {b : Nat} {C : Array Value} (h : isNew w b C) (he : ExtM M w w') (hm : b ∉ M) : isNew w' b C :=
  ⟨fun o => (World.cell?_of_block (w := w) (a := ⟨b, o, none⟩) (he.block b h.2.2 hm)).trans (h.1 o), fun o => (World.frozen?_of_block (w := w) (a := ⟨b, o, none⟩) (he.block b h.2.2 hm)).trans (h.2.1 o), Nat.lt_of_lt_of_le h.2.2 he.size⟩
end Go.Proofs.Ytmlmgipngbndgaa
