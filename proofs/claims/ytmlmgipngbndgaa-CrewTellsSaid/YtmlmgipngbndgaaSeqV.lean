/- Loops over an iterator whose rounds may write what it reads: its contract tells of the world at each yield, and of the world behind the last. -/
import Derived.Test.YtmlmgipngbndgaaSl5
namespace Go.Proofs.Ytmlmgipngbndgaa
set_option linter.unusedVariables false
set_option linter.unusedSimpArgs false
open Go.RowKit

/-- An iterator: it asks Rq of the world between two rounds; at a yield of x, behind those of pre, it promises G; at its end E. -/
def SeqV {α : Type} (n : Nat) (P : Program) (g : Nat) (lb : Array Value) (encs : α → Array Value) (Rq : List α → World → Prop) (G : List α → α → World → Prop) (E : List α → World → Prop) : Prop :=
  ∀ (l : Nat) (J Jx : List α → World → Prop) (W : World), (∀ pre A B, J pre A → Ext A B → J pre B) → (∀ pre A B, Jx pre A → Ext A B → Jx pre B) → (∀ pre A, J pre A → Rq pre A) →
    (∀ pre x A, J pre A → G pre x A → YieldAt Fence.wide (n - 1) P l (encs x) A fun e B => (e = .returned (.bool true) ∧ J (pre ++ [x]) B) ∨ (e = .returned (.bool false) ∧ Jx (pre ++ [x]) B)) →
    J [] W → CallsIn Fence.wide n P g (#[.func (.yield l) #[] #[]] ++ lb) W fun e B => (∃ v, e = .returned v) ∧ ((∃ xs, E xs B ∧ J xs B) ∨ (∃ pre, Jx pre B))

/-- What abides growth, and the turn of a block that is no cells, from n0 on. -/
structure Abide {β : Type} (n0 : Nat) (I : β → World → Prop) : Prop where
  ext : ∀ s A B, I s A → Ext A B → I s B
  put : ∀ s A l o o', I s A → n0 ≤ l → A.heap[l]? = some o → o.isCells = false → I s (A.putObj l o')

/-- How a round's body may end. -/
def endV {α : Type} (n0 : Nat) (I : List α → World → Prop) (Ix : Code → List α → World → Prop) (xs : List α) (A : World) : Exit → Act → World → Prop
  | .normal, _, B => KeepsFrom n0 A B ∧ I xs B
  | .ret, _, B => KeepsFrom n0 A B ∧ Ix .ret xs B
  | .exit id, _, B => KeepsFrom n0 A B ∧ Ix (.exit id) xs B
  | .goto t, _, B => KeepsFrom n0 A B ∧ Ix (.goto t) xs B
  | .panic _, _, _ => False
  | .outgrown, _, _ => False

theorem ext_block {A B : World} (h : Ext A B) {k : Nat} {o : Obj} (hk : A.heap[k]? = some o) : B.heap[k]? = some o :=
  (h.block k (Array.getElem?_eq_some_iff.1 hk).1).trans hk

theorem wpIn_rangeV {P : Program} {n : Nat} {α : Type} {g : Operand} {ps : Array Tmp} {assign body : Code} {Q : Exit → Act → World → Prop} {a : Act} {w : World} (hn : 2 ≤ n) {gf : Nat} {lb : Array Value}
    (hg : a.eval g = .func (.func gf) #[] lb) (eg : ∀ args w, (callFunc gf args).run P w = .ok (.enter gf args) w) {encs : α → Array Value} {Rq : List α → World → Prop} {G : List α → α → World → Prop} {E : List α → World → Prop}
    (hseq : SeqV (n - 1) P gf lb encs Rq G E) (hps : ∀ x, (encs x).size = ps.size) (I : List α → World → Prop) (Ix : Code → List α → World → Prop) (hI : Abide w.heap.size I) (hIx : ∀ c, Abide w.heap.size (Ix c)) (hGa : ∀ x, Abide w.heap.size (fun pre W => G pre x W)) (hEa : Abide w.heap.size E)
    (hRq : ∀ pre A, I pre A → Rq pre A) (h0 : I [] w) (Ax : α → Act → World → Prop) (hAx : ∀ x a', Abide w.heap.size (fun (_ : Unit) W => Ax x a' W))
    (hassign : ∀ (l : Nat) (pre : List α) (x : α) (A : World) (K : Act → World → Prop), I pre A → (∀ a' B, Ext A B → Ax x a' B → K a' B) →
      assign.wpIn (Fence.wide.inRound l) (n - 1 - 1) P (Exit.then K (fun _ _ _ => False)) { tmps := (ps.zip (encs x)).foldl (fun t (p, v) => t.setIfInBounds p v) a.tmps, defers := [] } A)
    (hbody : ∀ (l : Nat) (pre : List α) (x : α) (a' : Act) (A : World), (∃ r, A.heap[l]? = some (.loop r)) → I pre A → G pre x A → Ax x a' A → body.wpIn (Fence.wide.inRound l) (n - 1 - 1) P (endV w.heap.size I Ix (pre ++ [x]) A) a' A)
    (hdone : ∀ (D : Nat) (xs : List α) (B : World), w.heap.size ≤ D → E xs B → I xs B → B.heap[D]? = some (.deferred (some [])) → Q .normal { a with defers := { target := .collected D, args := #[] } :: a.defers } B)
    (hstop : ∀ (D : Nat) (c : Code) (pre : List α) (B : World), w.heap.size ≤ D → Ix c pre B → B.heap[D]? = some (.deferred (some [])) → c.wpIn Fence.wide n P Q { a with defers := { target := .collected D, args := #[] } :: a.defers } B) :
    (Code.rangeFunc g ps assign body).wpIn Fence.wide n P Q a w := by
  refine wpIn_rangeFunc fun fn hfn => ?_
  -- the loop's record, in a state and with a jump that waits
  obtain ⟨R, hR⟩ : ∃ R : LoopState → Option Code → Loop, R = fun s j => { state := s, pending := j, fn, tmps := a.tmps, params := ps, assign, body, defers := w.heap.size } := ⟨_, rfl⟩
  obtain ⟨W1, hW1⟩ : ∃ W1, (w.alloc (.deferred (some []))).alloc (.loop (R .ready none)) = W1 := ⟨_, rfl⟩
  have e1 : Ext w W1 := by rw [← hW1]; exact ((Ext.refl w).alloc _).alloc _
  have l1 : W1.heap[w.heap.size + 1]? = some (.loop (R .ready none)) := by
    rw [← hW1]; have := World.alloc_heap_new (w.alloc (.deferred (some []))) (.loop (R .ready none)); rwa [World.size_alloc] at this
  have d1 : W1.heap[w.heap.size]? = some (.deferred (some [])) := by
    rw [← hW1]; exact (Below.heap_alloc _ _ _ (by simp)).trans (World.alloc_heap_new w _)
  have notC : ∀ r : Loop, (Obj.loop r).isCells = false := fun _ => rfl
  refine ⟨w.heap.size + 1, [{ target := .collected w.heap.size, args := #[] }], W1, { target := .fn (.func gf) lb, args := #[.func (.yield (w.heap.size + 1)) #[] #[]] }, W1, gf, #[.func (.yield (w.heap.size + 1)) #[] #[]] ++ lb, W1, ?_, ?_, fun _ _ => trivial, ?_, fun _ => by omega, ?_⟩
  · rw [← hW1, hR]; exact run_enterLoop_outer _ _ _ _ _
  · simp only [resolve, hg]
    simp [go_sem]
  · simp [invoke, go_sem, eg]
  · refine (hseq (w.heap.size + 1)
      (fun pre A => I pre A ∧ A.heap[w.heap.size + 1]? = some (.loop (R .ready none)) ∧ A.heap[w.heap.size]? = some (.deferred (some [])))
      (fun pre A => ∃ c, Ix c pre A ∧ A.heap[w.heap.size + 1]? = some (.loop (R .done (some c))) ∧ A.heap[w.heap.size]? = some (.deferred (some [])))
      W1 (fun pre A B h e => ⟨hI.ext _ _ _ h.1 e, ext_block e h.2.1, ext_block e h.2.2⟩) (fun pre A B ⟨c, h1, h2, h3⟩ e => ⟨c, (hIx c).ext _ _ _ h1 e, ext_block e h2, ext_block e h3⟩) (fun pre A h => hRq _ _ h.1) ?_ ⟨hI.ext _ _ _ h0 e1, l1, d1⟩).mono ?_
    · rintro pre x A ⟨hi, hl, hd⟩ hG
      have hy := run_yield (P := P) (args := encs x) hl (by rw [hR]; exact hps x)
      rw [hR] at hy
      refine ⟨fn, _, assign, body, hy, roundIn_of_wpIn hfn (hassign _ pre x A _ hi fun a' B he hax => ?_)⟩
      have hlB := ext_block he hl
      have hdB := ext_block he hd
      have hltB := (Array.getElem?_eq_some_iff.1 hlB).1
      refine ⟨_, run_beginRound hlB (by rw [hR]), ?_⟩
      obtain ⟨C, hC⟩ : ∃ C, B.putObj (w.heap.size + 1) (.loop { R .ready none with state := .busy }) = C := ⟨_, rfl⟩
      have hlC : C.heap[w.heap.size + 1]? = some (.loop { R .ready none with state := .busy }) := by rw [← hC]; exact World.putObj_heap_same hltB
      have hdC : C.heap[w.heap.size]? = some (.deferred (some [])) := by rw [← hC]; exact (World.putObj_heap_other (by omega)).trans hdB
      rw [hC]
      refine wpIn_mono (hbody _ pre x a' C ⟨_, hlC⟩ (hC ▸ hI.put _ _ _ _ _ (hI.ext _ _ _ hi he) (by omega) hlB rfl) (hC ▸ (hGa x).put _ _ _ _ _ ((hGa x).ext _ _ _ hG he) (by omega) hlB rfl) (hC ▸ (hAx x a').put () _ _ _ _ hax (by omega) hlB rfl)) ?_
      -- the round's end, whatever the jump
      have fin : ∀ (j : Option Code) (D : World), KeepsFrom w.heap.size C D →
          (Instr.endRound (w.heap.size + 1) j).run P D = .ok (.bool j.isNone) (D.putObj (w.heap.size + 1) (.loop (R (if j.isNone then .ready else .done) j))) ∧ D.heap[w.heap.size + 1]? = some (.loop { R .ready none with state := .busy }) ∧
          (D.putObj (w.heap.size + 1) (.loop (R (if j.isNone then .ready else .done) j))).heap[w.heap.size + 1]? = some (.loop (R (if j.isNone then .ready else .done) j)) ∧
          (D.putObj (w.heap.size + 1) (.loop (R (if j.isNone then .ready else .done) j))).heap[w.heap.size]? = some (.deferred (some [])) := fun j D hk => by
        have hl3 := hk.same _ _ (by omega) hlC rfl
        have := run_endRound (P := P) j hl3
        rw [hR] at this ⊢
        exact ⟨this, by rw [hR] at hl3; exact hl3, World.putObj_heap_same (Array.getElem?_eq_some_iff.1 hl3).1, (World.putObj_heap_other (by omega)).trans (hk.same _ _ (Nat.le_refl _) hdC rfl)⟩
      intro e a3 D hp
      cases e with
      | normal =>
        obtain ⟨r1, r2, r3, r4⟩ := fin none D hp.1
        exact ⟨_, _, r1, .inl ⟨rfl, hI.put _ _ _ _ _ hp.2 (by omega) r2 rfl, r3, r4⟩⟩
      | ret =>
        obtain ⟨r1, r2, r3, r4⟩ := fin (some .ret) D hp.1
        exact ⟨_, _, r1, .inr ⟨rfl, .ret, (hIx _).put _ _ _ _ _ hp.2 (by omega) r2 rfl, r3, r4⟩⟩
      | exit id =>
        obtain ⟨r1, r2, r3, r4⟩ := fin (some (.exit id)) D hp.1
        exact ⟨_, _, r1, .inr ⟨rfl, .exit id, (hIx _).put _ _ _ _ _ hp.2 (by omega) r2 rfl, r3, r4⟩⟩
      | goto t =>
        obtain ⟨r1, r2, r3, r4⟩ := fin (some (.goto t)) D hp.1
        exact ⟨_, _, r1, .inr ⟨rfl, .goto t, (hIx _).put _ _ _ _ _ hp.2 (by omega) r2 rfl, r3, r4⟩⟩
      | panic ch => exact hp.elim
      | outgrown => exact hp.elim
    · rintro e B ⟨⟨v, rfl⟩, (⟨xs, hE, hi, hl, hd⟩ | ⟨pre, c, hi, hl, hd⟩)⟩
      · exact ⟨none, _, by have := run_endLoop (P := P) hl (by rw [hR]; simp); rw [hR] at this; exact this, hdone _ xs _ (Nat.le_refl _) (hEa.put _ _ _ _ _ hE (by omega) hl rfl) (hI.put _ _ _ _ _ hi (by omega) hl rfl) ((World.putObj_heap_other (by omega)).trans hd)⟩
      · exact ⟨some c, _, by have := run_endLoop (P := P) hl (by rw [hR]; simp); rw [hR] at this; exact this, hstop _ c pre _ (Nat.le_refl _) ((hIx c).put _ _ _ _ _ hi (by omega) hl rfl) ((World.putObj_heap_other (by omega)).trans hd)⟩

theorem ext_grown {A B : World} (h : Ext A B) : A.grownBy B none := ⟨h.os, h.tape, h.output, h.size, fun k hk _ => h.block k hk⟩
section
variable {c : Cx} {Q : QS} {F : Fr} {H : Hp} {g : Operand} {ps : Array Tmp} {assign body : Code} {ι κ α β : Type}
/-- As SL0, or nothing at all. -/
def SLV (c : Cx) (k : Code) (R : Fr → Hp → Prop) (F : Fr) (H : Hp) : Prop := (k = .skip ∧ R F H) ∨ SL0 c k R F H
theorem SLV.wpIn {l m : Nat} {k : Code} {R : Fr → Hp → Prop} (h : SLV c k R F H) (D : List Nat) (a : Act) (w : World) (ha : Frm D c.N F a) (hw : Has c.w0 ⟨c.M, D⟩ H w) :
    k.wpIn (Fence.wide.inRound l) m c.P (fun e a' w' => e = .normal ∧ ∃ F' H', R F' H' ∧ Frm D c.N F' a' ∧ Has c.w0 ⟨c.M, D⟩ H' w') a w := by
  rcases h with ⟨rfl, h⟩ | h
  · exact wpIn_skip ⟨rfl, F, H, h, ha, hw⟩
  · exact SL0.wpIn k h D a w ha hw
structure RangeOkV (c : Cx) (F : Fr) (ns : List Nat) (hk : Hp) (ps : Array Tmp) (assign body : Code) (m : Nat) (encs : α → List Value) (G : List α → α → World → Prop)
    (hp : ι → Hp) (Pi : List α → ι → Prop) (bx : α → β → Hp) (fx : α → β → Fr) (hl : κ → Hp) (Pl : Code → List α → κ → Prop) : Prop where
  size : ∀ x, (encs x).length = ps.size
  slots : (ps.toList.all fun p => Nat.blt p c.N) = true
  assign_ : ∀ (x : α) (W : World), SLV { c with w0 := W, M := [] } assign (fun F' H' => ∃ bs, FrSub F' (fx x bs) ∧ HpSub H' (bx x bs)) (parF (ps.toList.zip (encs x)) F) []
  disj : ∀ x bs i n W D, Blks n (bx x bs) W → Has c.w0 ⟨c.M, D⟩ (hp i ++ hk) W → (∀ b ∈ ns, b < n) → ∀ y ∈ bx x bs, ∀ z ∈ hp i ++ hk, y.1 ≠ z.1
  body_ : ∀ (l : Nat) (pre : List α) (x : α) (i : ι) (bs : β) (W : World) (D : List Nat), Pi pre i → Has c.w0 ⟨c.M, D⟩ (bx x bs ++ hp i ++ hk) W → G pre x W → (∃ r, W.heap[l]? = some (.loop r)) →
    T { c with w0 := W, M := (bx x bs ++ hp i).map Prod.fst } (WS.round c.P l m) body (QB hp Pi hl Pl (pre ++ [x])) (fx x bs) (bx x bs ++ hp i)
theorem range_assignV {m : Nat} {ns : List Nat} {hk : Hp} {encs : α → List Value} {G : List α → α → World → Prop} {hp : ι → Hp} {Pi : List α → ι → Prop} {bx : α → β → Hp} {fx : α → β → Fr} {hl : κ → Hp} {Pl : Code → List α → κ → Prop}
    (R : RangeOkV c F ns hk ps assign body m encs G hp Pi bx fx hl Pl) {D : List Nat} {a : Act} (ha : Frm D c.N F a) (l : Nat) (x : α) (W : World) (n0 : Nat) (hn0 : n0 ≤ W.heap.size) (K : Act → World → Prop)
    (hK : ∀ a' W' bs, Ext W W' → Frm [] c.N (fx x bs) a' → Blks n0 (bx x bs) W' → K a' W') :
    assign.wpIn (Fence.wide.inRound l) m c.P (Exit.then K (fun _ _ _ => False)) { tmps := (ps.zip ⟨encs x⟩).foldl (fun t (p, v) => t.setIfInBounds p v) a.tmps, defers := [] } W := by
  have hF : Frm [] c.N (parF (ps.toList.zip (encs x)) F) { tmps := (ps.zip ⟨encs x⟩).foldl (fun t (p, v) => t.setIfInBounds p v) a.tmps, defers := [] } := by
    have h1 : Frm D c.N F ⟨a.tmps, D.map dmark⟩ := ⟨ha.size, rfl, ha.at_⟩
    have := Frm.par (ps.toList.zip (encs x)) (fun p hp => by
      have h2 := List.all_eq_true.1 R.slots
      exact h2 p.1 (List.of_mem_zip hp).1) h1
    have e : (ps.zip ⟨encs x⟩).foldl (fun t (p, v) => t.setIfInBounds p v) a.tmps = (ps.toList.zip (encs x)).foldl (fun t p => t.setIfInBounds p.1 p.2) a.tmps := by
      rw [← Array.foldl_toList, Array.toList_zip]
    rw [e]; exact this
  have h0 : Has W ⟨[], []⟩ [] W := Has.start W
  refine wpIn_mono (SLV.wpIn (R.assign_ x W) [] _ W hF h0) fun e a' W' he => ?_
  obtain ⟨rfl, F', H', ⟨bs, h1, h2⟩, h3, h4⟩ := he
  have h5 := h4.sub h2
  refine hK a' W' bs h4.ext.ext (h3.sub h1) ⟨fun y hy => ⟨?_, (h5.blk y hy).2⟩, h5.nodup⟩
  rcases (h5.blk y hy).1 with h6 | h6
  · exact Nat.le_trans hn0 h6
  · exact (List.not_mem_nil h6).elim
theorem range_bodyV {m : Nat} {hk X : Hp} {hp : ι → Hp} {Pi : List α → ι → Prop} {hl : κ → Hp} {Pl : Code → List α → κ → Prop} {Fx : Fr} {xs : List α} {D : List Nat} (n0 l : Nat) (a' : Act) (W : World)
    (h : T { c with w0 := W, M := X.map Prod.fst } (WS.round c.P l m) body (QB hp Pi hl Pl xs) Fx X) (hw : Has c.w0 ⟨c.M, D⟩ (X ++ hk) W) (ha : Frm [] c.N Fx a') (hn : n0 ≤ W.heap.size) :
    body.wpIn (Fence.wide.inRound l) m c.P (endV n0 (fun xs W' => ∃ j, Pi xs j ∧ Has c.w0 ⟨c.M, D⟩ (hp j ++ hk) W' ∧ n0 ≤ W'.heap.size) (fun k xs W' => ∃ j, Pl k xs j ∧ Has c.w0 ⟨c.M, D⟩ (hl j ++ hk) W') xs W) a' W := by
  have hself : Has W ⟨X.map Prod.fst, []⟩ X W := by
    refine ⟨ExtM.refl _ _, fun y hy => ⟨.inr (List.mem_map.2 ⟨y, hy, rfl⟩), (hw.blk y (List.mem_append_left _ hy)).2⟩, ?_, List.nodup_nil, fun k hk => (List.not_mem_nil hk).elim⟩
    have := hw.nodup
    rw [List.map_append, List.nodup_append] at this
    exact this.1
  refine wpIn_mono (h [] a' W ha hself) fun e a2 W' he => ?_
  obtain ⟨D', F', H', h1, h2, h3⟩ := he
  have hk0 : KeepsFrom n0 W W' := h3.ext.keeps (fun b hb => hw.cells (by rw [List.map_append]; exact List.mem_append_left _ hb))
  have h3' : Has W ⟨X.map Prod.fst, []⟩ H' W' := ⟨h3.ext, h3.blk, h3.nodup, List.nodup_nil, fun k hk => (List.not_mem_nil hk).elim⟩
  cases e with
  | normal =>
    obtain ⟨j, hj, hs⟩ := h1
    exact ⟨hk0, j, hj, hw.comp2 (h3'.sub hs), Nat.le_trans hn h3.ext.size⟩
  | ret =>
    obtain ⟨j, hj, hs⟩ := h1
    exact ⟨hk0, j, hj, hw.comp2 (h3'.sub hs)⟩
  | exit id =>
    obtain ⟨j, hj, hs⟩ := h1
    exact ⟨hk0, j, hj, hw.comp2 (h3'.sub hs)⟩
  | goto _ => exact h1.elim
  | panic _ => exact h1.elim
  | outgrown => exact h1.elim
/-- A loop over an iterator, outside of all rounds; its rounds may write what the iterator reads. -/
theorem t_rangeV {m gf : Nat} {lb : List Value} {encs : α → List Value} {Rq : List α → World → Prop} {G : List α → α → World → Prop} {E : List α → World → Prop} {hk : Hp} (hp : ι → Hp) (Pi : List α → ι → Prop) (bx : α → β → Hp) (fx : α → β → Fr) (hl : κ → Hp) (Pl : Code → List α → κ → Prop) (i0 : ι)
    (hev : ev F g = some (.func (.func gf) #[] ⟨lb⟩)) (eg : ∀ (args : Array Value) (w : World), (callFunc gf args).run c.P w = .ok (.enter gf args) w)
    (hseq : SeqV (m + 1) c.P gf ⟨lb⟩ (fun x => ⟨encs x⟩) Rq G E) (hGa : ∀ n0 x, Abide n0 (fun pre W => G pre x W)) (hEa : ∀ n0, Abide n0 E)
    (hRq : ∀ pre i D W, Pi pre i → Has c.w0 ⟨c.M, D⟩ (hp i ++ hk) W → Rq pre W)
    (h0 : Pi [] i0) (hH : HpSub H (hp i0 ++ hk)) (R : RangeOkV c F (H.map Prod.fst) hk ps assign body m encs G hp Pi bx fx hl Pl)
    (hdone : ∀ D xs i W, E xs W → Pi xs i → Has c.w0 ⟨c.M, D⟩ (hp i ++ hk) W → Q .normal F (hp i ++ hk)) (hstop : ∀ k pre j, Pl k pre j → T c (WS.own c.P) k Q F (hl j ++ hk)) : T c (WS.own c.P) (.rangeFunc g ps assign body) Q F H := by
  intro D a w ha hw
  refine (wpIn_wide (n := m + 2)).1 ?_
  have hD : ∀ k ∈ D, k < w.heap.size := fun k hk => mark_lt (hw.marks.2 k hk).2
  have put : ∀ (X : Hp) (A : World) (l : Nat) (o o' : Obj), Has c.w0 ⟨c.M, D⟩ X A → w.heap.size ≤ l → A.heap[l]? = some o → o.isCells = false → Has c.w0 ⟨c.M, D⟩ X (A.putObj l o') := fun X A l o o' h hl ho hc =>
    h.grown (grownBy_putObj' A l o') fun r e => by cases e; exact ⟨Nat.le_trans hw.ext.size hl, fun hm => by have := hD _ hm; omega, o, ho, hc⟩
  refine wpIn_rangeV (n := m + 2) (by omega) (gf := gf) (lb := ⟨lb⟩) (ha.ev hev) eg hseq (fun x => by simpa using R.size x)
    (fun xs W' => ∃ j, Pi xs j ∧ Has c.w0 ⟨c.M, D⟩ (hp j ++ hk) W' ∧ w.heap.size ≤ W'.heap.size) (fun k xs W' => ∃ j, Pl k xs j ∧ Has c.w0 ⟨c.M, D⟩ (hl j ++ hk) W')
    ⟨fun s A B ⟨j, h1, h2, h3⟩ he => ⟨j, h1, h2.grow he, Nat.le_trans h3 he.size⟩, fun s A l o o' ⟨j, h1, h2, h3⟩ hl ho hc => ⟨j, h1, put _ _ _ _ _ h2 hl ho hc, by simpa using h3⟩⟩
    (fun k => ⟨fun s A B ⟨j, h1, h2⟩ he => ⟨j, h1, h2.grow he⟩, fun s A l o o' ⟨j, h1, h2⟩ hl ho hc => ⟨j, h1, put _ _ _ _ _ h2 hl ho hc⟩⟩)
    (hGa _) (hEa _) (fun pre A ⟨j, h1, h2, _⟩ => hRq pre j D A h1 h2) ⟨i0, h0, hw.sub hH, Nat.le_refl _⟩
    (fun x a' W => ∃ bs, Frm [] c.N (fx x bs) a' ∧ Blks w.heap.size (bx x bs) W)
    (fun x a' => ⟨fun _ A B ⟨bs, h1, h2⟩ he => ⟨bs, h1, h2.grown (ext_grown he) (fun r e => by cases e)⟩, fun _ A l o o' ⟨bs, h1, h2⟩ hl ho hc => ⟨bs, h1, h2.grown (grownBy_putObj' A l o') (fun r e => by cases e; exact ⟨o, ho, hc⟩)⟩⟩) ?_ ?_ ?_ ?_
  · intro l pre x A K ⟨j, h1, h2, h3⟩ hK
    exact range_assignV R ha l x A w.heap.size h3 K fun a' B bs he hf hb => hK a' B he ⟨bs, hf, hb⟩
  · intro l pre x a' A hr ⟨j, h1, h2, h3⟩ hG ⟨bs, h4, h5⟩
    have hj := h2.join h5 hw.ext.size (R.disj x bs j _ A D h5 h2 (fun b hb => by obtain ⟨y, hy, rfl⟩ := List.mem_map.1 hb; exact (hw.blk y hy).2.lt))
    rw [← List.append_assoc] at hj
    exact range_bodyV w.heap.size l a' A (R.body_ l pre x j bs A D h1 hj hG hr) hj h4 h3
  · intro D' xs B hD' hE ⟨j, h1, h2, h3⟩ hm
    refine ⟨D' :: D, F, hp j ++ hk, hdone D xs j B hE h1 h2, ⟨ha.size, by simp [ha.defers, dmark], ha.at_⟩, h2.ext, h2.blk, h2.nodup, List.nodup_cons.2 ⟨fun hmem => by have := hD _ hmem; omega, h2.marks.1⟩, fun k hk => ?_⟩
    rcases List.mem_cons.1 hk with rfl | hk
    · exact ⟨Nat.le_trans hw.ext.size hD', hm⟩
    · exact h2.marks.2 k hk
  · intro D' k pre B hD' ⟨j, h1, h2⟩ hm
    refine wpIn_wide.2 (hstop k pre j h1 (D' :: D) _ B ⟨ha.size, by simp [ha.defers, dmark], ha.at_⟩ ⟨h2.ext, h2.blk, h2.nodup, List.nodup_cons.2 ⟨fun hmem => by have := hD _ hmem; omega, h2.marks.1⟩, fun k hk => ?_⟩)
    rcases List.mem_cons.1 hk with rfl | hk
    · exact ⟨Nat.le_trans hw.ext.size hD', hm⟩
    · exact h2.marks.2 k hk
end
end Go.Proofs.Ytmlmgipngbndgaa
