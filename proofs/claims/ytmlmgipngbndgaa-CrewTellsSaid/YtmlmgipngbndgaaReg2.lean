/- Reg's law again: what the quiet operations need of the world is any property that stays as the world grows. -/
import Derived.Test.YtmlmgipngbndgaaRegIn
namespace Go.Proofs.Ytmlmgipngbndgaa
set_option linter.unusedVariables false
set_option linter.unusedSimpArgs false
open Go.RowKit
section
variable {P : Program} {ops : Array Oper}
/-- It stays as the world grows. -/
def Up (I : World → Prop) : Prop := ∀ w w', I w → Ext w w' → I w'
/-- In every such world the operation yields v, and the world grows. -/
def GQI (P : Program) (o : Oper) (a : Act) (I : World → Prop) (v : Value) : Prop := ∀ w, I w → givesUpon P (fun u w' => u = v ∧ Ext w w') ((execOp a.eval o).run P w)
def YGI (P : Program) (ops : Array Oper) (I : World → Prop) (o : Oper) (v : Value) (a : Act) : Prop :=
  (Region.wanted o (yielded ops a.tmps) = true ∧ GQI P o a I v) ∨ (Region.wanted o (yielded ops a.tmps) = false ∧ v = undef)

theorem YGI.of_same {I : World → Prop} {o : Oper} {v : Value} {a a' : Act} (hy : YGI P ops I o v a) (he : execOp a'.eval o = execOp a.eval o)
    (hw : Region.wanted o (yielded ops a'.tmps) = Region.wanted o (yielded ops a.tmps)) : YGI P ops I o v a' := by
  unfold YGI GQI at *
  rw [he, hw]
  exact hy

theorem YGI.wpOp {I : World → Prop} {w : World} {i : Nat} {o : Oper} {v : Value} {a : Act} (hi : ops[i]? = some o) (hy : YGI P ops I o v a) (hW : I w) {K : Act → World → Prop}
    (h : ∀ w', Ext w w' → K (a.put o.dst v) w') : wpOp P ops QF i K a w := by
  unfold Go.wpOp
  simp only [hi]
  rcases hy with ⟨hw, hv⟩ | ⟨hw, rfl⟩
  · simp only [hw, if_true]
    left
    have h1 := hv w hW
    unfold Oper.wp
    generalize (execOp a.eval o).run P w = r at *
    cases r with
    | ok n w' =>
      cases n <;> simp only [givesUpon] at h1 <;> simp only [Oper.upon]
      case value u => obtain ⟨rfl, h2⟩ := h1; exact h _ h2
      case skip => obtain ⟨rfl, h2⟩ := h1; exact h _ h2
      case enter f args =>
        refine Calls.mono h1 fun e w'' he => ?_
        obtain ⟨v', rfl, rfl, h2⟩ := he
        exact h _ h2
      case row row args => exact Rows.mono h1 fun u w'' he => by obtain ⟨rfl, h2⟩ := he; exact h _ h2
    | halt x w' => cases x <;> simp only [givesUpon] at h1
  · simp only [hw, Bool.false_eq_true, if_false]; exact h _ (Ext.refl _)

/-- Whatever order is picked from here on; between two operations the world may grow. 'cov i': operation i waits for all quiet ones. -/
def SAnyI (P : Program) (ops : Array Oper) (cov : Array Bool) (I : World → Prop) (Q : Act → World → Prop) : Nat → Array Bool → Act → World → Prop
  | 0, listed, a, w => Region.ready .any ops listed = [] ∧ Q a w
  | n + 1, listed, a, w => (Region.ready .any ops listed = [] → Q a w) ∧
      ∀ i ∈ Region.ready .any ops listed, wpOp P ops QF i (fun a' w' => (cov.getD i false = false → I w → I w') ∧ ∀ w'', Ext w' w'' → SAnyI P ops cov I Q n (listed.setIfInBounds i true) a' w'') a w

theorem wpAny_of_SAnyI {cov : Array Bool} {I : World → Prop} {Q : Act → World → Prop} {Q' : Exit → Act → World → Prop} (hQ : ∀ a w, Q a w → Q' .normal a w) :
    ∀ (n : Nat) (listed : Array Bool) (a : Act) (w : World), SAnyI P ops cov I Q n listed a w → wpAny P .any ops Q' n listed a w
  | 0, _, _, _, h => ⟨h.1, hQ _ _ h.2⟩
  | n + 1, _, _, _, h => ⟨fun h0 => hQ _ _ (h.1 h0), fun i hi => wpOp_of_QF (wpOp_mono (fun _ w' h2 => wpAny_of_SAnyI hQ n _ _ w' (h2.2 w' (Ext.refl _))) (h.2 i hi))⟩

theorem SAnyI_first {cov : Array Bool} {Q : Act → World → Prop} {I : World → Prop} (hU : Up I) {i : Nat} {oi : Oper} {v : Value} (hi : ops[i]? = some oi) (hsel : ∀ (j : Nat) (o : Oper) cs b, ops[j]? = some o → o.op ≠ .select cs b)
    (hcov : covFor ops cov i = true) :
    ∀ (n : Nat) (listed : Array Bool) (a : Act) (w0 : World), I w0 → Down ops listed →
      (∀ j oj, ops[j]? = some oj → j ≠ i → listed.getD j true = false → (∀ e ∈ oj.after, Region.binds .any e = true → e.on ≠ i) → oi.apart ops oj = true) →
      i ∈ Region.ready .any ops listed → YGI P ops I oi v a →
      (∀ w, Ext w0 w → SAnyI P ops cov I Q n (listed.setIfInBounds i true) (a.put oi.dst v) w) → ∀ w, Ext w0 w → SAnyI P ops cov I Q (n + 1) listed a w := by
  intro n
  induction n with
  | zero =>
    intro listed a w0 hW hd _ hr hy H w hw
    refine ⟨fun h => (by rw [h] at hr; cases hr), fun j hj => ?_⟩
    by_cases hji : j = i
    · subst hji
      exact hy.wpOp hi (hU _ _ hW hw) fun w' hw' => ⟨fun _ hI => hU _ _ hI hw', fun w'' hw'' => H _ ((hw.trans hw').trans hw'')⟩
    · have := ready_mono hj hji
      rw [(H w hw).1] at this
      cases this
  | succ n ih =>
    intro listed a w0 hW hd hfree hr hy H w hw
    refine ⟨fun h => (by rw [h] at hr; cases hr), fun j hj => ?_⟩
    by_cases hji : j = i
    · subst hji
      exact hy.wpOp hi (hU _ _ hW hw) fun w' hw' => ⟨fun _ hI => hU _ _ hI hw', fun w'' hw'' => H _ ((hw.trans hw').trans hw'')⟩
    · have h1 := (H w hw).2 j (ready_mono hj hji)
      obtain ⟨hjun, oj, hoj, hall⟩ := mem_ready.1 hj
      have hiun : listed.getD i false = false := by
        have h0 := (mem_ready.1 hr).1
        rcases Nat.lt_or_ge i listed.size with h' | h'
        · simp [h'] at h0 ⊢; exact h0
        · simp [Array.getElem?_eq_none h'] at h0
      have hnot : ∀ e ∈ oj.after, Region.binds .any e = true → e.on ≠ i := fun e he hb heq => by
        have h1 := hall e he hb
        rw [heq, hiun] at h1
        cases h1
      have hap := hfree j oj hoj hji hjun hnot
      obtain ⟨_, _, h3⟩ := Oper.apart_spec hap
      have h2 := wpOp_put2 (S := YGI P ops I oi v) hoj hap (fun cs b => hsel j oj cs b hoj)
        (fun a u hS => hS.of_same (execOp_put oi (fun cs b => hsel i oi cs b hi) a oj.dst u h3) (wanted_put oi a oj.dst u h3)) (fun a d hS => hS.of_same rfl rfl) hy h1
      have hfree' : ∀ k ok, ops[k]? = some ok → k ≠ i → (listed.setIfInBounds j true).getD k true = false →
          (∀ e ∈ ok.after, Region.binds .any e = true → e.on ≠ i) → oi.apart ops ok = true := fun k ok hk hki hun hno => by
        refine hfree k ok hk hki ?_ hno
        by_cases hjk : j = k
        · subst hjk; exact hjun
        · rw [getD_set_ne true hjk] at hun; exact hun
      have hc := covFor_spec hcov hd hj hiun
      refine wpOp_mono (fun a' w' h3 => ?_) h2
      obtain ⟨hS, hcv, hrest⟩ := h3
      have hww := hcv hc (hU _ _ hW hw)
      refine ⟨fun _ _ => hww, fun w'' hw'' => ih (listed.setIfInBounds j true) a' w' hww (hd.set hj) hfree' (ready_mono hr (Ne.symm hji)) hS ?_ w'' hw''⟩
      intro w2 hw2
      rw [Array.setIfInBounds_comm _ _ hji]
      exact hrest w2 hw2

/-- The walk of the quiet operations, by their numbers. -/
def wpGI (P : Program) (ops : Array Oper) (I : World → Prop) (Q : Act → Prop) : List Nat → Act → Prop
  | [], a => Q a
  | i :: rest, a => match ops[i]? with
    | none => False
    | some o => if Region.wanted o (yielded ops a.tmps) then ∃ v, GQI P o a I v ∧ wpGI P ops I Q rest (a.put o.dst v) else wpGI P ops I Q rest (a.put o.dst undef)

theorem wpGI_nil {I : World → Prop} {Q : Act → Prop} {a : Act} (h : Q a) : wpGI P ops I Q [] a := h
theorem wpGI_step {I : World → Prop} {Q : Act → Prop} {a : Act} {i : Nat} {rest : List Nat} {o : Oper} {v : Value} (ho : ops[i]? = some o) (hw : Region.wanted o (yielded ops a.tmps) = true) (h : GQI P o a I v)
    (hn : wpGI P ops I Q rest (a.put o.dst v)) : wpGI P ops I Q (i :: rest) a := by
  unfold wpGI
  simp only [ho, hw, if_true]
  exact ⟨v, h, hn⟩
theorem wpGI_skip {I : World → Prop} {Q : Act → Prop} {a : Act} {i : Nat} {rest : List Nat} {o : Oper} {d : Tmp} (ho : ops[i]? = some o) (hw : Region.wanted o (yielded ops a.tmps) = false) (hd : o.dst = some d)
    (hn : wpGI P ops I Q rest (a.put (some d) undef)) : wpGI P ops I Q (i :: rest) a := by
  unfold wpGI
  simp only [ho, hw, Bool.false_eq_true, if_false]
  rw [hd]; exact hn

theorem SAnyI_lex {cov : Array Bool} {Q : Act → World → Prop} {I : World → Prop} (hU : Up I) (hs : Region.noSelect ops = true) (n : Nat) : ∀ (l : List Nat) (listed : Array Bool) (a : Act), lexOk ops cov l listed = true → Down ops listed →
    wpGI P ops I (fun a' => ∀ w, I w → SAnyI P ops cov I Q n (listedBy l listed) a' w) l a → ∀ w, I w → SAnyI P ops cov I Q (n + l.length) listed a w
  | [], _, _, _, _, h => h
  | i :: l, listed, a, hB, hd, h => by
    intro w hw0
    simp only [lexOk, Bool.and_eq_true] at hB
    obtain ⟨⟨⟨hr, hf⟩, hc⟩, hB'⟩ := hB
    have hr' : i ∈ Region.ready .any ops listed := by simpa using hr
    unfold wpGI at h
    cases ho : ops[i]? with
    | none => simp only [ho] at h
    | some o =>
      simp only [ho] at h
      by_cases hw : Region.wanted o (yielded ops a.tmps) = true
      · simp only [hw, if_true] at h
        obtain ⟨v, hv, hK⟩ := h
        exact SAnyI_first hU ho (Region.noSelect_spec hs) hc (n + l.length) listed a w hw0 hd (Region.free_spec ho hf) hr' (.inl ⟨hw, hv⟩) (fun w' hw' => SAnyI_lex hU hs n l _ _ hB' (hd.set hr') hK w' (hU _ _ hw0 hw')) w (Ext.refl _)
      · simp only [hw] at h
        exact SAnyI_first hU ho (Region.noSelect_spec hs) hc (n + l.length) listed a w hw0 hd (Region.free_spec ho hf) hr' (.inr ⟨by simpa using hw, rfl⟩) (fun w' hw' => SAnyI_lex hU hs n l _ _ hB' (hd.set hr') h w' (hU _ _ hw0 hw')) w (Ext.refl _)


theorem wpI_mixed {id : Nat} {I : World → Prop} (hU : Up I) {Q : Exit → Act → World → Prop} {a : Act} {w : World} (hI : I w) (l : List Nat) (n : Nat) (cov : Array Bool) (hm : P.follows .mixedOrders = true)
    (hB : (Region.noSelect ops && (n + l.length == ops.size) && lexOk ops cov l (Array.replicate ops.size false)) = true)
    (h : wpGI P ops I (fun a' => ∀ w', I w' → SAnyI P ops cov I (Q .normal) n (listedBy l (Array.replicate ops.size false)) a' w') l a) : (Code.region id ops true).wp P Q a w := by
  simp only [Bool.and_eq_true, beq_iff_eq] at hB
  obtain ⟨⟨hs, hn⟩, hl⟩ := hB
  refine wp_region_any hm (wpAny_of_SAnyI (Q := Q .normal) (I := I) (cov := cov) (fun _ _ h => h) _ _ _ _ ?_)
  rw [← hn]
  have := SAnyI_lex (P := P) (Q := Q .normal) hU hs n l (Array.replicate ops.size false) a hl (Down.none _) h w.drew (hU _ _ hI (Ext.refl w).drew)
  simpa [hn] using this
theorem wpAnyIn_of_SAnyI {l m : Nat} {cov : Array Bool} {I : World → Prop} {Q : Act → World → Prop} {Q' : Exit → Act → World → Prop} (hd : noDefer ops = true) (hQ : ∀ a w, Q a w → Q' .normal a w) :
    ∀ (n : Nat) (listed : Array Bool) (a : Act) (w : World), SAnyI P ops cov I Q n listed a w → wpAnyIn (Fence.wide.inRound l) m P .any ops Q' n listed a w
  | 0, _, _, _, h => ⟨h.1, hQ _ _ h.2⟩
  | n + 1, _, _, _, h => ⟨fun h0 => hQ _ _ (h.1 h0), fun i hi => wpOpIn_mono (fun _ w' h2 => wpAnyIn_of_SAnyI hd hQ n _ _ w' (h2.2 w' (Ext.refl _))) (wpOpIn_of hd (h.2 i hi))⟩
theorem wpInI_mixed {r m id : Nat} {I : World → Prop} (hU : Up I) {Q : Exit → Act → World → Prop} {a : Act} {w : World} (hI : I w) (l : List Nat) (n : Nat) (cov : Array Bool) (hm : P.follows .mixedOrders = true)
    (hB : (Region.noSelect ops && (n + l.length == ops.size) && lexOk ops cov l (Array.replicate ops.size false) && noDefer ops) = true)
    (h : wpGI P ops I (fun a' => ∀ w', I w' → SAnyI P ops cov I (Q .normal) n (listedBy l (Array.replicate ops.size false)) a' w') l a) : (Code.region id ops true).wpIn (Fence.wide.inRound r) m P Q a w := by
  simp only [Bool.and_eq_true, beq_iff_eq] at hB
  obtain ⟨⟨⟨hs, hn⟩, hl⟩, hd⟩ := hB
  refine wpIn_region_any hm (wpAnyIn_of_SAnyI (Q := Q .normal) (I := I) (cov := cov) hd (fun _ _ h => h) _ _ _ _ ?_)
  rw [← hn]
  have := SAnyI_lex (P := P) (Q := Q .normal) hU hs n l (Array.replicate ops.size false) a hl (Down.none _) h w.drew (hU _ _ hI (Ext.refl w).drew)
  simpa [hn] using this
theorem wpGI_mono {I : World → Prop} {Q1 Q2 : Act → Prop} (hq : ∀ a, Q1 a → Q2 a) : ∀ (l : List Nat) (a : Act), wpGI P ops I Q1 l a → wpGI P ops I Q2 l a
  | [], a, h => hq a h
  | i :: r, a, h => by
    unfold wpGI at *
    cases ho : ops[i]? with
    | none => simp only [ho] at h
    | some o =>
      simp only [ho] at h ⊢
      by_cases hw : Region.wanted o (yielded ops a.tmps) = true
      · simp only [hw, if_true] at h ⊢
        obtain ⟨v, h1, h2⟩ := h
        exact ⟨v, h1, wpGI_mono hq r _ h2⟩
      · simp only [hw] at h ⊢
        exact wpGI_mono hq r _ h
theorem SAnyI_done {cov : Array Bool} {I : World → Prop} {Q : Act → World → Prop} {n : Nat} {listed : Array Bool} {a : Act} {w : World} (hr : Region.ready .any ops listed = []) (h : Q a w) : SAnyI P ops cov I Q n listed a w := by
  match n with
  | 0 => exact ⟨hr, h⟩
  | n + 1 => exact ⟨fun _ => h, fun i hi => by rw [hr] at hi; cases hi⟩
/-- One operation is left that may come next. -/
theorem SAnyI_one {cov : Array Bool} {I : World → Prop} {Q : Act → World → Prop} {n i : Nat} {listed listed' : Array Bool} {a : Act} {w : World} {o : Oper} {c : Bool} (hr : Region.ready .any ops listed = [i]) (ho : ops[i]? = some o)
    (hw : Region.wanted o (yielded ops a.tmps) = true) (hc : cov.getD i false = c) (hl : listed.setIfInBounds i true = listed')
    (h : ∀ K : Act → World → Prop, (∀ a' w', (c = false → I w → I w') → (∀ w'', Ext w' w'' → SAnyI P ops cov I Q n listed' a' w'') → K a' w') → o.wp P a w K QF) : SAnyI P ops cov I Q (n + 1) listed a w := by
  subst hl hc
  refine ⟨fun h0 => (by rw [hr] at h0; cases h0), fun j hj => ?_⟩
  rw [hr] at hj
  obtain rfl : j = i := by simpa using hj
  unfold wpOp
  simp only [ho, hw, if_true]
  exact .inl (h _ fun a' w' h1 h2 => ⟨h1, h2⟩)
/-- Several may come next. -/
theorem SAnyI_more {cov : Array Bool} {I : World → Prop} {Q : Act → World → Prop} {n : Nat} {rs : List Nat} {listed : Array Bool} {a : Act} {w : World} (hr : Region.ready .any ops listed = rs) (hne : rs ≠ [])
    (h : ∀ i ∈ rs, ∃ o, ops[i]? = some o ∧ Region.wanted o (yielded ops a.tmps) = true ∧ ∀ K : Act → World → Prop, (∀ a' w', (cov.getD i false = false → I w → I w') → (∀ w'', Ext w' w'' → SAnyI P ops cov I Q n (listed.setIfInBounds i true) a' w'') → K a' w') → o.wp P a w K QF) :
    SAnyI P ops cov I Q (n + 1) listed a w := by
  refine ⟨fun h0 => by rw [hr] at h0; exact absurd h0 hne, fun j hj => ?_⟩
  rw [hr] at hj
  obtain ⟨o, ho, hw, hk⟩ := h j hj
  unfold wpOp
  simp only [ho, hw, if_true]
  exact .inl (hk _ fun a' w' h1 h2 => ⟨h1, h2⟩)
end
section
variable {P : Program} {ops : Array Oper}
theorem SAnyI_monoQ {cov : Array Bool} {I : World → Prop} {Q Q' : Act → World → Prop} (hq : ∀ a w, Q a w → Q' a w) : ∀ (n : Nat) (listed : Array Bool) (a : Act) (w : World), SAnyI P ops cov I Q n listed a w → SAnyI P ops cov I Q' n listed a w
  | 0, _, _, _, h => ⟨h.1, hq _ _ h.2⟩
  | n + 1, _, _, _, h => ⟨fun h0 => hq _ _ (h.1 h0), fun i hi => wpOp_mono (fun a' w' h2 => ⟨h2.1, fun w'' hw'' => SAnyI_monoQ hq n _ _ _ (h2.2 w'' hw'')⟩) (h.2 i hi)⟩
end
end Go.Proofs.Ytmlmgipngbndgaa
