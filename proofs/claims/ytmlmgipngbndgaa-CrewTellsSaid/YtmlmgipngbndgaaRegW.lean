/- A region that draws its order, outside of all rounds: what is behind the quiet operations is walked by hand (it may hand the control over to a round). -/
import Derived.Test.YtmlmgipngbndgaaSeqV
namespace Go.Proofs.Ytmlmgipngbndgaa
set_option linter.unusedVariables false
set_option linter.unusedSimpArgs false
open Go.RowKit

section
variable {P : Program} {ops : Array Oper} {n : Nat} {o : Oper} {a : Act} {w : World} {K : Act → World → Prop} {Q : Exit → Act → World → Prop} {I : World → Prop} {cov : Array Bool}
theorem wpInW_of_wp (h : o.wp P a w K QF) : o.wpIn Fence.wide n P a w K Q := by
  unfold Oper.wpIn
  refine ⟨fun _ _ => trivial, ?_⟩
  have hr : Fence.wide.round = none := rfl
  rw [hr, Oper.semAt_none]
  unfold Oper.wp at h
  generalize (execOp a.eval o).run P w = r at *
  cases r with
  | ok nx w' =>
    cases nx <;> simp only [Oper.upon] at h <;> simp only [Oper.uponIn]
    case value u => exact h
    case skip => exact h
    case defer d => exact h
    case enter f args =>
      refine ⟨fun h0 => by simp [Fence.wide] at h0, callsIn_wide.2 (Calls.mono h fun e w'' he => ?_)⟩
      cases e with
      | returned u => exact he
      | panicked c => exact he.elim
      | outgrown => obtain ⟨_, _, h⟩ := he; exact h.elim
    case row row args => exact ⟨fun h0 => by simp [Fence.wide] at h0, rowsIn_of h⟩
  | halt x w' => cases x <;> simp only [Oper.upon] at h <;> exact h.elim
theorem wpOpInW_of {i : Nat} (hh : wpOp P ops QF i K a w) : wpOpIn Fence.wide n P ops Q i K a w := by
  unfold wpOp at hh
  unfold wpOpIn
  split
  · rename_i ho; simp only [ho] at hh; exact hh
  · rename_i o ho
    simp only [ho] at hh
    split
    · rename_i hw
      simp only [hw, if_true] at hh
      rcases hh with h | ⟨_, _, _, h⟩
      · exact wpInW_of_wp h
      · exact h.elim
    · rename_i hw; simp only [hw] at hh; exact ⟨fun _ _ => trivial, hh⟩

/-- As SAnyI; what 'cov' marks is walked by hand. -/
def SInI (P : Program) (ops : Array Oper) (cov : Array Bool) (I : World → Prop) (m : Nat) (Q : Exit → Act → World → Prop) : Nat → Array Bool → Act → World → Prop
  | 0, listed, a, w => Region.ready .any ops listed = [] ∧ Q .normal a w
  | n + 1, listed, a, w => (Region.ready .any ops listed = [] → Q .normal a w) ∧
      ∀ i ∈ Region.ready .any ops listed, (cov.getD i false = true → wpOpIn Fence.wide m P ops Q i (wpAnyIn Fence.wide m P .any ops Q n (listed.setIfInBounds i true)) a w) ∧
        (cov.getD i false = false → wpOp P ops QF i (fun a' w' => (I w → I w') ∧ ∀ w'', Ext w' w'' → SInI P ops cov I m Q n (listed.setIfInBounds i true) a' w'') a w)

theorem wpAnyIn_of_SInI : ∀ (k : Nat) (listed : Array Bool) (a : Act) (w : World), SInI P ops cov I n Q k listed a w → wpAnyIn Fence.wide n P .any ops Q k listed a w
  | 0, _, _, _, h => h
  | k + 1, _, _, _, h => ⟨h.1, fun i hi => by
      cases hc : cov.getD i false with
      | true => exact (h.2 i hi).1 hc
      | false => exact wpOpIn_mono (fun _ w' h2 => wpAnyIn_of_SInI k _ _ w' (h2.2 w' (Ext.refl _))) (wpOpInW_of ((h.2 i hi).2 hc))⟩

theorem SInI_first (hU : Up I) {i : Nat} {oi : Oper} {v : Value} (hi : ops[i]? = some oi) (hsel : ∀ (j : Nat) (o : Oper) cs b, ops[j]? = some o → o.op ≠ .select cs b)
    (hcov : covFor ops cov i = true) :
    ∀ (k : Nat) (listed : Array Bool) (a : Act) (w0 : World), I w0 → Down ops listed →
      (∀ j oj, ops[j]? = some oj → j ≠ i → listed.getD j true = false → (∀ e ∈ oj.after, Region.binds .any e = true → e.on ≠ i) → oi.apart ops oj = true) →
      i ∈ Region.ready .any ops listed → YGI P ops I oi v a →
      (∀ w, Ext w0 w → SInI P ops cov I n Q k (listed.setIfInBounds i true) (a.put oi.dst v) w) → ∀ w, Ext w0 w → SInI P ops cov I n Q (k + 1) listed a w := by
  intro k
  have ci : ∀ {listed : Array Bool}, Down ops listed → i ∈ Region.ready .any ops listed → cov.getD i false = false := fun {listed} hd hr => by
    refine covFor_spec hcov hd hr ?_
    have h0 := (mem_ready.1 hr).1
    rcases Nat.lt_or_ge i listed.size with h' | h'
    · simp [h'] at h0 ⊢; exact h0
    · simp [Array.getElem?_eq_none h'] at h0
  induction k with
  | zero =>
    intro listed a w0 hW hd _ hr hy H w hw
    refine ⟨fun h => (by rw [h] at hr; cases hr), fun j hj => ?_⟩
    by_cases hji : j = i
    · subst hji
      refine ⟨fun hc => (by rw [ci hd hr] at hc; cases hc), fun _ => hy.wpOp hi (hU _ _ hW hw) fun w' hw' => ⟨fun hI => hU _ _ hI hw', fun w'' hw'' => H _ ((hw.trans hw').trans hw'')⟩⟩
    · have := ready_mono hj hji
      rw [(H w hw).1] at this
      cases this
  | succ k ih =>
    intro listed a w0 hW hd hfree hr hy H w hw
    refine ⟨fun h => (by rw [h] at hr; cases hr), fun j hj => ?_⟩
    by_cases hji : j = i
    · subst hji
      refine ⟨fun hc => (by rw [ci hd hr] at hc; cases hc), fun _ => hy.wpOp hi (hU _ _ hW hw) fun w' hw' => ⟨fun hI => hU _ _ hI hw', fun w'' hw'' => H _ ((hw.trans hw').trans hw'')⟩⟩
    · obtain ⟨hjun, oj, hoj, hall⟩ := mem_ready.1 hj
      have hiun : listed.getD i false = false := by
        have h0 := (mem_ready.1 hr).1
        rcases Nat.lt_or_ge i listed.size with h' | h'
        · simp [h'] at h0 ⊢; exact h0
        · simp [Array.getElem?_eq_none h'] at h0
      have hnot : ∀ e ∈ oj.after, Region.binds .any e = true → e.on ≠ i := fun e he hb heq => by
        have h1 := hall e he hb
        rw [heq, hiun] at h1
        cases h1
      have hc := covFor_spec hcov hd hj hiun
      have h1 := ((H w hw).2 j (ready_mono hj hji)).2 hc
      have hap := hfree j oj hoj hji hjun hnot
      obtain ⟨_, _, h3⟩ := Oper.apart_spec hap
      have h2 := wpOp_put2 (S := YGI P ops I oi v) hoj hap (fun cs b => hsel j oj cs b hoj)
        (fun a u hS => hS.of_same (execOp_put oi (fun cs b => hsel i oi cs b hi) a oj.dst u h3) (wanted_put oi a oj.dst u h3)) (fun a d hS => hS.of_same rfl rfl) hy h1
      have hfree' : ∀ k ok, ops[k]? = some ok → k ≠ i → (listed.setIfInBounds j true).getD k true = false →
          (∀ e ∈ ok.after, Region.binds .any e = true → e.on ≠ i) → oi.apart ops ok = true := fun k ok hk hki hun hno => by
        refine hfree k ok hk hki ?_ hno
        by_cases hjk : j = k
        · subst hjk; exact hjun
        · rw [getD_set_ne true hjk] at hun; exact hun
      refine ⟨fun hc' => (by rw [hc] at hc'; cases hc'), fun _ => wpOp_mono (fun a' w' h3 => ?_) h2⟩
      obtain ⟨hS, hcv, hrest⟩ := h3
      have hww := hcv (hU _ _ hW hw)
      refine ⟨fun _ => hww, fun w'' hw'' => ih (listed.setIfInBounds j true) a' w' hww (hd.set hj) hfree' (ready_mono hr (Ne.symm hji)) hS ?_ w'' hw''⟩
      intro w2 hw2
      rw [Array.setIfInBounds_comm _ _ hji]
      exact hrest w2 hw2

theorem SInI_lex (hU : Up I) (hs : Region.noSelect ops = true) (k : Nat) : ∀ (l : List Nat) (listed : Array Bool) (a : Act), lexOk ops cov l listed = true → Down ops listed →
    wpGI P ops I (fun a' => ∀ w, I w → SInI P ops cov I n Q k (listedBy l listed) a' w) l a → ∀ w, I w → SInI P ops cov I n Q (k + l.length) listed a w
  | [], _, _, _, _, h => h
  | i :: l, listed, a, hB, hd, h => by
    intro w hw0
    simp only [lexOk, Bool.and_eq_true] at hB
    obtain ⟨⟨⟨hr, hf⟩, hc⟩, hB'⟩ := hB
    have hr' : i ∈ Region.ready .any ops listed := by simpa using hr
    unfold wpGI at h
    cases ho : ops[i]? with
    | none => simp only [ho] at h
    | some o =>
      simp only [ho] at h
      by_cases hw : Region.wanted o (yielded ops a.tmps) = true
      · simp only [hw, if_true] at h
        obtain ⟨v, hv, hK⟩ := h
        exact SInI_first hU ho (Region.noSelect_spec hs) hc (k + l.length) listed a w hw0 hd (Region.free_spec ho hf) hr' (.inl ⟨hw, hv⟩) (fun w' hw' => SInI_lex hU hs k l _ _ hB' (hd.set hr') hK w' (hU _ _ hw0 hw')) w (Ext.refl _)
      · simp only [hw] at h
        exact SInI_first hU ho (Region.noSelect_spec hs) hc (k + l.length) listed a w hw0 hd (Region.free_spec ho hf) hr' (.inr ⟨by simpa using hw, rfl⟩) (fun w' hw' => SInI_lex hU hs k l _ _ hB' (hd.set hr') h w' (hU _ _ hw0 hw')) w (Ext.refl _)

theorem wpInW_mixed {id : Nat} (hU : Up I) (hI : I w) (l : List Nat) (k : Nat) (hm : P.follows .mixedOrders = true)
    (hB : (Region.noSelect ops && (k + l.length == ops.size) && lexOk ops cov l (Array.replicate ops.size false)) = true)
    (h : wpGI P ops I (fun a' => ∀ w', I w' → SInI P ops cov I n Q k (listedBy l (Array.replicate ops.size false)) a' w') l a) : (Code.region id ops true).wpIn Fence.wide n P Q a w := by
  simp only [Bool.and_eq_true, beq_iff_eq] at hB
  obtain ⟨⟨hs, hn⟩, hl⟩ := hB
  refine wpIn_region_any hm (wpAnyIn_of_SInI (I := I) (cov := cov) _ _ _ _ ?_)
  rw [← hn]
  have := SInI_lex (P := P) (Q := Q) (n := n) hU hs k l (Array.replicate ops.size false) a hl (Down.none _) h w.drew (hU _ _ hI (Ext.refl w).drew)
  simpa [hn] using this

/-- One operation is left that may come next. -/
theorem SInI_one {k i : Nat} {listed : Array Bool} (hr : Region.ready .any ops listed = [i]) (hc : cov.getD i false = true)
    (h : wpOpIn Fence.wide n P ops Q i (wpAnyIn Fence.wide n P .any ops Q k (listed.setIfInBounds i true)) a w) : SInI P ops cov I n Q (k + 1) listed a w :=
  ⟨fun h0 => (by rw [hr] at h0; cases h0), fun j hj => by
    rw [hr] at hj
    obtain rfl : j = i := by simpa using hj
    exact ⟨fun _ => h, fun hc' => (by rw [hc] at hc'; cases hc')⟩⟩
theorem wpAnyIn_one {k i : Nat} {listed : Array Bool} (hr : Region.ready .any ops listed = [i]) (h : wpOpIn Fence.wide n P ops Q i (wpAnyIn Fence.wide n P .any ops Q k (listed.setIfInBounds i true)) a w) : wpAnyIn Fence.wide n P .any ops Q (k + 1) listed a w :=
  ⟨fun h0 => (by rw [hr] at h0; cases h0), fun j hj => by
    rw [hr] at hj
    obtain rfl : j = i := by simpa using hj
    exact h⟩
theorem wpOpIn_on {i : Nat} (ho : ops[i]? = some o) (hw : Region.wanted o (yielded ops a.tmps) = true) (h : o.wpIn Fence.wide n P a w K Q) : wpOpIn Fence.wide n P ops Q i K a w := by
  unfold wpOpIn; simp only [ho, hw, if_true]; exact h
theorem wpOpIn_off {i : Nat} (ho : ops[i]? = some o) (hw : Region.wanted o (yielded ops a.tmps) = false) (h : K (a.put o.dst undef) w) : wpOpIn Fence.wide n P ops Q i K a w := by
  unfold wpOpIn; simp only [ho, hw]; exact ⟨fun _ _ => trivial, h⟩
/-- A call of yield. -/
theorem wpIn_yield {l : Nat} {args : Array Value} {R : Ending → World → Prop} (hrun : (execOp a.eval o).run P w = (Instr.yield l args).run P w) (h : YieldAt Fence.wide (n - 1) P l args w R)
    (hK : ∀ e w', R e w' → ∃ v, e = .returned v ∧ K (a.put o.dst v) w') : o.wpIn Fence.wide n P a w K Q := by
  obtain ⟨fn, tmps, assign, body, hy, hR⟩ := h
  unfold Oper.wpIn
  refine ⟨fun _ _ => trivial, ?_⟩
  have hr : Fence.wide.round = none := rfl
  rw [hr, Oper.semAt_none, hrun, hy, Oper.uponIn_round]
  refine ⟨fun h0 => by simp [Fence.wide] at h0, RoundIn.mono hR fun e w' he => ?_⟩
  obtain ⟨v, rfl, h2⟩ := hK e w' he
  exact h2
theorem chain_of_wpGI {R : Act → Prop} (hU : Up I) : ∀ (l : List Nat) (a : Act) (w : World), I w → wpGI P ops I R l a → chain P ops (fun a' w' => R a' ∧ I w') l a w
  | [], a, w, hI, h => ⟨h, hI⟩
  | i :: l, a, w, hI, h => by
    unfold wpGI at h
    unfold chain
    cases ho : ops[i]? with
    | none => simp only [ho] at h
    | some o =>
      simp only [ho] at h ⊢
      by_cases hw : Region.wanted o (yielded ops a.tmps) = true
      · simp only [hw, if_true] at h ⊢
        obtain ⟨v, hv, hK⟩ := h
        refine givesUpon_wp (hv w hI) fun u w' ⟨hu, hx⟩ => ?_
        subst hu
        exact chain_of_wpGI hU l _ w' (hU _ _ hI hx) hK
      · simp only [hw] at h ⊢
        exact chain_of_wpGI hU l _ w hI h
end
section
variable {c : Cx} {Q : Exit → Act → World → Prop} {F : Fr} {H : Hp} {D : List Nat} {a : Act} {w : World} {n : Nat}
/-- Quiet operations in the text's order. -/
theorem g_region {id : Nat} {l : List Oper} {R : Fr → Prop} (ha : Frm D c.N F a) (hw : Has c.w0 ⟨c.M, D⟩ H w) (h : GX c ⟨l⟩ l R F H) (k : ∀ F' a' w', R F' → Frm D c.N F' a' → Has c.w0 ⟨c.M, D⟩ H w' → Q .normal a' w') :
    (Code.region id ⟨l⟩ false).wpIn Fence.wide n c.P Q a w := by
  refine wpIn_wide.2 (wp_region (wpOps_of_chain (R := fun a' w' => (∃ F', R F' ∧ Frm D c.N F' a') ∧ Has c.w0 ⟨c.M, D⟩ H w') (fun a' w' h => ?_) _ _ _ (chain_of_wpGI (Has.up (M := ⟨c.M, D⟩)) _ _ _ hw ?_)))
  · obtain ⟨⟨F', h1, h2⟩, h3⟩ := h
    exact k F' a' w' h1 h2 h3
  · have := h _ (range_map l) D a ha
    rwa [← List.range_eq_range'] at this
/-- Quiet operations of a region that draws its order; what is left is walked by hand. -/
theorem g_mixIn {id : Nat} {l ql : List Oper} {R : Fr → Prop} (q : List Nat) (k : Nat) (cov : Array Bool) (hm : c.P.follows .mixedOrders = true) (hB : (Region.noSelect ⟨l⟩ && (k + q.length == (Array.mk l).size) && lexOk ⟨l⟩ cov q (Array.replicate (Array.mk l).size false)) = true) (hq : pickOps l q = some ql)
    (ha : Frm D c.N F a) (hw : Has c.w0 ⟨c.M, D⟩ H w) (h : GX c ⟨l⟩ ql R F H)
    (kk : ∀ F' a' w', R F' → Frm D c.N F' a' → Has c.w0 ⟨c.M, D⟩ H w' → SInI c.P ⟨l⟩ cov (Has c.w0 ⟨c.M, D⟩ H) n Q k (listedBy q (Array.replicate (Array.mk l).size false)) a' w') :
    (Code.region id ⟨l⟩ true).wpIn Fence.wide n c.P Q a w := by
  refine wpInW_mixed (Has.up (M := ⟨c.M, D⟩)) hw q k hm hB (wpGI_mono (fun a' ⟨F', h1, h2⟩ w' hw' => ?_) q a (h q (pickOps_spec hq) D a ha))
  exact kk F' a' w' h1 h2 hw'
/-- A quiet operation, by hand. -/
theorem wpIn_oq {o : Oper} {d : Nat} {v : Value} {K : Act → World → Prop} (ha : Frm D c.N F a) (hw : Has c.w0 ⟨c.M, D⟩ H w) (hd : o.dst = some d) (hN : Nat.blt d c.N = true) (h : OQ c o F H v)
    (k : ∀ a' w', Frm D c.N ((d, v) :: F) a' → Has c.w0 ⟨c.M, D⟩ H w' → K a' w') : o.wpIn Fence.wide n c.P a w K Q :=
  wpInW_of_wp (givesUpon_wp (h D a w ha hw) fun u w' ⟨hu, hx⟩ => by
    subst hu
    rw [hd]
    exact k _ _ (ha.put hN _) (hw.grow hx))
end
end Go.Proofs.Ytmlmgipngbndgaa
