/- A statement whose order is open: one walk of its quiet operations in the text's order, in every world that has grown; then the few operations that make or write memory, in each order that is left. -/
import Derived.Test.YtmlmgipngbndgaaBase
import Derived.Orders
import Derived.Still
namespace Go.Proofs.Ytmlmgipngbndgaa
set_option linter.unusedVariables false
set_option linter.unusedSimpArgs false
open Go.RowKit

def QF : Exit → Act → World → Prop := fun _ _ _ => False

section
variable {P : Program} {ops : Array Oper}

theorem wp_of_QF {o : Oper} {a : Act} {w : World} {K : Act → World → Prop} {Q : Exit → Act → World → Prop} (hh : o.wp P a w K QF) : o.wp P a w K Q := by
  unfold Oper.wp at *
  generalize (execOp a.eval o).run P w = r at *
  cases r with
  | ok n w' =>
    cases n <;> simp only [Oper.upon] at hh ⊢ <;>
      first
        | exact hh
        | exact Calls.mono hh (fun e w'' he => by cases e <;> first | exact he | exact he.elim | exact (he.elim fun _ h => h.elim fun _ h => h.elim))
  | halt x w' => cases x <;> simp only [Oper.upon] at hh ⊢ <;> first | exact hh | exact hh.elim

theorem wpOp_of_QF {i : Nat} {a : Act} {w : World} {K : Act → World → Prop} {Q : Exit → Act → World → Prop} (hh : wpOp P ops QF i K a w) : wpOp P ops Q i K a w := by
  unfold wpOp at *
  split
  · rename_i ho; simp only [ho] at hh; exact hh
  · rename_i o ho
    simp only [ho] at hh
    split
    · rename_i hw
      simp only [hw, if_true] at hh
      rcases hh with h | ⟨_, _, _, h⟩
      · exact .inl (wp_of_QF h)
      · exact h.elim
    · rename_i hw; simp only [hw] at hh; exact hh

/-- What an operation gives. -/
def givesUpon (P : Program) (K : Value → World → Prop) : Result Next → Prop
  | .ok (.value u) w' => K u w'
  | .ok .skip w' => K undef w'
  | .ok (.enter f args) w' => Calls P f args w' fun e w'' => ∃ v, e = .returned v ∧ K v w''
  | .ok (.row row args) w' => Rows P row args w' K
  | _ => False

/-- In every world from W on the operation yields v, and the world grows. -/
def GQ (P : Program) (o : Oper) (a : Act) (W : World) (v : Value) : Prop := ∀ w, Ext W w → givesUpon P (fun u w' => u = v ∧ Ext w w') ((execOp a.eval o).run P w)

theorem GQ.of_wp {o : Oper} {a : Act} {W : World} {v : Value} {d : Tmp} (hd : o.dst = some d)
    (h : ∀ w (K : Act → World → Prop), Ext W w → (∀ a' w', a'.tmps[d]? = some v → a'.defers = a.defers → Ext w w' → K a' w') → o.wp P a w K QF) : GQ P o a W v := by
  intro w hw
  have h1 := h w (fun a' w' => a'.tmps[d]? = some v ∧ a'.defers = a.defers ∧ Ext w w') hw (fun a' w' h1 h2 h3 => ⟨h1, h2, h3⟩)
  unfold Oper.wp at h1
  have put_eq : ∀ (b : Act) (u : Value), (b.put o.dst u).tmps[d]? = some v → u = v := by
    intro b u hu
    rw [hd] at hu
    simp only [Act.put, Array.getElem?_setIfInBounds] at hu
    split at hu
    · split at hu
      · exact Option.some.inj hu
      · cases hu
    · rename_i hne; exact (hne trivial).elim
  generalize (execOp a.eval o).run P w = r at *
  cases r with
  | ok n w' =>
    cases n <;> simp only [Oper.upon] at h1 <;> simp only [givesUpon]
    case value u => exact ⟨put_eq _ _ h1.1, h1.2.2⟩
    case skip => exact ⟨put_eq _ _ h1.1, h1.2.2⟩
    case defer x =>
      have := h1.2.1
      rw [hd] at this
      simp [Act.put] at this
    case enter f args =>
      refine Calls.mono h1 fun e w'' he => ?_
      cases e with
      | returned u => exact ⟨u, rfl, put_eq _ _ he.1, he.2.2⟩
      | panicked c => exact he.elim
      | outgrown => obtain ⟨_, _, h⟩ := he; exact h.elim
    case row row args => exact Rows.mono h1 fun u w'' he => ⟨put_eq _ _ he.1, he.2.2⟩
  | halt x w' => cases x <;> simp only [Oper.upon] at h1 <;> exact h1.elim

def YG (P : Program) (ops : Array Oper) (W : World) (o : Oper) (v : Value) (a : Act) : Prop :=
  (Region.wanted o (yielded ops a.tmps) = true ∧ GQ P o a W v) ∨ (Region.wanted o (yielded ops a.tmps) = false ∧ v = undef)

theorem YG.of_same {W : World} {o : Oper} {v : Value} {a a' : Act} (hy : YG P ops W o v a) (he : execOp a'.eval o = execOp a.eval o)
    (hw : Region.wanted o (yielded ops a'.tmps) = Region.wanted o (yielded ops a.tmps)) : YG P ops W o v a' := by
  unfold YG GQ at *
  rw [he, hw]
  exact hy

theorem YG.wpOp {W w : World} {i : Nat} {o : Oper} {v : Value} {a : Act} (hi : ops[i]? = some o) (hy : YG P ops W o v a) (hW : Ext W w) {K : Act → World → Prop}
    (h : ∀ w', Ext w w' → K (a.put o.dst v) w') : wpOp P ops QF i K a w := by
  unfold Go.wpOp
  simp only [hi]
  rcases hy with ⟨hw, hv⟩ | ⟨hw, rfl⟩
  · simp only [hw, if_true]
    left
    have h1 := hv w hW
    unfold Oper.wp
    generalize (execOp a.eval o).run P w = r at *
    cases r with
    | ok n w' =>
      cases n <;> simp only [givesUpon] at h1 <;> simp only [Oper.upon]
      case value u => obtain ⟨rfl, h2⟩ := h1; exact h _ h2
      case skip => obtain ⟨rfl, h2⟩ := h1; exact h _ h2
      case enter f args =>
        refine Calls.mono h1 fun e w'' he => ?_
        obtain ⟨v', rfl, rfl, h2⟩ := he
        exact h _ h2
      case row row args => exact Rows.mono h1 fun u w'' he => by obtain ⟨rfl, h2⟩ := he; exact h _ h2
    | halt x w' => cases x <;> simp only [givesUpon] at h1
  · simp only [hw, Bool.false_eq_true, if_false]; exact h _ (Ext.refl _)

theorem wpOp_put2 {S : Act → Prop} {j : Nat} {oi oj : Oper} {v : Value} (hj : ops[j]? = some oj) (hap : oi.apart ops oj = true) (hsj : ∀ cs b, oj.op ≠ .select cs b)
    (keep : ∀ a u, S a → S (a.put oj.dst u)) (keepD : ∀ (a : Act) d, S a → S { a with defers := d :: a.defers }) {K : Act → World → Prop} {a : Act} {w : World}
    (hy : S a) (h : wpOp P ops QF j K (a.put oi.dst v) w) : wpOp P ops QF j (fun a' w' => S a' ∧ K (a'.put oi.dst v) w') a w := by
  obtain ⟨h1, h2, h3⟩ := Oper.apart_spec hap
  unfold wpOp at *
  simp only [hj] at *
  rw [wanted_put oj a oi.dst v h1] at h
  split
  · rename_i hw
    simp only [hw, if_true] at h
    rcases h with h | ⟨_, _, _, h⟩
    case inr => exact h.elim
    refine .inl ?_
    unfold Oper.wp at *
    rw [execOp_put oj hsj a oi.dst v h1] at h
    generalize (execOp a.eval oj).run P w = r at *
    cases r with
    | ok n w' =>
      cases n <;> simp only [Oper.upon] at h ⊢
      case value u => exact ⟨keep a u hy, by rw [← Act.put_comm a v u h2]; exact h⟩
      case skip => exact ⟨keep a _ hy, by rw [← Act.put_comm a v undef h2]; exact h⟩
      case defer d =>
        refine ⟨keep _ _ (keepD _ d hy), ?_⟩
        rw [← Act.put_comm _ v undef h2, ← Act.put_defers]
        exact h
      case enter f args =>
        refine Calls.mono h fun e w'' he => ?_
        cases e with
        | returned u => exact ⟨keep a u hy, by rw [← Act.put_comm a v u h2]; exact he⟩
        | panicked c => exact he
        | outgrown => obtain ⟨_, _, h⟩ := he; exact h.elim
      case row row args => exact Rows.mono h fun u w'' he => ⟨keep a u hy, by rw [← Act.put_comm a v u h2]; exact he⟩
    | halt x w' =>
      cases x <;> simp only [Oper.upon] at h ⊢
      case panic u => exact h
  · rename_i hw
    simp only [hw] at h
    exact ⟨keep a _ hy, by rw [← Act.put_comm a v undef h2]; exact h⟩

/-- Whatever order is picked from here on; between two operations the world may grow. 'cov i': operation i waits for all quiet ones. -/
def SAny (P : Program) (ops : Array Oper) (cov : Array Bool) (Q : Act → World → Prop) : Nat → Array Bool → Act → World → Prop
  | 0, listed, a, w => Region.ready .any ops listed = [] ∧ Q a w
  | n + 1, listed, a, w => (Region.ready .any ops listed = [] → Q a w) ∧
      ∀ i ∈ Region.ready .any ops listed, wpOp P ops QF i (fun a' w' => (cov.getD i false = false → Ext w w') ∧ ∀ w'', Ext w' w'' → SAny P ops cov Q n (listed.setIfInBounds i true) a' w'') a w

theorem wpAny_of_SAny {cov : Array Bool} {Q : Act → World → Prop} {Q' : Exit → Act → World → Prop} (hQ : ∀ a w, Q a w → Q' .normal a w) :
    ∀ (n : Nat) (listed : Array Bool) (a : Act) (w : World), SAny P ops cov Q n listed a w → wpAny P .any ops Q' n listed a w
  | 0, _, _, _, h => ⟨h.1, hQ _ _ h.2⟩
  | n + 1, _, _, _, h => ⟨fun h0 => hQ _ _ (h.1 h0), fun i hi => wpOp_of_QF (wpOp_mono (fun _ w' h2 => wpAny_of_SAny hQ n _ _ w' (h2.2 w' (Ext.refl _))) (h.2 i hi))⟩

/-- Down-closed: what is listed has all that it waits for listed. -/
def Down (ops : Array Oper) (listed : Array Bool) : Prop :=
  ∀ (k : Nat) (o : Oper), listed.getD k false = true → ops[k]? = some o → ∀ e ∈ o.after, Region.binds .any e = true → listed.getD e.on false = true

theorem Down.none (n : Nat) : Down ops (Array.replicate n false) := by
  intro k o hk
  by_cases hkn : k < n <;> simp [hkn] at hk

theorem Down.set {listed : Array Bool} {j : Nat} (h : Down ops listed) (hj : j ∈ Region.ready .any ops listed) : Down ops (listed.setIfInBounds j true) := by
  intro k o hk ho e he hb
  by_cases hkj : j = k
  · subst hkj
    obtain ⟨_, o', ho', hall⟩ := mem_ready.1 hj
    rw [ho'] at ho
    obtain rfl := Option.some.inj ho
    exact getD_set_true (hall e he hb)
  · rw [getD_set_ne false hkj] at hk
    exact getD_set_true (h k o hk ho e he hb)

/-- Marks all that the marked ones among the first k operations wait for. -/
def markAll (es : List Edge) (m : Array Bool) : Array Bool := es.foldl (fun m e => if Region.binds .any e then m.setIfInBounds e.on true else m) m
def marksTo (ops : Array Oper) : Nat → Array Bool → Array Bool
  | 0, m => m
  | k + 1, m => marksTo ops k (if m.getD k false then (match ops[k]? with | some o => markAll o.after.toList m | none => m) else m)
def waitsFor (ops : Array Oper) (j : Nat) : Array Bool :=
  match ops[j]? with
  | some o => marksTo ops ops.size (markAll o.after.toList (Array.replicate ops.size false))
  | none => #[]

theorem markAll_listed {listed : Array Bool} : ∀ (es : List Edge) (m : Array Bool), (∀ e ∈ es, Region.binds .any e = true → listed.getD e.on false = true) → (∀ k, m.getD k false = true → listed.getD k false = true) →
    ∀ k, (markAll es m).getD k false = true → listed.getD k false = true
  | [], _, _, hm => hm
  | e :: es, m, he, hm => by
    refine markAll_listed es _ (fun e' h' => he e' (List.mem_cons_of_mem _ h')) ?_
    intro k hk
    dsimp only at hk
    split at hk
    · rename_i hb
      by_cases hke : e.on = k
      · subst hke; exact he e (List.mem_cons_self ..) hb
      · rw [getD_set_ne false hke] at hk; exact hm k hk
    · exact hm k hk
theorem marksTo_listed {listed : Array Bool} (h : Down ops listed) : ∀ (n : Nat) (m : Array Bool), (∀ k, m.getD k false = true → listed.getD k false = true) → ∀ k, (marksTo ops n m).getD k false = true → listed.getD k false = true
  | 0, _, hm => hm
  | n + 1, m, hm => by
    refine marksTo_listed h n _ ?_
    intro k hk
    split at hk
    · rename_i hn
      split at hk
      · rename_i o ho
        exact markAll_listed _ _ (fun e he hb => h n o (hm n hn) ho e (by simpa using he) hb) hm k hk
      · exact hm k hk
    · exact hm k hk

/-- Who is marked waits for i. -/
def covFor (ops : Array Oper) (cov : Array Bool) (i : Nat) : Bool := (List.range ops.size).all fun j => !cov.getD j false || (waitsFor ops j).getD i false

theorem covFor_spec {cov : Array Bool} {i j : Nat} {listed : Array Bool} (h : covFor ops cov i = true) (hd : Down ops listed) (hj : j ∈ Region.ready .any ops listed) (hi : listed.getD i false = false) : cov.getD j false = false := by
  obtain ⟨_, o, ho, hall⟩ := mem_ready.1 hj
  have hlt : j < ops.size := (Array.getElem?_eq_some_iff.1 ho).1
  simp only [covFor, List.all_eq_true, List.mem_range] at h
  have h1 := h j hlt
  simp only [Bool.or_eq_true, Bool.not_eq_true'] at h1
  rcases h1 with h1 | h1
  · exact h1
  · have : listed.getD i false = true := by
      unfold waitsFor at h1
      rw [ho] at h1
      refine marksTo_listed hd ops.size _ ?_ i h1
      refine markAll_listed _ _ (fun e he hb => hall e (by simpa using he) hb) ?_
      intro k hk
      by_cases hkn : k < ops.size <;> simp [hkn] at hk
    rw [this] at hi
    cases hi

theorem SAny_first {cov : Array Bool} {Q : Act → World → Prop} {W : World} {i : Nat} {oi : Oper} {v : Value} (hi : ops[i]? = some oi) (hsel : ∀ (j : Nat) (o : Oper) cs b, ops[j]? = some o → o.op ≠ .select cs b)
    (hcov : covFor ops cov i = true) :
    ∀ (n : Nat) (listed : Array Bool) (a : Act) (w0 : World), Ext W w0 → Down ops listed →
      (∀ j oj, ops[j]? = some oj → j ≠ i → listed.getD j true = false → (∀ e ∈ oj.after, Region.binds .any e = true → e.on ≠ i) → oi.apart ops oj = true) →
      i ∈ Region.ready .any ops listed → YG P ops W oi v a →
      (∀ w, Ext w0 w → SAny P ops cov Q n (listed.setIfInBounds i true) (a.put oi.dst v) w) → ∀ w, Ext w0 w → SAny P ops cov Q (n + 1) listed a w := by
  intro n
  induction n with
  | zero =>
    intro listed a w0 hW hd _ hr hy H w hw
    refine ⟨fun h => (by rw [h] at hr; cases hr), fun j hj => ?_⟩
    by_cases hji : j = i
    · subst hji
      exact hy.wpOp hi (hW.trans hw) fun w' hw' => ⟨fun _ => hw', fun w'' hw'' => H _ ((hw.trans hw').trans hw'')⟩
    · have := ready_mono hj hji
      rw [(H w hw).1] at this
      cases this
  | succ n ih =>
    intro listed a w0 hW hd hfree hr hy H w hw
    refine ⟨fun h => (by rw [h] at hr; cases hr), fun j hj => ?_⟩
    by_cases hji : j = i
    · subst hji
      exact hy.wpOp hi (hW.trans hw) fun w' hw' => ⟨fun _ => hw', fun w'' hw'' => H _ ((hw.trans hw').trans hw'')⟩
    · have h1 := (H w hw).2 j (ready_mono hj hji)
      obtain ⟨hjun, oj, hoj, hall⟩ := mem_ready.1 hj
      have hiun : listed.getD i false = false := by
        have h0 := (mem_ready.1 hr).1
        rcases Nat.lt_or_ge i listed.size with h' | h'
        · simp [h'] at h0 ⊢; exact h0
        · simp [Array.getElem?_eq_none h'] at h0
      have hnot : ∀ e ∈ oj.after, Region.binds .any e = true → e.on ≠ i := fun e he hb heq => by
        have h1 := hall e he hb
        rw [heq, hiun] at h1
        cases h1
      have hap := hfree j oj hoj hji hjun hnot
      obtain ⟨_, _, h3⟩ := Oper.apart_spec hap
      have h2 := wpOp_put2 (S := YG P ops W oi v) hoj hap (fun cs b => hsel j oj cs b hoj)
        (fun a u hS => hS.of_same (execOp_put oi (fun cs b => hsel i oi cs b hi) a oj.dst u h3) (wanted_put oi a oj.dst u h3)) (fun a d hS => hS.of_same rfl rfl) hy h1
      have hfree' : ∀ k ok, ops[k]? = some ok → k ≠ i → (listed.setIfInBounds j true).getD k true = false →
          (∀ e ∈ ok.after, Region.binds .any e = true → e.on ≠ i) → oi.apart ops ok = true := fun k ok hk hki hun hno => by
        refine hfree k ok hk hki ?_ hno
        by_cases hjk : j = k
        · subst hjk; exact hjun
        · rw [getD_set_ne true hjk] at hun; exact hun
      have hc := covFor_spec hcov hd hj hiun
      refine wpOp_mono (fun a' w' h3 => ?_) h2
      obtain ⟨hS, hcv, hrest⟩ := h3
      have hww := hcv hc
      refine ⟨fun _ => hww, fun w'' hw'' => ih (listed.setIfInBounds j true) a' w' ((hW.trans hw).trans hww) (hd.set hj) hfree' (ready_mono hr (Ne.symm hji)) hS ?_ w'' hw''⟩
      intro w2 hw2
      rw [Array.setIfInBounds_comm _ _ hji]
      exact hrest w2 hw2

/-- The walk of the quiet operations, by their numbers. -/
def wpG (P : Program) (ops : Array Oper) (W : World) (Q : Act → Prop) : List Nat → Act → Prop
  | [], a => Q a
  | i :: rest, a => match ops[i]? with
    | none => False
    | some o => if Region.wanted o (yielded ops a.tmps) then ∃ v, GQ P o a W v ∧ wpG P ops W Q rest (a.put o.dst v) else wpG P ops W Q rest (a.put o.dst undef)

theorem wpG_nil {W : World} {Q : Act → Prop} {a : Act} (h : Q a) : wpG P ops W Q [] a := h
theorem wpG_step {W : World} {Q : Act → Prop} {a : Act} {i : Nat} {rest : List Nat} {o : Oper} {d : Tmp} {v : Value} (ho : ops[i]? = some o) (hw : Region.wanted o (yielded ops a.tmps) = true) (hd : o.dst = some d)
    (h : ∀ w (K : Act → World → Prop), Ext W w → (∀ a' w', a'.tmps[d]? = some v → a'.defers = a.defers → Ext w w' → K a' w') → o.wp P a w K QF)
    (hn : wpG P ops W Q rest (a.put (some d) v)) : wpG P ops W Q (i :: rest) a := by
  unfold wpG
  simp only [ho, hw, if_true]
  exact ⟨v, GQ.of_wp hd h, by rw [hd]; exact hn⟩
theorem wpG_move {W : World} {Q : Act → Prop} {a : Act} {i : Nat} {rest : List Nat} {o : Oper} {d : Tmp} {x : Operand} {v : Value} (ho : ops[i]? = some o) (hx : o.op = .move x) (hw : Region.wanted o (yielded ops a.tmps) = true) (hd : o.dst = some d)
    (hv : a.eval x = v) (hn : wpG P ops W Q rest (a.put (some d) v)) : wpG P ops W Q (i :: rest) a := by
  unfold wpG
  simp only [ho, hw, if_true]
  refine ⟨v, fun w _ => ?_, by rw [hd]; exact hn⟩
  have : (execOp a.eval o).run P w = .ok (.value (a.eval x)) w := by
    unfold execOp
    rw [hx]
    rfl
  rw [this]
  exact ⟨hv, Ext.refl _⟩
/-- One operation; a2: the frame behind it, as the walk leaves it. -/
theorem wpG_on {W : World} {Q : Act → Prop} {a a2 : Act} {i : Nat} {rest : List Nat} {o : Oper} {d : Tmp} {v : Value} (ho : ops[i]? = some o) (hw : Region.wanted o (yielded ops a.tmps) = true) (hd : o.dst = some d)
    (h : ∀ w (K : Act → World → Prop), Ext W w → (∀ w', Ext w w' → K a2 w') → o.wp P a w K QF) (hv : a2.tmps[d]? = some v) (hp : a2 = a.put (some d) v)
    (hn : wpG P ops W Q rest a2) : wpG P ops W Q (i :: rest) a := by
  refine wpG_step (v := v) ho hw hd (fun w K hx hK => h w K hx fun w' hw' => hK a2 w' hv (by rw [hp]; rfl) hw') ?_
  rw [← hp]
  exact hn
theorem wpG_pass {W : World} {Q : Act → Prop} {a a2 : Act} {i : Nat} {rest : List Nat} {o : Oper} {d : Tmp} (ho : ops[i]? = some o) (hw : Region.wanted o (yielded ops a.tmps) = false) (hd : o.dst = some d)
    (hp : a.put (some d) undef = a2) (hn : wpG P ops W Q rest a2) : wpG P ops W Q (i :: rest) a := by
  unfold wpG
  simp only [ho, hw, Bool.false_eq_true, if_false]
  rw [hd, hp]; exact hn
theorem wpG_skip {W : World} {Q : Act → Prop} {a : Act} {i : Nat} {rest : List Nat} {o : Oper} {d : Tmp} (ho : ops[i]? = some o) (hw : Region.wanted o (yielded ops a.tmps) = false) (hd : o.dst = some d)
    (hn : wpG P ops W Q rest (a.put (some d) undef)) : wpG P ops W Q (i :: rest) a := by
  unfold wpG
  simp only [ho, hw, Bool.false_eq_true, if_false]
  rw [hd]; exact hn

/-- May the operations 'l' be taken first, in this order? -/
def lexOk (ops : Array Oper) (cov : Array Bool) : List Nat → Array Bool → Bool
  | [], _ => true
  | i :: r, listed => (Region.ready .any ops listed).contains i && Region.free .any ops listed i && covFor ops cov i && lexOk ops cov r (listed.setIfInBounds i true)
def listedBy : List Nat → Array Bool → Array Bool
  | [], listed => listed
  | i :: r, listed => listedBy r (listed.setIfInBounds i true)

theorem SAny_lex {cov : Array Bool} {Q : Act → World → Prop} {W : World} (hs : Region.noSelect ops = true) (n : Nat) : ∀ (l : List Nat) (listed : Array Bool) (a : Act), lexOk ops cov l listed = true → Down ops listed →
    wpG P ops W (fun a' => ∀ w, Ext W w → SAny P ops cov Q n (listedBy l listed) a' w) l a → ∀ w, Ext W w → SAny P ops cov Q (n + l.length) listed a w
  | [], _, _, _, _, h => h
  | i :: l, listed, a, hB, hd, h => by
    simp only [lexOk, Bool.and_eq_true] at hB
    obtain ⟨⟨⟨hr, hf⟩, hc⟩, hB'⟩ := hB
    have hr' : i ∈ Region.ready .any ops listed := by simpa using hr
    unfold wpG at h
    cases ho : ops[i]? with
    | none => simp only [ho] at h
    | some o =>
      simp only [ho] at h
      by_cases hw : Region.wanted o (yielded ops a.tmps) = true
      · simp only [hw, if_true] at h
        obtain ⟨v, hv, hK⟩ := h
        exact SAny_first ho (Region.noSelect_spec hs) hc (n + l.length) listed a W (Ext.refl _) hd (Region.free_spec ho hf) hr' (.inl ⟨hw, hv⟩) (SAny_lex hs n l _ _ hB' (hd.set hr') hK)
      · simp only [hw] at h
        exact SAny_first ho (Region.noSelect_spec hs) hc (n + l.length) listed a W (Ext.refl _) hd (Region.free_spec ho hf) hr' (.inr ⟨by simpa using hw, rfl⟩) (SAny_lex hs n l _ _ hB' (hd.set hr') h)

/-- The region: 'l' the quiet operations, 'n' how many are left, 'cov' which of those wait for all of 'l'. -/
theorem wp_region_mix {id : Nat} {Q : Exit → Act → World → Prop} {a : Act} {w : World} (l : List Nat) (n : Nat) (cov : Array Bool) (hm : P.follows .mixedOrders = true)
    (hB : (Region.noSelect ops && (n + l.length == ops.size) && lexOk ops cov l (Array.replicate ops.size false)) = true)
    (h : wpG P ops w (fun a' => ∀ w', Ext w w' → SAny P ops cov (Q .normal) n (listedBy l (Array.replicate ops.size false)) a' w') l a) : (Code.region id ops true).wp P Q a w := by
  simp only [Bool.and_eq_true, beq_iff_eq] at hB
  obtain ⟨⟨hs, hn⟩, hl⟩ := hB
  refine wp_region_any hm (wpAny_of_SAny (Q := Q .normal) (cov := cov) (fun _ _ h => h) _ _ _ _ ?_)
  rw [← hn]
  have := SAny_lex (P := P) (Q := Q .normal) (W := w) hs n l (Array.replicate ops.size false) a hl (Down.none _) h w.drew (Ext.refl w).drew
  simpa [hn] using this
theorem wpG_mono {W : World} {Q1 Q2 : Act → Prop} (hq : ∀ a, Q1 a → Q2 a) : ∀ (l : List Nat) (a : Act), wpG P ops W Q1 l a → wpG P ops W Q2 l a
  | [], a, h => hq a h
  | i :: r, a, h => by
    unfold wpG at *
    cases ho : ops[i]? with
    | none => simp only [ho] at h
    | some o =>
      simp only [ho] at h ⊢
      by_cases hw : Region.wanted o (yielded ops a.tmps) = true
      · simp only [hw, if_true] at h ⊢
        obtain ⟨v, h1, h2⟩ := h
        exact ⟨v, h1, wpG_mono hq r _ h2⟩
      · simp only [hw] at h ⊢
        exact wpG_mono hq r _ h
theorem SAny_done {cov : Array Bool} {Q : Act → World → Prop} {n : Nat} {listed : Array Bool} {a : Act} {w : World} (hr : Region.ready .any ops listed = []) (h : Q a w) : SAny P ops cov Q n listed a w := by
  match n with
  | 0 => exact ⟨hr, h⟩
  | n + 1 => exact ⟨fun _ => h, fun i hi => by rw [hr] at hi; cases hi⟩
/-- All quiet. -/
theorem wp_region_all {id : Nat} {Q : Exit → Act → World → Prop} {a : Act} {w : World} (l : List Nat) (hm : P.follows .mixedOrders = true)
    (hB : (Region.noSelect ops && (0 + l.length == ops.size) && lexOk ops #[] l (Array.replicate ops.size false) && (Region.ready .any ops (listedBy l (Array.replicate ops.size false))).isEmpty) = true)
    (h : wpG P ops w (fun a' => ∀ w', Ext w w' → Q .normal a' w') l a) : (Code.region id ops true).wp P Q a w := by
  simp only [Bool.and_eq_true] at hB
  obtain ⟨⟨⟨hs, hn⟩, hl⟩, hr⟩ := hB
  refine wp_region_mix l 0 #[] hm (by rw [hs, hn, hl]; rfl) ?_
  have hr' : Region.ready .any ops (listedBy l (Array.replicate ops.size false)) = [] := by simpa using hr
  exact wpG_mono (fun a h w' hw' => SAny_done hr' (h w' hw')) l a h

theorem wp_quiet {id : Nat} {Q : Exit → Act → World → Prop} {a : Act} {w : World} (l : List Nat) (hm : P.follows .mixedOrders = true)
    (hB : (Region.noSelect ops && (0 + l.length == ops.size) && lexOk ops #[] l (Array.replicate ops.size false) && (Region.ready .any ops (listedBy l (Array.replicate ops.size false))).isEmpty) = true)
    (h : ∀ R : Act → Prop, (∀ a', (∀ w', Ext w w' → Q .normal a' w') → R a') → wpG P ops w R l a) : (Code.region id ops true).wp P Q a w :=
  wp_region_all l hm hB (h _ fun _ h => h)
theorem wp_mixed {id : Nat} {Q : Exit → Act → World → Prop} {a : Act} {w : World} (l : List Nat) (n : Nat) (cov : Array Bool) (hm : P.follows .mixedOrders = true)
    (hB : (Region.noSelect ops && (n + l.length == ops.size) && lexOk ops cov l (Array.replicate ops.size false)) = true)
    (h : ∀ R : Act → World → Prop, (∀ a' w', Q .normal a' w' → R a' w') → wpG P ops w (fun a' => ∀ w', Ext w w' → SAny P ops cov R n (listedBy l (Array.replicate ops.size false)) a' w') l a) : (Code.region id ops true).wp P Q a w :=
  wp_region_mix l n cov hm hB (h _ fun _ _ h => h)

/-- One operation is left that may come next. -/
theorem SAny_one {cov : Array Bool} {Q : Act → World → Prop} {n i : Nat} {listed listed' : Array Bool} {a : Act} {w : World} {o : Oper} {c : Bool} (hr : Region.ready .any ops listed = [i]) (ho : ops[i]? = some o)
    (hw : Region.wanted o (yielded ops a.tmps) = true) (hc : cov.getD i false = c) (hl : listed.setIfInBounds i true = listed')
    (h : ∀ K : Act → World → Prop, (∀ a' w', (c = false → Ext w w') → (∀ w'', Ext w' w'' → SAny P ops cov Q n listed' a' w'') → K a' w') → o.wp P a w K QF) : SAny P ops cov Q (n + 1) listed a w := by
  subst hl hc
  refine ⟨fun h0 => (by rw [hr] at h0; cases h0), fun j hj => ?_⟩
  rw [hr] at hj
  obtain rfl : j = i := by simpa using hj
  unfold wpOp
  simp only [ho, hw, if_true]
  exact .inl (h _ fun a' w' h1 h2 => ⟨h1, h2⟩)
/-- Several may come next. -/
theorem SAny_more {cov : Array Bool} {Q : Act → World → Prop} {n : Nat} {rs : List Nat} {listed : Array Bool} {a : Act} {w : World} (hr : Region.ready .any ops listed = rs) (hne : rs ≠ [])
    (h : ∀ i ∈ rs, ∃ o, ops[i]? = some o ∧ Region.wanted o (yielded ops a.tmps) = true ∧ ∀ K : Act → World → Prop, (∀ a' w', (cov.getD i false = false → Ext w w') → (∀ w'', Ext w' w'' → SAny P ops cov Q n (listed.setIfInBounds i true) a' w'') → K a' w') → o.wp P a w K QF) :
    SAny P ops cov Q (n + 1) listed a w := by
  refine ⟨fun h0 => by rw [hr] at h0; exact absurd h0 hne, fun j hj => ?_⟩
  rw [hr] at hj
  obtain ⟨o, ho, hw, hk⟩ := h j hj
  unfold wpOp
  simp only [ho, hw, if_true]
  exact .inl (hk _ fun a' w' h1 h2 => ⟨h1, h2⟩)
end
end Go.Proofs.Ytmlmgipngbndgaa
