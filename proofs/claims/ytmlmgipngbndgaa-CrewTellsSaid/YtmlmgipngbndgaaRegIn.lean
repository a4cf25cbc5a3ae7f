/- Reg's law inside a round of a loop over an iterator (the fence being wide). -/
import Derived.Test.YtmlmgipngbndgaaReg
import Derived.OrdersIn
import Derived.TacticsIn
import Derived.RangeFuncCalls
namespace Go.Proofs.Ytmlmgipngbndgaa
set_option linter.unusedVariables false
set_option linter.unusedSimpArgs false
open Go.RowKit

theorem rowsIn_of {n : Nat} {P : Program} {row : String} {args : Array Value} {w : World} {R : Value → World → Prop} (h : Rows P row args w R) : RowsIn Fence.wide n P row args w R :=
  fun c cs _ => let ⟨v, w', r, s⟩ := h c cs; ⟨v, w', r, stepsIn_wide.2 s⟩

theorem wpIn_of_wp {l n : Nat} {P : Program} {o : Oper} {a : Act} {w : World} {K : Act → World → Prop} {Q : Exit → Act → World → Prop} (hd : ∀ c, o.op ≠ .defer c) (h : o.wp P a w K QF) :
    o.wpIn (Fence.wide.inRound l) n P a w K Q := by
  unfold Oper.wpIn
  refine ⟨fun _ _ => trivial, ?_⟩
  rw [Fence.inRound_round, Oper.semAt_some l _ _ hd]
  unfold Oper.wp at h
  generalize (execOp a.eval o).run P w = r at *
  cases r with
  | ok nx w' =>
    cases nx <;> simp only [Oper.upon] at h <;> simp only [Oper.uponIn]
    case value u => exact h
    case skip => exact h
    case defer d => exact h
    case enter f args =>
      refine ⟨fun h0 => by simp [Fence.wide] at h0, CallsIn.inRound l (callsIn_wide.2 (Calls.mono h fun e w'' he => ?_))⟩
      cases e with
      | returned u => exact he
      | panicked c => exact he.elim
      | outgrown => obtain ⟨_, _, h⟩ := he; exact h.elim
    case row row args => exact ⟨fun h0 => by simp [Fence.wide] at h0, rowsIn_of h⟩
  | halt x w' => cases x <;> simp only [Oper.upon] at h <;> exact h.elim

def noDefer (ops : Array Oper) : Bool := ops.all fun o => match o.op with | .defer _ => false | _ => true
theorem noDefer_spec {ops : Array Oper} (h : noDefer ops = true) {i : Nat} {o : Oper} (ho : ops[i]? = some o) : ∀ c, o.op ≠ .defer c := by
  intro c hc
  obtain ⟨hi, rfl⟩ := Array.getElem?_eq_some_iff.1 ho
  have := Array.all_eq_true.1 h i hi
  rw [hc] at this
  cases this

section
variable {P : Program} {ops : Array Oper}
theorem wpOpIn_of {l n i : Nat} {a : Act} {w : World} {K : Act → World → Prop} {Q : Exit → Act → World → Prop} (hd : noDefer ops = true) (hh : wpOp P ops QF i K a w) : wpOpIn (Fence.wide.inRound l) n P ops Q i K a w := by
  unfold wpOp at hh
  unfold wpOpIn
  split
  · rename_i ho; simp only [ho] at hh; exact hh
  · rename_i o ho
    simp only [ho] at hh
    split
    · rename_i hw
      simp only [hw, if_true] at hh
      rcases hh with h | ⟨_, _, _, h⟩
      · exact wpIn_of_wp (noDefer_spec hd ho) h
      · exact h.elim
    · rename_i hw; simp only [hw] at hh; exact ⟨fun _ _ => trivial, hh⟩

theorem wpAnyIn_of_SAny {l m : Nat} {cov : Array Bool} {Q : Act → World → Prop} {Q' : Exit → Act → World → Prop} (hd : noDefer ops = true) (hQ : ∀ a w, Q a w → Q' .normal a w) :
    ∀ (n : Nat) (listed : Array Bool) (a : Act) (w : World), SAny P ops cov Q n listed a w → wpAnyIn (Fence.wide.inRound l) m P .any ops Q' n listed a w
  | 0, _, _, _, h => ⟨h.1, hQ _ _ h.2⟩
  | n + 1, _, _, _, h => ⟨fun h0 => hQ _ _ (h.1 h0), fun i hi => wpOpIn_mono (fun _ w' h2 => wpAnyIn_of_SAny hd hQ n _ _ w' (h2.2 w' (Ext.refl _))) (wpOpIn_of hd (h.2 i hi))⟩

theorem wpIn_mixed {r m id : Nat} {Q : Exit → Act → World → Prop} {a : Act} {w : World} (l : List Nat) (n : Nat) (cov : Array Bool) (hm : P.follows .mixedOrders = true)
    (hB : (Region.noSelect ops && (n + l.length == ops.size) && lexOk ops cov l (Array.replicate ops.size false) && noDefer ops) = true)
    (h : ∀ R : Act → World → Prop, (∀ a' w', Q .normal a' w' → R a' w') → wpG P ops w (fun a' => ∀ w', Ext w w' → SAny P ops cov R n (listedBy l (Array.replicate ops.size false)) a' w') l a) : (Code.region id ops true).wpIn (Fence.wide.inRound r) m P Q a w := by
  simp only [Bool.and_eq_true, beq_iff_eq] at hB
  obtain ⟨⟨⟨hs, hn⟩, hl⟩, hd⟩ := hB
  refine wpIn_region_any hm (wpAnyIn_of_SAny (Q := Q .normal) (cov := cov) hd (fun _ _ h => h) _ _ _ _ ?_)
  rw [← hn]
  have := SAny_lex (P := P) (Q := Q .normal) (W := w) hs n l (Array.replicate ops.size false) a hl (Down.none _) (h _ fun _ _ h => h) w.drew (Ext.refl w).drew
  simpa [hn] using this
theorem wpIn_quiet {r m id : Nat} {Q : Exit → Act → World → Prop} {a : Act} {w : World} (l : List Nat) (hm : P.follows .mixedOrders = true)
    (hB : (Region.noSelect ops && (0 + l.length == ops.size) && lexOk ops #[] l (Array.replicate ops.size false) && (Region.ready .any ops (listedBy l (Array.replicate ops.size false))).isEmpty && noDefer ops) = true)
    (h : ∀ R : Act → Prop, (∀ a', (∀ w', Ext w w' → Q .normal a' w') → R a') → wpG P ops w R l a) : (Code.region id ops true).wpIn (Fence.wide.inRound r) m P Q a w := by
  simp only [Bool.and_eq_true] at hB
  obtain ⟨⟨⟨⟨hs, hn⟩, hl⟩, hr⟩, hd⟩ := hB
  refine wpIn_mixed l 0 #[] hm (by rw [hs, hn, hl, hd]; rfl) ?_
  intro R hR
  have hr' : Region.ready .any ops (listedBy l (Array.replicate ops.size false)) = [] := by simpa using hr
  refine wpG_mono (fun a h w' hw' => SAny_done hr' (hR _ _ (h w' hw'))) l a (h _ fun _ h => h)
end
end Go.Proofs.Ytmlmgipngbndgaa
