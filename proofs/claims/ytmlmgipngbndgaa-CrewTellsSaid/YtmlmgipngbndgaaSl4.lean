/- A calculus for walks, part 4: code. -/
import Derived.Test.YtmlmgipngbndgaaSl3
import Derived.Test.YtmlmgipngbndgaaReg2
import Derived.LoopIn
import Derived.RangeFuncLeaves
import Derived.RangeFuncRecord
namespace Go.Proofs.Ytmlmgipngbndgaa
set_option linter.unusedVariables false
set_option linter.unusedSimpArgs false
open Go.RowKit

/-- The operations one behind the other. -/
def chain (P : Program) (ops : Array Oper) (R : Act → World → Prop) : List Nat → Act → World → Prop
  | [], a, w => R a w
  | i :: rest, a, w => match ops[i]? with
    | none => chain P ops R rest a w
    | some o => if Region.wanted o (yielded ops a.tmps) then o.wp P a w (chain P ops R rest) QF else chain P ops R rest (a.put o.dst undef) w

theorem wpOps_of_chain {P : Program} {ops : Array Oper} {R : Act → World → Prop} {Q : Exit → Act → World → Prop} (hQ : ∀ a w, R a w → Q .normal a w) :
    ∀ (l : List Nat) (a : Act) (w : World), chain P ops R l a w → wpOps P ops Q l a w
  | [], a, w, h => hQ a w h
  | i :: rest, a, w, h => by
    unfold chain at h
    unfold wpOps
    cases ho : ops[i]? with
    | none => simp only [ho] at h ⊢; exact wpOps_of_chain hQ rest a w h
    | some o =>
      simp only [ho] at h ⊢
      split
      · rename_i hw
        simp only [hw, if_true] at h
        exact .inl (wp_of_QF (Oper.wp_mono' (wpOps_of_chain hQ rest) h))
      · rename_i hw
        simp only [hw] at h
        exact wpOps_of_chain hQ rest _ w h
where
  Oper.wp_mono' {o : Oper} {a : Act} {w : World} {K K' : Act → World → Prop} (hk : ∀ a w, K a w → K' a w) (h : o.wp P a w K QF) : o.wp P a w K' QF := by
    unfold Oper.wp at *
    generalize (execOp a.eval o).run P w = r at *
    cases r with
    | ok n w' =>
      cases n <;> simp only [Oper.upon] at h ⊢ <;> first
        | exact hk _ _ h
        | exact h.mono fun e w2 he => by cases e <;> first | exact hk _ _ he | exact he
        | exact h.mono fun u w2 he => hk _ _ he
    | halt x w' => cases x <;> simp only [Oper.upon] at h ⊢ <;> exact h

theorem chain_mono {P : Program} {ops : Array Oper} {R R' : Act → World → Prop} (hR : ∀ a w, R a w → R' a w) : ∀ (l : List Nat) (a : Act) (w : World), chain P ops R l a w → chain P ops R' l a w
  | [], a, w, h => hR a w h
  | i :: rest, a, w, h => by
    unfold chain at h ⊢
    cases ho : ops[i]? with
    | none => simp only [ho] at h ⊢; exact chain_mono hR rest a w h
    | some o =>
      simp only [ho] at h ⊢
      split
      · rename_i hw
        simp only [hw, if_true] at h
        exact wpOps_of_chain.Oper.wp_mono' (chain_mono hR rest) h
      · rename_i hw
        simp only [hw] at h
        exact chain_mono hR rest _ w h
theorem wpOpsIn_of_chain {l m : Nat} {P : Program} {ops : Array Oper} {R : Act → World → Prop} {Q : Exit → Act → World → Prop} (hd : noDefer ops = true) (hQ : ∀ a w, R a w → Q .normal a w) :
    ∀ (r : List Nat) (a : Act) (w : World), chain P ops R r a w → wpOpsIn (Fence.wide.inRound l) m P ops Q r a w
  | [], a, w, h => hQ a w h
  | i :: rest, a, w, h => by
    unfold chain at h
    unfold wpOpsIn
    cases ho : ops[i]? with
    | none => simp only [ho] at h ⊢; exact wpOpsIn_of_chain hd hQ rest a w h
    | some o =>
      simp only [ho] at h ⊢
      split
      · rename_i hw
        simp only [hw, if_true] at h
        exact wpIn_of_wp (noDefer_spec hd ho) (wpOps_of_chain.Oper.wp_mono' (wpOpsIn_of_chain hd hQ rest) h)
      · rename_i hw
        simp only [hw] at h
        exact ⟨fun _ _ => trivial, wpOpsIn_of_chain hd hQ rest _ w h⟩

/-- A way to speak of what code does: by itself, or inside a round. -/
structure WS (P : Program) where
  W : Code → (Exit → Act → World → Prop) → Act → World → Prop
  mono : ∀ {c : Code} {Q Q' : Exit → Act → World → Prop} {a : Act} {w : World}, W c Q a w → (∀ e a w, Q e a w → Q' e a w) → W c Q' a w
  skip : ∀ {Q : Exit → Act → World → Prop} {a : Act} {w : World}, Q .normal a w → W .skip Q a w
  exit : ∀ {Q : Exit → Act → World → Prop} {a : Act} {w : World} {id : Nat}, Q (.exit id) a w → W (.exit id) Q a w
  ret : ∀ {Q : Exit → Act → World → Prop} {a : Act} {w : World}, Q .ret a w → W .ret Q a w
  seq : ∀ {Q : Exit → Act → World → Prop} {a : Act} {w : World} {x y : Code}, W x (Exit.then (W y Q) Q) a w → W (.seq x y) Q a w
  cond : ∀ {Q : Exit → Act → World → Prop} {a : Act} {w : World} {c : Operand} {x y : Code} {t : Bool}, a.eval c = .bool t → W (if t then x else y) Q a w → W (.cond c x y) Q a w
  block : ∀ {Q : Exit → Act → World → Prop} {a : Act} {w : World} {id : Nat} {c : Code}, W c (Exit.inBlock id Q) a w → W (.block id c) Q a w
  loop : ∀ {Q : Exit → Act → World → Prop} {a : Act} {w : World} {c : Code} (I : Act → World → Prop) (μ : Act → World → Nat), I a w → (∀ a w, I a w → W c (Exit.then (fun a' w' => I a' w' ∧ μ a' w' < μ a w) Q) a w) → W (.loop c) Q a w
  region : ∀ {Q : Exit → Act → World → Prop} {a : Act} {w : World} {id : Nat} {ops : Array Oper}, noDefer ops = true → chain P ops (Q .normal) (List.range ops.size) a w → W (.region id ops false) Q a w
  mixed : ∀ {Q : Exit → Act → World → Prop} {a : Act} {w : World} {id : Nat} {ops : Array Oper} {I : World → Prop} (l : List Nat) (n : Nat) (cov : Array Bool), Up I → I w → P.follows .mixedOrders = true →
    (Region.noSelect ops && (n + l.length == ops.size) && lexOk ops cov l (Array.replicate ops.size false) && noDefer ops) = true →
    wpGI P ops I (fun a' => ∀ w', I w' → SAnyI P ops cov I (Q .normal) n (listedBy l (Array.replicate ops.size false)) a' w') l a → W (.region id ops true) Q a w

/-- Code by itself. -/
def WS.own (P : Program) : WS P where
  W c Q a w := c.wp P Q a w
  mono := wp_mono
  skip := wp_skip
  exit := wp_exit
  ret := wp_ret
  seq := wp_seq
  cond := wp_cond
  block := wp_block
  loop := wp_loop
  region hd h := wp_region (wpOps_of_chain (fun _ _ h => h) _ _ _ h)
  mixed l n cov hU hI hm hB h := by
    simp only [Bool.and_eq_true] at hB
    exact wpI_mixed hU hI l n cov hm (by simp only [Bool.and_eq_true]; exact hB.1) h
/-- Code inside a round. -/
def WS.round (P : Program) (l m : Nat) : WS P where
  W c Q a w := c.wpIn (Fence.wide.inRound l) m P Q a w
  mono := wpIn_mono
  skip := wpIn_skip
  exit := wpIn_exit
  ret := wpIn_ret
  seq := wpIn_seq
  cond := wpIn_cond
  block := wpIn_block
  loop := wpIn_loop
  region hd h := wpIn_region (wpOpsIn_of_chain hd (fun _ _ h => h) _ _ _ h)
  mixed l n cov hU hI hm hB h := wpInI_mixed hU hI l n cov hm hB h

abbrev QS := Exit → Fr → Hp → Prop
/-- What a post on frames and blocks says of the machine. -/
def cv (c : Cx) (Q : QS) : Exit → Act → World → Prop := fun e a w => ∃ D F H, Q e F H ∧ Frm D c.N F a ∧ Has c.w0 ⟨c.M, D⟩ H w

def T (c : Cx) (S : WS c.P) (k : Code) (Q : QS) (F : Fr) (H : Hp) : Prop := ∀ D a w, Frm D c.N F a → Has c.w0 ⟨c.M, D⟩ H w → S.W k (cv c Q) a w

def thenQ (K : Fr → Hp → Prop) (Q : QS) : QS
  | .normal, F, H => K F H
  | e, F, H => Q e F H
def blockQ (id : Nat) (Q : QS) : QS
  | .exit i, F, H => match Nat.beq i id with | true => Q .normal F H | false => Q (.exit i) F H
  | e, F, H => Q e F H

section
variable {c : Cx} {S : WS c.P} {Q : QS} {F F' : Fr} {H H' : Hp} {x y : Code} {K : Fr → Hp → Prop}

theorem cv_then {e : Exit} {a : Act} {w : World} (h : cv c (thenQ K Q) e a w) : Exit.then (fun a w => ∃ D F H, K F H ∧ Frm D c.N F a ∧ Has c.w0 ⟨c.M, D⟩ H w) (cv c Q) e a w := by
  obtain ⟨D, F, H, h1, h2, h3⟩ := h
  cases e <;> exact ⟨D, F, H, h1, h2, h3⟩
theorem t_seq (h : T c S x (thenQ (T c S y Q) Q) F H) : T c S (.seq x y) Q F H := fun D a w ha hw =>
  S.seq (S.mono (h D a w ha hw) fun e a w he => by
    have := cv_then he
    cases e <;> first
      | exact this
      | (obtain ⟨D, F, H, h1, h2, h3⟩ := this; exact h1 D a w h2 h3))
theorem t_skip (h : Q .normal F H) : T c S .skip Q F H := fun D a w ha hw => S.skip ⟨D, F, H, h, ha, hw⟩
theorem t_exit {id : Nat} (h : Q (.exit id) F H) : T c S (.exit id) Q F H := fun D a w ha hw => S.exit ⟨D, F, H, h, ha, hw⟩
theorem t_ret (h : Q .ret F H) : T c S .ret Q F H := fun D a w ha hw => S.ret ⟨D, F, H, h, ha, hw⟩
theorem t_block {id : Nat} (h : T c S x (blockQ id Q) F H) : T c S (.block id x) Q F H := fun D a w ha hw =>
  S.block (S.mono (h D a w ha hw) fun e a w he => by
    obtain ⟨D, F, H, h1, h2, h3⟩ := he
    cases e with
    | exit i =>
      simp only [blockQ] at h1
      simp only [Exit.inBlock]
      split at h1
      · rename_i hb
        rw [if_pos (Nat.eq_of_beq_eq_true hb)]
        exact ⟨D, F, H, h1, h2, h3⟩
      · rename_i hb
        rw [if_neg (fun e => by subst e; simp at hb)]
        exact ⟨D, F, H, h1, h2, h3⟩
    | _ => exact ⟨D, F, H, h1, h2, h3⟩)
theorem t_condT {o : Operand} (ho : ev F o = some (.bool true)) (h : T c S x Q F H) : T c S (.cond o x y) Q F H := fun D a w ha hw => S.cond (ha.ev ho) (h D a w ha hw)
theorem t_condF {o : Operand} (ho : ev F o = some (.bool false)) (h : T c S y Q F H) : T c S (.cond o x y) Q F H := fun D a w ha hw => S.cond (ha.ev ho) (h D a w ha hw)
theorem t_cond {o : Operand} {b : Bool} (ho : ev F o = some (.bool b)) (h1 : b = true → T c S x Q F H) (h2 : b = false → T c S y Q F H) : T c S (.cond o x y) Q F H := by
  cases b
  · exact t_condF ho (h2 rfl)
  · exact t_condT ho (h1 rfl)
theorem t_condD {o : Operand} {p : Prop} {i : Decidable p} (ho : ev F o = some (.bool (decide p))) (h1 : p → T c S x Q F H) (h2 : ¬ p → T c S y Q F H) : T c S (.cond o x y) Q F H :=
  t_cond ho (fun h => h1 (of_decide_eq_true h)) (fun h => h2 (of_decide_eq_false h))
theorem t_condN {o : Operand} {p : Prop} {i : Decidable p} (ho : ev F o = some (.bool (!decide p))) (h1 : ¬ p → T c S x Q F H) (h2 : p → T c S y Q F H) : T c S (.cond o x y) Q F H :=
  t_cond ho (fun h => h1 (of_decide_eq_false (by simpa using h))) (fun h => h2 (of_decide_eq_true (by simpa using h)))

def FrSub (F : Fr) : Fr → Prop
  | [] => True
  | (d, v) :: G => look F d = some v ∧ FrSub F G
theorem FrSub.nil {F : Fr} : FrSub F [] := trivial
theorem FrSub.cons {F G : Fr} {d : Nat} {v : Value} (h : look F d = some v) (k : FrSub F G) : FrSub F ((d, v) :: G) := ⟨h, k⟩
theorem FrSub.consE {F G : Fr} {d : Nat} {v u : Value} (h : look F d = some u) (e : u = v) (k : FrSub F G) : FrSub F ((d, v) :: G) := ⟨e ▸ h, k⟩
theorem FrSub.look {F : Fr} : ∀ {G : Fr}, FrSub F G → ∀ d v, Ytmlmgipngbndgaa.look G d = some v → Ytmlmgipngbndgaa.look F d = some v
  | [], _, d, v, hv => by cases hv
  | (e, u) :: G, h, d, v, hv => by
    simp only [Ytmlmgipngbndgaa.look] at hv
    split at hv
    · rename_i hb
      obtain rfl := Nat.eq_of_beq_eq_true hb
      obtain rfl := Option.some.inj hv
      exact h.1
    · exact h.2.look d v hv
theorem Frm.sub {D : List Nat} {N : Nat} {a : Act} (h : Frm D N F a) (k : FrSub F F') : Frm D N F' a := ⟨h.size, h.defers, fun d v hv => h.at_ d v (k.look d v hv)⟩
inductive HpSub : Hp → Hp → Prop
  | nil {H : Hp} : HpSub H []
  | cons {H H' G : Hp} {b : Nat} {C : List Value} {g : Tg} (h : Pick H b C g H') (k : HpSub H' G) : HpSub H ((b, C, g) :: G)
theorem HpSub.consE {H H' G : Hp} {b : Nat} {C C' : List Value} {g : Tg} (h : Pick H b C g H') (e : C = C') (k : HpSub H' G) : HpSub H ((b, C', g) :: G) := e ▸ .cons h k
theorem Has.sub {w0 : World} {M : Ms} {w : World} (k : HpSub H H') (h : Has w0 M H w) : Has w0 M H' w := by
  have key : ∀ {H G : Hp}, HpSub H G → ∃ R, H.Perm (G ++ R) := by
    intro H G k
    induction k with
    | nil => exact ⟨_, List.Perm.refl _⟩
    | cons p _ ih =>
      obtain ⟨R, ih⟩ := ih
      exact ⟨R, p.perm.trans (List.Perm.cons _ ih)⟩
  obtain ⟨R, hp⟩ := key k
  have h' := h.perm hp
  refine ⟨h'.ext, fun x hx => h'.blk x (List.mem_append_left _ hx), ?_, h'.marks⟩
  have := h'.nodup
  rw [List.map_append] at this
  exact (List.nodup_append.1 this).1
theorem t_sub (hF : FrSub F F') (hH : HpSub H H') (h : T c S x Q F' H') : T c S x Q F H := fun D a w ha hw => h D a w (ha.sub hF) (hw.sub hH)

/-- A loop: what holds at each round's head, by an index. -/
theorem t_loop {ι : Type} (fr : ι → Fr) (hp : ι → Hp) (Pi : ι → Prop) (μ : ι → Nat) (i0 : ι) (h0 : Pi i0) (hF : FrSub F (fr i0)) (hH : HpSub H (hp i0))
    (h : ∀ i, Pi i → T c S x (thenQ (fun F' H' => ∃ j, Pi j ∧ μ j < μ i ∧ FrSub F' (fr j) ∧ HpSub H' (hp j)) Q) (fr i) (hp i)) : T c S (.loop x) Q F H := by
  intro D a w ha hw
  let I : Act → World → Nat → Prop := fun a w n => ∃ D i, Pi i ∧ μ i = n ∧ Frm D c.N (fr i) a ∧ Has c.w0 ⟨c.M, D⟩ (hp i) w
  -- the least measure of an index that fits
  have ex : ∀ a w, (∃ n, I a w n) → ∃ n, I a w n ∧ ∀ m, I a w m → n ≤ m := fun a w ⟨n, hn⟩ => by
    induction n using Nat.strongRecOn with
    | _ n ih =>
      by_cases hs : ∃ m, m < n ∧ I a w m
      · obtain ⟨m, hm, hi⟩ := hs; exact ih m hm hi
      · exact ⟨n, hn, fun m hm => by rcases Nat.lt_or_ge m n with h | h; exact absurd ⟨m, h, hm⟩ hs; exact h⟩
  let mm : Act → World → Nat := fun a w => open Classical in if h : ∃ n, I a w n then Classical.choose (ex a w h) else 0
  have hmm : ∀ a w n, I a w n → I a w (mm a w) ∧ mm a w ≤ n := fun a w n hn => by
    have hx : ∃ n, I a w n := ⟨n, hn⟩
    have h1 := Classical.choose_spec (ex a w hx)
    have h2 : mm a w = Classical.choose (ex a w hx) := dif_pos hx
    rw [h2]
    exact ⟨h1.1, h1.2 n hn⟩
  refine S.loop (fun a w => ∃ n, I a w n) mm ⟨_, D, i0, h0, rfl, ha.sub hF, hw.sub hH⟩ ?_
  intro a w ⟨n, hn⟩
  obtain ⟨⟨D, i, hi, hμ, hfa, hhw⟩, _⟩ := hmm a w n hn
  refine S.mono (h i hi D a w hfa hhw) fun e a' w' he => ?_
  have := cv_then he
  cases e <;> first
    | exact this
    | (obtain ⟨D', F', H', ⟨j, hj, hlt, hF', hH'⟩, h2, h3⟩ := this
       have hI : I a' w' (μ j) := ⟨D', j, hj, rfl, h2.sub hF', h3.sub hH'⟩
       exact ⟨⟨_, hI⟩, by have := (hmm a' w' _ hI).2; omega⟩)
end

/-- What the slots of a list hold, as far as it is known. -/
inductive KeepF (F : Fr) : List Nat → Fr → Prop
  | nil : KeepF F [] []
  | cons {s : Nat} {v : Value} {l : List Nat} {G : Fr} (h : look F s = some v) (k : KeepF F l G) : KeepF F (s :: l) ((s, v) :: G)
  | skip {s : Nat} {l : List Nat} {G : Fr} (k : KeepF F l G) : KeepF F (s :: l) G
theorem KeepF.sub {F G : Fr} {l : List Nat} (h : KeepF F l G) : FrSub F G := by
  induction h with
  | nil => exact .nil
  | cons h _ ih => exact .cons h ih
  | skip _ ih => exact ih
theorem FrSub.append {F : Fr} : ∀ {A B : Fr}, FrSub F A → FrSub F B → FrSub F (A ++ B)
  | [], _, _, h => h
  | (_, _) :: _, _, h, k => ⟨h.1, FrSub.append h.2 k⟩
theorem HpSub.refl : ∀ (H : Hp), HpSub H H
  | [] => .nil
  | (b, C, g) :: H => .cons (.head b C g H) (HpSub.refl H)
section
variable {c : Cx} {S : WS c.P} {Q : QS} {F : Fr} {H : Hp} {x : Code}
/-- A loop: the slots 'keep' stay; 'ch', 'hc': the slots and blocks that change, by an index. -/
theorem t_loopK {ι : Type} (keep : List Nat) (ch : ι → Fr) (hc : ι → Hp) (Pi : ι → Prop) (μ : ι → Nat) (i0 : ι) {G : Fr} {GH : Hp} (hK : KeepF F keep G) (hF : FrSub F (ch i0)) (hH : HpSub H (hc i0 ++ GH)) (h0 : Pi i0)
    (h : ∀ i, Pi i → T c S x (thenQ (fun F' H' => ∃ j, Pi j ∧ μ j < μ i ∧ FrSub F' (ch j ++ G) ∧ HpSub H' (hc j ++ GH)) Q) (ch i ++ G) (hc i ++ GH)) : T c S (.loop x) Q F H :=
  t_loop (fun i => ch i ++ G) (fun i => hc i ++ GH) Pi μ i0 h0 (hF.append hK.sub) hH h
end
/-! A region's operations, one behind the other -/
def TL (c : Cx) (ops : Array Oper) (rest : List Oper) (R : Fr → Hp → Prop) (F : Fr) (H : Hp) : Prop :=
  ∀ i, ops.toList.drop i = rest → ∀ D a w, Frm D c.N F a → Has c.w0 ⟨c.M, D⟩ H w → chain c.P ops (fun a w => ∃ F H, R F H ∧ Frm D c.N F a ∧ Has c.w0 ⟨c.M, D⟩ H w) (List.range' i (ops.size - i)) a w

theorem drop_cons {ops : Array Oper} {i : Nat} {o : Oper} {rest : List Oper} (h : ops.toList.drop i = o :: rest) : ops[i]? = some o ∧ ops.toList.drop (i + 1) = rest ∧ List.range' i (ops.size - i) = i :: List.range' (i + 1) (ops.size - (i + 1)) := by
  have hlt : i < ops.toList.length := by
    rcases Nat.lt_or_ge i ops.toList.length with h1 | h1
    · exact h1
    · rw [List.drop_eq_nil_of_le h1] at h; cases h
  have h2 : ops.toList[i]? = some o := by
    have : (ops.toList.drop i)[0]? = some o := by rw [h]; rfl
    simpa using this
  refine ⟨by simpa using h2, ?_, ?_⟩
  · have : (ops.toList.drop i).drop 1 = rest := by rw [h]; rfl
    simpa [List.drop_drop] using this
  · have hs : i < ops.size := by simpa using hlt
    rw [show ops.size - i = (ops.size - (i + 1)) + 1 by omega, List.range'_succ]
theorem givesUpon_wp {P : Program} {o : Oper} {a : Act} {w : World} {R : Value → World → Prop} {K : Act → World → Prop} (h : givesUpon P R ((execOp a.eval o).run P w)) (k : ∀ v w', R v w' → K (a.put o.dst v) w') : o.wp P a w K QF := by
  unfold Oper.wp
  generalize (execOp a.eval o).run P w = r at *
  cases r with
  | ok n w' =>
    cases n <;> simp only [givesUpon] at h <;> simp only [Oper.upon] <;> first
      | exact k _ _ h
      | exact h.mono fun e w2 ⟨u, he, hu⟩ => by subst he; exact k _ _ hu
      | exact h.mono fun u w2 hu => k _ _ hu
  | halt x w' => cases x <;> exact h.elim

section
variable {c : Cx} {S : WS c.P} {Q : QS} {F : Fr} {H : Hp} {ops : Array Oper} {o : Oper} {rest : List Oper} {R : Fr → Hp → Prop} {d : Nat} {v : Value}

theorem t_region {id : Nat} {l : List Oper} (hd : noDefer ⟨l⟩ = true) (h : TL c ⟨l⟩ l (fun F H => Q .normal F H) F H) : T c S (.region id ⟨l⟩ false) Q F H := fun D a w ha hw => by
  refine S.region hd ?_
  have := h 0 rfl D a w ha hw
  rw [List.range_eq_range']
  exact chain_mono (fun a w ⟨F, H, h1, h2, h3⟩ => ⟨D, F, H, h1, h2, h3⟩) _ _ _ this
theorem tl_nil (h : R F H) : TL c ops [] R F H := fun i hi D a w ha hw => by
  have : ops.size - i = 0 := by
    have := List.drop_eq_nil_iff.1 hi
    simp at this; omega
  rw [this]
  exact ⟨F, H, h, ha, hw⟩
theorem wanted_none {y : Nat → Option Bool} (h : o.guard = none) : Region.wanted o y = true := by unfold Region.wanted; rw [h]
theorem tl_q (hg : o.guard = none) (hd : o.dst = some d) (hN : Nat.blt d c.N = true) (h : OQ c o F H v) (k : TL c ops rest R ((d, v) :: F) H) : TL c ops (o :: rest) R F H := fun i hi D a w ha hw => by
  obtain ⟨h1, h2, h3⟩ := drop_cons hi
  rw [h3]
  simp only [chain, h1, wanted_none hg, if_true]
  refine givesUpon_wp (h D a w ha hw) fun u w' ⟨hu, hx⟩ => ?_
  subst hu
  rw [hd]
  exact k _ h2 _ _ _ (ha.put hN _) (hw.grow hx)
theorem tl_s (hg : o.guard = none) (hd : o.dst = some d) (hN : Nat.blt d c.N = true) (h : OS c o F H (fun v H' => TL c ops rest R ((d, v) :: F) H')) : TL c ops (o :: rest) R F H := fun i hi D a w ha hw => by
  obtain ⟨h1, h2, h3⟩ := drop_cons hi
  rw [h3]
  simp only [chain, h1, wanted_none hg, if_true]
  refine givesUpon_wp (h D a w ha hw) fun u w' ⟨H', hu, hx⟩ => ?_
  rw [hd]
  exact hu _ h2 _ _ _ (ha.put hN _) hx
theorem tl_s0 (hg : o.guard = none) (hd : o.dst = none) (h : OS c o F H (fun _ H' => TL c ops rest R F H')) : TL c ops (o :: rest) R F H := fun i hi D a w ha hw => by
  obtain ⟨h1, h2, h3⟩ := drop_cons hi
  rw [h3]
  simp only [chain, h1, wanted_none hg, if_true]
  refine givesUpon_wp (h D a w ha hw) fun u w' ⟨H', hu, hx⟩ => ?_
  rw [hd]
  exact hu _ h2 _ _ _ (ha.putNone _) hx

/-- The slot of the operation that guards. -/
def gslot (ops : Array Oper) (j : Nat) : Option Nat := (ops[j]?).bind (·.dst)
theorem yielded_at {j s : Nat} {b : Bool} {D : List Nat} {N : Nat} {a : Act} (ha : Frm D N F a) (hs : gslot ops j = some s) (hb : look F s = some (.bool b)) : yielded ops a.tmps j = some b := by
  unfold gslot at hs
  unfold yielded
  rw [hs]
  simp [ha.at_ s _ hb]
theorem wanted_T {j s : Nat} {b : Bool} {D : List Nat} {N : Nat} {a : Act} (ha : Frm D N F a) (hg : o.guard = some (j, b)) (hs : gslot ops j = some s) (hb : look F s = some (.bool b)) : Region.wanted o (yielded ops a.tmps) = true := by
  unfold Region.wanted
  rw [hg]
  simp [yielded_at ha hs hb]
theorem wanted_F {j s : Nat} {b b' : Bool} {D : List Nat} {N : Nat} {a : Act} (ha : Frm D N F a) (hg : o.guard = some (j, b)) (hs : gslot ops j = some s) (hb : look F s = some (.bool b')) (hne : (b' == b) = false) : Region.wanted o (yielded ops a.tmps) = false := by
  unfold Region.wanted
  rw [hg]
  simp only [yielded_at ha hs hb]
  cases b <;> cases b' <;> first | rfl | cases hne
theorem tl_gq {j s : Nat} {b : Bool} (hg : o.guard = some (j, b)) (hs : gslot ops j = some s) (hb : look F s = some (.bool b)) (hd : o.dst = some d) (hN : Nat.blt d c.N = true) (h : OQ c o F H v) (k : TL c ops rest R ((d, v) :: F) H) : TL c ops (o :: rest) R F H := fun i hi D a w ha hw => by
  obtain ⟨h1, h2, h3⟩ := drop_cons hi
  rw [h3]
  simp only [chain, h1, wanted_T ha hg hs hb, if_true]
  refine givesUpon_wp (h D a w ha hw) fun u w' ⟨hu, hx⟩ => ?_
  subst hu
  rw [hd]
  exact k _ h2 _ _ _ (ha.put hN _) (hw.grow hx)
theorem tl_gs {j s : Nat} {b : Bool} (hg : o.guard = some (j, b)) (hs : gslot ops j = some s) (hb : look F s = some (.bool b)) (hd : o.dst = some d) (hN : Nat.blt d c.N = true) (h : OS c o F H (fun v H' => TL c ops rest R ((d, v) :: F) H')) : TL c ops (o :: rest) R F H := fun i hi D a w ha hw => by
  obtain ⟨h1, h2, h3⟩ := drop_cons hi
  rw [h3]
  simp only [chain, h1, wanted_T ha hg hs hb, if_true]
  refine givesUpon_wp (h D a w ha hw) fun u w' ⟨H', hu, hx⟩ => ?_
  rw [hd]
  exact hu _ h2 _ _ _ (ha.put hN _) hx
theorem tl_gF {j s : Nat} {b b' : Bool} (hg : o.guard = some (j, b)) (hs : gslot ops j = some s) (hb : look F s = some (.bool b')) (hne : (b' == b) = false) (hd : o.dst = some d) (hN : Nat.blt d c.N = true) (k : TL c ops rest R ((d, undef) :: F) H) : TL c ops (o :: rest) R F H := fun i hi D a w ha hw => by
  obtain ⟨h1, h2, h3⟩ := drop_cons hi
  rw [h3]
  simp only [chain, h1, wanted_F ha hg hs hb hne, Bool.false_eq_true, if_false]
  rw [hd]
  exact k _ h2 _ _ _ (ha.put hN _) hw
/-- A truth value that is not known: both ways. -/
theorem Frm.same {D : List Nat} {N s : Nat} {a : Act} {u : Value} (ha : Frm D N F a) (hb : look F s = some u) : Frm D N ((s, u) :: F) a := by
  refine ⟨ha.size, ha.defers, fun t v hv => ?_⟩
  by_cases h : s = t
  · subst h; rw [look_cons_self] at hv; obtain rfl := Option.some.inj hv; exact ha.at_ _ _ hb
  · rw [look_cons_ne F u h] at hv; exact ha.at_ _ _ hv
theorem tl_split {j s : Nat} {b b' : Bool} (hg : o.guard = some (j, b')) (hs : gslot ops j = some s) (hb : look F s = some (.bool b)) (h1 : b = true → TL c ops (o :: rest) R ((s, .bool true) :: F) H) (h2 : b = false → TL c ops (o :: rest) R ((s, .bool false) :: F) H) :
    TL c ops (o :: rest) R F H := fun i hi D a w ha hw => by
  cases b
  · exact h2 rfl i hi D a w (ha.same hb) hw
  · exact h1 rfl i hi D a w (ha.same hb) hw
theorem tl_splitD {j s : Nat} {b' : Bool} {p : Prop} {i : Decidable p} (hg : o.guard = some (j, b')) (hs : gslot ops j = some s) (hb : look F s = some (.bool (decide p))) (h1 : p → TL c ops (o :: rest) R ((s, .bool true) :: F) H) (h2 : ¬ p → TL c ops (o :: rest) R ((s, .bool false) :: F) H) :
    TL c ops (o :: rest) R F H := tl_split hg hs hb (fun h => h1 (of_decide_eq_true h)) (fun h => h2 (of_decide_eq_false h))

/-- Does the operation run, as far as the frame tells? -/
def runs (ops : Array Oper) (F : Fr) (o : Oper) : Option Bool :=
  match o.guard with
  | none => some true
  | some (j, want) => match gslot ops j with
    | none => none
    | some s => match look F s with
      | some (.bool b) => match b, want with
        | true, true => some true
        | false, false => some true
        | true, false => some false
        | false, true => some false
      | some (.tuple ⟨[]⟩) => some false
      | _ => none
theorem wanted_U {j s : Nat} {b : Bool} {D : List Nat} {N : Nat} {a : Act} (ha : Frm D N F a) (hg : o.guard = some (j, b)) (hs : gslot ops j = some s) (hb : look F s = some (.tuple ⟨[]⟩)) : Region.wanted o (yielded ops a.tmps) = false := by
  have hy : yielded ops a.tmps j = none := by
    unfold gslot at hs
    unfold yielded
    rw [hs]
    simp [ha.at_ s _ hb]
  unfold Region.wanted
  rw [hg]
  simp [hy]
/-- The slot that guards. -/
def gof (ops : Array Oper) (o : Oper) : Option Nat :=
  match o.guard with
  | none => none
  | some (j, _) => gslot ops j
theorem runs_spec {D : List Nat} {N : Nat} {a : Act} {r : Bool} (ha : Frm D N F a) (h : runs ops F o = some r) : Region.wanted o (yielded ops a.tmps) = r := by
  unfold runs at h
  split at h
  · rename_i hg
    cases h
    exact wanted_none hg
  · rename_i j want hg
    split at h
    · cases h
    · rename_i s hs
      split at h
      · rename_i b hb
        cases b <;> cases want <;> cases h <;> first
          | exact wanted_T ha hg hs hb
          | exact wanted_F ha hg hs hb rfl
      · rename_i hb
        cases h
        exact wanted_U ha hg hs hb
      · cases h
/-- Does it make or write blocks? -/
def isX : Op → Bool
  | .alloc _ | .box .. | .buildSlice .. => true
  | _ => false
def isW : Op → Bool
  | .alloc _ | .box .. | .buildSlice .. | .store .. | .makeSlice .. => true
  | .call ⟨.builtin .append, _, _⟩ => true
  | _ => false
theorem u_q (hr : runs ops F o = some true) (_hw : isW o.op = false) (hd : o.dst = some d) (hN : Nat.blt d c.N = true) (h : OQ c o F H v) (k : TL c ops rest R ((d, v) :: F) H) : TL c ops (o :: rest) R F H := fun i hi D a w ha hw => by
  obtain ⟨h1, h2, h3⟩ := drop_cons hi
  rw [h3]
  simp only [chain, h1, runs_spec ha hr, if_true]
  refine givesUpon_wp (h D a w ha hw) fun u w' ⟨hu, hx⟩ => ?_
  subst hu
  rw [hd]
  exact k _ h2 _ _ _ (ha.put hN _) (hw.grow hx)
theorem u_s (hr : runs ops F o = some true) (hd : o.dst = some d) (hN : Nat.blt d c.N = true) (h : OS c o F H (fun v H' => TL c ops rest R ((d, v) :: F) H')) : TL c ops (o :: rest) R F H := fun i hi D a w ha hw => by
  obtain ⟨h1, h2, h3⟩ := drop_cons hi
  rw [h3]
  simp only [chain, h1, runs_spec ha hr, if_true]
  refine givesUpon_wp (h D a w ha hw) fun u w' ⟨H', hu, hx⟩ => ?_
  rw [hd]
  exact hu _ h2 _ _ _ (ha.put hN _) hx
theorem u_s0 (hr : runs ops F o = some true) (hd : o.dst = none) (h : OS c o F H (fun _ H' => TL c ops rest R F H')) : TL c ops (o :: rest) R F H := fun i hi D a w ha hw => by
  obtain ⟨h1, h2, h3⟩ := drop_cons hi
  rw [h3]
  simp only [chain, h1, runs_spec ha hr, if_true]
  refine givesUpon_wp (h D a w ha hw) fun u w' ⟨H', hu, hx⟩ => ?_
  rw [hd]
  exact hu _ h2 _ _ _ (ha.putNone _) hx
theorem u_skip (hr : runs ops F o = some false) (hd : o.dst = some d) (hN : Nat.blt d c.N = true) (k : TL c ops rest R ((d, undef) :: F) H) : TL c ops (o :: rest) R F H := fun i hi D a w ha hw => by
  obtain ⟨h1, h2, h3⟩ := drop_cons hi
  rw [h3]
  simp only [chain, h1, runs_spec ha hr, Bool.false_eq_true, if_false]
  rw [hd]
  exact k _ h2 _ _ _ (ha.put hN _) hw
theorem u_split {s : Nat} {b : Bool} (hg : gof ops o = some s) (hb : look F s = some (.bool b)) (h1 : b = true → TL c ops (o :: rest) R ((s, .bool true) :: F) H) (h2 : b = false → TL c ops (o :: rest) R ((s, .bool false) :: F) H) :
    TL c ops (o :: rest) R F H := fun i hi D a w ha hw => by
  cases b
  · exact h2 rfl i hi D a w (ha.same hb) hw
  · exact h1 rfl i hi D a w (ha.same hb) hw
theorem u_splitD {s : Nat} {p : Prop} {i : Decidable p} (hg : gof ops o = some s) (hb : look F s = some (.bool (decide p))) (h1 : p → TL c ops (o :: rest) R ((s, .bool true) :: F) H) (h2 : ¬ p → TL c ops (o :: rest) R ((s, .bool false) :: F) H) :
    TL c ops (o :: rest) R F H := u_split hg hb (fun h => h1 (of_decide_eq_true h)) (fun h => h2 (of_decide_eq_false h))
theorem u_splitN {s : Nat} {p : Prop} {i : Decidable p} (hg : gof ops o = some s) (hb : look F s = some (.bool (!decide p))) (h1 : ¬ p → TL c ops (o :: rest) R ((s, .bool true) :: F) H) (h2 : p → TL c ops (o :: rest) R ((s, .bool false) :: F) H) :
    TL c ops (o :: rest) R F H := u_split hg hb (fun h => h1 (of_decide_eq_false (by simpa using h))) (fun h => h2 (of_decide_eq_true (by simpa using h)))

/-! A region that draws its order: the quiet operations -/
theorem Has.up {w0 : World} {M : Ms} {H : Hp} : Up (Has w0 M H) := fun _ _ h e => h.grow e
def GL (c : Cx) (ops : Array Oper) (rest : List Nat) (R : Fr → Prop) (F : Fr) (H : Hp) : Prop :=
  ∀ D a, Frm D c.N F a → wpGI c.P ops (Has c.w0 ⟨c.M, D⟩ H) (fun a' => ∃ F', R F' ∧ Frm D c.N F' a') rest a
theorem gl_nil {R : Fr → Prop} (h : R F) : GL c ops [] R F H := fun D a ha => wpGI_nil ⟨F, h, ha⟩
theorem gl_go {i : Nat} {rest : List Nat} {R : Fr → Prop} (ho : ops[i]? = some o) (hw0 : ∀ D a, Frm D c.N F a → Region.wanted o (yielded ops a.tmps) = true) (hd : o.dst = some d) (hN : Nat.blt d c.N = true) (h : OQ c o F H v) (k : GL c ops rest R ((d, v) :: F) H) : GL c ops (i :: rest) R F H := fun D a ha =>
  wpGI_step (v := v) ho (hw0 D a ha) (fun w hw => h D a w ha hw) (by rw [hd]; exact k _ _ (ha.put hN _))
theorem gl_q {i : Nat} {rest : List Nat} {R : Fr → Prop} (ho : ops[i]? = some o) (hg : o.guard = none) (hd : o.dst = some d) (hN : Nat.blt d c.N = true) (h : OQ c o F H v) (k : GL c ops rest R ((d, v) :: F) H) : GL c ops (i :: rest) R F H :=
  gl_go ho (fun _ _ _ => wanted_none hg) hd hN h k
theorem gl_gq {i j s : Nat} {b : Bool} {rest : List Nat} {R : Fr → Prop} (ho : ops[i]? = some o) (hg : o.guard = some (j, b)) (hs : gslot ops j = some s) (hb : look F s = some (.bool b)) (hd : o.dst = some d) (hN : Nat.blt d c.N = true) (h : OQ c o F H v) (k : GL c ops rest R ((d, v) :: F) H) : GL c ops (i :: rest) R F H :=
  gl_go ho (fun _ _ ha => wanted_T ha hg hs hb) hd hN h k
theorem gl_gF {i j s : Nat} {b b' : Bool} {rest : List Nat} {R : Fr → Prop} (ho : ops[i]? = some o) (hg : o.guard = some (j, b)) (hs : gslot ops j = some s) (hb : look F s = some (.bool b')) (hne : (b' == b) = false) (hd : o.dst = some d) (hN : Nat.blt d c.N = true) (k : GL c ops rest R ((d, undef) :: F) H) : GL c ops (i :: rest) R F H := fun D a ha =>
  wpGI_skip ho (wanted_F ha hg hs hb hne) hd (k _ _ (ha.put hN _))
theorem gl_split {i j s : Nat} {b b' : Bool} {rest : List Nat} {R : Fr → Prop} (ho : ops[i]? = some o) (hg : o.guard = some (j, b')) (hs : gslot ops j = some s) (hb : look F s = some (.bool b)) (h1 : b = true → GL c ops (i :: rest) R ((s, .bool true) :: F) H) (h2 : b = false → GL c ops (i :: rest) R ((s, .bool false) :: F) H) :
    GL c ops (i :: rest) R F H := fun D a ha => by
  cases b
  · exact h2 rfl D a (ha.same hb)
  · exact h1 rfl D a (ha.same hb)
theorem gl_splitD {i j s : Nat} {b' : Bool} {p : Prop} {i' : Decidable p} {rest : List Nat} {R : Fr → Prop} (ho : ops[i]? = some o) (hg : o.guard = some (j, b')) (hs : gslot ops j = some s) (hb : look F s = some (.bool (decide p))) (h1 : p → GL c ops (i :: rest) R ((s, .bool true) :: F) H) (h2 : ¬ p → GL c ops (i :: rest) R ((s, .bool false) :: F) H) :
    GL c ops (i :: rest) R F H := gl_split ho hg hs hb (fun h => h1 (of_decide_eq_true h)) (fun h => h2 (of_decide_eq_false h))

/-- Quiet operations of a region that draws its order, one behind the other. -/
def GX (c : Cx) (ops : Array Oper) (rest : List Oper) (R : Fr → Prop) (F : Fr) (H : Hp) : Prop :=
  ∀ l : List Nat, l.map (fun i => ops[i]?) = rest.map some → GL c ops l R F H
theorem map_cons {l : List Nat} (h : l.map (fun i => ops[i]?) = (o :: rest).map some) : ∃ i l', l = i :: l' ∧ ops[i]? = some o ∧ l'.map (fun i => ops[i]?) = rest.map some := by
  cases l with
  | nil => cases h
  | cons i l =>
    rw [List.map_cons, List.map_cons] at h
    injection h with h1 h2
    exact ⟨i, l, rfl, h1, h2⟩
theorem v_nil {R : Fr → Prop} (h : R F) : GX c ops [] R F H := fun l hl => by
  obtain rfl : l = [] := by simpa using hl
  exact gl_nil h
theorem v_q {R : Fr → Prop} (hr : runs ops F o = some true) (hd : o.dst = some d) (hN : Nat.blt d c.N = true) (h : OQ c o F H v) (k : GX c ops rest R ((d, v) :: F) H) : GX c ops (o :: rest) R F H := fun l hl => by
  obtain ⟨i, l, rfl, h1, h2⟩ := map_cons hl
  exact gl_go h1 (fun D a ha => runs_spec ha hr) hd hN h (k l h2)
theorem v_skip {R : Fr → Prop} (hr : runs ops F o = some false) (hd : o.dst = some d) (hN : Nat.blt d c.N = true) (k : GX c ops rest R ((d, undef) :: F) H) : GX c ops (o :: rest) R F H := fun l hl => by
  obtain ⟨i, l, rfl, h1, h2⟩ := map_cons hl
  exact fun D a ha => wpGI_skip h1 (runs_spec ha hr) hd (k l h2 _ _ (ha.put hN _))
theorem v_split {s : Nat} {b : Bool} {R : Fr → Prop} (hg : gof ops o = some s) (hb : look F s = some (.bool b)) (h1 : b = true → GX c ops (o :: rest) R ((s, .bool true) :: F) H) (h2 : b = false → GX c ops (o :: rest) R ((s, .bool false) :: F) H) :
    GX c ops (o :: rest) R F H := fun l hl D a ha => by
  cases b
  · exact h2 rfl l hl D a (ha.same hb)
  · exact h1 rfl l hl D a (ha.same hb)
theorem v_splitD {s : Nat} {p : Prop} {i' : Decidable p} {R : Fr → Prop} (hg : gof ops o = some s) (hb : look F s = some (.bool (decide p))) (h1 : p → GX c ops (o :: rest) R ((s, .bool true) :: F) H) (h2 : ¬ p → GX c ops (o :: rest) R ((s, .bool false) :: F) H) :
    GX c ops (o :: rest) R F H := v_split hg hb (fun h => h1 (of_decide_eq_true h)) (fun h => h2 (of_decide_eq_false h))
theorem v_splitN {s : Nat} {p : Prop} {i' : Decidable p} {R : Fr → Prop} (hg : gof ops o = some s) (hb : look F s = some (.bool (!decide p))) (h1 : ¬ p → GX c ops (o :: rest) R ((s, .bool true) :: F) H) (h2 : p → GX c ops (o :: rest) R ((s, .bool false) :: F) H) :
    GX c ops (o :: rest) R F H := v_split hg hb (fun h => h1 (of_decide_eq_false (by simpa using h))) (fun h => h2 (of_decide_eq_true (by simpa using h)))
def nthO : List Oper → Nat → Option Oper
  | [], _ => none
  | o :: _, 0 => some o
  | _ :: l, n + 1 => nthO l n
theorem nthO_spec {l : List Oper} {i : Nat} {o : Oper} (h : nthO l i = some o) : l[i]? = some o := by
  induction l generalizing i with
  | nil => cases h
  | cons x l ih =>
    cases i with
    | zero => simpa [nthO] using h
    | succ i => simpa using ih h
/-- The operations of these numbers. -/
def pickOps (l : List Oper) : List Nat → Option (List Oper)
  | [] => some []
  | i :: r => match nthO l i, pickOps l r with
    | some o, some os => some (o :: os)
    | _, _ => none
theorem pickOps_spec {l : List Oper} : ∀ {r : List Nat} {os : List Oper}, pickOps l r = some os → r.map (fun i => (Array.mk l)[i]?) = os.map some
  | [], os, h => by obtain rfl := Option.some.inj h; rfl
  | i :: r, os, h => by
    unfold pickOps at h
    split at h
    · rename_i o os' h1 h2
      obtain rfl := Option.some.inj h
      rw [List.map_cons, List.map_cons, pickOps_spec h2]
      simp [nthO_spec h1]
    · cases h

/-- What is left of a region that draws its order. -/
def AL (c : Cx) (ops : Array Oper) (cov : Array Bool) (H0 : Hp) (n : Nat) (listed : Array Bool) (R : Fr → Hp → Prop) (F : Fr) (H : Hp) : Prop :=
  ∀ D a w, Frm D c.N F a → Has c.w0 ⟨c.M, D⟩ H w → SAnyI c.P ops cov (Has c.w0 ⟨c.M, D⟩ H0) (fun a w => ∃ D F H, R F H ∧ Frm D c.N F a ∧ Has c.w0 ⟨c.M, D⟩ H w) n listed a w

theorem t_mixed {id : Nat} (l : List Nat) (n : Nat) (cov : Array Bool) (hm : c.P.follows .mixedOrders = true) (hB : (Region.noSelect ops && (n + l.length == ops.size) && lexOk ops cov l (Array.replicate ops.size false) && noDefer ops) = true)
    (h : GL c ops l (fun F' => AL c ops cov H n (listedBy l (Array.replicate ops.size false)) (fun F H => Q .normal F H) F' H) F H) : T c S (.region id ops true) Q F H := fun D a w ha hw => by
  refine S.mixed l n cov (Has.up (M := ⟨c.M, D⟩)) hw hm hB (wpGI_mono (fun a' ⟨F', h1, h2⟩ w' hw' => ?_) l a (h D a ha))
  exact h1 D a' w' h2 hw'
theorem al_done {cov : Array Bool} {H0 : Hp} {n : Nat} {listed : Array Bool} (hr : Region.ready .any ops listed = []) (h : R F H) : AL c ops cov H0 n listed R F H := fun D a w ha hw => SAnyI_done hr ⟨D, F, H, h, ha, hw⟩
theorem t_quiet {id : Nat} (l : List Nat) (hm : c.P.follows .mixedOrders = true)
    (hB : (Region.noSelect ops && (0 + l.length == ops.size) && lexOk ops #[] l (Array.replicate ops.size false) && noDefer ops && (Region.ready .any ops (listedBy l (Array.replicate ops.size false))).isEmpty) = true)
    (h : GL c ops l (fun F' => Q .normal F' H) F H) : T c S (.region id ops true) Q F H := by
  simp only [Bool.and_eq_true] at hB
  refine t_mixed l 0 #[] hm (by simp only [Bool.and_eq_true]; exact hB.1) ?_
  have hr : Region.ready .any ops (listedBy l (Array.replicate ops.size false)) = [] := by simpa using hB.2
  intro D a ha
  exact wpGI_mono (fun a' ⟨F', h1, h2⟩ => ⟨F', al_done hr h1, h2⟩) l a (h D a ha)
/-- May the operations be taken in the text's order? -/
def quietOk (ops : Array Oper) : Bool :=
  let l := List.range' 0 ops.size
  Region.noSelect ops && (0 + l.length == ops.size) && lexOk ops #[] l (Array.replicate ops.size false) && noDefer ops && (Region.ready .any ops (listedBy l (Array.replicate ops.size false))).isEmpty && ops.all fun o => !isW o.op
theorem range_map (l : List Oper) : (List.range' 0 (Array.mk l).size).map (fun i => (Array.mk l)[i]?) = l.map some := by
  apply List.ext_getElem?
  intro i
  simp only [List.getElem?_map, List.getElem?_range']
  by_cases h : i < l.length
  · simp [h]
  · simp [h]
theorem t_drawn {id : Nat} {l : List Oper} (hm : c.P.follows .mixedOrders = true) (hB : quietOk ⟨l⟩ = true) (h : GX c ⟨l⟩ l (fun F' => Q .normal F' H) F H) : T c S (.region id ⟨l⟩ true) Q F H :=
  t_quiet (List.range' 0 (Array.mk l).size) hm (by unfold quietOk at hB; simp only [Bool.and_eq_true] at hB ⊢; exact hB.1) (h _ (range_map l))
theorem t_mix {id : Nat} {l ql : List Oper} (q : List Nat) (n : Nat) (cov : Array Bool) (hm : c.P.follows .mixedOrders = true) (hB : (Region.noSelect ⟨l⟩ && (n + q.length == (Array.mk l).size) && lexOk ⟨l⟩ cov q (Array.replicate (Array.mk l).size false) && noDefer ⟨l⟩) = true) (hq : pickOps l q = some ql)
    (h : GX c ⟨l⟩ ql (fun F' => AL c ⟨l⟩ cov H n (listedBy q (Array.replicate (Array.mk l).size false)) (fun F H => Q .normal F H) F' H) F H) : T c S (.region id ⟨l⟩ true) Q F H :=
  t_mixed q n cov hm hB (h q (pickOps_spec hq))
/-- Operation i is taken next. -/
def AI (c : Cx) (ops : Array Oper) (cov : Array Bool) (H0 : Hp) (n : Nat) (listed : Array Bool) (i : Nat) (R : Fr → Hp → Prop) (F : Fr) (H : Hp) : Prop :=
  ∀ D a w, Frm D c.N F a → Has c.w0 ⟨c.M, D⟩ H w → wpOp c.P ops QF i (fun a' w' => (cov.getD i false = false → Has c.w0 ⟨c.M, D⟩ H0 w → Has c.w0 ⟨c.M, D⟩ H0 w') ∧ ∀ w'', Ext w' w'' → SAnyI c.P ops cov (Has c.w0 ⟨c.M, D⟩ H0) (fun a w => ∃ D F H, R F H ∧ Frm D c.N F a ∧ Has c.w0 ⟨c.M, D⟩ H w) n (listed.setIfInBounds i true) a' w'') a w
section
variable {cov : Array Bool} {H0 : Hp} {n : Nat} {listed : Array Bool}
theorem al_list {rs : List Nat} (hr : Region.ready .any ops listed = rs) (hne : rs ≠ []) (h : ∀ j ∈ rs, AI c ops cov H0 n listed j R F H) : AL c ops cov H0 (n + 1) listed R F H := fun D a w ha hw =>
  ⟨fun h0 => absurd (hr.symm.trans h0) hne, fun j hj => h j (hr ▸ hj) D a w ha hw⟩
theorem al_one (i : Nat) (hr : Region.ready .any ops listed = [i]) (h : AI c ops cov H0 n listed i R F H) : AL c ops cov H0 (n + 1) listed R F H :=
  al_list hr (by simp) fun j hj => by
    obtain rfl : j = i := by simpa using hj
    exact h
theorem al_two (i k : Nat) (hr : Region.ready .any ops listed = [i, k]) (h : AI c ops cov H0 n listed i R F H) (h' : AI c ops cov H0 n listed k R F H) : AL c ops cov H0 (n + 1) listed R F H :=
  al_list hr (by simp) fun j hj => by
    rcases (by simpa using hj : j = i ∨ j = k) with rfl | rfl
    · exact h
    · exact h'
theorem al_three (i k m : Nat) (hr : Region.ready .any ops listed = [i, k, m]) (h : AI c ops cov H0 n listed i R F H) (h' : AI c ops cov H0 n listed k R F H) (h'' : AI c ops cov H0 n listed m R F H) : AL c ops cov H0 (n + 1) listed R F H :=
  al_list hr (by simp) fun j hj => by
    rcases (by simpa using hj : j = i ∨ j = k ∨ j = m) with rfl | rfl | rfl
    · exact h
    · exact h'
    · exact h''
theorem al_four (i k m p : Nat) (hr : Region.ready .any ops listed = [i, k, m, p]) (h : AI c ops cov H0 n listed i R F H) (h' : AI c ops cov H0 n listed k R F H) (h'' : AI c ops cov H0 n listed m R F H) (h3 : AI c ops cov H0 n listed p R F H) : AL c ops cov H0 (n + 1) listed R F H :=
  al_list hr (by simp) fun j hj => by
    rcases (by simpa using hj : j = i ∨ j = k ∨ j = m ∨ j = p) with rfl | rfl | rfl | rfl
    · exact h
    · exact h'
    · exact h''
    · exact h3
theorem wpOp_go {P : Program} {i : Nat} {l : List Oper} {a : Act} {w : World} {K : Act → World → Prop} (ho : nthO l i = some o) (hw : Region.wanted o (yielded ⟨l⟩ a.tmps) = true) (h : o.wp P a w K QF) : wpOp P ⟨l⟩ QF i K a w := by
  have ho : (Array.mk l)[i]? = some o := by simpa using nthO_spec ho
  unfold wpOp
  simp only [ho, hw, if_true]
  exact .inl h
theorem wpOp_no {P : Program} {i : Nat} {l : List Oper} {a : Act} {w : World} {K : Act → World → Prop} (ho : nthO l i = some o) (hw : Region.wanted o (yielded ⟨l⟩ a.tmps) = false) (h : K (a.put o.dst undef) w) : wpOp P ⟨l⟩ QF i K a w := by
  have ho : (Array.mk l)[i]? = some o := by simpa using nthO_spec ho
  unfold wpOp
  simp only [ho, hw, Bool.false_eq_true, if_false]
  exact h
theorem ai_q {i : Nat} {l : List Oper} (ho : nthO l i = some o) (_ : isW o.op = false) (hr : runs ⟨l⟩ F o = some true) (hd : o.dst = some d) (hN : Nat.blt d c.N = true)
    (h : OQ c o F H v) (k : AL c ⟨l⟩ cov H0 n (listed.setIfInBounds i true) R ((d, v) :: F) H) : AI c ⟨l⟩ cov H0 n listed i R F H := fun D a w ha hw => by
  refine wpOp_go ho (runs_spec ha hr) (givesUpon_wp (h D a w ha hw) fun u w' ⟨hu, hx⟩ => ?_)
  subst hu
  rw [hd]
  exact ⟨fun _ hI => hI.grow hx, fun w'' hw'' => k _ _ _ (ha.put hN _) ((hw.grow hx).grow hw'')⟩
theorem ai_s {i : Nat} {l : List Oper} (ho : nthO l i = some o) (hr : runs ⟨l⟩ F o = some true) (hd : o.dst = some d) (hN : Nat.blt d c.N = true) (hc : cov.getD i false = true)
    (h : OS c o F H (fun v H' => AL c ⟨l⟩ cov H0 n (listed.setIfInBounds i true) R ((d, v) :: F) H')) : AI c ⟨l⟩ cov H0 n listed i R F H := fun D a w ha hw => by
  refine wpOp_go ho (runs_spec ha hr) (givesUpon_wp (h D a w ha hw) fun u w' ⟨H', hu, hx⟩ => ?_)
  rw [hd]
  exact ⟨fun h => by rw [hc] at h; (cases h), fun w'' hw'' => hu _ _ _ (ha.put hN _) (hx.grow hw'')⟩
theorem ai_x {i : Nat} {l : List Oper} (ho : nthO l i = some o) (_ : isX o.op = true) (hr : runs ⟨l⟩ F o = some true) (hd : o.dst = some d) (hN : Nat.blt d c.N = true)
    (h : OX c o F H (fun v H' => AL c ⟨l⟩ cov H0 n (listed.setIfInBounds i true) R ((d, v) :: F) H')) : AI c ⟨l⟩ cov H0 n listed i R F H := fun D a w ha hw => by
  refine wpOp_go ho (runs_spec ha hr) (givesUpon_wp (h D a w ha hw) fun u w' ⟨⟨H', hu, hx⟩, he⟩ => ?_)
  rw [hd]
  exact ⟨fun _ hI => hI.grow he, fun w'' hw'' => hu _ _ _ (ha.put hN _) (hx.grow hw'')⟩
theorem ai_s0 {i : Nat} {l : List Oper} (ho : nthO l i = some o) (hr : runs ⟨l⟩ F o = some true) (hd : o.dst = none) (hc : cov.getD i false = true)
    (h : OS c o F H (fun _ H' => AL c ⟨l⟩ cov H0 n (listed.setIfInBounds i true) R F H')) : AI c ⟨l⟩ cov H0 n listed i R F H := fun D a w ha hw => by
  refine wpOp_go ho (runs_spec ha hr) (givesUpon_wp (h D a w ha hw) fun u w' ⟨H', hu, hx⟩ => ?_)
  rw [hd]
  exact ⟨fun h => by rw [hc] at h; (cases h), fun w'' hw'' => hu _ _ _ (ha.putNone _) (hx.grow hw'')⟩
/-- It writes, but none of the blocks that there were at the region's start. -/
theorem ai_n {i : Nat} {l : List Oper} (ho : nthO l i = some o) (hr : runs ⟨l⟩ F o = some true) (hd : o.dst = some d) (hN : Nat.blt d c.N = true)
    (h : OS c o F H (fun v H' => HpSub H' H0 ∧ AL c ⟨l⟩ cov H0 n (listed.setIfInBounds i true) R ((d, v) :: F) H')) : AI c ⟨l⟩ cov H0 n listed i R F H := fun D a w ha hw => by
  refine wpOp_go ho (runs_spec ha hr) (givesUpon_wp (h D a w ha hw) fun u w' ⟨H', ⟨hs, hu⟩, hx⟩ => ?_)
  rw [hd]
  exact ⟨fun _ _ => hx.sub hs, fun w'' hw'' => hu _ _ _ (ha.put hN _) (hx.grow hw'')⟩
theorem ai_n0 {i : Nat} {l : List Oper} (ho : nthO l i = some o) (hr : runs ⟨l⟩ F o = some true) (hd : o.dst = none)
    (h : OS c o F H (fun _ H' => HpSub H' H0 ∧ AL c ⟨l⟩ cov H0 n (listed.setIfInBounds i true) R F H')) : AI c ⟨l⟩ cov H0 n listed i R F H := fun D a w ha hw => by
  refine wpOp_go ho (runs_spec ha hr) (givesUpon_wp (h D a w ha hw) fun u w' ⟨H', ⟨hs, hu⟩, hx⟩ => ?_)
  rw [hd]
  exact ⟨fun _ _ => hx.sub hs, fun w'' hw'' => hu _ _ _ (ha.putNone _) (hx.grow hw'')⟩
/-- It is not wanted. -/
theorem ai_skip {i : Nat} {l : List Oper} (ho : nthO l i = some o) (hr : runs ⟨l⟩ F o = some false) (hd : o.dst = some d) (hN : Nat.blt d c.N = true) (k : AL c ⟨l⟩ cov H0 n (listed.setIfInBounds i true) R ((d, undef) :: F) H) : AI c ⟨l⟩ cov H0 n listed i R F H := fun D a w ha hw => by
  refine wpOp_no ho (runs_spec ha hr) ?_
  rw [hd]
  exact ⟨fun _ hI => hI, fun w'' hw'' => k _ _ _ (ha.put hN _) (hw.grow hw'')⟩
theorem ai_split {i s : Nat} {b : Bool} {l : List Oper} (ho : nthO l i = some o) (hg : gof ⟨l⟩ o = some s) (hb : look F s = some (.bool b)) (h1 : b = true → AI c ⟨l⟩ cov H0 n listed i R ((s, .bool true) :: F) H) (h2 : b = false → AI c ⟨l⟩ cov H0 n listed i R ((s, .bool false) :: F) H) :
    AI c ⟨l⟩ cov H0 n listed i R F H := fun D a w ha hw => by
  cases b
  · exact h2 rfl D a w (ha.same hb) hw
  · exact h1 rfl D a w (ha.same hb) hw
theorem ai_splitD {i s : Nat} {p : Prop} {i' : Decidable p} {l : List Oper} (ho : nthO l i = some o) (hg : gof ⟨l⟩ o = some s) (hb : look F s = some (.bool (decide p))) (h1 : p → AI c ⟨l⟩ cov H0 n listed i R ((s, .bool true) :: F) H) (h2 : ¬ p → AI c ⟨l⟩ cov H0 n listed i R ((s, .bool false) :: F) H) :
    AI c ⟨l⟩ cov H0 n listed i R F H := ai_split ho hg hb (fun h => h1 (of_decide_eq_true h)) (fun h => h2 (of_decide_eq_false h))
theorem ai_splitN {i s : Nat} {p : Prop} {i' : Decidable p} {l : List Oper} (ho : nthO l i = some o) (hg : gof ⟨l⟩ o = some s) (hb : look F s = some (.bool (!decide p))) (h1 : ¬ p → AI c ⟨l⟩ cov H0 n listed i R ((s, .bool true) :: F) H) (h2 : p → AI c ⟨l⟩ cov H0 n listed i R ((s, .bool false) :: F) H) :
    AI c ⟨l⟩ cov H0 n listed i R F H := ai_split ho hg hb (fun h => h1 (of_decide_eq_false (by simpa using h))) (fun h => h2 (of_decide_eq_true (by simpa using h)))
theorem al_id (h : AL c ops cov H0 n listed R F H) : AL c ops cov H0 n listed R F H := h
theorem al_keep {G : Hp} (h : HpSub H G) (k : AL c ops cov H0 n listed R F H) : HpSub H G ∧ AL c ops cov H0 n listed R F H := ⟨h, k⟩
theorem ai_id {i : Nat} (h : AI c ops cov H0 n listed i R F H) : AI c ops cov H0 n listed i R F H := h
end
theorem gl_id {l : List Nat} {R : Fr → Prop} (h : GL c ops l R F H) : GL c ops l R F H := h
/-- What holds where several ways meet, by an index. -/
theorem t_cut {ι : Type} {x y : Code} (fr : ι → Fr) (hp : ι → Hp) (Pi : ι → Prop) (h1 : T c S x (fun e F' H' => e = .normal ∧ ∃ i, Pi i ∧ FrSub F' (fr i) ∧ HpSub H' (hp i)) F H) (h2 : ∀ i, Pi i → T c S y Q (fr i) (hp i)) : T c S (.seq x y) Q F H := by
  refine t_seq fun D a w ha hw => S.mono (h1 D a w ha hw) fun e a' w' he => ?_
  obtain ⟨D', F', H', ⟨rfl, i, hi, hF, hH⟩, h3, h4⟩ := he
  exact ⟨D', _, _, h2 i hi, h3.sub hF, h4.sub hH⟩

/-! The end of a function -/
/-- What a result variable holds. -/
def RV (c : Cx) (F : Fr) (H : Hp) (r : ResultVar) (v : Value) : Prop :=
  ∀ D a w, Frm D c.N F a → Has c.w0 ⟨c.M, D⟩ H w → ((match r with | .tmp t => pure (a.tmps.getD t undef) | .cell x t => do loadVar t (← asAddr (a.tmps.getD x undef)) : Sem Value)).run c.P w = .ok v w
theorem rv_tmp {t : Nat} (h : look F t = some v) : RV c F H (.tmp t) v := fun D a w ha hw => by
  have := ha.at_ t v h
  simp [Sem.run_pure, Array.getD_eq_getD_getElem?, this]
theorem rv_cell {t s0 x : Nat} {p : Addr} {z0 : List Value} {k0 : TyK} (ht : tyAt c.tys t = some ⟨false, s0, z0, k0⟩) (h : look F x = some (.pointer (some p))) (hv : Rd c H p v) : RV c F H (.cell x t) v := fun D a w ha hw => by
  have h0 := ha.at_ x _ h
  have h1 := (c.ty ht).agg w
  have h2 := run_load c.P p w v (hv D w hw)
  simp [Array.getD_eq_getD_getElem?, h0, asAddr, loadVar, Sem.run_bind, Sem.run_pure, h1, h2, Result.andThen]
theorem rv_cellAgg {t k x b o : Nat} {z0 : List Value} {k0 : TyK} {vs : List Value} (ht : tyAt c.tys t = some ⟨true, k, z0, k0⟩) (h : look F x = some (.pointer (some ⟨b, o, none⟩))) (hr : Rdn c H b o k vs) : RV c F H (.cell x t) (.agg ⟨vs⟩) := fun D a w ha hw => by
  obtain ⟨hv, hl⟩ := hr.spec
  have h0 := ha.at_ x _ h
  have h1 := (c.ty ht).agg w
  have h3 := (c.ty ht).size w
  rw [← hl] at h3
  have h2 := run_loadCells_eq c.P w b o vs (fun j v hj => Rds.at_ hw vs o hv j v hj)
  simp [Array.getD_eq_getD_getElem?, h0, asAddr, loadVar, Sem.run_bind, Sem.run_pure, h1, h2, h3, Result.andThen]

def RVs (c : Cx) (F : Fr) (H : Hp) : List ResultVar → List Value → Prop
  | [], [] => True
  | r :: rs, v :: vs => RV c F H r v ∧ RVs c F H rs vs
  | _, _ => False
theorem rvs_nil : RVs c F H [] [] := trivial
theorem rvs_cons {r : ResultVar} {rs : List ResultVar} {vs : List Value} (h : RV c F H r v) (k : RVs c F H rs vs) : RVs c F H (r :: rs) (v :: vs) := ⟨h, k⟩
/-- The value that is returned. -/
def retOf : List Value → Value
  | [v] => v
  | vs => .tuple ⟨vs⟩

def endQ (c : Cx) (rs : List ResultVar) (PV : Value → Hp → Prop) : QS := fun e F H => (e = .normal ∨ e = .ret) ∧ ∃ vs, RVs c F H rs vs ∧ PV (retOf vs) H
theorem end_ret {rs : List ResultVar} {vs : List Value} {PV : Value → Hp → Prop} (h : RVs c F H rs vs) (k : PV (retOf vs) H) : endQ c rs PV .ret F H := ⟨.inr rfl, vs, h, k⟩
theorem end_normal {rs : List ResultVar} {vs : List Value} {PV : Value → Hp → Prop} (h : RVs c F H rs vs) (k : PV (retOf vs) H) : endQ c rs PV .normal F H := ⟨.inl rfl, vs, h, k⟩

theorem run_mapM (P : Program) (w : World) (f : ResultVar → Sem Value) : ∀ (rs : List ResultVar) (vs : List Value), rs.length = vs.length → (∀ (i : Nat) r v, rs[i]? = some r → vs[i]? = some v → (f r).run P w = .ok v w) → (rs.mapM f).run P w = .ok vs w
  | [], [], _, _ => by simp [Sem.run_pure]
  | [], _ :: _, h, _ => by simp at h
  | _ :: _, [], h, _ => by simp at h
  | r :: rs, v :: vs, hl, h => by
    have h0 := h 0 r v rfl rfl
    have h1 := run_mapM P w f rs vs (by simpa using hl) (fun i r' v' hr hv => h (i + 1) r' v' (by simpa using hr) (by simpa using hv))
    simp [List.mapM_cons, Sem.run_bind, Sem.run_pure, h0, h1, Result.andThen]
theorem RVs.run {D : List Nat} {a : Act} {w : World} (ha : Frm D c.N F a) (hw : Has c.w0 ⟨c.M, D⟩ H w) : ∀ {rs : List ResultVar} {vs : List Value}, RVs c F H rs vs → rs.length = vs.length ∧ ∀ (i : Nat) r v, rs[i]? = some r → vs[i]? = some v →
    ((match r with | .tmp t => pure (a.tmps.getD t undef) | .cell x t => do loadVar t (← asAddr (a.tmps.getD x undef)) : Sem Value)).run c.P w = .ok v w
  | [], [], _ => ⟨rfl, fun i r v h => by simp at h⟩
  | [], _ :: _, h => h.elim
  | _ :: _, [], h => h.elim
  | r :: rs, v :: vs, h => by
    have ih := RVs.run ha hw h.2
    refine ⟨by simpa using ih.1, fun i r' v' hr hv => ?_⟩
    cases i with
    | zero =>
      obtain rfl : r = r' := by simpa using hr
      obtain rfl : v = v' := by simpa using hv
      exact h.1 D a w ha hw
    | succ i => exact ih.2 i r' v' (by simpa using hr) (by simpa using hv)
theorem results_run {fn : Func} {rs : List ResultVar} {D : List Nat} {a : Act} {w : World} {vs : List Value} (hrs : fn.results = ⟨rs⟩) (ha : Frm D c.N F a) (hw : Has c.w0 ⟨c.M, D⟩ H w) (h : RVs c F H rs vs) : (results fn a.tmps).run c.P w = .ok (retOf vs) w := by
  obtain ⟨h1, h2⟩ := RVs.run ha hw h
  have h3 := run_mapM c.P w _ _ _ h1 h2
  unfold results
  rw [Sem.run_bind, hrs, Array.mapM_eq_mapM_toList, map_eq_pure_bind, Sem.run_bind]
  refine (congrArg (fun r => ((Result.andThen r (fun a w' => Sem.run c.P (pure a.toArray) w')).andThen fun a w' => Sem.run c.P (pure (if h : a.size = 1 then a[0] else Value.tuple a)) w')) h3).trans ?_
  simp only [Result.andThen, Sem.run_pure]
  match vs with
  | [] => rfl
  | [v] => rfl
  | v :: v1 :: vs => simp [retOf]

theorem Has.take {w0 : World} {M : List Nat} {k : Nat} {D : List Nat} {H : Hp} {w : World} (h : Has w0 ⟨M, k :: D⟩ H w) : (Instr.takeDeferred k).run c.P w = .ok [] (w.putObj k (.deferred none)) ∧ Has w0 ⟨M, D⟩ H (w.putObj k (.deferred none)) := by
  have hk := h.marks.2 k (List.mem_cons_self ..)
  have hd := List.nodup_cons.1 h.marks.1
  refine ⟨run_takeDeferred hk.2, ⟨h.ext.os, h.ext.tape, h.ext.output, by simpa using h.ext.size, fun b hb hm => ?_⟩, fun x hx => ⟨(h.blk x hx).1, (h.blk x hx).2.same (World.putObj_heap_other fun e => ?_)⟩, h.nodup, hd.2, fun j hj => ?_⟩
  · rw [World.putObj_heap_other (fun e => by have := hk.1; omega)]
    exact h.ext.block b hb hm
  · exact mark_ne (h.blk x hx).2 hk.2 e.symm
  · have hj' := h.marks.2 j (List.mem_cons_of_mem _ hj)
    refine ⟨hj'.1, ?_⟩
    rw [World.putObj_heap_other (fun e : j = k => hd.1 (by rw [← e]; exact hj))]
    exact hj'.2
theorem leaves_marks {fn : Func} {R : Ending → World → Prop} {tmps : Array Value} {v : Value} (n : Nat) : ∀ (D : List Nat) (w : World), Has c.w0 ⟨c.M, D⟩ H w → (∀ w', Has c.w0 ⟨c.M, []⟩ H w' → (results fn tmps).run c.P w' = .ok v w' ∧ R (.returned v) w') →
    LeavesInM Fence.wide n c.P fn tmps R (D.map dmark) .returning w
  | [], w, h, hr => ⟨v, hr w h⟩
  | k :: D, w, h, hr => by
    have ht := Has.take (c := c) h
    exact ⟨(fun e => by cases e), .inl ⟨k, _, rfl, ht.1, leaves_marks n D _ ht.2 hr⟩⟩
/-- A call of a function, by a walk of its body. -/
theorem enter {k : FuncId} {fn : Func} {code : Code} {rs : List ResultVar} {args : List Value} {PV : Value → Hp → Prop} (hf : c.P.funcs[k]? = some fn) (hb : fn.body = some code) (hrs : fn.results = ⟨rs⟩) (hN : c.N = args.length + (fn.ntmps - args.length))
    (hF : ∀ d v, look F d = some v → args[d]? = some v) (hw : Has c.w0 ⟨c.M, []⟩ H c.w0)
    (h : T c (WS.own c.P) code (endQ c rs PV) F H) : Calls c.P k ⟨args⟩ c.w0 fun e w' => ∃ v H', e = .returned v ∧ PV v H' ∧ Has c.w0 ⟨c.M, []⟩ H' w' := by
  refine (callsIn_wide (n := 0)).1 (callsIn_of_wp_marks hf hb trivial ?_)
  have ha : Frm [] c.N F { tmps := (⟨args⟩ : Array Value) ++ Array.replicate (fn.ntmps - (⟨args⟩ : Array Value).size) undef, defers := [] } := by
    refine ⟨by simp [hN], rfl, fun d v hv => ?_⟩
    have := hF d v hv
    have hlt : d < args.length := (List.getElem?_eq_some_iff.1 this).1
    rw [Array.getElem?_append_left (by simpa using hlt)]
    simpa using this
  have h0 := h [] _ _ ha hw
  refine wpIn_wide.2 (wp_mono h0 fun e a w' ⟨D, F', H', ⟨he, vs, h1, h2⟩, h3, h4⟩ => ?_)
  have key : LeavesInM Fence.wide 0 c.P fn a.tmps (fun e w' => ∃ v H', e = .returned v ∧ PV v H' ∧ Has c.w0 ⟨c.M, []⟩ H' w') a.defers .returning w' := by
    rw [h3.defers]
    refine leaves_marks (v := retOf vs) 0 D w' h4 fun w'' h5 => ⟨?_, _, H', rfl, h2, h5⟩
    exact results_run (a := { a with defers := [] }) (D := []) hrs ⟨h3.size, rfl, h3.at_⟩ h5 h1
  rcases he with rfl | rfl
  · exact key
  · exact key
theorem Has.start (w : World) : Has w ⟨[], []⟩ [] w := ⟨ExtM.refl _ _, fun x hx => (List.not_mem_nil hx).elim, List.nodup_nil, List.nodup_nil, fun k hk => (List.not_mem_nil hk).elim⟩
/-- The frame of the arguments. -/
def frOf : Nat → List Value → Fr
  | _, [] => []
  | i, v :: vs => (i, v) :: frOf (i + 1) vs
theorem look_frOf : ∀ (vs : List Value) (i d : Nat) (v : Value), look (frOf i vs) d = some v → i ≤ d ∧ vs[d - i]? = some v
  | [], i, d, v, h => by cases h
  | u :: vs, i, d, v, h => by
    by_cases hd : i = d
    · subst hd
      simp only [frOf] at h
      rw [look_cons_self] at h
      exact ⟨Nat.le_refl _, by simpa using h⟩
    · simp only [frOf] at h
      rw [look_cons_ne _ _ hd] at h
      obtain ⟨h1, h2⟩ := look_frOf vs (i + 1) d v h
      refine ⟨by omega, ?_⟩
      rw [show d - i = (d - (i + 1)) + 1 by omega]
      simpa using h2
/-- A function that only adds to the world and returns V. -/
theorem enterQ {k : FuncId} {fn : Func} {code : Code} {rs : List ResultVar} {args : List Value} {V : Value} (hf : c.P.funcs[k]? = some fn) (hb : fn.body = some code) (hrs : fn.results = ⟨rs⟩) (hN : c.N = args.length + (fn.ntmps - args.length)) (hM : c.M = [])
    (h : T c (WS.own c.P) code (endQ c rs fun v _ => v = V) (frOf 0 args) []) : Calls c.P k ⟨args⟩ c.w0 fun e w' => e = .returned V ∧ Ext c.w0 w' :=
  (enter hf hb hrs hN (fun d v hv => (look_frOf args 0 d v hv).2) (by rw [hM]; exact Has.start _) h).mono fun e w' ⟨v, H', h1, h2, h3⟩ => ⟨by rw [h1, h2], by have := h3.ext; rw [hM] at this; exact this.ext⟩

theorem q_thenN {K : Fr → Hp → Prop} (h : K F H) : thenQ K Q .normal F H := h
theorem q_thenR {K : Fr → Hp → Prop} (h : Q .ret F H) : thenQ K Q .ret F H := h
theorem q_thenE {K : Fr → Hp → Prop} {i : Nat} (h : Q (.exit i) F H) : thenQ K Q (.exit i) F H := h
theorem q_blockN {id : Nat} (h : Q .normal F H) : blockQ id Q .normal F H := h
theorem q_blockR {id : Nat} (h : Q .ret F H) : blockQ id Q .ret F H := h
theorem q_blockE {i id : Nat} (hb : Nat.beq i id = true) (h : Q .normal F H) : blockQ id Q (.exit i) F H := by
  simp only [blockQ, hb]; exact h
theorem q_blockO {i id : Nat} (hb : Nat.beq i id = false) (h : Q (.exit i) F H) : blockQ id Q (.exit i) F H := by
  simp only [blockQ, hb]; exact h
theorem t_id {k : Code} (h : T c S k Q F H) : T c S k Q F H := h
theorem tl_id {l : List Oper} (h : TL c ops l R F H) : TL c ops l R F H := h
theorem gx_id {l : List Oper} {R : Fr → Prop} (h : GX c ops l R F H) : GX c ops l R F H := h
theorem os_id {K : Value → Hp → Prop} (h : OS c o F H K) : OS c o F H K := h
theorem ox_id {K : Value → Hp → Prop} (h : OX c o F H K) : OX c o F H K := h
theorem os_x {K : Value → Hp → Prop} (_ : isX o.op = true) (h : OX c o F H K) : OS c o F H K := .ofX h
end
theorem P0 {b : Nat} {C : List Value} {g : Tg} {H : Hp} : Pick ((b, C, g) :: H) b C g H := .head b C g H
theorem P1 {x : Nat × List Value × Tg} {H H' : Hp} {b : Nat} {C : List Value} {g : Tg} (h : Pick H b C g H') : Pick (x :: H) b C g (x :: H') := .tail h
end Go.Proofs.Ytmlmgipngbndgaa
