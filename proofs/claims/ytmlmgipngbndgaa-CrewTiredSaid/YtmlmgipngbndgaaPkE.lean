/- Calls that write, panics, frames that defer; deals, plainly. -/
import Derived.Test.YtmlmgipngbndgaaPkD
import Derived.Test.YtmlmgipngbndgaaPkC
import Derived.Recover
/- Calls that write several blocks of their caller's. -/
namespace Go.Proofs.Ytmlmgipngbndgaa
open Go.RowKit
set_option linter.unusedVariables false
set_option linter.unusedSimpArgs false
theorem Has.ownG {w0 : World} {M : Ms} {H G : Hp} {w : World} (h : Has w0 M H w) (p : HpSub H G) : Has w ⟨G.map Prod.fst, []⟩ G w := by
  have h' := h.sub p
  exact ⟨ExtM.refl _ _, fun x hx => ⟨.inr (List.mem_map.2 ⟨x, hx, rfl⟩), (h'.blk x hx).2⟩, h'.nodup, List.nodup_nil, fun k hk => (List.not_mem_nil hk).elim⟩
theorem Has.called {w0 : World} {M : Ms} {G R H1 : Hp} {w w' : World} (h : Has w0 M (G ++ R) w) (k : Has w ⟨G.map Prod.fst, []⟩ H1 w') : Has w0 M (H1 ++ R) w' := by
  have hn := h.nodup
  rw [List.map_append, List.nodup_append] at hn
  have hG : ∀ b, b ∈ G.map Prod.fst → (w0.heap.size ≤ b ∨ b ∈ M.wr) ∧ ∃ c t, w.heap[b]? = some (.cells c t (0, 0)) := fun b hb => by
    obtain ⟨x, hx, rfl⟩ := List.mem_map.1 hb
    have hh := h.blk x (List.mem_append_left _ hx)
    obtain ⟨c, t, h1, _⟩ := hh.2
    exact ⟨hh.1, c, t, h1⟩
  refine ⟨⟨k.ext.os.trans h.ext.os, k.ext.tape.trans h.ext.tape, k.ext.output.trans h.ext.output, Nat.le_trans h.ext.size k.ext.size, fun b hb hm => ?_⟩, fun x hx => ?_, ?_, h.marks.1, fun d hd => ⟨(h.marks.2 d hd).1, ?_⟩⟩
  · rw [k.ext.block b (Nat.lt_of_lt_of_le hb h.ext.size) (fun hg => by
      rcases (hG b hg).1 with h1 | h1
      · omega
      · exact hm h1)]
    exact h.ext.block b hb hm
  · rcases List.mem_append.1 hx with hx | hx
    · have hh := k.blk x hx
      refine ⟨?_, hh.2⟩
      rcases hh.1 with h1 | h1
      · exact .inl (Nat.le_trans h.ext.size h1)
      · exact (hG _ h1).1
    · have hh := h.blk x (List.mem_append_right _ hx)
      refine ⟨hh.1, hh.2.same (k.ext.block _ hh.2.lt fun hg => ?_)⟩
      exact hn.2.2 _ hg _ (List.mem_map.2 ⟨x, hx, rfl⟩) rfl
  · rw [List.map_append, List.nodup_append]
    refine ⟨k.nodup, hn.2.1, fun a ha b hb e => ?_⟩
    obtain ⟨x, hx, rfl⟩ := List.mem_map.1 ha
    obtain ⟨y, hy, rfl⟩ := List.mem_map.1 hb
    have hlt := (h.blk y (List.mem_append_right _ hy)).2.lt
    rcases (k.blk x hx).1 with h1 | h1
    · omega
    · exact hn.2.2 _ h1 _ (List.mem_map.2 ⟨y, hy, rfl⟩) e
  · have hd' := (h.marks.2 d hd).2
    rw [k.ext.block d (mark_lt hd') (fun hg => by
      obtain ⟨_, c, t, h1⟩ := hG d hg
      rw [hd'] at h1; cases h1)]
    exact hd'
section
variable {c : Cx} {F : Fr} {H G R : Hp} {K : Value → Hp → Prop} {d : Option Tmp} {ty : TypeId} {pos : String} {af : Array Edge} {g : Option (Nat × Bool)} {PV : Value → Hp → Prop}
/-- A call of a function that writes the blocks G, and may hand out others. -/
theorem os_callM {f : Operand} {args : Array Operand} {T : Array TypeId} {k : Nat} {fst cap vs : List Value} (hf : ev F f = some (.func (.func k) ⟨fst⟩ ⟨cap⟩)) (hc : ∀ (a : Array Value) (w : World), (callFunc k a).run c.P w = .ok (.enter k a) w)
    (ha : evs F args.toList = some vs) (hp : HpSub H (G ++ R)) (h : ∀ D w, Has c.w0 ⟨c.M, D⟩ H w → Has w ⟨G.map Prod.fst, []⟩ G w → Calls c.P k ⟨fst ++ vs ++ cap⟩ w fun e w' => ∃ v H1, e = .returned v ∧ PV v H1 ∧ Has w ⟨G.map Prod.fst, []⟩ H1 w')
    (hk : ∀ v H1, PV v H1 → K v (H1 ++ R)) : OS c ⟨d, .call ⟨.value f, args, T⟩, ty, pos, af, g⟩ F H K :=
  os_call hf hc ha fun D w hw => (h D w hw ((hw.sub hp).left.ownG (HpSub.refl _))).mono fun e w' ⟨v, H1, h1, h2, h3⟩ => ⟨v, _, h1, hk v H1 h2, (hw.sub hp).called h3⟩
end
end Go.Proofs.Ytmlmgipngbndgaa
/- Operations and functions that stop in a panic. -/
namespace Go.Proofs.Ytmlmgipngbndgaa
open Go.RowKit
set_option linter.unusedVariables false
set_option linter.unusedSimpArgs false
theorem givesUpon_wpQ {P : Program} {o : Oper} {a : Act} {w : World} {R : Value → World → Prop} {K : Act → World → Prop} {Q : Exit → Act → World → Prop} (h : givesUpon P R ((execOp a.eval o).run P w)) (k : ∀ v w', R v w' → K (a.put o.dst v) w') : o.wp P a w K Q := by
  unfold Oper.wp
  generalize (execOp a.eval o).run P w = r at *
  cases r with
  | ok n w' =>
    cases n <;> simp only [givesUpon] at h <;> simp only [Oper.upon] <;> first
      | exact k _ _ h
      | exact h.mono fun e w2 ⟨u, he, hu⟩ => by subst he; exact k _ _ hu
      | exact h.mono fun u w2 hu => k _ _ hu
  | halt x w' => cases x <;> exact h.elim
/-- The operations of a region that may stop in a panic. -/
def TE (c : Cx) (ops : Array Oper) (rest : List Oper) (Q : QS) (F : Fr) (H : Hp) : Prop :=
  ∀ i, ops.toList.drop i = rest → ∀ D a w, Frm D c.N F a → Has c.w0 ⟨c.M, D⟩ H w → wpOps c.P ops (cv c Q) (List.range' i (ops.size - i)) a w
section
variable {c : Cx} {Q : QS} {F : Fr} {H : Hp} {ops : Array Oper} {o : Oper} {rest : List Oper} {d : Nat} {v : Value}
theorem t_regionE {id : Nat} {l : List Oper} (h : TE c ⟨l⟩ l Q F H) : T c (WS.own c.P) (.region id ⟨l⟩ false) Q F H := fun D a w ha hw => by
  refine wp_region ?_
  have := h 0 rfl D a w ha hw
  rw [List.range_eq_range']
  exact this
theorem e_nil (h : Q .normal F H) : TE c ops [] Q F H := fun i hi D a w ha hw => by
  have : ops.size - i = 0 := by
    have := congrArg List.length hi
    simp at this
    omega
  rw [this]
  exact ⟨D, F, H, h, ha, hw⟩
theorem e_q (hr : runs ops F o = some true) (_hw : isW o.op = false) (hd : o.dst = some d) (hN : Nat.blt d c.N = true) (h : OQ c o F H v) (k : TE c ops rest Q ((d, v) :: F) H) : TE c ops (o :: rest) Q F H := fun i hi D a w ha hw => by
  obtain ⟨h1, h2, h3⟩ := drop_cons hi
  rw [h3]
  simp only [wpOps, h1, runs_spec ha hr, if_true]
  refine .inl (givesUpon_wpQ (h D a w ha hw) fun u w' ⟨hu, hx⟩ => ?_)
  subst hu
  rw [hd]
  exact k _ h2 _ _ _ (ha.put hN _) (hw.grow hx)
theorem e_s (hr : runs ops F o = some true) (hd : o.dst = some d) (hN : Nat.blt d c.N = true) (h : OS c o F H (fun v H' => TE c ops rest Q ((d, v) :: F) H')) : TE c ops (o :: rest) Q F H := fun i hi D a w ha hw => by
  obtain ⟨h1, h2, h3⟩ := drop_cons hi
  rw [h3]
  simp only [wpOps, h1, runs_spec ha hr, if_true]
  refine .inl (givesUpon_wpQ (h D a w ha hw) fun u w' ⟨H', hu, hx⟩ => ?_)
  rw [hd]
  exact hu _ h2 _ _ _ (ha.put hN _) hx
theorem e_s0 (hr : runs ops F o = some true) (hd : o.dst = none) (h : OS c o F H (fun _ H' => TE c ops rest Q F H')) : TE c ops (o :: rest) Q F H := fun i hi D a w ha hw => by
  obtain ⟨h1, h2, h3⟩ := drop_cons hi
  rw [h3]
  simp only [wpOps, h1, runs_spec ha hr, if_true]
  refine .inl (givesUpon_wpQ (h D a w ha hw) fun u w' ⟨H', hu, hx⟩ => ?_)
  rw [hd]
  exact hu _ h2 _ _ _ (ha.putNone _) hx
theorem e_skip (hr : runs ops F o = some false) (hd : o.dst = some d) (hN : Nat.blt d c.N = true) (k : TE c ops rest Q ((d, undef) :: F) H) : TE c ops (o :: rest) Q F H := fun i hi D a w ha hw => by
  obtain ⟨h1, h2, h3⟩ := drop_cons hi
  rw [h3]
  simp only [wpOps, h1, runs_spec ha hr, Bool.false_eq_true, if_false]
  rw [hd]
  exact k _ h2 _ _ _ (ha.put hN _) hw
/-- What an operation that stops in a panic comes to. -/
def panics (P : Program) (R : List PanicEntry → World → Prop) : Result Next → Prop
  | .ok (.enter f args) w' => Calls P f args w' fun e w'' => ∃ ch, e = .panicked ch ∧ R ch w''
  | .halt (.panic v) w' => R [{ v, recovered := false }] w'
  | _ => False
theorem panics_wp {P : Program} {o : Oper} {a : Act} {w : World} {R : List PanicEntry → World → Prop} {K : Act → World → Prop} {Q : Exit → Act → World → Prop} (h : panics P R ((execOp a.eval o).run P w)) (k : ∀ ch w', R ch w' → Q (.panic ch) a w') : o.wp P a w K Q := by
  unfold Oper.wp
  generalize (execOp a.eval o).run P w = r at *
  cases r with
  | ok n w' =>
    cases n <;> simp only [panics] at h <;> simp only [Oper.upon]
    exact h.mono fun e w2 ⟨u, he, hu⟩ => by subst he; exact k _ _ hu
  | halt x w' =>
    cases x <;> simp only [panics] at h <;> simp only [Oper.upon]
    exact k _ _ h
theorem panics_wpIn {P : Program} {o : Oper} {a : Act} {w : World} {n : Nat} {R : List PanicEntry → World → Prop} {K : Act → World → Prop} {Q : Exit → Act → World → Prop} (h : panics P R ((execOp a.eval o).run P w)) (k : ∀ ch w', R ch w' → Q (.panic ch) a w') : o.wpIn Fence.wide n P a w K Q := by
  unfold Oper.wpIn
  refine ⟨fun _ _ => trivial, ?_⟩
  have hr : Fence.wide.round = none := rfl
  rw [hr, Oper.semAt_none]
  generalize (execOp a.eval o).run P w = r at *
  cases r with
  | ok nx w' =>
    cases nx <;> simp only [panics] at h <;> simp only [Oper.uponIn]
    exact ⟨fun h0 => by simp [Fence.wide] at h0, callsIn_wide.2 (h.mono fun e w2 ⟨u, he, hu⟩ => by subst he; exact k _ _ hu)⟩
  | halt x w' =>
    cases x <;> simp only [panics] at h <;> simp only [Oper.uponIn]
    exact k _ _ h
/-- The operation stops in a panic. -/
def OP (c : Cx) (o : Oper) (F : Fr) (H : Hp) (K : List PanicEntry → Hp → Prop) : Prop :=
  ∀ D a w, Frm D c.N F a → Has c.w0 ⟨c.M, D⟩ H w → panics c.P (fun ch w' => ∃ H', K ch H' ∧ Has c.w0 ⟨c.M, D⟩ H' w') ((execOp a.eval o).run c.P w)
theorem e_p (hr : runs ops F o = some true) (h : OP c o F H (fun ch H' => Q (.panic ch) F H')) : TE c ops (o :: rest) Q F H := fun i hi D a w ha hw => by
  obtain ⟨h1, h2, h3⟩ := drop_cons hi
  rw [h3]
  simp only [wpOps, h1, runs_spec ha hr, if_true]
  exact .inl (panics_wp (h D a w ha hw) fun ch w' ⟨H', hk, hw'⟩ => ⟨D, F, H', hk, ha, hw'⟩)
theorem e_split {s : Nat} {b : Bool} (hg : gof ops o = some s) (hb : look F s = some (.bool b)) (h1 : b = true → TE c ops (o :: rest) Q ((s, .bool true) :: F) H) (h2 : b = false → TE c ops (o :: rest) Q ((s, .bool false) :: F) H) : TE c ops (o :: rest) Q F H := fun i hi D a w ha hw => by
  have hs : ∀ u, look F s = some u → Frm D c.N ((s, u) :: F) a := fun u hu => ⟨ha.size, ha.defers, fun d v hv => by
    by_cases hd : s = d
    · subst hd; rw [look_cons_self] at hv; cases hv; exact ha.at_ _ _ hu
    · rw [look_cons_ne _ _ hd] at hv; exact ha.at_ _ _ hv⟩
  cases b with
  | true => exact h1 rfl i hi D a w (hs _ hb) hw
  | false => exact h2 rfl i hi D a w (hs _ hb) hw
theorem e_splitD {s : Nat} {p : Prop} {i : Decidable p} (hg : gof ops o = some s) (hb : look F s = some (.bool (decide p))) (h1 : p → TE c ops (o :: rest) Q ((s, .bool true) :: F) H) (h2 : ¬ p → TE c ops (o :: rest) Q ((s, .bool false) :: F) H) : TE c ops (o :: rest) Q F H :=
  e_split hg hb (fun h => h1 (of_decide_eq_true h)) (fun h => h2 (of_decide_eq_false h))
theorem te_id {l : List Oper} (h : TE c ops l Q F H) : TE c ops l Q F H := h
theorem op_id {K : List PanicEntry → Hp → Prop} (h : OP c o F H K) : OP c o F H K := h
theorem op_panic {d : Option Tmp} {ty : TypeId} {pos : String} {af : Array Edge} {g : Option (Nat × Bool)} {x : Operand} {t : TypeId} {K : List PanicEntry → Hp → Prop} (hx : ev F x = some (.iface t v)) (k : K [{ v := .iface t v, recovered := false }] H) : OP c ⟨d, .panic x, ty, pos, af, g⟩ F H K := fun D a w ha hw => by
  have e : (execOp a.eval ⟨d, .panic x, ty, pos, af, g⟩).run c.P w = .halt (.panic (.iface t v)) w := by
    simp only [execOp, ha.ev hx]
    simp [Instr.panic, goPanic, go_sem]
  rw [e]
  exact ⟨H, k, hw⟩
theorem op_call {d : Option Tmp} {ty : TypeId} {pos : String} {af : Array Edge} {g : Option (Nat × Bool)} {f : Operand} {args : Array Operand} {T : Array TypeId} {k : Nat} {fst cap vs : List Value} {K : List PanicEntry → Hp → Prop} (hf : ev F f = some (.func (.func k) ⟨fst⟩ ⟨cap⟩)) (hc : ∀ (a : Array Value) (w : World), (callFunc k a).run c.P w = .ok (.enter k a) w)
    (ha : evs F args.toList = some vs) {ch : List PanicEntry} (h : ∀ D w, Has c.w0 ⟨c.M, D⟩ H w → Calls c.P k ⟨fst ++ vs ++ cap⟩ w fun e w' => e = .panicked ch ∧ Ext w w') (kk : K ch H) : OP c ⟨d, .call ⟨.value f, args, T⟩, ty, pos, af, g⟩ F H K := fun D a w hfr hw => by
  have h1 := hfr.evs ha
  have h2 : args.map a.eval = vs.toArray := by rw [← h1]; cases args; simp
  have e : (execOp a.eval ⟨d, .call ⟨.value f, args, T⟩, ty, pos, af, g⟩).run c.P w = .ok (.enter k ⟨fst ++ vs ++ cap⟩) w := by
    simp [execOp, resolve, invoke, hfr.ev hf, Deferred.ofValue, Sem.run_bind, Sem.run_pure, h2, Result.andThen, hc]
  rw [e]
  exact (h D w hw).mono fun e w' ⟨h3, h4⟩ => ⟨ch, h3, H, kk, hw.grow h4⟩
/-- What is left of a region that draws its order; what 'cov' marks is walked by hand. -/
def AE (c : Cx) (ops : Array Oper) (cov : Array Bool) (H0 : Hp) (Q : QS) (n : Nat) (listed : Array Bool) (F : Fr) (H : Hp) : Prop :=
  ∀ D a w, Frm D c.N F a → Has c.w0 ⟨c.M, D⟩ H w → SInI c.P ops cov (Has c.w0 ⟨c.M, D⟩ H0) 0 (cv c Q) n listed a w
theorem t_mixE {id : Nat} {l ql : List Oper} (q : List Nat) (k : Nat) (cov : Array Bool) (hm : c.P.follows .mixedOrders = true) (hB : (Region.noSelect ⟨l⟩ && (k + q.length == (Array.mk l).size) && lexOk ⟨l⟩ cov q (Array.replicate (Array.mk l).size false)) = true)
    (hq : pickOps l q = some ql) (h : GX c ⟨l⟩ ql (fun F' => AE c ⟨l⟩ cov H Q k (listedBy q (Array.replicate (Array.mk l).size false)) F' H) F H) : T c (WS.own c.P) (.region id ⟨l⟩ true) Q F H := fun D a w ha hw =>
  wpIn_wide.1 (g_mixIn (n := 0) q k cov hm hB hq ha hw h fun F' a' w' h1 h2 h3 => h1 D a' w' h2 h3)
theorem ae_more {l ql : List Oper} {n : Nat} {listed : Array Bool} {cov : Array Bool} {H0 : Hp} (q : List Nat) (m : Nat) (hB : (Region.noSelect ⟨l⟩ && downB l listed && lexOk ⟨l⟩ cov q listed) = true) (hn : n = m + q.length)
    (hq : pickOps l q = some ql) (hs : HpSub H H0) (h : GX c ⟨l⟩ ql (fun F' => AE c ⟨l⟩ cov H0 Q m (listedBy q listed) F' H0) F H0) : AE c ⟨l⟩ cov H0 Q n listed F H := fun D a w ha hw => by
  subst hn
  simp only [Bool.and_eq_true] at hB
  exact SInI_lex (Has.up (M := ⟨c.M, D⟩)) hB.1.1 m q listed a hB.2 (downB_spec hB.1.2) (wpGI_mono (fun a' ⟨F', h1, h2⟩ w' hw' => h1 D a' w' h2 hw') q a (h q (pickOps_spec hq) D a ha)) w (hw.sub hs)
theorem SInI_free {P : Program} {Q : Exit → Act → World → Prop} {I : World → Prop} {cov : Array Bool} {m k i : Nat} {listed : Array Bool} {a : Act} {w : World} (hr : Region.ready .any ops listed = [i]) (hc : cov.getD i false = false)
    (h : wpOp P ops QF i (fun a' w' => (I w → I w') ∧ ∀ w'', Ext w' w'' → SInI P ops cov I m Q k (listed.setIfInBounds i true) a' w'') a w) : SInI P ops cov I m Q (k + 1) listed a w :=
  ⟨fun h0 => (by rw [hr] at h0; cases h0), fun j hj => by
    rw [hr] at hj
    obtain rfl : j = i := by simpa using hj
    exact ⟨fun hc' => (by rw [hc] at hc'; cases hc'), fun _ => h⟩⟩
theorem ae_q {l : List Oper} {n i : Nat} {listed cov : Array Bool} {H0 : Hp} (hr : Region.ready .any ⟨l⟩ listed = [i]) (hc : cov.getD i false = false) (ho : nthO l i = some o) (hw : runs ⟨l⟩ F o = some true) (hd : o.dst = some d) (hN : Nat.blt d c.N = true) (h : OQ c o F H v)
    (k : AE c ⟨l⟩ cov H0 Q n (listed.setIfInBounds i true) ((d, v) :: F) H) : AE c ⟨l⟩ cov H0 Q (n + 1) listed F H := fun D a w ha hh =>
  SInI_free hr hc (wpOp_go ho (runs_spec ha hw) (givesUpon_wp (h D a w ha hh) fun u w' ⟨hu, hx⟩ => by
    subst hu
    rw [hd]
    exact ⟨fun hI => hI.grow hx, fun w'' hx' => k D _ _ (ha.put hN _) ((hh.grow hx).grow hx')⟩))
theorem ae_x {l : List Oper} {n i : Nat} {listed cov : Array Bool} {H0 : Hp} (hr : Region.ready .any ⟨l⟩ listed = [i]) (hc : cov.getD i false = false) (ho : nthO l i = some o) (hw : runs ⟨l⟩ F o = some true) (hd : o.dst = some d) (hN : Nat.blt d c.N = true)
    (h : OX c o F H (fun v H' => AE c ⟨l⟩ cov H0 Q n (listed.setIfInBounds i true) ((d, v) :: F) H')) : AE c ⟨l⟩ cov H0 Q (n + 1) listed F H := fun D a w ha hh =>
  SInI_free hr hc (wpOp_go ho (runs_spec ha hw) (givesUpon_wp (h D a w ha hh) fun u w' ⟨⟨H', hu, hx⟩, he⟩ => by
    rw [hd]
    exact ⟨fun hI => hI.grow he, fun w'' hx' => hu D _ _ (ha.put hN _) (hx.grow hx')⟩))
theorem ae_p {l : List Oper} {n i : Nat} {listed cov : Array Bool} {H0 : Hp} (hr : Region.ready .any ⟨l⟩ listed = [i]) (hc : cov.getD i false = true) (ho : l[i]? = some o) (hw : runs ⟨l⟩ F o = some true) (h : OP c o F H (fun ch H' => Q (.panic ch) F H')) : AE c ⟨l⟩ cov H0 Q (n + 1) listed F H := fun D a w ha hh =>
  SInI_one hr hc (wpOpIn_on (o := o) (by simpa using ho) (runs_spec ha hw) (panics_wpIn (h D a w ha hh) fun ch w' ⟨H', hk, hw'⟩ => ⟨D, F, H', hk, ha, hw'⟩))
theorem ae_id {n : Nat} {listed cov : Array Bool} {H0 : Hp} (h : AE c ops cov H0 Q n listed F H) : AE c ops cov H0 Q n listed F H := h
end
/-- Where a function ends in a panic. -/
def panQ (PP : List PanicEntry → Hp → Prop) : QS := fun e _ H => ∃ ch, e = .panic ch ∧ PP ch H
section
variable {c : Cx} {F : Fr} {H : Hp}
theorem leaves_marksP {fn : Func} {R : Ending → World → Prop} {tmps : Array Value} {ch : List PanicEntry} (n : Nat) : ∀ (D : List Nat) (w : World), Has c.w0 ⟨c.M, D⟩ H w → (∀ w', Has c.w0 ⟨c.M, []⟩ H w' → R (.panicked ch) w') →
    LeavesInM Fence.wide n c.P fn tmps R (D.map dmark) (.panicking ch) w
  | [], w, h, hr => hr w h
  | k :: D, w, h, hr => by
    have ht := Has.take (c := c) h
    exact ⟨(fun e => by cases e), .inl ⟨k, _, rfl, ht.1, leaves_marksP n D _ ht.2 hr⟩⟩
theorem enterP {k : FuncId} {fn : Func} {code : Code} {args : List Value} {PP : List PanicEntry → Hp → Prop} (hf : c.P.funcs[k]? = some fn) (hb : fn.body = some code) (hN : c.N = args.length + (fn.ntmps - args.length))
    (hF : ∀ d v, look F d = some v → args[d]? = some v) (hw : Has c.w0 ⟨c.M, []⟩ H c.w0)
    (h : T c (WS.own c.P) code (panQ PP) F H) : Calls c.P k ⟨args⟩ c.w0 fun e w' => ∃ ch H', e = .panicked ch ∧ PP ch H' ∧ Has c.w0 ⟨c.M, []⟩ H' w' := by
  refine (callsIn_wide (n := 0)).1 (callsIn_of_wp_marks hf hb trivial ?_)
  have ha : Frm [] c.N F { tmps := (⟨args⟩ : Array Value) ++ Array.replicate (fn.ntmps - (⟨args⟩ : Array Value).size) undef, defers := [] } := by
    refine ⟨by simp [hN], rfl, fun d v hv => ?_⟩
    have := hF d v hv
    have hlt : d < args.length := (List.getElem?_eq_some_iff.1 this).1
    rw [Array.getElem?_append_left (by simpa using hlt)]
    simpa using this
  have h0 := h [] _ _ ha hw
  refine wpIn_wide.2 (wp_mono h0 fun e a w' ⟨D, F', H', ⟨ch, he, h2⟩, h3, h4⟩ => ?_)
  subst he
  show LeavesInM Fence.wide 0 c.P fn a.tmps _ a.defers (.panicking ch) w'
  rw [h3.defers]
  exact leaves_marksP 0 D w' h4 fun w'' h5 => ⟨ch, H', rfl, h2, h5⟩
/-- A function that stops in a panic, and else only adds to the world. -/
theorem enterPQ {k : FuncId} {fn : Func} {code : Code} {args : List Value} {ch : List PanicEntry} (hf : c.P.funcs[k]? = some fn) (hb : fn.body = some code) (hN : c.N = args.length + (fn.ntmps - args.length)) (hM : c.M = [])
    (h : T c (WS.own c.P) code (panQ fun x _ => x = ch) (frOf 0 args) []) : Calls c.P k ⟨args⟩ c.w0 fun e w' => e = .panicked ch ∧ Ext c.w0 w' :=
  (enterP hf hb hN (fun d v hv => (look_frOf args 0 d v hv).2) (by rw [hM]; exact Has.start _) h).mono fun e w' ⟨v, H', h1, h2, h3⟩ => ⟨by rw [h1, h2], by have := h3.ext; rw [hM] at this; exact this.ext⟩
end
end Go.Proofs.Ytmlmgipngbndgaa
/- What stops a deal. -/
namespace Go.Proofs.Ytmlmgipngbndgaa
open Go.RowKit
attribute [local irreducible] TE AE OP OQ OS OX Rd T TL GX GL AL AI RV wpG SAny Calls
set_option maxRecDepth 100000
set_option maxHeartbeats 2000000
set_option linter.unusedVariables false
set_option linter.unusedSimpArgs false

/-- The panic of a deal that is refused. -/
def refu (e : Int) : List PanicEntry := [{ v := .iface 169 (.agg #[.int .i64 e]), recovered := false }]
theorem oq_mkIface {c : Cx} {F : Fr} {H : Hp} {d : Option Tmp} {ty t : TypeId} {pos : String} {af : Array Edge} {g : Option (Nat × Bool)} {x : Operand} {v : Value} (hx : ev F x = some v) (hi : ∀ w, (Instr.makeInterface t v).run c.P w = .ok (.iface t v) w) : OQ c ⟨d, .makeInterface t x, ty, pos, af, g⟩ F H (.iface t v) := .of fun D a w ha _ => by
  simp [execOp, ha.ev hx, Sem.run_bind, hi, Result.andThen, Sem.run_pure]
theorem mkIface169 (v : Value) (w : World) : (Instr.makeInterface 169 v).run Try.prog w = .ok (.iface 169 v) w := by
  rfl
theorem must_ok (e : Int) (w : World) : Calls Try.prog 106 #[.bool true, .int .i64 e] w fun r w' => r = .returned (.tuple #[]) ∧ Ext w w' := by
  refine enterQ (c := cx w 9) Try.func106 rfl rfl rfl rfl ?_
  repeat' (first | ((with_reducible apply oq_id); first | (apply oq_fn; exact rfl; first | exact trivial | (refine ⟨?_, ?_⟩ <;> omega) | (refine ⟨?_, ?_, ?_⟩ <;> omega) | omega | skip)) | ((with_reducible apply tl_id); first | ((with_reducible apply tl_nil)) | ((with_reducible apply u_q); exact rfl; exact rfl; exact rfl; exact rfl)) | ((with_reducible apply t_id); first | ((with_reducible apply t_seq)) | (apply t_region; kernel_rfl) | ((with_reducible apply t_condF); exact rfl) | ((with_reducible apply t_skip))) | with_reducible apply q_thenN | ((with_reducible apply end_normal)) | exact rvs_nil)
  all_goals rfl
theorem must_no (e : Int) (w : World) : Calls Try.prog 106 #[.bool false, .int .i64 e] w fun r w' => r = .panicked (refu e) ∧ Ext w w' := by
  refine enterPQ (c := cx w 9) Try.func106 rfl rfl rfl ?_
  repeat' (first | ((with_reducible apply oq_id); first | (apply oq_fn; exact rfl; first | exact trivial | (refine ⟨?_, ?_⟩ <;> omega) | (refine ⟨?_, ?_, ?_⟩ <;> omega) | omega | skip) | ((with_reducible apply oq_mkIface); exact rfl; exact mkIface169 _) | ((with_reducible apply oq_build); exact rfl; exact rfl; exact rfl)) | ((with_reducible apply t_id); first | (apply t_regionE) | ((with_reducible apply t_seq)) | ((with_reducible apply t_condT); exact rfl)) | with_reducible apply q_thenN | ((with_reducible apply Norm.nil); exact rfl) | ((with_reducible apply Norm.cons); exact rfl) | ((with_reducible apply te_id); first | ((with_reducible apply e_p); exact rfl; ((with_reducible apply op_panic); exact rfl)) | ((with_reducible apply e_q); exact rfl; exact rfl; exact rfl; exact rfl) | ((with_reducible apply e_nil))))
  all_goals exact ⟨_, rfl, rfl⟩

end Go.Proofs.Ytmlmgipngbndgaa
/- Comparisons whose outcome is known. -/
namespace Go.Proofs.Ytmlmgipngbndgaa
set_option linter.unusedVariables false
set_option linter.unusedSimpArgs false
section
variable {c : Cx} {F : Fr} {H : Hp} {d : Option Tmp} {ty t t' : TypeId} {pos : String} {af : Array Edge} {g : Option (Nat × Bool)} {x y : Operand} {k : IntKind} {m n : Int}
theorem oq_leqT (hx : ev F x = some (.int k m)) (hy : ev F y = some (.int k n)) (h : m ≤ n) : OQ c ⟨d, .binOp .leq t x y t', ty, pos, af, g⟩ F H (.bool true) := (oq_leq hx hy).as (by simp [h])
theorem oq_leqF (hx : ev F x = some (.int k m)) (hy : ev F y = some (.int k n)) (h : ¬ m ≤ n) : OQ c ⟨d, .binOp .leq t x y t', ty, pos, af, g⟩ F H (.bool false) := (oq_leq hx hy).as (by simp [h])
theorem oq_lssT (hx : ev F x = some (.int k m)) (hy : ev F y = some (.int k n)) (h : m < n) : OQ c ⟨d, .binOp .lss t x y t', ty, pos, af, g⟩ F H (.bool true) := (oq_lss hx hy).as (by simp [h])
theorem oq_lssF (hx : ev F x = some (.int k m)) (hy : ev F y = some (.int k n)) (h : ¬ m < n) : OQ c ⟨d, .binOp .lss t x y t', ty, pos, af, g⟩ F H (.bool false) := (oq_lss hx hy).as (by simp [h])
theorem oq_gtrT (hx : ev F x = some (.int k m)) (hy : ev F y = some (.int k n)) (h : n < m) : OQ c ⟨d, .binOp .gtr t x y t', ty, pos, af, g⟩ F H (.bool true) := (oq_gtr hx hy).as (by simp [h])
theorem oq_gtrF (hx : ev F x = some (.int k m)) (hy : ev F y = some (.int k n)) (h : ¬ n < m) : OQ c ⟨d, .binOp .gtr t x y t', ty, pos, af, g⟩ F H (.bool false) := (oq_gtr hx hy).as (by simp [h])
theorem oq_geqT (hx : ev F x = some (.int k m)) (hy : ev F y = some (.int k n)) (h : n ≤ m) : OQ c ⟨d, .binOp .geq t x y t', ty, pos, af, g⟩ F H (.bool true) := (oq_geq hx hy).as (by simp [h])
theorem oq_geqF (hx : ev F x = some (.int k m)) (hy : ev F y = some (.int k n)) (h : ¬ n ≤ m) : OQ c ⟨d, .binOp .geq t x y t', ty, pos, af, g⟩ F H (.bool false) := (oq_geq hx hy).as (by simp [h])
theorem oq_eqlT (hx : ev F x = some (.int k m)) (hy : ev F y = some (.int k n)) (h : m = n) : OQ c ⟨d, .binOp .eql t x y t', ty, pos, af, g⟩ F H (.bool true) := (oq_eql hx hy).as (by simp [h])
theorem oq_eqlF (hx : ev F x = some (.int k m)) (hy : ev F y = some (.int k n)) (h : ¬ m = n) : OQ c ⟨d, .binOp .eql t x y t', ty, pos, af, g⟩ F H (.bool false) := (oq_eql hx hy).as (by simp [h])
theorem oq_neqT (hx : ev F x = some (.int k m)) (hy : ev F y = some (.int k n)) (h : ¬ m = n) : OQ c ⟨d, .binOp .neq t x y t', ty, pos, af, g⟩ F H (.bool true) := (oq_neq hx hy).as (by simp [h])
theorem oq_neqF (hx : ev F x = some (.int k m)) (hy : ev F y = some (.int k n)) (h : m = n) : OQ c ⟨d, .binOp .neq t x y t', ty, pos, af, g⟩ F H (.bool false) := (oq_neq hx hy).as (by simp [h])
end
end Go.Proofs.Ytmlmgipngbndgaa
/- What a deal makes of an office: plain laws. -/
namespace Go.Proofs.Ytmlmgipngbndgaa
set_option linter.unusedVariables false
set_option linter.unusedSimpArgs false
structure Deal where
  kind : Int
  n : Int
  seats : Int
  price : Int
  leaves : Int
def dealCells (d : Deal) : List Value := [.int .u8 d.kind, .int .i64 d.n, .int .i64 d.seats, .int .i64 d.price, .int .i64 d.leaves]
/-- The first bookings of a departure that wait get a seat, as many as are free. -/
def giveL (f : Int) : Int → List Bk → List Bk
  | _, [] => []
  | free, x :: l => if isB f 2 x = true ∧ 0 < free then ⟨x.flight, 1, x.kept⟩ :: giveL f (free - 1) l else x :: giveL f free l
def freeV (o : Off) (i : Nat) : Int := match o.fl[i]? with | some d => d.seats - manyV o.bk i 1 | none => 0
def givenV (o : Off) (i : Nat) : Off := { o with bk := giveL i (freeV o i) o.bk }
/-- A departure is closed: those who have a seat get a state, or are paid back; those who wait are paid back. -/
def shutB (f to : Int) (x : Bk) : Bk := if isB f 1 x then ⟨x.flight, to, x.kept⟩ else if isB f 2 x then ⟨x.flight, 4, x.kept⟩ else x
def backB (f to : Int) (x : Bk) : Bool := (isB f 1 x && decide (to = 4)) || isB f 2 x
def paidV (bk : List Bk) (f to : Int) (price : Int) : Int := ((bk.filter (backB f to)).length : Nat) * price
def closedV (o : Off) (i : Nat) (d : Dep) (st to : Int) : Off :=
  { o with fl := o.fl.set i ⟨d.seats, d.price, d.leaves, st⟩, bk := o.bk.map (shutB i to), out := o.out + paidV o.bk i to d.price }
/-- Why a departure cannot be taken; 0: it is open. -/
def openE (o : Off) (n : Int) : Int := if 0 ≤ n ∧ n < (o.fl.length : Int) then (match o.fl[n.toNat]? with | some d => if d.state = 0 then 0 else 85 | none => 2) else 2
def keptV (o : Off) (d : Dep) (x : Bk) : Int := if x.state = 1 ∧ d.leaves - o.now < o.notice then feeV d.price o.fee else 0
def depAt (o : Off) (n : Int) : Dep := match o.fl[n.toNat]? with | some d => d | none => ⟨0, 0, 0, 0⟩
def bkAt (o : Off) (n : Int) : Bk := match o.bk[n.toNat]? with | some d => d | none => ⟨0, 0, 0⟩
def addV (o : Off) (d : Deal) : Off := { o with fl := o.fl ++ [⟨d.seats, d.price, d.leaves, 0⟩] }
def sellV (o : Off) (n : Int) : Off := givenV { o with bk := o.bk ++ [⟨n, 2, 0⟩], inn := o.inn + (depAt o n).price } n.toNat
def paidB (o : Off) (n : Int) : Off :=
  let x := bkAt o n
  let d := depAt o x.flight
  { o with bk := o.bk.set n.toNat ⟨x.flight, 4, keptV o d x⟩, out := o.out + (d.price - keptV o d x) }
def cancelV (o : Off) (n : Int) : Off := givenV (paidB o n) (bkAt o n).flight.toNat
def seatsV (o : Off) (d : Deal) : Off :=
  let x := depAt o d.n
  givenV { o with fl := o.fl.set d.n.toNat ⟨d.seats, x.price, x.leaves, x.state⟩ } d.n.toNat
/-- Why a deal is refused; 0: it is not. -/
def doneE (o : Off) (d : Deal) : Int :=
  if d.kind = 1 then (if depOk ⟨d.seats, d.price, d.leaves, 0⟩ = true ∧ o.now ≤ d.leaves then (if o.fl.length < 10 then 0 else 9) else 2)
  else if d.kind = 2 then (if openE o d.n = 0 then (if o.bk.length < 120 then 0 else 9) else openE o d.n)
  else if d.kind = 3 then (if 0 ≤ d.n ∧ d.n < (o.bk.length : Int) then (if (bkAt o d.n).state = 1 ∨ (bkAt o d.n).state = 2 then 0 else 85) else 2)
  else if d.kind = 4 then (if openE o d.n = 0 then (if (depAt o d.n).leaves ≤ o.now then 0 else 86) else openE o d.n)
  else if d.kind = 5 then openE o d.n
  else if d.kind = 6 then (if 1 ≤ d.n ∧ d.n ≤ 1000000 ∧ o.now + d.n ≤ 1000000 then 0 else 2)
  else if d.kind = 7 then (if openE o d.n = 0 then (if 0 ≤ d.seats ∧ d.seats ≤ 50 then (if manyV o.bk d.n 1 ≤ d.seats then 0 else 9) else 2) else openE o d.n)
  else 2
/-- The office after a deal that is not refused. -/
def doneO (o : Off) (d : Deal) : Off :=
  if d.kind = 1 then addV o d
  else if d.kind = 2 then sellV o d.n
  else if d.kind = 3 then cancelV o d.n
  else if d.kind = 4 then closedV o d.n.toNat (depAt o d.n) 1 3
  else if d.kind = 5 then closedV o d.n.toNat (depAt o d.n) 2 4
  else if d.kind = 6 then { o with now := o.now + d.n }
  else seatsV o d
end Go.Proofs.Ytmlmgipngbndgaa
/- Stores into an office at work. -/
namespace Go.Proofs.Ytmlmgipngbndgaa
open Go.RowKit
set_option linter.unusedVariables false
set_option linter.unusedSimpArgs false
theorem flat_len {α : Type} {f : α → List Value} {s : Nat} (hf : ∀ x, (f x).length = s) : ∀ (l : List α), ((l.map f).flatten).length = l.length * s
  | [] => by simp
  | x :: l => by
    simp only [List.map_cons, List.flatten_cons, List.length_append, hf, flat_len hf l, List.length_cons, Nat.add_mul]
    omega
theorem flat_set {α : Type} {f : α → List Value} {s : Nat} (hf : ∀ x, (f x).length = s) : ∀ {l : List α} {i : Nat} {x y : α}, l[i]? = some x → ∀ {k : Nat} {v : Value}, k < s → f y = (f x).set k v → ((l.map f).flatten).set (i * s + k) v = ((l.set i y).map f).flatten
  | [], i, x, y, h, k, v, hk, hy => by simp at h
  | a :: l, 0, x, y, h, k, v, hk, hy => by
    obtain rfl : a = x := by simpa using h
    simp only [List.map_cons, List.flatten_cons, List.set_cons_zero, Nat.zero_mul, Nat.zero_add]
    rw [List.set_append_left _ _ (by rw [hf]; exact hk), hy]
  | a :: l, i + 1, x, y, h, k, v, hk, hy => by
    have h' : l[i]? = some x := by simpa using h
    simp only [List.map_cons, List.flatten_cons, List.set_cons_succ]
    rw [List.set_append_right _ _ (by rw [hf, Nat.add_mul]; omega), hf, show (i + 1) * s + k - s = i * s + k by rw [Nat.add_mul]; omega, flat_set hf h' hk hy]
theorem bk_set1 {l : List Bk} {i : Nat} {x : Bk} (h : l[i]? = some x) (s : Int) : ((l.map bkCells).flatten).set (0 + i * 3 + 1) (.int .u8 s) = ((l.set i ⟨x.flight, s, x.kept⟩).map bkCells).flatten := by
  rw [Nat.zero_add]; exact flat_set (s := 3) (k := 1) (fun _ => rfl) h (by omega) rfl
theorem bk_set2 {l : List Bk} {i : Nat} {x : Bk} (h : l[i]? = some x) (s : Int) : ((l.map bkCells).flatten).set (0 + i * 3 + 2) (.int .i64 s) = ((l.set i ⟨x.flight, x.state, s⟩).map bkCells).flatten := by
  rw [Nat.zero_add]; exact flat_set (s := 3) (k := 2) (fun _ => rfl) h (by omega) rfl
theorem dep_set0 {l : List Dep} {i : Nat} {x : Dep} (h : l[i]? = some x) (s : Int) : ((l.map depCells).flatten).set (0 + i * 4) (.int .i64 s) = ((l.set i ⟨s, x.price, x.leaves, x.state⟩).map depCells).flatten := by
  rw [Nat.zero_add]; exact flat_set (s := 4) (k := 0) (fun _ => rfl) h (by omega) rfl
theorem dep_set3 {l : List Dep} {i : Nat} {x : Dep} (h : l[i]? = some x) (s : Int) : ((l.map depCells).flatten).set (0 + i * 4 + 3) (.int .u8 s) = ((l.set i ⟨x.seats, x.price, x.leaves, s⟩).map depCells).flatten := by
  rw [Nat.zero_add]; exact flat_set (s := 4) (k := 3) (fun _ => rfl) h (by omega) rfl
theorem bk_room {l : List Bk} {i : Nat} {x : Bk} (h : l[i]? = some x) : 0 + i * 3 + 2 + 1 ≤ ((l.map bkCells).flatten).length := by
  rw [flat_len (s := 3) (fun _ => rfl)]
  have := (List.getElem?_eq_some_iff.1 h).1
  omega
theorem dep_room {l : List Dep} {i : Nat} {x : Dep} (h : l[i]? = some x) : 0 + i * 4 + 3 + 1 ≤ ((l.map depCells).flatten).length := by
  rw [flat_len (s := 4) (fun _ => rfl)]
  have := (List.getElem?_eq_some_iff.1 h).1
  omega
section
variable {c : Cx} {F : Fr} {H H' : Hp} {K : Value → Hp → Prop} {d : Option Tmp} {ty t : TypeId} {pos : String} {af : Array Edge} {g : Option (Nat × Bool)} {x y : Operand} {v : Value} {a0 : Bool} {z0 : List Value} {k0 : TyK} {b o : Nat} {C C' : List Value} {tg : Tg}
theorem os_storeB (ht : tyAt c.tys t = some ⟨a0, 1, z0, k0⟩) (hx : ev F x = some (.pointer (some ⟨b, o, none⟩))) (hy : ev F y = some v) (hv : v.oneCell' = true)
    (hp : Pick H b C tg H') (hC : C.set o v = C') (ho : o + 1 ≤ C.length) (k : K undef ((b, C', tg) :: H')) : OS c ⟨d, .store t x y, ty, pos, af, g⟩ F H K :=
  os_store ht hx hy hv hp ho (hC ▸ Norm.self _) k
end
/-- The cells of a desk. -/
theorem desk_out (o : Off) (A : Option Addr) (cf : Nat) (B : Option Addr) (cb : Nat) (z : Int) : (offCells o A cf B cb).set 6 (.int .i64 z) = offCells { o with out := z } A cf B cb := rfl
theorem desk_now (o : Off) (A : Option Addr) (cf : Nat) (B : Option Addr) (cb : Nat) (z : Int) : (offCells o A cf B cb).set 0 (.int .i64 z) = offCells { o with now := z } A cf B cb := rfl
theorem desk_inn (o : Off) (A : Option Addr) (cf : Nat) (B : Option Addr) (cb : Nat) (z : Int) : (offCells o A cf B cb).set 5 (.int .i64 z) = offCells { o with inn := z } A cf B cb := rfl
end Go.Proofs.Ytmlmgipngbndgaa
/- A departure that is open. -/
namespace Go.Proofs.Ytmlmgipngbndgaa
open Go.RowKit
attribute [local irreducible] TE AE OP OQ OS OX Rd T TL GX GL AL AI RV wpG SAny Calls
set_option maxRecDepth 100000
set_option maxHeartbeats 2000000
set_option linter.unusedVariables false
set_option linter.unusedSimpArgs false

theorem flight_ok (bd : Nat) (o : Off) (A : Option Addr) (cf : Nat) (B : Option Addr) (cb : Nat) (w : World) (hD : Desk w bd o A cf B cb) (hn : o.fl.length ≤ 1000000) (gA oA : Nat) (hAp : A = some ⟨gA, oA, none⟩) (i : Nat) (d : Dep) (hi : o.fl[i]? = some d) (h0 : d.state = 0) : Calls Try.prog 133 #[.pointer (some ⟨bd, 0, none⟩), .int .i64 (i : Int)] w fun e w' => e = .returned (.pointer (some ⟨gA, oA + i * 4, none⟩)) ∧ Ext w w' := by
  have hil := (List.getElem?_eq_some_iff.1 hi).1
  have d3 := hD.fls
  have hA := hD.fl
  obtain ⟨b1, o1, x, rfl, _, hx, c0, c1, c2, c3⟩ := dep_read hA hil
  obtain rfl : d = x := by rw [hi] at hx; exact Option.some.inj hx
  obtain ⟨rfl, rfl⟩ : b1 = gA ∧ o1 = oA := by cases hAp; exact ⟨rfl, rfl⟩
  have hq := allFrom_t (lo := 0) (hi := (o.fl.length : Int) - 1) (z := (i : Int)) ⟨by omega, by omega⟩
  refine enterQ (c := cx w 34) Try.func133 rfl rfl rfl rfl ?_
  repeat' (first | ((with_reducible apply oq_id); first | (focus ((with_reducible apply oq_indexAddrN); exact rfl; exact rfl; exact rfl; exact rfl; omega)) | ((with_reducible apply oq_eqlT); exact rfl; exact rfl; omega) | (apply oq_fn; exact rfl; first | exact trivial | (refine ⟨?_, ?_⟩ <;> omega) | (refine ⟨?_, ?_, ?_⟩ <;> omega) | omega | skip) | ((with_reducible apply oq_load); exact rfl; exact rfl) | ((with_reducible apply oq_call (k := 63) (hc := Try.call63)); exact rfl; exact rfl; exact fun D w1 hw1 => fromOne hq hw1 (by (repeat (first | exact P0 | apply P1)))) | ((with_reducible apply oq_call (k := 106) (hc := Try.call106)); exact rfl; exact rfl; exact fun D w1 hw1 => must_ok _ w1)) | ((with_reducible apply tl_id); first | ((with_reducible apply tl_nil)) | ((with_reducible apply u_q); exact rfl; exact rfl; exact rfl; exact rfl) | ((with_reducible apply u_s); exact rfl; exact rfl; exact rfl)) | ((with_reducible apply os_id); first | ((with_reducible apply os_x); exact rfl)) | ((with_reducible apply ox_id); first | ((with_reducible apply ox_buildSlice1); exact rfl; exact rfl; exact rfl; exact rfl; exact rfl; exact rfl; intro _)) | ((with_reducible apply rd_id); first | (apply Rd.old; (first | (with_reducible assumption) | exact c0 | exact c1 | exact c2 | exact c3 | exact c4 | exact c5 | exact c6 | exact c7 | exact c8 | exact d0 | exact d1 | exact d2 | exact d3 | exact d4 | exact d5); first | exact List.not_mem_nil | exact m0 | exact m1 | exact m2 | exact m3 | exact m4 | exact m5 | exact m6 | exact m7 | exact m8 | exact m9)) | ((with_reducible apply t_id); first | ((with_reducible apply t_seq)) | (apply t_region; kernel_rfl) | ((with_reducible apply t_ret))) | with_reducible apply q_thenN | ((with_reducible apply end_ret)) | exact rvs_nil | ((with_reducible apply rvs_cons)) | ((with_reducible apply rv_tmp); exact rfl))
  all_goals rfl

theorem flight_gone (bd : Nat) (o : Off) (A : Option Addr) (cf : Nat) (B : Option Addr) (cb : Nat) (w : World) (hD : Desk w bd o A cf B cb) (hn : o.fl.length ≤ 1000000) (i : Nat) (d : Dep) (hi : o.fl[i]? = some d) (h0 : ¬ d.state = 0) : Calls Try.prog 133 #[.pointer (some ⟨bd, 0, none⟩), .int .i64 (i : Int)] w fun e w' => e = .panicked (refu 85) ∧ Ext w w' := by
  have hil := (List.getElem?_eq_some_iff.1 hi).1
  have d3 := hD.fls
  have hA := hD.fl
  obtain ⟨b1, o1, x, rfl, _, hx, c0, c1, c2, c3⟩ := dep_read hA hil
  obtain rfl : d = x := by rw [hi] at hx; exact Option.some.inj hx
  have hq := allFrom_t (lo := 0) (hi := (o.fl.length : Int) - 1) (z := (i : Int)) ⟨by omega, by omega⟩
  refine enterPQ (c := cx w 34) Try.func133 rfl rfl rfl ?_
  repeat' (first | ((with_reducible apply oq_id); first | (focus ((with_reducible apply oq_indexAddrN); exact rfl; exact rfl; exact rfl; exact rfl; omega)) | ((with_reducible apply oq_eqlF); exact rfl; exact rfl; omega) | (apply oq_fn; exact rfl; first | exact trivial | (refine ⟨?_, ?_⟩ <;> omega) | (refine ⟨?_, ?_, ?_⟩ <;> omega) | omega | skip) | ((with_reducible apply oq_load); exact rfl; exact rfl) | ((with_reducible apply oq_call (k := 63) (hc := Try.call63)); exact rfl; exact rfl; exact fun D w1 hw1 => fromOne hq hw1 (by (repeat (first | exact P0 | apply P1)))) | ((with_reducible apply oq_call (k := 106) (hc := Try.call106)); exact rfl; exact rfl; exact fun D w1 hw1 => must_ok _ w1)) | ((with_reducible apply os_id); first | ((with_reducible apply os_x); exact rfl)) | ((with_reducible apply ox_id); first | ((with_reducible apply ox_buildSlice1); exact rfl; exact rfl; exact rfl; exact rfl; exact rfl; exact rfl; intro _)) | ((with_reducible apply rd_id); first | (apply Rd.old; (first | (with_reducible assumption) | exact c0 | exact c1 | exact c2 | exact c3 | exact c4 | exact c5 | exact c6 | exact c7 | exact c8 | exact d0 | exact d1 | exact d2 | exact d3 | exact d4 | exact d5); first | exact List.not_mem_nil | exact m0 | exact m1 | exact m2 | exact m3 | exact m4 | exact m5 | exact m6 | exact m7 | exact m8 | exact m9)) | ((with_reducible apply t_id); first | (apply t_regionE) | ((with_reducible apply t_seq))) | with_reducible apply q_thenN | ((with_reducible apply te_id); first | ((with_reducible apply e_p); exact rfl; ((with_reducible apply op_call (k := 106) (hc := Try.call106)); exact rfl; exact rfl; exact fun D w1 hw1 => must_no _ w1)) | ((with_reducible apply e_q); exact rfl; exact rfl; exact rfl; exact rfl) | ((with_reducible apply e_s); exact rfl; exact rfl; exact rfl) | ((with_reducible apply e_nil))))
  all_goals exact ⟨_, rfl, rfl⟩

theorem flight_arg (bd : Nat) (o : Off) (A : Option Addr) (cf : Nat) (B : Option Addr) (cb : Nat) (w : World) (hD : Desk w bd o A cf B cb) (hn : o.fl.length ≤ 1000000) (n : Int) (h0 : ¬ (0 ≤ n ∧ n < (o.fl.length : Int))) : Calls Try.prog 133 #[.pointer (some ⟨bd, 0, none⟩), .int .i64 n] w fun e w' => e = .panicked (refu 2) ∧ Ext w w' := by
  have d3 := hD.fls
  have hA := hD.fl
  have hq := allFrom_f (lo := 0) (hi := (o.fl.length : Int) - 1) (z := n) (by omega)
  refine enterPQ (c := cx w 34) Try.func133 rfl rfl rfl ?_
  repeat' (first | ((with_reducible apply oq_id); first | (apply oq_fn; exact rfl; first | exact trivial | (refine ⟨?_, ?_⟩ <;> omega) | (refine ⟨?_, ?_, ?_⟩ <;> omega) | omega | skip) | ((with_reducible apply oq_load); exact rfl; exact rfl) | ((with_reducible apply oq_call (k := 63) (hc := Try.call63)); exact rfl; exact rfl; exact fun D w1 hw1 => fromOne hq hw1 (by (repeat (first | exact P0 | apply P1))))) | ((with_reducible apply os_id); first | ((with_reducible apply os_x); exact rfl)) | ((with_reducible apply ox_id); first | ((with_reducible apply ox_buildSlice1); exact rfl; exact rfl; exact rfl; exact rfl; exact rfl; exact rfl; intro _)) | ((with_reducible apply rd_id); first | (apply Rd.old; (first | (with_reducible assumption) | exact c0 | exact c1 | exact c2 | exact c3 | exact c4 | exact c5 | exact c6 | exact c7 | exact c8 | exact d0 | exact d1 | exact d2 | exact d3 | exact d4 | exact d5); first | exact List.not_mem_nil | exact m0 | exact m1 | exact m2 | exact m3 | exact m4 | exact m5 | exact m6 | exact m7 | exact m8 | exact m9)) | ((with_reducible apply t_id); first | (apply t_regionE) | ((with_reducible apply t_seq))) | with_reducible apply q_thenN | ((with_reducible apply te_id); first | ((with_reducible apply e_p); exact rfl; ((with_reducible apply op_call (k := 106) (hc := Try.call106)); exact rfl; exact rfl; exact fun D w1 hw1 => must_no _ w1)) | ((with_reducible apply e_q); exact rfl; exact rfl; exact rfl; exact rfl) | ((with_reducible apply e_s); exact rfl; exact rfl; exact rfl) | ((with_reducible apply e_nil))))
  all_goals exact ⟨_, rfl, rfl⟩
theorem flight_no (bd : Nat) (o : Off) (A : Option Addr) (cf : Nat) (B : Option Addr) (cb : Nat) (w : World) (hD : Desk w bd o A cf B cb) (hn : o.fl.length ≤ 1000000) (n : Int) (h0 : ¬ openE o n = 0) : Calls Try.prog 133 #[.pointer (some ⟨bd, 0, none⟩), .int .i64 n] w fun e w' => e = .panicked (refu (openE o n)) ∧ Ext w w' := by
  by_cases hin : 0 ≤ n ∧ n < (o.fl.length : Int)
  · obtain ⟨i, rfl⟩ : ∃ i : Nat, n = (i : Int) := ⟨n.toNat, by omega⟩
    obtain ⟨d, hi⟩ : ∃ d, o.fl[i]? = some d := ⟨_, List.getElem?_eq_getElem (by omega)⟩
    have e : openE o (i : Int) = if d.state = 0 then 0 else 85 := by unfold openE; rw [if_pos hin, Int.toNat_natCast, hi]
    rw [e] at h0 ⊢
    by_cases hs : d.state = 0
    · rw [if_pos hs] at h0; exact absurd rfl h0
    · rw [if_neg hs]; exact flight_gone bd o A cf B cb w hD hn i d hi hs
  · have e : openE o n = 2 := by unfold openE; rw [if_neg hin]
    rw [e]
    exact flight_arg bd o A cf B cb w hD hn n hin
theorem openE_ok {o : Off} {n : Int} (h : openE o n = 0) : ∃ (i : Nat) (d : Dep), n = (i : Int) ∧ o.fl[i]? = some d ∧ d.state = 0 := by
  by_cases hin : 0 ≤ n ∧ n < (o.fl.length : Int)
  · obtain ⟨i, rfl⟩ : ∃ i : Nat, n = (i : Int) := ⟨n.toNat, by omega⟩
    obtain ⟨d, hi⟩ : ∃ d, o.fl[i]? = some d := ⟨_, List.getElem?_eq_getElem (by omega)⟩
    refine ⟨i, d, rfl, hi, ?_⟩
    unfold openE at h
    rw [if_pos hin, Int.toNat_natCast, hi] at h
    by_cases hs : d.state = 0
    · exact hs
    · simp [hs] at h
  · unfold openE at h
    rw [if_neg hin] at h
    exact absurd h (by decide)

end Go.Proofs.Ytmlmgipngbndgaa
/- Seats that are given, place by place: plain laws. -/
namespace Go.Proofs.Ytmlmgipngbndgaa
set_option linter.unusedVariables false
set_option linter.unusedSimpArgs false
theorem giveL_length (f : Int) : ∀ (n : Int) (l : List Bk), (giveL f n l).length = l.length
  | _, [] => rfl
  | n, x :: l => by
    unfold giveL
    split <;> simp [giveL_length f _ l]
theorem giveL_le {f : Int} : ∀ {n : Int} {l : List Bk}, n ≤ 0 → giveL f n l = l
  | _, [], _ => rfl
  | n, x :: l, h => by
    unfold giveL
    rw [if_neg (fun hh => by omega), giveL_le h]
theorem mt_isB (f s : Int) (x : Bk) : mtB f [s] x = isB f s x := by
  unfold mtB isB
  simp
theorem take_one {C : List Bk} {p : Nat} {y : Bk} (h : C[p]? = some y) : C.take (p + 1) = C.take p ++ [y] := by rw [List.take_add_one, h]; rfl
theorem drop_one {C : List Bk} {p : Nat} {y : Bk} (h : C[p]? = some y) : C.drop p = y :: C.drop (p + 1) := by
  obtain ⟨h1, h2⟩ := List.getElem?_eq_some_iff.1 h
  rw [List.drop_eq_getElem_cons h1, h2]
theorem take_set {C : List Bk} {p : Nat} {y z : Bk} (h : C[p]? = some y) : (C.set p z).take (p + 1) = C.take p ++ [z] := by
  have hl := (List.getElem?_eq_some_iff.1 h).1
  rw [take_one (y := z) (by simp [hl]), List.take_set_of_le (Nat.le_refl p)]
theorem drop_set {C : List Bk} {p : Nat} {z : Bk} : (C.set p z).drop (p + 1) = C.drop (p + 1) := List.drop_set_of_lt (Nat.lt_succ_self p)
theorem giv_gap {f n : Int} {C final : List Bk} {p : Nat} : ∀ {q : Nat}, p ≤ q → (∀ j y, p ≤ j → j < q → C[j]? = some y → isB f 2 y = false) → final = C.take p ++ giveL f n (C.drop p) → final = C.take q ++ giveL f n (C.drop q) := by
  intro q
  induction q with
  | zero => intro hp _ h; obtain rfl : p = 0 := by omega
            exact h
  | succ q ih =>
    intro hp hno h
    by_cases e : p = q + 1
    · rw [← e]; exact h
    · have h1 := ih (by omega) (fun j y a b => hno j y a (by omega)) h
      cases hy : C[q]? with
      | none =>
        have hl := List.getElem?_eq_none_iff.1 hy
        rw [List.take_of_length_le hl, List.drop_eq_nil_of_le hl] at h1
        rw [List.take_of_length_le (by omega), List.drop_eq_nil_of_le (by omega)]
        exact h1
      | some y =>
        have hb := hno q y (by omega) (by omega) hy
        rw [drop_one hy] at h1
        unfold giveL at h1
        rw [if_neg (fun hh => by rw [hb] at hh; cases hh.1)] at h1
        rw [h1, take_one hy, List.append_assoc]
        rfl
theorem giv_end {f n : Int} {C final : List Bk} {p : Nat} (hno : ∀ j y, p ≤ j → C[j]? = some y → isB f 2 y = false) (h : final = C.take p ++ giveL f n (C.drop p)) : final = C := by
  by_cases hp : p ≤ C.length
  · have h1 := giv_gap (q := C.length) hp (fun j y a _ => hno j y a) h
    rw [h1]; simp [giveL]
  · rw [h, List.take_of_length_le (by omega), List.drop_eq_nil_of_le (by omega)]
    simp [giveL]
theorem giv_hit {f n : Int} {C final : List Bk} {p : Nat} {y : Bk} (hy : C[p]? = some y) (hb : isB f 2 y = true) (hn : 0 < n) (h : final = C.take p ++ giveL f n (C.drop p)) :
    final = (C.set p ⟨y.flight, 1, y.kept⟩).take (p + 1) ++ giveL f (n - 1) ((C.set p ⟨y.flight, 1, y.kept⟩).drop (p + 1)) := by
  rw [drop_one hy] at h
  unfold giveL at h
  rw [if_pos ⟨hb, hn⟩] at h
  rw [h, take_set hy, drop_set, List.append_assoc]
  rfl
theorem giv_stop {f n : Int} {C final : List Bk} {p : Nat} (hn : n ≤ 0) (h : final = C.take p ++ giveL f n (C.drop p)) : final = C := by
  rw [h, giveL_le hn, List.take_append_drop]
theorem offCells_len {o o' : Off} (h1 : o'.now = o.now) (h2 : o'.notice = o.notice) (h3 : o'.fee = o.fee) (h4 : o'.inn = o.inn) (h5 : o'.out = o.out) (h6 : o'.fl.length = o.fl.length) (h7 : o'.bk.length = o.bk.length) (A : Option Addr) (cf : Nat) (B : Option Addr) (cb : Nat) : offCells o' A cf B cb = offCells o A cf B cb := by
  unfold offCells
  rw [h1, h2, h3, h4, h5, h6, h7]
/-- Give, under way. -/
def GivR (o : Off) (f n0 : Int) (p : Nat) (n : Int) (C : List Bk) : Prop := C.length = o.bk.length ∧ giveL f n0 o.bk = C.take p ++ giveL f n (C.drop p) ∧ -1000000 ≤ n ∧ n ≤ 1000000
end Go.Proofs.Ytmlmgipngbndgaa
/- A valid office: what the walks need of it. -/
namespace Go.Proofs.Ytmlmgipngbndgaa
set_option linter.unusedVariables false
set_option linter.unusedSimpArgs false
structure OkO (o : Off) : Prop where
  now : 0 ≤ o.now ∧ o.now ≤ 1000000
  notice : 0 ≤ o.notice ∧ o.notice ≤ 1000000
  fee : 0 ≤ o.fee ∧ o.fee ≤ 100
  nf : o.fl.length ≤ 10
  nb : o.bk.length ≤ 120
  deps : DepsOk o.fl
  bks : BksOk o.fl o.bk
  fit : o.bk.all (bookedB o.fl o.fee) = true
  seats : (List.range o.fl.length).all (seatB o.fl o.bk) = true
  money : moneyB o = true
  inn : -1000000000 ≤ o.inn ∧ o.inn ≤ 1000000000
  out : -1000000000 ≤ o.out ∧ o.out ≤ 1000000000
theorem okO {o : Off} (hu : ∀ d ∈ o.fl, 0 ≤ d.state) (h : officeB o = true) : OkO o := by
  obtain ⟨h1, hd, hb, hba, hse, hmo⟩ := officeB_in hu h
  have hi := headB_in h1
  have hs := sums_in hd hb (Nat.le_refl o.bk.length)
  rw [sums_all (Nat.le_refl _)] at hs
  have hmo' := hmo
  unfold moneyB at hmo'
  simp only [Bool.and_eq_true, decide_eq_true_eq] at hmo'
  unfold Small at hs
  exact ⟨⟨hi.1, hi.2.1⟩, ⟨hi.2.2.1, hi.2.2.2.1⟩, ⟨hi.2.2.2.2.1, hi.2.2.2.2.2.1⟩, hi.2.2.2.2.2.2.1, hi.2.2.2.2.2.2.2, hd, hb, hba, hse, hmo, by omega, by omega⟩
theorem OkO.dep {o : Off} (h : OkO o) {i : Nat} {d : Dep} (hi : o.fl[i]? = some d) : 0 ≤ d.seats ∧ d.seats ≤ 50 ∧ 0 ≤ d.price ∧ d.price ≤ 1000000 ∧ 0 ≤ d.leaves ∧ d.leaves ≤ 1000000 ∧ d.state ≤ 2 := depOk_in (h.deps d (List.mem_of_getElem? hi)).1
/-- What a deal leaves. -/
def DV (bd : Nat) (o : Off) (v : Value) (H : Hp) : Prop := v = .tuple #[] ∧ ∃ x y, (x = none → o.fl.length = 0) ∧ (y = none → o.bk.length = 0) ∧ H = deskH bd o x y
def DS (bd : Nat) (o : Off) (v : Value) (H : Hp) : Prop := v = .tuple #[] ∧ ∃ x y, (x = none → o.fl.length = 0) ∧ (y = none → o.bk.length = 0) ∧ HpSub H (deskH bd o x y)
theorem ds_dv {k : Nat} {args : Array Value} {bd : Nat} {o : Off} {M : Ms} {w : World} (h : Calls Try.prog k args w fun e w' => ∃ v H', e = .returned v ∧ DS bd o v H' ∧ Has w M H' w') : Calls Try.prog k args w fun e w' => ∃ v H', e = .returned v ∧ DV bd o v H' ∧ Has w M H' w' :=
  h.mono fun e w' ⟨v, H', h1, ⟨h2, x, y, h3, h4, h5⟩, h6⟩ => ⟨v, _, h1, ⟨h2, x, y, h3, h4, rfl⟩, h6.sub h5⟩
end Go.Proofs.Ytmlmgipngbndgaa
/- A departure that is closed, place by place: plain laws. -/
namespace Go.Proofs.Ytmlmgipngbndgaa
set_option linter.unusedVariables false
set_option linter.unusedSimpArgs false
def midS (f to : Int) (bk : List Bk) (p : Nat) : List Bk := (bk.take p).map (shutB f to) ++ bk.drop p
def paidTo (bk : List Bk) (f to price : Int) (p : Nat) : Int := paidV (bk.take p) f to price
theorem mt_is2 (f : Int) (x : Bk) : mtB f [1, 2] x = (isB f 1 x || isB f 2 x) := by
  unfold mtB isB
  by_cases h1 : x.flight = f <;> simp [h1]
theorem shut_no {f to : Int} {x : Bk} (h : mtB f [1, 2] x = false) : shutB f to x = x ∧ backB f to x = false := by
  rw [mt_is2] at h
  simp only [Bool.or_eq_false_iff] at h
  unfold shutB backB
  rw [h.1, h.2]
  exact ⟨rfl, rfl⟩
theorem midS_len (f to : Int) (bk : List Bk) (p : Nat) : (midS f to bk p).length = bk.length := by
  unfold midS
  simp only [List.length_append, List.length_map, List.length_take, List.length_drop]
  omega
theorem midS_at {f to : Int} {bk : List Bk} {p j : Nat} (h : p ≤ j) : (midS f to bk p)[j]? = bk[j]? := by
  unfold midS
  by_cases hp : p ≤ bk.length
  · rw [List.getElem?_append_right (by simp; omega)]
    simp only [List.length_map, List.length_take, List.getElem?_drop]
    congr 1
    omega
  · rw [List.take_of_length_le (by omega), List.drop_eq_nil_of_le (by omega), List.append_nil]
    rw [List.getElem?_eq_none (by simp; omega), List.getElem?_eq_none (by omega)]
theorem midS_zero (f to : Int) (bk : List Bk) : midS f to bk 0 = bk := by simp [midS]
theorem midS_all {f to : Int} {bk : List Bk} {p : Nat} (h : bk.length ≤ p) : midS f to bk p = bk.map (shutB f to) := by
  unfold midS
  rw [List.take_of_length_le h, List.drop_eq_nil_of_le h, List.append_nil]
theorem midS_step {f to : Int} {bk : List Bk} {p : Nat} {y : Bk} (h : bk[p]? = some y) : midS f to bk (p + 1) = (midS f to bk p).set p (shutB f to y) := by
  have hl := (List.getElem?_eq_some_iff.1 h).1
  unfold midS
  rw [take_one h, drop_one h, List.map_append, List.set_append_right _ _ (by simp; omega)]
  simp only [List.length_map, List.length_take, List.map_cons, List.map_nil, List.append_assoc, List.cons_append, List.nil_append]
  rw [show p - min p bk.length = 0 by omega]
  rfl
theorem paid_step {bk : List Bk} {f to price : Int} {p : Nat} {y : Bk} (h : bk[p]? = some y) : paidTo bk f to price (p + 1) = paidTo bk f to price p + (if backB f to y = true then price else 0) := by
  unfold paidTo paidV
  rw [take_one h, List.filter_append, List.length_append]
  by_cases hb : backB f to y = true
  · simp [hb, Int.add_mul]
  · simp [hb]
theorem paid_all {bk : List Bk} {f to price : Int} {p : Nat} (h : bk.length ≤ p) : paidTo bk f to price p = paidV bk f to price := by
  unfold paidTo
  rw [List.take_of_length_le h]
theorem paid_in {bk : List Bk} {f to price : Int} (hp : 0 ≤ price ∧ price ≤ 1000000) (hn : bk.length ≤ 120) (p : Nat) : 0 ≤ paidTo bk f to price p ∧ paidTo bk f to price p ≤ 120000000 := by
  unfold paidTo paidV
  have h1 := List.length_filter_le (backB f to) (bk.take p)
  have h2 := List.length_take_le' p bk
  obtain ⟨q, hq⟩ : ∃ q, ((bk.take p).filter (backB f to)).length = q := ⟨_, rfl⟩
  rw [hq] at h1 ⊢
  have h3 : (q : Int) ≤ 120 := by omega
  have a := Int.mul_nonneg (Int.natCast_nonneg q) hp.1
  have b := Int.mul_le_mul h3 hp.2 hp.1 (by omega)
  omega
theorem midS_gap {f to price : Int} {bk : List Bk} {p : Nat} : ∀ {q : Nat}, p ≤ q → (∀ j y, p ≤ j → j < q → bk[j]? = some y → mtB f [1, 2] y = false) → midS f to bk q = midS f to bk p ∧ paidTo bk f to price q = paidTo bk f to price p := by
  intro q
  induction q with
  | zero => intro hp _; obtain rfl : p = 0 := by omega
            exact ⟨rfl, rfl⟩
  | succ q ih =>
    intro hp hno
    by_cases e : p = q + 1
    · rw [e]; exact ⟨rfl, rfl⟩
    · obtain ⟨h1, h2⟩ := ih (by omega) (fun j y a b => hno j y a (by omega))
      cases hy : bk[q]? with
      | none =>
        have hl := List.getElem?_eq_none_iff.1 hy
        refine ⟨?_, ?_⟩
        · rw [← h1, midS_all hl, midS_all (by omega)]
        · rw [← h2, paid_all hl, paid_all (by omega)]
      | some y =>
        have hb := shut_no (to := to) (hno q y (by omega) (by omega) hy)
        refine ⟨?_, ?_⟩
        · rw [midS_step hy, hb.1, ← h1]
          refine List.ext_getElem? fun j => ?_
          by_cases hj : q = j
          · subst hj
            have hl := (List.getElem?_eq_some_iff.1 hy).1
            rw [List.getElem?_set_self (by rw [midS_len]; exact hl), midS_at (Nat.le_refl _), hy]
          · rw [List.getElem?_set_ne hj]
        · rw [paid_step hy, hb.2, ← h2]; simp
theorem midS_end {f to price : Int} {bk : List Bk} {p : Nat} (hno : ∀ j y, p ≤ j → bk[j]? = some y → mtB f [1, 2] y = false) : midS f to bk p = bk.map (shutB f to) ∧ paidTo bk f to price p = paidV bk f to price := by
  by_cases hp : p ≤ bk.length
  · obtain ⟨h1, h2⟩ := midS_gap (to := to) (price := price) hp (fun j y a _ => hno j y a)
    rw [← h1, ← h2, midS_all (Nat.le_refl _), paid_all (Nat.le_refl _)]
    exact ⟨rfl, rfl⟩
  · rw [midS_all (by omega), paid_all (by omega)]
    exact ⟨rfl, rfl⟩
/-- Of a booking that has a seat or waits nothing is kept. -/
theorem OkO.kept0 {o : Off} (h : OkO o) {x : Bk} (hx : x ∈ o.bk) (hs : x.state = 1 ∨ x.state = 2) : x.kept = 0 := by
  have hb := List.all_eq_true.1 h.fit x hx
  have hk := h.bks x hx
  unfold bookedB at hb
  rw [if_pos ⟨hk.1, hk.2.1⟩] at hb
  split at hb
  · cases hb
  · rw [if_neg (by omega)] at hb
    simp only [Bool.and_eq_true, decide_eq_true_eq] at hb
    exact hb.2
theorem Has.old {w0 : World} {M : Ms} {H : Hp} {w : World} (h : Has w0 M H w) {b o : Nat} {v : Value} (hc : w0.cell? ⟨b, o, none⟩ = some v) (hm : b ∉ M.wr) : w.cell? ⟨b, o, none⟩ = some v := by
  rw [World.cell?_of_block (w := w0) (a := ⟨b, o, none⟩) (h.ext.block b (cell_lt hc) hm)]
  exact hc
end Go.Proofs.Ytmlmgipngbndgaa
/- A sale, told in two ways: plain laws. -/
namespace Go.Proofs.Ytmlmgipngbndgaa
set_option linter.unusedVariables false
set_option linter.unusedSimpArgs false
theorem giveL_none {f n : Int} : ∀ {l r : List Bk}, (∀ x ∈ l, isB f 2 x = false) → giveL f n (l ++ r) = l ++ giveL f n r
  | [], r, h => rfl
  | x :: l, r, h => by
    have hx := h x (List.mem_cons_self ..)
    simp only [List.cons_append]
    conv => lhs; unfold giveL
    rw [if_neg (fun hh => by rw [hx] at hh; cases hh.1), giveL_none (fun y hy => h y (List.mem_cons_of_mem _ hy))]
theorem many_none {bk : List Bk} {f s : Int} (h : manyV bk f s ≤ 0) : ∀ x ∈ bk, isB f s x = false := by
  intro x hx
  cases hb : isB f s x with
  | false => rfl
  | true =>
    unfold manyV at h
    have : x ∈ bk.filter (isB f s) := List.mem_filter.2 ⟨hx, hb⟩
    have := List.length_pos_of_mem this
    omega
theorem many_zero_of {bk : List Bk} {f s : Int} (h : ∀ x ∈ bk, isB f s x = false) : manyV bk f s = 0 := by
  unfold manyV
  rw [List.filter_eq_nil_iff.2 (fun x hx => by rw [h x hx]; simp)]
  rfl
/-- A departure that is open has no bookings that are flown. -/
theorem OkO.noflown {o : Off} (hv : OkO o) {i : Nat} {d : Dep} (hi : o.fl[i]? = some d) (h0 : d.state = 0) : manyV o.bk i 3 = 0 := by
  refine many_zero_of fun x hx => ?_
  cases hb : isB (i : Int) 3 x with
  | false => rfl
  | true =>
    unfold isB at hb
    simp only [Bool.and_eq_true, decide_eq_true_eq] at hb
    have hf := List.all_eq_true.1 hv.fit x hx
    have hk := hv.bks x hx
    unfold bookedB at hf
    rw [if_pos ⟨hk.1, hk.2.1⟩, hb.1, Int.toNat_natCast, hi] at hf
    simp only at hf
    rw [if_neg (by omega)] at hf
    simp only [Bool.and_eq_true, decide_eq_true_eq, fitB, h0, hb.2] at hf
    simp at hf
theorem OkO.seat {o : Off} (hv : OkO o) {i : Nat} {d : Dep} (hi : o.fl[i]? = some d) : manyV o.bk i 1 + manyV o.bk i 3 ≤ d.seats ∧ (manyV o.bk i 1 + manyV o.bk i 3 = d.seats ∨ manyV o.bk i 2 ≤ 0) := by
  have hl := (List.getElem?_eq_some_iff.1 hi).1
  have h := List.all_eq_true.1 hv.seats i (List.mem_range.2 hl)
  unfold seatB at h
  rw [hi] at h
  simp only [Bool.and_eq_true, Bool.or_eq_true, decide_eq_true_eq] at h
  exact h
theorem many_add (bk : List Bk) (x : Bk) (f s : Int) : manyV (bk ++ [x]) f s = manyV bk f s + (if isB f s x = true then 1 else 0) := by
  unfold manyV
  rw [List.filter_append, List.length_append]
  by_cases h : isB f s x = true
  · simp [h]
  · simp [h]
theorem sell_eq {o : Off} (hv : OkO o) {i : Nat} {d : Dep} (hi : o.fl[i]? = some d) (h0 : d.state = 0) : sellV o (i : Int) = { o with bk := o.bk ++ [⟨(i : Int), if manyV o.bk i 1 < d.seats then 1 else 2, 0⟩], inn := o.inn + d.price } := by
  have hdep : depAt o (i : Int) = d := by unfold depAt; rw [Int.toNat_natCast, hi]
  unfold sellV givenV freeV
  simp only [hdep, Int.toNat_natCast, hi]
  have hm : manyV (o.bk ++ [⟨(i : Int), 2, 0⟩]) i 1 = manyV o.bk i 1 := by
    rw [many_add, if_neg (by unfold isB; simp)]; omega
  rw [hm]
  have hs := hv.seat hi
  rw [hv.noflown hi h0] at hs
  by_cases hlt : manyV o.bk i 1 < d.seats
  · rw [giveL_none (many_none (by omega)), if_pos hlt]
    unfold giveL
    rw [if_pos ⟨by unfold isB; simp, by omega⟩]
    unfold giveL
    rfl
  · rw [giveL_le (by omega), if_neg hlt]
end Go.Proofs.Ytmlmgipngbndgaa
/- Walks in a frame that has deferred a call. -/
namespace Go.Proofs.Ytmlmgipngbndgaa
open Go.RowKit
set_option linter.unusedVariables false
set_option linter.unusedSimpArgs false
/-- A frame with the deferred calls ds, no marks. -/
def Fd (c : Cx) (ds : List Deferred) (F : Fr) (a : Act) : Prop := Frm [] c.N F ⟨a.tmps, []⟩ ∧ a.defers = ds
def cvd (c : Cx) (ds : List Deferred) (Q : QS) : Exit → Act → World → Prop := fun e a w => ∃ F H, Q e F H ∧ Fd c ds F a ∧ Has c.w0 ⟨c.M, []⟩ H w
def DT (c : Cx) (ds : List Deferred) (k : Code) (Q : QS) (F : Fr) (H : Hp) : Prop := ∀ a w, Fd c ds F a → Has c.w0 ⟨c.M, []⟩ H w → k.wp c.P (cvd c ds Q) a w
def DE (c : Cx) (ds : List Deferred) (ops : Array Oper) (rest : List Oper) (Q : QS) (F : Fr) (H : Hp) : Prop :=
  ∀ i, ops.toList.drop i = rest → ∀ a w, Fd c ds F a → Has c.w0 ⟨c.M, []⟩ H w → wpOps c.P ops (cvd c ds Q) (List.range' i (ops.size - i)) a w
section
variable {c : Cx} {ds : List Deferred} {Q : QS} {F : Fr} {H : Hp} {ops : Array Oper} {o : Oper} {rest : List Oper} {d : Nat} {v : Value} {x y : Code}
theorem eval_ds (a : Act) : (⟨a.tmps, []⟩ : Act).eval = a.eval := by funext x; cases x <;> rfl
theorem put_ds (a : Act) (d : Option Tmp) (v : Value) : (a.put d v).defers = a.defers := by cases d <;> rfl
theorem put_tm (a : Act) (d : Option Tmp) (v : Value) : (⟨a.tmps, []⟩ : Act).put d v = ⟨(a.put d v).tmps, []⟩ := by cases d <;> rfl
theorem Fd.put {a : Act} (h : Fd c ds F a) (hd : Nat.blt d c.N = true) (v : Value) : Fd c ds ((d, v) :: F) (a.put (some d) v) := ⟨h.1.put hd v, h.2⟩
theorem Fd.putNone {a : Act} (h : Fd c ds F a) (v : Value) : Fd c ds F (a.put none v) := h
theorem Fd.wanted {a : Act} {r : Bool} (h : Fd c ds F a) (hr : runs ops F o = some r) : Region.wanted o (yielded ops a.tmps) = r := runs_spec (a := ⟨a.tmps, []⟩) h.1 hr
theorem dt_seq (h : DT c ds x (thenQ (DT c ds y Q) Q) F H) : DT c ds (.seq x y) Q F H := fun a w ha hw =>
  wp_seq (wp_mono (h a w ha hw) fun e a w ⟨F', H', h1, h2, h3⟩ => by
    cases e <;> first
      | exact ⟨F', H', h1, h2, h3⟩
      | exact h1 a w h2 h3)
theorem dt_skip (h : Q .normal F H) : DT c ds .skip Q F H := fun a w ha hw => wp_skip ⟨F, H, h, ha, hw⟩
theorem dt_condT {o : Operand} (ho : ev F o = some (.bool true)) (h : DT c ds x Q F H) : DT c ds (.cond o x y) Q F H := fun a w ha hw => wp_cond (t := true) (ha.1.ev ho) (h a w ha hw)
theorem dt_condF {o : Operand} (ho : ev F o = some (.bool false)) (h : DT c ds y Q F H) : DT c ds (.cond o x y) Q F H := fun a w ha hw => wp_cond (t := false) (ha.1.ev ho) (h a w ha hw)
theorem dt_region {id : Nat} {l : List Oper} (h : DE c ds ⟨l⟩ l Q F H) : DT c ds (.region id ⟨l⟩ false) Q F H := fun a w ha hw => by
  refine wp_region ?_
  have := h 0 rfl a w ha hw
  rw [List.range_eq_range']
  exact this
theorem d_nil (h : Q .normal F H) : DE c ds ops [] Q F H := fun i hi a w ha hw => by
  have : ops.size - i = 0 := by
    have := congrArg List.length hi
    simp at this
    omega
  rw [this]
  exact ⟨F, H, h, ha, hw⟩
theorem d_q (hr : runs ops F o = some true) (_hw : isW o.op = false) (hd : o.dst = some d) (hN : Nat.blt d c.N = true) (h : OQ c o F H v) (k : DE c ds ops rest Q ((d, v) :: F) H) : DE c ds ops (o :: rest) Q F H := fun i hi a w ha hw => by
  obtain ⟨h1, h2, h3⟩ := drop_cons hi
  rw [h3]
  simp only [wpOps, h1, ha.wanted hr, if_true]
  refine .inl (givesUpon_wpQ (eval_ds a ▸ h [] ⟨a.tmps, []⟩ w ha.1 hw) fun u w' ⟨hu, hx⟩ => ?_)
  subst hu
  rw [hd]
  exact k _ h2 _ _ (ha.put hN _) (hw.grow hx)
theorem d_s (hr : runs ops F o = some true) (hd : o.dst = some d) (hN : Nat.blt d c.N = true) (h : OS c o F H (fun v H' => DE c ds ops rest Q ((d, v) :: F) H')) : DE c ds ops (o :: rest) Q F H := fun i hi a w ha hw => by
  obtain ⟨h1, h2, h3⟩ := drop_cons hi
  rw [h3]
  simp only [wpOps, h1, ha.wanted hr, if_true]
  refine .inl (givesUpon_wpQ (eval_ds a ▸ h [] ⟨a.tmps, []⟩ w ha.1 hw) fun u w' ⟨H', hu, hx⟩ => ?_)
  rw [hd]
  exact hu _ h2 _ _ (ha.put hN _) hx
theorem d_s0 (hr : runs ops F o = some true) (hd : o.dst = none) (h : OS c o F H (fun _ H' => DE c ds ops rest Q F H')) : DE c ds ops (o :: rest) Q F H := fun i hi a w ha hw => by
  obtain ⟨h1, h2, h3⟩ := drop_cons hi
  rw [h3]
  simp only [wpOps, h1, ha.wanted hr, if_true]
  refine .inl (givesUpon_wpQ (eval_ds a ▸ h [] ⟨a.tmps, []⟩ w ha.1 hw) fun u w' ⟨H', hu, hx⟩ => ?_)
  rw [hd]
  exact hu _ h2 _ _ (ha.putNone _) hx
theorem d_p (hr : runs ops F o = some true) (h : OP c o F H (fun ch H' => Q (.panic ch) F H')) : DE c ds ops (o :: rest) Q F H := fun i hi a w ha hw => by
  obtain ⟨h1, h2, h3⟩ := drop_cons hi
  rw [h3]
  simp only [wpOps, h1, ha.wanted hr, if_true]
  exact .inl (panics_wp (eval_ds a ▸ h [] ⟨a.tmps, []⟩ w ha.1 hw) fun ch w' ⟨H', hk, hw'⟩ => ⟨F, H', hk, ha, hw'⟩)
theorem wpGI_ds {P : Program} {I : World → Prop} {R : Act → Prop} : ∀ (l : List Nat) (a : Act), a.defers = ds → wpGI P ops I R l ⟨a.tmps, []⟩ → wpGI P ops I (fun a' => R ⟨a'.tmps, []⟩ ∧ a'.defers = ds) l a
  | [], a, hd, h => ⟨h, hd⟩
  | i :: l, a, hd, h => by
    unfold wpGI at h ⊢
    cases ho : ops[i]? with
    | none => simp only [ho] at h
    | some o =>
      simp only [ho] at h ⊢
      by_cases hw : Region.wanted o (yielded ops a.tmps) = true
      · simp only [hw, if_true] at h ⊢
        obtain ⟨v, h1, h2⟩ := h
        refine ⟨v, ?_, ?_⟩
        · intro W hW; have := h1 W hW; rw [eval_ds] at this; exact this
        exact wpGI_ds l (a.put o.dst v) (by rw [put_ds]; exact hd) (by rw [← put_tm]; exact h2)
      · simp only [hw] at h ⊢
        exact wpGI_ds l (a.put o.dst undef) (by rw [put_ds]; exact hd) (by rw [← put_tm]; exact h)
/-- A drawn region: quiet operations, then one that is not. -/
theorem dt_mix1 {id i : Nat} {l ql : List Oper} (q : List Nat) (cov : Array Bool) (hm : c.P.follows .mixedOrders = true) (hB : (Region.noSelect ⟨l⟩ && (1 + q.length == (Array.mk l).size) && lexOk ⟨l⟩ cov q (Array.replicate (Array.mk l).size false)) = true)
    (hq : pickOps l q = some ql) (hr : Region.ready .any ⟨l⟩ (listedBy q (Array.replicate (Array.mk l).size false)) = [i]) (hc : cov.getD i false = true) (ho : l[i]? = some o)
    (hz : Region.ready .any ⟨l⟩ ((listedBy q (Array.replicate (Array.mk l).size false)).setIfInBounds i true) = []) (hd : o.dst = some d) (hN : Nat.blt d c.N = true)
    (h : GX c ⟨l⟩ ql (fun F' => runs ⟨l⟩ F' o = some true ∧ (OS c o F' H (fun v H' => Q .normal ((d, v) :: F') H') ∨ OP c o F' H (fun ch H' => Q (.panic ch) F' H'))) F H) : DT c ds (.region id ⟨l⟩ true) Q F H := fun a w ha hw => by
  refine wpIn_wide.1 (wpInW_mixed (n := 0) (cov := cov) (Has.up (M := ⟨c.M, []⟩)) hw q 1 hm hB (wpGI_mono (fun a' ⟨⟨F', ⟨h1, h2⟩, h3⟩, h4⟩ w' hw' => ?_) q a (wpGI_ds q a ha.2 (h q (pickOps_spec hq) [] _ ha.1))))
  have hfd : Fd c ds F' a' := ⟨h3, h4⟩
  refine SInI_one hr hc (wpOpIn_on (o := o) (by simpa using ho) (hfd.wanted h1) ?_)
  rcases h2 with h2 | h2
  · refine wpInW_of_wp (givesUpon_wp (eval_ds a' ▸ h2 [] ⟨a'.tmps, []⟩ w' h3 hw') fun u w'' ⟨H', hu, hx⟩ => ?_)
    rw [hd]
    exact ⟨hz, _, H', hu, hfd.put hN _, hx⟩
  · exact panics_wpIn (eval_ds a' ▸ h2 [] ⟨a'.tmps, []⟩ w' h3 hw') fun ch w'' ⟨H', hk, hx⟩ => ⟨F', H', hk, hfd, hx⟩
theorem dt_ret (h : Q .ret F H) : DT c ds .ret Q F H := fun a w ha hw => wp_ret ⟨F, H, h, ha, hw⟩
theorem dt_run {k : Code} (h : DT c ds k Q F H) (a : Act) (w : World) (ha : Fd c ds F a) (hw : Has c.w0 ⟨c.M, []⟩ H w) : k.wp c.P (cvd c ds Q) a w := h a w ha hw
theorem dt_id {k : Code} (h : DT c ds k Q F H) : DT c ds k Q F H := h
theorem de_id {l : List Oper} (h : DE c ds ops l Q F H) : DE c ds ops l Q F H := h
end
end Go.Proofs.Ytmlmgipngbndgaa
/- A booking is paid back. -/
namespace Go.Proofs.Ytmlmgipngbndgaa
open Go.RowKit
attribute [local irreducible] OQ OS OX Rd T TL GX GL AL AI RV wpG SAny Calls
set_option maxRecDepth 100000
set_option maxHeartbeats 2000000
set_option linter.unusedVariables false
set_option linter.unusedSimpArgs false

theorem repay_T (bd gB cB gA oA cf i j : Nat) (o : Off) (tgd tgb : Tg) (price kept : Int) (C : List Bk) (x : Bk) (w : World) (hw : Has w ⟨[bd, gB], []⟩ [(bd, offCells o (some ⟨gA, oA, none⟩) cf (some ⟨gB, 0, none⟩) cB, tgd), (gB, (C.map bkCells).flatten, tgb)] w)
    (hx : C[j]? = some x) (hf : x.flight = (i : Int)) (hi : i < o.fl.length) (hp : w.cell? ⟨gA, oA + i * 4 + 1, none⟩ = some (.int .i64 price)) (hm : gA ∉ [bd, gB]) (hb1 : -1000000000 ≤ o.out ∧ o.out ≤ 1000000000) (hb2 : 0 ≤ price ∧ price ≤ 1000000) (hb3 : 0 ≤ kept ∧ kept ≤ 1000000) :
    Calls Try.prog 135 #[.pointer (some ⟨bd, 0, none⟩), .pointer (some ⟨gB, 0 + j * 3, none⟩), .int .i64 kept] w fun e w' => ∃ v H', e = .returned v ∧ (v = .tuple #[] ∧ H' = [(bd, offCells { o with out := o.out + (price - kept) } (some ⟨gA, oA, none⟩) cf (some ⟨gB, 0, none⟩) cB, tgd), (gB, ((C.set j ⟨x.flight, 4, kept⟩).map bkCells).flatten, tgb)]) ∧ Has w ⟨[bd, gB], []⟩ H' w' := by
  obtain ⟨f, st, kp⟩ := x
  simp only at hf
  subst hf
  have c0 := hp
  have m0 := hm
  have hjl := (List.getElem?_eq_some_iff.1 hx).1
  have hS1 := bk_set1 hx 4
  have hx1 : (C.set j ⟨(i : Int), 4, kp⟩)[j]? = some ⟨(i : Int), 4, kp⟩ := by simp [hjl]
  have hS2 := bk_set2 hx1 kept
  rw [List.set_set] at hS2
  simp only at hS1 hS2
  have room1 := Nat.le_of_succ_le (bk_room hx)
  have room2 := bk_room hx1
  have hx2 : (C.set j ⟨(i : Int), 4, kept⟩)[j]? = some ⟨(i : Int), 4, kept⟩ := by simp [hjl]
  obtain ⟨r0, r1, r2⟩ := bk_at hx2
  simp only at r0 r1 r2 ⊢
  have hO := desk_out o (some ⟨gA, oA, none⟩) cf (some ⟨gB, 0, none⟩) cB (o.out + (price - kept))
  refine (enter (c := cxM [bd, gB] w 36) (H := [(bd, offCells o (some ⟨gA, oA, none⟩) cf (some ⟨gB, 0, none⟩) cB, tgd), (gB, (C.map bkCells).flatten, tgb)]) (F := frOf 0 _) (PV := fun v H => v = .tuple #[] ∧ HpSub H [(bd, offCells { o with out := o.out + (price - kept) } (some ⟨gA, oA, none⟩) cf (some ⟨gB, 0, none⟩) cB, tgd), (gB, ((C.set j ⟨(i : Int), 4, kept⟩).map bkCells).flatten, tgb)]) Try.func135 rfl rfl rfl (fun d v hv => (look_frOf _ 0 d v hv).2) hw ?_).mono fun e w' ⟨v, H', h1, ⟨h2, h3⟩, h4⟩ => ⟨v, _, h1, ⟨h2, rfl⟩, h4.sub h3⟩
  repeat' (first | ((with_reducible apply oq_id); first | (focus ((with_reducible apply oq_indexAddrN); exact rfl; exact rfl; exact rfl; exact rfl; omega)) | (apply oq_fn; exact rfl; first | exact trivial | (refine ⟨?_, ?_⟩ <;> omega) | (refine ⟨?_, ?_, ?_⟩ <;> omega) | omega | skip) | ((with_reducible apply oq_load); exact rfl; exact rfl)) | ((with_reducible apply tl_id); first | ((with_reducible apply tl_nil)) | ((with_reducible apply u_q); exact rfl; exact rfl; exact rfl; exact rfl) | ((with_reducible apply u_s0); exact rfl; exact rfl)) | ((with_reducible apply gx_id); first | ((with_reducible apply v_nil)) | ((with_reducible apply v_q); exact rfl; exact rfl; exact rfl)) | ((with_reducible apply os_id); first | ((with_reducible apply os_storeB (hC := hS1)); exact rfl; exact rfl; exact rfl; exact rfl; (repeat (first | exact P0 | apply P1)); exact room1) | ((with_reducible apply os_storeB (hC := hS2)); exact rfl; exact rfl; exact rfl; exact rfl; (repeat (first | exact P0 | apply P1)); exact room2) | ((with_reducible apply os_storeB (hC := hO)); exact rfl; exact rfl; exact rfl; exact rfl; (repeat (first | exact P0 | apply P1)); exact Nat.le_refl 7)) | ((with_reducible apply ai_id); first | ((with_reducible apply ai_s0); exact rfl; exact rfl; exact rfl; exact rfl)) | ((with_reducible apply rd_id); first | (apply Rd.own; (repeat (first | exact P0 | apply P1)); first | exact r0 | exact r1 | exact r2; done) | (apply Rd.own; (repeat (first | exact P0 | apply P1)); exact rfl; done) | (apply Rd.old; (first | (with_reducible assumption) | exact c0 | exact c1 | exact c2 | exact c3 | exact c4 | exact c5 | exact c6 | exact c7 | exact c8 | exact d0 | exact d1 | exact d2 | exact d3 | exact d4 | exact d5); first | exact List.not_mem_nil | exact m0 | exact m1 | exact m2 | exact m3 | exact m4 | exact m5 | exact m6 | exact m7 | exact m8 | exact m9)) | ((with_reducible apply t_id); first | (apply t_mix (id := 1) [0, 1, 2, 3, 4, 5, 6, 7, 8, 9, 10, 11, 12, 13, 14, 15, 16, 17, 18, 19, 20, 21, 22] 1 #[false, false, false, false, false, false, false, false, false, false, false, false, false, false, false, false, false, false, false, false, false, false, false, true]; kernel_rfl; kernel_rfl; exact rfl) | ((with_reducible apply t_seq)) | (apply t_region; kernel_rfl)) | with_reducible apply q_thenN | ((with_reducible apply end_normal)) | exact rvs_nil | ((with_reducible apply al_id); first | (apply al_done; decide +kernel) | (apply al_one 23; decide +kernel)))
  all_goals (refine ⟨rfl, ?_⟩)
  all_goals (repeat (first | exact HpSub.refl _ | (apply HpSub.consE; (repeat (first | exact P0 | apply P1)); exact rfl) | exact HpSub.nil))

end Go.Proofs.Ytmlmgipngbndgaa
/- Seats are given. -/
namespace Go.Proofs.Ytmlmgipngbndgaa
open Go.RowKit
attribute [local irreducible] OQ OS OX Rd T TL GX GL AL AI RV wpG SAny Calls
set_option maxRecDepth 100000
set_option maxHeartbeats 2000000
set_option linter.unusedVariables false
set_option linter.unusedSimpArgs false

theorem give_T (bd : Nat) (o : Off) (x y : Option (Nat × Nat)) (hxn : x = none → o.fl.length = 0) (hyn : y = none → o.bk.length = 0) (w : World) (hw : Has w ⟨(deskH bd o x y).map Prod.fst, []⟩ (deskH bd o x y) w) (hn2 : o.bk.length ≤ 1000) (i : Nat) (d : Dep) (hi : o.fl[i]? = some d) (hs : 0 ≤ d.seats ∧ d.seats ≤ 100000) :
    Calls Try.prog 134 #[.pointer (some ⟨bd, 0, none⟩), .int .i64 (i : Int)] w fun e w' => ∃ v H', e = .returned v ∧ (v = .tuple #[] ∧ H' = deskH bd (givenV o i) x y) ∧ Has w ⟨(deskH bd o x y).map Prod.fst, []⟩ H' w' := by
  have hil := (List.getElem?_eq_some_iff.1 hi).1
  rcases x with _ | ⟨gF, cF⟩
  · exact absurd (hxn rfl) (by omega)
  have hy0 : ∃ gB, 0 < o.bk.length → clA y = some ⟨gB, 0, none⟩ := by
    rcases y with _ | ⟨gB, cB⟩
    · exact ⟨0, fun h => absurd (hyn rfl) (by omega)⟩
    · exact ⟨gB, fun _ => rfl⟩
  obtain ⟨gB, hgB⟩ := hy0
  have hfree : freeV o i = d.seats - manyV o.bk i 1 := by unfold freeV; rw [hi]
  obtain ⟨fin, hfin⟩ : ∃ fin, giveL (i : Int) (freeV o i) o.bk = fin := ⟨_, rfl⟩
  have hfl : fin.length = o.bk.length := by rw [← hfin]; exact giveL_length _ _ _
  have hgo : deskH bd (givenV o i) (some (gF, cF)) y = (bd, offCells o (some ⟨gF, 0, none⟩) cF (clA y) (clC y), some (135, 7, 1)) :: (gF, (o.fl.map depCells).flatten, some (106, 4, cF)) :: clH 71 3 (fin.map bkCells).flatten y := by
    unfold deskH flH bkH givenV
    rw [clH_some, hfin]
    rw [offCells_len (o := o) (o' := { o with bk := fin }) rfl rfl rfl rfl rfl rfl hfl]
    rfl
  obtain ⟨r0, r1, r2, r3⟩ := dep_at hi
  obtain ⟨M, hM⟩ : ∃ M, (deskH bd o (some (gF, cF)) y).map Prod.fst = M := ⟨_, rfl⟩
  rw [hM] at hw ⊢
  refine (enter (c := cxM M w 32) (H := deskH bd o (some (gF, cF)) y) (F := frOf 0 _) (PV := fun v H => v = .tuple #[] ∧ HpSub H (deskH bd (givenV o i) (some (gF, cF)) y)) Try.func134 rfl rfl rfl (fun d v hv => (look_frOf _ 0 d v hv).2) hw ?_).mono fun e w' ⟨v, H', h1, ⟨h2, h3⟩, h4⟩ => ⟨v, _, h1, ⟨h2, rfl⟩, h4.sub h3⟩
  rw [hgo]
  unfold deskH flH bkH
  simp only [clH_some, clA_some, clC_some, List.cons_append, List.nil_append]
  refine t_cut (ι := Nat) (fun bn => [(0, .pointer (some ⟨bd, 0, none⟩)), (1, .int .i64 (i : Int)), (4, .pointer (some ⟨bn, 0, none⟩))]) (fun bn => (bn, [.int .i64 (freeV o i)], some (3, 1, 1)) :: (bd, offCells o (some ⟨gF, 0, none⟩) cF (clA y) (clC y), some (135, 7, 1)) :: (gF, (o.fl.map depCells).flatten, some (106, 4, cF)) :: clH 71 3 (o.bk.map bkCells).flatten y) (fun _ => True) ?_ ?_
  · have HM := fun g cp w1 hD1 hS => count_calls bd o (some ⟨gF, 0, none⟩) cF (clA y) (clC y) w1 hD1 (by omega) (i : Int) (some ⟨g, 0, none⟩) 1 cp [1] hS (by omega)
    rw [mt_many] at HM
    have hm1 := many_in o.bk (i : Int) 1 o.bk.length
    rw [many_all (Nat.le_refl _)] at hm1
    rw [hfree]
    obtain ⟨mv, hmv⟩ : ∃ mv, manyV o.bk (i : Int) 1 = mv := ⟨_, rfl⟩
    rw [hmv] at HM hm1 ⊢
    repeat' (first | ((with_reducible apply oq_id); first | (focus ((with_reducible apply oq_indexAddrN); exact rfl; exact rfl; exact rfl; exact rfl; omega)) | (apply oq_fn; exact rfl; first | exact trivial | (refine ⟨?_, ?_⟩ <;> omega) | (refine ⟨?_, ?_, ?_⟩ <;> omega) | omega | skip) | ((with_reducible apply oq_load); exact rfl; exact rfl) | ((with_reducible apply oq_call (k := 64) (hc := Try.call64)); exact rfl; exact rfl; exact fun D w1 hw1 => HM _ _ w1 (desk_of (x := some (gF, cF)) hw1 (by (repeat (first | exact HpSub.refl _ | (apply HpSub.consE; (repeat (first | exact P0 | apply P1 | apply PA)); exact rfl) | apply HpSub.skipX | apply HpSub.skipX | exact HpSub.nil))) (fun h => by cases h) hyn) (one8 hw1 (by (repeat (first | exact P0 | apply P1 | apply PA)))))) | ((with_reducible apply gx_id); first | ((with_reducible apply v_nil)) | ((with_reducible apply v_q); exact rfl; exact rfl; exact rfl)) | ((with_reducible apply os_id); first | ((with_reducible apply os_store); exact rfl; exact rfl; exact rfl; exact rfl)) | ((with_reducible apply ox_id); first | ((with_reducible apply ox_alloc); exact rfl; intro _) | ((with_reducible apply ox_buildSlice1); exact rfl; exact rfl; exact rfl; exact rfl; exact rfl; exact rfl; intro _)) | ((with_reducible apply ai_id); first | ((with_reducible apply ai_q); exact rfl; exact rfl; exact rfl; exact rfl; exact rfl) | ((with_reducible apply ai_x); exact rfl; exact rfl; exact rfl; exact rfl; exact rfl) | ((with_reducible apply ai_n0); exact rfl; exact rfl; exact rfl)) | ((with_reducible apply al_keep); focus (repeat (first | exact HpSub.refl _ | (apply HpSub.cons; (repeat (first | exact P0 | apply P1 | apply PA))) | apply HpSub.skipX | exact HpSub.nil))) | ((with_reducible apply rd_id); first | (apply Rd.own; (repeat (first | exact P0 | apply P1 | apply PA)); first | exact r0 | exact r1 | exact r2 | exact r3; done) | (apply Rd.own; (repeat (first | exact P0 | apply P1 | apply PA)); exact rfl; done)) | ((with_reducible apply t_id); first | (apply t_mix (id := 0) [0, 1, 2, 3, 4, 5, 6, 7, 8, 9, 10] 5 #[false, false, false, false, false, false, false, false, false, false, false, false, false, false, false, false]; kernel_rfl; kernel_rfl; exact rfl)) | exact P0 | (first | (with_reducible apply P1) | (with_reducible apply PA)) | ((with_reducible apply Norm.nil); exact rfl) | ((with_reducible apply Norm.cons); exact rfl) | ((with_reducible apply al_id); first | (apply al_done; decide +kernel) | (apply al_one 11; decide +kernel) | (apply al_one 12; decide +kernel) | (apply al_one 13; decide +kernel) | (apply al_one 14; decide +kernel) | (apply al_one 15; decide +kernel) | (apply al_two 11 14; decide +kernel) | (apply al_two 12 14; decide +kernel) | (apply al_two 13 14; decide +kernel)) | exact Nat.le_of_ble_eq_true rfl)
    all_goals (refine ⟨by trivial, _, trivial, by (repeat (first | exact FrSub.nil | (apply FrSub.cons; exact rfl))), ?_⟩)
    all_goals (repeat (first | exact HpSub.refl _ | (apply HpSub.consE; (repeat (first | exact P0 | apply P1 | apply PA)); exact rfl) | apply HpSub.skipX | exact HpSub.nil))
  rintro bn -
  repeat' (first | ((with_reducible apply oq_id); first | (apply oq_fn; exact rfl; first | exact trivial | (refine ⟨?_, ?_⟩ <;> omega) | (refine ⟨?_, ?_, ?_⟩ <;> omega) | omega | skip)) | ((with_reducible apply tl_id); first | ((with_reducible apply tl_nil)) | ((with_reducible apply u_s); exact rfl; exact rfl; exact rfl; (with_reducible apply os_callF (PV := OfV bd i (some ⟨_, 0, none⟩) 1 1) (k := 70) (hc := Try.call70)); exact rfl; exact rfl; exact fun D w1 hw1 => of_T _ _ _ _ _ w1; rintro v H' ⟨b0, b1, b2, rfl, rfl⟩; (try simp only [List.cons_append, List.nil_append])) | ((with_reducible apply u_q); exact rfl; exact rfl; exact rfl; exact rfl) | ((with_reducible apply u_s); exact rfl; exact rfl; exact rfl)) | ((with_reducible apply os_id); first | ((with_reducible apply os_x); exact rfl)) | ((with_reducible apply ox_id); first | ((with_reducible apply ox_buildSlice1); exact rfl; exact rfl; exact rfl; exact rfl; exact rfl; exact rfl; intro _)) | ((with_reducible apply t_id); first | ((with_reducible apply t_seq)) | (apply t_region; kernel_rfl) | ((with_reducible apply t_block))) | with_reducible apply q_thenN)
  rename_i bs
  refine t_rangeV (m := 1) (α := Ix o.bk.length) (β := Unit) (κ := Int) (ι := Int × List Bk) (encs := fun z => [.pointer (some ⟨gB, 0 + z.1 * 3, none⟩)]) (Rq := fun _ W => OfAt b0 b1 b2 bd (clA y) o.bk.length (clC y) i (some ⟨bs, 0, none⟩) 1 1 [2] W) (G := OfG (clA y) o.bk.length i [2]) (E := OfE (clA y) o.bk.length i [2])
    (hk := (b2, [.slice (some ⟨bs, 0, none⟩) 1 1], some (109, 1, 1)) :: (b1, [.int .i64 i], some (3, 1, 1)) :: (b0, [.pointer (some ⟨bd, 0, none⟩)], some (121, 1, 1)) :: (bs, [.int .u8 2], some (5, 1, 1)) :: (bd, offCells o (some ⟨gF, 0, none⟩) cF (clA y) (clC y), some (135, 7, 1)) :: (gF, (o.fl.map depCells).flatten, some (106, 4, cF)) :: [])
    (fun z => (bn, [.int .i64 z.1], some (3, 1, 1)) :: clH 71 3 (z.2.map bkCells).flatten y) (fun pre z => GivR o i (freeV o i) (bnd pre) z.1 z.2) (fun _ _ => []) (fun z _ => [(5, .pointer (some ⟨gB, 0 + z.1 * 3, none⟩)), (4, .pointer (some ⟨bn, 0, none⟩))]) (fun n => (bn, [.int .i64 n], some (3, 1, 1)) :: clH 71 3 (fin.map bkCells).flatten y)
    (fun k _ n => k = .ret) (freeV o i, o.bk) rfl Try.call100
    (of1_seqV 2 b0 b1 b2 bd gB 0 (clA y) o.bk.length (clC y) i (some ⟨bs, 0, none⟩) 1 1 [2] hgB (by omega) (by omega)) (fun n0 x => OfG.abide _ _ _ _ n0 x) (fun n0 => OfE.abide _ _ _ _ n0) ?rq ?h0 ?sub ?ok ?done ?stop
  case rq =>
    rintro pre ⟨n, C⟩ D W ⟨hlen, hR, hn1, hn2⟩ hw
    have hrd : RdS W 3 (clA y) o.bk.length (C.map bkCells) := clH_rows (hw.left.sub (HpSub.skipX (HpSub.refl _))) (fun _ => rfl) hlen hyn
    have hw' := hw.right
    exact ⟨hw'.cellAt (by (repeat (first | exact P0 | apply P1 | apply PA))) rfl, hw'.cellAt (by (repeat (first | exact P0 | apply P1 | apply PA))) rfl, hw'.cellAt (by (repeat (first | exact P0 | apply P1 | apply PA))) rfl, one8 hw' (by (repeat (first | exact P0 | apply P1 | apply PA))), hw'.cellAt (by (repeat (first | exact P0 | apply P1 | apply PA))) rfl, _, hrd⟩
  case h0 =>
    have hm1 := many_in o.bk (i : Int) 1 o.bk.length
    rw [many_all (Nat.le_refl _)] at hm1
    refine ⟨rfl, by simp [bnd_nil], ?_, ?_⟩ <;> rw [hfree] <;> omega
  case sub =>
    simp only [List.cons_append, List.nil_append]
    refine HpSub.cons (C := [.int .i64 (freeV o i)]) (by (repeat (first | exact P0 | apply P1 | apply PA))) ?_
    rcases y with _ | ⟨gB', cB'⟩ <;> simp only [clH, List.nil_append, List.cons_append]
    all_goals (repeat (first | exact HpSub.refl _ | (apply HpSub.consE; (repeat (first | exact P0 | apply P1 | apply PA)); exact rfl) | apply HpSub.skipX | exact HpSub.nil))
  case ok =>
    refine ⟨fun _ => rfl, rfl, fun x W => .inr ?_, fun x b i n W D hb hw _ y hy => (List.not_mem_nil hy).elim, fun l' pre z s b W D ⟨hlen, hR, hn1, hn3⟩ hw hG hl' => ?_⟩
    · refine sl0_region (by kernel_rfl) ?_
      repeat' (first | ((with_reducible apply oq_id); first | (apply oq_fn; exact rfl; first | exact trivial | (refine ⟨?_, ?_⟩ <;> omega) | (refine ⟨?_, ?_, ?_⟩ <;> omega) | omega | skip)) | ((with_reducible apply tl_id); first | ((with_reducible apply tl_nil)) | ((with_reducible apply u_q); exact rfl; exact rfl; exact rfl; exact rfl)))
      refine ⟨(), ?_, ?_⟩
      · (repeat (first | exact FrSub.nil | (apply FrSub.cons; exact rfl)))
      · (repeat (first | exact HpSub.refl _ | (apply HpSub.consE; (repeat (first | exact P0 | apply P1 | apply PA)); exact rfl) | apply HpSub.skipX | exact HpSub.nil))
    · obtain ⟨n, C⟩ := s
      simp only at hlen hR hn1 hn3
      obtain ⟨hbe, bk', hr', hm, hno⟩ := hG
      have hzl : z.1 < o.bk.length := z.2
      rcases y with _ | ⟨gB', cB⟩
      · exact absurd (hyn rfl) (by omega)
      obtain rfl : gB' = gB := by have := hgB (by omega); cases this; rfl
      simp only [List.cons_append, List.nil_append, clH_some, clA_some, clC_some] at hw hr' ⊢
      obtain rfl : bk' = C := bk_inj (hr'.inj (clH_rows (x := some (gB', cB)) (hw.sub (by refine HpSub.skipX ?_; simp only [clH_some]; (repeat (first | exact HpSub.refl _ | (apply HpSub.consE; (repeat (first | exact P0 | apply P1 | apply PA)); exact rfl) | apply HpSub.skipX | exact HpSub.nil)))) (fun _ => rfl) hlen (fun h => by cases h)))
      have hgz : bk'[z.1]? = some bk'[z.1] := List.getElem?_eq_getElem (by omega)
      obtain ⟨u, hu⟩ : ∃ u, bk'[z.1]? = some u := ⟨_, hgz⟩
      have hmu := hm u hu
      rw [mt_isB] at hmu
      rw [hfin] at hR
      have hR2 := giv_gap (behind_iff.1 hbe) (fun j y h1 h2 h3 => (by rw [← mt_isB]; exact hno j y (behind_iff.2 h1) h2 h3)) hR
      have hS1 := bk_set1 hu 1
      have room1 := Nat.le_of_succ_le (bk_room hu)
      by_cases hneg : n - 1 < 0
      · repeat' (first | ((with_reducible apply oq_id); first | ((with_reducible apply oq_lssT); exact rfl; exact rfl; omega) | (apply oq_fn; exact rfl; first | exact trivial | (refine ⟨?_, ?_⟩ <;> omega) | (refine ⟨?_, ?_, ?_⟩ <;> omega) | omega | skip) | ((with_reducible apply oq_load); exact rfl; exact rfl)) | ((with_reducible apply tl_id); first | ((with_reducible apply tl_nil)) | ((with_reducible apply u_q); exact rfl; exact rfl; exact rfl; exact rfl) | ((with_reducible apply u_s0); exact rfl; exact rfl)) | ((with_reducible apply os_id); first | ((with_reducible apply os_store); exact rfl; exact rfl; exact rfl; exact rfl)) | ((with_reducible apply rd_id); first | (apply Rd.own; (repeat (first | exact P0 | apply P1 | apply PA)); exact rfl; done)) | ((with_reducible apply t_id); first | ((with_reducible apply t_seq)) | (apply t_region; kernel_rfl) | ((with_reducible apply t_condT); exact rfl) | ((with_reducible apply t_ret)) | ((with_reducible apply t_block))) | with_reducible apply q_thenN | with_reducible apply q_thenR | with_reducible apply q_blockR | exact P0 | ((with_reducible apply Norm.nil); exact rfl) | ((with_reducible apply Norm.cons); exact rfl) | exact Nat.le_of_ble_eq_true rfl)
        refine ⟨n - 1, rfl, ?_⟩
        rw [giv_stop (by omega) hR2]
        (repeat (first | exact HpSub.refl _ | (apply HpSub.consE; (repeat (first | exact P0 | apply P1 | apply PA)); exact rfl) | apply HpSub.skipX | exact HpSub.nil))
      · have hR3 := giv_hit hu hmu (by omega) hR2
        repeat' (first | ((with_reducible apply oq_id); first | ((with_reducible apply oq_lssF); exact rfl; exact rfl; omega) | (apply oq_fn; exact rfl; first | exact trivial | (refine ⟨?_, ?_⟩ <;> omega) | (refine ⟨?_, ?_, ?_⟩ <;> omega) | omega | skip) | ((with_reducible apply oq_load); exact rfl; exact rfl)) | ((with_reducible apply tl_id); first | ((with_reducible apply tl_nil)) | ((with_reducible apply u_q); exact rfl; exact rfl; exact rfl; exact rfl) | ((with_reducible apply u_s0); exact rfl; exact rfl)) | ((with_reducible apply os_id); first | ((with_reducible apply os_storeB (hC := hS1)); exact rfl; exact rfl; exact rfl; exact rfl; (repeat (first | exact P0 | apply P1 | apply PA)); exact room1) | ((with_reducible apply os_store); exact rfl; exact rfl; exact rfl; exact rfl)) | ((with_reducible apply rd_id); first | (apply Rd.own; (repeat (first | exact P0 | apply P1 | apply PA)); exact rfl; done)) | ((with_reducible apply t_id); first | ((with_reducible apply t_seq)) | (apply t_region; kernel_rfl) | ((with_reducible apply t_condF); exact rfl) | ((with_reducible apply t_skip)) | ((with_reducible apply t_block))) | with_reducible apply q_thenN | with_reducible apply q_blockN | exact P0 | ((with_reducible apply Norm.nil); exact rfl) | ((with_reducible apply Norm.cons); exact rfl) | exact Nat.le_of_ble_eq_true rfl)
        refine ⟨(n - 1, bk'.set z.1 ⟨u.flight, 1, u.kept⟩), ⟨by simpa using hlen, by rw [bnd_snoc hbe, hfin]; exact hR3, by simp only; omega, by simp only; omega⟩, ?_⟩
        simp only [clH_some]
        (repeat (first | exact HpSub.refl _ | (apply HpSub.consE; (repeat (first | exact P0 | apply P1 | apply PA)); exact rfl) | apply HpSub.skipX | exact HpSub.nil))
  case done =>
    rintro D xs ⟨n, C⟩ W ⟨bk', hr', hno⟩ ⟨hlen, hR, hn1, hn3⟩ hw
    simp only at hlen hR hn1 hn3 hw ⊢
    have hrd : RdS W 3 (clA y) o.bk.length (C.map bkCells) := clH_rows (hw.left.sub (HpSub.skipX (HpSub.refl _))) (fun _ => rfl) hlen hyn
    obtain rfl : bk' = C := bk_inj (hr'.inj hrd)
    rw [hfin] at hR
    obtain rfl := giv_end (fun j y h1 h2 => (by rw [← mt_isB]; exact hno j y (behind_iff.2 h1) h2)) hR
    simp only [List.cons_append]
    repeat' (first | with_reducible apply q_blockN | ((with_reducible apply end_normal)) | exact rvs_nil)
    all_goals (refine ⟨rfl, ?_⟩)
    all_goals (rcases y with _ | ⟨gB', cB'⟩ <;> simp only [clH, List.nil_append, List.cons_append])
    all_goals (repeat (first | exact HpSub.refl _ | (apply HpSub.consE; (repeat (first | exact P0 | apply P1 | apply PA)); exact rfl) | apply HpSub.skipX | exact HpSub.nil))
  case stop =>
    rintro k pre n rfl
    simp only [List.cons_append]
    repeat' (first | ((with_reducible apply t_id); first | ((with_reducible apply t_ret))) | with_reducible apply q_blockR | ((with_reducible apply end_ret)) | exact rvs_nil)
    all_goals (refine ⟨rfl, ?_⟩)
    all_goals (rcases y with _ | ⟨gB', cB'⟩ <;> simp only [clH, List.nil_append, List.cons_append])
    all_goals (repeat (first | exact HpSub.refl _ | (apply HpSub.consE; (repeat (first | exact P0 | apply P1 | apply PA)); exact rfl) | apply HpSub.skipX | exact HpSub.nil))

end Go.Proofs.Ytmlmgipngbndgaa
