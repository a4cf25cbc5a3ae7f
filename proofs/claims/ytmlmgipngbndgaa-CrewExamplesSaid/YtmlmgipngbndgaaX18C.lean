/- A part of the proof: rules for walks, and contracts of functions (3). -/
import Derived.Test.YtmlmgipngbndgaaX18B
import Derived.LoopN
set_option linter.unusedVariables false
set_option linter.unusedSimpArgs false
set_option maxRecDepth 100000
set_option maxHeartbeats 2000000
namespace Go.Proofs.Ytmlmgipngbndgaa
open Go.RowKit
section
variable {P : Program} {ops : Array Oper} {n : Nat} {o : Oper} {a : Act} {w : World} {K : Act → World → Prop} {Q : Exit → Act → World → Prop} {I : World → Prop} {cov : Array Bool}
theorem wpInW_of_wp (h : o.wp P a w K QF) : o.wpIn Fence.wide n P a w K Q := by
 unfold Oper.wpIn
 refine ⟨fun _ _ => trivial, ?_⟩
 have hr : Fence.wide.round = none := rfl
 rw [hr, Oper.semAt_none]
 unfold Oper.wp at h
 generalize (execOp a.eval o).run P w = r at *
 cases r with
 | ok nx w' =>
  cases nx <;> simp only [Oper.upon] at h <;> simp only [Oper.uponIn]
  case value u => exact h
  case skip => exact h
  case defer d => exact h
  case enter f args =>
   refine ⟨fun h0 => by simp [Fence.wide] at h0, callsIn_wide.2 (Calls.mono h fun e w'' he => ?_)⟩
   cases e with
   | returned u => exact he
   | panicked c => exact he.elim
   | outgrown => obtain ⟨_, _, h⟩ := he; exact h.elim
  case row row args => exact ⟨fun h0 => by simp [Fence.wide] at h0, rowsIn_of h⟩
 | halt x w' => cases x <;> simp only [Oper.upon] at h <;> exact h.elim
theorem wpOpInW_of {i : Nat} (hh : wpOp P ops QF i K a w) : wpOpIn Fence.wide n P ops Q i K a w := by
 unfold wpOp at hh
 unfold wpOpIn
 split
 ·rename_i ho; simp only [ho] at hh; exact hh
 ·rename_i o ho
  simp only [ho] at hh
  split
  ·rename_i hw
   simp only [hw, if_true] at hh
   rcases hh with h | ⟨_, _, _, h⟩
   ·exact wpInW_of_wp h
   ·exact h.elim
  ·rename_i hw; simp only [hw] at hh; exact ⟨fun _ _ => trivial, hh⟩
/-- As SAnyI; what 'cov' marks is walked by hand. -/
def SInI (P : Program) (ops : Array Oper) (cov : Array Bool) (I : World → Prop) (m : Nat) (Q : Exit → Act → World → Prop) : Nat → Array Bool → Act → World → Prop
 | 0, listed, a, w => Region.ready .any ops listed = [] ∧ Q .normal a w
 | n + 1, listed, a, w => (Region.ready .any ops listed = [] → Q .normal a w) ∧
   ∀ i ∈ Region.ready .any ops listed, (cov.getD i false = true → wpOpIn Fence.wide m P ops Q i (wpAnyIn Fence.wide m P .any ops Q n (listed.setIfInBounds i true)) a w) ∧
    (cov.getD i false = false → wpOp P ops QF i (fun a' w' => (I w → I w') ∧ ∀ w'', Ext w' w'' → SInI P ops cov I m Q n (listed.setIfInBounds i true) a' w'') a w)
theorem wpAnyIn_of_SInI : ∀ (k : Nat) (listed : Array Bool) (a : Act) (w : World), SInI P ops cov I n Q k listed a w → wpAnyIn Fence.wide n P .any ops Q k listed a w
 | 0, _, _, _, h => h
 | k + 1, _, _, _, h => ⟨h.1, fun i hi => by
   cases hc : cov.getD i false with
   | true => exact (h.2 i hi).1 hc
   | false => exact wpOpIn_mono (fun _ w' h2 => wpAnyIn_of_SInI k _ _ w' (h2.2 w' (Ext.refl _))) (wpOpInW_of ((h.2 i hi).2 hc))⟩
theorem SInI_first (hU : Up I) {i : Nat} {oi : Oper} {v : Value} (hi : ops[i]? = some oi) (hsel : ∀ (j : Nat) (o : Oper) cs b, ops[j]? = some o → o.op ≠ .select cs b)
  (hcov : covFor ops cov i = true) :
  ∀ (k : Nat) (listed : Array Bool) (a : Act) (w0 : World), I w0 → Down ops listed →
   (∀ j oj, ops[j]? = some oj → j ≠ i → listed.getD j true = false → (∀ e ∈ oj.after, Region.binds .any e = true → e.on ≠ i) → oi.apart ops oj = true) →
   i ∈ Region.ready .any ops listed → YGI P ops I oi v a →
   (∀ w, Ext w0 w → SInI P ops cov I n Q k (listed.setIfInBounds i true) (a.put oi.dst v) w) → ∀ w, Ext w0 w → SInI P ops cov I n Q (k + 1) listed a w := by
 intro k
 have ci : ∀ {listed : Array Bool}, Down ops listed → i ∈ Region.ready .any ops listed → cov.getD i false = false := fun {listed} hd hr => by
  refine covFor_spec hcov hd hr ?_
  have h0 := (mem_ready.1 hr).1
  rcases Nat.lt_or_ge i listed.size with h' | h'
  ·simp [h'] at h0 ⊢; exact h0
  ·simp [Array.getElem?_eq_none h'] at h0
 induction k with
 | zero =>
  intro listed a w0 hW hd _ hr hy H w hw
  refine ⟨fun h => (by rw [h] at hr; cases hr), fun j hj => ?_⟩
  by_cases hji : j = i
  ·subst hji
   refine ⟨fun hc => (by rw [ci hd hr] at hc; cases hc), fun _ => hy.wpOp hi (hU _ _ hW hw) fun w' hw' => ⟨fun hI => hU _ _ hI hw', fun w'' hw'' => H _ ((hw.trans hw').trans hw'')⟩⟩
  ·have := ready_mono hj hji
   rw [(H w hw).1] at this
   cases this
 | succ k ih =>
  intro listed a w0 hW hd hfree hr hy H w hw
  refine ⟨fun h => (by rw [h] at hr; cases hr), fun j hj => ?_⟩
  by_cases hji : j = i
  ·subst hji
   refine ⟨fun hc => (by rw [ci hd hr] at hc; cases hc), fun _ => hy.wpOp hi (hU _ _ hW hw) fun w' hw' => ⟨fun hI => hU _ _ hI hw', fun w'' hw'' => H _ ((hw.trans hw').trans hw'')⟩⟩
  ·obtain ⟨hjun, oj, hoj, hall⟩ := mem_ready.1 hj
   have hiun : listed.getD i false = false := by
    have h0 := (mem_ready.1 hr).1
    rcases Nat.lt_or_ge i listed.size with h' | h'
    ·simp [h'] at h0 ⊢; exact h0
    ·simp [Array.getElem?_eq_none h'] at h0
   have hnot : ∀ e ∈ oj.after, Region.binds .any e = true → e.on ≠ i := fun e he hb heq => by
    have h1 := hall e he hb
    rw [heq, hiun] at h1
    cases h1
   have hc := covFor_spec hcov hd hj hiun
   have h1 := ((H w hw).2 j (ready_mono hj hji)).2 hc
   have hap := hfree j oj hoj hji hjun hnot
   obtain ⟨_, _, h3⟩ := Oper.apart_spec hap
   have h2 := wpOp_put2 (S := YGI P ops I oi v) hoj hap (fun cs b => hsel j oj cs b hoj)
    (fun a u hS => hS.of_same (execOp_put oi (fun cs b => hsel i oi cs b hi) a oj.dst u h3) (wanted_put oi a oj.dst u h3)) (fun a d hS => hS.of_same rfl rfl) hy h1
   have hfree' : ∀ k ok, ops[k]? = some ok → k ≠ i → (listed.setIfInBounds j true).getD k true = false →
     (∀ e ∈ ok.after, Region.binds .any e = true → e.on ≠ i) → oi.apart ops ok = true := fun k ok hk hki hun hno => by
    refine hfree k ok hk hki ?_ hno
    by_cases hjk : j = k
    ·subst hjk; exact hjun
    ·rw [getD_set_ne true hjk] at hun; exact hun
   refine ⟨fun hc' => (by rw [hc] at hc'; cases hc'), fun _ => wpOp_mono (fun a' w' h3 => ?_) h2⟩
   obtain ⟨hS, hcv, hrest⟩ := h3
   have hww := hcv (hU _ _ hW hw)
   refine ⟨fun _ => hww, fun w'' hw'' => ih (listed.setIfInBounds j true) a' w' hww (hd.set hj) hfree' (ready_mono hr (Ne.symm hji)) hS ?_ w'' hw''⟩
   intro w2 hw2
   rw [Array.setIfInBounds_comm _ _ hji]
   exact hrest w2 hw2
theorem SInI_lex (hU : Up I) (hs : Region.noSelect ops = true) (k : Nat) : ∀ (l : List Nat) (listed : Array Bool) (a : Act), lexOk ops cov l listed = true → Down ops listed →
  wpGI P ops I (fun a' => ∀ w, I w → SInI P ops cov I n Q k (listedBy l listed) a' w) l a → ∀ w, I w → SInI P ops cov I n Q (k + l.length) listed a w
 | [], _, _, _, _, h => h
 | i :: l, listed, a, hB, hd, h => by
  intro w hw0
  simp only [lexOk, Bool.and_eq_true] at hB
  obtain ⟨⟨⟨hr, hf⟩, hc⟩, hB'⟩ := hB
  have hr' : i ∈ Region.ready .any ops listed := by simpa using hr
  unfold wpGI at h
  cases ho : ops[i]? with
  | none => simp only [ho] at h
  | some o =>
   simp only [ho] at h
   by_cases hw : Region.wanted o (yielded ops a.tmps) = true
   ·simp only [hw, if_true] at h
    obtain ⟨v, hv, hK⟩ := h
    exact SInI_first hU ho (Region.noSelect_spec hs) hc (k + l.length) listed a w hw0 hd (Region.free_spec ho hf) hr' (.inl ⟨hw, hv⟩) (fun w' hw' => SInI_lex hU hs k l _ _ hB' (hd.set hr') hK w' (hU _ _ hw0 hw')) w (Ext.refl _)
   ·simp only [hw] at h
    exact SInI_first hU ho (Region.noSelect_spec hs) hc (k + l.length) listed a w hw0 hd (Region.free_spec ho hf) hr' (.inr ⟨by simpa using hw, rfl⟩) (fun w' hw' => SInI_lex hU hs k l _ _ hB' (hd.set hr') h w' (hU _ _ hw0 hw')) w (Ext.refl _)
theorem wpInW_mixed {id : Nat} (hU : Up I) (hI : I w) (l : List Nat) (k : Nat) (hm : P.follows .mixedOrders = true)
  (hB : (Region.noSelect ops && (k + l.length == ops.size) && lexOk ops cov l (Array.replicate ops.size false)) = true)
  (h : wpGI P ops I (fun a' => ∀ w', I w' → SInI P ops cov I n Q k (listedBy l (Array.replicate ops.size false)) a' w') l a) : (Code.region id ops true).wpIn Fence.wide n P Q a w := by
 simp only [Bool.and_eq_true, beq_iff_eq] at hB
 obtain ⟨⟨hs, hn⟩, hl⟩ := hB
 refine wpIn_region_any hm (wpAnyIn_of_SInI (I := I) (cov := cov) _ _ _ _ ?_)
 rw [← hn]
 have := SInI_lex (P := P) (Q := Q) (n := n) hU hs k l (Array.replicate ops.size false) a hl (Down.none _) h w.drew (hU _ _ hI (Ext.refl w).drew)
 simpa [hn] using this
/-- One operation is left that may come next. -/
theorem SInI_one {k i : Nat} {listed : Array Bool} (hr : Region.ready .any ops listed = [i]) (hc : cov.getD i false = true)
  (h : wpOpIn Fence.wide n P ops Q i (wpAnyIn Fence.wide n P .any ops Q k (listed.setIfInBounds i true)) a w) : SInI P ops cov I n Q (k + 1) listed a w :=
 ⟨fun h0 => (by rw [hr] at h0; cases h0), fun j hj => by
  rw [hr] at hj
  obtain rfl : j = i := by simpa using hj
  exact ⟨fun _ => h, fun hc' => (by rw [hc] at hc'; cases hc')⟩⟩
theorem wpAnyIn_one {k i : Nat} {listed : Array Bool} (hr : Region.ready .any ops listed = [i]) (h : wpOpIn Fence.wide n P ops Q i (wpAnyIn Fence.wide n P .any ops Q k (listed.setIfInBounds i true)) a w) : wpAnyIn Fence.wide n P .any ops Q (k + 1) listed a w :=
 ⟨fun h0 => (by rw [hr] at h0; cases h0), fun j hj => by
  rw [hr] at hj
  obtain rfl : j = i := by simpa using hj
  exact h⟩
theorem wpOpIn_on {i : Nat} (ho : ops[i]? = some o) (hw : Region.wanted o (yielded ops a.tmps) = true) (h : o.wpIn Fence.wide n P a w K Q) : wpOpIn Fence.wide n P ops Q i K a w := by
 unfold wpOpIn; simp only [ho, hw, if_true]; exact h
theorem wpOpIn_off {i : Nat} (ho : ops[i]? = some o) (hw : Region.wanted o (yielded ops a.tmps) = false) (h : K (a.put o.dst undef) w) : wpOpIn Fence.wide n P ops Q i K a w := by
 unfold wpOpIn; simp only [ho, hw]; exact ⟨fun _ _ => trivial, h⟩
/-- A call of yield. -/
theorem wpIn_yield {l : Nat} {args : Array Value} {R : Ending → World → Prop} (hrun : (execOp a.eval o).run P w = (Instr.yield l args).run P w) (h : YieldAt Fence.wide (n - 1) P l args w R)
  (hK : ∀ e w', R e w' → ∃ v, e = .returned v ∧ K (a.put o.dst v) w') : o.wpIn Fence.wide n P a w K Q := by
 obtain ⟨fn, tmps, assign, body, hy, hR⟩ := h
 unfold Oper.wpIn
 refine ⟨fun _ _ => trivial, ?_⟩
 have hr : Fence.wide.round = none := rfl
 rw [hr, Oper.semAt_none, hrun, hy, Oper.uponIn_round]
 refine ⟨fun h0 => by simp [Fence.wide] at h0, RoundIn.mono hR fun e w' he => ?_⟩
 obtain ⟨v, rfl, h2⟩ := hK e w' he
 exact h2
theorem chain_of_wpGI {R : Act → Prop} (hU : Up I) : ∀ (l : List Nat) (a : Act) (w : World), I w → wpGI P ops I R l a → chain P ops (fun a' w' => R a' ∧ I w') l a w
 | [], a, w, hI, h => ⟨h, hI⟩
 | i :: l, a, w, hI, h => by
  unfold wpGI at h
  unfold chain
  cases ho : ops[i]? with
  | none => simp only [ho] at h
  | some o =>
   simp only [ho] at h ⊢
   by_cases hw : Region.wanted o (yielded ops a.tmps) = true
   ·simp only [hw, if_true] at h ⊢
    obtain ⟨v, hv, hK⟩ := h
    refine givesUpon_wp (hv w hI) fun u w' ⟨hu, hx⟩ => ?_
    subst hu
    exact chain_of_wpGI hU l _ w' (hU _ _ hI hx) hK
   ·simp only [hw] at h ⊢
    exact chain_of_wpGI hU l _ w hI h
end
section
variable {c : Cx} {Q : Exit → Act → World → Prop} {F : Fr} {H : Hp} {D : List Nat} {a : Act} {w : World} {n : Nat}
/-- Quiet operations in the text's order. -/
theorem g_region {id : Nat} {l : List Oper} {R : Fr → Prop} (ha : Frm D c.N F a) (hw : Has c.w0 ⟨c.M, D⟩ H w) (h : GX c ⟨l⟩ l R F H) (k : ∀ F' a' w', R F' → Frm D c.N F' a' → Has c.w0 ⟨c.M, D⟩ H w' → Q .normal a' w') :
  (Code.region id ⟨l⟩ false).wpIn Fence.wide n c.P Q a w := by
 refine wpIn_wide.2 (wp_region (wpOps_of_chain (R := fun a' w' => (∃ F', R F' ∧ Frm D c.N F' a') ∧ Has c.w0 ⟨c.M, D⟩ H w') (fun a' w' h => ?_) _ _ _ (chain_of_wpGI (Has.up (M := ⟨c.M, D⟩)) _ _ _ hw ?_)))
 ·obtain ⟨⟨F', h1, h2⟩, h3⟩ := h
  exact k F' a' w' h1 h2 h3
 ·have := h _ (range_map l) D a ha
  rwa [← List.range_eq_range'] at this
/-- Quiet operations of a region that draws its order; what is left is walked by hand. -/
theorem g_mixIn {id : Nat} {l ql : List Oper} {R : Fr → Prop} (q : List Nat) (k : Nat) (cov : Array Bool) (hm : c.P.follows .mixedOrders = true) (hB : (Region.noSelect ⟨l⟩ && (k + q.length == (Array.mk l).size) && lexOk ⟨l⟩ cov q (Array.replicate (Array.mk l).size false)) = true) (hq : pickOps l q = some ql)
  (ha : Frm D c.N F a) (hw : Has c.w0 ⟨c.M, D⟩ H w) (h : GX c ⟨l⟩ ql R F H)
  (kk : ∀ F' a' w', R F' → Frm D c.N F' a' → Has c.w0 ⟨c.M, D⟩ H w' → SInI c.P ⟨l⟩ cov (Has c.w0 ⟨c.M, D⟩ H) n Q k (listedBy q (Array.replicate (Array.mk l).size false)) a' w') :
  (Code.region id ⟨l⟩ true).wpIn Fence.wide n c.P Q a w := by
 refine wpInW_mixed (Has.up (M := ⟨c.M, D⟩)) hw q k hm hB (wpGI_mono (fun a' ⟨F', h1, h2⟩ w' hw' => ?_) q a (h q (pickOps_spec hq) D a ha))
 exact kk F' a' w' h1 h2 hw'
/-- A quiet operation, by hand. -/
theorem wpIn_oq {o : Oper} {d : Nat} {v : Value} {K : Act → World → Prop} (ha : Frm D c.N F a) (hw : Has c.w0 ⟨c.M, D⟩ H w) (hd : o.dst = some d) (hN : Nat.blt d c.N = true) (h : OQ c o F H v)
  (k : ∀ a' w', Frm D c.N ((d, v) :: F) a' → Has c.w0 ⟨c.M, D⟩ H w' → K a' w') : o.wpIn Fence.wide n c.P a w K Q :=
 wpInW_of_wp (givesUpon_wp (h D a w ha hw) fun u w' ⟨hu, hx⟩ => by
  subst hu
  rw [hd]
  exact k _ _ (ha.put hN _) (hw.grow hx))
end
end Go.Proofs.Ytmlmgipngbndgaa
namespace Go.Proofs.Ytmlmgipngbndgaa
open Go.RowKit
attribute [local irreducible] OQ OS OX Rd T TL GX GL AL AI RV wpG SAny Calls
theorem cell_putX {w : World} {p : Addr} {u : Value} {l : Nat} {o o' : Obj} (h : w.cell? p = some u) (ho : w.heap[l]? = some o) (hc : o.isCells = false) : (w.putObj l o').cell? p = some u := by
 by_cases e : p.block = l
 ·subst e
  exfalso
  unfold World.cell? at h
  rw [ho] at h
  cases o <;> simp_all [Obj.isCells]
 ·unfold World.cell? at h ⊢
  rw [World.putObj_heap_other e]
  exact h
theorem RdS.putX {w : World} {k : Nat} {A : Option Addr} {n : Nat} {xs : List (List Value)} {l : Nat} {o o' : Obj} (h : RdS w k A n xs) (ho : w.heap[l]? = some o) (hc : o.isCells = false) : RdS (w.putObj l o') k A n xs :=
 ⟨h.len, fun hn => by
  obtain ⟨b, o, rfl, hb, hx⟩ := h.at_ hn
  exact ⟨b, o, rfl, by simpa using hb, fun i x hi => ⟨(hx i x hi).1, fun j u hu => cell_putX ((hx i x hi).2 j u hu) ho hc⟩⟩⟩
/-- Two readings of a slice agree. -/
theorem RdS.inj {w : World} {k : Nat} {A : Option Addr} {n : Nat} {xs ys : List (List Value)} (h : RdS w k A n xs) (h' : RdS w k A n ys) : xs = ys := by
 have l1 := h.len
 have l2 := h'.len
 refine List.ext_getElem (by omega) fun i hi hi' => ?_
 obtain ⟨b, o, hA, _, hx⟩ := h.at_ (by omega)
 obtain ⟨b', o', hA', _, hx'⟩ := h'.at_ (by omega)
 rw [hA] at hA'
 obtain ⟨rfl, rfl⟩ : b = b' ∧ o = o' := by simpa using hA'
 have a1 := hx i _ (List.getElem?_eq_getElem hi)
 have a2 := hx' i _ (List.getElem?_eq_getElem hi')
 refine List.ext_getElem (by omega) fun j hj hj' => ?_
 have e1 := a1.2 j _ (List.getElem?_eq_getElem hj)
 have e2 := a2.2 j _ (List.getElem?_eq_getElem hj')
 rw [e1] at e2
 exact Option.some.inj e2
theorem bk_inj {l l' : List Bk} (h : l.map bkCells = l'.map bkCells) : l = l' := by
 have hl : l.length = l'.length := by simpa using congrArg List.length h
 refine List.ext_getElem hl fun i hi hi' => ?_
 have := congrArg (fun m : List (List Value) => m[i]?) h
 simp [hi, hi', bkCells] at this
 obtain ⟨h1, h2, h3⟩ := this
 cases hx : l[i]; cases hy : l'[i]
 simp_all
/-- Is a booking of a departure, and in one of some states? -/
def mtB (f : Int) (sts : List Int) (x : Bk) : Bool := decide (x.flight = f) && sts.any fun s => decide (x.state = s)
/-- What the iterator reads. -/
structure OfAt (b0 b1 b2 bd : Nat) (B : Option Addr) (nb cb : Nat) (f : Int) (S : Option Addr) (ns cs : Nat) (sts : List Int) (W : World) : Prop where
 x0 : W.cell? ⟨b0, 0, none⟩ = some (.pointer (some ⟨bd, 0, none⟩))
 x1 : W.cell? ⟨b1, 0, none⟩ = some (.int .i64 f)
 x2 : W.cell? ⟨b2, 0, none⟩ = some (.slice S ns cs)
 st : RdS W 1 S ns (sts.map u8Cells)
 bks : W.cell? ⟨bd, 4, none⟩ = some (.slice B nb cb)
 bk : ∃ bk : List Bk, RdS W 3 B nb (bk.map bkCells)
/-- A place in a list of n. -/
def Ix (n : Nat) : Type := { i : Nat // i < n }
def behind {n : Nat} (pre : List (Ix n)) (j : Nat) : Prop := ∀ p ∈ pre, p.1 < j
/-- What it tells at a yield. -/
def OfG (B : Option Addr) (nb : Nat) (f : Int) (sts : List Int) (pre : List (Ix nb)) (x : Ix nb) (W : World) : Prop :=
 behind pre x.1 ∧ ∃ bk : List Bk, RdS W 3 B nb (bk.map bkCells) ∧ (∀ y, bk[x.1]? = some y → mtB f sts y = true) ∧ ∀ j y, behind pre j → j < x.1 → bk[j]? = some y → mtB f sts y = false
/-- What it tells at its end. -/
def OfE (B : Option Addr) (nb : Nat) (f : Int) (sts : List Int) (xs : List (Ix nb)) (W : World) : Prop :=
 ∃ bk : List Bk, RdS W 3 B nb (bk.map bkCells) ∧ ∀ j y, behind xs j → bk[j]? = some y → mtB f sts y = false
theorem OfG.abide (B : Option Addr) (nb : Nat) (f : Int) (sts : List Int) (n0 : Nat) (x : Ix nb) : Abide n0 (fun pre W => OfG B nb f sts pre x W) :=
 ⟨fun pre A C ⟨h1, bk, h2, h3⟩ e => ⟨h1, bk, h2.ext e, h3⟩, fun pre A l o o' ⟨h1, bk, h2, h3⟩ _ ho hc => ⟨h1, bk, h2.putX ho hc, h3⟩⟩
theorem OfE.abide (B : Option Addr) (nb : Nat) (f : Int) (sts : List Int) (n0 : Nat) : Abide n0 (OfE B nb f sts) :=
 ⟨fun pre A C ⟨bk, h2, h3⟩ e => ⟨bk, h2.ext e, h3⟩, fun pre A l o o' ⟨bk, h2, h3⟩ _ ho hc => ⟨bk, h2.putX ho hc, h3⟩⟩
/-- Nothing is left out in front of k. -/
def OfN (B : Option Addr) (nb : Nat) (f : Int) (sts : List Int) (pre : List (Ix nb)) (k : Nat) (W : World) : Prop :=
 ∃ bk : List Bk, RdS W 3 B nb (bk.map bkCells) ∧ ∀ j y, behind pre j → j < k → bk[j]? = some y → mtB f sts y = false
theorem then_exit {K : Act → World → Prop} {Q : Exit → Act → World → Prop} {id : Nat} {a : Act} {w : World} (h : Q (.exit id) a w) : Exit.then K Q (.exit id) a w := h
theorem then_ret {K : Act → World → Prop} {Q : Exit → Act → World → Prop} {a : Act} {w : World} (h : Q .ret a w) : Exit.then K Q .ret a w := h
theorem inBlock_exit {Q : Exit → Act → World → Prop} {id : Nat} {a : Act} {w : World} (h : Q .normal a w) : Exit.inBlock id Q (.exit id) a w := by simpa [Exit.inBlock] using h
theorem inBlock_ret {Q : Exit → Act → World → Prop} {id : Nat} {a : Act} {w : World} (h : Q .ret a w) : Exit.inBlock id Q .ret a w := h
def slot13 (a : Act) : Nat := match a.tmps[13]? with | some (Value.int _ z) => z.toNat | _ => 0
set_option maxRecDepth 100000 in
theorem of1_seqV (n : Nat) (b0 b1 b2 bd gB oB : Nat) (B : Option Addr) (nb cb : Nat) (f : Int) (S : Option Addr) (ns cs : Nat) (sts : List Int) (hB : 0 < nb → B = some ⟨gB, oB, none⟩) (hnb : nb ≤ 1000000) (hns : ns ≤ 1000000) :
  SeqV n Try.prog 100 #[.pointer (some ⟨b0, 0, none⟩), .pointer (some ⟨b1, 0, none⟩), .pointer (some ⟨b2, 0, none⟩)] (fun x : Ix nb => #[.pointer (some ⟨gB, oB + x.1 * 3, none⟩)])
   (fun _ W => OfAt b0 b1 b2 bd B nb cb f S ns cs sts W) (OfG B nb f sts) (OfE B nb f sts) := by
 intro l J Jx W hJe hXe hJR hY h0
 have HY := Lib.hid hY
 clear hY
 refine callsIn_of_wp Try.func100 rfl trivial ?_ rfl
 have hf0 : Frm [] 44 (frOf 0 [.func (.yield l) #[] #[], .pointer (some ⟨b0, 0, none⟩), .pointer (some ⟨b1, 0, none⟩), .pointer (some ⟨b2, 0, none⟩)]) { tmps := #[.func (.yield l) #[] #[]] ++ #[.pointer (some ⟨b0, 0, none⟩), .pointer (some ⟨b1, 0, none⟩), .pointer (some ⟨b2, 0, none⟩)] ++ Array.replicate (44 - 4) undef, defers := [] } :=
  ⟨by simp, rfl, fun d v hv => by
   have := (look_frOf _ 0 d v hv).2
   have hlt := (List.getElem?_eq_some_iff.1 this).1
   rw [Array.getElem?_append_left (by simpa using hlt)]
   simpa using this⟩
 refine (?_ : ∀ a : Act, Frm [] 44 (frOf 0 [.func (.yield l) #[] #[], .pointer (some ⟨b0, 0, none⟩), .pointer (some ⟨b1, 0, none⟩), .pointer (some ⟨b2, 0, none⟩)]) a → Code.wpIn Fence.wide n Try.prog _ _ a W) _ hf0
 clear hf0
 intro a hf0
 obtain ⟨c0, c1, c2, hst, c3, bk0, hbk0⟩ := hJR _ _ h0
 refine wpIn_seq ?_
 refine g_region (c := cx W 44) (R := fun F' => FrSub F' [(0, .func (.yield l) #[] #[]), (1, .pointer (some ⟨b0, 0, none⟩)), (2, .pointer (some ⟨b1, 0, none⟩)), (3, .pointer (some ⟨b2, 0, none⟩)), (12, .int .i64 (nb : Int)), (13, .int .i64 (0 : Int))]) hf0 (Has.start W) ?_ ?_
 ·all_goals (try with_reducible apply gx_id)
  repeat' (first | (apply oq_fn; exact rfl; try first | exact trivial | (and_intros <;> omega)) | ((with_reducible apply oq_load); exact rfl; exact rfl) | (with_reducible apply v_nil) | ((with_reducible apply v_q); (iterate 3 exact rfl)) | (apply Rd.old; (first | (with_reducible assumption) | exact c0 | exact c1 | exact c2 | exact c3 | exact c4 | exact c5 | exact c6 | exact c7 | exact c8 | exact d0 | exact d1 | exact d2 | exact d3 | exact d4 | exact d5); first | exact List.not_mem_nil | exact m0 | exact m1 | exact m2 | exact m3 | exact m4 | exact m5 | exact m6 | exact m7 | exact m8 | exact m9))
  all_goals (repeat (first | exact FrSub.nil | (apply FrSub.cons; exact rfl)))
 intro F1 a1 w1 hF1 hf1 hw1
 show Code.wpIn _ _ _ _ _ _ _
 refine wpIn_block ?_
 refine wpIn_loop (fun a w => ∃ k pre, k ≤ nb ∧ Frm [] 44 [(0, .func (.yield l) #[] #[]), (1, .pointer (some ⟨b0, 0, none⟩)), (2, .pointer (some ⟨b1, 0, none⟩)), (3, .pointer (some ⟨b2, 0, none⟩)), (12, .int .i64 (nb : Int)), (13, .int .i64 (k : Int))] a ∧ J pre w ∧ behind pre k ∧ OfN B nb f sts pre k w) (fun a _ => nb - slot13 a) ?_ ?_
 ·exact ⟨0, [], Nat.zero_le _, hf1.sub hF1, hJe _ _ _ h0 hw1.ext.ext, fun p hp => (List.not_mem_nil hp).elim, bk0, hbk0.ext hw1.ext.ext, fun j y _ hj => absurd hj (Nat.not_lt_zero _)⟩
 clear hf0 c0 c1 c2 c3 hst hbk0 hF1 hf1 hw1
 rintro a2 w2 ⟨k, pre, hk, hf2, hJ2, hb2, hn2⟩
 have hs2 : slot13 a2 = k := by
  have := hf2.at_ 13 (.int .i64 (k : Int)) rfl
  unfold slot13
  rw [this]
  simp
 refine wpIn_seq ?_
 refine g_region (c := cx w2 44) (R := fun F' => FrSub F' [(0, .func (.yield l) #[] #[]), (1, .pointer (some ⟨b0, 0, none⟩)), (2, .pointer (some ⟨b1, 0, none⟩)), (3, .pointer (some ⟨b2, 0, none⟩)), (12, .int .i64 (nb : Int)), (13, .int .i64 (k : Int)), (14, .bool (decide ((k : Int) < (nb : Int))))]) hf2 (Has.start w2) ?_ ?_
 ·all_goals (try with_reducible apply gx_id)
  repeat' (first | (apply oq_fn; exact rfl; try first | exact trivial | (and_intros <;> omega)) | (with_reducible apply v_nil) | ((with_reducible apply v_q); (iterate 3 exact rfl)))
  all_goals (repeat (first | exact FrSub.nil | (apply FrSub.cons; exact rfl)))
 intro F3 a3 w3 hF3 hf3 hw3
 show Code.wpIn _ _ _ _ _ _ _
 have hf3' := hf3.sub hF3
 clear hf3 hF3
 have e3 := hw3.ext.ext
 have hJ3 := hJe _ _ _ hJ2 e3
 obtain ⟨bk, hbk2, hno⟩ := hn2
 have hbk := hbk2.ext e3
 clear hw3 e3 hJ2 hf2 hbk2
 refine wpIn_seq ?_
 by_cases hlt : k < nb
 ·refine wpIn_cond_true (by have := hf3'.at_ 14 _ rfl; simpa [Act.eval, Array.getD_eq_getD_getElem?, this] using hlt) ?_
  refine wpIn_skip ?_
  show Code.wpIn _ _ _ _ _ _ _
  refine wpIn_seq ?_
  refine wpIn_block ?_
  obtain ⟨c0, c1, c2, hst, c3, _⟩ := hJR _ _ hJ3
  obtain ⟨gB', oB', x, hBe, hgB, hx, c4, c5, c6⟩ := bk_read hbk hlt
  obtain ⟨rfl, rfl⟩ : gB' = gB ∧ oB' = oB := by rw [hB (by omega)] at hBe; simpa [eq_comm] using hBe
  subst hBe
  refine wpIn_seq ?_
  refine g_region (c := cx w3 44) (R := fun F' => FrSub F' [(0, .func (.yield l) #[] #[]), (1, .pointer (some ⟨b0, 0, none⟩)), (2, .pointer (some ⟨b1, 0, none⟩)), (3, .pointer (some ⟨b2, 0, none⟩)), (12, .int .i64 (nb : Int)), (13, .int .i64 (k : Int)), (5, .int .i64 (k : Int))]) hf3' (Has.start w3) ?_ ?_
  ·all_goals (try with_reducible apply gx_id)
   repeat' (first | (apply oq_fn; exact rfl; try first | exact trivial | (and_intros <;> omega)) | (with_reducible apply v_nil) | ((with_reducible apply v_q); (iterate 3 exact rfl)))
   all_goals (repeat (first | exact FrSub.nil | (apply FrSub.cons; exact rfl)))
  intro F4 a4 w4 hF4 hf4 hw4
  show Code.wpIn _ _ _ _ _ _ _
  refine wpIn_seq ?_
  refine g_region (c := cx w3 44) (R := fun F' => FrSub F' [(0, .func (.yield l) #[] #[]), (1, .pointer (some ⟨b0, 0, none⟩)), (2, .pointer (some ⟨b1, 0, none⟩)), (3, .pointer (some ⟨b2, 0, none⟩)), (12, .int .i64 (nb : Int)), (13, .int .i64 (k : Int)), (6, .pointer (some ⟨gB', oB' + k * 3, none⟩))]) (hf4.sub hF4) hw4 ?_ ?_
  ·clear c4 c5 c6
   all_goals (try with_reducible apply gx_id)
   repeat' (first | (focus ((with_reducible apply oq_indexAddrN); (iterate 4 exact rfl); omega)) | (apply oq_fn; exact rfl; try first | exact trivial | (and_intros <;> omega)) | ((with_reducible apply oq_load); exact rfl; exact rfl) | (with_reducible apply v_nil) | ((with_reducible apply v_q); (iterate 3 exact rfl)) | (apply Rd.old; (first | (with_reducible assumption) | exact c0 | exact c1 | exact c2 | exact c3 | exact c4 | exact c5 | exact c6 | exact c7 | exact c8 | exact d0 | exact d1 | exact d2 | exact d3 | exact d4 | exact d5); first | exact List.not_mem_nil | exact m0 | exact m1 | exact m2 | exact m3 | exact m4 | exact m5 | exact m6 | exact m7 | exact m8 | exact m9))
   all_goals (repeat (first | exact FrSub.nil | (apply FrSub.cons; exact rfl)))
  clear hF4 hf4 hw4
  intro F5 a5 w5 hF5 hf5 hw5
  show Code.wpIn _ _ _ _ _ _ _
  have hf5' := hf5.sub hF5
  clear hf5 hF5
  have hbkx := hbk
  refine wpIn_seq ?_
  -- the end of a round
  have fin : ∀ (Z : Exit → Act → World → Prop) (F7 : Fr) (a7 : Act) (w7 : World) (pre' : List (Ix nb)), FrSub F7 [(0, .func (.yield l) #[] #[]), (1, .pointer (some ⟨b0, 0, none⟩)), (2, .pointer (some ⟨b1, 0, none⟩)), (3, .pointer (some ⟨b2, 0, none⟩)), (12, .int .i64 (nb : Int)), (13, .int .i64 (k : Int))] → Frm [] 44 F7 a7 → J pre' w7 → behind pre' (k + 1) → OfN (some ⟨gB', oB', none⟩) nb f sts pre' (k + 1) w7 →
    (∀ a8 w8, ((∃ k pre, k ≤ nb ∧ Frm [] 44 [(0, .func (.yield l) #[] #[]), (1, .pointer (some ⟨b0, 0, none⟩)), (2, .pointer (some ⟨b1, 0, none⟩)), (3, .pointer (some ⟨b2, 0, none⟩)), (12, .int .i64 (nb : Int)), (13, .int .i64 (k : Int))] a8 ∧ J pre w8 ∧ behind pre k ∧ OfN (some ⟨gB', oB', none⟩) nb f sts pre k w8) ∧ nb - slot13 a8 < nb - slot13 a2) → Z .normal a8 w8) →
    Code.wpIn Fence.wide n Try.prog (Code.region 5 #[⟨some 43, .binOp .add 3 (.tmp 13) (.const (.int .i64 1)) 3, 3, "office.go:16", #[], none⟩, ⟨some 13, .move (.tmp 43), 3, "office.go:16", #[{ on := 0, ground := .data }], none⟩] false) Z a7 w7 := by
   intro Z F7 a7 w7 pre' hF7 hf7 hJ7 hb7 hN7 hZ
   refine g_region (c := cx w7 44) (R := fun F' => FrSub F' [(0, .func (.yield l) #[] #[]), (1, .pointer (some ⟨b0, 0, none⟩)), (2, .pointer (some ⟨b1, 0, none⟩)), (3, .pointer (some ⟨b2, 0, none⟩)), (12, .int .i64 (nb : Int)), (13, .int .i64 ((k : Int) + 1))]) (hf7.sub hF7) (Has.start w7) ?_ ?_
   ·all_goals (try with_reducible apply gx_id)
    repeat' (first | (apply oq_fn; exact rfl; try first | exact trivial | (and_intros <;> omega)) | (with_reducible apply v_nil) | ((with_reducible apply v_q); (iterate 3 exact rfl)))
    all_goals (repeat (first | exact FrSub.nil | (apply FrSub.cons; exact rfl)))
   intro F8 a8 w8 hF8 hf8 hw8
   have hf8' := hf8.sub hF8
   have hs8 : slot13 a8 = k + 1 := by
    have := hf8'.at_ 13 (.int .i64 ((k : Int) + 1)) rfl
    unfold slot13
    rw [this]
    simp only
    omega
   obtain ⟨bk7, hr7, hn7⟩ := hN7
   exact hZ a8 w8 ⟨⟨k + 1, pre', by omega, hf8', hJe _ _ _ hJ7 hw8.ext.ext, hb7, bk7, hr7.ext hw8.ext.ext, hn7⟩, by rw [hs8, hs2]; omega⟩
  -- behind a booking that is none of these
  have none_ : mtB f sts x = false → ∀ (w7 : World), Ext w3 w7 → J pre w7 ∧ behind pre (k + 1) ∧ OfN (some ⟨gB', oB', none⟩) nb f sts pre (k + 1) w7 := fun hm w7 e7 =>
   ⟨hJe _ _ _ hJ3 e7, fun p hp => Nat.lt_succ_of_lt (hb2 p hp), bk, hbk.ext e7, fun j y hj hjk hy => by
    by_cases hjk' : j < k
    ·exact hno j y hj hjk' hy
    ·obtain rfl : j = k := by omega
     rw [hx] at hy
     rw [← Option.some.inj hy]
     exact hm⟩
  by_cases h1 : x.flight = f
  ·subst h1
   have HC := fun w1 h => containsU8_calls x.state S ns cs sts w1 h hns
   cases hq : sts.any fun s => decide (x.state = s) with
   | false =>
    rw [hq] at HC
    have hm : mtB x.flight sts x = false := by unfold mtB; rw [hq]; simp
    refine g_mixIn (c := cx w3 44) (id := 4) (R := fun F' => FrSub F' [(0, .func (.yield l) #[] #[]), (1, .pointer (some ⟨b0, 0, none⟩)), (2, .pointer (some ⟨b1, 0, none⟩)), (3, .pointer (some ⟨b2, 0, none⟩)), (12, .int .i64 (nb : Int)), (13, .int .i64 (k : Int)), (37, .bool false)]) [0, 1, 2, 3, 4, 5, 6, 7, 8, 9, 10, 11, 12, 13, 14, 15, 16] 3 #[false, false, false, false, false, false, false, false, false, false, false, false, false, false, false, false, false, true, true, true] (by kernel_rfl) (by kernel_rfl) rfl hf5' hw5 ?_ ?_
    ·all_goals (try with_reducible apply gx_id)
     repeat' (first | (apply oq_fn; exact rfl; try first | exact trivial | (and_intros <;> omega)) | ((with_reducible apply oq_load); exact rfl; exact rfl) | ((with_reducible apply oq_call (k := 101) (hc := Try.call101)); exact rfl; exact rfl; exact fun D w1 hw1 => HC w1 (hst.ext hw1.ext.ext)) | (with_reducible apply v_nil) | ((with_reducible apply v_q); (iterate 3 exact rfl)) | ((with_reducible apply v_skip); (iterate 3 exact rfl)) | ((with_reducible apply v_splitD); exact rfl; exact rfl; all_goals first | (intro hp; try (exfalso; omega)) | skip) | (apply Rd.old; (first | (with_reducible assumption) | exact c0 | exact c1 | exact c2 | exact c3 | exact c4 | exact c5 | exact c6 | exact c7 | exact c8 | exact d0 | exact d1 | exact d2 | exact d3 | exact d4 | exact d5); first | exact List.not_mem_nil | exact m0 | exact m1 | exact m2 | exact m3 | exact m4 | exact m5 | exact m6 | exact m7 | exact m8 | exact m9))
     all_goals (repeat (first | exact FrSub.nil | (apply FrSub.cons; exact rfl)))
    intro F6 a6 w6 hF6 hf6 hw6
    have hf6' := hf6.sub hF6
    refine SInI_one (i := 17) (by decide +kernel) rfl ?_
    refine wpOpIn_off rfl (runs_spec hf6' rfl) ?_
    have hf7 := hf6'.put (d := 40) rfl undef
    refine wpAnyIn_one (i := 18) (by decide +kernel) ?_
    refine wpOpIn_off rfl (runs_spec hf7 rfl) ?_
    have hf8 := hf7.put (d := 41) rfl undef
    refine wpAnyIn_one (i := 19) (by decide +kernel) ?_
    refine wpOpIn_on rfl (runs_spec hf8 rfl) ?_
    refine wpIn_oq (c := cx w3 44) (v := .bool false) hf8 hw6 rfl rfl (by apply oq_fn; exact rfl; exact trivial) ?_
    intro a9 w9 hf9 hw9
    refine wpAnyIn_done (by decide +kernel) ?_ _
    show Code.wpIn _ _ _ _ _ _ _
    refine wpIn_cond_false (by have := hf9.at_ 42 _ rfl; simp [Act.eval, Array.getD_eq_getD_getElem?, this]) ?_
    refine wpIn_skip ?_
    show Code.wpIn _ _ _ _ _ _ _
    obtain ⟨g1, g2, g3⟩ := none_ hm w9 hw9.ext.ext
    refine fin _ _ _ _ pre ?_ hf9 g1 g2 g3 fun a8 w8 h => h
    (repeat (first | exact FrSub.nil | (apply FrSub.cons; exact rfl)))
   | true =>
    rw [hq] at HC
    have hm : mtB x.flight sts x = true := by unfold mtB; rw [hq]; simp
    refine g_mixIn (c := cx w3 44) (id := 4) (R := fun F' => FrSub F' [(0, .func (.yield l) #[] #[]), (1, .pointer (some ⟨b0, 0, none⟩)), (2, .pointer (some ⟨b1, 0, none⟩)), (3, .pointer (some ⟨b2, 0, none⟩)), (12, .int .i64 (nb : Int)), (13, .int .i64 (k : Int)), (6, .pointer (some ⟨gB', oB' + k * 3, none⟩)), (37, .bool true), (38, .func (.yield l) #[] #[]), (39, .pointer (some ⟨gB', oB' + k * 3, none⟩))]) [0, 1, 2, 3, 4, 5, 6, 7, 8, 9, 10, 11, 12, 13, 14, 15, 16] 3 #[false, false, false, false, false, false, false, false, false, false, false, false, false, false, false, false, false, true, true, true] (by kernel_rfl) (by kernel_rfl) rfl hf5' hw5 ?_ ?_
    ·all_goals (try with_reducible apply gx_id)
     repeat' (first | (apply oq_fn; exact rfl; try first | exact trivial | (and_intros <;> omega)) | ((with_reducible apply oq_load); exact rfl; exact rfl) | ((with_reducible apply oq_call (k := 101) (hc := Try.call101)); exact rfl; exact rfl; exact fun D w1 hw1 => HC w1 (hst.ext hw1.ext.ext)) | (with_reducible apply v_nil) | ((with_reducible apply v_q); (iterate 3 exact rfl)) | ((with_reducible apply v_splitD); exact rfl; exact rfl; all_goals first | (intro hp; try (exfalso; omega)) | skip) | (apply Rd.old; (first | (with_reducible assumption) | exact c0 | exact c1 | exact c2 | exact c3 | exact c4 | exact c5 | exact c6 | exact c7 | exact c8 | exact d0 | exact d1 | exact d2 | exact d3 | exact d4 | exact d5); first | exact List.not_mem_nil | exact m0 | exact m1 | exact m2 | exact m3 | exact m4 | exact m5 | exact m6 | exact m7 | exact m8 | exact m9))
     all_goals (repeat (first | exact FrSub.nil | (apply FrSub.cons; exact rfl)))
    intro F6 a6 w6 hF6 hf6 hw6
    have hf6' := hf6.sub hF6
    have e6 := hw6.ext.ext
    refine SInI_one (i := 17) (by decide +kernel) rfl ?_
    refine wpOpIn_on rfl (runs_spec hf6' rfl) ?_
    have e38 := hf6'.at_ 38 _ rfl
    have e39 := hf6'.at_ 39 _ rfl
    refine wpIn_yield (l := l) (args := #[.pointer (some ⟨gB', oB' + k * 3, none⟩)]) ?_ (HY.out pre ⟨k, hlt⟩ w6 (hJe _ _ _ hJ3 e6) ⟨hb2, bk, hbk.ext e6, fun y hy => by rw [hx] at hy; rw [← Option.some.inj hy]; exact hm, hno⟩) ?_
    ·simp [execOp, resolve, invoke, go_sem, Act.eval, Array.getD_eq_getD_getElem?, e38, e39]
    rintro e w7 (⟨rfl, hJ7⟩ | ⟨rfl, hJ7⟩)
    ·refine ⟨_, rfl, ?_⟩
     have hf7 := hf6'.put (d := 40) rfl (.bool true)
     refine wpAnyIn_one (i := 18) (by decide +kernel) ?_
     refine wpOpIn_on rfl (runs_spec hf7 rfl) ?_
     refine wpIn_oq (c := cx w7 44) (H := []) (D := []) (v := .bool false) hf7 (Has.start w7) rfl rfl (by apply oq_fn; exact rfl; exact trivial) ?_
     intro a8 w8 hf8 hw8
     refine wpAnyIn_one (i := 19) (by decide +kernel) ?_
     refine wpOpIn_on rfl (runs_spec hf8 rfl) ?_
     refine wpIn_oq (c := cx w7 44) (v := .bool false) hf8 hw8 rfl rfl (by apply oq_fn; exact rfl; exact trivial) ?_
     intro a9 w9 hf9 hw9
     refine wpAnyIn_done (by decide +kernel) ?_ _
     show Code.wpIn _ _ _ _ _ _ _
     refine wpIn_cond_false (by have := hf9.at_ 42 _ rfl; simp [Act.eval, Array.getD_eq_getD_getElem?, this]) ?_
     refine wpIn_skip ?_
     show Code.wpIn _ _ _ _ _ _ _
     obtain ⟨_, _, _, _, _, bk7, hbk7⟩ := hJR _ _ hJ7
     refine fin _ _ _ _ (pre ++ [⟨k, hlt⟩]) ?_ hf9 (hJe _ _ _ hJ7 hw9.ext.ext) ?_ ⟨bk7, hbk7.ext hw9.ext.ext, ?_⟩ fun a8 w8 h => h
     ·(repeat (first | exact FrSub.nil | (apply FrSub.cons; exact rfl)))
     ·intro p hp
      rcases List.mem_append.1 hp with h | h
      ·exact Nat.lt_succ_of_lt (hb2 p h)
      ·rw [List.mem_singleton.1 h]; exact Nat.lt_succ_self k
     ·intro j y hj hjk
      have := hj ⟨k, hlt⟩ (List.mem_append_right _ (List.mem_singleton.2 rfl))
      simp only at this
      omega
    ·refine ⟨_, rfl, ?_⟩
     have hf7 := hf6'.put (d := 40) rfl (.bool false)
     refine wpAnyIn_one (i := 18) (by decide +kernel) ?_
     refine wpOpIn_on rfl (runs_spec hf7 rfl) ?_
     refine wpIn_oq (c := cx w7 44) (H := []) (D := []) (v := .bool true) hf7 (Has.start w7) rfl rfl (by apply oq_fn; exact rfl; exact trivial) ?_
     intro a8 w8 hf8 hw8
     refine wpAnyIn_one (i := 19) (by decide +kernel) ?_
     refine wpOpIn_on rfl (runs_spec hf8 rfl) ?_
     refine wpIn_oq (c := cx w7 44) (v := .bool true) hf8 hw8 rfl rfl (by apply oq_fn; exact rfl; exact trivial) ?_
     intro a9 w9 hf9 hw9
     refine wpAnyIn_done (by decide +kernel) ?_ _
     show Code.wpIn _ _ _ _ _ _ _
     refine wpIn_cond_true (by have := hf9.at_ 42 _ rfl; simp [Act.eval, Array.getD_eq_getD_getElem?, this]) ?_
     refine wpIn_ret ?_
     repeat (first | refine then_ret ?_ | refine inBlock_ret ?_)
     exact bodyPost_ret (results_none rfl _ _ _) (by rw [hf9.defers]; rfl) ⟨⟨_, rfl⟩, .inr ⟨_, hXe _ _ _ hJ7 hw9.ext.ext⟩⟩
  ·have hm : mtB f sts x = false := by unfold mtB; rw [decide_eq_false h1]; rfl
   refine g_mixIn (c := cx w3 44) (id := 4) (R := fun F' => FrSub F' [(0, .func (.yield l) #[] #[]), (1, .pointer (some ⟨b0, 0, none⟩)), (2, .pointer (some ⟨b1, 0, none⟩)), (3, .pointer (some ⟨b2, 0, none⟩)), (12, .int .i64 (nb : Int)), (13, .int .i64 (k : Int)), (37, .bool false)]) [0, 1, 2, 3, 4, 5, 6, 7, 8, 9, 10, 11, 12, 13, 14, 15, 16] 3 #[false, false, false, false, false, false, false, false, false, false, false, false, false, false, false, false, false, true, true, true] (by kernel_rfl) (by kernel_rfl) rfl hf5' hw5 ?_ ?_
   ·all_goals (try with_reducible apply gx_id)
    repeat' (first | (apply oq_fn; exact rfl; try first | exact trivial | (and_intros <;> omega)) | ((with_reducible apply oq_load); exact rfl; exact rfl) | (with_reducible apply v_nil) | ((with_reducible apply v_q); (iterate 3 exact rfl)) | ((with_reducible apply v_skip); (iterate 3 exact rfl)) | ((with_reducible apply v_splitD); exact rfl; exact rfl; all_goals first | (intro hp; try (exfalso; omega)) | skip) | (apply Rd.old; (first | (with_reducible assumption) | exact c0 | exact c1 | exact c2 | exact c3 | exact c4 | exact c5 | exact c6 | exact c7 | exact c8 | exact d0 | exact d1 | exact d2 | exact d3 | exact d4 | exact d5); first | exact List.not_mem_nil | exact m0 | exact m1 | exact m2 | exact m3 | exact m4 | exact m5 | exact m6 | exact m7 | exact m8 | exact m9))
    all_goals (repeat (first | exact FrSub.nil | (apply FrSub.cons; exact rfl)))
   intro F6 a6 w6 hF6 hf6 hw6
   have hf6' := hf6.sub hF6
   refine SInI_one (i := 17) (by decide +kernel) rfl ?_
   refine wpOpIn_off rfl (runs_spec hf6' rfl) ?_
   have hf7 := hf6'.put (d := 40) rfl undef
   refine wpAnyIn_one (i := 18) (by decide +kernel) ?_
   refine wpOpIn_off rfl (runs_spec hf7 rfl) ?_
   have hf8 := hf7.put (d := 41) rfl undef
   refine wpAnyIn_one (i := 19) (by decide +kernel) ?_
   refine wpOpIn_on rfl (runs_spec hf8 rfl) ?_
   refine wpIn_oq (c := cx w3 44) (v := .bool false) hf8 hw6 rfl rfl (by apply oq_fn; exact rfl; exact trivial) ?_
   intro a9 w9 hf9 hw9
   refine wpAnyIn_done (by decide +kernel) ?_ _
   show Code.wpIn _ _ _ _ _ _ _
   refine wpIn_cond_false (by have := hf9.at_ 42 _ rfl; simp [Act.eval, Array.getD_eq_getD_getElem?, this]) ?_
   refine wpIn_skip ?_
   show Code.wpIn _ _ _ _ _ _ _
   obtain ⟨g1, g2, g3⟩ := none_ hm w9 hw9.ext.ext
   refine fin _ _ _ _ pre ?_ hf9 g1 g2 g3 fun a8 w8 h => h
   (repeat (first | exact FrSub.nil | (apply FrSub.cons; exact rfl)))
 ·obtain rfl : k = nb := by omega
  refine wpIn_cond_false (by have := hf3'.at_ 14 _ rfl; simp [Act.eval, Array.getD_eq_getD_getElem?, this]) ?_
  refine wpIn_exit ?_
  refine then_exit (then_exit (inBlock_exit ?_))
  refine bodyPost_end (results_none rfl _ _ _) (by rw [hf3'.defers]; rfl) ?_
  refine ⟨⟨_, rfl⟩, .inl ⟨pre, ⟨bk, hbk, fun j y hj hy => ?_⟩, hJ3⟩⟩
  have hjl := (List.getElem?_eq_some_iff.1 hy).1
  have hl := hbk.len
  simp only [List.length_map] at hl
  exact hno j y hj (by omega) hy
def bnd {n : Nat} (pre : List (Ix n)) : Nat := pre.foldr (fun p m => max (p.1 + 1) m) 0
theorem behind_iff {n : Nat} {pre : List (Ix n)} {j : Nat} : behind pre j ↔ bnd pre ≤ j := by
 unfold behind bnd
 induction pre with
 | nil => simp
 | cons p pre ih =>
  simp only [List.foldr_cons, List.forall_mem_cons, ih]
  omega
theorem bnd_nil {n : Nat} : bnd ([] : List (Ix n)) = 0 := rfl
theorem bnd_snoc {n : Nat} {pre : List (Ix n)} {x : Ix n} (h : behind pre x.1) : bnd (pre ++ [x]) = x.1 + 1 := by
 have h1 : ∀ j, bnd (pre ++ [x]) ≤ j ↔ x.1 + 1 ≤ j := fun j => by
  rw [← behind_iff]
  constructor
  ·intro hh; exact hh x (List.mem_append_right _ (List.mem_singleton.2 rfl))
  ·intro hj p hp
   rcases List.mem_append.1 hp with hp | hp
   ·have := h p hp; omega
   ·rw [List.mem_singleton.1 hp]; exact hj
 exact Nat.le_antisymm ((h1 _).2 (Nat.le_refl _)) ((h1 _).1 (Nat.le_refl _))
def cntTo (p : Bk → Bool) (bk : List Bk) (k : Nat) : Nat := ((bk.take k).filter p).length
def cntV (p : Bk → Bool) (bk : List Bk) : Nat := (bk.filter p).length
theorem cnt_hit {p : Bk → Bool} {bk : List Bk} {k : Nat} {y : Bk} (h : bk[k]? = some y) (hp : p y = true) : cntTo p bk (k + 1) = cntTo p bk k + 1 := by
 unfold cntTo
 rw [List.take_add_one, h, List.filter_append]
 simp [hp]
theorem cnt_gap {p : Bk → Bool} {bk : List Bk} {a : Nat} : ∀ {b : Nat}, a ≤ b → (∀ j y, a ≤ j → j < b → bk[j]? = some y → p y = false) → cntTo p bk b = cntTo p bk a := by
 intro b hab h
 induction b with
 | zero =>
  obtain rfl : a = 0 := by omega
  rfl
 | succ b ih =>
  by_cases e : a = b + 1
  ·rw [e]
  ·rw [← ih (by omega) (fun j y h1 h2 h3 => h j y h1 (by omega) h3)]
   unfold cntTo
   rw [List.take_add_one, List.filter_append, List.length_append]
   cases hy : bk[b]? with
   | none => simp
   | some y => simp [h b y (by omega) (by omega) hy]
theorem cnt_all {p : Bk → Bool} {bk : List Bk} {a : Nat} (h : ∀ j y, a ≤ j → bk[j]? = some y → p y = false) : cntTo p bk a = cntV p bk := by
 by_cases hab : a ≤ bk.length
 ·rw [← cnt_gap (b := bk.length) hab (fun j y h1 _ h3 => h j y h1 h3)]
  unfold cntTo cntV
  rw [List.take_length]
 ·unfold cntTo cntV
  rw [List.take_of_length_le (by omega)]
theorem cnt_le (p : Bk → Bool) (bk : List Bk) (k : Nat) : cntTo p bk k ≤ bk.length := Nat.le_trans (List.length_filter_le _ _) (by rw [List.length_take]; omega)
/-- What 'of' hands out: an iterator. -/
def OfV (bd : Nat) (f : Int) (S : Option Addr) (ns cs : Nat) (v : Value) (H : Hp) : Prop :=
 ∃ b0 b1 b2, v = .func (.func 100) #[] #[.pointer (some ⟨b0, 0, none⟩), .pointer (some ⟨b1, 0, none⟩), .pointer (some ⟨b2, 0, none⟩)] ∧
  H = [(b2, [.slice S ns cs], some (109, 1, 1)), (b1, [.int .i64 f], some (3, 1, 1)), (b0, [.pointer (some ⟨bd, 0, none⟩)], some (121, 1, 1))]
theorem of_T (bd : Nat) (f : Int) (S : Option Addr) (ns cs : Nat) (w : World) : Calls Try.prog 70 #[.pointer (some ⟨bd, 0, none⟩), .int .i64 f, .slice S ns cs] w fun e w' => ∃ v H', e = .returned v ∧ OfV bd f S ns cs v H' ∧ Has w ⟨[], []⟩ H' w' := by
 refine enter (c := cx w 8) (H := []) (F := frOf 0 _) Try.func70 rfl rfl rfl (fun d v hv => (look_frOf _ 0 d v hv).2) (Has.start _) ?_
 repeat' (first | (apply oq_fn; exact rfl; try first | exact trivial | (and_intros <;> omega)) | (with_reducible apply tl_nil) | ((with_reducible apply u_q); (iterate 4 exact rfl)) | ((with_reducible apply u_s); (iterate 3 exact rfl)) | ((with_reducible apply os_x); exact rfl) | ((with_reducible apply ox_box); exact rfl; exact rfl; intro _) | (with_reducible apply t_seq) | (apply t_region; kernel_rfl) | (with_reducible apply t_ret) | with_reducible apply q_thenN | (with_reducible apply end_ret) | exact rvs_nil | (with_reducible apply rvs_cons) | ((with_reducible apply rv_tmp); exact rfl))
 exact ⟨_, _, _, rfl, rfl⟩
/-- Where a slice that is read lies. -/
theorem RdS.place {w : World} {k : Nat} {A : Option Addr} {n : Nat} {xs : List (List Value)} (h : RdS w k A n xs) : ∃ g o, (0 < n → A = some ⟨g, o, none⟩ ∧ g < w.heap.size) := by
 by_cases hn : 0 < n
 ·obtain ⟨b, o, h1, h2, _⟩ := h.at_ hn
  exact ⟨b, o, fun _ => ⟨h1, h2⟩⟩
 ·exact ⟨0, 0, fun h => absurd h hn⟩
theorem count_calls (bd : Nat) (o : Off) (A : Option Addr) (cf : Nat) (B : Option Addr) (cb : Nat) (w : World) (hD : Desk w bd o A cf B cb) (hn : o.bk.length ≤ 1000000) (f : Int) (S : Option Addr) (ns cs : Nat) (sts : List Int) (hS : RdS w 1 S ns (sts.map u8Cells)) (hns : ns ≤ 1000000) :
  Calls Try.prog 64 #[.pointer (some ⟨bd, 0, none⟩), .int .i64 f, .slice S ns cs] w fun e w' => e = .returned (.int .i64 (cntV (mtB f sts) o.bk : Nat)) ∧ Ext w w' := by
 have hlen := hD.bk.len
 simp only [List.length_map] at hlen
 obtain ⟨gB, oB, hpl⟩ := hD.bk.place
 refine enterQ (c := cx w 16) Try.func64 rfl rfl rfl rfl ?_
 repeat' (first | (apply oq_fn; exact rfl; try first | exact trivial | (and_intros <;> omega)) | (with_reducible apply tl_nil) | ((with_reducible apply u_s); (iterate 3 exact rfl); (with_reducible apply os_callF (PV := OfV bd f S ns cs) (k := 70) (hc := Try.call70)); exact rfl; exact rfl; exact fun D w1 hw1 => of_T _ _ _ _ _ w1; rintro v H' ⟨b0, b1, b2, rfl, rfl⟩; simp only [List.cons_append, List.nil_append]) | ((with_reducible apply u_q); (iterate 4 exact rfl)) | ((with_reducible apply u_s0); exact rfl; exact rfl) | ((with_reducible apply u_s); (iterate 3 exact rfl)) | ((with_reducible apply os_x); exact rfl) | ((with_reducible apply os_store); (iterate 4 exact rfl)) | ((with_reducible apply ox_alloc); exact rfl; intro _) | (with_reducible apply t_seq) | (apply t_region; kernel_rfl) | (with_reducible apply t_block) | with_reducible apply q_thenN | exact P0 | ((with_reducible apply Norm.nil); exact rfl) | ((with_reducible apply Norm.cons); exact rfl) | exact Nat.le_of_ble_eq_true rfl)
 rename_i bn
 refine t_rangeV (m := 1) (α := Ix o.bk.length) (β := Unit) (κ := Unit) (ι := Nat) (encs := fun x => [.pointer (some ⟨gB, oB + x.1 * 3, none⟩)]) (Rq := fun _ W => OfAt b0 b1 b2 bd B o.bk.length cb f S ns cs sts W) (G := OfG B o.bk.length f sts) (E := OfE B o.bk.length f sts)
  (hk := [(b2, [.slice S ns cs], some (109, 1, 1)), (b1, [.int .i64 f], some (3, 1, 1)), (b0, [.pointer (some ⟨bd, 0, none⟩)], some (121, 1, 1))]) (fun i => [(bn, [.int .i64 (i : Nat)], some (3, 1, 1))]) (fun pre i => i = cntTo (mtB f sts) o.bk (bnd pre)) (fun _ _ => []) (fun _ _ => [(7, .pointer (some ⟨bn, 0, none⟩))]) (fun _ => []) (fun _ _ _ => False) 0 rfl Try.call100
  (of1_seqV 2 b0 b1 b2 bd gB oB B o.bk.length cb f S ns cs sts (fun h => (hpl h).1) hn hns) (fun n0 x => OfG.abide _ _ _ _ n0 x) (fun n0 => OfE.abide _ _ _ _ n0) ?rq ?h0 ?sub ?ok ?done (fun _ _ _ h => h.elim)
 case rq =>
  intro pre i D W _ hw
  simp only [List.cons_append, List.nil_append] at hw
  have hx : Ext w W := hw.ext.ext
  exact ⟨hw.cellAt (by (repeat (first | exact P0 | apply P1))) rfl, hw.cellAt (by (repeat (first | exact P0 | apply P1))) rfl, hw.cellAt (by (repeat (first | exact P0 | apply P1))) rfl, hS.ext hx, hx.cell hD.bks, _, hD.bk.ext hx⟩
 case h0 => rfl
 case sub =>
  simp only [List.cons_append, List.nil_append]
  (repeat (first | exact HpSub.refl _ | (apply HpSub.consE; (repeat (first | exact P0 | apply P1)); exact rfl) | exact HpSub.nil))
 case ok =>
  refine ⟨fun _ => rfl, rfl, fun x W => .inl ⟨rfl, (), ?_, ?_⟩, fun x b i n W D hb hw _ y hy => (List.not_mem_nil hy).elim, fun l' pre x i b W D hi hw hG hl' => ?_⟩
  ·(repeat (first | exact FrSub.nil | (apply FrSub.cons; exact rfl)))
  ·(repeat (first | exact HpSub.refl _ | (apply HpSub.consE; (repeat (first | exact P0 | apply P1)); exact rfl) | exact HpSub.nil))
  ·obtain ⟨hbe, bk', hr', hm, hno⟩ := hG
   simp only [List.cons_append, List.nil_append] at hw ⊢
   have hx : Ext w W := hw.ext.ext
   obtain rfl : bk' = o.bk := bk_inj (hr'.inj (hD.bk.ext hx))
   have hxl : x.1 < o.bk.length := x.2
   have hgx := List.getElem?_eq_getElem hxl
   have hs : cntTo (mtB f sts) o.bk (bnd (pre ++ [x])) = i + 1 := by
    rw [bnd_snoc hbe, cnt_hit hgx (hm _ hgx), cnt_gap (behind_iff.1 hbe) (fun j y h1 h2 h3 => hno j y (behind_iff.2 h1) h2 h3), ← hi]
   have hle := cnt_le (mtB f sts) o.bk (bnd (pre ++ [x]))
   have c0 : W.cell? ⟨bn, 0, none⟩ = some (.int .i64 (i : Nat)) := hw.cellAt (by (repeat (first | exact P0 | apply P1))) rfl
   repeat' (first | (apply oq_fn; exact rfl; try first | exact trivial | (and_intros <;> omega)) | ((with_reducible apply oq_load); exact rfl; exact rfl) | (with_reducible apply tl_nil) | ((with_reducible apply u_q); (iterate 4 exact rfl)) | ((with_reducible apply u_s0); exact rfl; exact rfl) | ((with_reducible apply os_store); (iterate 4 exact rfl)) | (apply Rd.own; (repeat (first | exact P0 | apply P1)); exact rfl; done) | (apply t_region; kernel_rfl) | (with_reducible apply t_block) | with_reducible apply q_blockN | exact P0 | ((with_reducible apply Norm.nil); exact rfl) | ((with_reducible apply Norm.cons); exact rfl) | exact Nat.le_of_ble_eq_true rfl)
   refine ⟨i + 1, hs.symm, ?_⟩
   (repeat (first | exact HpSub.refl _ | (apply HpSub.consE; (repeat (first | exact P0 | apply P1)); first | exact rfl | (simp only [Int.natCast_add, Int.natCast_one])) | exact HpSub.nil))
 case done =>
  rintro D xs i W ⟨bk', hr', hno⟩ hi hw
  simp only [List.cons_append, List.nil_append] at hw ⊢
  have hx : Ext w W := hw.ext.ext
  obtain rfl : bk' = o.bk := bk_inj (hr'.inj (hD.bk.ext hx))
  have hv : i = cntV (mtB f sts) o.bk := by rw [hi, cnt_all (fun j y h1 h2 => hno j y (behind_iff.2 h1) h2)]
  subst hv
  repeat' (first | (apply oq_fn; exact rfl; try first | exact trivial | (and_intros <;> omega)) | ((with_reducible apply oq_load); exact rfl; exact rfl) | (with_reducible apply tl_nil) | ((with_reducible apply u_q); (iterate 4 exact rfl)) | (apply Rd.own; (repeat (first | exact P0 | apply P1)); exact rfl; done) | (with_reducible apply t_seq) | (apply t_region; kernel_rfl) | (with_reducible apply t_ret) | with_reducible apply q_thenN | with_reducible apply q_blockN | (with_reducible apply end_ret) | exact rvs_nil | (with_reducible apply rvs_cons) | ((with_reducible apply rv_tmp); exact rfl))
  rfl
/-- A slice that is nil. -/
theorem oq_eqNilT {c : Cx} {F : Fr} {H : Hp} {d : Option Tmp} {ty t t' : TypeId} {pos : String} {af : Array Edge} {g : Option (Nat × Bool)} {x y : Operand} {e s0 : Nat} {a0 : Bool} {z0 : List Value} (ht : tyAt c.tys t = some ⟨a0, s0, z0, .slice e⟩)
  (hx : ev F x = some (.slice none 0 0)) (hy : ev F y = some (.slice none 0 0)) : OQ c ⟨d, .binOp .eql t x y t', ty, pos, af, g⟩ F H (.bool true) := .of fun D a w ha _ => by
 have hk := (c.ty ht).kind w
 have e0 : (Op.equalIn 10000 t (.slice none 0 0) (.slice none 0 0)).run c.P w = .ok true w := by
  have key : ∀ d : Nat, (Op.equalIn (d + 1) t (.slice none 0 0) (.slice none 0 0)).run c.P w = .ok true w := fun d => by
   simp only [Op.equalIn, Sem.run_bind, hk, Result.andThen, Sem.run_pure, Option.isNone]
  exact key 9999
 have e : (binOp .eql t (.slice none 0 0) (.slice none 0 0)).run c.P w = .ok (.bool true) w := by
  simp only [binOp, Op.equal, Op.maxDepth, Sem.run_bind, e0, Result.andThen, Sem.run_pure]
 have e1 : (eqGuard .eql t x y (.slice none 0 0) (.slice none 0 0)).run c.P w = .ok () w := by simp [eqGuard, go_sem]
 simp only [execOp, ha.ev hx, ha.ev hy, Sem.run_bind, e, e1, Result.andThen, Sem.run_pure]
def clA : Option (Nat × Nat) → Option Addr
 | none => none
 | some (g, _) => some ⟨g, 0, none⟩
def clC : Option (Nat × Nat) → Nat
 | none => 0
 | some (_, c) => c
def clH (e s : Nat) (C : List Value) : Option (Nat × Nat) → Hp
 | none => []
 | some (g, c) => [(g, C, some (e, s, c))]
/-- What a copy hands out: nil, or own memory. -/
def CloneV (e s : Nat) (C : List Value) (n : Nat) (v : Value) (H : Hp) : Prop := ∃ x, (x = none → n = 0) ∧ v = .slice (clA x) n (clC x) ∧ H = clH e s C x
theorem dep_len (l : List Dep) : ∀ r ∈ l.map depCells, r.length = 4 := by simp only [List.mem_map]; rintro r ⟨x, _, rfl⟩; rfl
theorem bk_len (l : List Bk) : ∀ r ∈ l.map bkCells, r.length = 3 := by simp only [List.mem_map]; rintro r ⟨x, _, rfl⟩; rfl
theorem dep_one (l : List Dep) : ∀ r ∈ l.map depCells, ∀ u ∈ r, u.oneCell' = true := by
 simp only [List.mem_map]; rintro r ⟨x, _, rfl⟩ u hu
 simp only [depCells, List.mem_cons, List.not_mem_nil, or_false] at hu
 rcases hu with rfl | rfl | rfl | rfl <;> rfl
theorem bk_one (l : List Bk) : ∀ r ∈ l.map bkCells, ∀ u ∈ r, u.oneCell' = true := by
 simp only [List.mem_map]; rintro r ⟨x, _, rfl⟩ u hu
 simp only [bkCells, List.mem_cons, List.not_mem_nil, or_false] at hu
 rcases hu with rfl | rfl | rfl <;> rfl
theorem cloneF_T (A : Option Addr) (n c : Nat) (l : List Dep) (w : World) (hr : RdS w 4 A n (l.map depCells)) (hnil : A = none → n = 0 ∧ c = 0) (hn : n ≤ 1000000) :
  Calls Try.prog 92 #[.slice A n c] w fun e w' => ∃ v H', e = .returned v ∧ CloneV 106 4 (l.map depCells).flatten n v H' ∧ Has w ⟨[], []⟩ H' w' := by
 cases A with
 | none =>
  obtain ⟨rfl, rfl⟩ := hnil rfl
  refine enterF (c := cx w 8) Try.func92 rfl rfl rfl rfl ?_
  repeat' (first | ((with_reducible apply oq_eqNilT); (iterate 3 exact rfl)) | (apply oq_fn; exact rfl; try first | exact trivial | (and_intros <;> omega)) | (with_reducible apply tl_nil) | ((with_reducible apply u_q); (iterate 4 exact rfl)) | (with_reducible apply t_seq) | (apply t_region; kernel_rfl) | ((with_reducible apply t_condT); exact rfl) | (with_reducible apply t_ret) | with_reducible apply q_thenN | with_reducible apply q_thenR | (with_reducible apply end_ret) | exact rvs_nil | (with_reducible apply rvs_cons) | ((with_reducible apply rv_tmp); exact rfl))
  exact ⟨_, ⟨none, fun _ => rfl, rfl, rfl⟩, HpSub.nil⟩
 | some p =>
  refine enterF (c := cx w 8) Try.func92 rfl rfl rfl rfl ?_
  repeat' (first | ((with_reducible apply oq_eqNil); (iterate 3 exact rfl)) | (apply oq_fn; exact rfl; try first | exact trivial | (and_intros <;> omega)) | (with_reducible apply tl_nil) | ((with_reducible apply u_s); (iterate 3 exact rfl); (with_reducible apply os_appendRows (hk := app_ok22) (rows := l.map depCells) (hr := fun D w1 hw1 => hr.ext hw1.ext.ext)); exact rfl; exact rfl; exact P0; exact dep_len l; exact rfl; exact dep_one l; exact Nat.le_refl _; omega; omega; intro b cap'; simp only [Nat.zero_add, List.nil_append]) | ((with_reducible apply u_q); (iterate 4 exact rfl)) | ((with_reducible apply u_s); (iterate 3 exact rfl)) | ((with_reducible apply os_x); exact rfl) | ((with_reducible apply ox_buildSlice); (iterate 4 exact rfl)) | (with_reducible apply t_seq) | (apply t_region; kernel_rfl) | ((with_reducible apply t_condF); exact rfl) | (with_reducible apply t_ret) | (with_reducible apply t_skip) | with_reducible apply q_thenN | ((with_reducible apply Norm.nil); exact rfl) | (with_reducible apply end_ret) | exact rvs_nil | (with_reducible apply rvs_cons) | ((with_reducible apply rv_tmp); exact rfl) | exact (rfl : (_ : Bool) = true) | (intro _; with_reducible apply tl_id))
  exact ⟨_, ⟨some (b, cap'), fun h => (by cases h), rfl, rfl⟩, HpSub.refl _⟩
theorem cloneB_T (A : Option Addr) (n c : Nat) (l : List Bk) (w : World) (hr : RdS w 3 A n (l.map bkCells)) (hnil : A = none → n = 0 ∧ c = 0) (hn : n ≤ 1000000) :
  Calls Try.prog 93 #[.slice A n c] w fun e w' => ∃ v H', e = .returned v ∧ CloneV 71 3 (l.map bkCells).flatten n v H' ∧ Has w ⟨[], []⟩ H' w' := by
 cases A with
 | none =>
  obtain ⟨rfl, rfl⟩ := hnil rfl
  refine enterF (c := cx w 8) Try.func93 rfl rfl rfl rfl ?_
  repeat' (first | ((with_reducible apply oq_eqNilT); (iterate 3 exact rfl)) | (apply oq_fn; exact rfl; try first | exact trivial | (and_intros <;> omega)) | (with_reducible apply tl_nil) | ((with_reducible apply u_q); (iterate 4 exact rfl)) | (with_reducible apply t_seq) | (apply t_region; kernel_rfl) | ((with_reducible apply t_condT); exact rfl) | (with_reducible apply t_ret) | with_reducible apply q_thenN | with_reducible apply q_thenR | (with_reducible apply end_ret) | exact rvs_nil | (with_reducible apply rvs_cons) | ((with_reducible apply rv_tmp); exact rfl))
  exact ⟨_, ⟨none, fun _ => rfl, rfl, rfl⟩, HpSub.nil⟩
 | some p =>
  refine enterF (c := cx w 8) Try.func93 rfl rfl rfl rfl ?_
  repeat' (first | ((with_reducible apply oq_eqNil); (iterate 3 exact rfl)) | (apply oq_fn; exact rfl; try first | exact trivial | (and_intros <;> omega)) | (with_reducible apply tl_nil) | ((with_reducible apply u_s); (iterate 3 exact rfl); (with_reducible apply os_appendRows (hk := app_ok23) (rows := l.map bkCells) (hr := fun D w1 hw1 => hr.ext hw1.ext.ext)); exact rfl; exact rfl; exact P0; exact bk_len l; exact rfl; exact bk_one l; exact Nat.le_refl _; omega; omega; intro b cap'; simp only [Nat.zero_add, List.nil_append]) | ((with_reducible apply u_q); (iterate 4 exact rfl)) | ((with_reducible apply u_s); (iterate 3 exact rfl)) | ((with_reducible apply os_x); exact rfl) | ((with_reducible apply ox_buildSlice); (iterate 4 exact rfl)) | (with_reducible apply t_seq) | (apply t_region; kernel_rfl) | ((with_reducible apply t_condF); exact rfl) | (with_reducible apply t_ret) | (with_reducible apply t_skip) | with_reducible apply q_thenN | ((with_reducible apply Norm.nil); exact rfl) | (with_reducible apply end_ret) | exact rvs_nil | (with_reducible apply rvs_cons) | ((with_reducible apply rv_tmp); exact rfl) | exact (rfl : (_ : Bool) = true) | (intro _; with_reducible apply tl_id))
  exact ⟨_, ⟨some (b, cap'), fun h => (by cases h), rfl, rfl⟩, HpSub.refl _⟩
theorem PA {b : Nat} {C : List Value} {g : Tg} {H H' : Hp} : ∀ {G : Hp}, Pick H b C g H' → Pick (G ++ H) b C g (G ++ H')
 | [], h => h
 | x :: G, h => .tail (PA h)
theorem HpSub.skipX {x : Nat × List Value × Tg} {H G : Hp} (h : HpSub H G) : HpSub (x :: H) G := by
 induction h with
 | nil => exact .nil
 | cons p _ ih => exact .cons (.tail p) ih
theorem flat_at {α : Type} {f : α → List Value} {s : Nat} (hf : ∀ x, (f x).length = s) : ∀ {l : List α} {i : Nat} {x : α}, l[i]? = some x → ∀ {j : Nat} {v : Value}, (f x)[j]? = some v → ((l.map f).flatten)[i * s + j]? = some v
 | [], i, x, h, _, _, _ => by simp at h
 | y :: l, 0, x, h, j, v, hv => by
  obtain rfl : y = x := by simpa using h
  have hj := (List.getElem?_eq_some_iff.1 hv).1
  rw [List.map_cons, List.flatten_cons, Nat.zero_mul, Nat.zero_add, List.getElem?_append_left hj]
  exact hv
 | y :: l, i + 1, x, h, j, v, hv => by
  have h' : l[i]? = some x := by simpa using h
  have := flat_at hf h' hv
  rw [List.map_cons, List.flatten_cons, List.getElem?_append_right (by rw [hf]; rw [Nat.succ_mul]; omega), hf]
  rw [show (i + 1) * s + j - s = i * s + j by rw [Nat.succ_mul]; omega]
  exact this
theorem dep_at {l : List Dep} {k : Nat} {x : Dep} (h : l[k]? = some x) : ((l.map depCells).flatten)[0 + k * 4]? = some (.int .i64 x.seats) ∧ ((l.map depCells).flatten)[0 + k * 4 + 1]? = some (.int .i64 x.price) ∧ ((l.map depCells).flatten)[0 + k * 4 + 2]? = some (.int .i64 x.leaves) ∧ ((l.map depCells).flatten)[0 + k * 4 + 3]? = some (.int .u8 x.state) := by
 rw [Nat.zero_add]
 exact ⟨flat_at (f := depCells) (s := 4) (fun _ => rfl) h (j := 0) rfl, flat_at (f := depCells) (s := 4) (fun _ => rfl) h (j := 1) rfl, flat_at (f := depCells) (s := 4) (fun _ => rfl) h (j := 2) rfl, flat_at (f := depCells) (s := 4) (fun _ => rfl) h (j := 3) rfl⟩
theorem bk_at {l : List Bk} {k : Nat} {x : Bk} (h : l[k]? = some x) : ((l.map bkCells).flatten)[0 + k * 3]? = some (.int .i64 x.flight) ∧ ((l.map bkCells).flatten)[0 + k * 3 + 1]? = some (.int .u8 x.state) ∧ ((l.map bkCells).flatten)[0 + k * 3 + 2]? = some (.int .i64 x.kept) := by
 rw [Nat.zero_add]
 exact ⟨flat_at (f := bkCells) (s := 3) (fun _ => rfl) h (j := 0) rfl, flat_at (f := bkCells) (s := 3) (fun _ => rfl) h (j := 1) rfl, flat_at (f := bkCells) (s := 3) (fun _ => rfl) h (j := 2) rfl⟩
theorem clA_some (g c : Nat) : clA (some (g, c)) = some ⟨g, 0, none⟩ := rfl
theorem clC_some (g c : Nat) : clC (some (g, c)) = c := rfl
theorem clH_some (e s g c : Nat) (C : List Value) : clH e s C (some (g, c)) = [(g, C, some (e, s, c))] := rfl
abbrev flH (o : Off) (x : Option (Nat × Nat)) : Hp := clH 106 4 (o.fl.map depCells).flatten x
abbrev bkH (o : Off) (y : Option (Nat × Nat)) : Hp := clH 71 3 (o.bk.map bkCells).flatten y
theorem clH_rows {w0 : World} {M : Ms} {w : World} {e s n : Nat} {α : Type} {f : α → List Value} {l : List α} {x : Option (Nat × Nat)} (h : Has w0 M (clH e s (l.map f).flatten x) w) (hf : ∀ y, (f y).length = s) (hl : l.length = n) (hx : x = none → n = 0) : RdS w s (clA x) n (l.map f) := by
 cases x with
 | none =>
  obtain rfl := hx rfl
  obtain rfl := List.eq_nil_of_length_eq_zero hl
  exact RdS.nil _ _ _
 | some p =>
  exact Blk.rows (h.blk _ (List.mem_cons_self ..)).2 (by simpa using hl) (by simp only [List.mem_map]; rintro r ⟨x, _, rfl⟩; exact hf x)
theorem Has.right {w0 : World} {M : Ms} {w : World} {G H : Hp} (h : Has w0 M (G ++ H) w) : Has w0 M H w :=
 ⟨h.ext, fun x hx => h.blk x (List.mem_append_right _ hx), by have := h.nodup; rw [List.map_append, List.nodup_append] at this; exact this.2.1, h.marks⟩
theorem Has.left {w0 : World} {M : Ms} {w : World} {G H : Hp} (h : Has w0 M (G ++ H) w) : Has w0 M G w :=
 ⟨h.ext, fun x hx => h.blk x (List.mem_append_left _ hx), by have := h.nodup; rw [List.map_append, List.nodup_append] at this; exact this.1, h.marks⟩
/-- The blocks of an office at work. -/
def deskH (bd : Nat) (o : Off) (x y : Option (Nat × Nat)) : Hp := (bd, offCells o (clA x) (clC x) (clA y) (clC y), some (135, 7, 1)) :: (flH o x ++ bkH o y)
theorem desk_of {w0 : World} {M : Ms} {w : World} {H : Hp} {bd : Nat} {o : Off} {x y : Option (Nat × Nat)} (h : Has w0 M H w) (p : HpSub H (deskH bd o x y)) (hx : x = none → o.fl.length = 0) (hy : y = none → o.bk.length = 0) : Desk w bd o (clA x) (clC x) (clA y) (clC y) := by
 have h1 := h.sub p
 have hb := (h1.blk _ (List.mem_cons_self ..)).2
 have h2 : Has w0 M (flH o x ++ bkH o y) w := Has.right (G := [_]) h1
 exact ⟨hb.cell rfl, hb.cell rfl, hb.cell rfl, hb.cell rfl, hb.cell rfl, hb.cell rfl, hb.cell rfl, clH_rows h2.left (fun _ => rfl) rfl hx, clH_rows h2.right (fun _ => rfl) rfl hy⟩
/-- What 'open' hands out. -/
def OpenV (o : Off) (v : Value) (H : Hp) : Prop :=
 (officeB o = false ∧ ∃ p, v = .tuple #[.pointer p, .bool false] ∧ H = []) ∨
 (officeB o = true ∧ ∃ bd x y, (x = none → o.fl.length = 0) ∧ (y = none → o.bk.length = 0) ∧ v = .tuple #[.pointer (some ⟨bd, 0, none⟩), .bool true] ∧ H = deskH bd o x y)
theorem booked_st {fl : List Dep} {fee : Int} (hd : DepsOk fl) {x : Bk} (h : bookedB fl fee x = true) : x.state = 1 ∨ x.state = 2 ∨ x.state = 3 ∨ x.state = 4 := by
 unfold bookedB at h
 split at h
 ·split at h
  ·cases h
  ·split at h
   ·exact .inr (.inr (.inr ‹_›))
   ·simp only [Bool.and_eq_true] at h
    have := h.1
    unfold fitB at this
    simp at this
    omega
 ·cases h
theorem fromTwo {w0 : World} {M : Ms} {H H' : Hp} {w : World} {g : Nat} {lo hi z1 z2 : Int} {tg : Tg} {cp : Nat} {q : Bool} (hq : allFrom lo hi [z1, z2] = q) (h : Has w0 M H w) (p : Pick H g [.int .i64 z1, .int .i64 z2] tg H') :
  Calls Try.prog 63 #[.int .i64 lo, .int .i64 hi, .slice (some ⟨g, 0, none⟩) 2 cp] w fun e w' => e = .returned (.bool q) ∧ Ext w w' :=
 hq ▸ from_calls lo hi (some ⟨g, 0, none⟩) 2 cp [z1, z2] w (Blk.rows (h.blk _ p.mem).2 rfl (by simp only [List.mem_map]; rintro r ⟨x, _, rfl⟩; rfl)) (by omega)
theorem two_t {lo hi a b : Int} (h1 : lo ≤ a ∧ a ≤ hi) (h2 : lo ≤ b ∧ b ≤ hi) : allFrom lo hi [a, b] = true := by unfold allFrom; simp [h1.1, h1.2, h2.1, h2.2]
theorem two_f {lo hi a b : Int} (h : ¬ ((lo ≤ a ∧ a ≤ hi) ∧ (lo ≤ b ∧ b ≤ hi))) : allFrom lo hi [a, b] = false := by
 unfold allFrom
 rw [Bool.eq_false_iff]
 intro h2
 simp only [List.all_cons, List.all_nil, Bool.and_true, Bool.and_eq_true, decide_eq_true_eq] at h2
 exact h h2
theorem mt_many (bk : List Bk) (f s : Int) : ((cntV (mtB f [s]) bk : Nat) : Int) = manyV bk f s := by
 unfold cntV manyV
 congr 3
 funext x
 unfold mtB isB
 simp
theorem mt_many2 (bk : List Bk) (f s t : Int) (hst : s ≠ t) : ((cntV (mtB f [s, t]) bk : Nat) : Int) = manyV bk f s + manyV bk f t := by
 unfold cntV manyV
 induction bk with
 | nil => rfl
 | cons x l ih =>
  have e : mtB f [s, t] x = (isB f s x || isB f t x) := by unfold mtB isB; simp [Bool.and_or_distrib_left]
  by_cases h1 : isB f s x = true
  ·have h2 : isB f t x = false := by
    unfold isB at h1 ⊢
    simp only [Bool.and_eq_true, decide_eq_true_eq] at h1
    simp [h1.1, h1.2, hst]
   simp only [List.filter_cons, e, h1, h2, Bool.true_or, if_true, List.length_cons, Bool.false_eq_true, if_false]
   omega
  ·simp only [Bool.not_eq_true] at h1
   by_cases h2 : isB f t x = true
   ·simp only [List.filter_cons, e, h1, h2, Bool.false_or, if_true, List.length_cons, Bool.false_eq_true, if_false]
    omega
   ·simp only [Bool.not_eq_true] at h2
    simp only [List.filter_cons, e, h1, h2, Bool.or_self, Bool.false_eq_true, if_false]
    exact ih
theorem open_T (o : Off) (A : Option Addr) (cf : Nat) (B : Option Addr) (cb : Nat) (w : World) (hA : RdS w 4 A o.fl.length (o.fl.map depCells)) (hB : RdS w 3 B o.bk.length (o.bk.map bkCells)) (hnA : A = none → o.fl.length = 0 ∧ cf = 0) (hnB : B = none → o.bk.length = 0 ∧ cb = 0)
  (hu : ∀ d ∈ o.fl, 0 ≤ d.state) (hn : o.fl.length ≤ 1000000) (hn2 : o.bk.length ≤ 1000000) : Calls Try.prog 62 #[.agg ⟨offCells o A cf B cb⟩] w fun e w' => ∃ v H', e = .returned v ∧ OpenV o v H' ∧ Has w ⟨[], []⟩ H' w' := by
 refine enterF (c := cx w 126) Try.func62 rfl rfl rfl rfl ?_
 refine t_cut (ι := Nat) (fun b => [(1, .pointer (some ⟨b, 0, none⟩))]) (fun b => [(b, offCells o A cf B cb, some (25, 7, 1))]) (fun _ => True) ?_ ?_
 ·repeat' (first | (apply oq_fn; exact rfl; try first | exact trivial | (and_intros <;> omega)) | (with_reducible apply tl_nil) | ((with_reducible apply u_q); (iterate 4 exact rfl)) | ((with_reducible apply u_s); (iterate 3 exact rfl)) | ((with_reducible apply os_x); exact rfl) | ((with_reducible apply ox_boxAgg); exact rfl; intro _) | (apply t_region; kernel_rfl))
  all_goals exact ⟨rfl, _, trivial, by (repeat (first | exact FrSub.nil | (apply FrSub.cons; exact rfl))), by (repeat (first | exact HpSub.refl _ | (apply HpSub.consE; (repeat (first | exact P0 | apply P1 | apply PA)); exact rfl) | exact HpSub.nil))⟩
 rintro bo -
 refine t_cut (ι := Option (Nat × Nat) × Option (Nat × Nat)) (fun _ => [(1, .pointer (some ⟨bo, 0, none⟩))]) (fun i => (bo, offCells o (clA i.1) (clC i.1) (clA i.2) (clC i.2), some (25, 7, 1)) :: (flH o i.1 ++ bkH o i.2)) (fun i => (i.1 = none → o.fl.length = 0) ∧ (i.2 = none → o.bk.length = 0)) ?_ ?_
 ·repeat' (first | (apply oq_fn; exact rfl; try first | exact trivial | (and_intros <;> omega)) | ((with_reducible apply oq_load); exact rfl; exact rfl) | (with_reducible apply v_nil) | ((with_reducible apply v_q); (iterate 3 exact rfl)) | ((with_reducible apply os_store); (iterate 4 exact rfl)) | ((with_reducible apply ai_n); (iterate 4 exact rfl); (with_reducible apply os_callF (PV := CloneV 106 4 (o.fl.map depCells).flatten o.fl.length) (k := 92) (hc := Try.call92)); exact rfl; exact rfl; exact fun D w1 hw1 => cloneF_T A _ cf o.fl w1 (hA.ext hw1.ext.ext) hnA hn; rintro v H' ⟨x, hxn, rfl, rfl⟩; (try simp only [List.cons_append, List.nil_append])) | ((with_reducible apply ai_n); (iterate 4 exact rfl); (with_reducible apply os_callF (PV := CloneV 71 3 (o.bk.map bkCells).flatten o.bk.length) (k := 93) (hc := Try.call93)); exact rfl; exact rfl; exact fun D w1 hw1 => cloneB_T B _ cb o.bk w1 (hB.ext hw1.ext.ext) hnB hn2; rintro v H' ⟨y, hyn, rfl, rfl⟩; (try simp only [List.cons_append, List.nil_append])) | ((with_reducible apply ai_q); (iterate 5 exact rfl)) | ((with_reducible apply ai_s0); (iterate 4 exact rfl)) | ((with_reducible apply al_keep); focus (repeat (first | exact HpSub.refl _ | (apply HpSub.cons; (repeat (first | exact P0 | apply P1 | apply PA))) | apply HpSub.skipX | exact HpSub.nil))) | (apply Rd.own; (repeat (first | exact P0 | apply P1 | apply PA)); exact rfl; done) | (apply t_mix (id := 1) [0, 1, 3, 4] 6 #[false, false, false, false, false, false, false, true, false, true]; kernel_rfl; kernel_rfl; exact rfl) | exact P0 | (first | (with_reducible apply P1) | (with_reducible apply PA)) | ((with_reducible apply Norm.nil); exact rfl) | ((with_reducible apply Norm.cons); exact rfl) | (apply al_done; decide +kernel) | (apply al_one 2; decide +kernel) | (apply al_one 5; decide +kernel) | (apply al_one 6; decide +kernel) | (apply al_one 7; decide +kernel) | (apply al_one 8; decide +kernel) | (apply al_one 9; decide +kernel) | (apply al_two 5 6; decide +kernel) | exact Nat.le_of_ble_eq_true rfl)
  all_goals (refine ⟨by trivial, (x, y), ⟨hxn, hyn⟩, by (repeat (first | exact FrSub.nil | (apply FrSub.cons; exact rfl))), ?_⟩)
  all_goals (rcases x with _ | ⟨g1, c1⟩ <;> rcases y with _ | ⟨g2, c2⟩ <;> simp only [flH, bkH, clH, clA, clC, List.cons_append, List.nil_append, List.append_nil])
  all_goals (repeat (first | exact HpSub.refl _ | (apply HpSub.consE; (repeat (first | exact P0 | apply P1 | apply PA)); exact rfl) | exact HpSub.nil))
 rintro ⟨x, y⟩ ⟨hxn, hyn⟩
 simp only at hxn hyn ⊢
 by_cases hh : headB o = true
 ·obtain ⟨a1, a2, b1, b2, f1, f2, nf, nb⟩ := headB_in hh
  have hw2 := two_t (lo := 0) (hi := 1000000) (a := o.now) (b := o.notice) ⟨a1, a2⟩ ⟨b1, b2⟩
  have hw1f := allFrom_t (lo := 0) (hi := 100) (z := o.fee) ⟨f1, f2⟩
  refine t_cut (ι := Nat) (fun bd => [(1, .pointer (some ⟨bo, 0, none⟩)), (4, .pointer (some ⟨bd, 0, none⟩))]) (fun bd => (bd, offCells o (clA x) (clC x) (clA y) (clC y), some (135, 7, 1)) :: (bo, offCells o (clA x) (clC x) (clA y) (clC y), some (25, 7, 1)) :: (flH o x ++ bkH o y)) (fun _ => True) ?_ ?_
  ·repeat' (first | (apply oq_fn; exact rfl; try first | exact trivial | (and_intros <;> omega)) | ((with_reducible apply oq_loadAgg); exact rfl; exact rfl) | ((with_reducible apply oq_build); (iterate 3 exact rfl)) | (with_reducible apply tl_nil) | ((with_reducible apply u_q); (iterate 4 exact rfl)) | ((with_reducible apply u_s); (iterate 3 exact rfl)) | ((with_reducible apply os_x); exact rfl) | ((with_reducible apply ox_boxAgg); exact rfl; intro _) | (apply Rd.own; (repeat (first | exact P0 | apply P1 | apply PA)); exact rfl; done) | (apply t_region; kernel_rfl) | exact Rdn.zero | apply Rdn.succ | ((with_reducible apply Norm.nil); exact rfl) | ((with_reducible apply Norm.cons); exact rfl))
   all_goals exact ⟨rfl, _, trivial, by (repeat (first | exact FrSub.nil | (apply FrSub.cons; exact rfl))), by (repeat (first | exact HpSub.refl _ | (apply HpSub.consE; (repeat (first | exact P0 | apply P1 | apply PA)); exact rfl) | apply HpSub.skipX | exact HpSub.nil))⟩
  rintro bd -
  refine t_cut (ι := Unit) (fun _ => [(1, .pointer (some ⟨bo, 0, none⟩)), (4, .pointer (some ⟨bd, 0, none⟩))]) (fun _ => (bd, offCells o (clA x) (clC x) (clA y) (clC y), some (135, 7, 1)) :: (bo, offCells o (clA x) (clC x) (clA y) (clC y), some (25, 7, 1)) :: (flH o x ++ bkH o y)) (fun _ => True) ?_ ?_
  ·repeat' (first | (apply oq_fn; exact rfl; try first | exact trivial | (and_intros <;> omega)) | ((with_reducible apply oq_load); exact rfl; exact rfl) | ((with_reducible apply oq_call (k := 63) (hc := Try.call63)); exact rfl; exact rfl; exact fun D w1 hw1 => fromTwo hw2 hw1 (by (repeat (first | exact P0 | apply P1 | apply PA)))) | ((with_reducible apply oq_call (k := 63) (hc := Try.call63)); exact rfl; exact rfl; exact fun D w1 hw1 => fromOne hw1f hw1 (by (repeat (first | exact P0 | apply P1 | apply PA)))) | (with_reducible apply tl_nil) | ((with_reducible apply u_q); (iterate 4 exact rfl)) | ((with_reducible apply u_s); (iterate 3 exact rfl)) | ((with_reducible apply u_splitD); exact rfl; exact rfl; all_goals first | (intro hp; try (exfalso; omega)) | skip) | ((with_reducible apply os_x); exact rfl) | ((with_reducible apply ox_buildSlice1); (iterate 6 exact rfl); intro _) | (apply Rd.own; (repeat (first | exact P0 | apply P1 | apply PA)); exact rfl; done) | (with_reducible apply t_seq) | (apply t_region; kernel_rfl) | ((with_reducible apply t_condD); exact rfl; all_goals first | (intro hp; try (exfalso; omega)) | skip) | (with_reducible apply t_skip) | with_reducible apply q_thenN)
   all_goals exact ⟨by trivial, (), trivial, by (repeat (first | exact FrSub.nil | (apply FrSub.cons; exact rfl))), by (repeat (first | exact HpSub.refl _ | (apply HpSub.consE; (repeat (first | exact P0 | apply P1 | apply PA)); exact rfl) | apply HpSub.skipX | exact HpSub.nil))⟩
  rintro - -
  repeat' (first | (apply oq_fn; exact rfl; try first | exact trivial | (and_intros <;> omega)) | ((with_reducible apply oq_load); exact rfl; exact rfl) | (with_reducible apply tl_nil) | ((with_reducible apply u_q); (iterate 4 exact rfl)) | (apply Rd.own; (repeat (first | exact P0 | apply P1 | apply PA)); exact rfl; done) | (with_reducible apply t_seq) | (apply t_region; kernel_rfl) | (with_reducible apply t_block) | with_reducible apply q_thenN)
  apply t_loopK (ι := Nat) [1, 4, 8, 9, 10, 11, 12, 51, 52, 61, 62, 63, 64, 65, 66, 67, 68, 69, 70, 71, 72, 73, 74, 75, 76, 77, 78, 79, 80, 81, 82, 83, 84, 85, 86, 87, 88, 89, 90, 91, 92, 93, 94, 95, 96, 97, 98, 99, 100, 101, 102, 103, 104, 105, 106, 107, 108, 109, 110, 111, 112, 113, 114, 115, 116, 117, 118, 119, 120, 121, 122, 123, 124, 125] (fun k => [(53, .int .i64 (k : Nat))]) (fun _ => []) (fun k => k ≤ o.fl.length ∧ ∀ d ∈ o.fl.take k, depOk d = true) (fun k => o.fl.length - k) (0)
  (repeat (first | exact KeepF.nil | (apply KeepF.cons; exact rfl) | apply KeepF.skip))
  (repeat (first | exact FrSub.nil | (apply FrSub.cons; exact rfl)))
  (repeat (first | exact HpSub.refl _ | (apply HpSub.consE; (repeat (first | exact P0 | apply P1 | apply PA)); exact rfl) | apply HpSub.skipX | exact HpSub.nil))
  ·exact ⟨Nat.zero_le _, by simp⟩
  rintro k ⟨hk, hkp⟩
  try simp only [List.cons_append, List.nil_append]
  by_cases hlt : k < o.fl.length
  ·rcases x with _ | ⟨g1, c1⟩
   ·exact absurd (hxn rfl) (by omega)
   obtain ⟨e, hx⟩ : ∃ e, o.fl[k]? = some e := ⟨_, List.getElem?_eq_getElem hlt⟩
   obtain ⟨r0, r1, r2, r3⟩ := dep_at hx
   have HX := fun w1 => fine_calls e.seats e.price e.leaves e.state w1
   try simp only [clA_some, clC_some, flH, bkH, clH_some, List.cons_append, List.nil_append]
   cases hpx : depOk e with
   | false =>
    rw [show depOk ⟨e.seats, e.price, e.leaves, e.state⟩ = false from hpx] at HX
    repeat' (first | (focus ((with_reducible apply oq_indexAddrN); (iterate 4 exact rfl); omega)) | (apply oq_fn; exact rfl; try first | exact trivial | (and_intros <;> omega)) | ((with_reducible apply oq_loadAgg); exact rfl; exact rfl) | ((with_reducible apply oq_call (k := 94) (hc := Try.call94)); exact rfl; exact rfl; exact fun D w1 hw1 => HX w1) | (with_reducible apply tl_nil) | ((with_reducible apply u_q); (iterate 4 exact rfl)) | ((with_reducible apply u_s0); exact rfl; exact rfl) | ((with_reducible apply u_s); (iterate 3 exact rfl)) | ((with_reducible apply os_x); exact rfl) | ((with_reducible apply os_storeAgg); (iterate 5 exact rfl)) | ((with_reducible apply ox_alloc); exact rfl; intro _) | (apply Rd.own; (repeat (first | exact P0 | apply P1 | apply PA)); first | exact r0 | exact r1 | exact r2 | exact r3; done) | (apply Rd.own; (repeat (first | exact P0 | apply P1 | apply PA)); exact rfl; done) | (with_reducible apply t_seq) | (apply t_region; kernel_rfl) | ((with_reducible apply t_condT); exact rfl) | ((with_reducible apply t_condD); exact rfl; all_goals first | (intro hp; try (exfalso; omega)) | skip) | (with_reducible apply t_ret) | (with_reducible apply t_skip) | (with_reducible apply t_block) | with_reducible apply q_thenN | with_reducible apply q_thenR | with_reducible apply q_blockR | exact P0 | exact Rdn.zero | apply Rdn.succ | ((with_reducible apply Norm.nil); exact rfl) | ((with_reducible apply Norm.cons); exact rfl) | (with_reducible apply end_ret) | exact rvs_nil | (with_reducible apply rvs_cons) | ((with_reducible apply rv_tmp); exact rfl) | exact Nat.le_of_ble_eq_true rfl)
    all_goals exact ⟨_, .inl ⟨by unfold officeB; rw [all_no hx hpx]; simp, _, rfl, rfl⟩, HpSub.nil⟩
   | true =>
    rw [show depOk ⟨e.seats, e.price, e.leaves, e.state⟩ = true from hpx] at HX
    repeat' (first | (focus ((with_reducible apply oq_indexAddrN); (iterate 4 exact rfl); omega)) | (apply oq_fn; exact rfl; try first | exact trivial | (and_intros <;> omega)) | ((with_reducible apply oq_loadAgg); exact rfl; exact rfl) | ((with_reducible apply oq_call (k := 94) (hc := Try.call94)); exact rfl; exact rfl; exact fun D w1 hw1 => HX w1) | (with_reducible apply tl_nil) | ((with_reducible apply u_q); (iterate 4 exact rfl)) | ((with_reducible apply u_s0); exact rfl; exact rfl) | ((with_reducible apply u_s); (iterate 3 exact rfl)) | ((with_reducible apply os_x); exact rfl) | ((with_reducible apply os_storeAgg); (iterate 5 exact rfl)) | ((with_reducible apply ox_alloc); exact rfl; intro _) | (apply Rd.own; (repeat (first | exact P0 | apply P1 | apply PA)); first | exact r0 | exact r1 | exact r2 | exact r3; done) | (apply Rd.own; (repeat (first | exact P0 | apply P1 | apply PA)); exact rfl; done) | (with_reducible apply t_seq) | (apply t_region; kernel_rfl) | ((with_reducible apply t_condF); exact rfl) | ((with_reducible apply t_condD); exact rfl; all_goals first | (intro hp; try (exfalso; omega)) | skip) | (with_reducible apply t_skip) | (with_reducible apply t_block) | with_reducible apply q_thenN | with_reducible apply q_blockN | exact P0 | exact Rdn.zero | apply Rdn.succ | ((with_reducible apply Norm.nil); exact rfl) | ((with_reducible apply Norm.cons); exact rfl) | exact Nat.le_of_ble_eq_true rfl)
    all_goals (refine ⟨k + 1, ⟨by omega, fun y hy => ?_⟩, by omega, ?_, ?_⟩)
    ·rw [List.take_add_one, hx, List.mem_append] at hy
     rcases hy with hy | hy
     ·exact hkp y hy
     ·obtain rfl : y = e := by simpa using hy
      exact hpx
    ·try simp only [List.cons_append, List.nil_append]
     (repeat (first | exact FrSub.nil | (apply FrSub.cons; exact rfl)))
    ·try simp only [List.cons_append, List.nil_append]
     (repeat (first | exact HpSub.refl _ | (apply HpSub.consE; (repeat (first | exact P0 | apply P1 | apply PA)); exact rfl) | apply HpSub.skipX | exact HpSub.nil))
  ·have hda : o.fl.all depOk = true := all_yes (by omega) hkp
   have hd : DepsOk o.fl := fun d hdm => ⟨List.all_eq_true.1 hda d hdm, hu d hdm⟩
   clear hkp hw2 hw1f
   repeat' (first | (apply oq_fn; exact rfl; try first | exact trivial | (and_intros <;> omega)) | ((with_reducible apply oq_load); exact rfl; exact rfl) | (with_reducible apply tl_nil) | ((with_reducible apply u_q); (iterate 4 exact rfl)) | (apply Rd.own; (repeat (first | exact P0 | apply P1 | apply PA)); exact rfl; done) | (with_reducible apply t_seq) | (apply t_region; kernel_rfl) | ((with_reducible apply t_condD); exact rfl; all_goals first | (intro hp; try (exfalso; omega)) | skip) | (with_reducible apply t_exit) | (with_reducible apply t_block) | with_reducible apply q_thenN | with_reducible apply q_thenE | ((with_reducible apply q_blockE); exact rfl))
   apply t_loopK (ι := Nat) [1, 4, 9, 10, 11, 12, 62, 63, 73, 74, 75, 76, 77, 78, 79, 80, 81, 82, 83, 84, 85, 86, 87, 88, 89, 90, 91, 92, 93, 94, 95, 96, 97, 98, 99, 100, 101, 102, 103, 104, 105, 106, 107, 108, 109, 110, 111, 112, 113, 114, 115, 116, 117, 118, 119, 120, 121, 122, 123, 124, 125] (fun k => [(64, .int .i64 (k : Nat))]) (fun _ => []) (fun k => k ≤ o.bk.length ∧ ∀ x ∈ o.bk.take k, bookedB o.fl o.fee x = true) (fun k => o.bk.length - k) (0)
   (repeat (first | exact KeepF.nil | (apply KeepF.cons; exact rfl) | apply KeepF.skip))
   (repeat (first | exact FrSub.nil | (apply FrSub.cons; exact rfl)))
   (repeat (first | exact HpSub.refl _ | (apply HpSub.consE; (repeat (first | exact P0 | apply P1 | apply PA)); exact rfl) | apply HpSub.skipX | exact HpSub.nil))
   ·exact ⟨Nat.zero_le _, by simp⟩
   rintro k ⟨hk, hkp⟩
   try simp only [List.cons_append, List.nil_append]
   by_cases hlt : k < o.bk.length
   ·rcases y with _ | ⟨g2, c2⟩
    ·exact absurd (hyn rfl) (by omega)
    obtain ⟨e, hx⟩ : ∃ e, o.bk[k]? = some e := ⟨_, List.getElem?_eq_getElem hlt⟩
    obtain ⟨r0, r1, r2⟩ := bk_at hx
    have HX := fun w1 hD1 => sold_calls bd o (clA x) (clC x) (clA (some (g2, c2))) (clC (some (g2, c2))) w1 hD1 hd ⟨f1, f2⟩ (by omega) e.flight e.state e.kept
    try simp only [clA_some, clC_some, flH, bkH, clH_some, List.cons_append, List.nil_append]
    cases hpx : bookedB o.fl o.fee e with
    | false =>
     rw [show bookedB o.fl o.fee ⟨e.flight, e.state, e.kept⟩ = false from hpx] at HX
     repeat' (first | (focus ((with_reducible apply oq_indexAddrN); (iterate 4 exact rfl); omega)) | (apply oq_fn; exact rfl; try first | exact trivial | (and_intros <;> omega)) | ((with_reducible apply oq_loadAgg); exact rfl; exact rfl) | ((with_reducible apply oq_call (k := 95) (hc := Try.call95)); exact rfl; exact rfl; exact fun D w1 hw1 => HX w1 (desk_of hw1 (by (repeat (first | exact HpSub.refl _ | (apply HpSub.consE; (repeat (first | exact P0 | apply P1 | apply PA)); exact rfl) | apply HpSub.skipX | apply HpSub.skipX | exact HpSub.nil))) hxn hyn)) | (with_reducible apply tl_nil) | ((with_reducible apply u_q); (iterate 4 exact rfl)) | ((with_reducible apply u_s0); exact rfl; exact rfl) | ((with_reducible apply u_s); (iterate 3 exact rfl)) | ((with_reducible apply os_x); exact rfl) | ((with_reducible apply os_storeAgg); (iterate 5 exact rfl)) | ((with_reducible apply ox_alloc); exact rfl; intro _) | (apply Rd.own; (repeat (first | exact P0 | apply P1 | apply PA)); first | exact r0 | exact r1 | exact r2 | exact r3; done) | (apply Rd.own; (repeat (first | exact P0 | apply P1 | apply PA)); exact rfl; done) | (with_reducible apply t_seq) | (apply t_region; kernel_rfl) | ((with_reducible apply t_condT); exact rfl) | ((with_reducible apply t_condD); exact rfl; all_goals first | (intro hp; try (exfalso; omega)) | skip) | (with_reducible apply t_ret) | (with_reducible apply t_skip) | (with_reducible apply t_block) | with_reducible apply q_thenN | with_reducible apply q_thenR | with_reducible apply q_blockR | exact P0 | exact Rdn.zero | apply Rdn.succ | ((with_reducible apply Norm.nil); exact rfl) | ((with_reducible apply Norm.cons); exact rfl) | (with_reducible apply end_ret) | exact rvs_nil | (with_reducible apply rvs_cons) | ((with_reducible apply rv_tmp); exact rfl) | exact Nat.le_of_ble_eq_true rfl)
     all_goals exact ⟨_, .inl ⟨by unfold officeB; rw [all_no hx hpx]; simp, _, rfl, rfl⟩, HpSub.nil⟩
    | true =>
     rw [show bookedB o.fl o.fee ⟨e.flight, e.state, e.kept⟩ = true from hpx] at HX
     repeat' (first | (focus ((with_reducible apply oq_indexAddrN); (iterate 4 exact rfl); omega)) | (apply oq_fn; exact rfl; try first | exact trivial | (and_intros <;> omega)) | ((with_reducible apply oq_loadAgg); exact rfl; exact rfl) | ((with_reducible apply oq_call (k := 95) (hc := Try.call95)); exact rfl; exact rfl; exact fun D w1 hw1 => HX w1 (desk_of hw1 (by (repeat (first | exact HpSub.refl _ | (apply HpSub.consE; (repeat (first | exact P0 | apply P1 | apply PA)); exact rfl) | apply HpSub.skipX | apply HpSub.skipX | exact HpSub.nil))) hxn hyn)) | (with_reducible apply tl_nil) | ((with_reducible apply u_q); (iterate 4 exact rfl)) | ((with_reducible apply u_s0); exact rfl; exact rfl) | ((with_reducible apply u_s); (iterate 3 exact rfl)) | ((with_reducible apply os_x); exact rfl) | ((with_reducible apply os_storeAgg); (iterate 5 exact rfl)) | ((with_reducible apply ox_alloc); exact rfl; intro _) | (apply Rd.own; (repeat (first | exact P0 | apply P1 | apply PA)); first | exact r0 | exact r1 | exact r2 | exact r3; done) | (apply Rd.own; (repeat (first | exact P0 | apply P1 | apply PA)); exact rfl; done) | (with_reducible apply t_seq) | (apply t_region; kernel_rfl) | ((with_reducible apply t_condF); exact rfl) | ((with_reducible apply t_condD); exact rfl; all_goals first | (intro hp; try (exfalso; omega)) | skip) | (with_reducible apply t_skip) | (with_reducible apply t_block) | with_reducible apply q_thenN | with_reducible apply q_blockN | exact P0 | exact Rdn.zero | apply Rdn.succ | ((with_reducible apply Norm.nil); exact rfl) | ((with_reducible apply Norm.cons); exact rfl) | exact Nat.le_of_ble_eq_true rfl)
     all_goals (refine ⟨k + 1, ⟨by omega, fun y hy => ?_⟩, by omega, ?_, ?_⟩)
     ·rw [List.take_add_one, hx, List.mem_append] at hy
      rcases hy with hy | hy
      ·exact hkp y hy
      ·obtain rfl : y = e := by simpa using hy
       exact hpx
     ·try simp only [List.cons_append, List.nil_append]
      (repeat (first | exact FrSub.nil | (apply FrSub.cons; exact rfl)))
     ·try simp only [List.cons_append, List.nil_append]
      (repeat (first | exact HpSub.refl _ | (apply HpSub.consE; (repeat (first | exact P0 | apply P1 | apply PA)); exact rfl) | apply HpSub.skipX | exact HpSub.nil))
   ·have hba : o.bk.all (bookedB o.fl o.fee) = true := all_yes (by omega) hkp
    have hb : BksOk o.fl o.bk := fun x hxm => bookedB_ok hd ⟨f1, f2⟩ (List.all_eq_true.1 hba x hxm)
    have hb2 := fun x hxm => booked_st hd (List.all_eq_true.1 hba x hxm)
    clear hkp
    repeat' (first | (apply oq_fn; exact rfl; try first | exact trivial | (and_intros <;> omega)) | ((with_reducible apply oq_load); exact rfl; exact rfl) | (with_reducible apply tl_nil) | ((with_reducible apply u_q); (iterate 4 exact rfl)) | (apply Rd.own; (repeat (first | exact P0 | apply P1 | apply PA)); exact rfl; done) | (with_reducible apply t_seq) | (apply t_region; kernel_rfl) | ((with_reducible apply t_condD); exact rfl; all_goals first | (intro hp; try (exfalso; omega)) | skip) | (with_reducible apply t_exit) | (with_reducible apply t_block) | with_reducible apply q_thenN | with_reducible apply q_thenE | ((with_reducible apply q_blockE); exact rfl))
    apply t_loopK (ι := Nat) [1, 4, 12, 74, 75, 102, 103, 104, 105, 106, 107, 108, 109, 110, 111, 112, 113, 114, 115, 116, 117, 118, 119, 120, 121, 122, 123, 124, 125] (fun k => [(76, .int .i64 (k : Nat))]) (fun _ => []) (fun k => k ≤ o.fl.length ∧ ∀ j, j < k → seatB o.fl o.bk j = true) (fun k => o.fl.length - k) (0)
    (repeat (first | exact KeepF.nil | (apply KeepF.cons; exact rfl) | apply KeepF.skip))
    (repeat (first | exact FrSub.nil | (apply FrSub.cons; exact rfl)))
    (repeat (first | exact HpSub.refl _ | (apply HpSub.consE; (repeat (first | exact P0 | apply P1 | apply PA)); exact rfl) | apply HpSub.skipX | exact HpSub.nil))
    ·exact ⟨Nat.zero_le _, fun j hj => by omega⟩
    rintro k ⟨hk, hkp⟩
    try simp only [List.cons_append, List.nil_append]
    by_cases hlt : k < o.fl.length
    ·rcases x with _ | ⟨g1, c1⟩
     ·exact absurd (hxn rfl) (by omega)
     obtain ⟨e, hx⟩ : ∃ e, o.fl[k]? = some e := ⟨_, List.getElem?_eq_getElem hlt⟩
     obtain ⟨r0, r1, r2, r3⟩ := dep_at hx
     have HM1 := fun g cp w1 hD1 hS => count_calls bd o (clA (some (g1, c1))) (clC (some (g1, c1))) (clA y) (clC y) w1 hD1 hn2 (k : Int) (some ⟨g, 0, none⟩) 2 cp [1, 3] hS (by omega)
     have HM2 := fun g cp w1 hD1 hS => count_calls bd o (clA (some (g1, c1))) (clC (some (g1, c1))) (clA y) (clC y) w1 hD1 hn2 (k : Int) (some ⟨g, 0, none⟩) 1 cp [2] hS (by omega)
     have hm1 := many_in o.bk (k : Int) 1 o.bk.length
     have hm2 := many_in o.bk (k : Int) 2 o.bk.length
     have hm3 := many_in o.bk (k : Int) 3 o.bk.length
     rw [many_all (Nat.le_refl _)] at hm1 hm2 hm3
     rw [mt_many2 _ _ _ _ (by decide)] at HM1
     rw [mt_many] at HM2
     have hsv : seatB o.fl o.bk k = (decide (manyV o.bk k 1 + manyV o.bk k 3 ≤ e.seats) && (decide (manyV o.bk k 1 + manyV o.bk k 3 = e.seats) || decide (manyV o.bk k 2 ≤ 0))) := by unfold seatB; rw [hx]
     have hei := depOk_in (hd e (List.mem_of_getElem? hx)).1
     obtain ⟨m1, e1⟩ : ∃ q, manyV o.bk (k : Int) 1 = q := ⟨_, rfl⟩
     obtain ⟨m2, e2⟩ : ∃ q, manyV o.bk (k : Int) 2 = q := ⟨_, rfl⟩
     obtain ⟨m3, e3⟩ : ∃ q, manyV o.bk (k : Int) 3 = q := ⟨_, rfl⟩
     rw [e1, e3] at HM1
     rw [e2] at HM2
     rw [e1] at hm1
     rw [e2] at hm2
     rw [e3] at hm3
     rw [e1, e2, e3] at hsv
     try simp only [clA_some, clC_some, flH, bkH, clH_some, List.cons_append, List.nil_append]
     cases hpx : seatB o.fl o.bk k with
     | false =>
      have hv : e.seats < m1 + m3 ∨ (m1 + m3 < e.seats ∧ 0 < m2) := by
       refine Decidable.by_contra fun hc => ?_
       rw [hpx] at hsv
       have : (decide (m1 + m3 ≤ e.seats) && (decide (m1 + m3 = e.seats) || decide (m2 ≤ 0))) = true := by
        simp only [Bool.and_eq_true, Bool.or_eq_true, decide_eq_true_eq]; omega
       rw [this] at hsv; cases hsv
      repeat' (first | (focus ((with_reducible apply oq_indexAddrN); (iterate 4 exact rfl); omega)) | (apply oq_fn; exact rfl; try first | exact trivial | (and_intros <;> omega)) | ((with_reducible apply oq_load); exact rfl; exact rfl) | ((with_reducible apply oq_loadAgg); exact rfl; exact rfl) | ((with_reducible apply oq_call (k := 64) (hc := Try.call64)); exact rfl; exact rfl; exact fun D w1 hw1 => HM1 _ _ w1 (desk_of hw1 (by (repeat (first | exact HpSub.refl _ | (apply HpSub.consE; (repeat (first | exact P0 | apply P1 | apply PA)); exact rfl) | apply HpSub.skipX | apply HpSub.skipX | exact HpSub.nil))) hxn hyn) (two8 hw1 (by (repeat (first | exact P0 | apply P1 | apply PA))))) | ((with_reducible apply oq_call (k := 64) (hc := Try.call64)); exact rfl; exact rfl; exact fun D w1 hw1 => HM2 _ _ w1 (desk_of hw1 (by (repeat (first | exact HpSub.refl _ | (apply HpSub.consE; (repeat (first | exact P0 | apply P1 | apply PA)); exact rfl) | apply HpSub.skipX | apply HpSub.skipX | exact HpSub.nil))) hxn hyn) (one8 hw1 (by (repeat (first | exact P0 | apply P1 | apply PA))))) | (with_reducible apply tl_nil) | ((with_reducible apply u_q); (iterate 4 exact rfl)) | ((with_reducible apply u_s0); exact rfl; exact rfl) | ((with_reducible apply u_s); (iterate 3 exact rfl)) | ((with_reducible apply u_skip); (iterate 3 exact rfl)) | ((with_reducible apply u_splitD); exact rfl; exact rfl; all_goals first | (intro hp; try (exfalso; omega)) | skip) | (with_reducible apply v_nil) | ((with_reducible apply v_q); (iterate 3 exact rfl)) | ((with_reducible apply os_x); exact rfl) | ((with_reducible apply os_storeAgg); (iterate 5 exact rfl)) | ((with_reducible apply ox_alloc); exact rfl; intro _) | ((with_reducible apply ox_buildSlice1); (iterate 6 exact rfl); intro _) | ((with_reducible apply ai_q); (iterate 5 exact rfl)) | ((with_reducible apply ai_x); (iterate 5 exact rfl)) | (apply Rd.own; (repeat (first | exact P0 | apply P1 | apply PA)); first | exact r0 | exact r1 | exact r2 | exact r3; done) | (apply Rd.own; (repeat (first | exact P0 | apply P1 | apply PA)); exact rfl; done) | (apply t_mix (id := 20) [0, 1, 2, 3] 4 #[false, false, false, false, false, false, false, false]; kernel_rfl; kernel_rfl; exact rfl) | (with_reducible apply t_seq) | (apply t_region; kernel_rfl) | ((with_reducible apply t_condT); exact rfl) | ((with_reducible apply t_condD); exact rfl; all_goals first | (intro hp; try (exfalso; omega)) | skip) | (with_reducible apply t_ret) | (with_reducible apply t_skip) | (with_reducible apply t_block) | with_reducible apply q_thenN | with_reducible apply q_thenR | with_reducible apply q_blockR | exact P0 | exact Rdn.zero | apply Rdn.succ | ((with_reducible apply Norm.nil); exact rfl) | ((with_reducible apply Norm.cons); exact rfl) | (with_reducible apply end_ret) | exact rvs_nil | (with_reducible apply rvs_cons) | ((with_reducible apply rv_tmp); exact rfl) | (apply al_done; decide +kernel) | (apply al_one 4; decide +kernel) | (apply al_one 5; decide +kernel) | (apply al_one 6; decide +kernel) | (apply al_one 7; decide +kernel) | exact Nat.le_of_ble_eq_true rfl)
      all_goals exact ⟨_, .inl ⟨by unfold officeB; rw [all_no (l := List.range o.fl.length) (k := k) (x := k) (by simp [hlt]) hpx]; simp, _, rfl, rfl⟩, HpSub.nil⟩
     | true =>
      have hv : m1 + m3 ≤ e.seats ∧ (m1 + m3 = e.seats ∨ m2 ≤ 0) := by
       rw [hpx] at hsv
       have h2 := hsv.symm
       simp only [Bool.and_eq_true, Bool.or_eq_true, decide_eq_true_eq] at h2
       exact h2
      have hkp2 : ∀ y, y < k + 1 → seatB o.fl o.bk y = true := fun y hy => by
       rcases (by omega : y < k ∨ y = k) with h | rfl
       ·exact hkp y h
       ·exact hpx
      repeat' (first | (focus ((with_reducible apply oq_indexAddrN); (iterate 4 exact rfl); omega)) | (apply oq_fn; exact rfl; try first | exact trivial | (and_intros <;> omega)) | ((with_reducible apply oq_load); exact rfl; exact rfl) | ((with_reducible apply oq_loadAgg); exact rfl; exact rfl) | ((with_reducible apply oq_call (k := 64) (hc := Try.call64)); exact rfl; exact rfl; exact fun D w1 hw1 => HM1 _ _ w1 (desk_of hw1 (by (repeat (first | exact HpSub.refl _ | (apply HpSub.consE; (repeat (first | exact P0 | apply P1 | apply PA)); exact rfl) | apply HpSub.skipX | apply HpSub.skipX | exact HpSub.nil))) hxn hyn) (two8 hw1 (by (repeat (first | exact P0 | apply P1 | apply PA))))) | ((with_reducible apply oq_call (k := 64) (hc := Try.call64)); exact rfl; exact rfl; exact fun D w1 hw1 => HM2 _ _ w1 (desk_of hw1 (by (repeat (first | exact HpSub.refl _ | (apply HpSub.consE; (repeat (first | exact P0 | apply P1 | apply PA)); exact rfl) | apply HpSub.skipX | apply HpSub.skipX | exact HpSub.nil))) hxn hyn) (one8 hw1 (by (repeat (first | exact P0 | apply P1 | apply PA))))) | (with_reducible apply tl_nil) | ((with_reducible apply u_q); (iterate 4 exact rfl)) | ((with_reducible apply u_s0); exact rfl; exact rfl) | ((with_reducible apply u_s); (iterate 3 exact rfl)) | ((with_reducible apply u_skip); (iterate 3 exact rfl)) | ((with_reducible apply u_splitD); exact rfl; exact rfl; all_goals first | (intro hp; try (exfalso; omega)) | skip) | (with_reducible apply v_nil) | ((with_reducible apply v_q); (iterate 3 exact rfl)) | ((with_reducible apply os_x); exact rfl) | ((with_reducible apply os_storeAgg); (iterate 5 exact rfl)) | ((with_reducible apply ox_alloc); exact rfl; intro _) | ((with_reducible apply ox_buildSlice1); (iterate 6 exact rfl); intro _) | ((with_reducible apply ai_q); (iterate 5 exact rfl)) | ((with_reducible apply ai_x); (iterate 5 exact rfl)) | (apply Rd.own; (repeat (first | exact P0 | apply P1 | apply PA)); first | exact r0 | exact r1 | exact r2 | exact r3; done) | (apply Rd.own; (repeat (first | exact P0 | apply P1 | apply PA)); exact rfl; done) | (apply t_mix (id := 20) [0, 1, 2, 3] 4 #[false, false, false, false, false, false, false, false]; kernel_rfl; kernel_rfl; exact rfl) | (with_reducible apply t_seq) | (apply t_region; kernel_rfl) | ((with_reducible apply t_condF); exact rfl) | ((with_reducible apply t_condD); exact rfl; all_goals first | (intro hp; try (exfalso; omega)) | skip) | (with_reducible apply t_skip) | (with_reducible apply t_block) | with_reducible apply q_thenN | with_reducible apply q_blockN | exact P0 | exact Rdn.zero | apply Rdn.succ | ((with_reducible apply Norm.nil); exact rfl) | ((with_reducible apply Norm.cons); exact rfl) | (apply al_done; decide +kernel) | (apply al_one 4; decide +kernel) | (apply al_one 5; decide +kernel) | (apply al_one 6; decide +kernel) | (apply al_one 7; decide +kernel) | exact Nat.le_of_ble_eq_true rfl)
      all_goals (refine ⟨k + 1, ⟨by omega, hkp2⟩, by omega, ?_, ?_⟩)
      all_goals ((try simp only [List.cons_append, List.nil_append]); (repeat' (first | exact FrSub.nil | (apply FrSub.cons; exact rfl) | exact HpSub.refl _ | (apply HpSub.consE; (repeat (first | exact P0 | apply P1 | apply PA)); exact rfl) | apply HpSub.skipX)))
    ·have hsa : (List.range o.fl.length).all (seatB o.fl o.bk) = true := by
      rw [List.all_eq_true]
      exact fun j hj => hkp j (by have := List.mem_range.1 hj; omega)
     have HS := fun w1 hD1 => purse_calls bd o (clA x) (clC x) (clA y) (clC y) w1 hD1 hd hb hb2 (by omega)
     have hin := sums_in hd hb (Nat.le_refl o.bk.length)
     rw [sums_all (Nat.le_refl _)] at hin
     have hof : officeB o = moneyB o := by unfold officeB; rw [hh, hda, hba, hsa]; rfl
     unfold OpenV
     rw [hof]
     unfold moneyB
     obtain ⟨⟨s1, s2, s3, s4⟩, hSS⟩ : ∃ q, sumsV o.fl o.bk = q := ⟨_, rfl⟩
     rw [hSS] at HS ⊢ hin
     unfold Small at hin
     simp only at HS hin ⊢
     by_cases q1 : o.inn = s1 + s2 + s3 + s4
     ·by_cases q2 : o.out = s4
      ·repeat' (first | (apply oq_fn; exact rfl; try first | exact trivial | (and_intros <;> omega)) | ((with_reducible apply oq_load); exact rfl; exact rfl) | ((with_reducible apply oq_call (k := 68) (hc := Try.call68)); exact rfl; exact rfl; exact fun D w1 hw1 => HS w1 (desk_of hw1 (by (repeat (first | exact HpSub.refl _ | (apply HpSub.consE; (repeat (first | exact P0 | apply P1 | apply PA)); exact rfl) | apply HpSub.skipX | apply HpSub.skipX | exact HpSub.nil))) hxn hyn)) | (with_reducible apply tl_nil) | ((with_reducible apply u_q); (iterate 4 exact rfl)) | ((with_reducible apply u_s0); exact rfl; exact rfl) | ((with_reducible apply u_s); (iterate 3 exact rfl)) | (with_reducible apply v_nil) | ((with_reducible apply v_q); (iterate 3 exact rfl)) | ((with_reducible apply v_splitD); exact rfl; exact rfl; all_goals first | (intro hp; try (exfalso; omega)) | skip) | ((with_reducible apply os_x); exact rfl) | ((with_reducible apply os_storeAgg); (iterate 5 exact rfl)) | ((with_reducible apply ox_alloc); exact rfl; intro _) | (apply Rd.own; (repeat (first | exact P0 | apply P1 | apply PA)); exact rfl; done) | (with_reducible apply t_seq) | (apply t_region; kernel_rfl) | (apply t_drawn; kernel_rfl; decide +kernel; try simp only [List.append_eq, List.cons_append, List.nil_append]) | ((with_reducible apply t_condD); exact rfl; all_goals first | (intro hp; try (exfalso; omega)) | skip) | (with_reducible apply t_ret) | (with_reducible apply t_exit) | with_reducible apply q_thenN | with_reducible apply q_thenE | ((with_reducible apply q_blockE); exact rfl) | exact P0 | ((with_reducible apply Norm.nil); exact rfl) | ((with_reducible apply Norm.cons); exact rfl) | (with_reducible apply end_ret) | exact rvs_nil | (with_reducible apply rvs_cons) | ((with_reducible apply rv_tmp); exact rfl) | exact Nat.le_of_ble_eq_true rfl)
       all_goals exact ⟨_, .inr ⟨by simp [q1, q2], bd, x, y, hxn, hyn, (by first | rfl | (rw [decide_eq_true q2]; rfl)), rfl⟩, by (repeat (first | exact HpSub.refl _ | (apply HpSub.consE; (repeat (first | exact P0 | apply P1 | apply PA)); exact rfl) | apply HpSub.skipX | exact HpSub.nil))⟩
      ·repeat' (first | (apply oq_fn; exact rfl; try first | exact trivial | (and_intros <;> omega)) | ((with_reducible apply oq_load); exact rfl; exact rfl) | ((with_reducible apply oq_call (k := 68) (hc := Try.call68)); exact rfl; exact rfl; exact fun D w1 hw1 => HS w1 (desk_of hw1 (by (repeat (first | exact HpSub.refl _ | (apply HpSub.consE; (repeat (first | exact P0 | apply P1 | apply PA)); exact rfl) | apply HpSub.skipX | apply HpSub.skipX | exact HpSub.nil))) hxn hyn)) | (with_reducible apply tl_nil) | ((with_reducible apply u_q); (iterate 4 exact rfl)) | ((with_reducible apply u_s0); exact rfl; exact rfl) | ((with_reducible apply u_s); (iterate 3 exact rfl)) | (with_reducible apply v_nil) | ((with_reducible apply v_q); (iterate 3 exact rfl)) | ((with_reducible apply v_splitD); exact rfl; exact rfl; all_goals first | (intro hp; try (exfalso; omega)) | skip) | ((with_reducible apply os_x); exact rfl) | ((with_reducible apply os_storeAgg); (iterate 5 exact rfl)) | ((with_reducible apply ox_alloc); exact rfl; intro _) | (apply Rd.own; (repeat (first | exact P0 | apply P1 | apply PA)); exact rfl; done) | (with_reducible apply t_seq) | (apply t_region; kernel_rfl) | (apply t_drawn; kernel_rfl; decide +kernel; try simp only [List.append_eq, List.cons_append, List.nil_append]) | ((with_reducible apply t_condD); exact rfl; all_goals first | (intro hp; try (exfalso; omega)) | skip) | (with_reducible apply t_ret) | (with_reducible apply t_exit) | with_reducible apply q_thenN | with_reducible apply q_thenE | ((with_reducible apply q_blockE); exact rfl) | exact P0 | ((with_reducible apply Norm.nil); exact rfl) | ((with_reducible apply Norm.cons); exact rfl) | (with_reducible apply end_ret) | exact rvs_nil | (with_reducible apply rvs_cons) | ((with_reducible apply rv_tmp); exact rfl) | exact Nat.le_of_ble_eq_true rfl)
       all_goals exact ⟨_, .inl ⟨by simp [q2], some ⟨bd, 0, none⟩, (by first | rfl | (rw [decide_eq_false q2]; rfl)), rfl⟩, HpSub.nil⟩
     ·repeat' (first | (apply oq_fn; exact rfl; try first | exact trivial | (and_intros <;> omega)) | ((with_reducible apply oq_load); exact rfl; exact rfl) | ((with_reducible apply oq_call (k := 68) (hc := Try.call68)); exact rfl; exact rfl; exact fun D w1 hw1 => HS w1 (desk_of hw1 (by (repeat (first | exact HpSub.refl _ | (apply HpSub.consE; (repeat (first | exact P0 | apply P1 | apply PA)); exact rfl) | apply HpSub.skipX | apply HpSub.skipX | exact HpSub.nil))) hxn hyn)) | (with_reducible apply tl_nil) | ((with_reducible apply u_q); (iterate 4 exact rfl)) | ((with_reducible apply u_s0); exact rfl; exact rfl) | ((with_reducible apply u_s); (iterate 3 exact rfl)) | (with_reducible apply v_nil) | ((with_reducible apply v_q); (iterate 3 exact rfl)) | ((with_reducible apply v_skip); (iterate 3 exact rfl)) | ((with_reducible apply v_splitD); exact rfl; exact rfl; all_goals first | (intro hp; try (exfalso; omega)) | skip) | ((with_reducible apply os_x); exact rfl) | ((with_reducible apply os_storeAgg); (iterate 5 exact rfl)) | ((with_reducible apply ox_alloc); exact rfl; intro _) | (apply Rd.own; (repeat (first | exact P0 | apply P1 | apply PA)); exact rfl; done) | (with_reducible apply t_seq) | (apply t_region; kernel_rfl) | (apply t_drawn; kernel_rfl; decide +kernel; try simp only [List.append_eq, List.cons_append, List.nil_append]) | ((with_reducible apply t_condD); exact rfl; all_goals first | (intro hp; try (exfalso; omega)) | skip) | (with_reducible apply t_ret) | (with_reducible apply t_exit) | with_reducible apply q_thenN | with_reducible apply q_thenE | ((with_reducible apply q_blockE); exact rfl) | exact P0 | ((with_reducible apply Norm.nil); exact rfl) | ((with_reducible apply Norm.cons); exact rfl) | (with_reducible apply end_ret) | exact rvs_nil | (with_reducible apply rvs_cons) | ((with_reducible apply rv_tmp); exact rfl) | exact Nat.le_of_ble_eq_true rfl)
      all_goals exact ⟨_, .inl ⟨by simp [q1], _, rfl, rfl⟩, HpSub.nil⟩
 ·have hof : officeB o = false := by
   unfold officeB
   rw [show headB o = false by simpa using hh]
   rfl
  have hno : ¬ (0 ≤ o.now ∧ o.now ≤ 1000000 ∧ 0 ≤ o.notice ∧ o.notice ≤ 1000000 ∧ 0 ≤ o.fee ∧ o.fee ≤ 100 ∧ o.fl.length ≤ 10 ∧ o.bk.length ≤ 120) := fun h => hh (by unfold headB; simpa using h)
  by_cases h1 : (0 ≤ o.now ∧ o.now ≤ 1000000) ∧ (0 ≤ o.notice ∧ o.notice ≤ 1000000)
  ·have hw2 := two_t h1.1 h1.2
   by_cases h3 : 0 ≤ o.fee ∧ o.fee ≤ 100
   ·have hw1f := allFrom_t (lo := 0) (hi := 100) (z := o.fee) h3
    repeat' (first | (apply oq_fn; exact rfl; try first | exact trivial | (and_intros <;> omega)) | ((with_reducible apply oq_load); exact rfl; exact rfl) | ((with_reducible apply oq_loadAgg); exact rfl; exact rfl) | ((with_reducible apply oq_call (k := 63) (hc := Try.call63)); exact rfl; exact rfl; exact fun D w1 hw1 => fromTwo hw2 hw1 (by (repeat (first | exact P0 | apply P1 | apply PA)))) | ((with_reducible apply oq_call (k := 63) (hc := Try.call63)); exact rfl; exact rfl; exact fun D w1 hw1 => fromOne hw1f hw1 (by (repeat (first | exact P0 | apply P1 | apply PA)))) | ((with_reducible apply oq_build); (iterate 3 exact rfl)) | (with_reducible apply tl_nil) | ((with_reducible apply u_q); (iterate 4 exact rfl)) | ((with_reducible apply u_s); (iterate 3 exact rfl)) | ((with_reducible apply u_skip); (iterate 3 exact rfl)) | ((with_reducible apply u_splitD); exact rfl; exact rfl; all_goals first | (intro hp; try (exfalso; omega)) | skip) | ((with_reducible apply os_x); exact rfl) | ((with_reducible apply ox_boxAgg); exact rfl; intro _) | ((with_reducible apply ox_buildSlice1); (iterate 6 exact rfl); intro _) | (apply Rd.own; (repeat (first | exact P0 | apply P1 | apply PA)); exact rfl; done) | (with_reducible apply t_seq) | (apply t_region; kernel_rfl) | ((with_reducible apply t_condT); exact rfl) | ((with_reducible apply t_condD); exact rfl; all_goals first | (intro hp; try (exfalso; omega)) | skip) | (with_reducible apply t_ret) | with_reducible apply q_thenN | with_reducible apply q_thenR | exact Rdn.zero | apply Rdn.succ | ((with_reducible apply Norm.nil); exact rfl) | ((with_reducible apply Norm.cons); exact rfl) | (with_reducible apply end_ret) | exact rvs_nil | (with_reducible apply rvs_cons) | ((with_reducible apply rv_tmp); exact rfl))
    all_goals exact ⟨_, .inl ⟨hof, _, rfl, rfl⟩, HpSub.nil⟩
   ·have hw1f := allFrom_f (lo := 0) (hi := 100) (z := o.fee) h3
    repeat' (first | (apply oq_fn; exact rfl; try first | exact trivial | (and_intros <;> omega)) | ((with_reducible apply oq_load); exact rfl; exact rfl) | ((with_reducible apply oq_loadAgg); exact rfl; exact rfl) | ((with_reducible apply oq_call (k := 63) (hc := Try.call63)); exact rfl; exact rfl; exact fun D w1 hw1 => fromTwo hw2 hw1 (by (repeat (first | exact P0 | apply P1 | apply PA)))) | ((with_reducible apply oq_call (k := 63) (hc := Try.call63)); exact rfl; exact rfl; exact fun D w1 hw1 => fromOne hw1f hw1 (by (repeat (first | exact P0 | apply P1 | apply PA)))) | ((with_reducible apply oq_build); (iterate 3 exact rfl)) | (with_reducible apply tl_nil) | ((with_reducible apply u_q); (iterate 4 exact rfl)) | ((with_reducible apply u_s); (iterate 3 exact rfl)) | ((with_reducible apply u_skip); (iterate 3 exact rfl)) | ((with_reducible apply os_x); exact rfl) | ((with_reducible apply ox_boxAgg); exact rfl; intro _) | ((with_reducible apply ox_buildSlice1); (iterate 6 exact rfl); intro _) | (apply Rd.own; (repeat (first | exact P0 | apply P1 | apply PA)); exact rfl; done) | (with_reducible apply t_seq) | (apply t_region; kernel_rfl) | ((with_reducible apply t_condT); exact rfl) | (with_reducible apply t_ret) | with_reducible apply q_thenN | with_reducible apply q_thenR | exact Rdn.zero | apply Rdn.succ | ((with_reducible apply Norm.nil); exact rfl) | ((with_reducible apply Norm.cons); exact rfl) | (with_reducible apply end_ret) | exact rvs_nil | (with_reducible apply rvs_cons) | ((with_reducible apply rv_tmp); exact rfl))
    all_goals exact ⟨_, .inl ⟨hof, _, rfl, rfl⟩, HpSub.nil⟩
  ·have hw2 := two_f h1
   repeat' (first | (apply oq_fn; exact rfl; try first | exact trivial | (and_intros <;> omega)) | ((with_reducible apply oq_load); exact rfl; exact rfl) | ((with_reducible apply oq_loadAgg); exact rfl; exact rfl) | ((with_reducible apply oq_call (k := 63) (hc := Try.call63)); exact rfl; exact rfl; exact fun D w1 hw1 => fromTwo hw2 hw1 (by (repeat (first | exact P0 | apply P1 | apply PA)))) | ((with_reducible apply oq_build); (iterate 3 exact rfl)) | (with_reducible apply tl_nil) | ((with_reducible apply u_q); (iterate 4 exact rfl)) | ((with_reducible apply u_s); (iterate 3 exact rfl)) | ((with_reducible apply u_skip); (iterate 3 exact rfl)) | ((with_reducible apply os_x); exact rfl) | ((with_reducible apply ox_boxAgg); exact rfl; intro _) | ((with_reducible apply ox_buildSlice1); (iterate 6 exact rfl); intro _) | (apply Rd.own; (repeat (first | exact P0 | apply P1 | apply PA)); exact rfl; done) | (with_reducible apply t_seq) | (apply t_region; kernel_rfl) | ((with_reducible apply t_condT); exact rfl) | (with_reducible apply t_ret) | with_reducible apply q_thenN | with_reducible apply q_thenR | exact Rdn.zero | apply Rdn.succ | ((with_reducible apply Norm.nil); exact rfl) | ((with_reducible apply Norm.cons); exact rfl) | (with_reducible apply end_ret) | exact rvs_nil | (with_reducible apply rvs_cons) | ((with_reducible apply rv_tmp); exact rfl))
   all_goals exact ⟨_, .inl ⟨hof, _, rfl, rfl⟩, HpSub.nil⟩
end Go.Proofs.Ytmlmgipngbndgaa
namespace Go.Proofs.Ytmlmgipngbndgaa
open Go.RowKit
theorem Has.ownG {w0 : World} {M : Ms} {H G : Hp} {w : World} (h : Has w0 M H w) (p : HpSub H G) : Has w ⟨G.map Prod.fst, []⟩ G w := by
 have h' := h.sub p
 exact ⟨ExtM.refl _ _, fun x hx => ⟨.inr (List.mem_map.2 ⟨x, hx, rfl⟩), (h'.blk x hx).2⟩, h'.nodup, List.nodup_nil, fun k hk => (List.not_mem_nil hk).elim⟩
theorem Has.called {w0 : World} {M : Ms} {G R H1 : Hp} {w w' : World} (h : Has w0 M (G ++ R) w) (k : Has w ⟨G.map Prod.fst, []⟩ H1 w') : Has w0 M (H1 ++ R) w' := by
 have hn := h.nodup
 rw [List.map_append, List.nodup_append] at hn
 have hG : ∀ b, b ∈ G.map Prod.fst → (w0.heap.size ≤ b ∨ b ∈ M.wr) ∧ ∃ c t, w.heap[b]? = some (.cells c t (0, 0)) := fun b hb => by
  obtain ⟨x, hx, rfl⟩ := List.mem_map.1 hb
  have hh := h.blk x (List.mem_append_left _ hx)
  obtain ⟨c, t, h1, _⟩ := hh.2
  exact ⟨hh.1, c, t, h1⟩
 refine ⟨⟨k.ext.os.trans h.ext.os, k.ext.tape.trans h.ext.tape, k.ext.output.trans h.ext.output, Nat.le_trans h.ext.size k.ext.size, fun b hb hm => ?_⟩, fun x hx => ?_, ?_, h.marks.1, fun d hd => ⟨(h.marks.2 d hd).1, ?_⟩⟩
 ·rw [k.ext.block b (Nat.lt_of_lt_of_le hb h.ext.size) (fun hg => by
   rcases (hG b hg).1 with h1 | h1
   ·omega
   ·exact hm h1)]
  exact h.ext.block b hb hm
 ·rcases List.mem_append.1 hx with hx | hx
  ·have hh := k.blk x hx
   refine ⟨?_, hh.2⟩
   rcases hh.1 with h1 | h1
   ·exact .inl (Nat.le_trans h.ext.size h1)
   ·exact (hG _ h1).1
  ·have hh := h.blk x (List.mem_append_right _ hx)
   refine ⟨hh.1, hh.2.same (k.ext.block _ hh.2.lt fun hg => ?_)⟩
   exact hn.2.2 _ hg _ (List.mem_map.2 ⟨x, hx, rfl⟩) rfl
 ·rw [List.map_append, List.nodup_append]
  refine ⟨k.nodup, hn.2.1, fun a ha b hb e => ?_⟩
  obtain ⟨x, hx, rfl⟩ := List.mem_map.1 ha
  obtain ⟨y, hy, rfl⟩ := List.mem_map.1 hb
  have hlt := (h.blk y (List.mem_append_right _ hy)).2.lt
  rcases (k.blk x hx).1 with h1 | h1
  ·omega
  ·exact hn.2.2 _ h1 _ (List.mem_map.2 ⟨y, hy, rfl⟩) e
 ·have hd' := (h.marks.2 d hd).2
  rw [k.ext.block d (mark_lt hd') (fun hg => by
   obtain ⟨_, c, t, h1⟩ := hG d hg
   rw [hd'] at h1; cases h1)]
  exact hd'
section
variable {c : Cx} {F : Fr} {H G R : Hp} {K : Value → Hp → Prop} {d : Option Tmp} {ty : TypeId} {pos : String} {af : Array Edge} {g : Option (Nat × Bool)} {PV : Value → Hp → Prop}
/-- A call of a function that writes the blocks G, and may hand out others. -/
theorem os_callM {f : Operand} {args : Array Operand} {T : Array TypeId} {k : Nat} {fst cap vs : List Value} (hf : ev F f = some (.func (.func k) ⟨fst⟩ ⟨cap⟩)) (hc : ∀ (a : Array Value) (w : World), (callFunc k a).run c.P w = .ok (.enter k a) w)
  (ha : evs F args.toList = some vs) (hp : HpSub H (G ++ R)) (h : ∀ D w, Has c.w0 ⟨c.M, D⟩ H w → Has w ⟨G.map Prod.fst, []⟩ G w → Calls c.P k ⟨fst ++ vs ++ cap⟩ w fun e w' => ∃ v H1, e = .returned v ∧ PV v H1 ∧ Has w ⟨G.map Prod.fst, []⟩ H1 w')
  (hk : ∀ v H1, PV v H1 → K v (H1 ++ R)) : OS c ⟨d, .call ⟨.value f, args, T⟩, ty, pos, af, g⟩ F H K :=
 os_call hf hc ha fun D w hw => (h D w hw ((hw.sub hp).left.ownG (HpSub.refl _))).mono fun e w' ⟨v, H1, h1, h2, h3⟩ => ⟨v, _, h1, hk v H1 h2, (hw.sub hp).called h3⟩
end
theorem givesUpon_wpQ {P : Program} {o : Oper} {a : Act} {w : World} {R : Value → World → Prop} {K : Act → World → Prop} {Q : Exit → Act → World → Prop} (h : givesUpon P R ((execOp a.eval o).run P w)) (k : ∀ v w', R v w' → K (a.put o.dst v) w') : o.wp P a w K Q := by
 unfold Oper.wp
 generalize (execOp a.eval o).run P w = r at *
 cases r with
 | ok n w' =>
  cases n <;> simp only [givesUpon] at h <;> simp only [Oper.upon] <;> first
   | exact k _ _ h
   | exact h.mono fun e w2 ⟨u, he, hu⟩ => by subst he; exact k _ _ hu
   | exact h.mono fun u w2 hu => k _ _ hu
 | halt x w' => cases x <;> exact h.elim
/-- The operations of a region that may stop in a panic. -/
def TE (c : Cx) (ops : Array Oper) (rest : List Oper) (Q : QS) (F : Fr) (H : Hp) : Prop :=
 ∀ i, ops.toList.drop i = rest → ∀ D a w, Frm D c.N F a → Has c.w0 ⟨c.M, D⟩ H w → wpOps c.P ops (cv c Q) (List.range' i (ops.size - i)) a w
section
variable {c : Cx} {Q : QS} {F : Fr} {H : Hp} {ops : Array Oper} {o : Oper} {rest : List Oper} {d : Nat} {v : Value}
theorem t_regionE {id : Nat} {l : List Oper} (h : TE c ⟨l⟩ l Q F H) : T c (WS.own c.P) (.region id ⟨l⟩ false) Q F H := fun D a w ha hw => by
 refine wp_region ?_
 have := h 0 rfl D a w ha hw
 rw [List.range_eq_range']
 exact this
theorem e_nil (h : Q .normal F H) : TE c ops [] Q F H := fun i hi D a w ha hw => by
 have : ops.size - i = 0 := by
  have := congrArg List.length hi
  simp at this
  omega
 rw [this]
 exact ⟨D, F, H, h, ha, hw⟩
theorem e_q (hr : runs ops F o = some true) (_hw : isW o.op = false) (hd : o.dst = some d) (hN : Nat.blt d c.N = true) (h : OQ c o F H v) (k : TE c ops rest Q ((d, v) :: F) H) : TE c ops (o :: rest) Q F H := fun i hi D a w ha hw => by
 obtain ⟨h1, h2, h3⟩ := drop_cons hi
 rw [h3]
 simp only [wpOps, h1, runs_spec ha hr, if_true]
 refine .inl (givesUpon_wpQ (h D a w ha hw) fun u w' ⟨hu, hx⟩ => ?_)
 subst hu
 rw [hd]
 exact k _ h2 _ _ _ (ha.put hN _) (hw.grow hx)
theorem e_s (hr : runs ops F o = some true) (hd : o.dst = some d) (hN : Nat.blt d c.N = true) (h : OS c o F H (fun v H' => TE c ops rest Q ((d, v) :: F) H')) : TE c ops (o :: rest) Q F H := fun i hi D a w ha hw => by
 obtain ⟨h1, h2, h3⟩ := drop_cons hi
 rw [h3]
 simp only [wpOps, h1, runs_spec ha hr, if_true]
 refine .inl (givesUpon_wpQ (h D a w ha hw) fun u w' ⟨H', hu, hx⟩ => ?_)
 rw [hd]
 exact hu _ h2 _ _ _ (ha.put hN _) hx
theorem e_s0 (hr : runs ops F o = some true) (hd : o.dst = none) (h : OS c o F H (fun _ H' => TE c ops rest Q F H')) : TE c ops (o :: rest) Q F H := fun i hi D a w ha hw => by
 obtain ⟨h1, h2, h3⟩ := drop_cons hi
 rw [h3]
 simp only [wpOps, h1, runs_spec ha hr, if_true]
 refine .inl (givesUpon_wpQ (h D a w ha hw) fun u w' ⟨H', hu, hx⟩ => ?_)
 rw [hd]
 exact hu _ h2 _ _ _ (ha.putNone _) hx
/-- What an operation that stops in a panic comes to. -/
def panics (P : Program) (R : List PanicEntry → World → Prop) : Result Next → Prop
 | .ok (.enter f args) w' => Calls P f args w' fun e w'' => ∃ ch, e = .panicked ch ∧ R ch w''
 | .halt (.panic v) w' => R [{ v, recovered := false }] w'
 | _ => False
theorem panics_wp {P : Program} {o : Oper} {a : Act} {w : World} {R : List PanicEntry → World → Prop} {K : Act → World → Prop} {Q : Exit → Act → World → Prop} (h : panics P R ((execOp a.eval o).run P w)) (k : ∀ ch w', R ch w' → Q (.panic ch) a w') : o.wp P a w K Q := by
 unfold Oper.wp
 generalize (execOp a.eval o).run P w = r at *
 cases r with
 | ok n w' =>
  cases n <;> simp only [panics] at h <;> simp only [Oper.upon]
  exact h.mono fun e w2 ⟨u, he, hu⟩ => by subst he; exact k _ _ hu
 | halt x w' =>
  cases x <;> simp only [panics] at h <;> simp only [Oper.upon]
  exact k _ _ h
theorem panics_wpIn {P : Program} {o : Oper} {a : Act} {w : World} {n : Nat} {R : List PanicEntry → World → Prop} {K : Act → World → Prop} {Q : Exit → Act → World → Prop} (h : panics P R ((execOp a.eval o).run P w)) (k : ∀ ch w', R ch w' → Q (.panic ch) a w') : o.wpIn Fence.wide n P a w K Q := by
 unfold Oper.wpIn
 refine ⟨fun _ _ => trivial, ?_⟩
 have hr : Fence.wide.round = none := rfl
 rw [hr, Oper.semAt_none]
 generalize (execOp a.eval o).run P w = r at *
 cases r with
 | ok nx w' =>
  cases nx <;> simp only [panics] at h <;> simp only [Oper.uponIn]
  exact ⟨fun h0 => by simp [Fence.wide] at h0, callsIn_wide.2 (h.mono fun e w2 ⟨u, he, hu⟩ => by subst he; exact k _ _ hu)⟩
 | halt x w' =>
  cases x <;> simp only [panics] at h <;> simp only [Oper.uponIn]
  exact k _ _ h
/-- The operation stops in a panic. -/
def OP (c : Cx) (o : Oper) (F : Fr) (H : Hp) (K : List PanicEntry → Hp → Prop) : Prop :=
 ∀ D a w, Frm D c.N F a → Has c.w0 ⟨c.M, D⟩ H w → panics c.P (fun ch w' => ∃ H', K ch H' ∧ Has c.w0 ⟨c.M, D⟩ H' w') ((execOp a.eval o).run c.P w)
theorem e_p (hr : runs ops F o = some true) (h : OP c o F H (fun ch H' => Q (.panic ch) F H')) : TE c ops (o :: rest) Q F H := fun i hi D a w ha hw => by
 obtain ⟨h1, h2, h3⟩ := drop_cons hi
 rw [h3]
 simp only [wpOps, h1, runs_spec ha hr, if_true]
 exact .inl (panics_wp (h D a w ha hw) fun ch w' ⟨H', hk, hw'⟩ => ⟨D, F, H', hk, ha, hw'⟩)
theorem te_id {l : List Oper} (h : TE c ops l Q F H) : TE c ops l Q F H := h
theorem op_panic {d : Option Tmp} {ty : TypeId} {pos : String} {af : Array Edge} {g : Option (Nat × Bool)} {x : Operand} {t : TypeId} {K : List PanicEntry → Hp → Prop} (hx : ev F x = some (.iface t v)) (k : K [{ v := .iface t v, recovered := false }] H) : OP c ⟨d, .panic x, ty, pos, af, g⟩ F H K := fun D a w ha hw => by
 have e : (execOp a.eval ⟨d, .panic x, ty, pos, af, g⟩).run c.P w = .halt (.panic (.iface t v)) w := by
  simp only [execOp, ha.ev hx]
  simp [Instr.panic, goPanic, go_sem]
 rw [e]
 exact ⟨H, k, hw⟩
theorem op_call {d : Option Tmp} {ty : TypeId} {pos : String} {af : Array Edge} {g : Option (Nat × Bool)} {f : Operand} {args : Array Operand} {T : Array TypeId} {k : Nat} {fst cap vs : List Value} {K : List PanicEntry → Hp → Prop} (hf : ev F f = some (.func (.func k) ⟨fst⟩ ⟨cap⟩)) (hc : ∀ (a : Array Value) (w : World), (callFunc k a).run c.P w = .ok (.enter k a) w)
  (ha : evs F args.toList = some vs) {ch : List PanicEntry} (h : ∀ D w, Has c.w0 ⟨c.M, D⟩ H w → Calls c.P k ⟨fst ++ vs ++ cap⟩ w fun e w' => e = .panicked ch ∧ Ext w w') (kk : K ch H) : OP c ⟨d, .call ⟨.value f, args, T⟩, ty, pos, af, g⟩ F H K := fun D a w hfr hw => by
 have h1 := hfr.evs ha
 have h2 : args.map a.eval = vs.toArray := by rw [← h1]; cases args; simp
 have e : (execOp a.eval ⟨d, .call ⟨.value f, args, T⟩, ty, pos, af, g⟩).run c.P w = .ok (.enter k ⟨fst ++ vs ++ cap⟩) w := by
  simp [execOp, resolve, invoke, hfr.ev hf, Deferred.ofValue, Sem.run_bind, Sem.run_pure, h2, Result.andThen, hc]
 rw [e]
 exact (h D w hw).mono fun e w' ⟨h3, h4⟩ => ⟨ch, h3, H, kk, hw.grow h4⟩
/-- What is left of a region that draws its order; what 'cov' marks is walked by hand. -/
def AE (c : Cx) (ops : Array Oper) (cov : Array Bool) (H0 : Hp) (Q : QS) (n : Nat) (listed : Array Bool) (F : Fr) (H : Hp) : Prop :=
 ∀ D a w, Frm D c.N F a → Has c.w0 ⟨c.M, D⟩ H w → SInI c.P ops cov (Has c.w0 ⟨c.M, D⟩ H0) 0 (cv c Q) n listed a w
theorem t_mixE {id : Nat} {l ql : List Oper} (q : List Nat) (k : Nat) (cov : Array Bool) (hm : c.P.follows .mixedOrders = true) (hB : (Region.noSelect ⟨l⟩ && (k + q.length == (Array.mk l).size) && lexOk ⟨l⟩ cov q (Array.replicate (Array.mk l).size false)) = true)
  (hq : pickOps l q = some ql) (h : GX c ⟨l⟩ ql (fun F' => AE c ⟨l⟩ cov H Q k (listedBy q (Array.replicate (Array.mk l).size false)) F' H) F H) : T c (WS.own c.P) (.region id ⟨l⟩ true) Q F H := fun D a w ha hw =>
 wpIn_wide.1 (g_mixIn (n := 0) q k cov hm hB hq ha hw h fun F' a' w' h1 h2 h3 => h1 D a' w' h2 h3)
theorem ae_more {l ql : List Oper} {n : Nat} {listed : Array Bool} {cov : Array Bool} {H0 : Hp} (q : List Nat) (m : Nat) (hB : (Region.noSelect ⟨l⟩ && downB l listed && lexOk ⟨l⟩ cov q listed) = true) (hn : n = m + q.length)
  (hq : pickOps l q = some ql) (hs : HpSub H H0) (h : GX c ⟨l⟩ ql (fun F' => AE c ⟨l⟩ cov H0 Q m (listedBy q listed) F' H0) F H0) : AE c ⟨l⟩ cov H0 Q n listed F H := fun D a w ha hw => by
 subst hn
 simp only [Bool.and_eq_true] at hB
 exact SInI_lex (Has.up (M := ⟨c.M, D⟩)) hB.1.1 m q listed a hB.2 (downB_spec hB.1.2) (wpGI_mono (fun a' ⟨F', h1, h2⟩ w' hw' => h1 D a' w' h2 hw') q a (h q (pickOps_spec hq) D a ha)) w (hw.sub hs)
theorem SInI_free {P : Program} {Q : Exit → Act → World → Prop} {I : World → Prop} {cov : Array Bool} {m k i : Nat} {listed : Array Bool} {a : Act} {w : World} (hr : Region.ready .any ops listed = [i]) (hc : cov.getD i false = false)
  (h : wpOp P ops QF i (fun a' w' => (I w → I w') ∧ ∀ w'', Ext w' w'' → SInI P ops cov I m Q k (listed.setIfInBounds i true) a' w'') a w) : SInI P ops cov I m Q (k + 1) listed a w :=
 ⟨fun h0 => (by rw [hr] at h0; cases h0), fun j hj => by
  rw [hr] at hj
  obtain rfl : j = i := by simpa using hj
  exact ⟨fun hc' => (by rw [hc] at hc'; cases hc'), fun _ => h⟩⟩
theorem ae_q {l : List Oper} {n i : Nat} {listed cov : Array Bool} {H0 : Hp} (hr : Region.ready .any ⟨l⟩ listed = [i]) (hc : cov.getD i false = false) (ho : nthO l i = some o) (hw : runs ⟨l⟩ F o = some true) (hd : o.dst = some d) (hN : Nat.blt d c.N = true) (h : OQ c o F H v)
  (k : AE c ⟨l⟩ cov H0 Q n (listed.setIfInBounds i true) ((d, v) :: F) H) : AE c ⟨l⟩ cov H0 Q (n + 1) listed F H := fun D a w ha hh =>
 SInI_free hr hc (wpOp_go ho (runs_spec ha hw) (givesUpon_wp (h D a w ha hh) fun u w' ⟨hu, hx⟩ => by
  subst hu
  rw [hd]
  exact ⟨fun hI => hI.grow hx, fun w'' hx' => k D _ _ (ha.put hN _) ((hh.grow hx).grow hx')⟩))
theorem ae_x {l : List Oper} {n i : Nat} {listed cov : Array Bool} {H0 : Hp} (hr : Region.ready .any ⟨l⟩ listed = [i]) (hc : cov.getD i false = false) (ho : nthO l i = some o) (hw : runs ⟨l⟩ F o = some true) (hd : o.dst = some d) (hN : Nat.blt d c.N = true)
  (h : OX c o F H (fun v H' => AE c ⟨l⟩ cov H0 Q n (listed.setIfInBounds i true) ((d, v) :: F) H')) : AE c ⟨l⟩ cov H0 Q (n + 1) listed F H := fun D a w ha hh =>
 SInI_free hr hc (wpOp_go ho (runs_spec ha hw) (givesUpon_wp (h D a w ha hh) fun u w' ⟨⟨H', hu, hx⟩, he⟩ => by
  rw [hd]
  exact ⟨fun hI => hI.grow he, fun w'' hx' => hu D _ _ (ha.put hN _) (hx.grow hx')⟩))
theorem ae_p {l : List Oper} {n i : Nat} {listed cov : Array Bool} {H0 : Hp} (hr : Region.ready .any ⟨l⟩ listed = [i]) (hc : cov.getD i false = true) (ho : l[i]? = some o) (hw : runs ⟨l⟩ F o = some true) (h : OP c o F H (fun ch H' => Q (.panic ch) F H')) : AE c ⟨l⟩ cov H0 Q (n + 1) listed F H := fun D a w ha hh =>
 SInI_one hr hc (wpOpIn_on (o := o) (by simpa using ho) (runs_spec ha hw) (panics_wpIn (h D a w ha hh) fun ch w' ⟨H', hk, hw'⟩ => ⟨D, F, H', hk, ha, hw'⟩))
theorem ae_id {n : Nat} {listed cov : Array Bool} {H0 : Hp} (h : AE c ops cov H0 Q n listed F H) : AE c ops cov H0 Q n listed F H := h
end
/-- Where a function ends in a panic. -/
def panQ (PP : List PanicEntry → Hp → Prop) : QS := fun e _ H => ∃ ch, e = .panic ch ∧ PP ch H
section
variable {c : Cx} {F : Fr} {H : Hp}
theorem leaves_marksP {fn : Func} {R : Ending → World → Prop} {tmps : Array Value} {ch : List PanicEntry} (n : Nat) : ∀ (D : List Nat) (w : World), Has c.w0 ⟨c.M, D⟩ H w → (∀ w', Has c.w0 ⟨c.M, []⟩ H w' → R (.panicked ch) w') →
  LeavesInM Fence.wide n c.P fn tmps R (D.map dmark) (.panicking ch) w
 | [], w, h, hr => hr w h
 | k :: D, w, h, hr => by
  have ht := Has.take (c := c) h
  exact ⟨(fun e => by cases e), .inl ⟨k, _, rfl, ht.1, leaves_marksP n D _ ht.2 hr⟩⟩
theorem enterP {k : FuncId} {fn : Func} {code : Code} {args : List Value} {PP : List PanicEntry → Hp → Prop} (hf : c.P.funcs[k]? = some fn) (hb : fn.body = some code) (hN : c.N = args.length + (fn.ntmps - args.length))
  (hF : ∀ d v, look F d = some v → args[d]? = some v) (hw : Has c.w0 ⟨c.M, []⟩ H c.w0)
  (h : T c (WS.own c.P) code (panQ PP) F H) : Calls c.P k ⟨args⟩ c.w0 fun e w' => ∃ ch H', e = .panicked ch ∧ PP ch H' ∧ Has c.w0 ⟨c.M, []⟩ H' w' := by
 refine (callsIn_wide (n := 0)).1 (callsIn_of_wp_marks hf hb trivial ?_)
 have ha : Frm [] c.N F { tmps := (⟨args⟩ : Array Value) ++ Array.replicate (fn.ntmps - (⟨args⟩ : Array Value).size) undef, defers := [] } := by
  refine ⟨by simp [hN], rfl, fun d v hv => ?_⟩
  have := hF d v hv
  have hlt : d < args.length := (List.getElem?_eq_some_iff.1 this).1
  rw [Array.getElem?_append_left (by simpa using hlt)]
  simpa using this
 have h0 := h [] _ _ ha hw
 refine wpIn_wide.2 (wp_mono h0 fun e a w' ⟨D, F', H', ⟨ch, he, h2⟩, h3, h4⟩ => ?_)
 subst he
 show LeavesInM Fence.wide 0 c.P fn a.tmps _ a.defers (.panicking ch) w'
 rw [h3.defers]
 exact leaves_marksP 0 D w' h4 fun w'' h5 => ⟨ch, H', rfl, h2, h5⟩
/-- A function that stops in a panic, and else only adds to the world. -/
theorem enterPQ {k : FuncId} {fn : Func} {code : Code} {args : List Value} {ch : List PanicEntry} (hf : c.P.funcs[k]? = some fn) (hb : fn.body = some code) (hN : c.N = args.length + (fn.ntmps - args.length)) (hM : c.M = [])
  (h : T c (WS.own c.P) code (panQ fun x _ => x = ch) (frOf 0 args) []) : Calls c.P k ⟨args⟩ c.w0 fun e w' => e = .panicked ch ∧ Ext c.w0 w' :=
 (enterP hf hb hN (fun d v hv => (look_frOf args 0 d v hv).2) (by rw [hM]; exact Has.start _) h).mono fun e w' ⟨v, H', h1, h2, h3⟩ => ⟨by rw [h1, h2], by have := h3.ext; rw [hM] at this; exact this.ext⟩
end
end Go.Proofs.Ytmlmgipngbndgaa
namespace Go.Proofs.Ytmlmgipngbndgaa
open Go.RowKit
attribute [local irreducible] TE AE OP OQ OS OX Rd T TL GX GL AL AI RV wpG SAny Calls
/-- The panic of a deal that is refused. -/
def refu (e : Int) : List PanicEntry := [{ v := .iface 169 (.agg #[.int .i64 e]), recovered := false }]
theorem oq_mkIface {c : Cx} {F : Fr} {H : Hp} {d : Option Tmp} {ty t : TypeId} {pos : String} {af : Array Edge} {g : Option (Nat × Bool)} {x : Operand} {v : Value} (hx : ev F x = some v) (hi : ∀ w, (Instr.makeInterface t v).run c.P w = .ok (.iface t v) w) : OQ c ⟨d, .makeInterface t x, ty, pos, af, g⟩ F H (.iface t v) := .of fun D a w ha _ => by
 simp [execOp, ha.ev hx, Sem.run_bind, hi, Result.andThen, Sem.run_pure]
theorem mkIface169 (v : Value) (w : World) : (Instr.makeInterface 169 v).run Try.prog w = .ok (.iface 169 v) w := by
 rfl
theorem must_ok (e : Int) (w : World) : Calls Try.prog 106 #[.bool true, .int .i64 e] w fun r w' => r = .returned (.tuple #[]) ∧ Ext w w' := by
 refine enterQ (c := cx w 9) Try.func106 rfl rfl rfl rfl ?_
 repeat' (first | (apply oq_fn; exact rfl; try first | exact trivial | (and_intros <;> omega)) | (with_reducible apply tl_nil) | ((with_reducible apply u_q); (iterate 4 exact rfl)) | (with_reducible apply t_seq) | (apply t_region; kernel_rfl) | ((with_reducible apply t_condF); exact rfl) | (with_reducible apply t_skip) | with_reducible apply q_thenN | (with_reducible apply end_normal) | exact rvs_nil)
 all_goals rfl
theorem must_no (e : Int) (w : World) : Calls Try.prog 106 #[.bool false, .int .i64 e] w fun r w' => r = .panicked (refu e) ∧ Ext w w' := by
 refine enterPQ (c := cx w 9) Try.func106 rfl rfl rfl ?_
 repeat' (first | (apply oq_fn; exact rfl; try first | exact trivial | (and_intros <;> omega)) | ((with_reducible apply oq_mkIface); exact rfl; exact mkIface169 _) | ((with_reducible apply oq_build); (iterate 3 exact rfl)) | (apply t_regionE) | (with_reducible apply t_seq) | ((with_reducible apply t_condT); exact rfl) | with_reducible apply q_thenN | ((with_reducible apply Norm.nil); exact rfl) | ((with_reducible apply Norm.cons); exact rfl) | ((with_reducible apply e_p); exact rfl; ((with_reducible apply op_panic); exact rfl)) | ((with_reducible apply e_q); (iterate 4 exact rfl)) | (with_reducible apply e_nil))
 all_goals exact ⟨_, rfl, rfl⟩
end Go.Proofs.Ytmlmgipngbndgaa
namespace Go.Proofs.Ytmlmgipngbndgaa
section
variable {c : Cx} {F : Fr} {H : Hp} {d : Option Tmp} {ty t t' : TypeId} {pos : String} {af : Array Edge} {g : Option (Nat × Bool)} {x y : Operand} {k : IntKind} {m n : Int}
theorem oq_leqT (hx : ev F x = some (.int k m)) (hy : ev F y = some (.int k n)) (h : m ≤ n) : OQ c ⟨d, .binOp .leq t x y t', ty, pos, af, g⟩ F H (.bool true) := (oq_leq hx hy).as (by simp [h])
theorem oq_leqF (hx : ev F x = some (.int k m)) (hy : ev F y = some (.int k n)) (h : ¬ m ≤ n) : OQ c ⟨d, .binOp .leq t x y t', ty, pos, af, g⟩ F H (.bool false) := (oq_leq hx hy).as (by simp [h])
theorem oq_lssT (hx : ev F x = some (.int k m)) (hy : ev F y = some (.int k n)) (h : m < n) : OQ c ⟨d, .binOp .lss t x y t', ty, pos, af, g⟩ F H (.bool true) := (oq_lss hx hy).as (by simp [h])
theorem oq_lssF (hx : ev F x = some (.int k m)) (hy : ev F y = some (.int k n)) (h : ¬ m < n) : OQ c ⟨d, .binOp .lss t x y t', ty, pos, af, g⟩ F H (.bool false) := (oq_lss hx hy).as (by simp [h])
theorem oq_gtrT (hx : ev F x = some (.int k m)) (hy : ev F y = some (.int k n)) (h : n < m) : OQ c ⟨d, .binOp .gtr t x y t', ty, pos, af, g⟩ F H (.bool true) := (oq_gtr hx hy).as (by simp [h])
theorem oq_gtrF (hx : ev F x = some (.int k m)) (hy : ev F y = some (.int k n)) (h : ¬ n < m) : OQ c ⟨d, .binOp .gtr t x y t', ty, pos, af, g⟩ F H (.bool false) := (oq_gtr hx hy).as (by simp [h])
theorem oq_geqT (hx : ev F x = some (.int k m)) (hy : ev F y = some (.int k n)) (h : n ≤ m) : OQ c ⟨d, .binOp .geq t x y t', ty, pos, af, g⟩ F H (.bool true) := (oq_geq hx hy).as (by simp [h])
theorem oq_geqF (hx : ev F x = some (.int k m)) (hy : ev F y = some (.int k n)) (h : ¬ n ≤ m) : OQ c ⟨d, .binOp .geq t x y t', ty, pos, af, g⟩ F H (.bool false) := (oq_geq hx hy).as (by simp [h])
theorem oq_eqlT (hx : ev F x = some (.int k m)) (hy : ev F y = some (.int k n)) (h : m = n) : OQ c ⟨d, .binOp .eql t x y t', ty, pos, af, g⟩ F H (.bool true) := (oq_eql hx hy).as (by simp [h])
theorem oq_eqlF (hx : ev F x = some (.int k m)) (hy : ev F y = some (.int k n)) (h : ¬ m = n) : OQ c ⟨d, .binOp .eql t x y t', ty, pos, af, g⟩ F H (.bool false) := (oq_eql hx hy).as (by simp [h])
theorem oq_neqT (hx : ev F x = some (.int k m)) (hy : ev F y = some (.int k n)) (h : ¬ m = n) : OQ c ⟨d, .binOp .neq t x y t', ty, pos, af, g⟩ F H (.bool true) := (oq_neq hx hy).as (by simp [h])
theorem oq_neqF (hx : ev F x = some (.int k m)) (hy : ev F y = some (.int k n)) (h : m = n) : OQ c ⟨d, .binOp .neq t x y t', ty, pos, af, g⟩ F H (.bool false) := (oq_neq hx hy).as (by simp [h])
end
def TR (c : Cx) (n : Nat) (x : Code) (Q : QS) (F : Fr) (H : Hp) : Prop := ∀ D a w, Frm D c.N F a → Has c.w0 ⟨c.M, D⟩ H w → Code.rounds c.P x (cv c Q) n a w
section
variable {c : Cx} {Q : QS} {F : Fr} {H : Hp} {x : Code} {n : Nat}
theorem t_rounds (n : Nat) (h : TR c n x Q F H) : T c (WS.own c.P) (.loop x) Q F H := fun D a w ha hw => wp_loop_rounds n (h D a w ha hw)
theorem tr_succ (h : T c (WS.own c.P) x (thenQ (fun F' H' => TR c n x Q F' H') Q) F H) : TR c (n + 1) x Q F H := fun D a w ha hw => by
 rw [rounds_succ]
 refine wp_mono (h D a w ha hw) fun e a w ⟨D, F, H, h1, h2, h3⟩ => ?_
 cases e <;> first
  | exact ⟨D, F, H, h1, h2, h3⟩
  | exact h1 D a w h2 h3
theorem tr_id (h : TR c n x Q F H) : TR c n x Q F H := h
end
end Go.Proofs.Ytmlmgipngbndgaa
namespace Go.Proofs.Ytmlmgipngbndgaa
open Go.RowKit
attribute [local irreducible] TR OQ OS OX Rd T TL GX GL AL AI RV wpG SAny Calls
theorem isNaN_calls (z : Int) (w : World) : Calls Try.prog 137 #[.int .i64 z] w fun e w' => e = .returned (.bool false) ∧ Ext w w' := by
 refine enterQ (c := cx w 6) Try.func137 rfl rfl rfl rfl ?_
 repeat' (first | ((with_reducible apply oq_neqF); exact rfl; exact rfl; omega) | (apply oq_fn; exact rfl; try first | exact trivial | (and_intros <;> omega)) | (with_reducible apply tl_nil) | ((with_reducible apply u_q); (iterate 4 exact rfl)) | (with_reducible apply t_seq) | (apply t_region; kernel_rfl) | (with_reducible apply t_ret) | with_reducible apply q_thenN | (with_reducible apply end_ret) | exact rvs_nil | (with_reducible apply rvs_cons) | ((with_reducible apply rv_tmp); exact rfl))
 all_goals rfl
def ordV (a b : Int) : Int := if a < b then -1 else if b < a then 1 else 0
theorem cmp_calls (a b : Int) (w : World) : Calls Try.prog 132 #[.int .i64 a, .int .i64 b] w fun e w' => e = .returned (.int .i64 (ordV a b)) ∧ Ext w w' := by
 unfold ordV
 by_cases h1 : a < b
 ·rw [if_pos h1]
  refine enterQ (c := cx w 20) Try.func132 rfl rfl rfl rfl ?_
  repeat' (first | ((with_reducible apply oq_lssT); exact rfl; exact rfl; omega) | (apply oq_fn; exact rfl; try first | exact trivial | (and_intros <;> omega)) | ((with_reducible apply oq_call (k := 137) (hc := Try.call137)); exact rfl; exact rfl; exact fun D w1 hw1 => isNaN_calls _ w1) | (with_reducible apply tl_nil) | ((with_reducible apply u_q); (iterate 4 exact rfl)) | (with_reducible apply t_seq) | (apply t_region; kernel_rfl) | ((with_reducible apply t_condT); exact rfl) | ((with_reducible apply t_condF); exact rfl) | (with_reducible apply t_ret) | (with_reducible apply t_skip) | with_reducible apply q_thenN | with_reducible apply q_thenR | (with_reducible apply end_ret) | exact rvs_nil | (with_reducible apply rvs_cons) | ((with_reducible apply rv_tmp); exact rfl))
  all_goals rfl
 ·rw [if_neg h1]
  by_cases h2 : b < a
  ·rw [if_pos h2]
   refine enterQ (c := cx w 20) Try.func132 rfl rfl rfl rfl ?_
   repeat' (first | ((with_reducible apply oq_lssF); exact rfl; exact rfl; omega) | ((with_reducible apply oq_gtrT); exact rfl; exact rfl; omega) | (apply oq_fn; exact rfl; try first | exact trivial | (and_intros <;> omega)) | ((with_reducible apply oq_call (k := 137) (hc := Try.call137)); exact rfl; exact rfl; exact fun D w1 hw1 => isNaN_calls _ w1) | (with_reducible apply tl_nil) | ((with_reducible apply u_q); (iterate 4 exact rfl)) | (with_reducible apply t_seq) | (apply t_region; kernel_rfl) | ((with_reducible apply t_condT); exact rfl) | ((with_reducible apply t_condF); exact rfl) | (with_reducible apply t_ret) | (with_reducible apply t_skip) | with_reducible apply q_thenN | with_reducible apply q_thenR | (with_reducible apply end_ret) | exact rvs_nil | (with_reducible apply rvs_cons) | ((with_reducible apply rv_tmp); exact rfl))
   all_goals rfl
  ·rw [if_neg h2]
   refine enterQ (c := cx w 20) Try.func132 rfl rfl rfl rfl ?_
   repeat' (first | ((with_reducible apply oq_lssF); exact rfl; exact rfl; omega) | ((with_reducible apply oq_gtrF); exact rfl; exact rfl; omega) | (apply oq_fn; exact rfl; try first | exact trivial | (and_intros <;> omega)) | ((with_reducible apply oq_call (k := 137) (hc := Try.call137)); exact rfl; exact rfl; exact fun D w1 hw1 => isNaN_calls _ w1) | (with_reducible apply tl_nil) | ((with_reducible apply u_q); (iterate 4 exact rfl)) | (with_reducible apply t_seq) | (apply t_region; kernel_rfl) | ((with_reducible apply t_condF); exact rfl) | (with_reducible apply t_ret) | (with_reducible apply t_skip) | with_reducible apply q_thenN | (with_reducible apply end_ret) | exact rvs_nil | (with_reducible apply rvs_cons) | ((with_reducible apply rv_tmp); exact rfl))
   all_goals rfl
theorem or_calls (a b : Int) (A : Nat) (cp : Nat) (w : World) (c0 : w.cell? ⟨A, 0, none⟩ = some (.int .i64 a)) (c1 : w.cell? ⟨A, 1, none⟩ = some (.int .i64 b)) : Calls Try.prog 131 #[.slice (some ⟨A, 0, none⟩) 2 cp] w fun e w' => e = .returned (.int .i64 (if a = 0 then b else a)) ∧ Ext w w' := by
 by_cases ha : a = 0
 ·rw [if_pos ha]
  by_cases hb : b = 0
  ·subst hb
   refine enterQ (c := cx w 18) Try.func131 rfl rfl rfl rfl ?_
   repeat' (first | ((with_reducible apply oq_lssT); exact rfl; exact rfl; omega) | ((with_reducible apply oq_lssF); exact rfl; exact rfl; omega) | ((with_reducible apply oq_neqF); exact rfl; exact rfl; omega) | (apply oq_fn; exact rfl; try first | exact trivial | (and_intros <;> omega)) | ((with_reducible apply oq_load); exact rfl; exact rfl) | (with_reducible apply tl_nil) | ((with_reducible apply u_q); (iterate 4 exact rfl)) | (apply Rd.old; (first | (with_reducible assumption) | exact c0 | exact c1 | exact c2 | exact c3 | exact c4 | exact c5 | exact c6 | exact c7 | exact c8 | exact d0 | exact d1 | exact d2 | exact d3 | exact d4 | exact d5); first | exact List.not_mem_nil | exact m0 | exact m1 | exact m2 | exact m3 | exact m4 | exact m5 | exact m6 | exact m7 | exact m8 | exact m9) | (with_reducible apply t_seq) | (apply t_region; kernel_rfl) | ((with_reducible apply t_condT); exact rfl) | ((with_reducible apply t_condF); exact rfl) | (with_reducible apply t_ret) | (with_reducible apply t_skip) | (with_reducible apply t_exit) | (with_reducible apply t_block) | (apply t_rounds 8) | with_reducible apply q_thenN | with_reducible apply q_blockN | with_reducible apply q_thenE | ((with_reducible apply q_blockE); exact rfl) | (with_reducible apply end_ret) | exact rvs_nil | (with_reducible apply rvs_cons) | ((with_reducible apply rv_tmp); exact rfl) | ((with_reducible apply tr_id); apply tr_succ))
   all_goals rfl
  ·refine enterQ (c := cx w 18) Try.func131 rfl rfl rfl rfl ?_
   repeat' (first | ((with_reducible apply oq_lssT); exact rfl; exact rfl; omega) | ((with_reducible apply oq_neqT); exact rfl; exact rfl; omega) | ((with_reducible apply oq_neqF); exact rfl; exact rfl; omega) | (apply oq_fn; exact rfl; try first | exact trivial | (and_intros <;> omega)) | ((with_reducible apply oq_load); exact rfl; exact rfl) | (with_reducible apply tl_nil) | ((with_reducible apply u_q); (iterate 4 exact rfl)) | (apply Rd.old; (first | (with_reducible assumption) | exact c0 | exact c1 | exact c2 | exact c3 | exact c4 | exact c5 | exact c6 | exact c7 | exact c8 | exact d0 | exact d1 | exact d2 | exact d3 | exact d4 | exact d5); first | exact List.not_mem_nil | exact m0 | exact m1 | exact m2 | exact m3 | exact m4 | exact m5 | exact m6 | exact m7 | exact m8 | exact m9) | (with_reducible apply t_seq) | (apply t_region; kernel_rfl) | ((with_reducible apply t_condT); exact rfl) | ((with_reducible apply t_condF); exact rfl) | (with_reducible apply t_ret) | (with_reducible apply t_skip) | (with_reducible apply t_block) | (apply t_rounds 8) | with_reducible apply q_thenN | with_reducible apply q_thenR | with_reducible apply q_blockR | with_reducible apply q_blockN | (with_reducible apply end_ret) | exact rvs_nil | (with_reducible apply rvs_cons) | ((with_reducible apply rv_tmp); exact rfl) | ((with_reducible apply tr_id); apply tr_succ))
   all_goals rfl
 ·rw [if_neg ha]
  refine enterQ (c := cx w 18) Try.func131 rfl rfl rfl rfl ?_
  repeat' (first | ((with_reducible apply oq_lssT); exact rfl; exact rfl; omega) | ((with_reducible apply oq_neqT); exact rfl; exact rfl; omega) | (apply oq_fn; exact rfl; try first | exact trivial | (and_intros <;> omega)) | ((with_reducible apply oq_load); exact rfl; exact rfl) | (with_reducible apply tl_nil) | ((with_reducible apply u_q); (iterate 4 exact rfl)) | (apply Rd.old; (first | (with_reducible assumption) | exact c0 | exact c1 | exact c2 | exact c3 | exact c4 | exact c5 | exact c6 | exact c7 | exact c8 | exact d0 | exact d1 | exact d2 | exact d3 | exact d4 | exact d5); first | exact List.not_mem_nil | exact m0 | exact m1 | exact m2 | exact m3 | exact m4 | exact m5 | exact m6 | exact m7 | exact m8 | exact m9) | (with_reducible apply t_seq) | (apply t_region; kernel_rfl) | ((with_reducible apply t_condT); exact rfl) | (with_reducible apply t_ret) | (with_reducible apply t_skip) | (with_reducible apply t_block) | (apply t_rounds 8) | with_reducible apply q_thenN | with_reducible apply q_thenR | with_reducible apply q_blockR | (with_reducible apply end_ret) | exact rvs_nil | (with_reducible apply rvs_cons) | ((with_reducible apply rv_tmp); exact rfl) | ((with_reducible apply tr_id); apply tr_succ))
  all_goals rfl
theorem orE_calls (a b : Int) (A : Nat) (cp : Nat) (w : World) (c0 : w.cell? ⟨A, 0, none⟩ = some (.int .i64 a)) (c1 : w.cell? ⟨A, 1, none⟩ = some (.int .i64 b)) : Calls Try.prog 81 #[.slice (some ⟨A, 0, none⟩) 2 cp] w fun e w' => e = .returned (.int .i64 (if a = 0 then b else a)) ∧ Ext w w' := by
 by_cases ha : a = 0
 ·rw [if_pos ha]
  by_cases hb : b = 0
  ·subst hb
   refine enterQ (c := cx w 18) Try.func81 rfl rfl rfl rfl ?_
   repeat' (first | ((with_reducible apply oq_lssT); exact rfl; exact rfl; omega) | ((with_reducible apply oq_lssF); exact rfl; exact rfl; omega) | ((with_reducible apply oq_neqF); exact rfl; exact rfl; omega) | (apply oq_fn; exact rfl; try first | exact trivial | (and_intros <;> omega)) | ((with_reducible apply oq_load); exact rfl; exact rfl) | (with_reducible apply tl_nil) | ((with_reducible apply u_q); (iterate 4 exact rfl)) | (apply Rd.old; (first | (with_reducible assumption) | exact c0 | exact c1 | exact c2 | exact c3 | exact c4 | exact c5 | exact c6 | exact c7 | exact c8 | exact d0 | exact d1 | exact d2 | exact d3 | exact d4 | exact d5); first | exact List.not_mem_nil | exact m0 | exact m1 | exact m2 | exact m3 | exact m4 | exact m5 | exact m6 | exact m7 | exact m8 | exact m9) | (with_reducible apply t_seq) | (apply t_region; kernel_rfl) | ((with_reducible apply t_condT); exact rfl) | ((with_reducible apply t_condF); exact rfl) | (with_reducible apply t_ret) | (with_reducible apply t_skip) | (with_reducible apply t_exit) | (with_reducible apply t_block) | (apply t_rounds 8) | with_reducible apply q_thenN | with_reducible apply q_blockN | with_reducible apply q_thenE | ((with_reducible apply q_blockE); exact rfl) | (with_reducible apply end_ret) | exact rvs_nil | (with_reducible apply rvs_cons) | ((with_reducible apply rv_tmp); exact rfl) | ((with_reducible apply tr_id); apply tr_succ))
   all_goals rfl
  ·refine enterQ (c := cx w 18) Try.func81 rfl rfl rfl rfl ?_
   repeat' (first | ((with_reducible apply oq_lssT); exact rfl; exact rfl; omega) | ((with_reducible apply oq_neqT); exact rfl; exact rfl; omega) | ((with_reducible apply oq_neqF); exact rfl; exact rfl; omega) | (apply oq_fn; exact rfl; try first | exact trivial | (and_intros <;> omega)) | ((with_reducible apply oq_load); exact rfl; exact rfl) | (with_reducible apply tl_nil) | ((with_reducible apply u_q); (iterate 4 exact rfl)) | (apply Rd.old; (first | (with_reducible assumption) | exact c0 | exact c1 | exact c2 | exact c3 | exact c4 | exact c5 | exact c6 | exact c7 | exact c8 | exact d0 | exact d1 | exact d2 | exact d3 | exact d4 | exact d5); first | exact List.not_mem_nil | exact m0 | exact m1 | exact m2 | exact m3 | exact m4 | exact m5 | exact m6 | exact m7 | exact m8 | exact m9) | (with_reducible apply t_seq) | (apply t_region; kernel_rfl) | ((with_reducible apply t_condT); exact rfl) | ((with_reducible apply t_condF); exact rfl) | (with_reducible apply t_ret) | (with_reducible apply t_skip) | (with_reducible apply t_block) | (apply t_rounds 8) | with_reducible apply q_thenN | with_reducible apply q_thenR | with_reducible apply q_blockR | with_reducible apply q_blockN | (with_reducible apply end_ret) | exact rvs_nil | (with_reducible apply rvs_cons) | ((with_reducible apply rv_tmp); exact rfl) | ((with_reducible apply tr_id); apply tr_succ))
   all_goals rfl
 ·rw [if_neg ha]
  refine enterQ (c := cx w 18) Try.func81 rfl rfl rfl rfl ?_
  repeat' (first | ((with_reducible apply oq_lssT); exact rfl; exact rfl; omega) | ((with_reducible apply oq_neqT); exact rfl; exact rfl; omega) | (apply oq_fn; exact rfl; try first | exact trivial | (and_intros <;> omega)) | ((with_reducible apply oq_load); exact rfl; exact rfl) | (with_reducible apply tl_nil) | ((with_reducible apply u_q); (iterate 4 exact rfl)) | (apply Rd.old; (first | (with_reducible assumption) | exact c0 | exact c1 | exact c2 | exact c3 | exact c4 | exact c5 | exact c6 | exact c7 | exact c8 | exact d0 | exact d1 | exact d2 | exact d3 | exact d4 | exact d5); first | exact List.not_mem_nil | exact m0 | exact m1 | exact m2 | exact m3 | exact m4 | exact m5 | exact m6 | exact m7 | exact m8 | exact m9) | (with_reducible apply t_seq) | (apply t_region; kernel_rfl) | ((with_reducible apply t_condT); exact rfl) | (with_reducible apply t_ret) | (with_reducible apply t_skip) | (with_reducible apply t_block) | (apply t_rounds 8) | with_reducible apply q_thenN | with_reducible apply q_thenR | with_reducible apply q_blockR | (with_reducible apply end_ret) | exact rvs_nil | (with_reducible apply rvs_cons) | ((with_reducible apply rv_tmp); exact rfl) | ((with_reducible apply tr_id); apply tr_succ))
  all_goals rfl
def byP (a b a' b' : Int) : Int := if ordV a a' = 0 then ordV b b' else ordV a a'
theorem byPerson_calls (a b c a' b' c' : Int) (w : World) : Calls Try.prog 111 #[.agg #[.int .i64 a, .int .i64 b, .int .i64 c], .agg #[.int .i64 a', .int .i64 b', .int .i64 c']] w fun e w' => e = .returned (.int .i64 (byP a b a' b')) ∧ Ext w w' := by
 unfold byP
 obtain ⟨p, hp⟩ : ∃ p, ordV a a' = p := ⟨_, rfl⟩
 obtain ⟨q, hq⟩ : ∃ q, ordV b b' = q := ⟨_, rfl⟩
 have H1 := fun w1 => cmp_calls a a' w1
 have H2 := fun w1 => cmp_calls b b' w1
 rw [hp] at H1 ⊢
 rw [hq] at H2 ⊢
 refine enterQ (c := cx w 17) Try.func111 rfl rfl rfl rfl ?_
 repeat' (first | (apply oq_fn; exact rfl; try first | exact trivial | (and_intros <;> omega)) | ((with_reducible apply oq_load); exact rfl; exact rfl) | ((with_reducible apply oq_call (k := 132) (hc := Try.call132)); exact rfl; exact rfl; exact fun D w1 hw1 => H1 w1) | ((with_reducible apply oq_call (k := 132) (hc := Try.call132)); exact rfl; exact rfl; exact fun D w1 hw1 => H2 w1) | ((with_reducible apply oq_call (k := 131) (hc := Try.call131)); exact rfl; exact rfl; exact fun D w1 hw1 => or_calls _ _ _ _ w1 (hw1.cellAt (by (repeat (first | exact P0 | apply P1))) rfl) (hw1.cellAt (by (repeat (first | exact P0 | apply P1))) rfl)) | (with_reducible apply tl_nil) | ((with_reducible apply u_q); (iterate 4 exact rfl)) | ((with_reducible apply u_s); (iterate 3 exact rfl)) | (with_reducible apply v_nil) | ((with_reducible apply v_q); (iterate 3 exact rfl)) | ((with_reducible apply os_x); exact rfl) | ((with_reducible apply ox_boxAgg); exact rfl; intro _) | ((with_reducible apply ox_buildSlice1); (iterate 6 exact rfl); intro _) | ((with_reducible apply ai_q); (iterate 5 exact rfl)) | ((with_reducible apply ai_x); (iterate 5 exact rfl)) | (apply Rd.own; (repeat (first | exact P0 | apply P1)); exact rfl; done) | (apply t_mix (id := 1) [0, 1, 2, 3, 4, 5, 6, 7, 8, 9] 3 #[false, false, false, false, false, false, false, false, false, false, false, false, false]; kernel_rfl; kernel_rfl; exact rfl) | (with_reducible apply t_seq) | (apply t_region; kernel_rfl) | (with_reducible apply t_ret) | with_reducible apply q_thenN | (with_reducible apply end_ret) | exact rvs_nil | (with_reducible apply rvs_cons) | ((with_reducible apply rv_tmp); exact rfl) | (apply al_done; decide +kernel) | (apply al_one 10; decide +kernel) | (apply al_one 11; decide +kernel) | (apply al_one 12; decide +kernel))
 all_goals rfl
end Go.Proofs.Ytmlmgipngbndgaa
namespace Go.Proofs.Ytmlmgipngbndgaa
section
variable {α : Type} (lt : α → α → Bool)
/-- The stable merge. -/
def mrg : List α → List α → List α
 | [], r => r
 | a :: l, [] => a :: l
 | a :: l, b :: r => if lt b a = true then b :: mrg (a :: l) r else a :: mrg l (b :: r)
termination_by l r => l.length + r.length
variable {lt}
theorem mrg_nil (r : List α) : mrg lt [] r = r := by unfold mrg; rfl
theorem mrg_right (l : List α) : mrg lt l [] = l := by cases l <;> (unfold mrg; rfl)
theorem mrg_lt {a b : α} {l r : List α} (h : lt b a = true) : mrg lt (a :: l) (b :: r) = b :: mrg lt (a :: l) r := by
 rw [mrg, if_pos h]
theorem mrg_ge {a b : α} {l r : List α} (h : lt b a = false) : mrg lt (a :: l) (b :: r) = a :: mrg lt l (b :: r) := by
 rw [mrg, if_neg (by rw [h]; decide)]
theorem mrg_len : ∀ (l r : List α), (mrg lt l r).length = l.length + r.length
 | [], r => by rw [mrg_nil]; simp
 | a :: l, [] => by rw [mrg_right]; simp
 | a :: l, b :: r => by
  cases h : lt b a with
  | true => rw [mrg_lt h, List.length_cons, mrg_len (a :: l) r]; simp; omega
  | false => rw [mrg_ge h, List.length_cons, mrg_len l (b :: r)]; simp; omega
termination_by l r => l.length + r.length
theorem mrg_perm : ∀ (l r : List α), (mrg lt l r).Perm (l ++ r)
 | [], r => by rw [mrg_nil]; exact List.Perm.refl _
 | a :: l, [] => by rw [mrg_right, List.append_nil]
 | a :: l, b :: r => by
  cases h : lt b a with
  | true =>
   rw [mrg_lt h]
   exact ((mrg_perm (a :: l) r).cons b).trans List.perm_middle.symm
  | false =>
   rw [mrg_ge h]
   exact (mrg_perm l (b :: r)).cons a
termination_by l r => l.length + r.length
/-- Two merges in a row. -/
theorem mrg_split : ∀ (u v u' v' : List α), (∀ x ∈ u, ∀ y ∈ v', lt y x = false) → (∀ y ∈ v, ∀ x ∈ u', lt y x = true) → mrg lt (u ++ u') (v ++ v') = mrg lt u v ++ mrg lt u' v'
 | [], [], u', v', _, _ => by rw [mrg_nil]; rfl
 | [], b :: v, [], v', _, _ => by rw [mrg_nil, mrg_nil, List.append_nil, mrg_nil]
 | [], b :: v, a :: u', v', h1, h2 => by
  have ih := mrg_split [] v (a :: u') v' (by simp) (fun y hy => h2 y (List.mem_cons_of_mem _ hy))
  rw [List.nil_append] at ih ⊢
  rw [List.cons_append, mrg_lt (h2 b List.mem_cons_self a List.mem_cons_self), ih, mrg_nil, mrg_nil]
  rfl
 | a :: u, [], u', [], h1, h2 => by rw [List.nil_append, mrg_right, mrg_right, mrg_right]
 | a :: u, [], u', b :: v', h1, h2 => by
  have ih := mrg_split u [] u' (b :: v') (fun x hx => h1 x (List.mem_cons_of_mem _ hx)) (by simp)
  rw [List.nil_append] at ih ⊢
  rw [List.cons_append, mrg_ge (h1 a List.mem_cons_self b List.mem_cons_self), ih, mrg_right, mrg_right]
  rfl
 | a :: u, b :: v, u', v', h1, h2 => by
  cases h : lt b a with
  | true =>
   have ih := mrg_split (a :: u) v u' v' h1 (fun y hy => h2 y (List.mem_cons_of_mem _ hy))
   rw [mrg_lt h, List.cons_append, List.cons_append, List.cons_append, mrg_lt h, ← List.cons_append, ih]
  | false =>
   have ih := mrg_split u (b :: v) u' v' (fun x hx => h1 x (List.mem_cons_of_mem _ hx)) h2
   rw [mrg_ge h, List.cons_append, List.cons_append, List.cons_append, mrg_ge h, ← List.cons_append, ih]
termination_by u v => u.length + v.length
/-- A weak order. -/
structure Wo (lt : α → α → Bool) : Prop where
 asym : ∀ a b, lt a b = true → lt b a = false
 tr : ∀ a b c, lt b a = false → lt c b = false → lt c a = false
theorem Wo.irr (h : Wo lt) (a : α) : lt a a = false := by
 cases h1 : lt a a with
 | false => rfl
 | true => have := h.asym a a h1; rw [h1] at this; cases this
/-- Sorted. -/
def Srt (lt : α → α → Bool) (l : List α) : Prop := l.Pairwise fun a b => lt b a = false
theorem mrg_srt (hw : Wo lt) : ∀ (l r : List α), Srt lt l → Srt lt r → Srt lt (mrg lt l r)
 | [], r, _, h => by rw [mrg_nil]; exact h
 | a :: l, [], h, _ => by rw [mrg_right]; exact h
 | a :: l, b :: r, h1, h2 => by
  have h1' := List.pairwise_cons.1 h1
  have h2' := List.pairwise_cons.1 h2
  cases h : lt b a with
  | true =>
   rw [mrg_lt h]
   refine List.pairwise_cons.2 ⟨fun x hx => ?_, mrg_srt hw (a :: l) r h1 h2'.2⟩
   rcases List.mem_append.1 ((mrg_perm (a :: l) r).mem_iff.1 hx) with hx | hx
   ·rcases List.mem_cons.1 hx with rfl | hx
    ·exact hw.asym _ _ h
    ·exact hw.tr _ _ _ (hw.asym _ _ h) (h1'.1 x hx)
   ·exact h2'.1 x hx
  | false =>
   rw [mrg_ge h]
   refine List.pairwise_cons.2 ⟨fun x hx => ?_, mrg_srt hw l (b :: r) h1'.2 h2⟩
   rcases List.mem_append.1 ((mrg_perm l (b :: r)).mem_iff.1 hx) with hx | hx
   ·exact h1'.1 x hx
   ·rcases List.mem_cons.1 hx with rfl | hx
    ·exact h
    ·exact hw.tr _ _ _ h (h2'.1 x hx)
termination_by l r => l.length + r.length
theorem mrg_assoc (hw : Wo lt) : ∀ (s t u : List α), mrg lt s (mrg lt t u) = mrg lt (mrg lt s t) u
 | [], t, u => by rw [mrg_nil, mrg_nil]
 | a :: s, [], u => by rw [mrg_nil, mrg_right]
 | a :: s, b :: t, [] => by rw [mrg_right, mrg_right]
 | a :: s, b :: t, c :: u => by
  cases hcb : lt c b with
  | false =>
   rw [mrg_ge hcb]
   cases hba : lt b a with
   | true =>
    rw [mrg_lt hba, mrg_lt hba, mrg_ge hcb, mrg_assoc hw (a :: s) t (c :: u)]
   | false =>
    rw [mrg_ge hba, mrg_ge hba, mrg_ge (hw.tr _ _ _ hba hcb), ← mrg_assoc hw s (b :: t) (c :: u), mrg_ge hcb]
  | true =>
   rw [mrg_lt hcb]
   cases hca : lt c a with
   | true =>
    rw [mrg_lt hca, mrg_assoc hw (a :: s) (b :: t) u]
    cases hba : lt b a with
    | true => rw [mrg_lt hba, mrg_lt hcb]
    | false => rw [mrg_ge hba, mrg_lt hca]
   | false =>
    have hba : lt b a = false := hw.tr _ _ _ hca (hw.asym _ _ hcb)
    rw [mrg_ge hca, mrg_ge hba, mrg_ge hca, ← mrg_assoc hw s (b :: t) (c :: u), mrg_lt hcb]
termination_by s t u => s.length + t.length + u.length
/-- Sorted lists that do not cross. -/
theorem mrg_app {u v : List α} (h : ∀ x ∈ u, ∀ y ∈ v, lt y x = false) : mrg lt u v = u ++ v := by
 have := mrg_split (lt := lt) u [] [] v h (by simp)
 simp only [List.append_nil, List.nil_append, mrg_right, mrg_nil] at this
 exact this
theorem mrg_swap {u v : List α} (h : ∀ y ∈ v, ∀ x ∈ u, lt y x = true) : mrg lt u v = v ++ u := by
 have := mrg_split (lt := lt) [] v u [] (by simp) h
 simp only [List.append_nil, List.nil_append, mrg_right, mrg_nil] at this
 exact this
/-- The stable sort. -/
def srt (lt : α → α → Bool) (l : List α) : List α := l.foldl (fun s x => mrg lt s [x]) []
theorem srt_nil : srt lt [] = [] := rfl
theorem srt_snoc (l : List α) (x : α) : srt lt (l ++ [x]) = mrg lt (srt lt l) [x] := by
 unfold srt; rw [List.foldl_append]; rfl
theorem snoc_ind {p : List α → Prop} (h0 : p []) (h1 : ∀ l x, p l → p (l ++ [x])) : ∀ l, p l := fun l => by
 have : ∀ n, ∀ l : List α, l.length = n → p l := by
  intro n
  induction n with
  | zero => intro l hl; rw [List.length_eq_zero_iff.1 hl]; exact h0
  | succ n ih =>
   intro l hl
   have hne : l ≠ [] := fun h => by rw [h] at hl; cases hl
   rw [← List.dropLast_concat_getLast hne]
   refine h1 _ _ (ih _ ?_)
   rw [List.length_dropLast, hl]; rfl
 exact this _ l rfl
theorem srt_perm (l : List α) : (srt lt l).Perm l := by
 refine snoc_ind (p := fun l => (srt lt l).Perm l) (List.Perm.refl _) (fun l x ih => ?_) l
 rw [srt_snoc]
 exact (mrg_perm _ _).trans (ih.append_right _)
theorem srt_len (l : List α) : (srt lt l).length = l.length := (srt_perm l).length_eq
theorem srt_srt (hw : Wo lt) (l : List α) : Srt lt (srt lt l) := by
 refine snoc_ind (p := fun l => Srt lt (srt lt l)) List.Pairwise.nil (fun l x ih => ?_) l
 rw [srt_snoc]
 exact mrg_srt hw _ _ ih (List.pairwise_singleton _ _)
theorem srt_app (hw : Wo lt) (l m : List α) : mrg lt (srt lt l) (srt lt m) = srt lt (l ++ m) := by
 refine snoc_ind (p := fun m => mrg lt (srt lt l) (srt lt m) = srt lt (l ++ m)) ?_ (fun m x ih => ?_) m
 ·rw [srt_nil, mrg_right, List.append_nil]
 ·rw [srt_snoc, mrg_assoc hw, ih, ← List.append_assoc, srt_snoc]
/-- Blocks that are sorted, each by itself. -/
def blk (lt : α → α → Bool) (s : Nat) : Nat → List α → List α
 | 0, l => srt lt l
 | f + 1, l => if l.length ≤ s then srt lt l else srt lt (l.take s) ++ blk lt s f (l.drop s)
end
section
variable {α : Type} {lt : α → α → Bool}
theorem swp_at {P M Q : List α} {x y : α} : ((P ++ x :: (M ++ y :: Q)).set P.length y).set (P.length + 1 + M.length) x = P ++ y :: (M ++ x :: Q) := by
 rw [List.set_append_right _ _ (Nat.le_refl _), Nat.sub_self, List.set_cons_zero, List.set_append_right _ _ (by omega), show P.length + 1 + M.length - P.length = M.length + 1 by omega, List.set_cons_succ,
  List.set_append_right _ _ (Nat.le_refl _), Nat.sub_self, List.set_cons_zero]
theorem get_at {P Q : List α} {x : α} {i : Nat} (h : P.length = i) : (P ++ x :: Q)[i]? = some x := by
 subst h; simp
theorem get_at2 {P M Q : List α} {x y : α} {i : Nat} (h : P.length + 1 + M.length = i) : (P ++ x :: (M ++ y :: Q))[i]? = some y := by
 subst h
 rw [List.getElem?_append_right (by omega), show P.length + 1 + M.length - P.length = M.length + 1 by omega, List.getElem?_cons_succ]
 exact get_at rfl
/-- Two ranges, swapped as far as k. -/
def swr (P X M Y Q : List α) (k : Nat) : List α := P ++ (Y.take k ++ (X.drop k ++ (M ++ (X.take k ++ (Y.drop k ++ Q)))))
theorem swr_zero (P X M Y Q : List α) : swr P X M Y Q 0 = P ++ (X ++ (M ++ (Y ++ Q))) := by
 unfold swr; simp
theorem swr_all {P X M Y Q : List α} {n : Nat} (hx : X.length = n) (hy : Y.length = n) : swr P X M Y Q n = P ++ (Y ++ (M ++ (X ++ Q))) := by
 unfold swr
 rw [List.take_of_length_le (by omega), List.take_of_length_le (by omega), List.drop_of_length_le (by omega), List.drop_of_length_le (by omega)]
 simp
theorem swr_step {P X M Y Q : List α} {n k : Nat} (hx : X.length = n) (hy : Y.length = n) (hk : k < n) : ∃ x y, (swr P X M Y Q k)[P.length + k]? = some x ∧ (swr P X M Y Q k)[P.length + n + M.length + k]? = some y ∧
  ((swr P X M Y Q k).set (P.length + k) y).set (P.length + n + M.length + k) x = swr P X M Y Q (k + 1) := by
 obtain ⟨x, hx1⟩ : ∃ x, X.drop k = x :: X.drop (k + 1) := ⟨_, List.drop_eq_getElem_cons (by omega)⟩
 obtain ⟨y, hy1⟩ : ∃ y, Y.drop k = y :: Y.drop (k + 1) := ⟨_, List.drop_eq_getElem_cons (by omega)⟩
 have hx2 : X.take (k + 1) = X.take k ++ [x] := by
  have h1 : X[k]? = some x := by
   have := congrArg (·[0]?) hx1
   simpa using this
  rw [List.take_add_one, h1]; rfl
 have hy2 : Y.take (k + 1) = Y.take k ++ [y] := by
  have h1 : Y[k]? = some y := by
   have := congrArg (·[0]?) hy1
   simpa using this
  rw [List.take_add_one, h1]; rfl
 have e : swr P X M Y Q k = (P ++ Y.take k) ++ x :: ((X.drop (k + 1) ++ (M ++ X.take k)) ++ y :: (Y.drop (k + 1) ++ Q)) := by
  unfold swr; rw [hx1, hy1]; simp only [List.append_assoc, List.cons_append]
 have e2 : swr P X M Y Q (k + 1) = (P ++ Y.take k) ++ y :: ((X.drop (k + 1) ++ (M ++ X.take k)) ++ x :: (Y.drop (k + 1) ++ Q)) := by
  unfold swr; rw [hx2, hy2]; simp only [List.append_assoc, List.cons_append, List.nil_append]
 have l1 : (P ++ Y.take k).length = P.length + k := by simp; omega
 have l2 : (P ++ Y.take k).length + 1 + (X.drop (k + 1) ++ (M ++ X.take k)).length = P.length + n + M.length + k := by simp; omega
 refine ⟨x, y, ?_, ?_, ?_⟩
 ·rw [e]; exact get_at l1
 ·rw [e]; exact get_at2 l2
 ·rw [e, e2, ← l2, ← l1]; exact swp_at
/-- One step of an insertion. -/
theorem ins_step {P S S2 Q : List α} {z x : α} : (((P ++ (S ++ [z])) ++ x :: (S2 ++ Q)).set (P.length + S.length + 1) z).set (P.length + S.length) x = (P ++ S) ++ x :: ((z :: S2) ++ Q) := by
 have e : (P ++ (S ++ [z])) ++ x :: (S2 ++ Q) = (P ++ S) ++ z :: ([] ++ x :: (S2 ++ Q)) := by simp only [List.append_assoc, List.cons_append, List.nil_append]
 have l1 : (P ++ S).length = P.length + S.length := by simp
 have l2 : (P ++ S).length + 1 + ([] : List α).length = P.length + S.length + 1 := by simp
 have h := swp_at (P := P ++ S) (M := []) (Q := S2 ++ Q) (x := z) (y := x)
 rw [l2, l1] at h
 rw [e, List.set_comm _ _ (by omega), h]
 simp only [List.cons_append, List.nil_append]
theorem ins_done (hw : Wo lt) {S1 S2 : List α} {x : α} (hs : Srt lt (S1 ++ S2)) (h1 : S1 = [] ∨ ∃ S z, S1 = S ++ [z] ∧ lt x z = false) (h2 : ∀ y ∈ S2, lt x y = true) : mrg lt (S1 ++ S2) [x] = S1 ++ x :: S2 := by
 have h := mrg_split (lt := lt) S1 [] S2 [x] (fun y hy z hz => ?_) (by simp)
 ·have h3 : mrg lt S2 [x] = [x] ++ S2 := mrg_swap (fun y hy z hz => by rw [List.mem_singleton.1 hy]; exact h2 z hz)
  rw [List.nil_append, mrg_right, h3] at h
  exact h
 ·rw [List.mem_singleton.1 hz]
  rcases h1 with rfl | ⟨S, z, rfl, h3⟩
  ·cases hy
  ·rcases List.mem_append.1 hy with hy | hy
   ·have hp := (List.pairwise_append.1 (List.pairwise_append.1 hs).1).2.2 y hy z (List.mem_singleton.2 rfl)
    exact hw.tr _ _ _ hp h3
   ·rw [List.mem_singleton.1 hy]; exact h3
/-- Where two sorted lists are parted. -/
theorem sym_pick (hw : Wo lt) {U V : List α} (hU : Srt lt U) (hV : Srt lt V) {h i lo hi : Nat} (hi0 : lo ≤ i) (hi1 : i ≤ hi) (hlo : (lo = 0 ∨ V.length + lo = h)) (hhi : (hi = h ∨ hi = U.length)) (hh : hi ≤ U.length) (hh2 : hi ≤ h) (hh3 : h ≤ V.length + lo)
  (h1 : i = lo ∨ ∃ x y, U[i - 1]? = some x ∧ V[h - i]? = some y ∧ lt y x = false) (h2 : i = hi ∨ ∃ x y, U[i]? = some x ∧ V[h - 1 - i]? = some y ∧ lt y x = true) :
  mrg lt U V = mrg lt (U.take i) (V.take (h - i)) ++ mrg lt (U.drop i) (V.drop (h - i)) := by
 have key := mrg_split (lt := lt) (U.take i) (V.take (h - i)) (U.drop i) (V.drop (h - i)) (fun x hx y hy => ?_) (fun y hy x hx => ?_)
 ·rw [List.take_append_drop, List.take_append_drop] at key
  exact key
 ·obtain ⟨k, hk, rfl⟩ := List.getElem_of_mem hx
  obtain ⟨j, hj, rfl⟩ := List.getElem_of_mem hy
  rw [List.getElem_take, List.getElem_drop]
  simp only [List.length_take, List.length_drop] at hk hj
  rcases h1 with rfl | ⟨x, y, hx1, hy1, hxy⟩
  ·omega
  ·obtain ⟨hx2, rfl⟩ := List.getElem?_eq_some_iff.1 hx1
   obtain ⟨hy2, rfl⟩ := List.getElem?_eq_some_iff.1 hy1
   have a1 : lt U[i - 1] U[k] = false := by
    by_cases hki : k = i - 1
    ·subst hki; exact hw.irr _
    ·exact List.pairwise_iff_getElem.1 hU k (i - 1) (by omega) hx2 (by omega)
   have a2 : lt V[h - i + j] V[h - i] = false := by
    by_cases hj0 : j = 0
    ·subst hj0; exact hw.irr _
    ·exact List.pairwise_iff_getElem.1 hV (h - i) (h - i + j) hy2 (by omega) (by omega)
   exact hw.tr _ _ _ (hw.tr _ _ _ a1 hxy) a2
 ·obtain ⟨k, hk, rfl⟩ := List.getElem_of_mem hx
  obtain ⟨j, hj, rfl⟩ := List.getElem_of_mem hy
  rw [List.getElem_take, List.getElem_drop]
  simp only [List.length_take, List.length_drop] at hk hj
  rcases h2 with rfl | ⟨x, y, hx1, hy1, hxy⟩
  ·omega
  ·obtain ⟨hx2, rfl⟩ := List.getElem?_eq_some_iff.1 hx1
   obtain ⟨hy2, rfl⟩ := List.getElem?_eq_some_iff.1 hy1
   have a1 : lt U[i + k] U[i] = false := by
    by_cases hk0 : k = 0
    ·subst hk0; exact hw.irr _
    ·exact List.pairwise_iff_getElem.1 hU i (i + k) hx2 (by omega) (by omega)
   have a2 : lt V[h - 1 - i] V[j] = false := by
    by_cases hjh : j = h - 1 - i
    ·subst hjh; exact hw.irr _
    ·exact List.pairwise_iff_getElem.1 hV j (h - 1 - i) (by omega) hy2 (by omega)
   cases hc : lt V[j] U[i + k] with
   | true => rfl
   | false =>
    have b1 := hw.tr _ _ _ a1 hc
    have b2 := hw.tr _ _ _ b1 a2
    rw [hxy] at b2; cases b2
/-- Sorted blocks. -/
inductive Bl (lt : α → α → Bool) (s : Nat) : List α → List α → Prop
 | last {L : List α} (h : L.length ≤ s) : Bl lt s L (srt lt L)
 | more {A L D : List α} (h : A.length = s) (k : Bl lt s L D) : Bl lt s (A ++ L) (srt lt A ++ D)
inductive Pf (lt : α → α → Bool) (s : Nat) : List α → List α → Prop
 | zero : Pf lt s [] []
 | snoc {A P B : List α} (k : Pf lt s A P) (h : B.length = s) : Pf lt s (A ++ B) (P ++ srt lt B)
theorem Pf.bl {s : Nat} {A P : List α} (h : Pf lt s A P) : ∀ {R E : List α}, Bl lt s R E → Bl lt s (A ++ R) (P ++ E) := by
 induction h with
 | zero => intro R E h; exact h
 | snoc k hB ih =>
  intro R E h
  rw [List.append_assoc, List.append_assoc]
  exact ih (.more hB h)
theorem Pf.len {s : Nat} {A P : List α} (h : Pf lt s A P) : P.length = A.length := by
 induction h with
 | zero => rfl
 | snoc k hB ih => rw [List.length_append, List.length_append, ih, srt_len]
theorem Bl.len {s : Nat} {A P : List α} (h : Bl lt s A P) : P.length = A.length := by
 induction h with
 | last h => exact srt_len _
 | more h k ih => rw [List.length_append, List.length_append, ih, srt_len]
theorem Bl.small {s : Nat} {L D : List α} (h : Bl lt s L D) (hl : L.length ≤ s) : D = srt lt L := by
 cases h with
 | last _ => rfl
 | more hA k =>
  rename_i A L D
  have hL : L.length = 0 := by simp at hl; omega
  obtain rfl := List.length_eq_zero_iff.1 hL
  have := k.len
  obtain rfl := List.length_eq_zero_iff.1 this
  simp
theorem Bl.split {s : Nat} {L D : List α} (h : Bl lt s L D) (hl : s < L.length) : ∃ A R E, A.length = s ∧ L = A ++ R ∧ D = srt lt A ++ E ∧ Bl lt s R E := by
 cases h with
 | last h => omega
 | more hA k => exact ⟨_, _, _, hA, rfl, rfl, k⟩
theorem Bl.split' {s : Nat} {L D : List α} (h : Bl lt s L D) (hl : s ≤ L.length) : ∃ A R E, A.length = s ∧ L = A ++ R ∧ D = srt lt A ++ E ∧ Bl lt s R E := by
 by_cases hs : s < L.length
 ·exact h.split hs
 ·refine ⟨L, [], [], by omega, by simp, by rw [h.small (by omega)]; simp, ?_⟩
  exact .last (Nat.zero_le _)
end
end Go.Proofs.Ytmlmgipngbndgaa
