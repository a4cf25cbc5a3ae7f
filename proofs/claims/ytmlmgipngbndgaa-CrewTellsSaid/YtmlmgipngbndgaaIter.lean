/- The iterator over the bookings of a departure that are in some state. -/
import Derived.Test.YtmlmgipngbndgaaDsk2
import Derived.Test.YtmlmgipngbndgaaRegW
namespace Go.Proofs.Ytmlmgipngbndgaa
open Go.RowKit
attribute [local irreducible] OQ OS OX Rd T TL GX GL AL AI RV wpG SAny Calls
set_option maxRecDepth 100000
set_option maxHeartbeats 2000000
set_option linter.unusedVariables false
set_option linter.unusedSimpArgs false

theorem cell_putX {w : World} {p : Addr} {u : Value} {l : Nat} {o o' : Obj} (h : w.cell? p = some u) (ho : w.heap[l]? = some o) (hc : o.isCells = false) : (w.putObj l o').cell? p = some u := by
  by_cases e : p.block = l
  · subst e
    exfalso
    unfold World.cell? at h
    rw [ho] at h
    cases o <;> simp_all [Obj.isCells]
  · unfold World.cell? at h ⊢
    rw [World.putObj_heap_other e]
    exact h
theorem RdS.putX {w : World} {k : Nat} {A : Option Addr} {n : Nat} {xs : List (List Value)} {l : Nat} {o o' : Obj} (h : RdS w k A n xs) (ho : w.heap[l]? = some o) (hc : o.isCells = false) : RdS (w.putObj l o') k A n xs :=
  ⟨h.len, fun hn => by
    obtain ⟨b, o, rfl, hb, hx⟩ := h.at_ hn
    exact ⟨b, o, rfl, by simpa using hb, fun i x hi => ⟨(hx i x hi).1, fun j u hu => cell_putX ((hx i x hi).2 j u hu) ho hc⟩⟩⟩
/-- Two readings of a slice agree. -/
theorem RdS.inj {w : World} {k : Nat} {A : Option Addr} {n : Nat} {xs ys : List (List Value)} (h : RdS w k A n xs) (h' : RdS w k A n ys) : xs = ys := by
  have l1 := h.len
  have l2 := h'.len
  refine List.ext_getElem (by omega) fun i hi hi' => ?_
  obtain ⟨b, o, hA, _, hx⟩ := h.at_ (by omega)
  obtain ⟨b', o', hA', _, hx'⟩ := h'.at_ (by omega)
  rw [hA] at hA'
  obtain ⟨rfl, rfl⟩ : b = b' ∧ o = o' := by simpa using hA'
  have a1 := hx i _ (List.getElem?_eq_getElem hi)
  have a2 := hx' i _ (List.getElem?_eq_getElem hi')
  refine List.ext_getElem (by omega) fun j hj hj' => ?_
  have e1 := a1.2 j _ (List.getElem?_eq_getElem hj)
  have e2 := a2.2 j _ (List.getElem?_eq_getElem hj')
  rw [e1] at e2
  exact Option.some.inj e2
theorem bk_inj {l l' : List Bk} (h : l.map bkCells = l'.map bkCells) : l = l' := by
  have hl : l.length = l'.length := by simpa using congrArg List.length h
  refine List.ext_getElem hl fun i hi hi' => ?_
  have := congrArg (fun m : List (List Value) => m[i]?) h
  simp [hi, hi', bkCells] at this
  obtain ⟨h1, h2, h3⟩ := this
  cases hx : l[i]; cases hy : l'[i]
  simp_all
/-- Is a booking of a departure, and in one of some states? -/
def mtB (f : Int) (sts : List Int) (x : Bk) : Bool := decide (x.flight = f) && sts.any fun s => decide (x.state = s)
/-- What the iterator reads. -/
structure OfAt (b0 b1 b2 bd : Nat) (B : Option Addr) (nb cb : Nat) (f : Int) (S : Option Addr) (ns cs : Nat) (sts : List Int) (W : World) : Prop where
  x0 : W.cell? ⟨b0, 0, none⟩ = some (.pointer (some ⟨bd, 0, none⟩))
  x1 : W.cell? ⟨b1, 0, none⟩ = some (.int .i64 f)
  x2 : W.cell? ⟨b2, 0, none⟩ = some (.slice S ns cs)
  st : RdS W 1 S ns (sts.map u8Cells)
  bks : W.cell? ⟨bd, 4, none⟩ = some (.slice B nb cb)
  bk : ∃ bk : List Bk, RdS W 3 B nb (bk.map bkCells)
/-- A place in a list of n. -/
def Ix (n : Nat) : Type := { i : Nat // i < n }
def behind {n : Nat} (pre : List (Ix n)) (j : Nat) : Prop := ∀ p ∈ pre, p.1 < j
/-- What it tells at a yield. -/
def OfG (B : Option Addr) (nb : Nat) (f : Int) (sts : List Int) (pre : List (Ix nb)) (x : Ix nb) (W : World) : Prop :=
  behind pre x.1 ∧ ∃ bk : List Bk, RdS W 3 B nb (bk.map bkCells) ∧ (∀ y, bk[x.1]? = some y → mtB f sts y = true) ∧ ∀ j y, behind pre j → j < x.1 → bk[j]? = some y → mtB f sts y = false
/-- What it tells at its end. -/
def OfE (B : Option Addr) (nb : Nat) (f : Int) (sts : List Int) (xs : List (Ix nb)) (W : World) : Prop :=
  ∃ bk : List Bk, RdS W 3 B nb (bk.map bkCells) ∧ ∀ j y, behind xs j → bk[j]? = some y → mtB f sts y = false
theorem OfG.abide (B : Option Addr) (nb : Nat) (f : Int) (sts : List Int) (n0 : Nat) (x : Ix nb) : Abide n0 (fun pre W => OfG B nb f sts pre x W) :=
  ⟨fun pre A C ⟨h1, bk, h2, h3⟩ e => ⟨h1, bk, h2.ext e, h3⟩, fun pre A l o o' ⟨h1, bk, h2, h3⟩ _ ho hc => ⟨h1, bk, h2.putX ho hc, h3⟩⟩
theorem OfE.abide (B : Option Addr) (nb : Nat) (f : Int) (sts : List Int) (n0 : Nat) : Abide n0 (OfE B nb f sts) :=
  ⟨fun pre A C ⟨bk, h2, h3⟩ e => ⟨bk, h2.ext e, h3⟩, fun pre A l o o' ⟨bk, h2, h3⟩ _ ho hc => ⟨bk, h2.putX ho hc, h3⟩⟩
/-- Nothing is left out in front of k. -/
def OfN (B : Option Addr) (nb : Nat) (f : Int) (sts : List Int) (pre : List (Ix nb)) (k : Nat) (W : World) : Prop :=
  ∃ bk : List Bk, RdS W 3 B nb (bk.map bkCells) ∧ ∀ j y, behind pre j → j < k → bk[j]? = some y → mtB f sts y = false
theorem then_exit {K : Act → World → Prop} {Q : Exit → Act → World → Prop} {id : Nat} {a : Act} {w : World} (h : Q (.exit id) a w) : Exit.then K Q (.exit id) a w := h
theorem then_ret {K : Act → World → Prop} {Q : Exit → Act → World → Prop} {a : Act} {w : World} (h : Q .ret a w) : Exit.then K Q .ret a w := h
theorem inBlock_exit {Q : Exit → Act → World → Prop} {id : Nat} {a : Act} {w : World} (h : Q .normal a w) : Exit.inBlock id Q (.exit id) a w := by simpa [Exit.inBlock] using h
theorem inBlock_ret {Q : Exit → Act → World → Prop} {id : Nat} {a : Act} {w : World} (h : Q .ret a w) : Exit.inBlock id Q .ret a w := h
def slot13 (a : Act) : Nat := match a.tmps[13]? with | some (Value.int _ z) => z.toNat | _ => 0

set_option maxRecDepth 100000 in
theorem of1_seqV (n : Nat) (b0 b1 b2 bd gB oB : Nat) (B : Option Addr) (nb cb : Nat) (f : Int) (S : Option Addr) (ns cs : Nat) (sts : List Int) (hB : 0 < nb → B = some ⟨gB, oB, none⟩) (hnb : nb ≤ 1000000) (hns : ns ≤ 1000000) :
    SeqV n Try.prog 100 #[.pointer (some ⟨b0, 0, none⟩), .pointer (some ⟨b1, 0, none⟩), .pointer (some ⟨b2, 0, none⟩)] (fun x : Ix nb => #[.pointer (some ⟨gB, oB + x.1 * 3, none⟩)])
      (fun _ W => OfAt b0 b1 b2 bd B nb cb f S ns cs sts W) (OfG B nb f sts) (OfE B nb f sts) := by
  intro l J Jx W hJe hXe hJR hY h0
  have HY := Lib.hid hY
  clear hY
  refine callsIn_of_wp Try.func100 rfl trivial ?_ rfl
  have hf0 : Frm [] 44 (frOf 0 [.func (.yield l) #[] #[], .pointer (some ⟨b0, 0, none⟩), .pointer (some ⟨b1, 0, none⟩), .pointer (some ⟨b2, 0, none⟩)]) { tmps := #[.func (.yield l) #[] #[]] ++ #[.pointer (some ⟨b0, 0, none⟩), .pointer (some ⟨b1, 0, none⟩), .pointer (some ⟨b2, 0, none⟩)] ++ Array.replicate (44 - 4) undef, defers := [] } :=
    ⟨by simp, rfl, fun d v hv => by
      have := (look_frOf _ 0 d v hv).2
      have hlt := (List.getElem?_eq_some_iff.1 this).1
      rw [Array.getElem?_append_left (by simpa using hlt)]
      simpa using this⟩
  refine (?_ : ∀ a : Act, Frm [] 44 (frOf 0 [.func (.yield l) #[] #[], .pointer (some ⟨b0, 0, none⟩), .pointer (some ⟨b1, 0, none⟩), .pointer (some ⟨b2, 0, none⟩)]) a → Code.wpIn Fence.wide n Try.prog _ _ a W) _ hf0
  clear hf0
  intro a hf0
  obtain ⟨c0, c1, c2, hst, c3, bk0, hbk0⟩ := hJR _ _ h0
  refine wpIn_seq ?_
  refine g_region (c := cx W 44) (R := fun F' => FrSub F' [(0, .func (.yield l) #[] #[]), (1, .pointer (some ⟨b0, 0, none⟩)), (2, .pointer (some ⟨b1, 0, none⟩)), (3, .pointer (some ⟨b2, 0, none⟩)), (12, .int .i64 (nb : Int)), (13, .int .i64 (0 : Int))]) hf0 (Has.start W) ?_ ?_
  · all_goals (try with_reducible apply gx_id)
    repeat' (first | ((with_reducible apply oq_id); first | (apply oq_fn; exact rfl; first | exact trivial | (refine ⟨?_, ?_⟩ <;> omega) | (refine ⟨?_, ?_, ?_⟩ <;> omega) | omega | skip) | ((with_reducible apply oq_load); exact rfl; exact rfl)) | ((with_reducible apply gx_id); first | ((with_reducible apply v_nil)) | ((with_reducible apply v_q); exact rfl; exact rfl; exact rfl)) | ((with_reducible apply rd_id); first | (apply Rd.old; (first | (with_reducible assumption) | exact c0 | exact c1 | exact c2 | exact c3 | exact c4 | exact c5 | exact c6 | exact c7 | exact c8 | exact d0 | exact d1 | exact d2 | exact d3 | exact d4 | exact d5); first | exact List.not_mem_nil | exact m0 | exact m1 | exact m2 | exact m3 | exact m4 | exact m5 | exact m6 | exact m7 | exact m8 | exact m9)))
    all_goals (repeat (first | exact FrSub.nil | (apply FrSub.cons; exact rfl)))
  intro F1 a1 w1 hF1 hf1 hw1
  show Code.wpIn _ _ _ _ _ _ _
  refine wpIn_block ?_
  refine wpIn_loop (fun a w => ∃ k pre, k ≤ nb ∧ Frm [] 44 [(0, .func (.yield l) #[] #[]), (1, .pointer (some ⟨b0, 0, none⟩)), (2, .pointer (some ⟨b1, 0, none⟩)), (3, .pointer (some ⟨b2, 0, none⟩)), (12, .int .i64 (nb : Int)), (13, .int .i64 (k : Int))] a ∧ J pre w ∧ behind pre k ∧ OfN B nb f sts pre k w) (fun a _ => nb - slot13 a) ?_ ?_
  · exact ⟨0, [], Nat.zero_le _, hf1.sub hF1, hJe _ _ _ h0 hw1.ext.ext, fun p hp => (List.not_mem_nil hp).elim, bk0, hbk0.ext hw1.ext.ext, fun j y _ hj => absurd hj (Nat.not_lt_zero _)⟩
  clear hf0 c0 c1 c2 c3 hst hbk0 hF1 hf1 hw1
  rintro a2 w2 ⟨k, pre, hk, hf2, hJ2, hb2, hn2⟩
  have hs2 : slot13 a2 = k := by
    have := hf2.at_ 13 (.int .i64 (k : Int)) rfl
    unfold slot13
    rw [this]
    simp
  refine wpIn_seq ?_
  refine g_region (c := cx w2 44) (R := fun F' => FrSub F' [(0, .func (.yield l) #[] #[]), (1, .pointer (some ⟨b0, 0, none⟩)), (2, .pointer (some ⟨b1, 0, none⟩)), (3, .pointer (some ⟨b2, 0, none⟩)), (12, .int .i64 (nb : Int)), (13, .int .i64 (k : Int)), (14, .bool (decide ((k : Int) < (nb : Int))))]) hf2 (Has.start w2) ?_ ?_
  · all_goals (try with_reducible apply gx_id)
    repeat' (first | ((with_reducible apply oq_id); first | (apply oq_fn; exact rfl; first | exact trivial | (refine ⟨?_, ?_⟩ <;> omega) | (refine ⟨?_, ?_, ?_⟩ <;> omega) | omega | skip)) | ((with_reducible apply gx_id); first | ((with_reducible apply v_nil)) | ((with_reducible apply v_q); exact rfl; exact rfl; exact rfl)))
    all_goals (repeat (first | exact FrSub.nil | (apply FrSub.cons; exact rfl)))
  intro F3 a3 w3 hF3 hf3 hw3
  show Code.wpIn _ _ _ _ _ _ _
  have hf3' := hf3.sub hF3
  clear hf3 hF3
  have e3 := hw3.ext.ext
  have hJ3 := hJe _ _ _ hJ2 e3
  obtain ⟨bk, hbk2, hno⟩ := hn2
  have hbk := hbk2.ext e3
  clear hw3 e3 hJ2 hf2 hbk2
  refine wpIn_seq ?_
  by_cases hlt : k < nb
  · refine wpIn_cond_true (by have := hf3'.at_ 14 _ rfl; simpa [Act.eval, Array.getD_eq_getD_getElem?, this] using hlt) ?_
    refine wpIn_skip ?_
    show Code.wpIn _ _ _ _ _ _ _
    refine wpIn_seq ?_
    refine wpIn_block ?_
    obtain ⟨c0, c1, c2, hst, c3, _⟩ := hJR _ _ hJ3
    obtain ⟨gB', oB', x, hBe, hgB, hx, c4, c5, c6⟩ := bk_read hbk hlt
    obtain ⟨rfl, rfl⟩ : gB' = gB ∧ oB' = oB := by rw [hB (by omega)] at hBe; simpa [eq_comm] using hBe
    subst hBe
    refine wpIn_seq ?_
    refine g_region (c := cx w3 44) (R := fun F' => FrSub F' [(0, .func (.yield l) #[] #[]), (1, .pointer (some ⟨b0, 0, none⟩)), (2, .pointer (some ⟨b1, 0, none⟩)), (3, .pointer (some ⟨b2, 0, none⟩)), (12, .int .i64 (nb : Int)), (13, .int .i64 (k : Int)), (5, .int .i64 (k : Int))]) hf3' (Has.start w3) ?_ ?_
    · all_goals (try with_reducible apply gx_id)
      repeat' (first | ((with_reducible apply oq_id); first | (apply oq_fn; exact rfl; first | exact trivial | (refine ⟨?_, ?_⟩ <;> omega) | (refine ⟨?_, ?_, ?_⟩ <;> omega) | omega | skip)) | ((with_reducible apply gx_id); first | ((with_reducible apply v_nil)) | ((with_reducible apply v_q); exact rfl; exact rfl; exact rfl)))
      all_goals (repeat (first | exact FrSub.nil | (apply FrSub.cons; exact rfl)))
    intro F4 a4 w4 hF4 hf4 hw4
    show Code.wpIn _ _ _ _ _ _ _
    refine wpIn_seq ?_
    refine g_region (c := cx w3 44) (R := fun F' => FrSub F' [(0, .func (.yield l) #[] #[]), (1, .pointer (some ⟨b0, 0, none⟩)), (2, .pointer (some ⟨b1, 0, none⟩)), (3, .pointer (some ⟨b2, 0, none⟩)), (12, .int .i64 (nb : Int)), (13, .int .i64 (k : Int)), (6, .pointer (some ⟨gB', oB' + k * 3, none⟩))]) (hf4.sub hF4) hw4 ?_ ?_
    · clear c4 c5 c6
      all_goals (try with_reducible apply gx_id)
      repeat' (first | ((with_reducible apply oq_id); first | (focus ((with_reducible apply oq_indexAddrN); exact rfl; exact rfl; exact rfl; exact rfl; omega)) | (apply oq_fn; exact rfl; first | exact trivial | (refine ⟨?_, ?_⟩ <;> omega) | (refine ⟨?_, ?_, ?_⟩ <;> omega) | omega | skip) | ((with_reducible apply oq_load); exact rfl; exact rfl)) | ((with_reducible apply gx_id); first | ((with_reducible apply v_nil)) | ((with_reducible apply v_q); exact rfl; exact rfl; exact rfl)) | ((with_reducible apply rd_id); first | (apply Rd.old; (first | (with_reducible assumption) | exact c0 | exact c1 | exact c2 | exact c3 | exact c4 | exact c5 | exact c6 | exact c7 | exact c8 | exact d0 | exact d1 | exact d2 | exact d3 | exact d4 | exact d5); first | exact List.not_mem_nil | exact m0 | exact m1 | exact m2 | exact m3 | exact m4 | exact m5 | exact m6 | exact m7 | exact m8 | exact m9)))
      all_goals (repeat (first | exact FrSub.nil | (apply FrSub.cons; exact rfl)))
    clear hF4 hf4 hw4
    intro F5 a5 w5 hF5 hf5 hw5
    show Code.wpIn _ _ _ _ _ _ _
    have hf5' := hf5.sub hF5
    clear hf5 hF5
    have hbkx := hbk
    refine wpIn_seq ?_
    -- the end of a round
    have fin : ∀ (Z : Exit → Act → World → Prop) (F7 : Fr) (a7 : Act) (w7 : World) (pre' : List (Ix nb)), FrSub F7 [(0, .func (.yield l) #[] #[]), (1, .pointer (some ⟨b0, 0, none⟩)), (2, .pointer (some ⟨b1, 0, none⟩)), (3, .pointer (some ⟨b2, 0, none⟩)), (12, .int .i64 (nb : Int)), (13, .int .i64 (k : Int))] → Frm [] 44 F7 a7 → J pre' w7 → behind pre' (k + 1) → OfN (some ⟨gB', oB', none⟩) nb f sts pre' (k + 1) w7 →
        (∀ a8 w8, ((∃ k pre, k ≤ nb ∧ Frm [] 44 [(0, .func (.yield l) #[] #[]), (1, .pointer (some ⟨b0, 0, none⟩)), (2, .pointer (some ⟨b1, 0, none⟩)), (3, .pointer (some ⟨b2, 0, none⟩)), (12, .int .i64 (nb : Int)), (13, .int .i64 (k : Int))] a8 ∧ J pre w8 ∧ behind pre k ∧ OfN (some ⟨gB', oB', none⟩) nb f sts pre k w8) ∧ nb - slot13 a8 < nb - slot13 a2) → Z .normal a8 w8) →
        Code.wpIn Fence.wide n Try.prog (Code.region 5 #[⟨some 43, .binOp .add 3 (.tmp 13) (.const (.int .i64 1)) 3, 3, "office.go:16", #[], none⟩, ⟨some 13, .move (.tmp 43), 3, "office.go:16", #[{ on := 0, ground := .data }], none⟩] false) Z a7 w7 := by
      intro Z F7 a7 w7 pre' hF7 hf7 hJ7 hb7 hN7 hZ
      refine g_region (c := cx w7 44) (R := fun F' => FrSub F' [(0, .func (.yield l) #[] #[]), (1, .pointer (some ⟨b0, 0, none⟩)), (2, .pointer (some ⟨b1, 0, none⟩)), (3, .pointer (some ⟨b2, 0, none⟩)), (12, .int .i64 (nb : Int)), (13, .int .i64 ((k : Int) + 1))]) (hf7.sub hF7) (Has.start w7) ?_ ?_
      · all_goals (try with_reducible apply gx_id)
        repeat' (first | ((with_reducible apply oq_id); first | (apply oq_fn; exact rfl; first | exact trivial | (refine ⟨?_, ?_⟩ <;> omega) | (refine ⟨?_, ?_, ?_⟩ <;> omega) | omega | skip)) | ((with_reducible apply gx_id); first | ((with_reducible apply v_nil)) | ((with_reducible apply v_q); exact rfl; exact rfl; exact rfl)))
        all_goals (repeat (first | exact FrSub.nil | (apply FrSub.cons; exact rfl)))
      intro F8 a8 w8 hF8 hf8 hw8
      have hf8' := hf8.sub hF8
      have hs8 : slot13 a8 = k + 1 := by
        have := hf8'.at_ 13 (.int .i64 ((k : Int) + 1)) rfl
        unfold slot13
        rw [this]
        simp only
        omega
      obtain ⟨bk7, hr7, hn7⟩ := hN7
      exact hZ a8 w8 ⟨⟨k + 1, pre', by omega, hf8', hJe _ _ _ hJ7 hw8.ext.ext, hb7, bk7, hr7.ext hw8.ext.ext, hn7⟩, by rw [hs8, hs2]; omega⟩
    -- behind a booking that is none of these
    have none_ : mtB f sts x = false → ∀ (w7 : World), Ext w3 w7 → J pre w7 ∧ behind pre (k + 1) ∧ OfN (some ⟨gB', oB', none⟩) nb f sts pre (k + 1) w7 := fun hm w7 e7 =>
      ⟨hJe _ _ _ hJ3 e7, fun p hp => Nat.lt_succ_of_lt (hb2 p hp), bk, hbk.ext e7, fun j y hj hjk hy => by
        by_cases hjk' : j < k
        · exact hno j y hj hjk' hy
        · obtain rfl : j = k := by omega
          rw [hx] at hy
          rw [← Option.some.inj hy]
          exact hm⟩
    by_cases h1 : x.flight = f
    · subst h1
      have HC := fun w1 h => containsU8_calls x.state S ns cs sts w1 h hns
      cases hq : sts.any fun s => decide (x.state = s) with
      | false =>
        rw [hq] at HC
        have hm : mtB x.flight sts x = false := by unfold mtB; rw [hq]; simp
        refine g_mixIn (c := cx w3 44) (id := 4) (R := fun F' => FrSub F' [(0, .func (.yield l) #[] #[]), (1, .pointer (some ⟨b0, 0, none⟩)), (2, .pointer (some ⟨b1, 0, none⟩)), (3, .pointer (some ⟨b2, 0, none⟩)), (12, .int .i64 (nb : Int)), (13, .int .i64 (k : Int)), (37, .bool false)]) [0, 1, 2, 3, 4, 5, 6, 7, 8, 9, 10, 11, 12, 13, 14, 15, 16] 3 #[false, false, false, false, false, false, false, false, false, false, false, false, false, false, false, false, false, true, true, true] (by kernel_rfl) (by kernel_rfl) rfl hf5' hw5 ?_ ?_
        · all_goals (try with_reducible apply gx_id)
          repeat' (first | ((with_reducible apply oq_id); first | (apply oq_fn; exact rfl; first | exact trivial | (refine ⟨?_, ?_⟩ <;> omega) | (refine ⟨?_, ?_, ?_⟩ <;> omega) | omega | skip) | ((with_reducible apply oq_load); exact rfl; exact rfl) | ((with_reducible apply oq_call (k := 101) (hc := Try.call101)); exact rfl; exact rfl; exact fun D w1 hw1 => HC w1 (hst.ext hw1.ext.ext))) | ((with_reducible apply gx_id); first | ((with_reducible apply v_nil)) | ((with_reducible apply v_q); exact rfl; exact rfl; exact rfl) | ((with_reducible apply v_skip); exact rfl; exact rfl; exact rfl) | ((with_reducible apply v_splitD); exact rfl; exact rfl; all_goals first | (intro hp; try (exfalso; omega)) | skip)) | ((with_reducible apply rd_id); first | (apply Rd.old; (first | (with_reducible assumption) | exact c0 | exact c1 | exact c2 | exact c3 | exact c4 | exact c5 | exact c6 | exact c7 | exact c8 | exact d0 | exact d1 | exact d2 | exact d3 | exact d4 | exact d5); first | exact List.not_mem_nil | exact m0 | exact m1 | exact m2 | exact m3 | exact m4 | exact m5 | exact m6 | exact m7 | exact m8 | exact m9)))
          all_goals (repeat (first | exact FrSub.nil | (apply FrSub.cons; exact rfl)))
        intro F6 a6 w6 hF6 hf6 hw6
        have hf6' := hf6.sub hF6
        refine SInI_one (i := 17) (by decide +kernel) rfl ?_
        refine wpOpIn_off rfl (runs_spec hf6' rfl) ?_
        have hf7 := hf6'.put (d := 40) rfl undef
        refine wpAnyIn_one (i := 18) (by decide +kernel) ?_
        refine wpOpIn_off rfl (runs_spec hf7 rfl) ?_
        have hf8 := hf7.put (d := 41) rfl undef
        refine wpAnyIn_one (i := 19) (by decide +kernel) ?_
        refine wpOpIn_on rfl (runs_spec hf8 rfl) ?_
        refine wpIn_oq (c := cx w3 44) (v := .bool false) hf8 hw6 rfl rfl (by apply oq_fn; exact rfl; exact trivial) ?_
        intro a9 w9 hf9 hw9
        refine wpAnyIn_done (by decide +kernel) ?_ _
        show Code.wpIn _ _ _ _ _ _ _
        refine wpIn_cond_false (by have := hf9.at_ 42 _ rfl; simp [Act.eval, Array.getD_eq_getD_getElem?, this]) ?_
        refine wpIn_skip ?_
        show Code.wpIn _ _ _ _ _ _ _
        obtain ⟨g1, g2, g3⟩ := none_ hm w9 hw9.ext.ext
        refine fin _ _ _ _ pre ?_ hf9 g1 g2 g3 fun a8 w8 h => h
        (repeat (first | exact FrSub.nil | (apply FrSub.cons; exact rfl)))
      | true =>
        rw [hq] at HC
        have hm : mtB x.flight sts x = true := by unfold mtB; rw [hq]; simp
        refine g_mixIn (c := cx w3 44) (id := 4) (R := fun F' => FrSub F' [(0, .func (.yield l) #[] #[]), (1, .pointer (some ⟨b0, 0, none⟩)), (2, .pointer (some ⟨b1, 0, none⟩)), (3, .pointer (some ⟨b2, 0, none⟩)), (12, .int .i64 (nb : Int)), (13, .int .i64 (k : Int)), (6, .pointer (some ⟨gB', oB' + k * 3, none⟩)), (37, .bool true), (38, .func (.yield l) #[] #[]), (39, .pointer (some ⟨gB', oB' + k * 3, none⟩))]) [0, 1, 2, 3, 4, 5, 6, 7, 8, 9, 10, 11, 12, 13, 14, 15, 16] 3 #[false, false, false, false, false, false, false, false, false, false, false, false, false, false, false, false, false, true, true, true] (by kernel_rfl) (by kernel_rfl) rfl hf5' hw5 ?_ ?_
        · all_goals (try with_reducible apply gx_id)
          repeat' (first | ((with_reducible apply oq_id); first | (apply oq_fn; exact rfl; first | exact trivial | (refine ⟨?_, ?_⟩ <;> omega) | (refine ⟨?_, ?_, ?_⟩ <;> omega) | omega | skip) | ((with_reducible apply oq_load); exact rfl; exact rfl) | ((with_reducible apply oq_call (k := 101) (hc := Try.call101)); exact rfl; exact rfl; exact fun D w1 hw1 => HC w1 (hst.ext hw1.ext.ext))) | ((with_reducible apply gx_id); first | ((with_reducible apply v_nil)) | ((with_reducible apply v_q); exact rfl; exact rfl; exact rfl) | ((with_reducible apply v_splitD); exact rfl; exact rfl; all_goals first | (intro hp; try (exfalso; omega)) | skip)) | ((with_reducible apply rd_id); first | (apply Rd.old; (first | (with_reducible assumption) | exact c0 | exact c1 | exact c2 | exact c3 | exact c4 | exact c5 | exact c6 | exact c7 | exact c8 | exact d0 | exact d1 | exact d2 | exact d3 | exact d4 | exact d5); first | exact List.not_mem_nil | exact m0 | exact m1 | exact m2 | exact m3 | exact m4 | exact m5 | exact m6 | exact m7 | exact m8 | exact m9)))
          all_goals (repeat (first | exact FrSub.nil | (apply FrSub.cons; exact rfl)))
        intro F6 a6 w6 hF6 hf6 hw6
        have hf6' := hf6.sub hF6
        have e6 := hw6.ext.ext
        refine SInI_one (i := 17) (by decide +kernel) rfl ?_
        refine wpOpIn_on rfl (runs_spec hf6' rfl) ?_
        have e38 := hf6'.at_ 38 _ rfl
        have e39 := hf6'.at_ 39 _ rfl
        refine wpIn_yield (l := l) (args := #[.pointer (some ⟨gB', oB' + k * 3, none⟩)]) ?_ (HY.out pre ⟨k, hlt⟩ w6 (hJe _ _ _ hJ3 e6) ⟨hb2, bk, hbk.ext e6, fun y hy => by rw [hx] at hy; rw [← Option.some.inj hy]; exact hm, hno⟩) ?_
        · simp [execOp, resolve, invoke, go_sem, Act.eval, Array.getD_eq_getD_getElem?, e38, e39]
        rintro e w7 (⟨rfl, hJ7⟩ | ⟨rfl, hJ7⟩)
        · refine ⟨_, rfl, ?_⟩
          have hf7 := hf6'.put (d := 40) rfl (.bool true)
          refine wpAnyIn_one (i := 18) (by decide +kernel) ?_
          refine wpOpIn_on rfl (runs_spec hf7 rfl) ?_
          refine wpIn_oq (c := cx w7 44) (H := []) (D := []) (v := .bool false) hf7 (Has.start w7) rfl rfl (by apply oq_fn; exact rfl; exact trivial) ?_
          intro a8 w8 hf8 hw8
          refine wpAnyIn_one (i := 19) (by decide +kernel) ?_
          refine wpOpIn_on rfl (runs_spec hf8 rfl) ?_
          refine wpIn_oq (c := cx w7 44) (v := .bool false) hf8 hw8 rfl rfl (by apply oq_fn; exact rfl; exact trivial) ?_
          intro a9 w9 hf9 hw9
          refine wpAnyIn_done (by decide +kernel) ?_ _
          show Code.wpIn _ _ _ _ _ _ _
          refine wpIn_cond_false (by have := hf9.at_ 42 _ rfl; simp [Act.eval, Array.getD_eq_getD_getElem?, this]) ?_
          refine wpIn_skip ?_
          show Code.wpIn _ _ _ _ _ _ _
          obtain ⟨_, _, _, _, _, bk7, hbk7⟩ := hJR _ _ hJ7
          refine fin _ _ _ _ (pre ++ [⟨k, hlt⟩]) ?_ hf9 (hJe _ _ _ hJ7 hw9.ext.ext) ?_ ⟨bk7, hbk7.ext hw9.ext.ext, ?_⟩ fun a8 w8 h => h
          · (repeat (first | exact FrSub.nil | (apply FrSub.cons; exact rfl)))
          · intro p hp
            rcases List.mem_append.1 hp with h | h
            · exact Nat.lt_succ_of_lt (hb2 p h)
            · rw [List.mem_singleton.1 h]; exact Nat.lt_succ_self k
          · intro j y hj hjk
            have := hj ⟨k, hlt⟩ (List.mem_append_right _ (List.mem_singleton.2 rfl))
            simp only at this
            omega
        · refine ⟨_, rfl, ?_⟩
          have hf7 := hf6'.put (d := 40) rfl (.bool false)
          refine wpAnyIn_one (i := 18) (by decide +kernel) ?_
          refine wpOpIn_on rfl (runs_spec hf7 rfl) ?_
          refine wpIn_oq (c := cx w7 44) (H := []) (D := []) (v := .bool true) hf7 (Has.start w7) rfl rfl (by apply oq_fn; exact rfl; exact trivial) ?_
          intro a8 w8 hf8 hw8
          refine wpAnyIn_one (i := 19) (by decide +kernel) ?_
          refine wpOpIn_on rfl (runs_spec hf8 rfl) ?_
          refine wpIn_oq (c := cx w7 44) (v := .bool true) hf8 hw8 rfl rfl (by apply oq_fn; exact rfl; exact trivial) ?_
          intro a9 w9 hf9 hw9
          refine wpAnyIn_done (by decide +kernel) ?_ _
          show Code.wpIn _ _ _ _ _ _ _
          refine wpIn_cond_true (by have := hf9.at_ 42 _ rfl; simp [Act.eval, Array.getD_eq_getD_getElem?, this]) ?_
          refine wpIn_ret ?_
          repeat (first | refine then_ret ?_ | refine inBlock_ret ?_)
          exact bodyPost_ret (results_none rfl _ _ _) (by rw [hf9.defers]; rfl) ⟨⟨_, rfl⟩, .inr ⟨_, hXe _ _ _ hJ7 hw9.ext.ext⟩⟩
    · have hm : mtB f sts x = false := by unfold mtB; rw [decide_eq_false h1]; rfl
      refine g_mixIn (c := cx w3 44) (id := 4) (R := fun F' => FrSub F' [(0, .func (.yield l) #[] #[]), (1, .pointer (some ⟨b0, 0, none⟩)), (2, .pointer (some ⟨b1, 0, none⟩)), (3, .pointer (some ⟨b2, 0, none⟩)), (12, .int .i64 (nb : Int)), (13, .int .i64 (k : Int)), (37, .bool false)]) [0, 1, 2, 3, 4, 5, 6, 7, 8, 9, 10, 11, 12, 13, 14, 15, 16] 3 #[false, false, false, false, false, false, false, false, false, false, false, false, false, false, false, false, false, true, true, true] (by kernel_rfl) (by kernel_rfl) rfl hf5' hw5 ?_ ?_
      · all_goals (try with_reducible apply gx_id)
        repeat' (first | ((with_reducible apply oq_id); first | (apply oq_fn; exact rfl; first | exact trivial | (refine ⟨?_, ?_⟩ <;> omega) | (refine ⟨?_, ?_, ?_⟩ <;> omega) | omega | skip) | ((with_reducible apply oq_load); exact rfl; exact rfl)) | ((with_reducible apply gx_id); first | ((with_reducible apply v_nil)) | ((with_reducible apply v_q); exact rfl; exact rfl; exact rfl) | ((with_reducible apply v_skip); exact rfl; exact rfl; exact rfl) | ((with_reducible apply v_splitD); exact rfl; exact rfl; all_goals first | (intro hp; try (exfalso; omega)) | skip)) | ((with_reducible apply rd_id); first | (apply Rd.old; (first | (with_reducible assumption) | exact c0 | exact c1 | exact c2 | exact c3 | exact c4 | exact c5 | exact c6 | exact c7 | exact c8 | exact d0 | exact d1 | exact d2 | exact d3 | exact d4 | exact d5); first | exact List.not_mem_nil | exact m0 | exact m1 | exact m2 | exact m3 | exact m4 | exact m5 | exact m6 | exact m7 | exact m8 | exact m9)))
        all_goals (repeat (first | exact FrSub.nil | (apply FrSub.cons; exact rfl)))
      intro F6 a6 w6 hF6 hf6 hw6
      have hf6' := hf6.sub hF6
      refine SInI_one (i := 17) (by decide +kernel) rfl ?_
      refine wpOpIn_off rfl (runs_spec hf6' rfl) ?_
      have hf7 := hf6'.put (d := 40) rfl undef
      refine wpAnyIn_one (i := 18) (by decide +kernel) ?_
      refine wpOpIn_off rfl (runs_spec hf7 rfl) ?_
      have hf8 := hf7.put (d := 41) rfl undef
      refine wpAnyIn_one (i := 19) (by decide +kernel) ?_
      refine wpOpIn_on rfl (runs_spec hf8 rfl) ?_
      refine wpIn_oq (c := cx w3 44) (v := .bool false) hf8 hw6 rfl rfl (by apply oq_fn; exact rfl; exact trivial) ?_
      intro a9 w9 hf9 hw9
      refine wpAnyIn_done (by decide +kernel) ?_ _
      show Code.wpIn _ _ _ _ _ _ _
      refine wpIn_cond_false (by have := hf9.at_ 42 _ rfl; simp [Act.eval, Array.getD_eq_getD_getElem?, this]) ?_
      refine wpIn_skip ?_
      show Code.wpIn _ _ _ _ _ _ _
      obtain ⟨g1, g2, g3⟩ := none_ hm w9 hw9.ext.ext
      refine fin _ _ _ _ pre ?_ hf9 g1 g2 g3 fun a8 w8 h => h
      (repeat (first | exact FrSub.nil | (apply FrSub.cons; exact rfl)))
  · obtain rfl : k = nb := by omega
    refine wpIn_cond_false (by have := hf3'.at_ 14 _ rfl; simp [Act.eval, Array.getD_eq_getD_getElem?, this]) ?_
    refine wpIn_exit ?_
    refine then_exit (then_exit (inBlock_exit ?_))
    refine bodyPost_end (results_none rfl _ _ _) (by rw [hf3'.defers]; rfl) ?_
    refine ⟨⟨_, rfl⟩, .inl ⟨pre, ⟨bk, hbk, fun j y hj hy => ?_⟩, hJ3⟩⟩
    have hjl := (List.getElem?_eq_some_iff.1 hy).1
    have hl := hbk.len
    simp only [List.length_map] at hl
    exact hno j y hj (by omega) hy

end Go.Proofs.Ytmlmgipngbndgaa
