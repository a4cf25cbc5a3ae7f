/- What the statement computes, walked. -/
import Derived.Test.YtmlmgipngbndgaaPkN
import Derived.Test.YtmlmgipngbndgaaPkE
import Derived.Test.YtmlmgipngbndgaaPkD
import Derived.Test.YtmlmgipngbndgaaPkL
import Derived.Test.YtmlmgipngbndgaaPkC
import Derived.Test.YtmlmgipngbndgaaPkO
/- A plan drawn from a list of numbers. -/
namespace Go.Proofs.Ytmlmgipngbndgaa
open Go.RowKit
attribute [local irreducible] OQ OS OX Rd T TL GX GL AL AI RV wpG SAny Calls
set_option maxRecDepth 100000
set_option maxHeartbeats 2000000
set_option linter.unusedVariables false
set_option linter.unusedSimpArgs false

/-- Is there an inspection before flight i? -/
def flagB (pk : List Int) (i : Nat) : Bool := match pk[i % pk.length]? with | some x => decide (200 < x) | none => false
def planV (pk : List Int) (n : Nat) : List Int := ((List.range n).filter fun i => flagB pk i).map fun i : Nat => (i : Int)
theorem planV_zero (pk : List Int) : planV pk 0 = [] := rfl
theorem planV_succ (pk : List Int) (n : Nat) : planV pk (n + 1) = planV pk n ++ (if flagB pk n = true then [(n : Int)] else []) := by
  unfold planV
  rw [List.range_succ, List.filter_append, List.map_append]
  congr 1
  by_cases h : flagB pk n = true <;> simp [h]
theorem planV_len (pk : List Int) (n : Nat) : (planV pk n).length ≤ n := by
  unfold planV
  rw [List.length_map]
  exact Nat.le_trans (List.length_filter_le _ _) (by simp)
theorem oq_remN {c : Cx} {F : Fr} {H : Hp} {d : Option Tmp} {ty t t' : TypeId} {pos : String} {af : Array Edge} {g : Option (Nat × Bool)} {x y : Operand} {m n : Nat} (hx : ev F x = some (.int .i64 (m : Nat))) (hy : ev F y = some (.int .i64 (n : Nat))) (h0 : n ≠ 0) : OQ c ⟨d, .binOp .rem t x y t', ty, pos, af, g⟩ F H (.int .i64 ((m % n : Nat) : Int)) :=
  (oq_rem hx hy (by omega)).as (by rw [Int.ofNat_tmod])
/-- What plan hands out. -/
def PlnV (pl : List Int) (V : Value) (H : Hp) : Prop := ∃ o, (o = none → pl = []) ∧ V = planS pl o ∧ H = planH pl o

theorem plan_T (A : Option Addr) (n c : Nat) (B : Option Addr) (m cb : Nat) (pk : List Int) (w : World) (hr : RdS w 1 B m (pk.map u8Cells)) (hn : n ≤ 1000) :
    Calls Try.prog 55 #[.slice A n c, .slice B m cb] w fun e w' => ∃ V H', e = .returned V ∧ PlnV (planV pk n) V H' ∧ Has w ⟨[], []⟩ H' w' := by
  have hl := hr.len
  simp only [List.length_map] at hl
  refine enterF (c := cx w 31) Try.func55 rfl rfl rfl rfl ?_
  repeat' (first | ((with_reducible apply oq_id); first | (apply oq_fn; exact rfl; first | exact trivial | (refine ⟨?_, ?_⟩ <;> omega) | (refine ⟨?_, ?_, ?_⟩ <;> omega) | omega | skip)) | ((with_reducible apply tl_id); first | ((with_reducible apply tl_nil)) | ((with_reducible apply u_q); exact rfl; exact rfl; exact rfl; exact rfl)) | ((with_reducible apply t_id); first | ((with_reducible apply t_seq)) | (apply t_region; kernel_rfl) | ((with_reducible apply t_block))) | with_reducible apply q_thenN)
  apply t_loopK (ι := Nat × List Int × Option (Nat × Nat)) [1, 4, 8, 30] (fun z => [(9, .int .i64 (z.1 : Nat)), (5, planS z.2.1 z.2.2)]) (fun z => planH z.2.1 z.2.2) (fun z => z.1 ≤ n ∧ z.2.1 = planV pk z.1 ∧ (z.2.2 = none → z.2.1 = [])) (fun z => n - z.1) ((0, [], none))
  (repeat (first | exact KeepF.nil | (apply KeepF.cons; exact rfl) | apply KeepF.skip))
  (repeat (first | exact FrSub.nil | (apply FrSub.cons; exact rfl)))
  (repeat (first | exact HpSub.refl _ | (apply HpSub.consE; (repeat (first | exact P0 | apply P1)); exact rfl) | exact HpSub.nil))
  · exact ⟨Nat.zero_le _, rfl, fun _ => rfl⟩
  rintro ⟨i, pre, o⟩ ⟨hi, hpl, hpre⟩
  simp only at hi hpl hpre
  by_cases hlt : i < n
  · have hlen := planV_len pk i
    have hsu := planV_succ pk i
    rw [← hpl] at hlen hsu
    have hcase : (m = 0 ∧ flagB pk i = false) ∨ (0 < m ∧ ∃ x, pk[i % m]? = some x ∧ ((200 < x ∧ flagB pk i = true) ∨ (¬ 200 < x ∧ flagB pk i = false))) := by
      unfold flagB
      rw [hl]
      by_cases hm : m = 0
      · left
        refine ⟨hm, ?_⟩
        rw [List.getElem?_eq_none (by rw [hl, hm]; exact Nat.zero_le _)]
      · right
        refine ⟨by omega, ?_⟩
        have hlt := Nat.mod_lt i (show 0 < m by omega)
        obtain ⟨x, hx⟩ : ∃ x, pk[i % m]? = some x := ⟨_, List.getElem?_eq_getElem (by omega)⟩
        refine ⟨x, hx, ?_⟩
        rw [hx]
        simp only
        by_cases h : 200 < x
        · exact .inl ⟨h, decide_eq_true h⟩
        · exact .inr ⟨h, decide_eq_false h⟩
    rcases hcase with ⟨hm, hf⟩ | ⟨hm, x, hx, ⟨hgt, hf⟩ | ⟨hgt, hf⟩⟩
    · rw [hf] at hsu
      simp only [Bool.false_eq_true, if_false, List.append_nil] at hsu
      repeat' (first | ((with_reducible apply oq_id); first | ((with_reducible apply oq_lssT); exact rfl; exact rfl; omega) | ((with_reducible apply oq_gtrF); exact rfl; exact rfl; omega) | (apply oq_fn; exact rfl; first | exact trivial | (refine ⟨?_, ?_⟩ <;> omega) | (refine ⟨?_, ?_, ?_⟩ <;> omega) | omega | skip)) | ((with_reducible apply tl_id); first | ((with_reducible apply tl_nil)) | ((with_reducible apply u_q); exact rfl; exact rfl; exact rfl; exact rfl) | ((with_reducible apply u_skip); exact rfl; exact rfl; exact rfl)) | ((with_reducible apply t_id); first | ((with_reducible apply t_seq)) | (apply t_region; kernel_rfl) | ((with_reducible apply t_condT); exact rfl) | ((with_reducible apply t_condF); exact rfl) | ((with_reducible apply t_skip)) | ((with_reducible apply t_block))) | with_reducible apply q_thenN | with_reducible apply q_blockN)
      all_goals (refine ⟨(i + 1, pre, o), ⟨(by simp only; omega), hsu.symm, hpre⟩, (by simp only; omega), ?_, ?_⟩)
      · try simp only [List.cons_append, List.nil_append]
        (repeat (first | exact FrSub.nil | (apply FrSub.cons; exact rfl)))
      · try simp only [List.cons_append, List.nil_append]
        (repeat (first | exact HpSub.refl _ | (apply HpSub.consE; (repeat (first | exact P0 | apply P1)); exact rfl) | exact HpSub.nil))
    · have hml := Nat.mod_lt i hm
      obtain ⟨b1, o1, x', rfl, _, hx', c0⟩ := u8_read hr hml
      rw [hx] at hx'
      cases hx'
      rw [hf] at hsu
      simp only [if_true] at hsu
      rcases o with _ | ⟨go, co⟩
      · obtain rfl := hpre rfl
        try simp only [planS_none, planS_some, planH_none, planH_some, List.cons_append, List.nil_append]
        repeat' (first | ((with_reducible apply oq_id); first | (focus ((with_reducible apply oq_remN); exact rfl; exact rfl; omega)) | (focus ((with_reducible apply oq_indexAddrN); exact rfl; exact rfl; exact rfl; exact rfl; omega)) | ((with_reducible apply oq_lssT); exact rfl; exact rfl; omega) | ((with_reducible apply oq_gtrT); exact rfl; exact rfl; omega) | (apply oq_fn; exact rfl; first | exact trivial | (refine ⟨?_, ?_⟩ <;> omega) | (refine ⟨?_, ?_, ?_⟩ <;> omega) | omega | skip) | ((with_reducible apply oq_load); exact rfl; exact rfl)) | ((with_reducible apply tl_id); first | ((with_reducible apply tl_nil)) | ((with_reducible apply u_q); exact rfl; exact rfl; exact rfl; exact rfl) | ((with_reducible apply u_s); exact rfl; exact rfl; exact rfl)) | ((with_reducible apply os_id); first | ((with_reducible apply os_x); exact rfl) | ((with_reducible apply os_appendNil (hk := app_ok41)); exact rfl; exact rfl)) | ((with_reducible apply ox_id); first | ((with_reducible apply ox_buildSlice1); exact rfl; exact rfl; exact rfl; exact rfl; exact rfl; exact rfl; intro _)) | ((with_reducible apply rd_id); first | (apply Rd.own; (repeat (first | exact P0 | apply P1)); exact rfl; done) | (apply Rd.old; (first | (with_reducible assumption) | exact c0 | exact c1 | exact c2 | exact c3 | exact c4 | exact c5 | exact c6 | exact c7 | exact c8 | exact d0 | exact d1 | exact d2 | exact d3 | exact d4 | exact d5); first | exact List.not_mem_nil | exact m0 | exact m1 | exact m2 | exact m3 | exact m4 | exact m5 | exact m6 | exact m7 | exact m8 | exact m9)) | ((with_reducible apply t_id); first | ((with_reducible apply t_seq)) | (apply t_region; kernel_rfl) | ((with_reducible apply t_condT); exact rfl) | ((with_reducible apply t_skip)) | ((with_reducible apply t_block))) | with_reducible apply q_thenN | with_reducible apply q_blockN | exact Rdn.zero | apply Rdn.succ | exact Nat.le_of_ble_eq_true rfl | exact (rfl : (_ : Bool) = true) | (intro _ _; with_reducible apply tl_id))
        all_goals (rename_i gN cN; refine ⟨(i + 1, [] ++ [(i : Int)], some (gN, cN)), ⟨(by simp only; omega), hsu.symm, (fun h => by cases h)⟩, (by simp only; omega), ?_, ?_⟩)
        all_goals first
          | ((try simp only [planS_none, planS_some, planH_none, planH_some, List.cons_append, List.nil_append]); (repeat (first | exact FrSub.nil | (apply FrSub.cons; exact rfl) | (apply FrSub.consE; exact rfl; (focus (simp; done))))); done)
          | ((try simp only [planS_none, planS_some, planH_none, planH_some, List.cons_append, List.nil_append]); (repeat (first | exact HpSub.refl _ | (apply HpSub.consE; (repeat (first | exact P0 | apply P1)); first | exact rfl | ((focus (simp [iv]; done)))) | exact HpSub.nil)); done)
      · try simp only [planS_none, planS_some, planH_none, planH_some, List.cons_append, List.nil_append]
        repeat' (first | ((with_reducible apply oq_id); first | (focus ((with_reducible apply oq_remN); exact rfl; exact rfl; omega)) | (focus ((with_reducible apply oq_indexAddrN); exact rfl; exact rfl; exact rfl; exact rfl; omega)) | ((with_reducible apply oq_lssT); exact rfl; exact rfl; omega) | ((with_reducible apply oq_gtrT); exact rfl; exact rfl; omega) | (apply oq_fn; exact rfl; first | exact trivial | (refine ⟨?_, ?_⟩ <;> omega) | (refine ⟨?_, ?_, ?_⟩ <;> omega) | omega | skip) | ((with_reducible apply oq_load); exact rfl; exact rfl)) | ((with_reducible apply tl_id); first | ((with_reducible apply tl_nil)) | ((with_reducible apply u_q); exact rfl; exact rfl; exact rfl; exact rfl) | ((with_reducible apply u_s); exact rfl; exact rfl; exact rfl)) | ((with_reducible apply os_id); first | ((with_reducible apply os_x); exact rfl) | ((with_reducible apply os_append (hk := app_ok41)); exact rfl; exact rfl; (repeat (first | exact P0 | apply P1)))) | ((with_reducible apply ox_id); first | ((with_reducible apply ox_buildSlice1); exact rfl; exact rfl; exact rfl; exact rfl; exact rfl; exact rfl; intro _)) | ((with_reducible apply rd_id); first | (apply Rd.own; (repeat (first | exact P0 | apply P1)); exact rfl; done) | (apply Rd.old; (first | (with_reducible assumption) | exact c0 | exact c1 | exact c2 | exact c3 | exact c4 | exact c5 | exact c6 | exact c7 | exact c8 | exact d0 | exact d1 | exact d2 | exact d3 | exact d4 | exact d5); first | exact List.not_mem_nil | exact m0 | exact m1 | exact m2 | exact m3 | exact m4 | exact m5 | exact m6 | exact m7 | exact m8 | exact m9)) | ((with_reducible apply t_id); first | ((with_reducible apply t_seq)) | (apply t_region; kernel_rfl) | ((with_reducible apply t_condT); exact rfl) | ((with_reducible apply t_skip)) | ((with_reducible apply t_block))) | with_reducible apply q_thenN | with_reducible apply q_blockN | exact Rdn.zero | apply Rdn.succ | (simp only [List.length_map, Nat.mul_one]; done) | exact Nat.le_of_ble_eq_true rfl | exact (rfl : (_ : Bool) = true) | omega | (intro _ _; with_reducible apply tl_id))
        all_goals (rename_i gN cN; refine ⟨(i + 1, pre ++ [(i : Int)], some (gN, cN)), ⟨(by simp only; omega), hsu.symm, (fun h => by cases h)⟩, (by simp only; omega), ?_, ?_⟩)
        all_goals first
          | ((try simp only [planS_none, planS_some, planH_none, planH_some, List.cons_append, List.nil_append]); (repeat (first | exact FrSub.nil | (apply FrSub.cons; exact rfl) | (apply FrSub.consE; exact rfl; (focus (simp; done))))); done)
          | ((try simp only [planS_none, planS_some, planH_none, planH_some, List.cons_append, List.nil_append]); (repeat (first | exact HpSub.refl _ | (apply HpSub.consE; (repeat (first | exact P0 | apply P1)); first | exact rfl | ((focus (simp [iv]; done)))) | exact HpSub.nil)); done)
    · have hml := Nat.mod_lt i hm
      obtain ⟨b1, o1, x', rfl, _, hx', c0⟩ := u8_read hr hml
      rw [hx] at hx'
      cases hx'
      rw [hf] at hsu
      simp only [Bool.false_eq_true, if_false, List.append_nil] at hsu
      repeat' (first | ((with_reducible apply oq_id); first | (focus ((with_reducible apply oq_remN); exact rfl; exact rfl; omega)) | (focus ((with_reducible apply oq_indexAddrN); exact rfl; exact rfl; exact rfl; exact rfl; omega)) | ((with_reducible apply oq_lssT); exact rfl; exact rfl; omega) | ((with_reducible apply oq_gtrT); exact rfl; exact rfl; omega) | ((with_reducible apply oq_gtrF); exact rfl; exact rfl; omega) | (apply oq_fn; exact rfl; first | exact trivial | (refine ⟨?_, ?_⟩ <;> omega) | (refine ⟨?_, ?_, ?_⟩ <;> omega) | omega | skip) | ((with_reducible apply oq_load); exact rfl; exact rfl)) | ((with_reducible apply tl_id); first | ((with_reducible apply tl_nil)) | ((with_reducible apply u_q); exact rfl; exact rfl; exact rfl; exact rfl)) | ((with_reducible apply rd_id); first | (apply Rd.old; (first | (with_reducible assumption) | exact c0 | exact c1 | exact c2 | exact c3 | exact c4 | exact c5 | exact c6 | exact c7 | exact c8 | exact d0 | exact d1 | exact d2 | exact d3 | exact d4 | exact d5); first | exact List.not_mem_nil | exact m0 | exact m1 | exact m2 | exact m3 | exact m4 | exact m5 | exact m6 | exact m7 | exact m8 | exact m9)) | ((with_reducible apply t_id); first | ((with_reducible apply t_seq)) | (apply t_region; kernel_rfl) | ((with_reducible apply t_condT); exact rfl) | ((with_reducible apply t_condF); exact rfl) | ((with_reducible apply t_skip)) | ((with_reducible apply t_block))) | with_reducible apply q_thenN | with_reducible apply q_blockN)
      all_goals (refine ⟨(i + 1, pre, o), ⟨(by simp only; omega), hsu.symm, hpre⟩, (by simp only; omega), ?_, ?_⟩)
      · try simp only [List.cons_append, List.nil_append]
        (repeat (first | exact FrSub.nil | (apply FrSub.cons; exact rfl)))
      · try simp only [List.cons_append, List.nil_append]
        (repeat (first | exact HpSub.refl _ | (apply HpSub.consE; (repeat (first | exact P0 | apply P1)); exact rfl) | exact HpSub.nil))
  · obtain rfl : i = n := by omega
    subst hpl
    repeat' (first | ((with_reducible apply oq_id); first | ((with_reducible apply oq_lssF); exact rfl; exact rfl; omega) | (apply oq_fn; exact rfl; first | exact trivial | (refine ⟨?_, ?_⟩ <;> omega) | (refine ⟨?_, ?_, ?_⟩ <;> omega) | omega | skip)) | ((with_reducible apply tl_id); first | ((with_reducible apply tl_nil)) | ((with_reducible apply u_q); exact rfl; exact rfl; exact rfl; exact rfl)) | ((with_reducible apply t_id); first | ((with_reducible apply t_seq)) | (apply t_region; kernel_rfl) | ((with_reducible apply t_condF); exact rfl) | ((with_reducible apply t_ret)) | ((with_reducible apply t_exit))) | with_reducible apply q_thenN | with_reducible apply q_thenE | ((with_reducible apply q_blockE); exact rfl) | ((with_reducible apply end_ret)) | exact rvs_nil | ((with_reducible apply rvs_cons)) | ((with_reducible apply rv_tmp); exact rfl))
    all_goals (refine ⟨_, ⟨o, hpre, rfl, rfl⟩, ?_⟩)
    all_goals (simp only [List.append_nil]; exact HpSub.refl _)

end Go.Proofs.Ytmlmgipngbndgaa
/- The best plan of inspections: plain laws. -/
namespace Go.Proofs.Ytmlmgipngbndgaa
set_option linter.unusedVariables false
set_option linter.unusedSimpArgs false
/-- How many inspections come before the flights before i. -/
def cti (pl : List Int) (i : Nat) : Nat := (pl.filter fun x => decide (x < (i : Int))).length
theorem cti_zero {pl : List Int} (h : ∀ x ∈ pl, 0 ≤ x) : cti pl 0 = 0 := by
  unfold cti
  rw [List.filter_eq_nil_iff.2 fun x hx => ?_]
  · rfl
  · have := h x hx
    simp; omega
theorem cti_all {pl : List Int} {n : Nat} (h : ∀ x ∈ pl, x < (n : Int)) : cti pl n = pl.length := by
  unfold cti
  rw [List.filter_eq_self.2 fun x hx => by simpa using h x hx]
theorem cti_none {pl : List Int} {n : Nat} (h : ∀ x ∈ pl, (n : Int) ≤ x) : cti pl n = 0 := by
  unfold cti
  rw [List.filter_eq_nil_iff.2 fun x hx => ?_]
  · rfl
  · have := h x hx
    simp; omega
theorem cti_append (a b : List Int) (i : Nat) : cti (a ++ b) i = cti a i + cti b i := by
  unfold cti
  rw [List.filter_append, List.length_append]
theorem cti_le (pl : List Int) (i : Nat) : cti pl i ≤ pl.length := List.length_filter_le _ _
theorem inPl_cons (a : Int) (l : List Int) (i : Nat) : inPl (a :: l) i = (decide ((i : Int) = a) || inPl l i) := by
  unfold inPl; rw [List.any_cons]
theorem inPl_append (a b : List Int) (i : Nat) : inPl (a ++ b) i = (inPl a i || inPl b i) := by
  unfold inPl; rw [List.any_append]
theorem inPl_no {pl : List Int} {i : Nat} (h : ∀ x ∈ pl, x ≠ (i : Int)) : inPl pl i = false := by
  unfold inPl
  rw [List.any_eq_false]
  intro x hx
  have := h x hx
  simp; omega
theorem cti_cons (a : Int) (l : List Int) (i : Nat) : cti (a :: l) i = (if a < (i : Int) then 1 else 0) + cti l i := by
  unfold cti
  by_cases h : a < (i : Int)
  · rw [List.filter_cons_of_pos (by simpa using h), if_pos h]; simp; omega
  · rw [List.filter_cons_of_neg (by simpa using h), if_neg h]; simp
theorem cti_succ : ∀ {pl : List Int}, pl.Pairwise (· < ·) → ∀ i : Nat, cti pl (i + 1) = cti pl i + (if inPl pl i = true then 1 else 0)
  | [], _, i => rfl
  | a :: l, h, i => by
    obtain ⟨h1, h2⟩ := List.pairwise_cons.1 h
    have ih := cti_succ h2 i
    rw [cti_cons, cti_cons, inPl_cons, ih]
    by_cases ha : (i : Int) = a
    · have e1 : inPl l i = false := inPl_no fun x hx => by have := h1 x hx; omega
      have c1 : a < ((i + 1 : Nat) : Int) := by omega
      have c2 : ¬ a < (i : Int) := by omega
      rw [e1]
      simp only [if_pos c1, if_neg c2]
      simp [ha]
      omega
    · rw [show decide ((i : Int) = a) = false by simpa using ha, Bool.false_or]
      by_cases hb : a < (i : Int)
      · rw [if_pos (by omega), if_pos hb]; omega
      · rw [if_neg (by omega), if_neg hb]; omega
/-- A plan as it has to be. -/
structure PlOk (n : Nat) (pl : List Int) : Prop where
  inc : pl.Pairwise (· < ·)
  rng : ∀ x ∈ pl, 0 ≤ x ∧ x < (n : Int)
theorem PlOk.planB {n : Nat} {pl : List Int} (h : PlOk n pl) : Go.Proofs.Ytmlmgipngbndgaa.planB n pl = true := by
  refine planB_yes fun j hj => ?_
  have hx : pl[j]? = some pl[j] := List.getElem?_eq_getElem hj
  have hr := h.rng pl[j] (List.getElem_mem hj)
  unfold plAt
  rw [hx]
  simp only [Bool.and_eq_true, Bool.or_eq_true, decide_eq_true_eq]
  refine ⟨hr, ?_⟩
  by_cases h0 : j = 0
  · exact .inl h0
  · right
    have hy : pl[j - 1]? = some pl[j - 1] := List.getElem?_eq_getElem (by omega)
    rw [hy]
    simp only [decide_eq_true_eq]
    exact List.pairwise_iff_getElem.1 h.inc (j - 1) j (by omega) hj (by omega)
theorem PlOk.of {n : Nat} {pl : List Int} (h : Go.Proofs.Ytmlmgipngbndgaa.planB n pl = true) : PlOk n pl := by
  refine ⟨List.pairwise_iff_getElem.2 fun i j hi hj hij => planB_incr h hij (List.getElem?_eq_getElem hi) (List.getElem?_eq_getElem hj), fun x hx => ?_⟩
  obtain ⟨j, hj, rfl⟩ := List.getElem_of_mem hx
  exact planB_in h (List.getElem?_eq_getElem hj)
theorem planV_ok (pk : List Int) {n m : Nat} (hm : n ≤ m) : PlOk m (planV pk n) := by
  refine ⟨?_, fun x hx => ?_⟩
  · unfold planV
    refine List.pairwise_map.2 ?_
    refine (List.Pairwise.filter _ List.pairwise_lt_range).imp fun h => ?_
    omega
  · unfold planV at hx
    obtain ⟨i, hi, rfl⟩ := List.mem_map.1 hx
    have := List.mem_range.1 (List.mem_filter.1 hi).1
    omega
theorem planV_in (pk : List Int) (n i : Nat) : inPl (planV pk n) i = (decide (i < n) && flagB pk i) := by
  rw [Bool.eq_iff_iff]
  unfold inPl planV
  simp only [List.any_eq_true, List.mem_map, List.mem_filter, List.mem_range, decide_eq_true_eq, Bool.and_eq_true]
  constructor
  · rintro ⟨x, ⟨j, ⟨h1, h2⟩, rfl⟩, h3⟩
    obtain rfl : i = j := by omega
    exact ⟨h1, h2⟩
  · rintro ⟨h1, h2⟩
    exact ⟨_, ⟨i, ⟨h1, h2⟩, rfl⟩, rfl⟩
/-- No flight of a plan is late. -/
def Fine (ev gr du : Int) (fs pl : List Int) : Prop := ∀ j, j < fs.length → -gr ≤ leftK ev du fs pl (j + 1)
theorem fine_late {ev gr du : Int} {fs pl : List Int} (h : Fine ev gr du fs pl) : lateV ev gr du fs pl = (leftK ev du fs pl fs.length, 0, 0) :=
  lateV_no fun j hj => by unfold lateAt; rw [decide_eq_false_iff_not]; have := h j hj; omega
theorem late_cases (ev gr du : Int) (fs pl : List Int) : Fine ev gr du fs pl ∨ ∃ k, k < fs.length ∧ leftK ev du fs pl (k + 1) < -gr ∧ (∀ j, j < k → -gr ≤ leftK ev du fs pl (j + 1)) ∧ lateV ev gr du fs pl = (0, (k : Int), 83) := by
  cases hq : (List.range fs.length).find? (lateAt ev gr du fs pl) with
  | none =>
    left
    rw [List.find?_eq_none] at hq
    intro j hj
    have := hq j (List.mem_range.2 hj)
    unfold lateAt at this
    simp at this
    omega
  | some k =>
    right
    have hv : lateV ev gr du fs pl = (0, (k : Int), 83) := by unfold lateV; rw [hq]
    rw [List.find?_range_eq_some] at hq
    obtain ⟨h1, h2, h3⟩ := hq
    unfold lateAt at h1
    simp only [decide_eq_true_eq] at h1
    refine ⟨k, by simpa using h2, h1, fun j hj => ?_, hv⟩
    have := h3 j hj
    unfold lateAt at this
    simp at this
    omega
theorem left_succ {ev du : Int} {fs pl : List Int} {i : Nat} {x : Int} (hx : fs[i]? = some x) : leftK ev du fs pl (i + 1) = (if inPl pl i = true then min (leftK ev du fs pl i) 0 + ev else leftK ev du fs pl i) - x := by
  show stp ev (inPl pl i) (leftK ev du fs pl i) (fs[i]?.getD 0) = _
  rw [hx]
  rfl
theorem drop_at {fs : List Int} {i : Nat} {x : Int} (hx : fs[i]? = some x) : fs.drop i = x :: fs.drop (i + 1) := by
  obtain ⟨h1, h2⟩ := List.getElem?_eq_some_iff.1 hx
  rw [List.drop_eq_getElem_cons h1, h2]
/-- What a plan that is fine needs. -/
theorem fine_need {ev gr du : Int} {fs pl : List Int} (hp : PlOk fs.length pl) (hf : Fine ev gr du fs pl) (hlow : -never ≤ leftK ev du fs pl fs.length) : ∀ m i : Nat, m + i = fs.length → ndL ev gr (fs.drop i) (pl.length - cti pl i) ≤ leftK ev du fs pl i
  | 0, i, h => by
    obtain rfl : i = fs.length := by omega
    rw [List.drop_length, cti_all fun x hx => (hp.rng x hx).2, Nat.sub_self, nd_nil, if_pos rfl]
    exact hlow
  | m + 1, i, h => by
    obtain ⟨x, hx⟩ : ∃ x, fs[i]? = some x := ⟨_, List.getElem?_eq_getElem (by omega)⟩
    have ih := fine_need hp hf hlow m (i + 1) (by omega)
    have hl := left_succ (ev := ev) (du := du) (pl := pl) hx
    have hfi := hf i (by omega)
    have hc := cti_succ hp.inc i
    have hle := cti_le pl (i + 1)
    rw [drop_at hx]
    by_cases hi : inPl pl i = true
    · rw [if_pos hi] at hl hc
      refine nd_iff.2 (.inr ⟨pl.length - cti pl (i + 1), by omega, ?_⟩)
      unfold befV
      omega
    · rw [if_neg hi] at hl hc
      rw [show cti pl (i + 1) = cti pl i by omega] at ih
      refine nd_iff.2 (.inl ?_)
      unfold befV
      omega
/-! The plan of Inspect -/
theorem insG_in {ev gr : Int} : ∀ {t : List Int} {i k : Nat} {L : Int}, (∀ x ∈ insG ev gr t i k L, (i : Int) ≤ x ∧ x < (i + t.length : Nat)) ∧ (insG ev gr t i k L).Pairwise (· < ·)
  | [], i, k, L => by unfold insG; simp
  | f :: t, i, k, L => by
    by_cases h : befV gr f (ndL ev gr t k) ≤ L
    · rw [insG_skip h]
      obtain ⟨h1, h2⟩ := insG_in (ev := ev) (gr := gr) (t := t) (i := i + 1) (k := k) (L := L - f)
      refine ⟨fun x hx => ?_, h2⟩
      have := h1 x hx
      simp only [List.length_cons]
      omega
    · rw [insG_ins h]
      obtain ⟨h1, h2⟩ := insG_in (ev := ev) (gr := gr) (t := t) (i := i + 1) (k := k - 1) (L := min L 0 + ev - f)
      refine ⟨fun x hx => ?_, List.pairwise_cons.2 ⟨fun x hx => ?_, h2⟩⟩
      · simp only [List.length_cons]
        rcases List.mem_cons.1 hx with rfl | hx
        · omega
        · have := h1 x hx; omega
      · have := h1 x hx; omega
/-- The plan of Inspect, flight by flight: no inspection where none is needed. -/
structure Lazy (ev gr du : Int) (fs V : List Int) (K : Nat) : Prop where
  ok : PlOk fs.length V
  len : V.length = K
  fine : Fine ev gr du fs V
  lazy : ∀ (i : Nat) x, fs[i]? = some x → inPl V i = true → ¬ befV gr x (ndL ev gr (fs.drop (i + 1)) (K - cti V i)) ≤ leftK ev du fs V i
theorem insG_lazy {ev gr du : Int} {fs : List Int} {K : Nat} (h0 : ndL ev gr fs K ≤ du) (hup : ∀ i, i ≤ fs.length → leftK ev du fs (insG ev gr fs 0 K du) i < never) : Lazy ev gr du fs (insG ev gr fs 0 K du) K := by
  obtain ⟨V, hV⟩ : ∃ V, insG ev gr fs 0 K du = V := ⟨_, rfl⟩
  have hin := insG_in (ev := ev) (gr := gr) (t := fs) (i := 0) (k := K) (L := du)
  rw [hV] at hin hup ⊢
  have hok : PlOk fs.length V := ⟨hin.2, fun x hx => by have := hin.1 x hx; omega⟩
  have key : ∀ i, i ≤ fs.length → ∃ pre k, V = pre ++ insG ev gr (fs.drop i) i k (leftK ev du fs V i) ∧ (∀ x ∈ pre, x < (i : Int)) ∧ pre.length + k = K ∧ ndL ev gr (fs.drop i) k ≤ leftK ev du fs V i ∧
      (∀ j, j < i → -gr ≤ leftK ev du fs V (j + 1)) ∧ (∀ (j : Nat) x, j < i → fs[j]? = some x → inPl V j = true → ¬ befV gr x (ndL ev gr (fs.drop (j + 1)) (K - cti V j)) ≤ leftK ev du fs V j) := by
    intro i
    induction i with
    | zero =>
      intro _
      refine ⟨[], K, ?_, by simp, by simp, ?_, fun j hj => by omega, fun j x hj => by omega⟩
      · rw [List.drop_zero, List.nil_append, ← hV]; rfl
      · rw [List.drop_zero]; exact h0
    | succ i ih =>
      intro hi
      obtain ⟨pre, k, e1, e2, e3, e4, e5, e6⟩ := ih (by omega)
      obtain ⟨x, hx⟩ : ∃ x, fs[i]? = some x := ⟨_, List.getElem?_eq_getElem (by omega)⟩
      rw [drop_at hx] at e1 e4
      have hl := left_succ (ev := ev) (du := du) (pl := V) hx
      have hpi : inPl pre i = false := inPl_no fun y hy => by have := e2 y hy; omega
      have hcnt : cti V i = pre.length := by
        rw [e1, cti_append, cti_all e2, cti_none fun y hy => (insG_in.1 y hy).1]; rfl
      by_cases hs : befV gr x (ndL ev gr (fs.drop (i + 1)) k) ≤ leftK ev du fs V i
      · rw [insG_skip hs] at e1
        have hVi : inPl V i = false := by
          rw [e1, inPl_append, hpi, Bool.false_or]
          exact inPl_no fun y hy => by have := (insG_in.1 y hy).1; omega
        rw [hVi] at hl
        simp only [Bool.false_eq_true, if_false] at hl
        refine ⟨pre, k, by rw [hl]; exact e1, fun y hy => by have := e2 y hy; omega, e3, by rw [hl]; exact nd_skip hs, fun j hj => ?_, fun j y hj hy hji => ?_⟩
        · by_cases hji : j = i
          · subst hji; rw [hl]; unfold befV at hs; omega
          · exact e5 j (by omega)
        · by_cases hij : j = i
          · subst hij; rw [hVi] at hji; cases hji
          · exact e6 j y (by omega) hy hji
      · rw [insG_ins hs] at e1
        obtain ⟨n1, n2, n3⟩ := nd_ins e4 hs
        have hVi : inPl V i = true := by
          rw [e1, inPl_append, inPl_cons]
          simp
        rw [hVi] at hl
        simp only [if_true] at hl
        refine ⟨pre ++ [(i : Int)], k - 1, by rw [hl, List.append_assoc]; exact e1, fun y hy => ?_, by rw [List.length_append]; simp; omega, by rw [hl]; exact n2, fun j hj => ?_, fun j y hj hy hji => ?_⟩
        · rcases List.mem_append.1 hy with hy | hy
          · have := e2 y hy; omega
          · rw [List.mem_singleton.1 hy]; omega
        · by_cases hji : j = i
          · subst hji; rw [hl]; omega
          · exact e5 j (by omega)
        · by_cases hij : j = i
          · subst hij
            rw [hx] at hy
            cases hy
            rw [hcnt, show K - pre.length = k by omega]
            exact hs
          · exact e6 j y (by omega) hy hji
  obtain ⟨pre, k, e1, e2, e3, e4, e5, e6⟩ := key fs.length (Nat.le_refl _)
  rw [List.drop_length] at e1 e4
  have hk : k = 0 := by
    refine Decidable.by_contra fun hk => ?_
    rw [nd_nil, if_neg hk] at e4
    have := hup fs.length (Nat.le_refl _)
    omega
  rw [insG, List.append_nil] at e1
  refine ⟨hok, by rw [e1]; omega, e5, fun i x hx => e6 i x (List.getElem?_eq_some_iff.1 hx).1 hx⟩
/-- No plan with as many inspections has more left, or an inspection that is later. -/
theorem lazy_best {ev gr du : Int} {fs V q : List Int} {K : Nat} (hev : 1 ≤ ev) (hV : Lazy ev gr du fs V K) (hq : PlOk fs.length q) (hf : Fine ev gr du fs q) (hl : q.length = K) (hlow : -never ≤ leftK ev du fs q fs.length) (hpos : ∀ f ∈ fs, 1 ≤ f) :
    ∀ i, i ≤ fs.length → ∃ D : Nat, cti q i = cti V i + D ∧ leftK ev du fs q i ≤ leftK ev du fs V i + (D : Int) * ev ∧ (1 ≤ D → leftK ev du fs q i ≤ ev) := by
  intro i
  induction i with
  | zero =>
    intro _
    refine ⟨0, ?_, ?_, fun h => by omega⟩
    · rw [cti_zero fun x hx => (hq.rng x hx).1, cti_zero fun x hx => (hV.ok.rng x hx).1]
    · simp [leftK]
  | succ i ih =>
    intro hi
    obtain ⟨D, d1, d2, d3⟩ := ih (by omega)
    obtain ⟨x, hx⟩ : ∃ x, fs[i]? = some x := ⟨_, List.getElem?_eq_getElem (by omega)⟩
    have hx1 := hpos x (List.mem_of_getElem? hx)
    have lv := left_succ (ev := ev) (du := du) (pl := V) hx
    have lq := left_succ (ev := ev) (du := du) (pl := q) hx
    have cv := cti_succ hV.ok.inc i
    have cq := cti_succ hq.inc i
    have hDe : (1 : Nat) ≤ D → ev ≤ (D : Int) * ev := fun h => by
      have := Int.mul_le_mul_of_nonneg_right (show (1 : Int) ≤ (D : Int) by omega) (show (0 : Int) ≤ ev by omega)
      omega
    by_cases hv : inPl V i = true
    · rw [if_pos hv] at lv cv
      by_cases hqi : inPl q i = true
      · rw [if_pos hqi] at lq cq
        refine ⟨D, by omega, ?_, fun h => by omega⟩
        have h0 : (0 : Int) ≤ (D : Int) * ev := Int.mul_nonneg (by omega) (by omega)
        omega
      · rw [if_neg hqi] at lq cq
        have hD : 1 ≤ D := by
          refine Decidable.by_contra fun hD => ?_
          obtain rfl : D = 0 := by omega
          have hz := hV.lazy i x hx hv
          have hn := fine_need hq hf hlow (fs.length - (i + 1)) (i + 1) (by omega)
          have hfi := hf i (by omega)
          rw [hl, cq, d1] at hn
          simp only [Nat.add_zero] at hn
          refine hz ?_
          unfold befV
          simp only [Int.zero_mul, Int.natCast_zero] at d2
          omega
        obtain ⟨E, rfl⟩ : ∃ E, D = E + 1 := ⟨D - 1, by omega⟩
        have hmul : ((E + 1 : Nat) : Int) * ev = (E : Int) * ev + ev := by rw [Int.natCast_add, Int.add_mul]; simp
        have h0 : (0 : Int) ≤ (E : Int) * ev := Int.mul_nonneg (by omega) (by omega)
        have h3 := d3 hD
        rw [hmul] at d2
        refine ⟨E, by omega, ?_, fun h => by omega⟩
        omega
    · rw [if_neg hv] at lv cv
      by_cases hqi : inPl q i = true
      · rw [if_pos hqi] at lq cq
        have hmul : ((D + 1 : Nat) : Int) * ev = (D : Int) * ev + ev := by rw [Int.natCast_add, Int.add_mul]; simp
        refine ⟨D + 1, by omega, ?_, fun h => by omega⟩
        rw [hmul]
        omega
      · rw [if_neg hqi] at lq cq
        refine ⟨D, by omega, by omega, fun h => ?_⟩
        have := d3 h
        omega
theorem cti_at {V : List Int} (h : V.Pairwise (· < ·)) {j a : Nat} {x : Int} (hj : V[j]? = some x) (ha : x < (a : Int)) : j + 1 ≤ cti V a := by
  obtain ⟨hl, he⟩ := List.getElem?_eq_some_iff.1 hj
  have h1 : cti (V.take (j + 1)) a = (V.take (j + 1)).length := cti_all fun y hy => by
    obtain ⟨i, hi, rfl⟩ := List.getElem_of_mem hy
    rw [List.getElem_take]
    have hij : i ≤ j := by simp at hi; omega
    by_cases hne : i = j
    · subst hne; omega
    · have := List.pairwise_iff_getElem.1 h i j (by omega) hl (by omega)
      omega
  have h2 := cti_append (V.take (j + 1)) (V.drop (j + 1)) a
  rw [List.take_append_drop, h1, List.length_take] at h2
  omega
theorem cti_below {q : List Int} (h : q.Pairwise (· < ·)) {j a : Nat} {y : Int} (hj : q[j]? = some y) (ha : (a : Int) ≤ y) : cti q a ≤ j := by
  obtain ⟨hl, he⟩ := List.getElem?_eq_some_iff.1 hj
  have h1 : cti (q.drop j) a = 0 := cti_none fun z hz => by
    obtain ⟨i, hi, rfl⟩ := List.getElem_of_mem hz
    rw [List.getElem_drop]
    by_cases hne : i = 0
    · subst hne; simp only [Nat.add_zero]; omega
    · have := List.pairwise_iff_getElem.1 h j (j + i) hl (by simp at hi; omega) (by omega)
      omega
  have h2 := cti_append (q.take j) (q.drop j) a
  have h3 := cti_le (q.take j) a
  rw [List.take_append_drop, h1] at h2
  rw [List.length_take] at h3
  omega
theorem lazy_later {ev gr du : Int} {fs V q : List Int} {K : Nat} (hev : 1 ≤ ev) (hV : Lazy ev gr du fs V K) (hq : PlOk fs.length q) (hf : Fine ev gr du fs q) (hl : q.length = K) (hlow : -never ≤ leftK ev du fs q fs.length) (hpos : ∀ f ∈ fs, 1 ≤ f) :
    leftK ev du fs q fs.length ≤ leftK ev du fs V fs.length ∧ ∀ (j : Nat) x y, V[j]? = some x → q[j]? = some y → y ≤ x := by
  have key := lazy_best hev hV hq hf hl hlow hpos
  constructor
  · obtain ⟨D, d1, d2, _⟩ := key fs.length (Nat.le_refl _)
    rw [cti_all fun x hx => (hq.rng x hx).2, cti_all fun x hx => (hV.ok.rng x hx).2, hl, hV.len] at d1
    obtain rfl : D = 0 := by omega
    simpa using d2
  · intro j x y hx hy
    refine Decidable.by_contra fun hlt => ?_
    have hr := hV.ok.rng x (List.mem_of_getElem? hx)
    obtain ⟨a, rfl⟩ : ∃ a : Nat, x = (a : Int) := ⟨x.toNat, by omega⟩
    obtain ⟨D, d1, _⟩ := key (a + 1) (by omega)
    have h1 := cti_at hV.ok.inc hx (show (a : Int) < ((a + 1 : Nat) : Int) by omega)
    have h2 := cti_below hq.inc (a := a + 1) hy (by omega)
    omega
end Go.Proofs.Ytmlmgipngbndgaa
/- What Inspect and plan hand out, read as lists; the law of inspections: plain. -/
namespace Go.Proofs.Ytmlmgipngbndgaa
open Go.RowKit
set_option linter.unusedVariables false
set_option linter.unusedSimpArgs false
abbrev ipH (pl : List Int) (o : Option (Nat × Nat)) : Hp := clH 3 1 (pl.map inCells).flatten o
theorem ip_flat : ∀ pl : List Int, (pl.map inCells).flatten = pl.map iv
  | [] => rfl
  | a :: l => by
    rw [List.map_cons, List.flatten_cons, ip_flat l]
    rfl
theorem ip_H {pl : List Int} (o : Option (Nat × Nat)) : planH pl o = ipH pl o := by
  unfold ipH
  rw [ip_flat]
  rcases o with _ | ⟨g, c⟩ <;> rfl
theorem ip_S {pl : List Int} {o : Option (Nat × Nat)} (h : o = none → pl = []) : planS pl o = .slice (clA o) pl.length (clC o) := by
  rcases o with _ | ⟨g, c⟩
  · rw [h rfl]; rfl
  · rfl
theorem ip_at {l : List Int} {k : Nat} {x : Int} (h : l[k]? = some x) : ((l.map inCells).flatten)[0 + k * 1]? = some (.int .i64 x) := by
  rw [Nat.zero_add]
  exact flat_at (f := inCells) (s := 1) (fun _ => rfl) h (j := 0) rfl
def PlnC (pl : List Int) (V : Value) (H : Hp) : Prop := ∃ o, (o = none → pl.length = 0) ∧ V = .slice (clA o) pl.length (clC o) ∧ H = ipH pl o
theorem planC_T (A : Option Addr) (n c : Nat) (B : Option Addr) (m cb : Nat) (pk : List Int) (w : World) (hr : RdS w 1 B m (pk.map u8Cells)) (hn : n ≤ 1000) :
    Calls Try.prog 55 #[.slice A n c, .slice B m cb] w fun e w' => ∃ V H', e = .returned V ∧ PlnC (planV pk n) V H' ∧ Has w ⟨[], []⟩ H' w' :=
  (plan_T A n c B m cb pk w hr hn).mono fun e w' ⟨V, H', h1, ⟨o, h2, h3, h4⟩, h5⟩ => ⟨V, H', h1, ⟨o, fun h => by rw [h2 h]; rfl, by rw [h3, ip_S h2], by rw [h4, ip_H]⟩, h5⟩
/-- The plan that Inspect hands out: none, where there is an error. -/
def insR (ev gr du : Int) (fs : List Int) : List Int := if insE ev gr du fs = 0 then insV ev gr du fs else []
def InsC (E : Int) (pl : List Int) (V : Value) (H : Hp) : Prop := ∃ o, (o = none → pl.length = 0) ∧ V = .tuple #[.slice (clA o) pl.length (clC o), .int .i64 E] ∧ H = ipH pl o
theorem inspC_T (ev gr du : Int) (A : Option Addr) (n c : Nat) (fs : List Int) (w : World) (hr : RdS w 1 A n (fs.map inCells)) (hn : n ≤ 1000) :
    Calls Try.prog 28 #[.agg #[.int .i64 ev, .int .i64 gr, .int .i64 du], .slice A n c] w fun e w' => ∃ V H', e = .returned V ∧ InsC (insE ev gr du fs) (insR ev gr du fs) V H' ∧ Has w ⟨[], []⟩ H' w' :=
  (inspect_T ev gr du A n c fs w hr hn).mono fun e w' ⟨V, H', h1, h2, h5⟩ => by
    refine ⟨V, H', h1, ?_, h5⟩
    unfold insR
    rcases h2 with ⟨h2, rfl, rfl⟩ | ⟨h2, o, h3, rfl, rfl⟩
    · rw [if_neg h2]
      exact ⟨none, fun _ => rfl, rfl, rfl⟩
    · rw [if_pos h2, h2]
      exact ⟨o, fun h => by rw [h3 h]; rfl, by rw [ip_S h3], by rw [ip_H]⟩
theorem left_up {ev gr du : Int} {fs pl : List Int} (h : caredE ev gr du fs = 0) : ∀ i, i ≤ fs.length → leftK ev du fs pl i ≤ 100000 := by
  obtain ⟨e1, e2, g1, g2, d1, d2, _, hf⟩ := cared_ok h
  intro i
  induction i with
  | zero => intro _; unfold leftK; omega
  | succ i ih =>
    intro hi
    obtain ⟨x, hx⟩ : ∃ x, fs[i]? = some x := ⟨_, List.getElem?_eq_getElem (by omega)⟩
    have h1 := hf x (List.mem_of_getElem? hx)
    have h2 := ih (by omega)
    rw [left_succ hx]
    split <;> omega
theorem fine_low {ev gr du : Int} {fs pl : List Int} (h : caredE ev gr du fs = 0) (hf : Fine ev gr du fs pl) : -100000 ≤ leftK ev du fs pl fs.length := by
  obtain ⟨e1, e2, g1, g2, d1, d2, _, _⟩ := cared_ok h
  by_cases h0 : fs.length = 0
  · rw [h0]; unfold leftK; omega
  · have := hf (fs.length - 1) (by omega)
    rw [show fs.length - 1 + 1 = fs.length by omega] at this
    omega
theorem few_neg {ev gr du : Int} {fs : List Int} (h : fewV ev gr du fs < 0) {j : Nat} (hj : j ≤ fs.length) : ¬ ndL ev gr fs j ≤ du := by
  unfold fewV idxV at h
  cases hq : ((List.range (fs.length + 1)).map (ndL ev gr fs)).findIdx? (fun x => decide (x ≤ du)) with
  | none =>
    have := List.findIdx?_eq_none_iff.1 hq (ndL ev gr fs j) (List.mem_map.2 ⟨j, List.mem_range.2 (by omega), rfl⟩)
    simpa using this
  | some i => rw [hq] at h; simp only at h; omega
theorem few_least {ev gr du : Int} {fs : List Int} {k : Nat} (h : fewV ev gr du fs = (k : Int)) {j : Nat} (hj : j < k) : ¬ ndL ev gr fs j ≤ du := by
  unfold fewV idxV at h
  cases hq : ((List.range (fs.length + 1)).map (ndL ev gr fs)).findIdx? (fun x => decide (x ≤ du)) with
  | none => rw [hq] at h; simp only at h; omega
  | some i =>
    rw [hq] at h
    simp only at h
    obtain rfl : i = k := by omega
    obtain ⟨hi, hp, hb⟩ := List.findIdx?_eq_some_iff_getElem.1 hq
    have := hb j hj
    simp only [List.getElem_map, List.getElem_range] at this
    simpa using this
theorem plan_short {n : Nat} {q : List Int} (hq : PlOk n q) : q.length ≤ n := by
  have h : ∀ m i : Nat, m + i = n → q.length ≤ cti q i + m := by
    intro m
    induction m with
    | zero => intro i hi; rw [cti_all fun x hx => by have := (hq.rng x hx).2; omega]; omega
    | succ m ih =>
      intro i hi
      have h1 := ih (i + 1) (by omega)
      have h2 := cti_succ hq.inc i
      split at h2 <;> omega
  have := h n 0 (by omega)
  rw [cti_zero fun x hx => (hq.rng x hx).1] at this
  omega
/-- The law of inspections, for any other plan. -/
theorem insp_law {ev gr du : Int} {fs q : List Int} (hc : caredE ev gr du fs = 0) (hq : PlOk fs.length q) :
    (insE ev gr du fs = 6 ∧ ∃ k : Nat, lateS ev gr du fs q = (0, (k : Int), 83)) ∨
    (insE ev gr du fs = 0 ∧ PlOk fs.length (insV ev gr du fs) ∧ lateS ev gr du fs (insV ev gr du fs) = (leftK ev du fs (insV ev gr du fs) fs.length, 0, 0) ∧
      ((∃ k : Nat, lateS ev gr du fs q = (0, (k : Int), 83)) ∨
       (lateS ev gr du fs q = (leftK ev du fs q fs.length, 0, 0) ∧ (insV ev gr du fs).length ≤ q.length ∧
        ((insV ev gr du fs).length = q.length → leftK ev du fs q fs.length ≤ leftK ev du fs (insV ev gr du fs) fs.length ∧ ∀ (j : Nat) x y, (insV ev gr du fs)[j]? = some x → q[j]? = some y → y ≤ x)))) := by
  obtain ⟨e1, e2, g1, g2, d1, d2, _, hf⟩ := cared_ok hc
  have hnv : never = 1099511627776 := rfl
  have hls : ∀ pl, PlOk fs.length pl → lateS ev gr du fs pl = lateV ev gr du fs pl := fun pl hp => by unfold lateS; rw [if_pos hc, hp.planB, if_pos rfl]
  have hneed : Fine ev gr du fs q → ndL ev gr fs q.length ≤ du := fun hfi => by
    have hlo := fine_low hc hfi
    have := fine_need hq hfi (by omega) fs.length 0 (by omega)
    rw [List.drop_zero, cti_zero fun x hx => (hq.rng x hx).1] at this
    exact this
  by_cases hfew : fewV ev gr du fs < 0
  · left
    refine ⟨by unfold insE; rw [if_pos hc, if_pos hfew], ?_⟩
    rw [hls q hq]
    rcases late_cases ev gr du fs q with h | ⟨k, _, _, _, h⟩
    · exact absurd (hneed h) (few_neg hfew (plan_short hq))
    · exact ⟨k, h⟩
  · right
    obtain ⟨K, hK⟩ : ∃ K : Nat, fewV ev gr du fs = (K : Int) := ⟨(fewV ev gr du fs).toNat, by omega⟩
    obtain ⟨hKn, hK0⟩ := few_spec hK
    have hV : insV ev gr du fs = insG ev gr fs 0 K du := by unfold insV; rw [hK]; rfl
    have hL := insG_lazy (ev := ev) (gr := gr) (du := du) hK0 fun i hi => by have := left_up (pl := insG ev gr fs 0 K du) hc i hi; omega
    rw [← hV] at hL
    refine ⟨by unfold insE; rw [if_pos hc, if_neg hfew], hL.ok, by rw [hls _ hL.ok, fine_late hL.fine], ?_⟩
    rw [hls q hq]
    rcases late_cases ev gr du fs q with h | ⟨k, _, _, _, h⟩
    · right
      have hle : K ≤ q.length := by
        refine Decidable.by_contra fun hlt => ?_
        exact few_least hK (show q.length < K by omega) (hneed h)
      rw [hL.len]
      refine ⟨fine_late h, hle, fun he => ?_⟩
      have hlo := fine_low hc h
      exact lazy_later e1 hL hq h he.symm (by omega) fun f hf' => (hf f hf').1
    · exact .inl ⟨k, h⟩
theorem cared_vals {ev gr du : Int} {fs : List Int} : caredE ev gr du fs = 0 ∨ caredE ev gr du fs = 2 ∨ caredE ev gr du fs = 4 ∨ caredE ev gr du fs = 82 := by
  unfold caredE
  split
  · split
    · simp
    · split <;> simp
  · simp
end Go.Proofs.Ytmlmgipngbndgaa
/- What is left, flight by flight: plain. -/
namespace Go.Proofs.Ytmlmgipngbndgaa
set_option linter.unusedVariables false
set_option linter.unusedSimpArgs false
theorem cared_take {ev gr du : Int} {fs : List Int} (h : caredE ev gr du fs = 0) (c : Nat) : caredE ev gr du (fs.take c) = 0 := by
  obtain ⟨e1, e2, g1, g2, d1, d2, hl, hf⟩ := cared_ok h
  have hl2 : ¬ 60 < (fs.take c).length := by simp; omega
  have h1 : careOk ev gr du = true := by
    cases hc : careOk ev gr du with
    | true => rfl
    | false => unfold caredE at h; rw [hc] at h; simp at h
  have h2 : allFrom 1 10000 (fs.take c) = true := by
    unfold allFrom
    rw [List.all_eq_true]
    intro f hm
    have := hf f (List.mem_of_mem_take hm)
    simpa using this
  unfold caredE
  rw [if_pos h1, if_neg hl2, if_pos h2]
theorem left_take (ev du : Int) (fs pk : List Int) {n c : Nat} (hn : c ≤ n) (hfl : n ≤ fs.length) : ∀ {i : Nat}, i ≤ c → leftK ev du (fs.take c) (planV pk c) i = leftK ev du fs (planV pk n) i
  | 0, _ => rfl
  | i + 1, h => by
    obtain ⟨x, hx⟩ : ∃ x, fs[i]? = some x := ⟨_, List.getElem?_eq_getElem (by omega)⟩
    have hx' : (fs.take c)[i]? = some x := by rw [List.getElem?_take, if_pos (by omega)]; exact hx
    rw [left_succ hx, left_succ hx', left_take ev du fs pk hn hfl (show i ≤ c by omega), planV_in, planV_in, show decide (i < c) = true by simp; omega, show decide (i < n) = true by simp; omega]
theorem left_next (ev du : Int) {fs pk : List Int} {n c : Nat} {x : Int} (hc : c < n) (hx : fs[c]? = some x) : leftK ev du fs (planV pk n) (c + 1) = (if flagB pk c = true then min (leftK ev du fs (planV pk n) c) 0 + ev else leftK ev du fs (planV pk n) c) - x := by
  rw [left_succ hx, planV_in, show decide (c < n) = true by simpa using hc, Bool.true_and]
theorem late_one {ev gr du : Int} {fs pl : List Int} {k : Nat} (hk : k < fs.length) (h1 : leftK ev du fs pl (k + 1) < -gr) (h2 : ∀ j, j < k → -gr ≤ leftK ev du fs pl (j + 1)) : lateV ev gr du fs pl = (0, (k : Int), 83) := by
  rcases late_cases ev gr du fs pl with h | ⟨k', e1, e2, e3, e4⟩
  · have := h k hk; omega
  · rcases Nat.lt_trichotomy k k' with h | h | h
    · have := e3 k h; omega
    · subst h; exact e4
    · have := h2 k' h; omega
/-- What is told of the flights before the cut, of one more, and of all. -/
theorem late_law {ev gr du : Int} {fs pk : List Int} {c : Nat} {x : Int} (h0 : caredE ev gr du fs = 0) (hx : fs[c]? = some x) :
    ∃ b a : Int, -100000 ≤ b ∧ b ≤ 100000 ∧ a = (if flagB pk c = true then min b 0 + ev else b) - x ∧
    ((∃ l, lateS ev gr du fs (planV pk fs.length) = (l, 0, 0) ∧ lateS ev gr du (fs.take c) (planV pk c) = (b, 0, 0) ∧ lateS ev gr du (fs.take (c + 1)) (planV pk (c + 1)) = (a, 0, 0) ∧ -gr ≤ a ∧ (c + 1 < fs.length ∨ l = a)) ∨
     (∃ k : Nat, k < c ∧ lateS ev gr du fs (planV pk fs.length) = (0, (k : Int), 83) ∧ lateS ev gr du (fs.take c) (planV pk c) = (0, (k : Int), 83) ∧ lateS ev gr du (fs.take (c + 1)) (planV pk (c + 1)) = (0, (k : Int), 83)) ∨
     (lateS ev gr du fs (planV pk fs.length) = (0, (c : Int), 83) ∧ lateS ev gr du (fs.take c) (planV pk c) = (b, 0, 0) ∧ lateS ev gr du (fs.take (c + 1)) (planV pk (c + 1)) = (0, (c : Int), 83) ∧ a < -gr) ∨
     (∃ k : Nat, c < k ∧ k < fs.length ∧ lateS ev gr du fs (planV pk fs.length) = (0, (k : Int), 83) ∧ lateS ev gr du (fs.take c) (planV pk c) = (b, 0, 0) ∧ lateS ev gr du (fs.take (c + 1)) (planV pk (c + 1)) = (a, 0, 0) ∧ -gr ≤ a)) := by
  obtain ⟨hcl, hxe⟩ := List.getElem?_eq_some_iff.1 hx
  have lt1 : (fs.take c).length = c := by simp; omega
  have lt2 : (fs.take (c + 1)).length = c + 1 := by simp; omega
  have hls : ∀ m, m ≤ fs.length → lateS ev gr du (fs.take m) (planV pk m) = lateV ev gr du (fs.take m) (planV pk m) := fun m hm => by
    have hok : PlOk (fs.take m).length (planV pk m) := planV_ok pk (by simp; omega)
    unfold lateS; rw [if_pos (cared_take h0 m), hok.planB, if_pos rfl]
  have s0 := hls fs.length (Nat.le_refl _)
  rw [List.take_length] at s0
  have s1 := hls c (by omega)
  have s2 := hls (c + 1) (by omega)
  rw [s0, s1, s2]
  have t1 : ∀ i, i ≤ c → leftK ev du (fs.take c) (planV pk c) i = leftK ev du fs (planV pk fs.length) i := fun i hi => left_take ev du fs pk (by omega) (Nat.le_refl _) hi
  have t2 : ∀ i, i ≤ c + 1 → leftK ev du (fs.take (c + 1)) (planV pk (c + 1)) i = leftK ev du fs (planV pk fs.length) i := fun i hi => left_take ev du fs pk (by omega) (Nat.le_refl _) hi
  have hnx := left_next ev du (pk := pk) hcl hx
  have hup := left_up (pl := planV pk fs.length) h0
  obtain ⟨e1, e2, g1, g2, d1, d2, hl, hf⟩ := cared_ok h0
  have f1 : (∀ j, j < c → -gr ≤ leftK ev du fs (planV pk fs.length) (j + 1)) → lateV ev gr du (fs.take c) (planV pk c) = (leftK ev du fs (planV pk fs.length) c, 0, 0) := fun h => by
    rw [fine_late fun j hj => by rw [t1 _ (by omega)]; exact h j (by omega), lt1, t1 _ (Nat.le_refl _)]
  have f2 : (∀ j, j < c + 1 → -gr ≤ leftK ev du fs (planV pk fs.length) (j + 1)) → lateV ev gr du (fs.take (c + 1)) (planV pk (c + 1)) = (leftK ev du fs (planV pk fs.length) (c + 1), 0, 0) := fun h => by
    rw [fine_late fun j hj => by rw [t2 _ (by omega)]; exact h j (by omega), lt2, t2 _ (Nat.le_refl _)]
  have hb : (∀ j, j < c → -gr ≤ leftK ev du fs (planV pk fs.length) (j + 1)) → -100000 ≤ leftK ev du fs (planV pk fs.length) c ∧ leftK ev du fs (planV pk fs.length) c ≤ 100000 := fun h => by
    refine ⟨?_, hup c (by omega)⟩
    by_cases hc0 : c = 0
    · subst hc0; unfold leftK; omega
    · have := h (c - 1) (by omega)
      rw [show c - 1 + 1 = c by omega] at this
      omega
  rcases late_cases ev gr du fs (planV pk fs.length) with h | ⟨k, k1, k2, k3, k4⟩
  · have h1 : ∀ j, j < c → -gr ≤ leftK ev du fs (planV pk fs.length) (j + 1) := fun j hj => h j (by omega)
    obtain ⟨b1, b2⟩ := hb h1
    refine ⟨leftK ev du fs (planV pk fs.length) c, leftK ev du fs (planV pk fs.length) (c + 1), b1, b2, hnx, .inl ⟨_, fine_late h, f1 h1, f2 fun j hj => h j (by omega), h c hcl, ?_⟩⟩
    by_cases hl : c + 1 < fs.length
    · exact .inl hl
    · right; rw [show c + 1 = fs.length by omega]
  · rcases Nat.lt_trichotomy k c with hkc | hkc | hkc
    · refine ⟨0, _, by omega, by omega, rfl, .inr (.inl ⟨k, hkc, k4, ?_, ?_⟩)⟩
      · exact late_one (by omega) (by rw [t1 _ (by omega)]; exact k2) fun j hj => by rw [t1 _ (by omega)]; exact k3 j hj
      · exact late_one (by omega) (by rw [t2 _ (by omega)]; exact k2) fun j hj => by rw [t2 _ (by omega)]; exact k3 j hj
    · subst hkc
      obtain ⟨b1, b2⟩ := hb k3
      refine ⟨leftK ev du fs (planV pk fs.length) k, leftK ev du fs (planV pk fs.length) (k + 1), b1, b2, hnx, .inr (.inr (.inl ⟨k4, f1 k3, ?_, k2⟩))⟩
      exact late_one (by omega) (by rw [t2 _ (by omega)]; exact k2) fun j hj => by rw [t2 _ (by omega)]; exact k3 j hj
    · have h1 : ∀ j, j < c → -gr ≤ leftK ev du fs (planV pk fs.length) (j + 1) := fun j hj => k3 j (by omega)
      obtain ⟨b1, b2⟩ := hb h1
      exact ⟨leftK ev du fs (planV pk fs.length) c, leftK ev du fs (planV pk fs.length) (c + 1), b1, b2, hnx, .inr (.inr (.inr ⟨k, hkc, k1, k4, f1 h1, f2 fun j hj => k3 j (by omega), k3 c hkc⟩))⟩
theorem lateS_bad {ev gr du : Int} {fs pl : List Int} (h : ¬ caredE ev gr du fs = 0) : lateS ev gr du fs pl = (0, 0, caredE ev gr du fs) := by
  unfold lateS; rw [if_neg h]
end Go.Proofs.Ytmlmgipngbndgaa
/- Lists that are cut: plain laws and rules. -/
namespace Go.Proofs.Ytmlmgipngbndgaa
open Go.RowKit
set_option linter.unusedVariables false
set_option linter.unusedSimpArgs false
def dropA (L : Option Addr) (l cap s : Nat) : Option Addr := match L with
  | none => none
  | some p => some (if cap = l then p else p.add (l * s))
section
variable {c : Cx} {F : Fr} {H : Hp} {d : Option Tmp} {ty t : TypeId} {pos : String} {af : Array Edge} {g : Option (Nat × Bool)} {x y : Operand} {a0 a1 : Bool} {s0 s1 : Nat} {z0 z1 : List Value} {k1 : TyK}
theorem oq_sliceHG {e len cap h : Nat} {L : Option Addr} (hn : L = none → len = 0 ∧ cap = 0) (ht : tyAt c.tys t = some ⟨a0, s0, z0, .slice e⟩) (he : tyAt c.tys e = some ⟨a1, s1, z1, k1⟩)
    (hx : ev F x = some (.slice L len cap)) (hy : ev F y = some (.int .i64 (h : Nat))) (h1 : h ≤ cap) :
    OQ c ⟨d, .slice t x none (some y) none, ty, pos, af, g⟩ F H (.slice L h cap) := .of fun D a w ha _ => by
  have hk := (c.ty ht).kind w
  have hs := (c.ty he).size w
  simp only [execOp, Option.map, ha.ev hx, ha.ev hy]
  rcases L with _ | ⟨b, o, q⟩
  · obtain ⟨rfl, rfl⟩ := hn rfl
    obtain rfl : h = 0 := by omega
    simp [Instr.sliceAt, Instr.slice, Instr.sliceBounds, Instr.sliceBound, asIntOf, Sem.run_bind, hk, hs, Result.andThen, go_sem, add_eq]
  · by_cases h2 : cap = 0
    · subst h2
      simp [Instr.sliceAt, Instr.slice, Instr.sliceBounds, Instr.sliceBound, asIntOf, Sem.run_bind, hk, hs, h1, Result.andThen, go_sem, add_eq]
    · simp [Instr.sliceAt, Instr.slice, Instr.sliceBounds, Instr.sliceBound, asIntOf, Sem.run_bind, hk, hs, h1, h2, Result.andThen, go_sem, add_eq]
theorem oq_sliceLG {e len cap l : Nat} {L : Option Addr} (hn : L = none → len = 0 ∧ cap = 0) (ht : tyAt c.tys t = some ⟨a0, s0, z0, .slice e⟩) (he : tyAt c.tys e = some ⟨a1, s1, z1, k1⟩)
    (hx : ev F x = some (.slice L len cap)) (hy : ev F y = some (.int .i64 (l : Nat))) (h1 : l ≤ len) :
    OQ c ⟨d, .slice t x (some y) none none, ty, pos, af, g⟩ F H (.slice (dropA L l cap s1) (len - l) (cap - l)) := .of fun D a w ha _ => by
  have hk := (c.ty ht).kind w
  have hs := (c.ty he).size w
  simp only [execOp, Option.map, ha.ev hx, ha.ev hy]
  rcases L with _ | ⟨b, o, q⟩
  · obtain ⟨rfl, rfl⟩ := hn rfl
    obtain rfl : l = 0 := by omega
    simp [dropA, Instr.sliceAt, Instr.slice, Instr.sliceBounds, Instr.sliceBound, asIntOf, Sem.run_bind, hk, hs, Result.andThen, go_sem, add_eq]
  · unfold dropA
    by_cases h2 : cap = l
    · subst h2
      simp [Instr.sliceAt, Instr.slice, Instr.sliceBounds, Instr.sliceBound, asIntOf, Sem.run_bind, hk, hs, h1, Result.andThen, go_sem, add_eq]
    · simp only [h2, if_false]
      simp [Instr.sliceAt, Instr.slice, Instr.sliceBounds, Instr.sliceBound, asIntOf, Sem.run_bind, hk, hs, h1, h2, Result.andThen, go_sem, add_eq]
end
theorem rows_take {α : Type} {f : α → List Value} {w : World} {k n h : Nat} {A : Option Addr} {l : List α} (hr : RdS w k A n (l.map f)) (hh : h ≤ n) : RdS w k A h ((l.take h).map f) := by
  have hl := hr.len
  simp only [List.length_map] at hl
  refine ⟨by simp; omega, fun hp => ?_⟩
  obtain ⟨b, o, hA, hb, hat⟩ := hr.at_ (by omega)
  refine ⟨b, o, hA, hb, fun i x hx => hat i x ?_⟩
  rw [List.map_take, List.getElem?_take] at hx
  split at hx
  · exact hx
  · cases hx
theorem rows_dropG {α : Type} {f : α → List Value} {w : World} {k n c j : Nat} {A : Option Addr} {l : List α} (hr : RdS w k A n (l.map f)) (hj : j ≤ n) (hc : n ≤ c) : RdS w k (dropA A j c k) (n - j) ((l.drop j).map f) := by
  have hl := hr.len
  simp only [List.length_map] at hl
  refine ⟨by simp; omega, fun hp => ?_⟩
  obtain ⟨b, o, hA, hb, hat⟩ := hr.at_ (by omega)
  subst hA
  refine ⟨b, o + j * k, by unfold dropA; simp only; rw [if_neg (by omega), add_eq], hb, fun i x hx => ?_⟩
  rw [List.map_drop, List.getElem?_drop] at hx
  obtain ⟨h1, h2⟩ := hat (j + i) x hx
  refine ⟨h1, fun q u hu => ?_⟩
  have := h2 q u hu
  rw [← this]
  congr 2
  rw [Nat.add_mul]
  omega
theorem run_cases (o : Off) (l : List Deal) : ∀ k, k ≤ l.length → okTo o l k ∨ ∃ j d, j < k ∧ okTo o l j ∧ l[j]? = some d ∧ ¬ doneE (stV o l j) d = 0
  | 0, _ => .inl (okTo_zero o l)
  | k + 1, hk => by
    rcases run_cases o l k (by omega) with h | ⟨j, d, h1, h2⟩
    · obtain ⟨d, hd⟩ : ∃ d, l[k]? = some d := ⟨_, List.getElem?_eq_getElem (by omega)⟩
      by_cases hE : doneE (stV o l k) d = 0
      · exact .inl (okTo_succ h hd hE)
      · exact .inr ⟨k, d, by omega, h, hd, hE⟩
    · exact .inr ⟨j, d, by omega, h2⟩
theorem stV_take {o : Off} {l : List Deal} {c k : Nat} (h : k ≤ c) : stV o (l.take c) k = stV o l k := by
  unfold stV
  rw [List.take_take, Nat.min_eq_left h]
theorem okTo_take {o : Off} {l : List Deal} {c k : Nat} (h : k ≤ c) (hk : okTo o l k) : okTo o (l.take c) k := fun j d hj hd => by
  rw [stV_take (by omega)]
  refine hk j d hj ?_
  rw [List.getElem?_take] at hd
  split at hd
  · exact hd
  · cases hd
end Go.Proofs.Ytmlmgipngbndgaa
/- Late. -/
namespace Go.Proofs.Ytmlmgipngbndgaa
open Go.RowKit
attribute [local irreducible] OQ OS OX Rd T TL GX GL AL AI RV wpG SAny Calls
set_option maxRecDepth 100000
set_option maxHeartbeats 2000000
set_option linter.unusedVariables false
set_option linter.unusedSimpArgs false

theorem plAt_no {n : Nat} {pl : List Int} {k : Nat} {x : Int} (h : plAt n pl k = false) (hx : pl[k]? = some x) : x < 0 ∨ n ≤ x ∨ (0 < k ∧ ∃ y, pl[k - 1]? = some y ∧ x ≤ y) := by
  unfold plAt at h
  rw [hx] at h
  simp only at h
  by_cases h1 : 0 ≤ x
  · by_cases h2 : x < n
    · simp only [h1, h2, decide_true, Bool.true_and, Bool.or_eq_false_iff, decide_eq_false_iff_not] at h
      refine .inr (.inr ⟨by omega, ?_⟩)
      cases hy : pl[k - 1]? with
      | none => rw [hy] at h; simp at h
      | some y =>
        rw [hy] at h
        simp only [decide_eq_false_iff_not] at h
        exact ⟨y, rfl, by omega⟩
    · exact .inr (.inl (by omega))
  · exact .inl (by omega)
theorem plAt_yes {n : Nat} {pl : List Int} {k : Nat} {x : Int} (h : plAt n pl k = true) (hx : pl[k]? = some x) : 0 ≤ x ∧ x < n ∧ (k = 0 ∨ ∀ y, pl[k - 1]? = some y → y < x) := by
  unfold plAt at h
  rw [hx] at h
  simp only [Bool.and_eq_true, decide_eq_true_eq, Bool.or_eq_true] at h
  refine ⟨h.1.1, h.1.2, ?_⟩
  rcases h.2 with h | h
  · exact .inl h
  · refine .inr fun y hy => ?_
    rw [hy] at h
    simpa using h

theorem late_calls (ev gr du : Int) (A : Option Addr) (n c : Nat) (fs : List Int) (A2 : Option Addr) (m c2 : Nat) (pl : List Int) (w : World) (hr : RdS w 1 A n (fs.map inCells)) (hn : n ≤ 1000000) (hr2 : RdS w 1 A2 m (pl.map inCells)) (hm : m ≤ 1000000) : Calls Try.prog 26 #[.agg #[.int .i64 ev, .int .i64 gr, .int .i64 du], .slice A n c, .slice A2 m c2] w fun e w' => e = .returned (.tuple #[.int .i64 (lateS ev gr du fs pl).1, .int .i64 (lateS ev gr du fs pl).2.1, .int .i64 (lateS ev gr du fs pl).2.2]) ∧ Ext w w' := by
  have hl := hr.len
  simp only [List.length_map] at hl
  have hl2 := hr2.len
  simp only [List.length_map] at hl2
  have HC := fun w1 (hx : Ext w w1) => checkFlights_calls ev gr du A n c fs w1 (hr.ext hx) hn
  by_cases hce : caredE ev gr du fs = 0
  · rw [hce] at HC
    have hS : lateS ev gr du fs pl = if planB n pl then lateV ev gr du fs pl else (0, 0, 2) := by unfold lateS; rw [if_pos hce, hl]
    obtain ⟨e1', e2', g1', g2', d1', d2', _, hfs⟩ := cared_ok hce
    have HB : ∀ w1, Ext w w1 → True := fun _ _ => trivial
    refine enterQ (c := cx w 77) Try.func26 rfl rfl rfl rfl ?_
    repeat' (first | ((with_reducible apply oq_id); first | (apply oq_fn; exact rfl; first | exact trivial | (refine ⟨?_, ?_⟩ <;> omega) | (refine ⟨?_, ?_, ?_⟩ <;> omega) | omega | skip) | ((with_reducible apply oq_loadAgg); exact rfl; exact rfl) | ((with_reducible apply oq_call (k := 71) (hc := Try.call71)); exact rfl; exact rfl; exact fun D w1 hw1 => HC w1 hw1.ext.ext)) | ((with_reducible apply tl_id); first | ((with_reducible apply tl_nil)) | ((with_reducible apply u_q); exact rfl; exact rfl; exact rfl; exact rfl) | ((with_reducible apply u_s); exact rfl; exact rfl; exact rfl)) | ((with_reducible apply os_id); first | ((with_reducible apply os_x); exact rfl)) | ((with_reducible apply ox_id); first | ((with_reducible apply ox_boxAgg); exact rfl; intro _)) | ((with_reducible apply rd_id); first | (apply Rd.own; (repeat (first | exact P0 | apply P1)); exact rfl; done)) | ((with_reducible apply t_id); first | ((with_reducible apply t_seq)) | (apply t_region; kernel_rfl) | ((with_reducible apply t_condF); exact rfl) | ((with_reducible apply t_skip)) | ((with_reducible apply t_block))) | with_reducible apply q_thenN | exact Rdn.zero | apply Rdn.succ)
    apply t_loopK (ι := Nat) [1, 2, 3, 12, 13, 20, 21, 49, 50, 51, 52, 53, 54, 55, 56, 57, 58, 59, 60, 61, 62, 63, 64, 65, 66, 67, 68, 69, 70, 71, 72, 73, 74, 75, 76] (fun k => [(22, .int .i64 (k : Nat))]) (fun _ => []) (fun k => k ≤ m ∧ ∀ j, j < k → plAt n pl j = true) (fun k => m - k) (0)
    (repeat (first | exact KeepF.nil | (apply KeepF.cons; exact rfl) | apply KeepF.skip))
    (repeat (first | exact FrSub.nil | (apply FrSub.cons; exact rfl)))
    (repeat (first | exact HpSub.refl _ | (apply HpSub.consE; (repeat (first | exact P0 | apply P1)); exact rfl) | exact HpSub.nil))
    · exact ⟨by omega, fun j hj => by omega⟩
    rintro k ⟨hk, hkp⟩
    try simp only [List.cons_append, List.nil_append]
    by_cases hlt : k < m
    · cases k with
      | zero =>
        obtain ⟨b1, o1, x, rfl, _, hx, c0⟩ := in_read hr2 hlt
        cases hpx : plAt n pl 0 with
        | false =>
          have hv : x < 0 ∨ n ≤ x := by rcases plAt_no hpx hx with h | h | ⟨h, _⟩ <;> omega
          repeat' (first | ((with_reducible apply oq_id); first | (focus ((with_reducible apply oq_indexAddrN); exact rfl; exact rfl; exact rfl; exact rfl; omega)) | (apply oq_fn; exact rfl; first | exact trivial | (refine ⟨?_, ?_⟩ <;> omega) | (refine ⟨?_, ?_, ?_⟩ <;> omega) | omega | skip) | ((with_reducible apply oq_load); exact rfl; exact rfl)) | ((with_reducible apply tl_id); first | ((with_reducible apply tl_nil)) | ((with_reducible apply u_q); exact rfl; exact rfl; exact rfl; exact rfl) | ((with_reducible apply u_skip); exact rfl; exact rfl; exact rfl) | ((with_reducible apply u_splitD); exact rfl; exact rfl; all_goals first | (intro hp; try (exfalso; omega)) | skip)) | ((with_reducible apply rd_id); first | (apply Rd.old; (first | (with_reducible assumption) | exact c0 | exact c1 | exact c2 | exact c3 | exact c4 | exact c5 | exact c6 | exact c7 | exact c8 | exact d0 | exact d1 | exact d2 | exact d3 | exact d4 | exact d5); first | exact List.not_mem_nil | exact m0 | exact m1 | exact m2 | exact m3 | exact m4 | exact m5 | exact m6 | exact m7 | exact m8 | exact m9)) | ((with_reducible apply t_id); first | ((with_reducible apply t_seq)) | (apply t_region; kernel_rfl) | ((with_reducible apply t_condT); exact rfl) | ((with_reducible apply t_condD); exact rfl; all_goals first | (intro hp; try (exfalso; omega)) | skip) | ((with_reducible apply t_ret)) | ((with_reducible apply t_skip)) | ((with_reducible apply t_block))) | with_reducible apply q_thenN | with_reducible apply q_thenR | with_reducible apply q_blockR | ((with_reducible apply end_ret)) | exact rvs_nil | ((with_reducible apply rvs_cons)) | ((with_reducible apply rv_tmp); exact rfl))
          all_goals (rw [hS, planB_no (by omega) hpx]; rfl)
        | true =>
          have hv : 0 ≤ x ∧ x < n := ⟨(plAt_yes hpx hx).1, (plAt_yes hpx hx).2.1⟩
          repeat' (first | ((with_reducible apply oq_id); first | (focus ((with_reducible apply oq_indexAddrN); exact rfl; exact rfl; exact rfl; exact rfl; omega)) | (apply oq_fn; exact rfl; first | exact trivial | (refine ⟨?_, ?_⟩ <;> omega) | (refine ⟨?_, ?_, ?_⟩ <;> omega) | omega | skip) | ((with_reducible apply oq_load); exact rfl; exact rfl)) | ((with_reducible apply tl_id); first | ((with_reducible apply tl_nil)) | ((with_reducible apply u_q); exact rfl; exact rfl; exact rfl; exact rfl) | ((with_reducible apply u_skip); exact rfl; exact rfl; exact rfl) | ((with_reducible apply u_splitD); exact rfl; exact rfl; all_goals first | (intro hp; try (exfalso; omega)) | skip)) | ((with_reducible apply rd_id); first | (apply Rd.old; (first | (with_reducible assumption) | exact c0 | exact c1 | exact c2 | exact c3 | exact c4 | exact c5 | exact c6 | exact c7 | exact c8 | exact d0 | exact d1 | exact d2 | exact d3 | exact d4 | exact d5); first | exact List.not_mem_nil | exact m0 | exact m1 | exact m2 | exact m3 | exact m4 | exact m5 | exact m6 | exact m7 | exact m8 | exact m9)) | ((with_reducible apply t_id); first | ((with_reducible apply t_seq)) | (apply t_region; kernel_rfl) | ((with_reducible apply t_condF); exact rfl) | ((with_reducible apply t_condD); exact rfl; all_goals first | (intro hp; try (exfalso; omega)) | skip) | ((with_reducible apply t_skip)) | ((with_reducible apply t_block))) | with_reducible apply q_thenN | with_reducible apply q_blockN)
          all_goals (refine ⟨0 + 1, ⟨by omega, fun y hy => ?_⟩, by omega, ?_, ?_⟩)
          · rcases (by omega : y < 0 ∨ y = 0) with h | rfl
            · exact hkp y h
            · exact hpx
          · try simp only [List.cons_append, List.nil_append]
            (repeat (first | exact FrSub.nil | (apply FrSub.cons; exact rfl)))
          · try simp only [List.cons_append, List.nil_append]
            (repeat (first | exact HpSub.refl _ | (apply HpSub.consE; (repeat (first | exact P0 | apply P1)); exact rfl) | exact HpSub.nil))
      | succ k =>
        obtain ⟨b1, o1, x, rfl, _, hx, c0⟩ := in_read hr2 hlt
        obtain ⟨b1', o1', y, hA, _, hy, c1⟩ := in_read hr2 (show k < m by omega)
        obtain ⟨rfl, rfl⟩ : b1 = b1' ∧ o1 = o1' := by simpa using hA
        clear hA
        cases hpx : plAt n pl (k + 1) with
        | false =>
          have hv : x < 0 ∨ n ≤ x ∨ x ≤ y := by
            rcases plAt_no hpx hx with h | h | ⟨_, y', h, h2⟩
            · exact .inl h
            · exact .inr (.inl h)
            · rw [Nat.add_sub_cancel, hy] at h; cases h; exact .inr (.inr h2)
          repeat' (first | ((with_reducible apply oq_id); first | (focus ((with_reducible apply oq_indexAddrN); exact rfl; exact rfl; exact rfl; exact rfl; omega)) | ((with_reducible apply oq_subE (k := (k : Int))); exact rfl; exact rfl; omega) | (apply oq_fn; exact rfl; first | exact trivial | (refine ⟨?_, ?_⟩ <;> omega) | (refine ⟨?_, ?_, ?_⟩ <;> omega) | omega | skip) | ((with_reducible apply oq_load); exact rfl; exact rfl)) | ((with_reducible apply tl_id); first | ((with_reducible apply tl_nil)) | ((with_reducible apply u_q); exact rfl; exact rfl; exact rfl; exact rfl) | ((with_reducible apply u_skip); exact rfl; exact rfl; exact rfl) | ((with_reducible apply u_splitD); exact rfl; exact rfl; all_goals first | (intro hp; try (exfalso; omega)) | skip)) | ((with_reducible apply rd_id); first | (apply Rd.old; (first | (with_reducible assumption) | exact c0 | exact c1 | exact c2 | exact c3 | exact c4 | exact c5 | exact c6 | exact c7 | exact c8 | exact d0 | exact d1 | exact d2 | exact d3 | exact d4 | exact d5); first | exact List.not_mem_nil | exact m0 | exact m1 | exact m2 | exact m3 | exact m4 | exact m5 | exact m6 | exact m7 | exact m8 | exact m9)) | ((with_reducible apply t_id); first | ((with_reducible apply t_seq)) | (apply t_region; kernel_rfl) | ((with_reducible apply t_condT); exact rfl) | ((with_reducible apply t_condD); exact rfl; all_goals first | (intro hp; try (exfalso; omega)) | skip) | ((with_reducible apply t_ret)) | ((with_reducible apply t_skip)) | ((with_reducible apply t_block))) | with_reducible apply q_thenN | with_reducible apply q_thenR | with_reducible apply q_blockR | ((with_reducible apply end_ret)) | exact rvs_nil | ((with_reducible apply rvs_cons)) | ((with_reducible apply rv_tmp); exact rfl))
          all_goals (rw [hS, planB_no (by omega) hpx]; rfl)
        | true =>
          have hv : 0 ≤ x ∧ x < n ∧ y < x := ⟨(plAt_yes hpx hx).1, (plAt_yes hpx hx).2.1, by
            rcases (plAt_yes hpx hx).2.2 with h | h
            · omega
            · exact h y (by rw [Nat.add_sub_cancel]; exact hy)⟩
          repeat' (first | ((with_reducible apply oq_id); first | (focus ((with_reducible apply oq_indexAddrN); exact rfl; exact rfl; exact rfl; exact rfl; omega)) | ((with_reducible apply oq_subE (k := (k : Int))); exact rfl; exact rfl; omega) | (apply oq_fn; exact rfl; first | exact trivial | (refine ⟨?_, ?_⟩ <;> omega) | (refine ⟨?_, ?_, ?_⟩ <;> omega) | omega | skip) | ((with_reducible apply oq_load); exact rfl; exact rfl)) | ((with_reducible apply tl_id); first | ((with_reducible apply tl_nil)) | ((with_reducible apply u_q); exact rfl; exact rfl; exact rfl; exact rfl) | ((with_reducible apply u_splitD); exact rfl; exact rfl; all_goals first | (intro hp; try (exfalso; omega)) | skip)) | ((with_reducible apply rd_id); first | (apply Rd.old; (first | (with_reducible assumption) | exact c0 | exact c1 | exact c2 | exact c3 | exact c4 | exact c5 | exact c6 | exact c7 | exact c8 | exact d0 | exact d1 | exact d2 | exact d3 | exact d4 | exact d5); first | exact List.not_mem_nil | exact m0 | exact m1 | exact m2 | exact m3 | exact m4 | exact m5 | exact m6 | exact m7 | exact m8 | exact m9)) | ((with_reducible apply t_id); first | ((with_reducible apply t_seq)) | (apply t_region; kernel_rfl) | ((with_reducible apply t_condD); exact rfl; all_goals first | (intro hp; try (exfalso; omega)) | skip) | ((with_reducible apply t_skip)) | ((with_reducible apply t_block))) | with_reducible apply q_thenN | with_reducible apply q_blockN)
          all_goals (refine ⟨(k + 1) + 1, ⟨by omega, fun y hy => ?_⟩, by omega, ?_, ?_⟩)
          · rcases (by omega : y < (k + 1) ∨ y = (k + 1)) with h | rfl
            · exact hkp y h
            · exact hpx
          · try simp only [List.cons_append, List.nil_append]
            (repeat (first | exact FrSub.nil | (apply FrSub.cons; exact rfl)))
          · try simp only [List.cons_append, List.nil_append]
            (repeat (first | exact HpSub.refl _ | (apply HpSub.consE; (repeat (first | exact P0 | apply P1)); exact rfl) | exact HpSub.nil))
    · have hpb : planB n pl = true := planB_yes fun j hj => hkp j (by omega)
      clear HB hkp
      repeat' (first | ((with_reducible apply oq_id); first | (apply oq_fn; exact rfl; first | exact trivial | (refine ⟨?_, ?_⟩ <;> omega) | (refine ⟨?_, ?_, ?_⟩ <;> omega) | omega | skip) | ((with_reducible apply oq_load); exact rfl; exact rfl)) | ((with_reducible apply tl_id); first | ((with_reducible apply tl_nil)) | ((with_reducible apply u_q); exact rfl; exact rfl; exact rfl; exact rfl)) | ((with_reducible apply rd_id); first | (apply Rd.own; (repeat (first | exact P0 | apply P1)); exact rfl; done)) | ((with_reducible apply t_id); first | ((with_reducible apply t_seq)) | (apply t_region; kernel_rfl) | ((with_reducible apply t_condD); exact rfl; all_goals first | (intro hp; try (exfalso; omega)) | skip) | ((with_reducible apply t_exit)) | ((with_reducible apply t_block))) | with_reducible apply q_thenN | with_reducible apply q_thenE | ((with_reducible apply q_blockE); exact rfl))
      apply t_loopK (ι := Nat) [2, 3, 51, 52, 76] (fun k => [(53, .int .i64 (k : Nat)), (6, .int .i64 (leftK ev du fs pl k))]) (fun _ => []) (fun k => k ≤ n ∧ ∀ j, j < k → lateAt ev gr du fs pl j = false) (fun k => n - k) (0)
      (repeat (first | exact KeepF.nil | (apply KeepF.cons; exact rfl) | apply KeepF.skip))
      (repeat (first | exact FrSub.nil | (apply FrSub.cons; exact rfl)))
      (repeat (first | exact HpSub.refl _ | (apply HpSub.consE; (repeat (first | exact P0 | apply P1)); exact rfl) | exact HpSub.nil))
      · exact ⟨by omega, fun j hj => by omega⟩
      rintro k ⟨hk, hkp⟩
      try simp only [List.cons_append, List.nil_append]
      have hin := leftK_in hce (by omega : k ≤ fs.length) hkp
      obtain ⟨L, hL⟩ : ∃ L, leftK ev du fs pl k = L := ⟨_, rfl⟩
      rw [hL] at hin ⊢
      by_cases hlt : k < n
      · obtain ⟨b1, o1, x, rfl, _, hx, c0⟩ := in_read hr hlt
        have hfx := hfs x (List.mem_of_getElem? hx)
        have HB := fun w1 (hx : Ext w w1) => containsOf_calls (k : Int) A2 m c2 pl w1 (hr2.ext hx) hm
        cases hip : inPl pl k with
        | true =>
          rw [show (pl.any fun x => decide ((k : Int) = x)) = true from hip] at HB
          have e1 : leftK ev du fs pl (k + 1) = min L 0 + ev - x := by
            simp only [leftK, stp, hip, hx, Option.getD_some, hL]
            rfl
          cases hlt2 : lateAt ev gr du fs pl k with
          | true =>
            have hv : leftK ev du fs pl (k + 1) < -gr := of_decide_eq_true hlt2
            rw [e1] at hv
            repeat' (first | ((with_reducible apply oq_id); first | (focus ((with_reducible apply oq_indexAddrN); exact rfl; exact rfl; exact rfl; exact rfl; omega)) | (apply oq_fn; exact rfl; first | exact trivial | (refine ⟨?_, ?_⟩ <;> omega) | (refine ⟨?_, ?_, ?_⟩ <;> omega) | omega | skip) | ((with_reducible apply oq_load); exact rfl; exact rfl) | ((with_reducible apply oq_call (k := 72) (hc := Try.call72)); exact rfl; exact rfl; exact fun D w1 hw1 => HB w1 hw1.ext.ext)) | ((with_reducible apply tl_id); first | ((with_reducible apply tl_nil)) | ((with_reducible apply u_q); exact rfl; exact rfl; exact rfl; exact rfl)) | ((with_reducible apply rd_id); first | (apply Rd.own; (repeat (first | exact P0 | apply P1)); exact rfl; done) | (apply Rd.old; (first | (with_reducible assumption) | exact c0 | exact c1 | exact c2 | exact c3 | exact c4 | exact c5 | exact c6 | exact c7 | exact c8 | exact d0 | exact d1 | exact d2 | exact d3 | exact d4 | exact d5); first | exact List.not_mem_nil | exact m0 | exact m1 | exact m2 | exact m3 | exact m4 | exact m5 | exact m6 | exact m7 | exact m8 | exact m9)) | ((with_reducible apply t_id); first | ((with_reducible apply t_seq)) | (apply t_region; kernel_rfl) | ((with_reducible apply t_condT); exact rfl) | ((with_reducible apply t_condD); exact rfl; all_goals first | (intro hp; try (exfalso; omega)) | skip) | ((with_reducible apply t_ret)) | ((with_reducible apply t_skip)) | ((with_reducible apply t_block))) | with_reducible apply q_thenN | with_reducible apply q_thenR | with_reducible apply q_blockR | ((with_reducible apply end_ret)) | exact rvs_nil | ((with_reducible apply rvs_cons)) | ((with_reducible apply rv_tmp); exact rfl))
            all_goals (rw [hS, hpb, if_pos rfl, lateV_at (by omega) hlt2 hkp]; rfl)
          | false =>
            have hv : ¬ leftK ev du fs pl (k + 1) < -gr := of_decide_eq_false hlt2
            rw [e1] at hv
            repeat' (first | ((with_reducible apply oq_id); first | (focus ((with_reducible apply oq_indexAddrN); exact rfl; exact rfl; exact rfl; exact rfl; omega)) | (apply oq_fn; exact rfl; first | exact trivial | (refine ⟨?_, ?_⟩ <;> omega) | (refine ⟨?_, ?_, ?_⟩ <;> omega) | omega | skip) | ((with_reducible apply oq_load); exact rfl; exact rfl) | ((with_reducible apply oq_call (k := 72) (hc := Try.call72)); exact rfl; exact rfl; exact fun D w1 hw1 => HB w1 hw1.ext.ext)) | ((with_reducible apply tl_id); first | ((with_reducible apply tl_nil)) | ((with_reducible apply u_q); exact rfl; exact rfl; exact rfl; exact rfl)) | ((with_reducible apply rd_id); first | (apply Rd.own; (repeat (first | exact P0 | apply P1)); exact rfl; done) | (apply Rd.old; (first | (with_reducible assumption) | exact c0 | exact c1 | exact c2 | exact c3 | exact c4 | exact c5 | exact c6 | exact c7 | exact c8 | exact d0 | exact d1 | exact d2 | exact d3 | exact d4 | exact d5); first | exact List.not_mem_nil | exact m0 | exact m1 | exact m2 | exact m3 | exact m4 | exact m5 | exact m6 | exact m7 | exact m8 | exact m9)) | ((with_reducible apply t_id); first | ((with_reducible apply t_seq)) | (apply t_region; kernel_rfl) | ((with_reducible apply t_condT); exact rfl) | ((with_reducible apply t_condD); exact rfl; all_goals first | (intro hp; try (exfalso; omega)) | skip) | ((with_reducible apply t_skip)) | ((with_reducible apply t_block))) | with_reducible apply q_thenN | with_reducible apply q_blockN)
            all_goals (refine ⟨k + 1, ⟨by omega, fun y hy => ?_⟩, by omega, ?_, ?_⟩)
            · rcases (by omega : y < k ∨ y = k) with h | rfl
              · exact hkp y h
              · exact hlt2
            · try simp only [List.cons_append, List.nil_append]
              (repeat (first | exact FrSub.nil | (apply FrSub.cons; exact rfl) | (apply FrSub.consE; exact rfl; rw [e1])))
            · try simp only [List.cons_append, List.nil_append]
              (repeat (first | exact HpSub.refl _ | (apply HpSub.consE; (repeat (first | exact P0 | apply P1)); exact rfl) | exact HpSub.nil))
        | false =>
          rw [show (pl.any fun x => decide ((k : Int) = x)) = false from hip] at HB
          have e1 : leftK ev du fs pl (k + 1) = L - x := by
            simp only [leftK, stp, hip, hx, Option.getD_some, hL]
            rfl
          cases hlt2 : lateAt ev gr du fs pl k with
          | true =>
            have hv : leftK ev du fs pl (k + 1) < -gr := of_decide_eq_true hlt2
            rw [e1] at hv
            repeat' (first | ((with_reducible apply oq_id); first | (focus ((with_reducible apply oq_indexAddrN); exact rfl; exact rfl; exact rfl; exact rfl; omega)) | (apply oq_fn; exact rfl; first | exact trivial | (refine ⟨?_, ?_⟩ <;> omega) | (refine ⟨?_, ?_, ?_⟩ <;> omega) | omega | skip) | ((with_reducible apply oq_load); exact rfl; exact rfl) | ((with_reducible apply oq_call (k := 72) (hc := Try.call72)); exact rfl; exact rfl; exact fun D w1 hw1 => HB w1 hw1.ext.ext)) | ((with_reducible apply tl_id); first | ((with_reducible apply tl_nil)) | ((with_reducible apply u_q); exact rfl; exact rfl; exact rfl; exact rfl)) | ((with_reducible apply rd_id); first | (apply Rd.own; (repeat (first | exact P0 | apply P1)); exact rfl; done) | (apply Rd.old; (first | (with_reducible assumption) | exact c0 | exact c1 | exact c2 | exact c3 | exact c4 | exact c5 | exact c6 | exact c7 | exact c8 | exact d0 | exact d1 | exact d2 | exact d3 | exact d4 | exact d5); first | exact List.not_mem_nil | exact m0 | exact m1 | exact m2 | exact m3 | exact m4 | exact m5 | exact m6 | exact m7 | exact m8 | exact m9)) | ((with_reducible apply t_id); first | ((with_reducible apply t_seq)) | (apply t_region; kernel_rfl) | ((with_reducible apply t_condF); exact rfl) | ((with_reducible apply t_condD); exact rfl; all_goals first | (intro hp; try (exfalso; omega)) | skip) | ((with_reducible apply t_ret)) | ((with_reducible apply t_skip)) | ((with_reducible apply t_block))) | with_reducible apply q_thenN | with_reducible apply q_thenR | with_reducible apply q_blockR | ((with_reducible apply end_ret)) | exact rvs_nil | ((with_reducible apply rvs_cons)) | ((with_reducible apply rv_tmp); exact rfl))
            all_goals (rw [hS, hpb, if_pos rfl, lateV_at (by omega) hlt2 hkp]; rfl)
          | false =>
            have hv : ¬ leftK ev du fs pl (k + 1) < -gr := of_decide_eq_false hlt2
            rw [e1] at hv
            repeat' (first | ((with_reducible apply oq_id); first | (focus ((with_reducible apply oq_indexAddrN); exact rfl; exact rfl; exact rfl; exact rfl; omega)) | (apply oq_fn; exact rfl; first | exact trivial | (refine ⟨?_, ?_⟩ <;> omega) | (refine ⟨?_, ?_, ?_⟩ <;> omega) | omega | skip) | ((with_reducible apply oq_load); exact rfl; exact rfl) | ((with_reducible apply oq_call (k := 72) (hc := Try.call72)); exact rfl; exact rfl; exact fun D w1 hw1 => HB w1 hw1.ext.ext)) | ((with_reducible apply tl_id); first | ((with_reducible apply tl_nil)) | ((with_reducible apply u_q); exact rfl; exact rfl; exact rfl; exact rfl)) | ((with_reducible apply rd_id); first | (apply Rd.own; (repeat (first | exact P0 | apply P1)); exact rfl; done) | (apply Rd.old; (first | (with_reducible assumption) | exact c0 | exact c1 | exact c2 | exact c3 | exact c4 | exact c5 | exact c6 | exact c7 | exact c8 | exact d0 | exact d1 | exact d2 | exact d3 | exact d4 | exact d5); first | exact List.not_mem_nil | exact m0 | exact m1 | exact m2 | exact m3 | exact m4 | exact m5 | exact m6 | exact m7 | exact m8 | exact m9)) | ((with_reducible apply t_id); first | ((with_reducible apply t_seq)) | (apply t_region; kernel_rfl) | ((with_reducible apply t_condF); exact rfl) | ((with_reducible apply t_condD); exact rfl; all_goals first | (intro hp; try (exfalso; omega)) | skip) | ((with_reducible apply t_skip)) | ((with_reducible apply t_block))) | with_reducible apply q_thenN | with_reducible apply q_blockN)
            all_goals (refine ⟨k + 1, ⟨by omega, fun y hy => ?_⟩, by omega, ?_, ?_⟩)
            · rcases (by omega : y < k ∨ y = k) with h | rfl
              · exact hkp y h
              · exact hlt2
            · try simp only [List.cons_append, List.nil_append]
              (repeat (first | exact FrSub.nil | (apply FrSub.cons; exact rfl) | (apply FrSub.consE; exact rfl; rw [e1])))
            · try simp only [List.cons_append, List.nil_append]
              (repeat (first | exact HpSub.refl _ | (apply HpSub.consE; (repeat (first | exact P0 | apply P1)); exact rfl) | exact HpSub.nil))
      · repeat' (first | ((with_reducible apply oq_id); first | (apply oq_fn; exact rfl; first | exact trivial | (refine ⟨?_, ?_⟩ <;> omega) | (refine ⟨?_, ?_, ?_⟩ <;> omega) | omega | skip)) | ((with_reducible apply tl_id); first | ((with_reducible apply tl_nil)) | ((with_reducible apply u_q); exact rfl; exact rfl; exact rfl; exact rfl)) | ((with_reducible apply t_id); first | ((with_reducible apply t_seq)) | (apply t_region; kernel_rfl) | ((with_reducible apply t_condD); exact rfl; all_goals first | (intro hp; try (exfalso; omega)) | skip) | ((with_reducible apply t_ret)) | ((with_reducible apply t_exit))) | with_reducible apply q_thenN | with_reducible apply q_thenE | ((with_reducible apply q_blockE); exact rfl) | ((with_reducible apply end_ret)) | exact rvs_nil | ((with_reducible apply rvs_cons)) | ((with_reducible apply rv_tmp); exact rfl))
        all_goals (rw [hS, hpb, if_pos rfl, lateV_no (fun j hj => hkp j (by omega)), show fs.length = k by omega, hL]; rfl)
  · have hS : lateS ev gr du fs pl = (0, 0, caredE ev gr du fs) := by unfold lateS; rw [if_neg hce]
    rw [hS]
    obtain ⟨E, hE⟩ : ∃ E, caredE ev gr du fs = E := ⟨_, rfl⟩
    rw [hE] at HC hce ⊢
    have HB : ∀ w1, Ext w w1 → True := fun _ _ => trivial
    refine enterQ (c := cx w 77) Try.func26 rfl rfl rfl rfl ?_
    repeat' (first | ((with_reducible apply oq_id); first | (apply oq_fn; exact rfl; first | exact trivial | (refine ⟨?_, ?_⟩ <;> omega) | (refine ⟨?_, ?_, ?_⟩ <;> omega) | omega | skip) | ((with_reducible apply oq_loadAgg); exact rfl; exact rfl) | ((with_reducible apply oq_call (k := 71) (hc := Try.call71)); exact rfl; exact rfl; exact fun D w1 hw1 => HC w1 hw1.ext.ext)) | ((with_reducible apply tl_id); first | ((with_reducible apply tl_nil)) | ((with_reducible apply u_q); exact rfl; exact rfl; exact rfl; exact rfl) | ((with_reducible apply u_s); exact rfl; exact rfl; exact rfl)) | ((with_reducible apply os_id); first | ((with_reducible apply os_x); exact rfl)) | ((with_reducible apply ox_id); first | ((with_reducible apply ox_boxAgg); exact rfl; intro _)) | ((with_reducible apply rd_id); first | (apply Rd.own; (repeat (first | exact P0 | apply P1)); exact rfl; done)) | ((with_reducible apply t_id); first | ((with_reducible apply t_seq)) | (apply t_region; kernel_rfl) | ((with_reducible apply t_condN); exact rfl; all_goals first | (intro hp; try (exfalso; omega)) | skip) | ((with_reducible apply t_ret))) | with_reducible apply q_thenN | with_reducible apply q_thenR | exact Rdn.zero | apply Rdn.succ | ((with_reducible apply end_ret)) | exact rvs_nil | ((with_reducible apply rvs_cons)) | ((with_reducible apply rv_tmp); exact rfl))
    all_goals rfl

end Go.Proofs.Ytmlmgipngbndgaa
/- What is left, flight by flight. -/
namespace Go.Proofs.Ytmlmgipngbndgaa
open Go.RowKit
attribute [local irreducible] OQ OS OX Rd T TL GX GL AL AI RV wpG SAny Calls
set_option maxRecDepth 100000
set_option maxHeartbeats 2000000
set_option linter.unusedVariables false
set_option linter.unusedSimpArgs false

theorem oq_neqB {w : World} {N : Nat} {F : Fr} {H : Hp} {M : List Nat} {d : Option Tmp} {ty t' : TypeId} {pos : String} {af : Array Edge} {g : Option (Nat × Bool)} {x y : Operand} {a b : Bool}
    (hx : ev F x = some (.bool a)) (hy : ev F y = some (.bool b)) : OQ (cxM M w N) ⟨d, .binOp .neq 4 x y t', ty, pos, af, g⟩ F H (.bool (!(a == b))) := .of fun D act w ha _ => by
  have u4 := Try.underlying4
  have e : ∀ w, (binOp .neq 4 (.bool a) (.bool b)).run Try.prog w = .ok (.bool (!(a == b))) w := fun w => by
    have e0 : (Op.equalIn 10000 4 (.bool a) (.bool b)).run Try.prog w = .ok (a == b) w := run_equalIn_bool' (P := Try.prog) w 9999 4 a b u4
    simp only [binOp, Op.equal, Op.maxDepth, Sem.run_bind, e0, Result.andThen, Sem.run_pure]
  have e1 : ∀ w, (eqGuard .neq 4 x y (.bool a) (.bool b)).run Try.prog w = .ok () w := fun w => by simp [eqGuard, go_sem]
  simp only [execOp, ha.ev hx, ha.ev hy, Sem.run_bind, e, e1, Result.andThen, Sem.run_pure]

theorem crewLate_T (w : World) (ev gr du : Int) (A : Option Addr) (n c : Nat) (fs : List Int) (hA : RdS w 1 A n (fs.map inCells)) (B : Option Addr) (m cb : Nat) (pk : List Int) (hB : RdS w 1 B m (pk.map u8Cells)) (hnA : A = none → n = 0 ∧ c = 0) (hnc : n ≤ c) (k : Int) : Calls Try.prog 15 #[.agg #[.int .i64 ev, .int .i64 gr, .int .i64 du], .slice A n c, .slice B m cb, .int .i64 k] w fun e w' => e = .returned (.bool true) ∧ Ext w w' := by
  have hl := hA.len
  simp only [List.length_map] at hl
  refine enterQ (c := cx w 190) Try.func15 rfl rfl rfl rfl ?_
  refine t_cut (ι := Nat) (fun z => [(1, .slice A n c), (2, .slice B m cb), (3, .int .i64 k), (4, .pointer (some ⟨z, 0, none⟩))]) (fun z => (z, [.int .i64 ev, .int .i64 gr, .int .i64 du], some (40, 3, 1)) :: []) (fun _ => True) ?_ ?_
  · repeat' (first | ((with_reducible apply oq_id); first | (apply oq_fn; exact rfl; first | exact trivial | (refine ⟨?_, ?_⟩ <;> omega) | (refine ⟨?_, ?_, ?_⟩ <;> omega) | omega | skip)) | ((with_reducible apply tl_id); first | ((with_reducible apply tl_nil)) | ((with_reducible apply u_q); exact rfl; exact rfl; exact rfl; exact rfl) | ((with_reducible apply u_s); exact rfl; exact rfl; exact rfl)) | ((with_reducible apply os_id); first | ((with_reducible apply os_x); exact rfl)) | ((with_reducible apply ox_id); first | ((with_reducible apply ox_boxAgg); exact rfl; intro _)) | ((with_reducible apply t_id); first | (apply t_region; kernel_rfl)))
    all_goals exact ⟨rfl, _, trivial, by (repeat (first | exact FrSub.nil | (apply FrSub.cons; exact rfl))), by (repeat (first | exact HpSub.refl _ | (apply HpSub.consE; (repeat (first | exact P0 | apply P1 | apply PA)); exact rfl) | exact HpSub.nil))⟩
  rintro b4 -
  refine t_cut (ι := Unit) (fun _ => [(1, .slice A n c), (2, .slice B m cb), (3, .int .i64 k), (4, .pointer (some ⟨b4, 0, none⟩)), (9, .bool true)]) (fun _ => (b4, [.int .i64 ev, .int .i64 gr, .int .i64 du], some (40, 3, 1)) :: []) (fun _ => True) ?_ ?_
  · repeat' (first | ((with_reducible apply oq_id); first | (apply oq_fn; exact rfl; first | exact trivial | (refine ⟨?_, ?_⟩ <;> omega) | (refine ⟨?_, ?_, ?_⟩ <;> omega) | omega | skip) | ((with_reducible apply oq_call (k := 53) (hc := Try.call53)); exact rfl; exact rfl; exact fun D w1 hw1 => alive_calls w1)) | ((with_reducible apply tl_id); first | ((with_reducible apply tl_nil)) | ((with_reducible apply u_q); exact rfl; exact rfl; exact rfl; exact rfl)) | ((with_reducible apply t_id); first | (apply t_region; kernel_rfl)))
    all_goals exact ⟨rfl, (), trivial, by (repeat (first | exact FrSub.nil | (apply FrSub.cons; exact rfl))), by (repeat (first | exact HpSub.refl _ | (apply HpSub.consE; (repeat (first | exact P0 | apply P1 | apply PA)); exact rfl) | apply HpSub.appC | apply HpSub.skipX | apply HpSub.skipApp | exact HpSub.nil))⟩
  rintro ⟨⟩ -
  by_cases hg : 60 < n ∨ k < 0 ∨ (n : Int) ≤ k
  · rcases hg with hg | hg | hg
    · repeat' (first | ((with_reducible apply oq_id); first | ((with_reducible apply oq_gtrT); exact rfl; exact rfl; omega) | (apply oq_fn; exact rfl; first | exact trivial | (refine ⟨?_, ?_⟩ <;> omega) | (refine ⟨?_, ?_, ?_⟩ <;> omega) | omega | skip)) | ((with_reducible apply tl_id); first | ((with_reducible apply tl_nil)) | ((with_reducible apply u_q); exact rfl; exact rfl; exact rfl; exact rfl) | ((with_reducible apply u_skip); exact rfl; exact rfl; exact rfl)) | ((with_reducible apply t_id); first | ((with_reducible apply t_seq)) | (apply t_region; kernel_rfl) | ((with_reducible apply t_condT); exact rfl) | ((with_reducible apply t_ret))) | with_reducible apply q_thenN | with_reducible apply q_thenR | ((with_reducible apply end_ret)) | exact rvs_nil | ((with_reducible apply rvs_cons)) | ((with_reducible apply rv_tmp); exact rfl))
      all_goals rfl
    · by_cases hg2 : 60 < n
      · repeat' (first | ((with_reducible apply oq_id); first | ((with_reducible apply oq_gtrT); exact rfl; exact rfl; omega) | (apply oq_fn; exact rfl; first | exact trivial | (refine ⟨?_, ?_⟩ <;> omega) | (refine ⟨?_, ?_, ?_⟩ <;> omega) | omega | skip)) | ((with_reducible apply tl_id); first | ((with_reducible apply tl_nil)) | ((with_reducible apply u_q); exact rfl; exact rfl; exact rfl; exact rfl) | ((with_reducible apply u_skip); exact rfl; exact rfl; exact rfl)) | ((with_reducible apply t_id); first | ((with_reducible apply t_seq)) | (apply t_region; kernel_rfl) | ((with_reducible apply t_condT); exact rfl) | ((with_reducible apply t_ret))) | with_reducible apply q_thenN | with_reducible apply q_thenR | ((with_reducible apply end_ret)) | exact rvs_nil | ((with_reducible apply rvs_cons)) | ((with_reducible apply rv_tmp); exact rfl))
        all_goals rfl
      · repeat' (first | ((with_reducible apply oq_id); first | ((with_reducible apply oq_gtrF); exact rfl; exact rfl; omega) | ((with_reducible apply oq_lssT); exact rfl; exact rfl; omega) | (apply oq_fn; exact rfl; first | exact trivial | (refine ⟨?_, ?_⟩ <;> omega) | (refine ⟨?_, ?_, ?_⟩ <;> omega) | omega | skip)) | ((with_reducible apply tl_id); first | ((with_reducible apply tl_nil)) | ((with_reducible apply u_q); exact rfl; exact rfl; exact rfl; exact rfl) | ((with_reducible apply u_skip); exact rfl; exact rfl; exact rfl)) | ((with_reducible apply t_id); first | ((with_reducible apply t_seq)) | (apply t_region; kernel_rfl) | ((with_reducible apply t_condT); exact rfl) | ((with_reducible apply t_ret))) | with_reducible apply q_thenN | with_reducible apply q_thenR | ((with_reducible apply end_ret)) | exact rvs_nil | ((with_reducible apply rvs_cons)) | ((with_reducible apply rv_tmp); exact rfl))
        all_goals rfl
    · by_cases hg2 : 60 < n
      · repeat' (first | ((with_reducible apply oq_id); first | ((with_reducible apply oq_gtrT); exact rfl; exact rfl; omega) | (apply oq_fn; exact rfl; first | exact trivial | (refine ⟨?_, ?_⟩ <;> omega) | (refine ⟨?_, ?_, ?_⟩ <;> omega) | omega | skip)) | ((with_reducible apply tl_id); first | ((with_reducible apply tl_nil)) | ((with_reducible apply u_q); exact rfl; exact rfl; exact rfl; exact rfl) | ((with_reducible apply u_skip); exact rfl; exact rfl; exact rfl)) | ((with_reducible apply t_id); first | ((with_reducible apply t_seq)) | (apply t_region; kernel_rfl) | ((with_reducible apply t_condT); exact rfl) | ((with_reducible apply t_ret))) | with_reducible apply q_thenN | with_reducible apply q_thenR | ((with_reducible apply end_ret)) | exact rvs_nil | ((with_reducible apply rvs_cons)) | ((with_reducible apply rv_tmp); exact rfl))
        all_goals rfl
      · by_cases hg3 : k < 0
        · repeat' (first | ((with_reducible apply oq_id); first | ((with_reducible apply oq_gtrT); exact rfl; exact rfl; omega) | (apply oq_fn; exact rfl; first | exact trivial | (refine ⟨?_, ?_⟩ <;> omega) | (refine ⟨?_, ?_, ?_⟩ <;> omega) | omega | skip)) | ((with_reducible apply tl_id); first | ((with_reducible apply tl_nil)) | ((with_reducible apply u_q); exact rfl; exact rfl; exact rfl; exact rfl) | ((with_reducible apply u_skip); exact rfl; exact rfl; exact rfl)) | ((with_reducible apply t_id); first | ((with_reducible apply t_seq)) | (apply t_region; kernel_rfl) | ((with_reducible apply t_condT); exact rfl) | ((with_reducible apply t_ret))) | with_reducible apply q_thenN | with_reducible apply q_thenR | ((with_reducible apply end_ret)) | exact rvs_nil | ((with_reducible apply rvs_cons)) | ((with_reducible apply rv_tmp); exact rfl) | omega)
          all_goals rfl
        · repeat' (first | ((with_reducible apply oq_id); first | ((with_reducible apply oq_gtrF); exact rfl; exact rfl; omega) | ((with_reducible apply oq_lssF); exact rfl; exact rfl; omega) | ((with_reducible apply oq_geqT); exact rfl; exact rfl; omega) | (apply oq_fn; exact rfl; first | exact trivial | (refine ⟨?_, ?_⟩ <;> omega) | (refine ⟨?_, ?_, ?_⟩ <;> omega) | omega | skip)) | ((with_reducible apply tl_id); first | ((with_reducible apply tl_nil)) | ((with_reducible apply u_q); exact rfl; exact rfl; exact rfl; exact rfl) | ((with_reducible apply u_skip); exact rfl; exact rfl; exact rfl)) | ((with_reducible apply t_id); first | ((with_reducible apply t_seq)) | (apply t_region; kernel_rfl) | ((with_reducible apply t_condT); exact rfl) | ((with_reducible apply t_ret))) | with_reducible apply q_thenN | with_reducible apply q_thenR | ((with_reducible apply end_ret)) | exact rvs_nil | ((with_reducible apply rvs_cons)) | ((with_reducible apply rv_tmp); exact rfl))
          all_goals rfl
  obtain ⟨k, rfl⟩ : ∃ k' : Nat, k = (k' : Int) := ⟨k.toNat, by omega⟩
  have hkn : k < n := by omega
  refine t_cut (ι := Unit) (fun _ => [(1, .slice A n c), (2, .slice B m cb), (3, .int .i64 (k : Nat)), (4, .pointer (some ⟨b4, 0, none⟩)), (9, .bool true)]) (fun _ => (b4, [.int .i64 ev, .int .i64 gr, .int .i64 du], some (40, 3, 1)) :: []) (fun _ => True) ?_ ?_
  · repeat' (first | ((with_reducible apply oq_id); first | ((with_reducible apply oq_gtrF); exact rfl; exact rfl; omega) | ((with_reducible apply oq_lssF); exact rfl; exact rfl; omega) | ((with_reducible apply oq_geqF); exact rfl; exact rfl; omega) | (apply oq_fn; exact rfl; first | exact trivial | (refine ⟨?_, ?_⟩ <;> omega) | (refine ⟨?_, ?_, ?_⟩ <;> omega) | omega | skip)) | ((with_reducible apply tl_id); first | ((with_reducible apply tl_nil)) | ((with_reducible apply u_q); exact rfl; exact rfl; exact rfl; exact rfl)) | ((with_reducible apply t_id); first | ((with_reducible apply t_seq)) | (apply t_region; kernel_rfl) | ((with_reducible apply t_condF); exact rfl) | ((with_reducible apply t_skip))) | with_reducible apply q_thenN)
    all_goals exact ⟨rfl, (), trivial, by (repeat (first | exact FrSub.nil | (apply FrSub.cons; exact rfl))), by (repeat (first | exact HpSub.refl _ | (apply HpSub.consE; (repeat (first | exact P0 | apply P1 | apply PA)); exact rfl) | apply HpSub.appC | apply HpSub.skipX | apply HpSub.skipApp | exact HpSub.nil))⟩
  rintro ⟨⟩ -
  obtain ⟨Q, hQe⟩ : ∃ Q, planV pk n = Q := ⟨_, rfl⟩
  obtain ⟨M, hMe⟩ : ∃ M, planV pk k = M := ⟨_, rfl⟩
  obtain ⟨N, hNe⟩ : ∃ N, planV pk (k + 1) = N := ⟨_, rfl⟩
  have hQl : Q.length ≤ n := by rw [← hQe]; exact planV_len pk n
  have hMl : M.length ≤ k := by rw [← hMe]; exact planV_len pk k
  have hNM : N.length = M.length + (if flagB pk k = true then 1 else 0) := by
    rw [← hNe, ← hMe, planV_succ, List.length_append]
    by_cases hf : flagB pk k = true <;> simp [hf]
  have hNl : N.length ≤ k + 1 := by rw [← hNe]; exact planV_len pk (k + 1)
  refine t_cut (ι := Option (Nat × Nat)) (fun x1 => [(1, .slice A n c), (2, .slice B m cb), (3, .int .i64 (k : Nat)), (4, .pointer (some ⟨b4, 0, none⟩)), (9, .bool true), (10, .slice (clA x1) Q.length (clC x1))]) (fun x1 => ipH Q x1 ++ ((b4, [.int .i64 ev, .int .i64 gr, .int .i64 du], some (40, 3, 1)) :: [])) (fun x1 => x1 = none → Q.length = 0) ?_ ?_
  · repeat' (first | ((with_reducible apply oq_id); first | (apply oq_fn; exact rfl; first | exact trivial | (refine ⟨?_, ?_⟩ <;> omega) | (refine ⟨?_, ?_, ?_⟩ <;> omega) | omega | skip)) | ((with_reducible apply tl_id); first | ((with_reducible apply tl_nil)) | ((with_reducible apply u_s); exact rfl; exact rfl; exact rfl; (with_reducible apply os_callF (PV := PlnC Q) (k := 55) (hc := Try.call55)); exact rfl; exact rfl; exact fun D w1 hw1 => (by rw [← hQe]; exact planC_T A n c B m cb pk w1 (hB.ext hw1.ext.ext) (by omega)); rintro v H' ⟨x1, hx1, rfl, rfl⟩; (try simp only [List.append_assoc])) | ((with_reducible apply u_q); exact rfl; exact rfl; exact rfl; exact rfl)) | ((with_reducible apply t_id); first | (apply t_region; kernel_rfl)))
    all_goals exact ⟨by trivial, x1, hx1, by (repeat (first | exact FrSub.nil | (apply FrSub.cons; exact rfl))), by (repeat (first | exact HpSub.refl _ | (apply HpSub.consE; (repeat (first | exact P0 | apply P1 | apply PA)); exact rfl) | apply HpSub.appC | apply HpSub.skipX | apply HpSub.skipApp | exact HpSub.nil))⟩
  rintro x1 hx1
  try simp only at hx1 ⊢
  obtain ⟨⟨l1, l2, l3⟩, hS⟩ : ∃ r, lateS ev gr du fs Q = r := ⟨_, rfl⟩
  have HL := fun A2 c2 w1 h1 h2 => late_calls ev gr du A n c fs A2 Q.length c2 Q w1 h1 (by omega) h2 (by omega)
  simp only [hS] at HL
  refine t_cut (ι := Unit) (fun _ => [(1, .slice A n c), (2, .slice B m cb), (3, .int .i64 (k : Nat)), (4, .pointer (some ⟨b4, 0, none⟩)), (9, .bool true), (11, .int .i64 l1), (12, .int .i64 l2), (13, .int .i64 l3)]) (fun _ => (b4, [.int .i64 ev, .int .i64 gr, .int .i64 du], some (40, 3, 1)) :: []) (fun _ => True) ?_ ?_
  · repeat' (first | ((with_reducible apply oq_id); first | (apply oq_fn; exact rfl; first | exact trivial | (refine ⟨?_, ?_⟩ <;> omega) | (refine ⟨?_, ?_, ?_⟩ <;> omega) | omega | skip) | ((with_reducible apply oq_loadAgg); exact rfl; exact rfl) | ((with_reducible apply oq_call (k := 26) (hc := Try.call26)); exact rfl; exact rfl; exact fun D w1 hw1 => HL (clA x1) (clC x1) w1 (hA.ext hw1.ext.ext) (clH_rows (x := x1) (hw1.sub (show HpSub _ (clH 3 1 (Q.map inCells).flatten x1) from (by repeat (first | exact HpSub.refl _ | exact HpSub.appLeft | apply HpSub.skipX | apply HpSub.skipApp)))) (fun _ => rfl) rfl hx1))) | ((with_reducible apply tl_id); first | ((with_reducible apply tl_nil)) | ((with_reducible apply u_q); exact rfl; exact rfl; exact rfl; exact rfl)) | ((with_reducible apply rd_id); first | (apply Rd.own; (repeat (first | exact P0 | apply P1 | apply PA)); exact rfl; done)) | ((with_reducible apply t_id); first | (apply t_region; kernel_rfl)) | exact Rdn.zero | apply Rdn.succ)
    all_goals exact ⟨rfl, (), trivial, by (repeat (first | exact FrSub.nil | (apply FrSub.cons; exact rfl))), by (repeat (first | exact HpSub.refl _ | (apply HpSub.consE; (repeat (first | exact P0 | apply P1 | apply PA)); exact rfl) | apply HpSub.appC | apply HpSub.skipX | apply HpSub.skipApp | exact HpSub.nil))⟩
  rintro ⟨⟩ -
  by_cases h0 : caredE ev gr du fs = 0
  rotate_left
  · rw [lateS_bad h0] at hS
    simp only [Prod.mk.injEq] at hS
    obtain ⟨rfl, rfl, hS3⟩ := hS
    have hv := cared_vals (ev := ev) (gr := gr) (du := du) (fs := fs)
    have h83 : ¬ l3 = 0 ∧ ¬ l3 = 83 := by omega
    repeat' (first | ((with_reducible apply oq_id); first | ((with_reducible apply oq_neqT); exact rfl; exact rfl; omega) | ((with_reducible apply oq_eqlT); exact rfl; exact rfl; omega) | (apply oq_fn; exact rfl; first | exact trivial | (refine ⟨?_, ?_⟩ <;> omega) | (refine ⟨?_, ?_, ?_⟩ <;> omega) | omega | skip)) | ((with_reducible apply tl_id); first | ((with_reducible apply tl_nil)) | ((with_reducible apply u_q); exact rfl; exact rfl; exact rfl; exact rfl)) | ((with_reducible apply t_id); first | ((with_reducible apply t_seq)) | (apply t_region; kernel_rfl) | ((with_reducible apply t_condT); exact rfl) | ((with_reducible apply t_ret))) | with_reducible apply q_thenN | with_reducible apply q_thenR | ((with_reducible apply end_ret)) | exact rvs_nil | ((with_reducible apply rvs_cons)) | ((with_reducible apply rv_tmp); exact rfl))
    all_goals rfl
  obtain ⟨b1', o1, x, hA1, _, hx, c0⟩ := in_read hA hkn
  obtain ⟨b, a, hb1, hb2, ha, hcase⟩ := late_law (pk := pk) h0 hx
  rw [hl, hQe, hMe, hNe, hS] at hcase
  obtain ⟨e1, e2, g1, g2, d1, d2, _, hf⟩ := cared_ok h0
  have hxf := hf x (List.mem_of_getElem? hx)
  have hl3 : l3 = 0 ∨ l3 = 83 := by
    rcases hcase with ⟨_, h, _⟩ | ⟨_, _, h, _⟩ | ⟨h, _⟩ | ⟨_, _, _, h, _⟩ <;> (simp only [Prod.mk.injEq] at h; omega)
  refine t_cut (ι := Unit) (fun _ => [(1, .slice A n c), (2, .slice B m cb), (3, .int .i64 (k : Nat)), (4, .pointer (some ⟨b4, 0, none⟩)), (9, .bool true), (11, .int .i64 l1), (12, .int .i64 l2), (13, .int .i64 l3)]) (fun _ => (b4, [.int .i64 ev, .int .i64 gr, .int .i64 du], some (40, 3, 1)) :: []) (fun _ => True) ?_ ?_
  · rcases hl3 with h3 | h3
    · repeat' (first | ((with_reducible apply oq_id); first | ((with_reducible apply oq_neqF); exact rfl; exact rfl; omega) | (apply oq_fn; exact rfl; first | exact trivial | (refine ⟨?_, ?_⟩ <;> omega) | (refine ⟨?_, ?_, ?_⟩ <;> omega) | omega | skip)) | ((with_reducible apply tl_id); first | ((with_reducible apply tl_nil)) | ((with_reducible apply u_q); exact rfl; exact rfl; exact rfl; exact rfl) | ((with_reducible apply u_skip); exact rfl; exact rfl; exact rfl)) | ((with_reducible apply t_id); first | ((with_reducible apply t_seq)) | (apply t_region; kernel_rfl) | ((with_reducible apply t_condF); exact rfl) | ((with_reducible apply t_skip))) | with_reducible apply q_thenN)
      all_goals exact ⟨rfl, (), trivial, by (repeat (first | exact FrSub.nil | (apply FrSub.cons; exact rfl))), by (repeat (first | exact HpSub.refl _ | (apply HpSub.consE; (repeat (first | exact P0 | apply P1 | apply PA)); exact rfl) | apply HpSub.appC | apply HpSub.skipX | apply HpSub.skipApp | exact HpSub.nil))⟩
    · repeat' (first | ((with_reducible apply oq_id); first | ((with_reducible apply oq_neqT); exact rfl; exact rfl; omega) | ((with_reducible apply oq_neqF); exact rfl; exact rfl; omega) | (apply oq_fn; exact rfl; first | exact trivial | (refine ⟨?_, ?_⟩ <;> omega) | (refine ⟨?_, ?_, ?_⟩ <;> omega) | omega | skip)) | ((with_reducible apply tl_id); first | ((with_reducible apply tl_nil)) | ((with_reducible apply u_q); exact rfl; exact rfl; exact rfl; exact rfl)) | ((with_reducible apply t_id); first | ((with_reducible apply t_seq)) | (apply t_region; kernel_rfl) | ((with_reducible apply t_condF); exact rfl) | ((with_reducible apply t_skip))) | with_reducible apply q_thenN)
      all_goals exact ⟨rfl, (), trivial, by (repeat (first | exact FrSub.nil | (apply FrSub.cons; exact rfl))), by (repeat (first | exact HpSub.refl _ | (apply HpSub.consE; (repeat (first | exact P0 | apply P1 | apply PA)); exact rfl) | apply HpSub.appC | apply HpSub.skipX | apply HpSub.skipApp | exact HpSub.nil))⟩
  rintro ⟨⟩ -
  refine t_cut (ι := Option (Nat × Nat) × Option (Nat × Nat)) (fun z => [(1, .slice A n c), (2, .slice B m cb), (3, .int .i64 (k : Nat)), (4, .pointer (some ⟨b4, 0, none⟩)), (9, .bool true), (11, .int .i64 l1), (12, .int .i64 l2), (13, .int .i64 l3), (14, .slice (clA z.1) M.length (clC z.1)), (15, .slice (clA z.2) N.length (clC z.2))]) (fun z => ipH N z.2 ++ (ipH M z.1 ++ ((b4, [.int .i64 ev, .int .i64 gr, .int .i64 du], some (40, 3, 1)) :: []))) (fun z => (z.1 = none → M.length = 0) ∧ (z.2 = none → N.length = 0)) ?_ ?_
  · repeat' (first | ((with_reducible apply oq_id); first | (focus ((with_reducible apply (oq_sliceHG (h := k) hnA)); exact rfl; exact rfl; exact rfl; exact rfl; omega)) | (focus ((with_reducible apply (oq_sliceHG (h := k + 1) hnA)); exact rfl; exact rfl; exact rfl; exact rfl; omega)) | ((with_reducible apply oq_addE (k := ((k + 1 : Nat) : Int))); exact rfl; exact rfl; omega) | (apply oq_fn; exact rfl; first | exact trivial | (refine ⟨?_, ?_⟩ <;> omega) | (refine ⟨?_, ?_, ?_⟩ <;> omega) | omega | skip)) | ((with_reducible apply gx_id); first | ((with_reducible apply v_nil)) | ((with_reducible apply v_q); exact rfl; exact rfl; exact rfl)) | ((with_reducible apply ai_id); first | ((with_reducible apply ai_n); exact rfl; exact rfl; exact rfl; exact rfl; (with_reducible apply os_callF (PV := PlnC M) (k := 55) (hc := Try.call55)); exact rfl; exact rfl; exact fun D w1 hw1 => (by rw [← hMe]; exact planC_T A k c B m cb pk w1 (hB.ext hw1.ext.ext) (by omega)); rintro v H' ⟨x2, hx2, rfl, rfl⟩; (try simp only [List.append_assoc])) | ((with_reducible apply ai_n); exact rfl; exact rfl; exact rfl; exact rfl; (with_reducible apply os_callF (PV := PlnC N) (k := 55) (hc := Try.call55)); exact rfl; exact rfl; exact fun D w1 hw1 => (by rw [← hNe]; exact planC_T A (k + 1) c B m cb pk w1 (hB.ext hw1.ext.ext) (by omega)); rintro v H' ⟨x3, hx3, rfl, rfl⟩; (try simp only [List.append_assoc])) | ((with_reducible apply ai_q); exact rfl; exact rfl; exact rfl; exact rfl; exact rfl)) | ((with_reducible apply al_keep); focus (repeat (first | exact HpSub.refl _ | (apply HpSub.cons; (repeat (first | exact P0 | apply P1 | apply PA))) | apply HpSub.skipX | apply HpSub.skipApp | exact HpSub.nil))) | ((with_reducible apply t_id); first | (apply t_mix (id := 8) [0, 1, 2, 3, 5, 6, 7, 8, 9] 4 #[false, false, false, false, false, false, false, false, false, false, false, false, false]; kernel_rfl; kernel_rfl; exact rfl)) | ((with_reducible apply al_id); first | (apply al_done; decide +kernel) | (apply al_one 4; decide +kernel) | (apply al_one 10; decide +kernel) | (apply al_one 11; decide +kernel) | (apply al_one 12; decide +kernel)))
    all_goals exact ⟨by trivial, (x2, x3), ⟨hx2, hx3⟩, by (repeat (first | exact FrSub.nil | (apply FrSub.cons; exact rfl))), by (repeat (first | exact HpSub.refl _ | (apply HpSub.consE; (repeat (first | exact P0 | apply P1 | apply PA)); exact rfl) | apply HpSub.appC | apply HpSub.skipX | apply HpSub.skipApp | exact HpSub.nil))⟩
  rintro ⟨x2, x3⟩ ⟨hx2, hx3⟩
  simp only at hx2 hx3 ⊢
  obtain ⟨⟨b1, b2, b3'⟩, hS1⟩ : ∃ r, lateS ev gr du (fs.take k) M = r := ⟨_, rfl⟩
  obtain ⟨⟨a1, a2, a3⟩, hS2⟩ : ∃ r, lateS ev gr du (fs.take (k + 1)) N = r := ⟨_, rfl⟩
  have HM := fun A2 c2 w1 h1 h2 => late_calls ev gr du A k c (fs.take k) A2 M.length c2 M w1 h1 (by omega) h2 (by omega)
  have HN := fun A2 c2 w1 h1 h2 => late_calls ev gr du A (k + 1) c (fs.take (k + 1)) A2 N.length c2 N w1 h1 (by omega) h2 (by omega)
  simp only [hS1] at HM
  simp only [hS2] at HN
  rw [hS1, hS2] at hcase
  refine t_cut (ι := Unit) (fun _ => [(1, .slice A n c), (2, .slice B m cb), (3, .int .i64 (k : Nat)), (4, .pointer (some ⟨b4, 0, none⟩)), (9, .bool true), (11, .int .i64 l1), (12, .int .i64 l2), (13, .int .i64 l3), (14, .slice (clA x2) M.length (clC x2)), (15, .slice (clA x3) N.length (clC x3)), (16, .int .i64 b1), (18, .int .i64 b3')]) (fun _ => ipH N x3 ++ (ipH M x2 ++ ((b4, [.int .i64 ev, .int .i64 gr, .int .i64 du], some (40, 3, 1)) :: []))) (fun _ => True) ?_ ?_
  · repeat' (first | ((with_reducible apply oq_id); first | (focus ((with_reducible apply (oq_sliceHG (h := k) hnA)); exact rfl; exact rfl; exact rfl; exact rfl; omega)) | (apply oq_fn; exact rfl; first | exact trivial | (refine ⟨?_, ?_⟩ <;> omega) | (refine ⟨?_, ?_, ?_⟩ <;> omega) | omega | skip) | ((with_reducible apply oq_loadAgg); exact rfl; exact rfl) | ((with_reducible apply oq_call (k := 26) (hc := Try.call26)); exact rfl; exact rfl; exact fun D w1 hw1 => HM (clA x2) (clC x2) w1 (rows_take (hA.ext hw1.ext.ext) (by omega)) (clH_rows (x := x2) (hw1.sub (show HpSub _ (clH 3 1 (M.map inCells).flatten x2) from (by repeat (first | exact HpSub.refl _ | exact HpSub.appLeft | apply HpSub.skipX | apply HpSub.skipApp)))) (fun _ => rfl) rfl hx2))) | ((with_reducible apply gx_id); first | ((with_reducible apply v_nil)) | ((with_reducible apply v_q); exact rfl; exact rfl; exact rfl)) | ((with_reducible apply rd_id); first | (apply Rd.own; (repeat (first | exact P0 | apply P1 | apply PA)); exact rfl; done)) | ((with_reducible apply t_id); first | (apply t_mix (id := 9) [0, 1, 2, 3, 4, 5, 6, 7, 8, 9, 10, 11, 12] 0 #[false, false, false, false, false, false, false, false, false, false, false, false, false]; kernel_rfl; kernel_rfl; exact rfl)) | exact Rdn.zero | apply Rdn.succ | ((with_reducible apply al_id); first | (apply al_done; decide +kernel)))
    all_goals exact ⟨rfl, (), trivial, by (repeat (first | exact FrSub.nil | (apply FrSub.cons; exact rfl))), by (repeat (first | exact HpSub.refl _ | (apply HpSub.consE; (repeat (first | exact P0 | apply P1 | apply PA)); exact rfl) | apply HpSub.appC | apply HpSub.skipX | apply HpSub.skipApp | exact HpSub.nil))⟩
  rintro ⟨⟩ -
  refine t_cut (ι := Unit) (fun _ => [(1, .slice A n c), (2, .slice B m cb), (3, .int .i64 (k : Nat)), (4, .pointer (some ⟨b4, 0, none⟩)), (9, .bool true), (11, .int .i64 l1), (12, .int .i64 l2), (13, .int .i64 l3), (14, .slice (clA x2) M.length (clC x2)), (15, .slice (clA x3) N.length (clC x3)), (16, .int .i64 b1), (18, .int .i64 b3'), (19, .int .i64 a1), (20, .int .i64 a2), (21, .int .i64 a3)]) (fun _ => ipH N x3 ++ (ipH M x2 ++ ((b4, [.int .i64 ev, .int .i64 gr, .int .i64 du], some (40, 3, 1)) :: []))) (fun _ => True) ?_ ?_
  · repeat' (first | ((with_reducible apply oq_id); first | (focus ((with_reducible apply (oq_sliceHG (h := k + 1) hnA)); exact rfl; exact rfl; exact rfl; exact rfl; omega)) | ((with_reducible apply oq_addE (k := ((k + 1 : Nat) : Int))); exact rfl; exact rfl; omega) | (apply oq_fn; exact rfl; first | exact trivial | (refine ⟨?_, ?_⟩ <;> omega) | (refine ⟨?_, ?_, ?_⟩ <;> omega) | omega | skip) | ((with_reducible apply oq_loadAgg); exact rfl; exact rfl) | ((with_reducible apply oq_call (k := 26) (hc := Try.call26)); exact rfl; exact rfl; exact fun D w1 hw1 => HN (clA x3) (clC x3) w1 (rows_take (hA.ext hw1.ext.ext) (by omega)) (clH_rows (x := x3) (hw1.sub (show HpSub _ (clH 3 1 (N.map inCells).flatten x3) from (by repeat (first | exact HpSub.refl _ | exact HpSub.appLeft | apply HpSub.skipX | apply HpSub.skipApp)))) (fun _ => rfl) rfl hx3))) | ((with_reducible apply gx_id); first | ((with_reducible apply v_nil)) | ((with_reducible apply v_q); exact rfl; exact rfl; exact rfl)) | ((with_reducible apply rd_id); first | (apply Rd.own; (repeat (first | exact P0 | apply P1 | apply PA)); exact rfl; done)) | ((with_reducible apply t_id); first | (apply t_mix (id := 10) [0, 1, 2, 3, 4, 5, 6, 7, 8, 9, 10, 11, 12, 13] 0 #[false, false, false, false, false, false, false, false, false, false, false, false, false, false]; kernel_rfl; kernel_rfl; exact rfl)) | exact Rdn.zero | apply Rdn.succ | ((with_reducible apply al_id); first | (apply al_done; decide +kernel)))
    all_goals exact ⟨rfl, (), trivial, by (repeat (first | exact FrSub.nil | (apply FrSub.cons; exact rfl))), by (repeat (first | exact HpSub.refl _ | (apply HpSub.consE; (repeat (first | exact P0 | apply P1 | apply PA)); exact rfl) | apply HpSub.appC | apply HpSub.skipX | apply HpSub.skipApp | exact HpSub.nil))⟩
  rintro ⟨⟩ -
  subst hA1
  clear HL HM HN hS hS1 hS2
  by_cases hfl : flagB pk k = true
  all_goals (first | rw [if_pos hfl] at ha hNM | rw [if_neg hfl] at ha hNM)
  all_goals (rcases hcase with ⟨l, h1, h2, h3, h4, h5⟩ | ⟨j, h1, h2, h3, h4⟩ | ⟨h1, h2, h3, h4⟩ | ⟨j, h1, h2, h3, h4, h5, h6⟩)
  all_goals (try simp only [Prod.mk.injEq] at h1)
  all_goals (try simp only [Prod.mk.injEq] at h2)
  all_goals (try simp only [Prod.mk.injEq] at h3)
  all_goals (try simp only [Prod.mk.injEq] at h4)
  all_goals (try simp only [Prod.mk.injEq] at h5)
  all_goals (repeat' (first | ((with_reducible apply oq_id); first | ((with_reducible apply oq_neqB); exact rfl; exact rfl) | (focus ((with_reducible apply oq_indexAddrN); exact rfl; exact rfl; exact rfl; exact rfl; omega)) | ((with_reducible apply oq_eqlT); exact rfl; exact rfl; omega) | ((with_reducible apply oq_eqlF); exact rfl; exact rfl; omega) | ((with_reducible apply oq_neqT); exact rfl; exact rfl; omega) | ((with_reducible apply oq_neqF); exact rfl; exact rfl; omega) | ((with_reducible apply oq_lssT); exact rfl; exact rfl; omega) | ((with_reducible apply oq_lssF); exact rfl; exact rfl; omega) | ((with_reducible apply oq_leqT); exact rfl; exact rfl; omega) | ((with_reducible apply oq_leqF); exact rfl; exact rfl; omega) | ((with_reducible apply oq_gtrT); exact rfl; exact rfl; omega) | ((with_reducible apply oq_gtrF); exact rfl; exact rfl; omega) | (apply oq_fn; exact rfl; first | exact trivial | (refine ⟨?_, ?_⟩ <;> omega) | (refine ⟨?_, ?_, ?_⟩ <;> omega) | omega | skip) | ((with_reducible apply oq_load); exact rfl; exact rfl)) | ((with_reducible apply tl_id); first | ((with_reducible apply tl_nil)) | ((with_reducible apply u_q); exact rfl; exact rfl; exact rfl; exact rfl) | ((with_reducible apply u_skip); exact rfl; exact rfl; exact rfl) | ((with_reducible apply u_splitD); exact rfl; exact rfl; all_goals first | (intro hp; try (exfalso; omega)) | skip)) | ((with_reducible apply rd_id); first | (apply Rd.own; (repeat (first | exact P0 | apply P1 | apply PA)); exact rfl; done) | (apply Rd.old; (first | (with_reducible assumption) | exact c0 | exact c1 | exact c2 | exact c3 | exact c4 | exact c5 | exact c6 | exact c7 | exact c8 | exact d0 | exact d1 | exact d2 | exact d3 | exact d4 | exact d5); first | exact List.not_mem_nil | exact m0 | exact m1 | exact m2 | exact m3 | exact m4 | exact m5 | exact m6 | exact m7 | exact m8 | exact m9)) | ((with_reducible apply t_id); first | ((with_reducible apply t_seq)) | (apply t_region; kernel_rfl) | ((with_reducible apply t_condT); exact rfl) | ((with_reducible apply t_condF); exact rfl) | ((with_reducible apply t_ret)) | ((with_reducible apply t_skip))) | with_reducible apply q_thenN | with_reducible apply q_thenR | ((with_reducible apply end_ret)) | exact rvs_nil | ((with_reducible apply rvs_cons)) | ((with_reducible apply rv_tmp); exact rfl)))
  all_goals first | rfl | exact inferInstance

end Go.Proofs.Ytmlmgipngbndgaa
