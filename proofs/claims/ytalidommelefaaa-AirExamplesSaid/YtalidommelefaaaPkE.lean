/- Soundings settled; the air between two heights. -/
import Derived.Test.YtalidommelefaaaPkD
import Derived.Test.YtalidommelefaaaPkB
/- Thermometers, what a pressure is elsewhere, and steps of settling: what the code computes. -/
namespace Go.Proofs.Ytalidommelefaaa
open Go.RowKit
attribute [local irreducible] OQ OS OX Rd T TL GX GL AL AI RV wpG SAny Calls
set_option maxRecDepth 100000
set_option maxHeartbeats 2000000
set_option linter.unusedVariables false
set_option linter.unusedSimpArgs false


def knOf (x : Lv) : Kn := ⟨x.h, x.tlo, x.thi⟩
def tabOf (l : List Lv) : List Kn := l.map knOf
theorem tab_at {l : List Lv} {i : Nat} {k : Kn} (h : (tabOf l)[i]? = some k) : ∃ x, l[i]? = some x ∧ k = knOf x := by
  unfold tabOf at h
  rw [List.getElem?_map, Option.map_eq_some_iff] at h
  obtain ⟨x, h1, h2⟩ := h
  exact ⟨x, h1, h2.symm⟩
theorem incr_of : ∀ {t : List Kn}, (∀ {i : Nat} {a b : Kn}, t[i]? = some a → t[i + 1]? = some b → a.x < b.x) → Incr t
  | [], _ => .nil
  | [a], _ => .one a
  | a :: b :: r, h => .cons (h (i := 0) rfl rfl) (incr_of (fun {i x y} hx hy => h (i := i + 1) (by simpa using hx) (by simpa using hy)))
theorem Snd.tab {l : List Lv} (h : Snd l) : TabOk (tabOf l) := by
  have h2 := h.n2
  have h16 := h.n16
  refine ⟨by simpa [tabOf] using h2, by simp [tabOf]; omega, incr_of (fun {i a b} ha hb => ?_), fun k hk => ?_⟩
  · obtain ⟨x, hx, rfl⟩ := tab_at ha
    obtain ⟨y, hy, rfl⟩ := tab_at hb
    have := h.rise hx hy
    show x.h < y.h
    omega
  · obtain ⟨x, hx, rfl⟩ := List.mem_map.1 hk
    have := h.ok x hx
    show -100000 ≤ x.h ∧ x.h ≤ 100000 ∧ -100000 ≤ x.tlo ∧ x.tlo ≤ x.thi ∧ x.thi ≤ 100000
    omega
theorem flat3 (t : List Kn) : (t.map knCells).flatten.length = t.length * 3 := by
  induction t with
  | nil => rfl
  | cons x t ih => simp [knCells] at ih ⊢; omega
theorem tab_snoc {l : List Lv} {k : Nat} {x : Lv} (h : l[k]? = some x) : ((tabOf (l.take (k + 1))).map knCells).flatten = ((tabOf (l.take k)).map knCells).flatten ++ [.int .i64 x.h, .int .i64 x.tlo, .int .i64 x.thi] := by
  rw [List.take_add_one, h]
  simp [tabOf, knOf, knCells]
/-- A thermometer: a function with its table. -/
def ThV (l : List Lv) (v : Value) (H : Hp) : Prop :=
  ∃ b g cap, v = .func (.func 133) #[] #[.pointer (some ⟨b, 0, none⟩)] ∧ H = [(b, [.slice (some ⟨g, 0, none⟩) l.length cap], some (164, 1, 1)), (g, ((tabOf l).map knCells).flatten, some (166, 3, cap))]
def THp (b : Nat) (l : List Lv) : Nat × Option (Nat × Nat) → Hp
  | (_, none) => [(b, [.slice none 0 0], some (164, 1, 1))]
  | (k, some (g, cap)) => [(b, [.slice (some ⟨g, 0, none⟩) k cap], some (164, 1, 1)), (g, ((tabOf (l.take k)).map knCells).flatten, some (166, 3, cap))]
def TPi (n : Nat) : Nat × Option (Nat × Nat) → Prop
  | (k, none) => k = 0
  | (k, some _) => 0 < k ∧ k ≤ n


theorem thermo_T (A : Option Addr) (n c : Nat) (l : List Lv) (w : World) (hr : RdS w 5 A n (l.map lvCells)) (hn0 : 0 < n) (hn : n ≤ 1000) :
    Calls Try.prog 93 #[.slice A n c] w fun e w' => ∃ v H', e = .returned v ∧ ThV l v H' ∧ Has w ⟨[], []⟩ H' w' := by
  have hl := hr.len
  simp only [List.length_map] at hl
  refine enterF (c := cx w 22) Try.func93 rfl rfl rfl rfl ?_
  repeat' (first | ((with_reducible apply oq_id); first | (apply oq_fn; exact rfl; first | exact trivial | (refine ⟨?_, ?_⟩ <;> omega) | (refine ⟨?_, ?_, ?_⟩ <;> omega) | omega | skip)) | ((with_reducible apply tl_id); first | ((with_reducible apply tl_nil)) | ((with_reducible apply u_q); exact rfl; exact rfl; exact rfl; exact rfl) | ((with_reducible apply u_s); exact rfl; exact rfl; exact rfl)) | ((with_reducible apply os_id); first | ((with_reducible apply os_x); exact rfl)) | ((with_reducible apply ox_id); first | ((with_reducible apply ox_alloc); exact rfl; intro _)) | ((with_reducible apply t_id); first | ((with_reducible apply t_seq)) | (apply t_region; kernel_rfl) | ((with_reducible apply t_block))) | with_reducible apply q_thenN)
  rename_i b3
  apply t_loopK (ι := (Nat × Option (Nat × Nat))) [2, 3, 6, 7, 21] (fun i => [(8, .int .i64 (i.1 : Int))]) (THp b3 l) (TPi n) (fun i => n - i.1) ((0, none))
  (repeat (first | exact KeepF.nil | (apply KeepF.cons; exact rfl) | apply KeepF.skip))
  (repeat (first | exact FrSub.nil | (apply FrSub.cons; exact rfl)))
  (repeat (first | exact HpSub.refl _ | (apply HpSub.consE; (repeat (first | exact P0 | apply P1)); exact rfl) | exact HpSub.nil))
  · exact rfl
  rintro ⟨k, i⟩ hi
  dsimp only
  rcases i with _ | ⟨g, cap⟩
  · obtain rfl : k = 0 := hi
    simp only [THp, List.cons_append, List.nil_append]
    obtain ⟨b, o, x, rfl, _, hx, c0, c1, c2, c3, c4⟩ := lv_read hr hn0
    repeat' (first | ((with_reducible apply oq_id); first | (focus ((with_reducible apply oq_indexAddrN); exact rfl; exact rfl; exact rfl; exact rfl; omega)) | (apply oq_fn; exact rfl; first | exact trivial | (refine ⟨?_, ?_⟩ <;> omega) | (refine ⟨?_, ?_, ?_⟩ <;> omega) | omega | skip) | ((with_reducible apply oq_load); exact rfl; exact rfl) | ((with_reducible apply oq_loadAgg); exact rfl; exact rfl) | ((with_reducible apply oq_build); exact rfl; exact rfl; exact rfl)) | ((with_reducible apply tl_id); first | ((with_reducible apply tl_nil)) | ((with_reducible apply u_q); exact rfl; exact rfl; exact rfl; exact rfl) | ((with_reducible apply u_s0); exact rfl; exact rfl) | ((with_reducible apply u_s); exact rfl; exact rfl; exact rfl)) | ((with_reducible apply os_id); first | ((with_reducible apply os_x); exact rfl) | ((with_reducible apply os_store); exact rfl; exact rfl; exact rfl; exact rfl) | ((with_reducible apply os_storeAgg); exact rfl; exact rfl; exact rfl; exact rfl; exact rfl) | ((with_reducible apply os_appendNil (hk := app_ok164)); exact rfl; exact rfl)) | ((with_reducible apply ox_id); first | ((with_reducible apply ox_alloc); exact rfl; intro _) | ((with_reducible apply ox_buildSlice); exact rfl; exact rfl; exact rfl; exact rfl)) | ((with_reducible apply rd_id); first | (apply Rd.own; (repeat (first | exact P0 | apply P1)); exact rfl; done) | (apply Rd.old; (first | (with_reducible assumption) | exact c0 | exact c1 | exact c2 | exact c3 | exact c4); first | exact List.not_mem_nil)) | ((with_reducible apply t_id); first | ((with_reducible apply t_seq)) | (apply t_region; kernel_rfl) | ((with_reducible apply t_condD); exact rfl; all_goals first | (intro hp; try (exfalso; omega)) | skip) | ((with_reducible apply t_skip)) | ((with_reducible apply t_block))) | with_reducible apply q_thenN | with_reducible apply q_blockN | exact P0 | ((with_reducible apply P1)) | exact Rdn.zero | apply Rdn.succ | ((with_reducible apply Norm.nil); exact rfl) | ((with_reducible apply Norm.cons); exact rfl) | exact Nat.le_of_ble_eq_true rfl | exact (rfl : (_ : Bool) = true) | (intro _ _; with_reducible apply tl_id) | (intro _; with_reducible apply tl_id))
    rename_i b5 bs bg cg
    refine ⟨(1, some (bg, cg)), ⟨by omega, by omega⟩, by simp only; omega, ?_, ?_⟩
    · (repeat (first | exact FrSub.nil | (apply FrSub.cons; exact rfl)))
    · simp only [THp, List.cons_append, List.nil_append]
      (repeat (first | exact HpSub.refl _ | (apply HpSub.consE; (repeat (first | exact P0 | apply P1)); first | exact rfl | ((rw [tab_snoc hx]; rfl))) | exact HpSub.nil))
  · obtain ⟨h0, hk⟩ : 0 < k ∧ k ≤ n := hi
    simp only [THp, List.cons_append, List.nil_append]
    by_cases hlt : k < n
    · obtain ⟨b, o, x, rfl, _, hx, c0, c1, c2, c3, c4⟩ := lv_read hr hlt
      have hC : ((tabOf (l.take k)).map knCells).flatten.length = k * 3 := by
        rw [flat3]; unfold tabOf; rw [List.length_map, List.length_take]; omega
      repeat' (first | ((with_reducible apply oq_id); first | (focus ((with_reducible apply oq_indexAddrN); exact rfl; exact rfl; exact rfl; exact rfl; omega)) | (apply oq_fn; exact rfl; first | exact trivial | (refine ⟨?_, ?_⟩ <;> omega) | (refine ⟨?_, ?_, ?_⟩ <;> omega) | omega | skip) | ((with_reducible apply oq_load); exact rfl; exact rfl) | ((with_reducible apply oq_loadAgg); exact rfl; exact rfl) | ((with_reducible apply oq_build); exact rfl; exact rfl; exact rfl)) | ((with_reducible apply tl_id); first | ((with_reducible apply tl_nil)) | ((with_reducible apply u_q); exact rfl; exact rfl; exact rfl; exact rfl) | ((with_reducible apply u_s0); exact rfl; exact rfl) | ((with_reducible apply u_s); exact rfl; exact rfl; exact rfl)) | ((with_reducible apply os_id); first | ((with_reducible apply os_x); exact rfl) | ((with_reducible apply os_store); exact rfl; exact rfl; exact rfl; exact rfl) | ((with_reducible apply os_storeAgg); exact rfl; exact rfl; exact rfl; exact rfl; exact rfl) | ((with_reducible apply os_append (hk := app_ok164)); exact rfl; exact rfl; (repeat (first | exact P0 | apply P1)))) | ((with_reducible apply ox_id); first | ((with_reducible apply ox_alloc); exact rfl; intro _) | ((with_reducible apply ox_buildSlice); exact rfl; exact rfl; exact rfl; exact rfl)) | ((with_reducible apply rd_id); first | (apply Rd.own; (repeat (first | exact P0 | apply P1)); exact rfl; done) | (apply Rd.old; (first | (with_reducible assumption) | exact c0 | exact c1 | exact c2 | exact c3 | exact c4); first | exact List.not_mem_nil)) | ((with_reducible apply t_id); first | ((with_reducible apply t_seq)) | (apply t_region; kernel_rfl) | ((with_reducible apply t_condD); exact rfl; all_goals first | (intro hp; try (exfalso; omega)) | skip) | ((with_reducible apply t_skip)) | ((with_reducible apply t_block))) | with_reducible apply q_thenN | with_reducible apply q_blockN | exact P0 | ((with_reducible apply P1)) | exact Rdn.zero | apply Rdn.succ | ((with_reducible apply Norm.nil); exact rfl) | ((with_reducible apply Norm.cons); exact rfl) | exact hC | exact Nat.le_of_ble_eq_true rfl | exact (rfl : (_ : Bool) = true) | omega | (intro _ _; with_reducible apply tl_id) | (intro _; with_reducible apply tl_id))
      rename_i b5 bs bg cg
      refine ⟨(k + 1, some (bg, cg)), ⟨by omega, by omega⟩, by simp only; omega, ?_, ?_⟩
      · (repeat (first | exact FrSub.nil | (apply FrSub.cons; exact rfl)))
      · simp only [THp, List.cons_append, List.nil_append]
        (repeat (first | exact HpSub.refl _ | (apply HpSub.consE; (repeat (first | exact P0 | apply P1)); first | exact rfl | ((rw [tab_snoc hx]))) | exact HpSub.nil))
    · obtain rfl : k = n := by omega
      have ht : l.take k = l := List.take_of_length_le (by omega)
      repeat' (first | ((with_reducible apply oq_id); first | (apply oq_fn; exact rfl; first | exact trivial | (refine ⟨?_, ?_⟩ <;> omega) | (refine ⟨?_, ?_, ?_⟩ <;> omega) | omega | skip)) | ((with_reducible apply tl_id); first | ((with_reducible apply tl_nil)) | ((with_reducible apply u_q); exact rfl; exact rfl; exact rfl; exact rfl)) | ((with_reducible apply t_id); first | ((with_reducible apply t_seq)) | (apply t_region; kernel_rfl) | ((with_reducible apply t_condD); exact rfl; all_goals first | (intro hp; try (exfalso; omega)) | skip) | ((with_reducible apply t_ret)) | ((with_reducible apply t_exit))) | with_reducible apply q_thenN | with_reducible apply q_thenE | ((with_reducible apply q_blockE); exact rfl) | ((with_reducible apply end_ret)) | exact rvs_nil | ((with_reducible apply rvs_cons)) | ((with_reducible apply rv_tmp); exact rfl))
      refine ⟨_, ⟨b3, g, cap, rfl, rfl⟩, ?_⟩
      rw [hl, ht]
      (repeat (first | exact HpSub.refl _ | (apply HpSub.consE; (repeat (first | exact P0 | apply P1)); exact rfl) | exact HpSub.nil))


theorem thermo1_calls (b : Nat) (g cap n : Nat) (l : List Lv) (x y : Int) (w : World) (hs : Snd l) (hl : l.length = n) (m0 : w.cell? ⟨b, 0, none⟩ = some (.slice (some ⟨g, 0, none⟩) n cap)) (hr : RdS w 3 (some ⟨g, 0, none⟩) n ((tabOf l).map knCells))
    (h0 : ∀ a, l[0]? = some a → a.h ≤ min x y) (h1 : ∀ a, l[n - 1]? = some a → max x y ≤ a.h) :
    Calls Try.prog 133 #[.int .i64 x, .int .i64 y, .pointer (some ⟨b, 0, none⟩)] w fun e w' => e = .returned (.agg #[.int .i64 (valV (tabOf l) (min x y) (max x y)).1, .int .i64 (valV (tabOf l) (min x y) (max x y)).2]) ∧ Ext w w' := by
  refine enterQ (c := cx w 21) Try.func133 rfl rfl rfl rfl ?_
  repeat' (first | ((with_reducible apply oq_id); first | (apply oq_fn; exact rfl; first | exact trivial | (refine ⟨?_, ?_⟩ <;> omega) | (refine ⟨?_, ?_, ?_⟩ <;> omega) | omega | skip) | ((with_reducible apply oq_load); exact rfl; exact rfl) | ((with_reducible apply oq_loadAgg); exact rfl; exact rfl) | ((with_reducible apply oq_call (k := 119) (hc := Try.call119)); exact rfl; exact rfl; exact fun D w1 hw1 => value_calls _ _ _ (tabOf l) _ _ w1 (hr.ext hw1.ext.ext) hs.tab (fun k hk => by obtain ⟨a, ha, rfl⟩ := tab_at hk; exact h0 a ha) (by omega) (fun k hk => by obtain ⟨a, ha, rfl⟩ := tab_at hk; exact h1 a ha)) | ((with_reducible apply oq_build); exact rfl; exact rfl; exact rfl)) | ((with_reducible apply tl_id); first | ((with_reducible apply tl_nil)) | ((with_reducible apply u_q); exact rfl; exact rfl; exact rfl; exact rfl) | ((with_reducible apply u_s0); exact rfl; exact rfl) | ((with_reducible apply u_s); exact rfl; exact rfl; exact rfl)) | ((with_reducible apply os_id); first | ((with_reducible apply os_x); exact rfl) | ((with_reducible apply os_storeAgg); exact rfl; exact rfl; exact rfl; exact rfl; exact rfl)) | ((with_reducible apply ox_id); first | ((with_reducible apply ox_alloc); exact rfl; intro _)) | ((with_reducible apply rd_id); first | (apply Rd.old; exact m0; exact List.not_mem_nil) | (apply Rd.own; (repeat (first | exact P0 | apply P1)); exact rfl; done)) | ((with_reducible apply t_id); first | ((with_reducible apply t_seq)) | (apply t_region; kernel_rfl) | ((with_reducible apply t_ret))) | with_reducible apply q_thenN | exact P0 | ((with_reducible apply P1)) | exact Rdn.zero | apply Rdn.succ | ((with_reducible apply Norm.nil); exact rfl) | ((with_reducible apply Norm.cons); exact rfl) | ((with_reducible apply end_ret)) | exact rvs_nil | ((with_reducible apply rvs_cons)) | ((with_reducible apply rv_cellAgg); exact rfl; exact rfl) | exact Nat.le_of_ble_eq_true rfl)
  all_goals rfl


theorem carry_up (p0 p1 m t0 t1 : Int) (hp : 0 ≤ p0 ∧ p0 ≤ 400000000) (hp1 : 0 ≤ p1 ∧ p1 ≤ 1000000) (hm : 1 ≤ m ∧ m ≤ 2000) (ht : 1500 ≤ t0 ∧ t0 ≤ t1 ∧ t1 ≤ 3500) (w : World) :
    Calls Try.prog 103 #[.agg #[.int .i64 p0, .int .i64 p1], .int .i64 m, .agg #[.int .i64 t0, .int .i64 t1]] w fun e w' => e = .returned (.agg #[.int .i64 (riseV (p0, p1) m (t0, t1)).1, .int .i64 (riseV (p0, p1) m (t0, t1)).2]) ∧ Ext w w' := by
  have m1 := mul_abs (x := p0) (y := 1000000 * t0 - 341632 * m) (a := 400000000) (b := 5000000000) (by omega) (by omega)
  have m2 := mul_abs (x := p1) (y := 1000000 * t1) (a := 1000000) (b := 5000000000) (by omega) (by omega)
  have n1 : 0 ≤ p0 * (1000000 * t0 - 341632 * m) := Int.mul_nonneg (by omega) (by omega)
  have n2 : 0 ≤ p1 * (1000000 * t1) := Int.mul_nonneg (by omega) (by omega)
  have q1 : InR (p0 * (1000000 * t0 - 341632 * m)) := ⟨by omega, by omega⟩
  have q2 : InR (p1 * (1000000 * t1)) := ⟨by omega, by omega⟩
  have d1 := tdiv_abs (a := (p0 * (1000000 * t0 - 341632 * m))) (b := (1000000 * t0)) (m := 2000000000000000000) (by omega) (by omega)
  have d2 := tdiv_abs (a := (p1 * (1000000 * t1) + 1000000 * t1 + 341632 * m - 1)) (b := (1000000 * t1 + 341632 * m)) (m := 2000000000000000000) (by omega) (by omega)
  have r1 : InR ((p0 * (1000000 * t0 - 341632 * m)).tdiv (1000000 * t0)) := ⟨by omega, by omega⟩
  have r2 : InR ((p1 * (1000000 * t1) + 1000000 * t1 + 341632 * m - 1).tdiv (1000000 * t1 + 341632 * m)) := ⟨by omega, by omega⟩
  refine enterQ (c := cx w 67) Try.func103 rfl rfl rfl rfl ?_
  repeat' (first | ((with_reducible apply oq_id); first | ((with_reducible apply oq_max2E (k := m)); exact rfl; exact rfl; omega) | (focus ((apply oq_fn); exact rfl; exact ⟨by omega, r1⟩)) | (focus ((apply oq_fn); exact rfl; exact ⟨by omega, r2⟩)) | (apply oq_fn; exact rfl; first | exact trivial | (refine ⟨?_, ?_⟩ <;> omega) | (refine ⟨?_, ?_, ?_⟩ <;> omega) | omega | skip) | ((with_reducible apply oq_load); exact rfl; exact rfl) | ((with_reducible apply oq_build); exact rfl; exact rfl; exact rfl)) | ((with_reducible apply tl_id); first | ((with_reducible apply tl_nil)) | ((with_reducible apply u_q); exact rfl; exact rfl; exact rfl; exact rfl) | ((with_reducible apply u_s); exact rfl; exact rfl; exact rfl)) | ((with_reducible apply gx_id); first | ((with_reducible apply v_nil)) | ((with_reducible apply v_q); exact rfl; exact rfl; exact rfl)) | ((with_reducible apply os_id); first | ((with_reducible apply os_x); exact rfl) | ((with_reducible apply os_storeAgg); exact rfl; exact rfl; exact rfl; exact rfl; exact rfl)) | ((with_reducible apply ox_id); first | ((with_reducible apply ox_alloc); exact rfl; intro _) | ((with_reducible apply ox_boxAgg); exact rfl; intro _)) | ((with_reducible apply ai_id); first | ((with_reducible apply ai_s0); exact rfl; exact rfl; exact rfl; exact rfl)) | ((with_reducible apply rd_id); first | (apply Rd.own; (repeat (first | exact P0 | apply P1)); exact rfl; done)) | ((with_reducible apply t_id); first | ((with_reducible apply t_seq)) | (apply t_region; kernel_rfl) | (apply t_drawn; kernel_rfl; decide +kernel) | ((with_reducible apply t_condD); exact rfl; all_goals first | (intro hp; try (exfalso; omega)) | skip) | ((with_reducible apply t_ret))) | with_reducible apply q_thenN | with_reducible apply q_thenR | exact P0 | exact Rdn.zero | apply Rdn.succ | ((with_reducible apply Norm.nil); exact rfl) | ((with_reducible apply Norm.cons); exact rfl) | ((with_reducible apply end_ret)) | exact rvs_nil | ((with_reducible apply rvs_cons)) | ((with_reducible apply rv_cellAgg); exact rfl; exact rfl) | (apply t_mix (id := 4) [0, 1, 2, 3, 4, 5, 6, 7, 8, 9, 10, 11, 12, 13, 14, 15, 16, 17, 18, 19, 20, 21] 1 #[false, false, false, false, false, false, false, false, false, false, false, false, false, false, false, false, false, false, false, false, false, false, true]; kernel_rfl; kernel_rfl; exact rfl) | ((with_reducible apply al_id); first | (apply al_done; decide +kernel) | (apply al_one 22; decide +kernel)) | exact Nat.le_of_ble_eq_true rfl)
  unfold riseV
  rw [← Int.tdiv_eq_ediv_of_nonneg (by simp only; omega), ← Int.tdiv_eq_ediv_of_nonneg (by simp only; omega)]
  rfl


theorem carry_dn (p0 p1 m t0 t1 : Int) (hp : 0 ≤ p0 ∧ p0 ≤ 400000000) (hp1 : 0 ≤ p1 ∧ p1 ≤ 1000000) (hm : 0 ≤ m ∧ m ≤ 2000) (ht : 1500 ≤ t0 ∧ t0 ≤ t1 ∧ t1 ≤ 3500) (w : World) :
    Calls Try.prog 103 #[.agg #[.int .i64 p0, .int .i64 p1], .int .i64 (-m), .agg #[.int .i64 t0, .int .i64 t1]] w fun e w' => e = .returned (.agg #[.int .i64 (sinkV (p0, p1) m (t0, t1)).1, .int .i64 (sinkV (p0, p1) m (t0, t1)).2]) ∧ Ext w w' := by
  have m1 := mul_abs (x := p0) (y := 1000000 * t1 + 341632 * m) (a := 400000000) (b := 5000000000) (by omega) (by omega)
  have m2 := mul_abs (x := p1) (y := 1000000 * t0) (a := 1000000) (b := 5000000000) (by omega) (by omega)
  have n1 : 0 ≤ p0 * (1000000 * t1 + 341632 * m) := Int.mul_nonneg (by omega) (by omega)
  have n2 : 0 ≤ p1 * (1000000 * t0) := Int.mul_nonneg (by omega) (by omega)
  have q1 : InR (p0 * (1000000 * t1 + 341632 * m)) := ⟨by omega, by omega⟩
  have q2 : InR (p1 * (1000000 * t0)) := ⟨by omega, by omega⟩
  have d1 := tdiv_abs (a := (p0 * (1000000 * t1 + 341632 * m))) (b := (1000000 * t1)) (m := 2000000000000000000) (by omega) (by omega)
  have d2 := tdiv_abs (a := (p1 * (1000000 * t0) + 1000000 * t0 - 341632 * m - 1)) (b := (1000000 * t0 - 341632 * m)) (m := 2000000000000000000) (by omega) (by omega)
  have r1 : InR ((p0 * (1000000 * t1 + 341632 * m)).tdiv (1000000 * t1)) := ⟨by omega, by omega⟩
  have r2 : InR ((p1 * (1000000 * t0) + 1000000 * t0 - 341632 * m - 1).tdiv (1000000 * t0 - 341632 * m)) := ⟨by omega, by omega⟩
  refine enterQ (c := cx w 67) Try.func103 rfl rfl rfl rfl ?_
  repeat' (first | ((with_reducible apply oq_id); first | ((with_reducible apply oq_max2E (k := m)); exact rfl; exact rfl; omega) | (focus ((apply oq_fn); exact rfl; exact ⟨by omega, r1⟩)) | (focus ((apply oq_fn); exact rfl; exact ⟨by omega, r2⟩)) | (apply oq_fn; exact rfl; first | exact trivial | (refine ⟨?_, ?_⟩ <;> omega) | (refine ⟨?_, ?_, ?_⟩ <;> omega) | omega | skip) | ((with_reducible apply oq_load); exact rfl; exact rfl) | ((with_reducible apply oq_build); exact rfl; exact rfl; exact rfl)) | ((with_reducible apply tl_id); first | ((with_reducible apply tl_nil)) | ((with_reducible apply u_q); exact rfl; exact rfl; exact rfl; exact rfl) | ((with_reducible apply u_s); exact rfl; exact rfl; exact rfl)) | ((with_reducible apply gx_id); first | ((with_reducible apply v_nil)) | ((with_reducible apply v_q); exact rfl; exact rfl; exact rfl)) | ((with_reducible apply os_id); first | ((with_reducible apply os_x); exact rfl) | ((with_reducible apply os_storeAgg); exact rfl; exact rfl; exact rfl; exact rfl; exact rfl)) | ((with_reducible apply ox_id); first | ((with_reducible apply ox_alloc); exact rfl; intro _) | ((with_reducible apply ox_boxAgg); exact rfl; intro _)) | ((with_reducible apply ai_id); first | ((with_reducible apply ai_s0); exact rfl; exact rfl; exact rfl; exact rfl)) | ((with_reducible apply rd_id); first | (apply Rd.own; (repeat (first | exact P0 | apply P1)); exact rfl; done)) | ((with_reducible apply t_id); first | ((with_reducible apply t_seq)) | (apply t_region; kernel_rfl) | (apply t_drawn; kernel_rfl; decide +kernel) | ((with_reducible apply t_condD); exact rfl; all_goals first | (intro hp; try (exfalso; omega)) | skip) | ((with_reducible apply t_ret)) | ((with_reducible apply t_skip))) | with_reducible apply q_thenN | exact P0 | exact Rdn.zero | apply Rdn.succ | ((with_reducible apply Norm.nil); exact rfl) | ((with_reducible apply Norm.cons); exact rfl) | ((with_reducible apply end_ret)) | exact rvs_nil | ((with_reducible apply rvs_cons)) | ((with_reducible apply rv_cellAgg); exact rfl; exact rfl) | (apply t_mix (id := 5) [0, 1, 2, 3, 4, 5, 6, 7, 8, 9, 10, 11, 12, 13, 14, 15, 16, 17, 18, 19, 20, 21] 1 #[false, false, false, false, false, false, false, false, false, false, false, false, false, false, false, false, false, false, false, false, false, false, true]; kernel_rfl; kernel_rfl; exact rfl) | ((with_reducible apply al_id); first | (apply al_done; decide +kernel) | (apply al_one 22; decide +kernel)) | exact Nat.le_of_ble_eq_true rfl)
  unfold sinkV
  rw [← Int.tdiv_eq_ediv_of_nonneg (by simp only; omega), ← Int.tdiv_eq_ediv_of_nonneg (by simp only; omega)]
  rfl


def joinA (s : Int × Int) (l : List (Int × Int)) : Int × Int := l.foldl joinS s
theorem joinA_take (s : Int × Int) (l : List (Int × Int)) (k : Nat) (x : Int × Int) (h : l[k]? = some x) : joinA s (l.take (k + 1)) = joinS (joinA s (l.take k)) x := by
  unfold joinA
  rw [List.take_add_one, h, List.foldl_append]
  rfl
theorem togs_calls (A : Option Addr) (n c : Nat) (s : Int × Int) (l : List (Int × Int)) (w : World) (hr : RdS w 2 A n (l.map spanCells)) (hn : n ≤ 1000000) (h0 : l[0]? = some s) :
    Calls Try.prog 79 #[.slice A n c] w fun e w' => e = .returned (.agg #[.int .i64 (joinA s l).1, .int .i64 (joinA s l).2]) ∧ Ext w w' := by
  have hl := hr.len
  simp only [List.length_map] at hl
  have hn0 : 0 < n := by have := (List.getElem?_eq_some_iff.1 h0).1; omega
  obtain ⟨b0, o, x, rfl, hb, hkx, c0, c1⟩ := span_read hr hn0
  obtain rfl : s = x := by rw [hkx] at h0; exact (Option.some.inj h0).symm
  refine enterQ (c := cx w 29) Try.func79 rfl rfl rfl rfl ?_
  repeat' (first | ((with_reducible apply oq_id); first | (apply oq_fn; exact rfl; first | exact trivial | (refine ⟨?_, ?_⟩ <;> omega) | (refine ⟨?_, ?_, ?_⟩ <;> omega) | omega | skip) | ((with_reducible apply oq_loadAgg); exact rfl; exact rfl)) | ((with_reducible apply tl_id); first | ((with_reducible apply tl_nil)) | ((with_reducible apply u_q); exact rfl; exact rfl; exact rfl; exact rfl) | ((with_reducible apply u_s0); exact rfl; exact rfl) | ((with_reducible apply u_s); exact rfl; exact rfl; exact rfl)) | ((with_reducible apply os_id); first | ((with_reducible apply os_x); exact rfl) | ((with_reducible apply os_storeAgg); exact rfl; exact rfl; exact rfl; exact rfl; exact rfl)) | ((with_reducible apply ox_id); first | ((with_reducible apply ox_alloc); exact rfl; intro _)) | ((with_reducible apply rd_id); first | (apply Rd.old; (first | (with_reducible assumption) | exact c0 | exact c1); first | exact List.not_mem_nil)) | ((with_reducible apply t_id); first | ((with_reducible apply t_seq)) | (apply t_region; kernel_rfl) | ((with_reducible apply t_block))) | with_reducible apply q_thenN | exact P0 | exact Rdn.zero | apply Rdn.succ | ((with_reducible apply Norm.nil); exact rfl) | ((with_reducible apply Norm.cons); exact rfl) | exact Nat.le_of_ble_eq_true rfl)
  rename_i b
  apply t_loopK (ι := Nat) [2, 3, 9, 10, 28] (fun k => [(11, .int .i64 (k : Nat))]) (fun k => [(b, [.int .i64 (joinA s (l.take k)).1, .int .i64 (joinA s (l.take k)).2], some (26, 2, 1))]) (fun k => k ≤ n) (fun k => n - k) (0)
  (repeat (first | exact KeepF.nil | (apply KeepF.cons; exact rfl) | apply KeepF.skip))
  (repeat (first | exact FrSub.nil | (apply FrSub.cons; exact rfl)))
  (repeat (first | exact HpSub.refl _ | (apply HpSub.consE; (repeat (first | exact P0 | apply P1)); exact rfl) | exact HpSub.nil))
  · omega
  intro k hk
  try simp only [List.cons_append, List.nil_append]
  clear c0 c1
  by_cases hlt : k < n
  · obtain ⟨b1, o1, x, hA, _, hkx2, c0, c1⟩ := span_read hr hlt
    obtain ⟨rfl, rfl⟩ : b1 = b0 ∧ o1 = o := by simpa using hA.symm
    repeat' (first | ((with_reducible apply oq_id); first | (apply oq_fn; exact rfl; first | exact trivial | (refine ⟨?_, ?_⟩ <;> omega) | (refine ⟨?_, ?_, ?_⟩ <;> omega) | omega | skip) | ((with_reducible apply oq_load); exact rfl; exact rfl) | ((with_reducible apply oq_loadAgg); exact rfl; exact rfl)) | ((with_reducible apply tl_id); first | ((with_reducible apply tl_nil)) | ((with_reducible apply u_q); exact rfl; exact rfl; exact rfl; exact rfl) | ((with_reducible apply u_s0); exact rfl; exact rfl) | ((with_reducible apply u_s); exact rfl; exact rfl; exact rfl)) | ((with_reducible apply gx_id); first | ((with_reducible apply v_nil)) | ((with_reducible apply v_q); exact rfl; exact rfl; exact rfl)) | ((with_reducible apply os_id); first | ((with_reducible apply os_x); exact rfl) | ((with_reducible apply os_store); exact rfl; exact rfl; exact rfl; exact rfl) | ((with_reducible apply os_storeAgg); exact rfl; exact rfl; exact rfl; exact rfl; exact rfl)) | ((with_reducible apply ox_id); first | ((with_reducible apply ox_alloc); exact rfl; intro _)) | ((with_reducible apply ai_id); first | ((with_reducible apply ai_q); exact rfl; exact rfl; exact rfl; exact rfl; exact rfl) | ((with_reducible apply ai_s0); exact rfl; exact rfl; exact rfl; exact rfl)) | ((with_reducible apply rd_id); first | (apply Rd.own; (repeat (first | exact P0 | apply P1)); exact rfl; done) | (apply Rd.old; (first | (with_reducible assumption) | exact c0 | exact c1); first | exact List.not_mem_nil)) | ((with_reducible apply t_id); first | ((with_reducible apply t_seq)) | (apply t_region; kernel_rfl) | ((with_reducible apply t_condD); exact rfl; all_goals first | (intro hp; try (exfalso; omega)) | skip) | ((with_reducible apply t_skip)) | ((with_reducible apply t_block))) | with_reducible apply q_thenN | with_reducible apply q_blockN | exact P0 | ((with_reducible apply P1)) | exact Rdn.zero | apply Rdn.succ | ((with_reducible apply Norm.nil); exact rfl) | ((with_reducible apply Norm.cons); exact rfl) | (apply t_mix (id := 5) [0, 1, 2, 3, 4, 5, 6, 10] 6 #[false, false, false, false, false, false, false, false, false, false, false, true, false, true]; kernel_rfl; kernel_rfl; exact rfl) | ((with_reducible apply al_id); first | (apply al_done; decide +kernel) | (apply al_one 7; decide +kernel) | (apply al_one 8; decide +kernel) | (apply al_one 9; decide +kernel) | (apply al_one 11; decide +kernel) | (apply al_one 12; decide +kernel) | (apply al_one 13; decide +kernel) | (apply al_two 7 11; decide +kernel) | (apply al_two 8 11; decide +kernel) | (apply al_two 9 11; decide +kernel)) | exact Nat.le_of_ble_eq_true rfl)
    all_goals (refine ⟨k + 1, by omega, by omega, ?_, ?_⟩ <;> (try simp only [List.cons_append, List.nil_append]) <;> (repeat' (first | exact FrSub.nil | (apply FrSub.cons; exact rfl) | (apply HpSub.consE; (repeat (first | exact P0 | apply P1)); first | exact rfl | (rw [joinA_take _ _ _ _ hkx2]; rfl)) | exact HpSub.nil)))
  · have hkn : l.take k = l := List.take_of_length_le (by omega)
    repeat' (first | ((with_reducible apply oq_id); first | (apply oq_fn; exact rfl; first | exact trivial | (refine ⟨?_, ?_⟩ <;> omega) | (refine ⟨?_, ?_, ?_⟩ <;> omega) | omega | skip) | ((with_reducible apply oq_loadAgg); exact rfl; exact rfl)) | ((with_reducible apply tl_id); first | ((with_reducible apply tl_nil)) | ((with_reducible apply u_q); exact rfl; exact rfl; exact rfl; exact rfl) | ((with_reducible apply u_s0); exact rfl; exact rfl)) | ((with_reducible apply os_id); first | ((with_reducible apply os_storeAgg); exact rfl; exact rfl; exact rfl; exact rfl; exact rfl)) | ((with_reducible apply rd_id); first | (apply Rd.own; (repeat (first | exact P0 | apply P1)); exact rfl; done)) | ((with_reducible apply t_id); first | ((with_reducible apply t_seq)) | (apply t_region; kernel_rfl) | ((with_reducible apply t_condD); exact rfl; all_goals first | (intro hp; try (exfalso; omega)) | skip) | ((with_reducible apply t_ret)) | ((with_reducible apply t_exit))) | with_reducible apply q_thenN | with_reducible apply q_thenE | ((with_reducible apply q_blockE); exact rfl) | exact P0 | ((with_reducible apply P1)) | exact Rdn.zero | apply Rdn.succ | ((with_reducible apply Norm.nil); exact rfl) | ((with_reducible apply Norm.cons); exact rfl) | ((with_reducible apply end_ret)) | exact rvs_nil | ((with_reducible apply rvs_cons)) | ((with_reducible apply rv_cellAgg); exact rfl; exact rfl) | exact Nat.le_of_ble_eq_true rfl)
    rw [hkn]
    rfl
theorem tog2 {w0 : World} {M : Ms} {H H' : Hp} {w : World} {bb : Nat} {a b c d : Int} {g : Tg} (h : Has w0 M H w) (p : Pick H bb [.int .i64 a, .int .i64 b, .int .i64 c, .int .i64 d] g H') :
    Calls Try.prog 79 #[.slice (some ⟨bb, 0, none⟩) 2 2] w fun e w' => e = .returned (.agg #[.int .i64 (max a c), .int .i64 (min b d)]) ∧ Ext w w' := by
  have hb := (h.blk _ p.mem).2
  have hr : RdS w 2 (some ⟨bb, 0, none⟩) 2 ([(a, b), (c, d)].map spanCells) := Blk.rows (rows := [(a, b), (c, d)].map spanCells) (g := g) hb rfl (by simp [spanCells])
  have := togs_calls (some ⟨bb, 0, none⟩) 2 2 (a, b) [(a, b), (c, d)] w hr (by omega) rfl
  have e : joinA (a, b) [(a, b), (c, d)] = (max a c, min b d) := by simp only [joinA, joinS, List.foldl_cons, List.foldl_nil]; congr 1 <;> omega
  rw [e] at this
  exact this

end Go.Proofs.Ytalidommelefaaa
/- Settling: what the code computes. -/
namespace Go.Proofs.Ytalidommelefaaa
open Go.RowKit
attribute [local irreducible] OQ OS OX Rd T TL GX GL AL AI RV wpG SAny Calls
set_option maxRecDepth 100000
set_option maxHeartbeats 2000000
set_option linter.unusedVariables false
set_option linter.unusedSimpArgs false


theorem lv_flat_len (l : List Lv) : (l.map lvCells).flatten.length = l.length * 5 := by
  induction l with
  | nil => rfl
  | cons x l ih => simp [lvCells] at ih ⊢; omega
theorem lv_flat_get : ∀ {l : List Lv} {i j : Nat} {x : Lv} {v : Value}, l[i]? = some x → (lvCells x)[j]? = some v → (l.map lvCells).flatten[0 + i * 5 + j]? = some v
  | [], i, j, x, v, h, _ => by simp at h
  | y :: l, 0, j, x, v, h, hv => by
    obtain rfl : y = x := by simpa using h
    have hj := (List.getElem?_eq_some_iff.1 hv).1
    rw [List.map_cons, List.flatten_cons, List.getElem?_append_left (by omega)]
    rw [show 0 + 0 * 5 + j = j by omega]; exact hv
  | y :: l, i + 1, j, x, v, h, hv => by
    have ih := lv_flat_get (l := l) (i := i) (j := j) (by simpa using h) hv
    rw [List.map_cons, List.flatten_cons, List.getElem?_append_right (by simp [lvCells]; omega)]
    rw [← ih]; congr 1; simp [lvCells]; omega
theorem lv_flat_set : ∀ {l : List Lv} {i : Nat} {x : Lv} {p q : Int}, l[i]? = some x → setL (l.map lvCells).flatten (0 + i * 5 + 1) [.int .i64 p, .int .i64 q] = ((l.set i (x.put (p, q))).map lvCells).flatten
  | [], i, x, p, q, h => by simp at h
  | y :: l, 0, x, p, q, h => by
    obtain rfl : y = x := by simpa using h
    rfl
  | y :: l, i + 1, x, p, q, h => by
    have ih := lv_flat_set (l := l) (i := i) (p := p) (q := q) (by simpa using h)
    simp only [setL] at ih ⊢
    rw [List.set_cons_succ, List.map_cons, List.map_cons, List.flatten_cons, List.flatten_cons, ← ih]
    have hl : (lvCells y).length = 5 := rfl
    rw [List.set_append_right _ _ (by omega), List.set_append_right _ _ (by omega), hl]
    rw [show 0 + (i + 1) * 5 + 1 - 5 = 0 + i * 5 + 1 by omega, show 0 + (i + 1) * 5 + 1 + 1 - 5 = 0 + i * 5 + 1 + 1 by omega]
theorem rdlv {c : Cx} {H H' : Hp} {g : Nat} {tg : Tg} {l : List Lv} {i : Nat} (j : Nat) {x : Lv} {v : Value} (ha : l[i]? = some x) (hv : (lvCells x)[j]? = some v) (p : Pick H g (l.map lvCells).flatten tg H') : Rd c H ⟨g, 0 + i * 5 + j, none⟩ v := Rd.own p (lv_flat_get ha hv)
theorem os_storeLv {c : Cx} {F : Fr} {H H' : Hp} {K : Value → Hp → Prop} {d : Option Tmp} {ty : TypeId} {pos : String} {af : Array Edge} {gd : Option (Nat × Bool)} {t : TypeId} {x y : Operand} {a0 : Bool} {z0 : List Value} {k0 : TyK} {g i : Nat} {l : List Lv} {z : Lv} {p q : Int} {tg : Tg}
    (hz : l[i]? = some z) (ht : tyAt c.tys t = some ⟨a0, 2, z0, k0⟩) (hx : ev F x = some (.pointer (some ⟨g, 0 + i * 5 + 1, none⟩))) (hy : ev F y = some (.agg ⟨[.int .i64 p, .int .i64 q]⟩)) (hp : Pick H g (l.map lvCells).flatten tg H')
    (k : K undef ((g, ((l.set i (z.put (p, q))).map lvCells).flatten, tg) :: H')) : OS c ⟨d, .store t x y, ty, pos, af, gd⟩ F H K :=
  store_gen (vs := [.int .i64 p, .int .i64 q]) ht hx hy rfl rfl (by simp [Value.oneCell']) hp (by rw [lv_flat_len]; have := (List.getElem?_eq_some_iff.1 hz).1; omega) (by rw [lv_flat_set hz]; exact k)


/-- A step of settling: level 'to' takes what level 'fr' says. -/
theorem take_T (bo bt bk g n cap to fr : Nat) (l : List Lv) (x y : Lv) (T s : Int × Int) (w : World) (hl : l.length = n) (hx : l[fr]? = some x) (hy : l[to]? = some y) (hbx : -10000 ≤ x.h ∧ x.h ≤ 10000) (hby : -10000 ≤ y.h ∧ y.h ≤ 10000)
    (c0 : w.cell? ⟨bo, 0, none⟩ = some (.slice (some ⟨g, 0, none⟩) n cap)) (c1 : w.cell? ⟨bt, 0, none⟩ = some (.func (.func 133) #[] #[.pointer (some ⟨bk, 0, none⟩)])) (m0 : bo ∉ [g]) (m1 : bt ∉ [g]) (hB : Blk w g (l.map lvCells).flatten (some (76, 5, cap)))
    (HT : ∀ w1, ExtM [g] w w1 → Calls Try.prog 133 #[.int .i64 x.h, .int .i64 y.h, .pointer (some ⟨bk, 0, none⟩)] w1 fun e w' => e = .returned (.agg #[.int .i64 T.1, .int .i64 T.2]) ∧ Ext w1 w')
    (HK : ∀ w1, Calls Try.prog 103 #[.agg #[.int .i64 x.plo, .int .i64 x.phi], .int .i64 (y.h - x.h), .agg #[.int .i64 T.1, .int .i64 T.2]] w1 fun e w' => e = .returned (.agg #[.int .i64 s.1, .int .i64 s.2]) ∧ Ext w1 w') :
    Calls Try.prog 102 #[.int .i64 (to : Int), .int .i64 (fr : Int), .pointer (some ⟨bo, 0, none⟩), .pointer (some ⟨bt, 0, none⟩)] w fun e w' => e = .returned (.tuple #[]) ∧ ExtM [g] w w' ∧ Blk w' g ((l.set to (y.put (joinS y.press s))).map lvCells).flatten (some (76, 5, cap)) := by
  have hfr := (List.getElem?_eq_some_iff.1 hx).1
  have hto := (List.getElem?_eq_some_iff.1 hy).1
  refine enterW (c := cxM [g] w 38) Try.func102 rfl rfl rfl rfl hB ?_
  repeat' (first | ((with_reducible apply oq_id); first | (focus ((with_reducible apply oq_indexAddrN); exact rfl; exact rfl; exact rfl; exact rfl; omega)) | (apply oq_fn; exact rfl; first | exact trivial | (refine ⟨?_, ?_⟩ <;> omega) | (refine ⟨?_, ?_, ?_⟩ <;> omega) | omega | skip) | ((with_reducible apply oq_load); exact rfl; exact rfl) | ((with_reducible apply oq_loadAgg); exact rfl; exact rfl)) | ((with_reducible apply gx_id); first | ((with_reducible apply v_nil)) | ((with_reducible apply v_q); exact rfl; exact rfl; exact rfl)) | ((with_reducible apply os_id); first | ((with_reducible apply os_storeAgg); exact rfl; exact rfl; exact rfl; exact rfl; exact rfl)) | ((with_reducible apply ox_id); first | ((with_reducible apply ox_alloc); exact rfl; intro _)) | ((with_reducible apply ai_id); first | ((with_reducible apply ai_x); exact rfl; exact rfl; exact rfl; exact rfl; exact rfl) | ((with_reducible apply ai_n0); exact rfl; exact rfl; exact rfl)) | ((with_reducible apply al_keep); focus (repeat (first | exact HpSub.refl _ | (apply HpSub.cons; (repeat (first | exact P0 | apply P1))) | exact HpSub.nil))) | ((with_reducible apply rd_id); first | (apply rdlv 0 hx rfl; (repeat (first | exact P0 | apply P1))) | (apply rdlv 1 hx rfl; (repeat (first | exact P0 | apply P1))) | (apply rdlv 2 hx rfl; (repeat (first | exact P0 | apply P1))) | (apply rdlv 3 hx rfl; (repeat (first | exact P0 | apply P1))) | (apply rdlv 4 hx rfl; (repeat (first | exact P0 | apply P1))) | (apply rdlv 0 hy rfl; (repeat (first | exact P0 | apply P1))) | (apply rdlv 1 hy rfl; (repeat (first | exact P0 | apply P1))) | (apply rdlv 2 hy rfl; (repeat (first | exact P0 | apply P1))) | (apply rdlv 3 hy rfl; (repeat (first | exact P0 | apply P1))) | (apply rdlv 4 hy rfl; (repeat (first | exact P0 | apply P1))) | (apply Rd.old; (first | (with_reducible assumption) | exact c0 | exact c1); first | exact List.not_mem_nil | exact m0 | exact m1)) | ((with_reducible apply t_id); first | (with_reducible apply t_cutK (ι := (Nat × Nat)) (rid := 0) [0, 1, 2, 3] (fun i => [(6, .pointer (some ⟨i.1, 0, none⟩)), (7, .pointer (some ⟨i.2, 0, none⟩))]) (fun i => [(i.1, lvCells x, some (76, 5, 1)), (i.2, lvCells y, some (76, 5, 1))])); (repeat (first | exact KeepF.nil | (apply KeepF.cons; exact rfl) | apply KeepF.skip))) | exact P0 | ((with_reducible apply P1)) | exact Rdn.zero | apply Rdn.succ | ((with_reducible apply Norm.nil); exact rfl) | ((with_reducible apply Norm.cons); exact rfl) | ((with_reducible apply cut_in2) <;> (repeat' (first | exact FrSub.nil | (apply FrSub.cons; exact rfl) | exact HpSub.refl _ | (apply HpSub.consE; (repeat (first | exact P0 | apply P1)); exact rfl) | exact HpSub.nil))) | (apply t_mix (id := 0) [0, 1, 2, 3, 4, 5, 6, 7] 4 #[false, false, false, false, false, false, false, false, false, false, false, false]; kernel_rfl; kernel_rfl; exact rfl) | ((with_reducible apply al_id); first | (apply al_done; decide +kernel) | (apply al_one 8; decide +kernel) | (apply al_one 9; decide +kernel) | (apply al_one 10; decide +kernel) | (apply al_one 11; decide +kernel) | (apply al_two 8 9; decide +kernel)) | exact Nat.le_of_ble_eq_true rfl)
  rintro ⟨b6, b7⟩
  try simp only [List.cons_append, List.nil_append]
  simp only [lvCells]
  repeat' (first | ((with_reducible apply oq_id); first | (focus ((with_reducible apply oq_indexAddrN); exact rfl; exact rfl; exact rfl; exact rfl; omega)) | ((with_reducible apply oq_subE (k := (y.h - x.h))); exact rfl; exact rfl; omega) | (apply oq_fn; exact rfl; first | exact trivial | (refine ⟨?_, ?_⟩ <;> omega) | (refine ⟨?_, ?_, ?_⟩ <;> omega) | omega | skip) | ((with_reducible apply oq_load); exact rfl; exact rfl) | ((with_reducible apply oq_loadAgg); exact rfl; exact rfl) | ((with_reducible apply oq_call (k := 133) (hc := Try.call133)); exact rfl; exact rfl; exact fun D w1 hw1 => HT w1 hw1.ext) | ((with_reducible apply oq_call (k := 103) (hc := Try.call103)); exact rfl; exact rfl; exact fun D w1 hw1 => HK w1) | ((with_reducible apply oq_call (k := 79) (hc := Try.call79)); exact rfl; exact rfl; exact fun D w1 hw1 => tog2 hw1 (by (repeat (first | exact P0 | apply P1))))) | ((with_reducible apply gx_id); first | ((with_reducible apply v_nil)) | ((with_reducible apply v_q); exact rfl; exact rfl; exact rfl)) | ((with_reducible apply os_id); first | ((with_reducible apply os_storeLv hy); exact rfl; exact rfl; exact rfl; (repeat (first | exact P0 | apply P1)))) | ((with_reducible apply ox_id); first | ((with_reducible apply ox_buildSlice2); exact rfl; exact rfl; exact rfl; exact rfl; exact rfl; exact rfl; intro _)) | ((with_reducible apply ai_id); first | ((with_reducible apply ai_q); exact rfl; exact rfl; exact rfl; exact rfl; exact rfl) | ((with_reducible apply ai_x); exact rfl; exact rfl; exact rfl; exact rfl; exact rfl) | ((with_reducible apply ai_s0); exact rfl; exact rfl; exact rfl; exact rfl)) | ((with_reducible apply rd_id); first | (apply Rd.own; (repeat (first | exact P0 | apply P1)); exact rfl; done) | (apply Rd.old; (first | (with_reducible assumption) | exact c0 | exact c1); first | exact List.not_mem_nil | exact m0 | exact m1)) | exact Rdn.zero | apply Rdn.succ | ((with_reducible apply end_normal)) | exact rvs_nil | (apply t_mix (id := 1) [0, 1, 2, 3, 4, 5, 6, 7, 8, 9, 10, 11, 12, 13, 14, 15, 16, 17] 5 #[false, false, false, false, false, false, false, false, false, false, false, false, false, false, false, false, false, false, false, false, false, false, true]; kernel_rfl; kernel_rfl; exact rfl) | ((with_reducible apply al_id); first | (apply al_done; decide +kernel) | (apply al_one 18; decide +kernel) | (apply al_one 19; decide +kernel) | (apply al_one 20; decide +kernel) | (apply al_one 21; decide +kernel) | (apply al_one 22; decide +kernel)))
  refine ⟨rfl, ?_⟩
  (repeat (first | exact HpSub.refl _ | (apply HpSub.consE; (repeat (first | exact P0 | apply P1)); exact rfl) | exact HpSub.nil))

end Go.Proofs.Ytalidommelefaaa
/- Settling: what the code computes, part 2. -/
namespace Go.Proofs.Ytalidommelefaaa
open Go.RowKit
attribute [local irreducible] OQ OS OX Rd T TL GX GL AL AI RV wpG SAny Calls
set_option maxRecDepth 100000
set_option maxHeartbeats 2000000
set_option linter.unusedVariables false
set_option linter.unusedSimpArgs false


theorem Pick.uniq {w0 : World} {M : Ms} {H H1 H2 : Hp} {w : World} {a : Nat} {C C' : List Value} {g g' : Tg} (h : Has w0 M H w) (p : Pick H a C g H1) (q : Pick H a C' g' H2) : C = C' ∧ g = g' := by
  have hn := h.nodup
  have hp := p.mem
  have hq := q.mem
  clear p q
  clear h
  induction H generalizing H1 H2 with
  | nil => cases hp
  | cons x H ih =>
    rw [List.map_cons, List.nodup_cons] at hn
    rcases List.mem_cons.1 hp with hp | hp <;> rcases List.mem_cons.1 hq with hq | hq
    · rw [← hp] at hq
      simp only [Prod.mk.injEq, true_and] at hq
      exact ⟨hq.1.symm, hq.2.symm⟩
    · exact absurd (List.mem_map.2 ⟨_, hq, by rw [← hp]⟩) hn.1
    · exact absurd (List.mem_map.2 ⟨_, hp, by rw [← hq]⟩) hn.1
    · exact ih (H1 := []) (H2 := []) hn.2 hp hq
theorem Pick.ne_tag {w0 : World} {M : Ms} {H H1 H2 : Hp} {w : World} {a b : Nat} {C C' : List Value} {g g' : Tg} (h : Has w0 M H w) (p : Pick H a C g H1) (q : Pick H b C' g' H2) (hg : g ≠ g') : a ≠ b := by
  rintro rfl
  exact hg (Pick.uniq h p q).2
/-- In between: tighter than the sounding, and within bounds. -/
structure OkL (l cur : List Lv) : Prop where
  tt : Tt cur l
  bd : ∀ x ∈ cur, 0 ≤ x.plo ∧ x.plo ≤ 400000000 ∧ 0 ≤ x.phi ∧ x.phi ≤ 12000
theorem Snd.ch {l : List Lv} (h : Snd l) : Ch l := by
  have key : ∀ (m : List Lv), (∀ x ∈ m, 0 ≤ x.plo ∧ 0 ≤ x.phi) → (∀ {i : Nat} {x y : Lv}, m[i]? = some x → m[i + 1]? = some y → GapOk (y.h - x.h) (gapT x y)) → Ch m := by
    intro m
    induction m with
    | nil => intro _ _; exact .nil
    | cons a r ih =>
      intro h1 h2
      cases r with
      | nil => exact .one (h1 a (List.mem_cons_self ..))
      | cons b r => exact .cons (h1 a (List.mem_cons_self ..)) (h2 (i := 0) rfl rfl) (ih (fun x hx => h1 x (List.mem_cons_of_mem _ hx)) (fun {i x y} hx hy => h2 (i := i + 1) (by simpa using hx) (by simpa using hy)))
  refine key l (fun x hx => by have := h.ok x hx; omega) (fun {i x y} hx hy => ?_)
  have := h.rise hx hy
  have kx := h.ok x (List.mem_of_getElem? hx)
  have ky := h.ok y (List.mem_of_getElem? hy)
  refine ⟨by omega, by omega, ?_, ?_, ?_⟩ <;> (unfold gapT hullS Lv.temp; simp only; omega)
theorem upF_bd {B : Int} : ∀ {r : List Lv} {a : Lv}, Ch (a :: r) → (∀ x ∈ a :: r, x.plo ≤ B) → ∀ x ∈ upF a r, x.plo ≤ B
  | [], a, _, h => h
  | b :: r, a, hc, h => by
    cases hc with
    | cons ha g k =>
      have hb := upB_pos g ha k.head
      have hr := rise_pos g (x := a.press) ha.1 ha.2
      have h1 : (upB a b).plo ≤ B := by
        have e1 := h a (List.mem_cons_self ..)
        have e2 := h b (by simp)
        have e3 : (upB a b).plo = max b.plo (upI a b).1 := rfl
        have e4 : (upI a b).1 ≤ a.plo := hr.2.1
        omega
      intro x hx
      simp only [upF] at hx
      rcases List.mem_cons.1 hx with rfl | hx
      · exact h _ (List.mem_cons_self ..)
      · have hb' : Ch (upB a b :: r) := k.put rfl rfl rfl hb
        exact upF_bd (a := upB a b) (r := r) hb' (fun y hy => by
          rcases List.mem_cons.1 hy with rfl | hy
          · exact h1
          · exact h y (by simp [hy])) x hx
theorem dnL_bd {B : Int} (hB : 0 ≤ B) : ∀ {l : List Lv}, Ch l → FixU l → (∀ x ∈ l, x.plo ≤ B) → ∀ x ∈ dnL l, x.plo ≤ B * 2 ^ (l.length - 1)
  | [], _, _, _, x, hx => by cases hx
  | [a], _, _, h, x, hx => by have := h x hx; simpa using this
  | a :: b :: r, hc, hu, h, x, hx => by
    cases hc with
    | cons ha g k =>
      cases hu with
      | cons u1 u2 =>
        have ih := dnL_bd hB k u2 (fun y hy => h y (List.mem_cons_of_mem _ hy))
        obtain ⟨i1, i2, i3⟩ := dnL_ch k u2
        have hp : (0 : Int) < 2 ^ ((b :: r).length - 1) := Int.pow_pos (by omega)
        have e2 : B * 2 ^ ((a :: b :: r).length - 1) = 2 * (B * 2 ^ ((b :: r).length - 1)) := by
          simp only [List.length_cons, Nat.add_sub_cancel, Int.pow_succ]
          rw [← Int.mul_assoc, Int.mul_comm]
        rw [e2]
        have hBp : B ≤ B * 2 ^ ((b :: r).length - 1) := by
          have := Int.mul_le_mul_of_nonneg_left (show (1 : Int) ≤ 2 ^ ((b :: r).length - 1) by omega) hB
          omega
        have hx' : x ∈ dnH a (dnL (b :: r)) := hx
        cases hd : dnL (b :: r) with
        | nil => rw [hd] at i3; cases i3
        | cons c s =>
          rw [hd] at hx' i1 i3 ih
          simp only [dnH] at hx'
          rcases List.mem_cons.1 hx' with rfl | hx'
          · cases i3 with
            | cons e i3 =>
              obtain ⟨e1, e2', e3, e4⟩ := e
              have eg := upI_eq (a := a) (a' := a) rfl rfl rfl e1 e2' e3
              have gc : GapOk (c.h - a.h) (gapT a c) := by rw [eg.1, eg.2]; exact g
              have hcp := i1.head
              have hs := sink_pos gc (x := c.press) hcp.1 hcp.2
              have k1 : (dnA a c).plo = max a.plo (dnI a c).1 := rfl
              have k2 : (dnI a c).1 ≤ 2 * c.plo := hs.2.1
              have k3 := ih c (List.mem_cons_self ..)
              have k4 := h a (List.mem_cons_self ..)
              have := hcp.1
              omega
          · have := ih x hx'
            have h0 := (i1.pos hx').1
            omega
theorem Tt.mem_of {l m : List Lv} (h : Tt m l) {y : Lv} (hy : y ∈ m) : ∃ x ∈ l, y.h = x.h ∧ y.tlo = x.tlo ∧ y.thi = x.thi ∧ SIn y.press x.press := by
  obtain ⟨i, hi, rfl⟩ := List.getElem_of_mem hy
  have hl := h.len
  exact ⟨l[i]'(by omega), List.getElem_mem _, h.get (List.getElem?_eq_getElem hi) (List.getElem?_eq_getElem (by omega))⟩
theorem Snd.setl_bd {l : List Lv} (h : Snd l) : ∀ x ∈ setl l, x.plo ≤ 400000000 := by
  have hc := h.ch
  have h16 := h.n16
  cases l with
  | nil => intro x hx; cases hx
  | cons a r =>
    obtain ⟨h1, h2, h3, _⟩ := upF_ch hc
    intro x hx
    have := dnL_bd (B := 12000) (by omega) h1 h2 (upF_bd hc (fun y hy => by have := h.ok y hy; omega)) x hx
    have hl : (upF a r).length - 1 ≤ 15 := by rw [upF_len]; simp at h16; omega
    have hp : (2 : Int) ^ ((upF a r).length - 1) ≤ 2 ^ 15 := by
      have := Nat.pow_le_pow_right (show 0 < 2 by omega) hl
      exact_mod_cast this
    have := Int.mul_le_mul_of_nonneg_left hp (show (0 : Int) ≤ 12000 by omega)
    have e : (12000 : Int) * 2 ^ 15 = 393216000 := by decide
    omega
/-- What lies between the sounding and what it settles to is within bounds. -/
theorem okL_of {l cur : List Lv} (h : Snd l) (h1 : Tt cur l) (h2 : Tt (setl l) cur) : OkL l cur := by
  refine ⟨h1, fun x hx => ?_⟩
  obtain ⟨y, hy, _, _, _, k1, k2⟩ := h1.mem_of hx
  have hb := h.ok y hy
  obtain ⟨i, hi, rfl⟩ := List.getElem_of_mem hx
  have hl := h2.len
  have hz : (setl l)[i]? = some (setl l)[i] := List.getElem?_eq_getElem (by omega)
  obtain ⟨_, _, _, k3, k4⟩ := h2.get hz (List.getElem?_eq_getElem hi)
  have b1 := h.setl_bd _ (List.mem_of_getElem? hz)
  have b2 := (setl_fix h.ch).1.pos (List.mem_of_getElem? hz)
  unfold Lv.press at *
  simp only at *
  omega
theorem valV_adj {l : List Lv} (hs : Snd l) {i : Nat} {x y : Lv} (hx : l[i]? = some x) (hy : l[i + 1]? = some y) : valV (tabOf l) x.h y.h = gapT x y := by
  have ht := hs.tab
  have kx : (tabOf l)[i]? = some (knOf x) := by simp [tabOf, hx]
  have ky : (tabOf l)[i + 1]? = some (knOf y) := by simp [tabOf, hy]
  unfold valV
  have e1 : atV (tabOf l) x.h = (x.tlo, x.thi) := atV_knot ht.inc kx ht.l2
  have e2 : atV (tabOf l) y.h = (y.tlo, y.thi) := atV_knot ht.inc ky ht.l2
  have e3 : (tabOf l).filter (kIn x.h y.h) = [] := by
    rw [List.filter_eq_nil_iff]
    intro k hk
    obtain ⟨j, hj, rfl⟩ := List.getElem_of_mem hk
    have hkj : (tabOf l)[j]? = some (tabOf l)[j] := List.getElem?_eq_getElem hj
    simp only [kIn, Bool.and_eq_true, decide_eq_true_eq]
    rcases Nat.lt_or_ge i j with h | h
    · rcases Nat.lt_or_eq_of_le h with h2 | h2
      · have : (knOf y).x < ((tabOf l)[j]).x := ht.inc.at_ h2 ky hkj
        have e : (knOf y).x = y.h := rfl
        omega
      · subst h2
        rw [ky] at hkj
        have := Option.some.inj hkj
        rw [← this]
        have e : (knOf y).x = y.h := rfl
        omega
    · rcases Nat.lt_or_eq_of_le h with h2 | h2
      · have : ((tabOf l)[j]).x < (knOf x).x := ht.inc.at_ h2 hkj kx
        have e : (knOf x).x = x.h := rfl
        omega
      · subst h2
        rw [kx] at hkj
        have := Option.some.inj hkj
        rw [← this]
        have e : (knOf x).x = x.h := rfl
        omega
  rw [e1, e2, e3]
  rfl
/-- Heights only grow. -/
theorem Snd.mono {l : List Lv} (hs : Snd l) {i j : Nat} {x y : Lv} (hx : l[i]? = some x) (hy : l[j]? = some y) (h : i ≤ j) : x.h ≤ y.h := by
  rcases Nat.lt_or_eq_of_le h with h2 | h2
  · have kx : (tabOf l)[i]? = some (knOf x) := by simp [tabOf, hx]
    have ky : (tabOf l)[j]? = some (knOf y) := by simp [tabOf, hy]
    have : (knOf x).x < (knOf y).x := hs.tab.inc.at_ h2 kx ky
    have e1 : (knOf x).x = x.h := rfl
    have e2 : (knOf y).x = y.h := rfl
    omega
  · subst h2
    rw [hx] at hy
    rw [Option.some.inj hy]
    exact Int.le_refl _
section
variable {w0 : World} {M : Ms} {H H0 H1 H2 H3 H4 : Hp} {w1 : World} {g bo bt bk gk n cap ck : Nat} {l cur : List Lv}
theorem thermo_at (hs : Snd l) (hl : l.length = n) {i : Nat} {x y : Lv} (hx : l[i]? = some x) (hy : l[i + 1]? = some y) (hw : Has w0 M H w1) (pg : Pick H g (cur.map lvCells).flatten (some (76, 5, cap)) H0)
    (pk : Pick H bk [.slice (some ⟨gk, 0, none⟩) n ck] (some (164, 1, 1)) H3) (pq : Pick H gk ((tabOf l).map knCells).flatten (some (166, 3, ck)) H4) (a b : Int) (hab : (a = x.h ∧ b = y.h) ∨ (a = y.h ∧ b = x.h)) (w2 : World) (he : ExtM [g] w1 w2) :
    Calls Try.prog 133 #[.int .i64 a, .int .i64 b, .pointer (some ⟨bk, 0, none⟩)] w2 fun e w' => e = .returned (.agg #[.int .i64 (gapT x y).1, .int .i64 (gapT x y).2]) ∧ Ext w2 w' := by
  have n1 := Pick.ne_tag hw pk pg (by simp)
  have n2 := Pick.ne_tag hw pq pg (by simp)
  have c1 := hw.cellAt pk (o := 0) rfl
  have hB := (hw.blk _ pq.mem).2
  have c1' : w2.cell? ⟨bk, 0, none⟩ = some (.slice (some ⟨gk, 0, none⟩) n ck) := by
    rw [World.cell?_of_block (w := w1) (a := ⟨bk, 0, none⟩) (he.block bk (cell_lt c1) (by simpa using n1))]
    exact c1
  have hB' : Blk w2 gk ((tabOf l).map knCells).flatten (some (166, 3, ck)) := hB.same (he.block gk hB.lt (by simpa using n2))
  have hr := hB'.rows (k := 3) (n := n) (by simp [tabOf, hl]) (by simp only [List.mem_map]; rintro r ⟨z, _, rfl⟩; rfl)
  have hxy := hs.rise hx hy
  have hn := hs.n2
  have key := thermo1_calls bk gk ck n l a b w2 hs hl c1' hr (fun z hz => by have := hs.mono hz hx (by omega); omega) (fun z hz => by
    have hi := (List.getElem?_eq_some_iff.1 hy).1
    have := hs.mono hy hz (by omega); omega)
  have e : valV (tabOf l) (min a b) (max a b) = gapT x y := by
    rw [← valV_adj hs hx hy]
    congr 1 <;> omega
  rw [e] at key
  exact key
theorem okL_pair (hs : Snd l) (ho : OkL l cur) {i : Nat} {x y : Lv} (hx : cur[i]? = some x) (hy : cur[i + 1]? = some y) : ∃ x' y', l[i]? = some x' ∧ l[i + 1]? = some y' ∧ x.h = x'.h ∧ y.h = y'.h ∧ gapT x y = gapT x' y' ∧ GapOk (y.h - x.h) (gapT x y) ∧ 1 ≤ y.h - x.h ∧ (-10000 ≤ x.h ∧ x.h ≤ 10000) ∧ (-10000 ≤ y.h ∧ y.h ≤ 10000) ∧
    (0 ≤ x.plo ∧ x.plo ≤ 400000000 ∧ 0 ≤ x.phi ∧ x.phi ≤ 12000) ∧ (0 ≤ y.plo ∧ y.plo ≤ 400000000 ∧ 0 ≤ y.phi ∧ y.phi ≤ 12000) := by
  have hl := ho.tt.len
  have h1 := (List.getElem?_eq_some_iff.1 hx).1
  have h2 := (List.getElem?_eq_some_iff.1 hy).1
  have kx : l[i]? = some l[i] := List.getElem?_eq_getElem (by omega)
  have ky : l[i + 1]? = some l[i + 1] := List.getElem?_eq_getElem (by omega)
  obtain ⟨a1, a2, a3, _⟩ := ho.tt.get hx kx
  obtain ⟨b1, b2, b3, _⟩ := ho.tt.get hy ky
  have e := upI_eq a1 a2 a3 b1 b2 b3
  have hr := hs.rise kx ky
  have bx := hs.ok _ (List.mem_of_getElem? kx)
  have byy := hs.ok _ (List.mem_of_getElem? ky)
  exact ⟨_, _, kx, ky, a1, b1, e.1, by rw [e.1, e.2]; exact hs.ch.get kx ky, by omega, by omega, by omega, ho.bd x (List.mem_of_getElem? hx), ho.bd y (List.mem_of_getElem? hy)⟩
theorem takeUp_at (hs : Snd l) (hl : l.length = n) (ho : OkL l cur) (k : Nat) (hk : k + 1 < n) (hw : Has w0 M H w1) (pg : Pick H g (cur.map lvCells).flatten (some (76, 5, cap)) H0) (po : Pick H bo [.slice (some ⟨g, 0, none⟩) n cap] (some (42, 1, 1)) H1)
    (pt : Pick H bt [.func (.func 133) #[] #[.pointer (some ⟨bk, 0, none⟩)]] (some (88, 1, 1)) H2) (pk : Pick H bk [.slice (some ⟨gk, 0, none⟩) n ck] (some (164, 1, 1)) H3) (pq : Pick H gk ((tabOf l).map knCells).flatten (some (166, 3, ck)) H4) :
    Calls Try.prog 102 #[.int .i64 ((k + 1 : Nat) : Int), .int .i64 (k : Int), .pointer (some ⟨bo, 0, none⟩), .pointer (some ⟨bt, 0, none⟩)] w1 fun e w' => e = .returned (.tuple #[]) ∧ ExtM [g] w1 w' ∧ Blk w' g ((takeUp cur k).map lvCells).flatten (some (76, 5, cap)) := by
  have hcl := ho.tt.len
  have hx : cur[k]? = some cur[k] := List.getElem?_eq_getElem (by omega)
  have hy : cur[k + 1]? = some cur[k + 1] := List.getElem?_eq_getElem (by omega)
  obtain ⟨x', y', kx, ky, e1, e2, e3, g1, g2, b1, b2, b3, b4⟩ := okL_pair hs ho hx hy
  have e : takeUp cur k = cur.set (k + 1) (cur[k + 1].put (joinS cur[k + 1].press (upI cur[k] cur[k + 1]))) := by unfold takeUp; simp only [hx, hy]; rfl
  rw [e]
  refine take_T bo bt bk g n cap (k + 1) k cur cur[k] cur[k + 1] (gapT cur[k] cur[k + 1]) (upI cur[k] cur[k + 1]) w1 (by omega) hx hy b1 b2 (hw.cellAt po rfl) (hw.cellAt pt rfl) (by simpa using Pick.ne_tag hw po pg (by simp)) (by simpa using Pick.ne_tag hw pt pg (by simp)) (hw.blk _ pg.mem).2 (fun w2 h2 => ?_) (fun w2 => ?_)
  · rw [e3]
    exact thermo_at hs hl kx ky hw pg pk pq _ _ (.inl ⟨e1, e2⟩) w2 h2
  · exact carry_up _ _ _ _ _ ⟨by omega, by omega⟩ ⟨by omega, by omega⟩ ⟨by omega, g1.c1⟩ ⟨g1.t0, g1.t1, g1.t2⟩ w2
theorem takeDn_at (hs : Snd l) (hl : l.length = n) (ho : OkL l cur) (k : Nat) (hk : k + 1 < n) (hw : Has w0 M H w1) (pg : Pick H g (cur.map lvCells).flatten (some (76, 5, cap)) H0) (po : Pick H bo [.slice (some ⟨g, 0, none⟩) n cap] (some (42, 1, 1)) H1)
    (pt : Pick H bt [.func (.func 133) #[] #[.pointer (some ⟨bk, 0, none⟩)]] (some (88, 1, 1)) H2) (pk : Pick H bk [.slice (some ⟨gk, 0, none⟩) n ck] (some (164, 1, 1)) H3) (pq : Pick H gk ((tabOf l).map knCells).flatten (some (166, 3, ck)) H4) :
    Calls Try.prog 102 #[.int .i64 (k : Int), .int .i64 ((k + 1 : Nat) : Int), .pointer (some ⟨bo, 0, none⟩), .pointer (some ⟨bt, 0, none⟩)] w1 fun e w' => e = .returned (.tuple #[]) ∧ ExtM [g] w1 w' ∧ Blk w' g ((takeDn cur k).map lvCells).flatten (some (76, 5, cap)) := by
  have hcl := ho.tt.len
  have hx : cur[k]? = some cur[k] := List.getElem?_eq_getElem (by omega)
  have hy : cur[k + 1]? = some cur[k + 1] := List.getElem?_eq_getElem (by omega)
  obtain ⟨x', y', kx, ky, e1, e2, e3, g1, g2, b1, b2, b3, b4⟩ := okL_pair hs ho hx hy
  have e : takeDn cur k = cur.set k (cur[k].put (joinS cur[k].press (dnI cur[k] cur[k + 1]))) := by unfold takeDn; simp only [hx, hy]; rfl
  rw [e]
  refine take_T bo bt bk g n cap k (k + 1) cur cur[k + 1] cur[k] (gapT cur[k] cur[k + 1]) (dnI cur[k] cur[k + 1]) w1 (by omega) hy hx b2 b1 (hw.cellAt po rfl) (hw.cellAt pt rfl) (by simpa using Pick.ne_tag hw po pg (by simp)) (by simpa using Pick.ne_tag hw pt pg (by simp)) (hw.blk _ pg.mem).2 (fun w2 h2 => ?_) (fun w2 => ?_)
  · rw [e3]
    exact thermo_at hs hl kx ky hw pg pk pq _ _ (.inr ⟨e2, e1⟩) w2 h2
  · have := carry_dn cur[k + 1].plo cur[k + 1].phi (cur[k + 1].h - cur[k].h) (gapT cur[k] cur[k + 1]).1 (gapT cur[k] cur[k + 1]).2 ⟨by omega, by omega⟩ ⟨by omega, by omega⟩ ⟨by omega, g1.c1⟩ ⟨g1.t0, g1.t1, g1.t2⟩ w2
    rw [show -(cur[k + 1].h - cur[k].h) = cur[k].h - cur[k + 1].h by omega] at this
    exact this
end

end Go.Proofs.Ytalidommelefaaa
/- Settling: what the code computes, part 3. -/
namespace Go.Proofs.Ytalidommelefaaa
open Go.RowKit
attribute [local irreducible] OQ OS OX Rd T TL GX GL AL AI RV wpG SAny Calls
set_option maxRecDepth 100000
set_option maxHeartbeats 2000000
set_option linter.unusedVariables false
set_option linter.unusedSimpArgs false


theorem lv_len (l : List Lv) : ∀ r ∈ l.map lvCells, r.length = 5 := by
  simp only [List.mem_map]; rintro r ⟨x, _, rfl⟩; rfl
theorem lv_one (l : List Lv) : ∀ r ∈ l.map lvCells, ∀ u ∈ r, u.oneCell' = true := by
  simp only [List.mem_map]; rintro r ⟨x, _, rfl⟩ u hu
  simp only [lvCells, List.mem_cons, List.not_mem_nil, or_false] at hu
  rcases hu with rfl | rfl | rfl | rfl | rfl <;> rfl
theorem lv_rows {w0 : World} {M : Ms} {H H' : Hp} {w : World} {g n : Nat} {l : List Lv} {tg : Tg} (hl : l.length = n) (h : Has w0 M H w) (q : Pick H g (l.map lvCells).flatten tg H') : RdS w 5 (some ⟨g, 0, none⟩) n (l.map lvCells) :=
  Blk.rows (h.blk _ q.mem).2 (by simpa using hl) (lv_len l)
def CloneV (l : List Lv) (v : Value) (H : Hp) : Prop := ∃ g cap, v = .slice (some ⟨g, 0, none⟩) l.length cap ∧ H = [(g, (l.map lvCells).flatten, some (76, 5, cap))]
theorem clone_T (p : Addr) (n c : Nat) (l : List Lv) (w : World) (hr : RdS w 5 (some p) n (l.map lvCells)) (hn : n ≤ 1000000) :
    Calls Try.prog 101 #[.slice (some p) n c] w fun e w' => ∃ v H', e = .returned v ∧ CloneV l v H' ∧ Has w ⟨[], []⟩ H' w' := by
  have hl := hr.len
  simp only [List.length_map] at hl
  refine enterF (c := cx w 8) Try.func101 rfl rfl rfl rfl ?_
  repeat' (first | ((with_reducible apply oq_id); first | ((with_reducible apply oq_eqNil); exact rfl; exact rfl; exact rfl) | (apply oq_fn; exact rfl; first | exact trivial | (refine ⟨?_, ?_⟩ <;> omega) | (refine ⟨?_, ?_, ?_⟩ <;> omega) | omega | skip)) | ((with_reducible apply tl_id); first | ((with_reducible apply tl_nil)) | ((with_reducible apply u_s); exact rfl; exact rfl; exact rfl; (with_reducible apply os_appendRows (hk := app_ok42) (rows := l.map lvCells) (hr := fun D w1 hw1 => hr.ext hw1.ext.ext)); exact rfl; exact rfl; exact P0; exact lv_len l; exact rfl; exact lv_one l; exact Nat.le_refl _; omega; omega; intro b cap'; simp only [Nat.zero_add, List.nil_append]) | ((with_reducible apply u_q); exact rfl; exact rfl; exact rfl; exact rfl) | ((with_reducible apply u_s); exact rfl; exact rfl; exact rfl)) | ((with_reducible apply os_id); first | ((with_reducible apply os_x); exact rfl)) | ((with_reducible apply ox_id); first | ((with_reducible apply ox_buildSlice); exact rfl; exact rfl; exact rfl; exact rfl)) | ((with_reducible apply t_id); first | ((with_reducible apply t_seq)) | (apply t_region; kernel_rfl) | ((with_reducible apply t_condF); exact rfl) | ((with_reducible apply t_ret)) | ((with_reducible apply t_skip))) | with_reducible apply q_thenN | ((with_reducible apply Norm.nil); exact rfl) | ((with_reducible apply end_ret)) | exact rvs_nil | ((with_reducible apply rvs_cons)) | ((with_reducible apply rv_tmp); exact rfl) | exact (rfl : (_ : Bool) = true) | (intro _; with_reducible apply tl_id))
  exact ⟨_, ⟨_, _, by rw [hl]; rfl, rfl⟩, by first | exact HpSub.refl _ | exact HpSub.cons P0 HpSub.nil⟩
theorem bad_calls (h a b c d : Int) (w : World) : Calls Try.prog 106 #[.agg #[.int .i64 h, .int .i64 a, .int .i64 b, .int .i64 c, .int .i64 d]] w fun e w' => e = .returned (.bool (decide (b < a))) ∧ Ext w w' := by
  refine enterQ (c := cx w 10) Try.func106 rfl rfl rfl rfl ?_
  repeat' (first | ((with_reducible apply oq_id); first | (apply oq_fn; exact rfl; first | exact trivial | (refine ⟨?_, ?_⟩ <;> omega) | (refine ⟨?_, ?_, ?_⟩ <;> omega) | omega | skip) | ((with_reducible apply oq_load); exact rfl; exact rfl)) | ((with_reducible apply tl_id); first | ((with_reducible apply tl_nil)) | ((with_reducible apply u_q); exact rfl; exact rfl; exact rfl; exact rfl) | ((with_reducible apply u_s); exact rfl; exact rfl; exact rfl)) | ((with_reducible apply os_id); first | ((with_reducible apply os_x); exact rfl)) | ((with_reducible apply ox_id); first | ((with_reducible apply ox_boxAgg); exact rfl; intro _)) | ((with_reducible apply rd_id); first | (apply Rd.own; (repeat (first | exact P0 | apply P1)); exact rfl; done)) | ((with_reducible apply t_id); first | ((with_reducible apply t_seq)) | (apply t_region; kernel_rfl) | ((with_reducible apply t_ret))) | with_reducible apply q_thenN | ((with_reducible apply end_ret)) | exact rvs_nil | ((with_reducible apply rvs_cons)) | ((with_reducible apply rv_tmp); exact rfl))
  all_goals rfl


theorem lv_ext {x y : Lv} : (x.h = y.h ∧ x.plo = y.plo ∧ x.phi = y.phi ∧ x.tlo = y.tlo ∧ x.thi = y.thi) ↔ x = y := by
  obtain ⟨a1, a2, a3, a4, a5⟩ := x
  obtain ⟨b1, b2, b3, b4, b5⟩ := y
  simp
theorem equal_calls (A A' : Option Addr) (n c n' c' : Nat) (l m : List Lv) (q : Bool) (hq : q = true ↔ l = m) (w : World) (hr : RdS w 5 A n (l.map lvCells)) (hr' : RdS w 5 A' n' (m.map lvCells)) (hn : n ≤ 1000000) (hn' : n' ≤ 1000000) :
    Calls Try.prog 104 #[.slice A n c, .slice A' n' c'] w fun e w' => e = .returned (.bool q) ∧ Ext w w' := by
  have hl := hr.len
  have hl' := hr'.len
  simp only [List.length_map] at hl hl'
  by_cases hnn : n = n'
  · subst hnn
    refine enterQ (c := cx w 26) Try.func104 rfl rfl rfl rfl ?_
    repeat' (first | ((with_reducible apply oq_id); first | (apply oq_fn; exact rfl; first | exact trivial | (refine ⟨?_, ?_⟩ <;> omega) | (refine ⟨?_, ?_, ?_⟩ <;> omega) | omega | skip)) | ((with_reducible apply tl_id); first | ((with_reducible apply tl_nil)) | ((with_reducible apply u_q); exact rfl; exact rfl; exact rfl; exact rfl)) | ((with_reducible apply t_id); first | ((with_reducible apply t_seq)) | (apply t_region; kernel_rfl) | ((with_reducible apply t_condN); exact rfl; all_goals first | (intro hp; try (exfalso; omega)) | skip) | ((with_reducible apply t_skip)) | ((with_reducible apply t_block))) | with_reducible apply q_thenN)
    apply t_loopK (ι := Nat) [0, 1, 12] (fun k => [(13, .int .i64 (k : Nat))]) (fun _ => []) (fun k => k ≤ n ∧ ∀ j, j < k → l[j]? = m[j]?) (fun k => n - k) (0)
    (repeat (first | exact KeepF.nil | (apply KeepF.cons; exact rfl) | apply KeepF.skip))
    (repeat (first | exact FrSub.nil | (apply FrSub.cons; exact rfl)))
    (repeat (first | exact HpSub.refl _ | (apply HpSub.consE; (repeat (first | exact P0 | apply P1)); exact rfl) | exact HpSub.nil))
    · exact ⟨by omega, fun j hj => by omega⟩
    rintro k ⟨hk, hkp⟩
    try simp only [List.cons_append, List.nil_append]
    by_cases hlt : k < n
    · obtain ⟨b, o, x, rfl, _, hx, c0, c1, c2, c3, c4⟩ := lv_read hr hlt
      obtain ⟨b', o', y, rfl, _, hy, d0, d1, d2, d3, d4⟩ := lv_read hr' hlt
      repeat' (first | ((with_reducible apply oq_id); first | (focus ((with_reducible apply oq_indexAddrN); exact rfl; exact rfl; exact rfl; exact rfl; omega)) | ((with_reducible apply oq_ne76); exact rfl; exact rfl) | (apply oq_fn; exact rfl; first | exact trivial | (refine ⟨?_, ?_⟩ <;> omega) | (refine ⟨?_, ?_, ?_⟩ <;> omega) | omega | skip) | ((with_reducible apply oq_loadAgg); exact rfl; exact rfl)) | ((with_reducible apply tl_id); first | ((with_reducible apply tl_nil)) | ((with_reducible apply u_q); exact rfl; exact rfl; exact rfl; exact rfl)) | ((with_reducible apply gx_id); first | ((with_reducible apply v_nil)) | ((with_reducible apply v_q); exact rfl; exact rfl; exact rfl)) | ((with_reducible apply rd_id); first | (apply Rd.old; (first | (with_reducible assumption) | exact c0 | exact c1 | exact c2 | exact c3 | exact c4 | exact d0 | exact d1 | exact d2 | exact d3 | exact d4); first | exact List.not_mem_nil)) | ((with_reducible apply t_id); first | ((with_reducible apply t_seq)) | (apply t_region; kernel_rfl) | (apply t_drawn; kernel_rfl; decide +kernel) | ((with_reducible apply t_condD); exact rfl; all_goals first | (intro hp; try (exfalso; omega)) | skip) | ((with_reducible apply t_condN); exact rfl; all_goals first | (intro hp; try (exfalso; omega)) | skip) | ((with_reducible apply t_ret)) | ((with_reducible apply t_skip)) | ((with_reducible apply t_block))) | with_reducible apply q_thenN | with_reducible apply q_thenR | with_reducible apply q_blockR | with_reducible apply q_blockN | exact Rdn.zero | apply Rdn.succ | ((with_reducible apply end_ret)) | exact rvs_nil | ((with_reducible apply rvs_cons)) | ((with_reducible apply rv_tmp); exact rfl))
      · have hf : q = false := by
          cases q with
          | false => rfl
          | true =>
            have e := hq.1 rfl
            rw [e, hy] at hx
            have := Option.some.inj hx
            rename_i hne _
            exact absurd (lv_ext.2 this.symm) (by assumption)
        rw [hf]; rfl
      · refine ⟨k + 1, ⟨by omega, fun j hj => ?_⟩, by omega, ?_, ?_⟩
        · rcases Nat.lt_or_ge j k with h | h
          · exact hkp j h
          · obtain rfl : j = k := by omega
            have hxy : x = y := lv_ext.1 (by assumption)
            rw [hx, hy, hxy]
        · try simp only [List.cons_append, List.nil_append]
          (repeat (first | exact FrSub.nil | (apply FrSub.cons; exact rfl)))
        · try simp only [List.cons_append, List.nil_append]
          (repeat (first | exact HpSub.refl _ | (apply HpSub.consE; (repeat (first | exact P0 | apply P1)); exact rfl) | exact HpSub.nil))
    · repeat' (first | ((with_reducible apply oq_id); first | (apply oq_fn; exact rfl; first | exact trivial | (refine ⟨?_, ?_⟩ <;> omega) | (refine ⟨?_, ?_, ?_⟩ <;> omega) | omega | skip)) | ((with_reducible apply tl_id); first | ((with_reducible apply tl_nil)) | ((with_reducible apply u_q); exact rfl; exact rfl; exact rfl; exact rfl)) | ((with_reducible apply t_id); first | ((with_reducible apply t_seq)) | (apply t_region; kernel_rfl) | ((with_reducible apply t_condD); exact rfl; all_goals first | (intro hp; try (exfalso; omega)) | skip) | ((with_reducible apply t_ret)) | ((with_reducible apply t_exit))) | with_reducible apply q_thenN | with_reducible apply q_thenE | ((with_reducible apply q_blockE); exact rfl) | ((with_reducible apply end_ret)) | exact rvs_nil | ((with_reducible apply rvs_cons)) | ((with_reducible apply rv_tmp); exact rfl))
      have : q = true := hq.2 (List.ext_getElem? fun j => by
        rcases Nat.lt_or_ge j n with h | h
        · exact hkp j (by omega)
        · rw [List.getElem?_eq_none (by omega), List.getElem?_eq_none (by omega)])
      rw [this]; rfl
  · have : q = false := by
      cases q with
      | false => rfl
      | true => exact absurd (by rw [← hl, ← hl', hq.1 rfl]) hnn
    refine enterQ (c := cx w 26) Try.func104 rfl rfl rfl rfl ?_
    repeat' (first | ((with_reducible apply oq_id); first | (apply oq_fn; exact rfl; first | exact trivial | (refine ⟨?_, ?_⟩ <;> omega) | (refine ⟨?_, ?_, ?_⟩ <;> omega) | omega | skip)) | ((with_reducible apply tl_id); first | ((with_reducible apply tl_nil)) | ((with_reducible apply u_q); exact rfl; exact rfl; exact rfl; exact rfl)) | ((with_reducible apply t_id); first | ((with_reducible apply t_seq)) | (apply t_region; kernel_rfl) | ((with_reducible apply t_condN); exact rfl; all_goals first | (intro hp; try (exfalso; omega)) | skip) | ((with_reducible apply t_ret))) | with_reducible apply q_thenN | with_reducible apply q_thenR | ((with_reducible apply end_ret)) | exact rvs_nil | ((with_reducible apply rvs_cons)) | ((with_reducible apply rv_tmp); exact rfl))
    rw [this]
    all_goals rfl

end Go.Proofs.Ytalidommelefaaa
/- Settling: what the code computes, part 4. -/
namespace Go.Proofs.Ytalidommelefaaa
open Go.RowKit
attribute [local irreducible] OQ OS OX Rd T TL GX GL AL AI RV wpG SAny Calls
set_option maxRecDepth 100000
set_option maxHeartbeats 2000000
set_option linter.unusedVariables false
set_option linter.unusedSimpArgs false


def badL (x : Lv) : Bool := decide (x.phi < x.plo)
/-- What Settle returns. -/
def SetV (l : List Lv) (v : Value) (H : Hp) : Prop :=
  (soundB l = false ∧ v = .tuple #[.slice none 0 0, .int .i64 0, .int .i64 20] ∧ H = []) ∨
  (soundB l = true ∧ 0 ≤ idxV badL (setl l) ∧ v = .tuple #[.slice none 0 0, .int .i64 (idxV badL (setl l)), .int .i64 21] ∧ H = []) ∨
  (soundB l = true ∧ ¬ 0 ≤ idxV badL (setl l) ∧ ∃ g cap, v = .tuple #[.slice (some ⟨g, 0, none⟩) l.length cap, .int .i64 0, .int .i64 0] ∧ H = [(g, ((setl l).map lvCells).flatten, some (76, 5, cap))])
theorem dnS_step {u : List Lv} {n j : Nat} (h : u.length = n) (hj : j + 1 ≤ n - 1) : dnS (n - 1 - j) u = takeDn (dnS (n - 1 - (j + 1)) u) j := by
  rw [show n - 1 - j = (n - 1 - (j + 1)) + 1 by omega]
  simp only [dnS]
  rw [h, show n - 2 - (n - 1 - (j + 1)) = j by omega]
theorem sweep_eq {cur : List Lv} {n : Nat} (h : cur.length = n) : dnS (n - 1) (upTo (n - 1) cur) = setl cur := by
  have h1 : (upTo (n - 1) cur).length = n := by rw [upTo_len, h]
  have h2 := dnS_all (upTo (n - 1) cur)
  rw [h1] at h2
  rw [h2]
  unfold setl
  congr 1
  subst h
  cases cur with
  | nil => rfl
  | cons a r => exact upTo_all a r
def wasV (n : Nat) : Nat × Nat × Nat → Value
  | (0, _, _) => .slice none 0 0
  | (_ + 1, gw, cw) => .slice (some ⟨gw, 0, none⟩) n cw
def setH (l : List Lv) (g cap : Nat) : Nat × Nat × Nat → Hp
  | (0, _, _) => [(g, (l.map lvCells).flatten, some (76, 5, cap))]
  | (1, gw, cw) => [(g, ((setl l).map lvCells).flatten, some (76, 5, cap)), (gw, (l.map lvCells).flatten, some (76, 5, cw))]
  | (_, gw, cw) => [(g, ((setl l).map lvCells).flatten, some (76, 5, cap)), (gw, ((setl l).map lvCells).flatten, some (76, 5, cw))]
theorem Snd.settles {l : List Lv} (h : Snd l) : Ch (setl l) ∧ Fix (setl l) ∧ Tt (setl l) l := setl_fix h.ch
theorem okUp {l cur : List Lv} (hs : Snd l) (h1 : Tt cur l) (h2 : Tt (setl l) cur) (k : Nat) : Tt (upTo k cur) l ∧ Tt (setl l) (upTo k cur) := by
  have hq := hs.settles
  refine ⟨?_, upTo_le hq.1 hq.2.1 h2 k⟩
  induction k with
  | zero => exact h1
  | succ k ih => rw [upTo_succ]; exact (takeUp_ge _ _).trans ih
theorem okDn {l cur : List Lv} (hs : Snd l) (h1 : Tt cur l) (h2 : Tt (setl l) cur) (k : Nat) : Tt (dnS k cur) l ∧ Tt (setl l) (dnS k cur) := by
  have hq := hs.settles
  refine ⟨?_, dnS_le hq.1 hq.2.1 h2 k⟩
  induction k with
  | zero => exact h1
  | succ k ih => exact (takeDn_ge _ _).trans ih


theorem settle_T (A : Option Addr) (n c : Nat) (l : List Lv) (w : World) (hr : RdS w 5 A n (l.map lvCells)) (hn : n ≤ 1000000) :
    Calls Try.prog 40 #[.slice A n c] w fun e w' => ∃ v H', e = .returned v ∧ SetV l v H' ∧ Has w ⟨[], []⟩ H' w' := by
  have hl := hr.len
  simp only [List.length_map] at hl
  subst hl
  have HC := fun w1 (hx : Ext w w1) => checkAir_calls A l.length c l w1 (hr.ext hx) hn
  cases hsb : soundB l with
  | false =>
    rw [hsb] at HC
    simp only [Bool.false_eq_true, if_false] at HC
    refine enterF (c := cx w 59) Try.func40 rfl rfl rfl rfl ?_
    repeat' (first | ((with_reducible apply oq_id); first | (apply oq_fn; exact rfl; first | exact trivial | (refine ⟨?_, ?_⟩ <;> omega) | (refine ⟨?_, ?_, ?_⟩ <;> omega) | omega | skip) | ((with_reducible apply oq_call (k := 38) (hc := Try.call38)); exact rfl; exact rfl; exact fun D w1 hw1 => HC w1 hw1.ext.ext)) | ((with_reducible apply tl_id); first | ((with_reducible apply tl_nil)) | ((with_reducible apply u_q); exact rfl; exact rfl; exact rfl; exact rfl)) | ((with_reducible apply t_id); first | ((with_reducible apply t_seq)) | (apply t_region; kernel_rfl) | ((with_reducible apply t_condT); exact rfl) | ((with_reducible apply t_ret))) | with_reducible apply q_thenN | with_reducible apply q_thenR | ((with_reducible apply end_ret)) | exact rvs_nil | ((with_reducible apply rvs_cons)) | ((with_reducible apply rv_tmp); exact rfl))
    exact ⟨_, .inl ⟨hsb, rfl, rfl⟩, HpSub.nil⟩
  | true =>
    rw [hsb] at HC
    simp only [if_true] at HC
    have hs := (soundB_iff l).1 hsb
    have n2 := hs.n2
    have n16 := hs.n16
    obtain ⟨b0, o0, x0, rfl, _⟩ := lv_read hr (show 0 < l.length by omega)
    have hne0 : false = true ↔ [] = l := by
      constructor
      · intro h; cases h
      · intro h; rw [← h] at n2; simp at n2
    obtain ⟨q1, hq1⟩ : ∃ q : Bool, q = true ↔ l = setl l := by
      by_cases h : l = setl l
      · exact ⟨true, by simp [← h]⟩
      · exact ⟨false, by simp [h]⟩
    refine enterF (c := cx w 59) Try.func40 rfl rfl rfl rfl ?_
    repeat' (first | ((with_reducible apply oq_id); first | (apply oq_fn; exact rfl; first | exact trivial | (refine ⟨?_, ?_⟩ <;> omega) | (refine ⟨?_, ?_, ?_⟩ <;> omega) | omega | skip) | ((with_reducible apply oq_call (k := 38) (hc := Try.call38)); exact rfl; exact rfl; exact fun D w1 hw1 => HC w1 hw1.ext.ext)) | ((with_reducible apply tl_id); first | ((with_reducible apply tl_nil)) | ((with_reducible apply u_s); exact rfl; exact rfl; exact rfl; (with_reducible apply os_callF (PV := CloneV l) (k := 101) (hc := Try.call101)); exact rfl; exact rfl; exact fun D w1 hw1 => clone_T _ _ _ l w1 (hr.ext hw1.ext.ext) hn; rintro v H' ⟨g, cap, rfl, rfl⟩; simp only [List.cons_append, List.nil_append]) | ((with_reducible apply u_s); exact rfl; exact rfl; exact rfl; (with_reducible apply os_callF (PV := ThV l) (k := 93) (hc := Try.call93)); exact rfl; exact rfl; exact fun D w1 hw1 => thermo_T _ _ _ l w1 (hr.ext hw1.ext.ext) (by omega) (by omega); rintro v H' ⟨bk, gk, ck, rfl, rfl⟩; simp only [List.cons_append, List.nil_append]) | ((with_reducible apply u_q); exact rfl; exact rfl; exact rfl; exact rfl) | ((with_reducible apply u_s0); exact rfl; exact rfl) | ((with_reducible apply u_s); exact rfl; exact rfl; exact rfl)) | ((with_reducible apply os_id); first | ((with_reducible apply os_x); exact rfl) | ((with_reducible apply os_store); exact rfl; exact rfl; exact rfl; exact rfl)) | ((with_reducible apply ox_id); first | ((with_reducible apply ox_alloc); exact rfl; intro _)) | ((with_reducible apply t_id); first | ((with_reducible apply t_seq)) | (apply t_region; kernel_rfl) | ((with_reducible apply t_condF); exact rfl) | ((with_reducible apply t_skip)) | ((with_reducible apply t_block))) | with_reducible apply q_thenN | exact P0 | ((with_reducible apply P1)) | ((with_reducible apply Norm.nil); exact rfl) | ((with_reducible apply Norm.cons); exact rfl) | exact Nat.le_of_ble_eq_true rfl)
    rename_i b6 b7
    apply t_loopK (ι := (Nat × Nat × Nat)) [2, 3, 4, 6, 8, 12, 53, 54, 55, 56, 57, 58] (fun i => [(9, wasV l.length i)]) (setH l g cap) (fun i => i.1 ≤ 2) (fun i => 2 - i.1) ((0, 0, 0))
    (repeat (first | exact KeepF.nil | (apply KeepF.cons; exact rfl) | apply KeepF.skip))
    (repeat (first | exact FrSub.nil | (apply FrSub.cons; exact rfl)))
    (repeat (first | exact HpSub.refl _ | (apply HpSub.consE; (repeat (first | exact P0 | apply P1)); exact rfl) | exact HpSub.nil))
    · simp only; omega
    rintro ⟨ph, gw, cw⟩ hph
    simp only at hph
    rcases (by omega : ph = 0 ∨ ph = 1 ∨ ph = 2) with rfl | rfl | rfl
    · simp only [wasV, setH, List.cons_append, List.nil_append]
      have hTl := Tt.refl l
      have hTq := hs.settles.2.2
      have hU := okUp hs (cur := l) hTl hTq
      have hD := okDn hs (cur := upTo (l.length - 1) (l)) (hU _).1 (hU _).2
      repeat' (first | ((with_reducible apply oq_id); first | ((with_reducible apply oq_subE (k := ((l.length - 1 : Nat) : Int))); exact rfl; exact rfl; omega) | (apply oq_fn; exact rfl; first | exact trivial | (refine ⟨?_, ?_⟩ <;> omega) | (refine ⟨?_, ?_, ?_⟩ <;> omega) | omega | skip) | ((with_reducible apply oq_load); exact rfl; exact rfl) | ((with_reducible apply oq_call (k := 104) (hc := Try.call104)); exact rfl; exact rfl; exact fun D w1 hw1 => equal_calls none (some ⟨g, 0, none⟩) 0 0 l.length cap [] l false hne0 w1 (RdS.nil _ _ _) (lv_rows rfl hw1 (by (repeat (first | exact P0 | apply P1)))) (by omega) hn)) | ((with_reducible apply tl_id); first | ((with_reducible apply tl_nil)) | ((with_reducible apply u_s); exact rfl; exact rfl; exact rfl; (with_reducible apply os_callF (PV := CloneV (l)) (k := 101) (hc := Try.call101)); exact rfl; exact rfl; exact fun D w1 hw1 => clone_T ⟨g, 0, none⟩ l.length cap (l) w1 (lv_rows rfl hw1 (by (repeat (first | exact P0 | apply P1)))) hn; rintro v H' ⟨gx, cx0, rfl, rfl⟩; simp only [setl_len, List.cons_append, List.nil_append]) | ((with_reducible apply u_q); exact rfl; exact rfl; exact rfl; exact rfl)) | ((with_reducible apply rd_id); first | (apply Rd.own; (repeat (first | exact P0 | apply P1)); exact rfl; done)) | ((with_reducible apply t_id); first | ((with_reducible apply t_seq)) | (apply t_region; kernel_rfl) | ((with_reducible apply t_condT); exact rfl) | ((with_reducible apply t_skip)) | ((with_reducible apply t_block))) | with_reducible apply q_thenN)
      apply t_loopK (ι := Nat) [2, 3, 4, 6, 8, 9, 11, 12, 23, 24, 25, 26, 27, 28, 29, 30, 31, 41, 42, 43, 44, 45, 46, 47, 48, 49, 50, 51, 53, 54, 55, 56, 57, 58] (fun k => [(32, .int .i64 (k : Int))]) (fun k => [(g, ((upTo k (l)).map lvCells).flatten, some (76, 5, cap))]) (fun k => k ≤ l.length - 1) (fun k => l.length - 1 - k) (0)
      (repeat (first | exact KeepF.nil | (apply KeepF.cons; exact rfl) | apply KeepF.skip))
      (repeat (first | exact FrSub.nil | (apply FrSub.cons; exact rfl)))
      (repeat (first | exact HpSub.refl _ | (apply HpSub.consE; (repeat (first | exact P0 | apply P1)); exact rfl) | exact HpSub.nil))
      · omega
      intro k hk
      try simp only [List.cons_append, List.nil_append]
      by_cases hlt : k < l.length - 1
      · repeat' (first | ((with_reducible apply oq_id); first | ((with_reducible apply oq_addE (k := ((k + 1 : Nat) : Int))); exact rfl; exact rfl; omega) | (apply oq_fn; exact rfl; first | exact trivial | (refine ⟨?_, ?_⟩ <;> omega) | (refine ⟨?_, ?_, ?_⟩ <;> omega) | omega | skip)) | ((with_reducible apply tl_id); first | ((with_reducible apply tl_nil)) | ((with_reducible apply u_s); exact rfl; exact rfl; exact rfl; (with_reducible apply os_callW (k := 102) (hc := Try.call102) (b := g)); exact rfl; exact rfl; (repeat (first | exact P0 | apply P1)); exact fun D w1 hw1 => takeUp_at hs rfl (okL_of hs (hU k).1 (hU k).2) k (by omega) hw1 (by (repeat (first | exact P0 | apply P1))) (by (repeat (first | exact P0 | apply P1))) (by (repeat (first | exact P0 | apply P1))) (by (repeat (first | exact P0 | apply P1))) (by (repeat (first | exact P0 | apply P1)))) | ((with_reducible apply u_q); exact rfl; exact rfl; exact rfl; exact rfl)) | ((with_reducible apply t_id); first | ((with_reducible apply t_seq)) | (apply t_region; kernel_rfl) | ((with_reducible apply t_condD); exact rfl; all_goals first | (intro hp; try (exfalso; omega)) | skip) | ((with_reducible apply t_skip)) | ((with_reducible apply t_block))) | with_reducible apply q_thenN | with_reducible apply q_blockN)
        all_goals (refine ⟨k + 1, by omega, by omega, ?_, ?_⟩ <;> (try simp only [List.cons_append, List.nil_append]) <;> (repeat' (first | exact FrSub.nil | (apply FrSub.cons; exact rfl) | exact HpSub.refl _ | (apply HpSub.consE; (repeat (first | exact P0 | apply P1)); first | exact rfl | (rw [upTo_succ])))))
      · obtain rfl : k = l.length - 1 := by omega
        repeat' (first | ((with_reducible apply oq_id); first | ((with_reducible apply oq_subE (k := ((l.length - 1 : Nat) : Int))); exact rfl; exact rfl; omega) | (apply oq_fn; exact rfl; first | exact trivial | (refine ⟨?_, ?_⟩ <;> omega) | (refine ⟨?_, ?_, ?_⟩ <;> omega) | omega | skip) | ((with_reducible apply oq_load); exact rfl; exact rfl)) | ((with_reducible apply tl_id); first | ((with_reducible apply tl_nil)) | ((with_reducible apply u_q); exact rfl; exact rfl; exact rfl; exact rfl)) | ((with_reducible apply rd_id); first | (apply Rd.own; (repeat (first | exact P0 | apply P1)); exact rfl; done)) | ((with_reducible apply t_id); first | ((with_reducible apply t_seq)) | (apply t_region; kernel_rfl) | ((with_reducible apply t_condD); exact rfl; all_goals first | (intro hp; try (exfalso; omega)) | skip) | ((with_reducible apply t_exit)) | ((with_reducible apply t_block))) | with_reducible apply q_thenN | with_reducible apply q_thenE | ((with_reducible apply q_blockE); exact rfl))
        apply t_loopK (ι := Nat) [2, 3, 4, 6, 8, 9, 10, 12, 23, 24, 25, 26, 27, 28, 29, 30, 31, 32, 33, 34, 35, 36, 37, 38, 40, 41, 42, 43, 53, 54, 55, 56, 57, 58] (fun i => [(11, .int .i64 (i : Int))]) (fun i => [(g, ((dnS (l.length - 1 - i) (upTo (l.length - 1) (l))).map lvCells).flatten, some (76, 5, cap))]) (fun i => i ≤ l.length - 1) (fun i => i) ((l.length - 1))
        (repeat (first | exact KeepF.nil | (apply KeepF.cons; exact rfl) | apply KeepF.skip))
        (repeat (first | exact FrSub.nil | (apply FrSub.cons; exact rfl)))
        (repeat (first | exact HpSub.refl _ | (apply HpSub.consE; (repeat (first | exact P0 | apply P1)); first | exact rfl | ((rw [Nat.sub_self]; rfl))) | exact HpSub.nil))
        · exact Nat.le_refl _
        intro i hi
        try simp only [List.cons_append, List.nil_append]
        cases i with
        | succ j =>
          repeat' (first | ((with_reducible apply oq_id); first | ((with_reducible apply oq_subE (k := (j : Int))); exact rfl; exact rfl; omega) | (apply oq_fn; exact rfl; first | exact trivial | (refine ⟨?_, ?_⟩ <;> omega) | (refine ⟨?_, ?_, ?_⟩ <;> omega) | omega | skip)) | ((with_reducible apply tl_id); first | ((with_reducible apply tl_nil)) | ((with_reducible apply u_s); exact rfl; exact rfl; exact rfl; (with_reducible apply os_callW (k := 102) (hc := Try.call102) (b := g)); exact rfl; exact rfl; (repeat (first | exact P0 | apply P1)); exact fun D w1 hw1 => takeDn_at hs rfl (okL_of hs (hD _).1 (hD _).2) j (by omega) hw1 (by (repeat (first | exact P0 | apply P1))) (by (repeat (first | exact P0 | apply P1))) (by (repeat (first | exact P0 | apply P1))) (by (repeat (first | exact P0 | apply P1))) (by (repeat (first | exact P0 | apply P1)))) | ((with_reducible apply u_q); exact rfl; exact rfl; exact rfl; exact rfl)) | ((with_reducible apply t_id); first | ((with_reducible apply t_seq)) | (apply t_region; kernel_rfl) | ((with_reducible apply t_condD); exact rfl; all_goals first | (intro hp; try (exfalso; omega)) | skip) | ((with_reducible apply t_skip)) | ((with_reducible apply t_block))) | with_reducible apply q_thenN | with_reducible apply q_blockN)
          all_goals (refine ⟨j, by omega, by omega, ?_, ?_⟩ <;> (try simp only [List.cons_append, List.nil_append]) <;> (repeat' (first | exact FrSub.nil | (apply FrSub.cons; exact rfl) | exact HpSub.refl _ | (apply HpSub.consE; (repeat (first | exact P0 | apply P1)); first | exact rfl | (rw [dnS_step (u := upTo (l.length - 1) (l)) (n := l.length) (j := j) ((upTo_len _ _).trans rfl) (by omega)])))))
        | zero =>
          have hsw : dnS (l.length - 1 - 0) (upTo (l.length - 1) (l)) = setl l := by rw [Nat.sub_zero, sweep_eq rfl]
          rw [hsw]
          repeat' (first | ((with_reducible apply oq_id); first | (apply oq_fn; exact rfl; first | exact trivial | (refine ⟨?_, ?_⟩ <;> omega) | (refine ⟨?_, ?_, ?_⟩ <;> omega) | omega | skip)) | ((with_reducible apply tl_id); first | ((with_reducible apply tl_nil)) | ((with_reducible apply u_q); exact rfl; exact rfl; exact rfl; exact rfl)) | ((with_reducible apply t_id); first | ((with_reducible apply t_seq)) | (apply t_region; kernel_rfl) | ((with_reducible apply t_condF); exact rfl) | ((with_reducible apply t_exit))) | with_reducible apply q_thenN | with_reducible apply q_blockN | with_reducible apply q_thenE | ((with_reducible apply q_blockE); exact rfl))
          all_goals (refine ⟨(1, gx, cx0), by simp only; omega, by simp only; omega, ?_, ?_⟩ <;> (simp only [wasV, setH, List.cons_append, List.nil_append]) <;> (repeat' (first | exact FrSub.nil | (apply FrSub.cons; exact rfl) | exact HpSub.refl _)))
    · simp only [wasV, setH, List.cons_append, List.nil_append]
      cases q1 with
      | true =>
        repeat' (first | ((with_reducible apply oq_id); first | (apply oq_fn; exact rfl; first | exact trivial | (refine ⟨?_, ?_⟩ <;> omega) | (refine ⟨?_, ?_, ?_⟩ <;> omega) | omega | skip) | ((with_reducible apply oq_load); exact rfl; exact rfl) | ((with_reducible apply oq_call (k := 104) (hc := Try.call104)); exact rfl; exact rfl; exact fun D w1 hw1 => equal_calls (some ⟨gw, 0, none⟩) (some ⟨g, 0, none⟩) l.length cw l.length cap l (setl l) _ hq1 w1 (lv_rows rfl hw1 (by (repeat (first | exact P0 | apply P1)))) (lv_rows (setl_len l) hw1 (by (repeat (first | exact P0 | apply P1)))) hn hn) | ((with_reducible apply oq_call (k := 105) (hc := Try.call105)); exact rfl; exact rfl; exact fun D w1 hw1 => indexLv_calls 106 [] badL (some ⟨g, 0, none⟩) l.length cap (setl l) w1 (lv_rows (setl_len l) hw1 (by (repeat (first | exact P0 | apply P1)))) hn Try.call106 (fun x hx w2 h2 => bad_calls _ _ _ _ _ w2))) | ((with_reducible apply tl_id); first | ((with_reducible apply tl_nil)) | ((with_reducible apply u_q); exact rfl; exact rfl; exact rfl; exact rfl)) | ((with_reducible apply rd_id); first | (apply Rd.own; (repeat (first | exact P0 | apply P1)); exact rfl; done)) | ((with_reducible apply t_id); first | ((with_reducible apply t_seq)) | (apply t_region; kernel_rfl) | ((with_reducible apply t_condF); exact rfl) | ((with_reducible apply t_condD); exact rfl; all_goals first | (intro hp; try (exfalso; omega)) | skip) | ((with_reducible apply t_ret)) | ((with_reducible apply t_skip)) | ((with_reducible apply t_exit))) | with_reducible apply q_thenN | with_reducible apply q_thenR | with_reducible apply q_thenE | ((with_reducible apply q_blockE); exact rfl) | ((with_reducible apply end_ret)) | exact rvs_nil | ((with_reducible apply rvs_cons)) | ((with_reducible apply rv_tmp); exact rfl))
        all_goals first
          | exact ⟨_, .inr (.inl ⟨hsb, by assumption, rfl, rfl⟩), HpSub.nil⟩
          | exact ⟨_, .inr (.inr ⟨hsb, by assumption, g, cap, rfl, rfl⟩), (by (repeat (first | exact HpSub.refl _ | (apply HpSub.consE; (repeat (first | exact P0 | apply P1)); exact rfl) | exact HpSub.nil)))⟩
      | false =>
        have hTl := hs.settles.2.2
        have hTq := Tt.refl (setl l)
        have hU := okUp hs (cur := setl l) hTl hTq
        have hD := okDn hs (cur := upTo (l.length - 1) (setl l)) (hU _).1 (hU _).2
        repeat' (first | ((with_reducible apply oq_id); first | ((with_reducible apply oq_subE (k := ((l.length - 1 : Nat) : Int))); exact rfl; exact rfl; omega) | (apply oq_fn; exact rfl; first | exact trivial | (refine ⟨?_, ?_⟩ <;> omega) | (refine ⟨?_, ?_, ?_⟩ <;> omega) | omega | skip) | ((with_reducible apply oq_load); exact rfl; exact rfl) | ((with_reducible apply oq_call (k := 104) (hc := Try.call104)); exact rfl; exact rfl; exact fun D w1 hw1 => equal_calls (some ⟨gw, 0, none⟩) (some ⟨g, 0, none⟩) l.length cw l.length cap l (setl l) _ hq1 w1 (lv_rows rfl hw1 (by (repeat (first | exact P0 | apply P1)))) (lv_rows (setl_len l) hw1 (by (repeat (first | exact P0 | apply P1)))) hn hn)) | ((with_reducible apply tl_id); first | ((with_reducible apply tl_nil)) | ((with_reducible apply u_s); exact rfl; exact rfl; exact rfl; (with_reducible apply os_callF (PV := CloneV (setl l)) (k := 101) (hc := Try.call101)); exact rfl; exact rfl; exact fun D w1 hw1 => clone_T ⟨g, 0, none⟩ l.length cap (setl l) w1 (lv_rows (setl_len l) hw1 (by (repeat (first | exact P0 | apply P1)))) hn; rintro v H' ⟨gx, cx0, rfl, rfl⟩; simp only [setl_len, List.cons_append, List.nil_append]) | ((with_reducible apply u_q); exact rfl; exact rfl; exact rfl; exact rfl)) | ((with_reducible apply rd_id); first | (apply Rd.own; (repeat (first | exact P0 | apply P1)); exact rfl; done)) | ((with_reducible apply t_id); first | ((with_reducible apply t_seq)) | (apply t_region; kernel_rfl) | ((with_reducible apply t_condT); exact rfl) | ((with_reducible apply t_skip)) | ((with_reducible apply t_block))) | with_reducible apply q_thenN)
        apply t_loopK (ι := Nat) [2, 3, 4, 6, 8, 9, 11, 12, 23, 24, 25, 26, 27, 28, 29, 30, 31, 41, 42, 43, 44, 45, 46, 47, 48, 49, 50, 51, 53, 54, 55, 56, 57, 58] (fun k => [(32, .int .i64 (k : Int))]) (fun k => [(g, ((upTo k (setl l)).map lvCells).flatten, some (76, 5, cap))]) (fun k => k ≤ l.length - 1) (fun k => l.length - 1 - k) (0)
        (repeat (first | exact KeepF.nil | (apply KeepF.cons; exact rfl) | apply KeepF.skip))
        (repeat (first | exact FrSub.nil | (apply FrSub.cons; exact rfl)))
        (repeat (first | exact HpSub.refl _ | (apply HpSub.consE; (repeat (first | exact P0 | apply P1)); exact rfl) | exact HpSub.nil))
        · omega
        intro k hk
        try simp only [List.cons_append, List.nil_append]
        by_cases hlt : k < l.length - 1
        · repeat' (first | ((with_reducible apply oq_id); first | ((with_reducible apply oq_addE (k := ((k + 1 : Nat) : Int))); exact rfl; exact rfl; omega) | (apply oq_fn; exact rfl; first | exact trivial | (refine ⟨?_, ?_⟩ <;> omega) | (refine ⟨?_, ?_, ?_⟩ <;> omega) | omega | skip)) | ((with_reducible apply tl_id); first | ((with_reducible apply tl_nil)) | ((with_reducible apply u_s); exact rfl; exact rfl; exact rfl; (with_reducible apply os_callW (k := 102) (hc := Try.call102) (b := g)); exact rfl; exact rfl; (repeat (first | exact P0 | apply P1)); exact fun D w1 hw1 => takeUp_at hs rfl (okL_of hs (hU k).1 (hU k).2) k (by omega) hw1 (by (repeat (first | exact P0 | apply P1))) (by (repeat (first | exact P0 | apply P1))) (by (repeat (first | exact P0 | apply P1))) (by (repeat (first | exact P0 | apply P1))) (by (repeat (first | exact P0 | apply P1)))) | ((with_reducible apply u_q); exact rfl; exact rfl; exact rfl; exact rfl)) | ((with_reducible apply t_id); first | ((with_reducible apply t_seq)) | (apply t_region; kernel_rfl) | ((with_reducible apply t_condD); exact rfl; all_goals first | (intro hp; try (exfalso; omega)) | skip) | ((with_reducible apply t_skip)) | ((with_reducible apply t_block))) | with_reducible apply q_thenN | with_reducible apply q_blockN)
          all_goals (refine ⟨k + 1, by omega, by omega, ?_, ?_⟩ <;> (try simp only [List.cons_append, List.nil_append]) <;> (repeat' (first | exact FrSub.nil | (apply FrSub.cons; exact rfl) | exact HpSub.refl _ | (apply HpSub.consE; (repeat (first | exact P0 | apply P1)); first | exact rfl | (rw [upTo_succ])))))
        · obtain rfl : k = l.length - 1 := by omega
          repeat' (first | ((with_reducible apply oq_id); first | ((with_reducible apply oq_subE (k := ((l.length - 1 : Nat) : Int))); exact rfl; exact rfl; omega) | (apply oq_fn; exact rfl; first | exact trivial | (refine ⟨?_, ?_⟩ <;> omega) | (refine ⟨?_, ?_, ?_⟩ <;> omega) | omega | skip) | ((with_reducible apply oq_load); exact rfl; exact rfl)) | ((with_reducible apply tl_id); first | ((with_reducible apply tl_nil)) | ((with_reducible apply u_q); exact rfl; exact rfl; exact rfl; exact rfl)) | ((with_reducible apply rd_id); first | (apply Rd.own; (repeat (first | exact P0 | apply P1)); exact rfl; done)) | ((with_reducible apply t_id); first | ((with_reducible apply t_seq)) | (apply t_region; kernel_rfl) | ((with_reducible apply t_condD); exact rfl; all_goals first | (intro hp; try (exfalso; omega)) | skip) | ((with_reducible apply t_exit)) | ((with_reducible apply t_block))) | with_reducible apply q_thenN | with_reducible apply q_thenE | ((with_reducible apply q_blockE); exact rfl))
          apply t_loopK (ι := Nat) [2, 3, 4, 6, 8, 9, 10, 12, 23, 24, 25, 26, 27, 28, 29, 30, 31, 32, 33, 34, 35, 36, 37, 38, 40, 41, 42, 43, 53, 54, 55, 56, 57, 58] (fun i => [(11, .int .i64 (i : Int))]) (fun i => [(g, ((dnS (l.length - 1 - i) (upTo (l.length - 1) (setl l))).map lvCells).flatten, some (76, 5, cap))]) (fun i => i ≤ l.length - 1) (fun i => i) ((l.length - 1))
          (repeat (first | exact KeepF.nil | (apply KeepF.cons; exact rfl) | apply KeepF.skip))
          (repeat (first | exact FrSub.nil | (apply FrSub.cons; exact rfl)))
          (repeat (first | exact HpSub.refl _ | (apply HpSub.consE; (repeat (first | exact P0 | apply P1)); first | exact rfl | ((rw [Nat.sub_self]; rfl))) | exact HpSub.nil))
          · exact Nat.le_refl _
          intro i hi
          try simp only [List.cons_append, List.nil_append]
          cases i with
          | succ j =>
            repeat' (first | ((with_reducible apply oq_id); first | ((with_reducible apply oq_subE (k := (j : Int))); exact rfl; exact rfl; omega) | (apply oq_fn; exact rfl; first | exact trivial | (refine ⟨?_, ?_⟩ <;> omega) | (refine ⟨?_, ?_, ?_⟩ <;> omega) | omega | skip)) | ((with_reducible apply tl_id); first | ((with_reducible apply tl_nil)) | ((with_reducible apply u_s); exact rfl; exact rfl; exact rfl; (with_reducible apply os_callW (k := 102) (hc := Try.call102) (b := g)); exact rfl; exact rfl; (repeat (first | exact P0 | apply P1)); exact fun D w1 hw1 => takeDn_at hs rfl (okL_of hs (hD _).1 (hD _).2) j (by omega) hw1 (by (repeat (first | exact P0 | apply P1))) (by (repeat (first | exact P0 | apply P1))) (by (repeat (first | exact P0 | apply P1))) (by (repeat (first | exact P0 | apply P1))) (by (repeat (first | exact P0 | apply P1)))) | ((with_reducible apply u_q); exact rfl; exact rfl; exact rfl; exact rfl)) | ((with_reducible apply t_id); first | ((with_reducible apply t_seq)) | (apply t_region; kernel_rfl) | ((with_reducible apply t_condD); exact rfl; all_goals first | (intro hp; try (exfalso; omega)) | skip) | ((with_reducible apply t_skip)) | ((with_reducible apply t_block))) | with_reducible apply q_thenN | with_reducible apply q_blockN)
            all_goals (refine ⟨j, by omega, by omega, ?_, ?_⟩ <;> (try simp only [List.cons_append, List.nil_append]) <;> (repeat' (first | exact FrSub.nil | (apply FrSub.cons; exact rfl) | exact HpSub.refl _ | (apply HpSub.consE; (repeat (first | exact P0 | apply P1)); first | exact rfl | (rw [dnS_step (u := upTo (l.length - 1) (setl l)) (n := l.length) (j := j) ((upTo_len _ _).trans (setl_len l)) (by omega)])))))
          | zero =>
            have hsw : dnS (l.length - 1 - 0) (upTo (l.length - 1) (setl l)) = setl l := by rw [Nat.sub_zero, sweep_eq (setl_len l)]; exact setl_setl hs.ch
            rw [hsw]
            repeat' (first | ((with_reducible apply oq_id); first | (apply oq_fn; exact rfl; first | exact trivial | (refine ⟨?_, ?_⟩ <;> omega) | (refine ⟨?_, ?_, ?_⟩ <;> omega) | omega | skip)) | ((with_reducible apply tl_id); first | ((with_reducible apply tl_nil)) | ((with_reducible apply u_q); exact rfl; exact rfl; exact rfl; exact rfl)) | ((with_reducible apply t_id); first | ((with_reducible apply t_seq)) | (apply t_region; kernel_rfl) | ((with_reducible apply t_condF); exact rfl) | ((with_reducible apply t_exit))) | with_reducible apply q_thenN | with_reducible apply q_blockN | with_reducible apply q_thenE | ((with_reducible apply q_blockE); exact rfl))
            all_goals (refine ⟨(2, gx, cx0), by simp only; omega, by simp only; omega, ?_, ?_⟩ <;> (simp only [wasV, setH, List.cons_append, List.nil_append]) <;> (repeat' (first | exact FrSub.nil | (apply FrSub.cons; exact rfl) | (apply HpSub.consE; (repeat (first | exact P0 | apply P1)); exact rfl) | exact HpSub.nil)))
    · simp only [wasV, setH, List.cons_append, List.nil_append]
      repeat' (first | ((with_reducible apply oq_id); first | (apply oq_fn; exact rfl; first | exact trivial | (refine ⟨?_, ?_⟩ <;> omega) | (refine ⟨?_, ?_, ?_⟩ <;> omega) | omega | skip) | ((with_reducible apply oq_load); exact rfl; exact rfl) | ((with_reducible apply oq_call (k := 104) (hc := Try.call104)); exact rfl; exact rfl; exact fun D w1 hw1 => equal_calls (some ⟨gw, 0, none⟩) (some ⟨g, 0, none⟩) l.length cw l.length cap (setl l) (setl l) true (by simp) w1 (lv_rows (setl_len l) hw1 (by (repeat (first | exact P0 | apply P1)))) (lv_rows (setl_len l) hw1 (by (repeat (first | exact P0 | apply P1)))) hn hn) | ((with_reducible apply oq_call (k := 105) (hc := Try.call105)); exact rfl; exact rfl; exact fun D w1 hw1 => indexLv_calls 106 [] badL (some ⟨g, 0, none⟩) l.length cap (setl l) w1 (lv_rows (setl_len l) hw1 (by (repeat (first | exact P0 | apply P1)))) hn Try.call106 (fun x hx w2 h2 => bad_calls _ _ _ _ _ w2))) | ((with_reducible apply tl_id); first | ((with_reducible apply tl_nil)) | ((with_reducible apply u_q); exact rfl; exact rfl; exact rfl; exact rfl)) | ((with_reducible apply rd_id); first | (apply Rd.own; (repeat (first | exact P0 | apply P1)); exact rfl; done)) | ((with_reducible apply t_id); first | ((with_reducible apply t_seq)) | (apply t_region; kernel_rfl) | ((with_reducible apply t_condF); exact rfl) | ((with_reducible apply t_condD); exact rfl; all_goals first | (intro hp; try (exfalso; omega)) | skip) | ((with_reducible apply t_ret)) | ((with_reducible apply t_skip)) | ((with_reducible apply t_exit))) | with_reducible apply q_thenN | with_reducible apply q_thenR | with_reducible apply q_thenE | ((with_reducible apply q_blockE); exact rfl) | ((with_reducible apply end_ret)) | exact rvs_nil | ((with_reducible apply rvs_cons)) | ((with_reducible apply rv_tmp); exact rfl))
      all_goals first
        | exact ⟨_, .inr (.inl ⟨hsb, by assumption, rfl, rfl⟩), HpSub.nil⟩
        | exact ⟨_, .inr (.inr ⟨hsb, by assumption, g, cap, rfl, rfl⟩), (by (repeat (first | exact HpSub.refl _ | (apply HpSub.consE; (repeat (first | exact P0 | apply P1)); exact rfl) | exact HpSub.nil)))⟩

end Go.Proofs.Ytalidommelefaaa
/- Barometers: the pressure at a height. -/
namespace Go.Proofs.Ytalidommelefaaa
open Go.RowKit
attribute [local irreducible] OQ OS OX Rd T TL GX GL AL AI RV wpG SAny Calls
set_option maxRecDepth 100000
set_option maxHeartbeats 2000000
set_option linter.unusedVariables false
set_option linter.unusedSimpArgs false


/-- The pressure at a height of a settled sounding. -/
def prV : List Lv → Int → Int × Int
  | a :: b :: r, h => if h = a.h then a.press else if h < b.h then (max (riseV a.press (h - a.h) (gapT a b)).1 b.plo, (riseV a.press (h - a.h) (gapT a b)).2) else prV (b :: r) h
  | [a], _ => a.press
  | [], _ => (0, 0)
/-- Heights grow. -/
def Hg (l : List Lv) : Prop := ∀ {i j : Nat} {x y : Lv}, i < j → l[i]? = some x → l[j]? = some y → x.h < y.h
theorem Hg.tail {a : Lv} {l : List Lv} (h : Hg (a :: l)) : Hg l := fun {i j x y} hij hx hy => h (i := i + 1) (j := j + 1) (by omega) (by simpa using hx) (by simpa using hy)
theorem prV_at : ∀ {l : List Lv}, Hg l → ∀ {i : Nat} {a : Lv}, l[i]? = some a → prV l a.h = a.press
  | [], _, i, a, h => by simp at h
  | [x], _, i, a, h => by
    cases i with
    | zero => obtain rfl : x = a := by simpa using h
              rfl
    | succ i => simp at h
  | x :: y :: r, hg, i, a, h => by
    cases i with
    | zero =>
      obtain rfl : x = a := by simpa using h
      unfold prV; rw [if_pos rfl]
    | succ i =>
      have h1 : x.h < a.h := hg (i := 0) (by omega) rfl h
      have h2 : ¬ a.h < y.h := by
        cases i with
        | zero => obtain rfl : y = a := by simpa using h
                  omega
        | succ i => have := hg (i := 1) (j := i + 2) (x := y) (by omega) rfl h; omega
      unfold prV
      rw [if_neg (by omega), if_neg h2]
      exact prV_at hg.tail (i := i) (by simpa using h)
theorem prV_mid : ∀ {l : List Lv}, Hg l → ∀ {i : Nat} {a b : Lv} {h : Int}, l[i]? = some a → l[i + 1]? = some b → a.h < h → h < b.h → prV l h = (max (riseV a.press (h - a.h) (gapT a b)).1 b.plo, (riseV a.press (h - a.h) (gapT a b)).2)
  | [], _, i, a, b, h, ha, _, _, _ => by simp at ha
  | [x], _, i, a, b, h, _, hb, _, _ => by simp at hb
  | x :: y :: r, hg, i, a, b, h, ha, hb, h1, h2 => by
    cases i with
    | zero =>
      obtain rfl : x = a := by simpa using ha
      obtain rfl : y = b := by simpa using hb
      unfold prV
      rw [if_neg (by omega), if_pos h2]
    | succ i =>
      have k1 : x.h < a.h := hg (i := 0) (by omega) rfl ha
      have k2 : y.h ≤ a.h := by
        cases i with
        | zero => obtain rfl : y = a := by simpa using ha
                  omega
        | succ i => have := hg (i := 1) (j := i + 2) (x := y) (by omega) rfl ha; omega
      unfold prV
      rw [if_neg (by omega), if_neg (by omega)]
      exact prV_mid hg.tail (i := i) (by simpa using ha) (by simpa using hb) h1 h2
theorem Snd.hg {l cur : List Lv} (hs : Snd l) (ht : Tt cur l) : Hg cur := fun {i j x y} hij hx hy => by
  have hl := ht.len
  have h1 := (List.getElem?_eq_some_iff.1 hx).1
  have h2 := (List.getElem?_eq_some_iff.1 hy).1
  have kx : l[i]? = some l[i] := List.getElem?_eq_getElem (by omega)
  have ky : l[j]? = some l[j] := List.getElem?_eq_getElem (by omega)
  have e1 := (ht.get hx kx).1
  have e2 := (ht.get hy ky).1
  have t1 : (tabOf l)[i]? = some (knOf l[i]) := by simp [tabOf, kx]
  have t2 : (tabOf l)[j]? = some (knOf l[j]) := by simp [tabOf, ky]
  have : (knOf l[i]).x < (knOf l[j]).x := hs.tab.inc.at_ hij t1 t2
  have a1 : (knOf l[i]).x = l[i].h := rfl
  have a2 : (knOf l[j]).x = l[j].h := rfl
  omega
/-- Where a height lies: the first level that is not below it. -/
theorem hg_find {l : List Lv} (hg : Hg l) (h : Int) : ∃ r, r ≤ l.length ∧ (∀ j x, j < r → l[j]? = some x → x.h < h) ∧ ∀ j x, r ≤ j → l[j]? = some x → h ≤ x.h := by
  obtain ⟨r, h1, h2, h3⟩ := mono_cut (p := fun j => match l[j]? with | some x => decide (h ≤ x.h) | none => true) l.length (fun i j hij hj => by
    have ei : l[i]? = some l[i] := List.getElem?_eq_getElem (by omega)
    have ej : l[j]? = some l[j] := List.getElem?_eq_getElem hj
    simp only [ei, ej, decide_eq_true_eq]
    intro k
    rcases Nat.lt_or_eq_of_le hij with e | e
    · have := hg e ei ej; omega
    · subst e; exact k)
  refine ⟨r, h1, fun j x hj hx => ?_, fun j x hj hx => ?_⟩
  · have := h2 j hj; simp only [hx, decide_eq_false_iff_not] at this; omega
  · have := h3 j hj (List.getElem?_eq_some_iff.1 hx).1; simp only [hx, decide_eq_true_eq] at this; exact this


theorem cmp_calls (h a b c d t : Int) (hh : -100000 ≤ h ∧ h ≤ 100000) (ht : -100000 ≤ t ∧ t ≤ 100000) (w : World) : Calls Try.prog 132 #[.agg #[.int .i64 h, .int .i64 a, .int .i64 b, .int .i64 c, .int .i64 d], .int .i64 t] w fun e w' => e = .returned (.int .i64 (h - t)) ∧ Ext w w' := by
  refine enterQ (c := cx w 9) Try.func132 rfl rfl rfl rfl ?_
  repeat' (first | ((with_reducible apply oq_id); first | (apply oq_fn; exact rfl; first | exact trivial | (refine ⟨?_, ?_⟩ <;> omega) | (refine ⟨?_, ?_, ?_⟩ <;> omega) | omega | skip) | ((with_reducible apply oq_load); exact rfl; exact rfl)) | ((with_reducible apply tl_id); first | ((with_reducible apply tl_nil)) | ((with_reducible apply u_q); exact rfl; exact rfl; exact rfl; exact rfl) | ((with_reducible apply u_s); exact rfl; exact rfl; exact rfl)) | ((with_reducible apply os_id); first | ((with_reducible apply os_x); exact rfl)) | ((with_reducible apply ox_id); first | ((with_reducible apply ox_boxAgg); exact rfl; intro _)) | ((with_reducible apply rd_id); first | (apply Rd.own; (repeat (first | exact P0 | apply P1)); exact rfl; done)) | ((with_reducible apply t_id); first | ((with_reducible apply t_seq)) | (apply t_region; kernel_rfl) | ((with_reducible apply t_ret))) | with_reducible apply q_thenN | ((with_reducible apply end_ret)) | exact rvs_nil | ((with_reducible apply rvs_cons)) | ((with_reducible apply rv_tmp); exact rfl))
  all_goals rfl


theorem bsearch_calls (A : Option Addr) (n c : Nat) (l : List Lv) (h : Int) (r : Nat) (w : World) (hr : RdS w 5 A n (l.map lvCells)) (hn : n ≤ 1000000) (hb : -100000 ≤ h ∧ h ≤ 100000) (hlb : ∀ x ∈ l, -100000 ≤ x.h ∧ x.h ≤ 100000)
    (hrn : r ≤ n) (h1 : ∀ j x, j < r → l[j]? = some x → x.h < h) (h2 : ∀ j x, r ≤ j → l[j]? = some x → h ≤ x.h) :
    Calls Try.prog 131 #[.slice A n c, .int .i64 h, .func (.func 132) #[] #[]] w fun e w' => e = .returned (.tuple #[.int .i64 (r : Int), .bool (match l[r]? with | some x => decide (x.h = h) | none => false)]) ∧ Ext w w' := by
  have hl := hr.len
  simp only [List.length_map] at hl
  refine enterQ (c := cx w 49) Try.func131 rfl rfl rfl rfl ?_
  repeat' (first | ((with_reducible apply oq_id); first | (apply oq_fn; exact rfl; first | exact trivial | (refine ⟨?_, ?_⟩ <;> omega) | (refine ⟨?_, ?_, ?_⟩ <;> omega) | omega | skip)) | ((with_reducible apply tl_id); first | ((with_reducible apply tl_nil)) | ((with_reducible apply u_q); exact rfl; exact rfl; exact rfl; exact rfl)) | ((with_reducible apply t_id); first | ((with_reducible apply t_seq)) | (apply t_region; kernel_rfl) | ((with_reducible apply t_block))) | with_reducible apply q_thenN)
  apply t_loopK (ι := (Nat × Nat)) [0, 1, 2, 6, 7, 8, 35, 36, 37, 38, 39, 40, 41, 42, 43, 44, 45, 46, 47, 48] (fun (i : Nat × Nat) => [(9, .int .i64 (i.1 : Int)), (10, .int .i64 (i.2 : Int))]) (fun _ => []) (fun i => i.1 ≤ r ∧ r ≤ i.2 ∧ i.2 ≤ n) (fun i => i.2 - i.1) ((0, n))
  (repeat (first | exact KeepF.nil | (apply KeepF.cons; exact rfl) | apply KeepF.skip))
  (repeat (first | exact FrSub.nil | (apply FrSub.cons; exact rfl)))
  (repeat (first | exact HpSub.refl _ | (apply HpSub.consE; (repeat (first | exact P0 | apply P1)); exact rfl) | exact HpSub.nil))
  · simp only; omega
  rintro ⟨i, j⟩ ⟨i0, i1, i2⟩
  simp only at i0 i1 i2
  dsimp only
  by_cases hij : i < j
  · obtain ⟨b, o, x, rfl, _, hx, c0, c1, c2, c3, c4⟩ := lv_read hr (show (i + j) / 2 < n by omega)
    have hxb := hlb x (List.mem_of_getElem? hx)
    by_cases hlt : x.h < h
    · have hlt2 : (i + j) / 2 < r := by
        rcases Nat.lt_or_ge ((i + j) / 2) r with k | k
        · exact k
        · have := h2 _ _ k hx; omega
      repeat' (first | ((with_reducible apply oq_id); first | (focus ((with_reducible apply oq_indexAddrN); exact rfl; exact rfl; exact rfl; exact rfl; omega)) | (apply oq_fn; exact rfl; first | exact trivial | (refine ⟨?_, ?_⟩ <;> omega) | (refine ⟨?_, ?_, ?_⟩ <;> omega) | omega | skip) | ((with_reducible apply oq_loadAgg); exact rfl; exact rfl) | (focus ((with_reducible apply oq_shr1N (a := i + j)); exact rfl; exact rfl; omega)) | (focus ((with_reducible apply oq_convU); exact rfl; exact rfl; exact rfl; (refine ⟨?_, ?_⟩ <;> omega))) | ((with_reducible apply oq_call (k := 132) (hc := Try.call132)); exact rfl; exact rfl; exact fun D w1 hw1 => cmp_calls _ _ _ _ _ _ hxb hb w1)) | ((with_reducible apply tl_id); first | ((with_reducible apply tl_nil)) | ((with_reducible apply u_q); exact rfl; exact rfl; exact rfl; exact rfl)) | ((with_reducible apply rd_id); first | (apply Rd.old; (first | (with_reducible assumption) | exact c0 | exact c1 | exact c2 | exact c3 | exact c4); first | exact List.not_mem_nil)) | ((with_reducible apply t_id); first | ((with_reducible apply t_seq)) | (apply t_region; kernel_rfl) | ((with_reducible apply t_condD); exact rfl; all_goals first | (intro hp; try (exfalso; omega)) | skip) | ((with_reducible apply t_skip)) | ((with_reducible apply t_block))) | with_reducible apply q_thenN | with_reducible apply q_blockN | exact Rdn.zero | apply Rdn.succ)
      all_goals (refine ⟨((i + j) / 2 + 1, j), ⟨by simp only; omega, i1, i2⟩, by simp only; omega, ?_, ?_⟩ <;> (repeat' (first | exact FrSub.nil | (apply FrSub.cons; exact rfl) | exact HpSub.refl _)))
    · have hge : r ≤ (i + j) / 2 := by
        rcases Nat.lt_or_ge ((i + j) / 2) r with k | k
        · have := h1 _ _ k hx; omega
        · exact k
      repeat' (first | ((with_reducible apply oq_id); first | (focus ((with_reducible apply oq_indexAddrN); exact rfl; exact rfl; exact rfl; exact rfl; omega)) | (apply oq_fn; exact rfl; first | exact trivial | (refine ⟨?_, ?_⟩ <;> omega) | (refine ⟨?_, ?_, ?_⟩ <;> omega) | omega | skip) | ((with_reducible apply oq_loadAgg); exact rfl; exact rfl) | (focus ((with_reducible apply oq_shr1N (a := i + j)); exact rfl; exact rfl; omega)) | (focus ((with_reducible apply oq_convU); exact rfl; exact rfl; exact rfl; (refine ⟨?_, ?_⟩ <;> omega))) | ((with_reducible apply oq_call (k := 132) (hc := Try.call132)); exact rfl; exact rfl; exact fun D w1 hw1 => cmp_calls _ _ _ _ _ _ hxb hb w1)) | ((with_reducible apply tl_id); first | ((with_reducible apply tl_nil)) | ((with_reducible apply u_q); exact rfl; exact rfl; exact rfl; exact rfl)) | ((with_reducible apply rd_id); first | (apply Rd.old; (first | (with_reducible assumption) | exact c0 | exact c1 | exact c2 | exact c3 | exact c4); first | exact List.not_mem_nil)) | ((with_reducible apply t_id); first | ((with_reducible apply t_seq)) | (apply t_region; kernel_rfl) | ((with_reducible apply t_condD); exact rfl; all_goals first | (intro hp; try (exfalso; omega)) | skip) | ((with_reducible apply t_skip)) | ((with_reducible apply t_block))) | with_reducible apply q_thenN | with_reducible apply q_blockN | exact Rdn.zero | apply Rdn.succ)
      all_goals (refine ⟨(i, (i + j) / 2), ⟨i0, hge, by simp only; omega⟩, by simp only; omega, ?_, ?_⟩ <;> (repeat' (first | exact FrSub.nil | (apply FrSub.cons; exact rfl) | exact HpSub.refl _)))
  · obtain rfl : i = j := by omega
    obtain rfl : i = r := by omega
    by_cases hin : i < n
    · obtain ⟨b, o, x, rfl, _, hx, c0, c1, c2, c3, c4⟩ := lv_read hr hin
      have hxb := hlb x (List.mem_of_getElem? hx)
      simp only [hx]
      have e : decide (x.h = h) = decide (x.h - h = 0) := by rw [Bool.eq_iff_iff, decide_eq_true_eq, decide_eq_true_eq]; omega
      rw [e]
      repeat' (first | ((with_reducible apply oq_id); first | (focus ((with_reducible apply oq_indexAddrN); exact rfl; exact rfl; exact rfl; exact rfl; omega)) | (apply oq_fn; exact rfl; first | exact trivial | (refine ⟨?_, ?_⟩ <;> omega) | (refine ⟨?_, ?_, ?_⟩ <;> omega) | omega | skip) | ((with_reducible apply oq_loadAgg); exact rfl; exact rfl) | ((with_reducible apply oq_call (k := 132) (hc := Try.call132)); exact rfl; exact rfl; exact fun D w1 hw1 => cmp_calls _ _ _ _ _ _ hxb hb w1)) | ((with_reducible apply tl_id); first | ((with_reducible apply tl_nil)) | ((with_reducible apply u_q); exact rfl; exact rfl; exact rfl; exact rfl) | ((with_reducible apply u_splitD); exact rfl; exact rfl; all_goals first | (intro hp; try (exfalso; omega)) | skip)) | ((with_reducible apply rd_id); first | (apply Rd.old; (first | (with_reducible assumption) | exact c0 | exact c1 | exact c2 | exact c3 | exact c4); first | exact List.not_mem_nil)) | ((with_reducible apply t_id); first | ((with_reducible apply t_seq)) | (apply t_region; kernel_rfl) | ((with_reducible apply t_condD); exact rfl; all_goals first | (intro hp; try (exfalso; omega)) | skip) | ((with_reducible apply t_ret)) | ((with_reducible apply t_exit))) | with_reducible apply q_thenN | with_reducible apply q_thenE | ((with_reducible apply q_blockE); exact rfl) | exact Rdn.zero | apply Rdn.succ | ((with_reducible apply end_ret)) | exact rvs_nil | ((with_reducible apply rvs_cons)) | ((with_reducible apply rv_tmp); exact rfl))
      all_goals rfl
    · have : l[i]? = none := List.getElem?_eq_none (by omega)
      simp only [this]
      repeat' (first | ((with_reducible apply oq_id); first | (apply oq_fn; exact rfl; first | exact trivial | (refine ⟨?_, ?_⟩ <;> omega) | (refine ⟨?_, ?_, ?_⟩ <;> omega) | omega | skip)) | ((with_reducible apply tl_id); first | ((with_reducible apply tl_nil)) | ((with_reducible apply u_q); exact rfl; exact rfl; exact rfl; exact rfl) | ((with_reducible apply u_skip); exact rfl; exact rfl; exact rfl) | ((with_reducible apply u_splitD); exact rfl; exact rfl; all_goals first | (intro hp; try (exfalso; omega)) | skip)) | ((with_reducible apply t_id); first | ((with_reducible apply t_seq)) | (apply t_region; kernel_rfl) | ((with_reducible apply t_condD); exact rfl; all_goals first | (intro hp; try (exfalso; omega)) | skip) | ((with_reducible apply t_ret)) | ((with_reducible apply t_exit))) | with_reducible apply q_thenN | with_reducible apply q_thenE | ((with_reducible apply q_blockE); exact rfl) | ((with_reducible apply end_ret)) | exact rvs_nil | ((with_reducible apply rvs_cons)) | ((with_reducible apply rv_tmp); exact rfl))
      all_goals rfl


theorem tell_calls (b1 b6 bk g cap gk ck n : Nat) (l cur : List Lv) (h : Int) (w : World) (hs : Snd l) (hl : l.length = n) (ho : OkL l cur) (hr : RdS w 5 (some ⟨g, 0, none⟩) n (cur.map lvCells)) (m0 : w.cell? ⟨b1, 0, none⟩ = some (.slice (some ⟨g, 0, none⟩) n cap))
    (m1 : w.cell? ⟨b6, 0, none⟩ = some (.func (.func 133) #[] #[.pointer (some ⟨bk, 0, none⟩)])) (m2 : w.cell? ⟨bk, 0, none⟩ = some (.slice (some ⟨gk, 0, none⟩) n ck)) (hk : RdS w 3 (some ⟨gk, 0, none⟩) n ((tabOf l).map knCells))
    (h0 : ∀ a, l[0]? = some a → a.h ≤ h) (h1 : ∀ a, l[n - 1]? = some a → h ≤ a.h) :
    Calls Try.prog 130 #[.int .i64 h, .pointer (some ⟨b1, 0, none⟩), .pointer (some ⟨b6, 0, none⟩)] w fun e w' => e = .returned (.agg #[.int .i64 (prV cur h).1, .int .i64 (prV cur h).2]) ∧ Ext w w' := by
  have hcl := ho.tt.len
  have n2 := hs.n2
  have n16 := hs.n16
  have hg : Hg cur := hs.hg ho.tt
  obtain ⟨r, hr1, hr2, hr3⟩ := hg_find hg h
  have k0 : l[0]? = some l[0] := List.getElem?_eq_getElem (by omega)
  have kn : l[n - 1]? = some l[n - 1] := List.getElem?_eq_getElem (by omega)
  have hb0 := hs.ok _ (List.mem_of_getElem? k0)
  have hbn := hs.ok _ (List.mem_of_getElem? kn)
  have hh0 := h0 _ k0
  have hhn := h1 _ kn
  have hrn : r < n := by
    rcases Nat.lt_or_ge r n with k | k
    · exact k
    · have kc : cur[n - 1]? = some cur[n - 1] := List.getElem?_eq_getElem (by omega)
      have := hr2 (n - 1) _ (by omega) kc
      have := (ho.tt.get kc kn).1
      omega
  have HB := fun w1 (hx : Ext w w1) => bsearch_calls (some ⟨g, 0, none⟩) n cap cur h r w1 (hr.ext hx) (by omega) (by omega) (fun x hx => by obtain ⟨y, hy, e, _⟩ := ho.tt.mem_of hx; have := hs.ok y hy; omega) (by omega) hr2 hr3
  obtain ⟨bb, ob, b, hA, _, hb, d0, d1, d2, d3, d4⟩ := lv_read hr hrn
  obtain ⟨rfl, rfl⟩ : g = bb ∧ 0 = ob := by simpa using hA
  by_cases heq : b.h = h
  · have hv : prV cur h = b.press := by rw [← heq]; exact prV_at hg hb
    simp only [hb, heq, decide_true] at HB
    rw [hv]
    refine enterQ (c := cx w 52) Try.func130 rfl rfl rfl rfl ?_
    repeat' (first | ((with_reducible apply oq_id); first | (focus ((with_reducible apply oq_indexAddrN); exact rfl; exact rfl; exact rfl; exact rfl; omega)) | (apply oq_fn; exact rfl; first | exact trivial | (refine ⟨?_, ?_⟩ <;> omega) | (refine ⟨?_, ?_, ?_⟩ <;> omega) | omega | skip) | ((with_reducible apply oq_load); exact rfl; exact rfl) | ((with_reducible apply oq_loadAgg); exact rfl; exact rfl) | ((with_reducible apply oq_call (k := 131) (hc := Try.call131)); exact rfl; exact rfl; exact fun D w1 hw1 => HB w1 hw1.ext.ext)) | ((with_reducible apply tl_id); first | ((with_reducible apply tl_nil)) | ((with_reducible apply u_q); exact rfl; exact rfl; exact rfl; exact rfl) | ((with_reducible apply u_s0); exact rfl; exact rfl) | ((with_reducible apply u_s); exact rfl; exact rfl; exact rfl)) | ((with_reducible apply os_id); first | ((with_reducible apply os_x); exact rfl) | ((with_reducible apply os_storeAgg); exact rfl; exact rfl; exact rfl; exact rfl; exact rfl)) | ((with_reducible apply ox_id); first | ((with_reducible apply ox_alloc); exact rfl; intro _)) | ((with_reducible apply rd_id); first | (apply Rd.old; exact m0; exact List.not_mem_nil) | (apply Rd.own; (repeat (first | exact P0 | apply P1)); exact rfl; done) | (apply Rd.old; (first | (with_reducible assumption) | exact c0 | exact c1 | exact c2 | exact c3 | exact c4 | exact d0 | exact d1 | exact d2 | exact d3 | exact d4); first | exact List.not_mem_nil | exact m0 | exact m1 | exact m2)) | ((with_reducible apply t_id); first | ((with_reducible apply t_seq)) | (apply t_region; kernel_rfl) | ((with_reducible apply t_condT); exact rfl) | ((with_reducible apply t_ret))) | with_reducible apply q_thenN | with_reducible apply q_thenR | exact P0 | exact Rdn.zero | apply Rdn.succ | ((with_reducible apply Norm.nil); exact rfl) | ((with_reducible apply Norm.cons); exact rfl) | ((with_reducible apply end_ret)) | exact rvs_nil | ((with_reducible apply rvs_cons)) | ((with_reducible apply rv_cellAgg); exact rfl; exact rfl) | exact Nat.le_of_ble_eq_true rfl)
    all_goals rfl
  · have hbh := hr3 r b (Nat.le_refl _) hb
    obtain ⟨j, rfl⟩ : ∃ j, r = j + 1 := by
      cases r with
      | zero =>
        have e := (ho.tt.get hb k0).1
        omega
      | succ j => exact ⟨j, rfl⟩
    obtain ⟨ba, oa, a, hA, _, ha, c0, c1, c2, c3, c4⟩ := lv_read hr (show j < n by omega)
    obtain ⟨rfl, rfl⟩ : g = ba ∧ 0 = oa := by simpa using hA
    have hah := hr2 j a (by omega) ha
    obtain ⟨x', y', kx, ky, e1, e2, e3, g1, g2, b1', b2', b3', b4'⟩ := okL_pair hs ho ha hb
    simp only [hb, heq, decide_false] at HB
    have hv := prV_mid hg ha hb hah (by omega)
    have HT : ∀ w1, Ext w w1 → Calls Try.prog 133 #[.int .i64 a.h, .int .i64 b.h, .pointer (some ⟨bk, 0, none⟩)] w1 fun e w' => e = .returned (.agg #[.int .i64 (gapT a b).1, .int .i64 (gapT a b).2]) ∧ Ext w1 w' := fun w1 hx => by
      have key := thermo1_calls bk gk ck n l a.h b.h w1 hs hl (hx.cell m2) (hk.ext hx) (fun z hz => by have := hs.mono hz kx (by omega); omega) (fun z hz => by
        have hi := (List.getElem?_eq_some_iff.1 ky).1
        have := hs.mono ky hz (by omega); omega)
      have e : valV (tabOf l) (min a.h b.h) (max a.h b.h) = gapT a b := by
        rw [e3, ← valV_adj hs kx ky]
        congr 1 <;> omega
      rw [e] at key
      exact key
    have HK := fun w1 => carry_up a.plo a.phi (h - a.h) (gapT a b).1 (gapT a b).2 ⟨by omega, by omega⟩ ⟨by omega, by omega⟩ ⟨by omega, by have := g1.c1; omega⟩ ⟨g1.t0, g1.t1, g1.t2⟩ w1
    rw [hv]
    refine enterQ (c := cx w 52) Try.func130 rfl rfl rfl rfl ?_
    repeat' (first | ((with_reducible apply oq_id); first | ((with_reducible apply oq_subE (k := (j : Int))); exact rfl; exact rfl; omega) | (focus ((with_reducible apply oq_indexAddrN); exact rfl; exact rfl; exact rfl; exact rfl; omega)) | (apply oq_fn; exact rfl; first | exact trivial | (refine ⟨?_, ?_⟩ <;> omega) | (refine ⟨?_, ?_, ?_⟩ <;> omega) | omega | skip) | ((with_reducible apply oq_load); exact rfl; exact rfl) | ((with_reducible apply oq_loadAgg); exact rfl; exact rfl) | ((with_reducible apply oq_call (k := 131) (hc := Try.call131)); exact rfl; exact rfl; exact fun D w1 hw1 => HB w1 hw1.ext.ext)) | ((with_reducible apply tl_id); first | ((with_reducible apply tl_nil)) | ((with_reducible apply u_q); exact rfl; exact rfl; exact rfl; exact rfl) | ((with_reducible apply u_s); exact rfl; exact rfl; exact rfl)) | ((with_reducible apply gx_id); first | ((with_reducible apply v_nil)) | ((with_reducible apply v_q); exact rfl; exact rfl; exact rfl)) | ((with_reducible apply os_id); first | ((with_reducible apply os_x); exact rfl) | ((with_reducible apply os_storeAgg); exact rfl; exact rfl; exact rfl; exact rfl; exact rfl)) | ((with_reducible apply ox_id); first | ((with_reducible apply ox_alloc); exact rfl; intro _)) | ((with_reducible apply ai_id); first | ((with_reducible apply ai_x); exact rfl; exact rfl; exact rfl; exact rfl; exact rfl) | ((with_reducible apply ai_n0); exact rfl; exact rfl; exact rfl)) | ((with_reducible apply al_keep); focus (repeat (first | exact HpSub.refl _ | (apply HpSub.cons; (repeat (first | exact P0 | apply P1))) | exact HpSub.nil))) | ((with_reducible apply rd_id); first | (apply Rd.old; exact m0; exact List.not_mem_nil) | (apply Rd.old; (first | (with_reducible assumption) | exact c0 | exact c1 | exact c2 | exact c3 | exact c4 | exact d0 | exact d1 | exact d2 | exact d3 | exact d4); first | exact List.not_mem_nil | exact m0 | exact m1 | exact m2)) | ((with_reducible apply t_id); first | (with_reducible apply t_cutK (ι := (Nat × Nat)) (rid := 4) [0, 1, 2, 4, 5] (fun i => [(7, .pointer (some ⟨i.1, 0, none⟩)), (8, .pointer (some ⟨i.2, 0, none⟩))]) (fun i => [(i.1, lvCells a, some (76, 5, 1)), (i.2, lvCells b, some (76, 5, 1))])); (repeat (first | exact KeepF.nil | (apply KeepF.cons; exact rfl) | apply KeepF.skip)) | ((with_reducible apply t_seq)) | (apply t_region; kernel_rfl) | ((with_reducible apply t_condF); exact rfl) | ((with_reducible apply t_skip))) | with_reducible apply q_thenN | exact P0 | ((with_reducible apply P1)) | exact Rdn.zero | apply Rdn.succ | ((with_reducible apply Norm.nil); exact rfl) | ((with_reducible apply Norm.cons); exact rfl) | ((with_reducible apply cut_in2) <;> (repeat' (first | exact FrSub.nil | (apply FrSub.cons; exact rfl) | exact HpSub.refl _ | (apply HpSub.consE; (repeat (first | exact P0 | apply P1)); exact rfl) | exact HpSub.nil))) | (apply t_mix (id := 4) [0, 1, 2, 3, 4, 5, 6, 7, 8] 4 #[false, false, false, false, false, false, false, false, false, false, false, false, false]; kernel_rfl; kernel_rfl; exact rfl) | ((with_reducible apply al_id); first | (apply al_done; decide +kernel) | (apply al_one 9; decide +kernel) | (apply al_one 10; decide +kernel) | (apply al_one 11; decide +kernel) | (apply al_one 12; decide +kernel) | (apply al_two 9 10; decide +kernel)) | exact Nat.le_of_ble_eq_true rfl)
    rintro ⟨b7, b8⟩
    try simp only [List.cons_append, List.nil_append]
    simp only [lvCells]
    repeat' (first | ((with_reducible apply oq_id); first | ((with_reducible apply oq_subE (k := (h - a.h))); exact rfl; exact rfl; omega) | (apply oq_fn; exact rfl; first | exact trivial | (refine ⟨?_, ?_⟩ <;> omega) | (refine ⟨?_, ?_, ?_⟩ <;> omega) | omega | skip) | ((with_reducible apply oq_load); exact rfl; exact rfl) | ((with_reducible apply oq_loadAgg); exact rfl; exact rfl) | ((with_reducible apply oq_call (k := 133) (hc := Try.call133)); exact rfl; exact rfl; exact fun D w1 hw1 => HT w1 hw1.ext.ext) | ((with_reducible apply oq_call (k := 103) (hc := Try.call103)); exact rfl; exact rfl; exact fun D w1 hw1 => HK w1)) | ((with_reducible apply tl_id); first | ((with_reducible apply tl_nil)) | ((with_reducible apply u_q); exact rfl; exact rfl; exact rfl; exact rfl) | ((with_reducible apply u_s0); exact rfl; exact rfl)) | ((with_reducible apply gx_id); first | ((with_reducible apply v_nil)) | ((with_reducible apply v_q); exact rfl; exact rfl; exact rfl)) | ((with_reducible apply os_id); first | ((with_reducible apply os_store); exact rfl; exact rfl; exact rfl; exact rfl) | ((with_reducible apply os_storeAgg); exact rfl; exact rfl; exact rfl; exact rfl; exact rfl)) | ((with_reducible apply ox_id); first | ((with_reducible apply ox_alloc); exact rfl; intro _)) | ((with_reducible apply ai_id); first | ((with_reducible apply ai_x); exact rfl; exact rfl; exact rfl; exact rfl; exact rfl) | ((with_reducible apply ai_n0); exact rfl; exact rfl; exact rfl)) | ((with_reducible apply al_keep); focus (repeat (first | exact HpSub.refl _ | (apply HpSub.cons; (repeat (first | exact P0 | apply P1))) | exact HpSub.nil))) | ((with_reducible apply rd_id); first | (apply Rd.old; exact m1; exact List.not_mem_nil) | (apply Rd.own; (repeat (first | exact P0 | apply P1)); exact rfl; done)) | ((with_reducible apply t_id); first | ((with_reducible apply t_seq)) | (apply t_region; kernel_rfl) | ((with_reducible apply t_ret))) | with_reducible apply q_thenN | exact P0 | ((with_reducible apply P1)) | exact Rdn.zero | apply Rdn.succ | ((with_reducible apply Norm.nil); exact rfl) | ((with_reducible apply Norm.cons); exact rfl) | ((with_reducible apply end_ret)) | exact rvs_nil | ((with_reducible apply rvs_cons)) | ((with_reducible apply rv_cellAgg); exact rfl; exact rfl) | (apply t_mix (id := 5) [0, 1, 2, 3, 4, 5, 6, 7, 8, 9, 10, 11, 12] 2 #[false, false, false, false, false, false, false, false, false, false, false, false, false, false, false]; kernel_rfl; kernel_rfl; exact rfl) | ((with_reducible apply al_id); first | (apply al_done; decide +kernel) | (apply al_one 13; decide +kernel) | (apply al_one 14; decide +kernel)) | exact Nat.le_of_ble_eq_true rfl)
    all_goals rfl

end Go.Proofs.Ytalidommelefaaa
/- The air between two heights: what the code computes. -/
namespace Go.Proofs.Ytalidommelefaaa
open Go.RowKit
attribute [local irreducible] OQ OS OX Rd T TL GX GL AL AI RV wpG SAny Calls
set_option maxRecDepth 100000
set_option maxHeartbeats 2000000
set_option linter.unusedVariables false
set_option linter.unusedSimpArgs false


theorem fromTwo {w0 : World} {M : Ms} {H H' : Hp} {w : World} {g : Nat} {a b lo hi : Int} {tg : Tg} {cp : Nat} {q : Bool} (hq : allFrom lo hi [a, b] = q) (h : Has w0 M H w) (p : Pick H g [.int .i64 a, .int .i64 b] tg H') :
    Calls Try.prog 71 #[.int .i64 lo, .int .i64 hi, .slice (some ⟨g, 0, none⟩) 2 cp] w fun e w' => e = .returned (.bool q) ∧ Ext w w' :=
  hq ▸ from_calls lo hi (some ⟨g, 0, none⟩) 2 cp [a, b] w (Blk.rows (k := 1) (rows := [a, b].map fun z => [Value.int .i64 z]) (h.blk _ p.mem).2 rfl (by simp)) (by omega)
/-- Is what settles unfit? -/
def unfit (l : List Lv) : Bool := decide (0 ≤ idxV badL (setl l))
def SetBad (l : List Lv) (v : Value) (H : Hp) : Prop := v = .tuple #[.slice none 0 0, .int .i64 (idxV badL (setl l)), .int .i64 21] ∧ H = []
def SetOk (l : List Lv) (v : Value) (H : Hp) : Prop := ∃ g cap, v = .tuple #[.slice (some ⟨g, 0, none⟩) l.length cap, .int .i64 0, .int .i64 0] ∧ H = [(g, ((setl l).map lvCells).flatten, some (76, 5, cap))]
theorem setV_bad {l : List Lv} (hs : soundB l = true) (hu : unfit l = true) {v : Value} {H : Hp} (h : SetV l v H) : SetBad l v H := by
  rcases h with ⟨h, _⟩ | ⟨_, _, h1, h2⟩ | ⟨_, h, _⟩
  · rw [hs] at h; cases h
  · exact ⟨h1, h2⟩
  · unfold unfit at hu; simp at hu; exact absurd hu h
theorem setV_ok {l : List Lv} (hs : soundB l = true) (hu : unfit l = false) {v : Value} {H : Hp} (h : SetV l v H) : SetOk l v H := by
  rcases h with ⟨h, _⟩ | ⟨_, h, _⟩ | ⟨_, _, h⟩
  · rw [hs] at h; cases h
  · unfold unfit at hu; simp at hu; omega
  · exact h
/-- A barometer. -/
def BarV (l : List Lv) (v : Value) (H : Hp) : Prop :=
  ∃ b1 b6 bk g cap gk ck, v = .tuple #[.func (.func 130) #[] #[.pointer (some ⟨b1, 0, none⟩), .pointer (some ⟨b6, 0, none⟩)], .int .i64 0] ∧
    H = [(b1, [.slice (some ⟨g, 0, none⟩) l.length cap], some (42, 1, 1)), (b6, [.func (.func 133) #[] #[.pointer (some ⟨bk, 0, none⟩)]], some (88, 1, 1)), (bk, [.slice (some ⟨gk, 0, none⟩) l.length ck], some (164, 1, 1)),
      (gk, ((tabOf l).map knCells).flatten, some (166, 3, ck)), (g, ((setl l).map lvCells).flatten, some (76, 5, cap))]
def BarBad (v : Value) (H : Hp) : Prop := v = .tuple #[.nilFunc, .int .i64 21] ∧ H = []
theorem tab_setl {l : List Lv} (hs : Snd l) : tabOf (setl l) = tabOf l := by
  have key : ∀ {c l : List Lv}, Tt c l → tabOf c = tabOf l := by
    intro c l h
    induction h with
    | nil => rfl
    | cons h k ih =>
      unfold tabOf at ih ⊢
      rw [List.map_cons, List.map_cons, ih]
      congr 1
      unfold knOf
      rw [h.1, h.2.1, h.2.2.1]
  exact key hs.settles.2.2


theorem bar_bad (A : Option Addr) (c : Nat) (l : List Lv) (w : World) (hr : RdS w 5 A l.length (l.map lvCells)) (hsb : soundB l = true) (hu : unfit l = true) :
    Calls Try.prog 92 #[.slice A l.length c] w fun e w' => ∃ v H', e = .returned v ∧ BarBad v H' ∧ Has w ⟨[], []⟩ H' w' := by
  have hs := (soundB_iff l).1 hsb
  have n16 := hs.n16
  have HS := fun w1 (hx : Ext w w1) => settle_T A l.length c l w1 (hr.ext hx) (by omega)
  refine enterF (c := cx w 19) Try.func92 rfl rfl rfl rfl ?_
  repeat' (first | ((with_reducible apply oq_id); first | (apply oq_fn; exact rfl; first | exact trivial | (refine ⟨?_, ?_⟩ <;> omega) | (refine ⟨?_, ?_, ?_⟩ <;> omega) | omega | skip) | ((with_reducible apply oq_load); exact rfl; exact rfl)) | ((with_reducible apply tl_id); first | ((with_reducible apply tl_nil)) | ((with_reducible apply u_s); exact rfl; exact rfl; exact rfl; (with_reducible apply os_callF (PV := SetBad l) (k := 40) (hc := Try.call40)); exact rfl; exact rfl; exact fun D w1 hw1 => (HS w1 hw1.ext.ext).mono fun e w' ⟨v, H', h1, h2, h3⟩ => ⟨v, H', h1, setV_bad hsb hu h2, h3⟩; rintro v H' ⟨rfl, rfl⟩; simp only [List.cons_append, List.nil_append]) | ((with_reducible apply u_q); exact rfl; exact rfl; exact rfl; exact rfl) | ((with_reducible apply u_s0); exact rfl; exact rfl) | ((with_reducible apply u_s); exact rfl; exact rfl; exact rfl)) | ((with_reducible apply os_id); first | ((with_reducible apply os_x); exact rfl) | ((with_reducible apply os_store); exact rfl; exact rfl; exact rfl; exact rfl)) | ((with_reducible apply ox_id); first | ((with_reducible apply ox_box); exact rfl; exact rfl; intro _)) | ((with_reducible apply rd_id); first | (apply Rd.own; (repeat (first | exact P0 | apply P1)); exact rfl; done)) | ((with_reducible apply t_id); first | ((with_reducible apply t_seq)) | (apply t_region; kernel_rfl) | ((with_reducible apply t_condT); exact rfl) | ((with_reducible apply t_ret))) | with_reducible apply q_thenN | with_reducible apply q_thenR | exact P0 | ((with_reducible apply Norm.nil); exact rfl) | ((with_reducible apply Norm.cons); exact rfl) | ((with_reducible apply end_ret)) | exact rvs_nil | ((with_reducible apply rvs_cons)) | ((with_reducible apply rv_tmp); exact rfl) | exact Nat.le_of_ble_eq_true rfl)
  exact ⟨_, ⟨rfl, rfl⟩, HpSub.nil⟩
theorem bar_ok (A : Option Addr) (c : Nat) (l : List Lv) (w : World) (hr : RdS w 5 A l.length (l.map lvCells)) (hsb : soundB l = true) (hu : unfit l = false) :
    Calls Try.prog 92 #[.slice A l.length c] w fun e w' => ∃ v H', e = .returned v ∧ BarV l v H' ∧ Has w ⟨[], []⟩ H' w' := by
  have hs := (soundB_iff l).1 hsb
  have n2 := hs.n2
  have n16 := hs.n16
  have HS := fun w1 (hx : Ext w w1) => settle_T A l.length c l w1 (hr.ext hx) (by omega)
  refine enterF (c := cx w 19) Try.func92 rfl rfl rfl rfl ?_
  repeat' (first | ((with_reducible apply oq_id); first | (apply oq_fn; exact rfl; first | exact trivial | (refine ⟨?_, ?_⟩ <;> omega) | (refine ⟨?_, ?_, ?_⟩ <;> omega) | omega | skip) | ((with_reducible apply oq_load); exact rfl; exact rfl)) | ((with_reducible apply tl_id); first | ((with_reducible apply tl_nil)) | ((with_reducible apply u_s); exact rfl; exact rfl; exact rfl; (with_reducible apply os_callF (PV := SetOk l) (k := 40) (hc := Try.call40)); exact rfl; exact rfl; exact fun D w1 hw1 => (HS w1 hw1.ext.ext).mono fun e w' ⟨v, H', h1, h2, h3⟩ => ⟨v, H', h1, setV_ok hsb hu h2, h3⟩; rintro v H' ⟨g, cap, rfl, rfl⟩; simp only [List.cons_append, List.nil_append]) | ((with_reducible apply u_s); exact rfl; exact rfl; exact rfl; (with_reducible apply os_callF (PV := ThV (setl l)) (k := 93) (hc := Try.call93)); exact rfl; exact rfl; exact fun D w1 hw1 => thermo_T _ _ _ (setl l) w1 (lv_rows (setl_len l) hw1 (by (repeat (first | exact P0 | apply P1)))) (by omega) (by omega); rintro v H' ⟨bk, gk, ck, rfl, rfl⟩; simp only [setl_len, List.cons_append, List.nil_append]) | ((with_reducible apply u_q); exact rfl; exact rfl; exact rfl; exact rfl) | ((with_reducible apply u_s0); exact rfl; exact rfl) | ((with_reducible apply u_s); exact rfl; exact rfl; exact rfl)) | ((with_reducible apply os_id); first | ((with_reducible apply os_x); exact rfl) | ((with_reducible apply os_store); exact rfl; exact rfl; exact rfl; exact rfl)) | ((with_reducible apply ox_id); first | ((with_reducible apply ox_alloc); exact rfl; intro _) | ((with_reducible apply ox_box); exact rfl; exact rfl; intro _)) | ((with_reducible apply rd_id); first | (apply Rd.own; (repeat (first | exact P0 | apply P1)); exact rfl; done)) | ((with_reducible apply t_id); first | ((with_reducible apply t_seq)) | (apply t_region; kernel_rfl) | ((with_reducible apply t_condF); exact rfl) | ((with_reducible apply t_ret)) | ((with_reducible apply t_skip))) | with_reducible apply q_thenN | exact P0 | ((with_reducible apply P1)) | ((with_reducible apply Norm.nil); exact rfl) | ((with_reducible apply Norm.cons); exact rfl) | ((with_reducible apply end_ret)) | exact rvs_nil | ((with_reducible apply rvs_cons)) | ((with_reducible apply rv_tmp); exact rfl) | exact Nat.le_of_ble_eq_true rfl)
  refine ⟨_, ⟨_, _, bk, g, cap, gk, ck, rfl, rfl⟩, ?_⟩
  rw [← tab_setl hs]
  (repeat (first | exact HpSub.refl _ | (apply HpSub.consE; (repeat (first | exact P0 | apply P1)); exact rfl) | exact HpSub.nil))
/-- What a barometer tells, in the caller's world. -/
theorem tell_at {w0 : World} {M : Ms} {H H1 H2 H3 H4 H5 : Hp} {w1 : World} {b1 b6 bk g cap gk ck : Nat} {l : List Lv} (hs : Snd l) (h : Int) (h0 : ∀ a, l[0]? = some a → a.h ≤ h) (h1 : ∀ a, l[l.length - 1]? = some a → h ≤ a.h)
    (hw : Has w0 M H w1) (p1 : Pick H b1 [.slice (some ⟨g, 0, none⟩) l.length cap] (some (42, 1, 1)) H1) (p2 : Pick H b6 [.func (.func 133) #[] #[.pointer (some ⟨bk, 0, none⟩)]] (some (88, 1, 1)) H2) (p3 : Pick H bk [.slice (some ⟨gk, 0, none⟩) l.length ck] (some (164, 1, 1)) H3)
    (p4 : Pick H gk ((tabOf l).map knCells).flatten (some (166, 3, ck)) H4) (p5 : Pick H g ((setl l).map lvCells).flatten (some (76, 5, cap)) H5) :
    Calls Try.prog 130 #[.int .i64 h, .pointer (some ⟨b1, 0, none⟩), .pointer (some ⟨b6, 0, none⟩)] w1 fun e w' => e = .returned (.agg #[.int .i64 (prV (setl l) h).1, .int .i64 (prV (setl l) h).2]) ∧ Ext w1 w' :=
  tell_calls b1 b6 bk g cap gk ck l.length l (setl l) h w1 hs rfl (okL_of hs hs.settles.2.2 (Tt.refl _)) (lv_rows (setl_len l) hw p5) (hw.cellAt p1 rfl) (hw.cellAt p2 rfl) (hw.cellAt p3 rfl)
    ((hw.blk _ p4.mem).2.rows (k := 3) (by simp [tabOf]) (by simp only [List.mem_map]; rintro r ⟨z, _, rfl⟩; rfl)) h0 h1


/-- From where to where a sounding goes. -/
def lvFst (l : List Lv) : Int := match l[0]? with | some x => x.h | none => 0
def lvLst (l : List Lv) : Int := match l[l.length - 1]? with | some x => x.h | none => 0
/-- The air between two heights: pressure, temperature, and the error. -/
def atS (l : List Lv) (p q : Int) : (Int × Int) × (Int × Int) × Int :=
  if soundB l then if fineS (p, q) then if allFrom (lvFst l) (lvLst l) [p, q] then if unfit l then ((0, 0), (0, 0), 21) else (((prV (setl l) q).1, (prV (setl l) p).2), valV (tabOf l) p q, 0) else ((0, 0), (0, 0), 2) else ((0, 0), (0, 0), 10) else ((0, 0), (0, 0), 20)
def airV (k : (Int × Int) × (Int × Int) × Int) : Value := .tuple #[.agg #[.int .i64 k.1.1, .int .i64 k.1.2, .int .i64 k.2.1.1, .int .i64 k.2.1.2], .int .i64 k.2.2]


theorem thermo2 {w0 : World} {M : Ms} {H H3 H4 : Hp} {w1 : World} {bk gk ck : Nat} {l : List Lv} (hs : Snd l) {p q : Int} (h0 : ∀ a, l[0]? = some a → a.h ≤ p) (hpq : p ≤ q) (h1 : ∀ a, l[l.length - 1]? = some a → q ≤ a.h)
    (hw : Has w0 M H w1) (p3 : Pick H bk [.slice (some ⟨gk, 0, none⟩) l.length ck] (some (164, 1, 1)) H3) (p4 : Pick H gk ((tabOf l).map knCells).flatten (some (166, 3, ck)) H4) :
    Calls Try.prog 133 #[.int .i64 p, .int .i64 q, .pointer (some ⟨bk, 0, none⟩)] w1 fun e w' => e = .returned (.agg #[.int .i64 (valV (tabOf l) p q).1, .int .i64 (valV (tabOf l) p q).2]) ∧ Ext w1 w' := by
  have key := thermo1_calls bk gk ck l.length l p q w1 hs rfl (hw.cellAt p3 rfl) ((hw.blk _ p4.mem).2.rows (k := 3) (by simp [tabOf]) (by simp only [List.mem_map]; rintro r ⟨z, _, rfl⟩; rfl)) (fun a ha => by have := h0 a ha; omega) (fun a ha => by have := h1 a ha; omega)
  rw [Int.min_eq_left hpq, Int.max_eq_right hpq] at key
  exact key
theorem at36_calls (A : Option Addr) (n c : Nat) (l : List Lv) (p q : Int) (w : World) (hr : RdS w 5 A n (l.map lvCells)) (hn : n ≤ 1000000) :
    Calls Try.prog 36 #[.slice A n c, .agg #[.int .i64 p, .int .i64 q]] w fun e w' => e = .returned (airV (atS l p q)) ∧ Ext w w' := by
  have hl := hr.len
  simp only [List.length_map] at hl
  subst hl
  have HC := fun w1 (hx : Ext w w1) => checkAir_calls A l.length c l w1 (hr.ext hx) hn
  have HF := fun w1 => check_calls p q w1
  unfold atS
  cases hsb : soundB l with
  | false =>
    rw [hsb] at HC
    simp only [Bool.false_eq_true, if_false] at HC ⊢
    refine enterQ (c := cx w 69) Try.func36 rfl rfl rfl rfl ?_
    repeat' (first | ((with_reducible apply oq_id); first | (apply oq_fn; exact rfl; first | exact trivial | (refine ⟨?_, ?_⟩ <;> omega) | (refine ⟨?_, ?_, ?_⟩ <;> omega) | omega | skip) | ((with_reducible apply oq_call (k := 38) (hc := Try.call38)); exact rfl; exact rfl; exact fun D w1 hw1 => HC w1 hw1.ext.ext) | ((with_reducible apply oq_build); exact rfl; exact rfl; exact rfl)) | ((with_reducible apply tl_id); first | ((with_reducible apply tl_nil)) | ((with_reducible apply u_q); exact rfl; exact rfl; exact rfl; exact rfl) | ((with_reducible apply u_s0); exact rfl; exact rfl) | ((with_reducible apply u_s); exact rfl; exact rfl; exact rfl)) | ((with_reducible apply os_id); first | ((with_reducible apply os_x); exact rfl) | ((with_reducible apply os_storeAgg); exact rfl; exact rfl; exact rfl; exact rfl; exact rfl)) | ((with_reducible apply ox_id); first | ((with_reducible apply ox_alloc); exact rfl; intro _) | ((with_reducible apply ox_boxAgg); exact rfl; intro _)) | ((with_reducible apply rd_id); first | (apply Rd.own; (repeat (first | exact P0 | apply P1)); exact rfl; done)) | ((with_reducible apply t_id); first | ((with_reducible apply t_seq)) | (apply t_region; kernel_rfl) | ((with_reducible apply t_condT); exact rfl) | ((with_reducible apply t_ret))) | with_reducible apply q_thenN | with_reducible apply q_thenR | exact P0 | exact Rdn.zero | apply Rdn.succ | ((with_reducible apply Norm.nil); exact rfl) | ((with_reducible apply Norm.cons); exact rfl) | ((with_reducible apply end_ret)) | exact rvs_nil | ((with_reducible apply rvs_cons)) | ((with_reducible apply rv_tmp); exact rfl) | ((with_reducible apply rv_cellAgg); exact rfl; exact rfl) | exact Nat.le_of_ble_eq_true rfl)
    all_goals rfl
  | true =>
  rw [hsb] at HC
  simp only [if_true] at HC ⊢
  have hs := (soundB_iff l).1 hsb
  have n2 := hs.n2
  have n16 := hs.n16
  cases hfn : fineS (p, q) with
  | false =>
    rw [hfn] at HF
    simp only [Bool.false_eq_true, if_false] at HF ⊢
    refine enterQ (c := cx w 69) Try.func36 rfl rfl rfl rfl ?_
    repeat' (first | ((with_reducible apply oq_id); first | (apply oq_fn; exact rfl; first | exact trivial | (refine ⟨?_, ?_⟩ <;> omega) | (refine ⟨?_, ?_, ?_⟩ <;> omega) | omega | skip) | ((with_reducible apply oq_loadAgg); exact rfl; exact rfl) | ((with_reducible apply oq_call (k := 38) (hc := Try.call38)); exact rfl; exact rfl; exact fun D w1 hw1 => HC w1 hw1.ext.ext) | ((with_reducible apply oq_call (k := 55) (hc := Try.call55)); exact rfl; exact rfl; exact fun D w1 hw1 => HF w1) | ((with_reducible apply oq_build); exact rfl; exact rfl; exact rfl)) | ((with_reducible apply tl_id); first | ((with_reducible apply tl_nil)) | ((with_reducible apply u_q); exact rfl; exact rfl; exact rfl; exact rfl) | ((with_reducible apply u_s0); exact rfl; exact rfl) | ((with_reducible apply u_s); exact rfl; exact rfl; exact rfl)) | ((with_reducible apply os_id); first | ((with_reducible apply os_x); exact rfl) | ((with_reducible apply os_storeAgg); exact rfl; exact rfl; exact rfl; exact rfl; exact rfl)) | ((with_reducible apply ox_id); first | ((with_reducible apply ox_alloc); exact rfl; intro _) | ((with_reducible apply ox_boxAgg); exact rfl; intro _)) | ((with_reducible apply rd_id); first | (apply Rd.own; (repeat (first | exact P0 | apply P1)); exact rfl; done)) | ((with_reducible apply t_id); first | ((with_reducible apply t_seq)) | (apply t_region; kernel_rfl) | ((with_reducible apply t_condT); exact rfl) | ((with_reducible apply t_condF); exact rfl) | ((with_reducible apply t_ret)) | ((with_reducible apply t_skip))) | with_reducible apply q_thenN | with_reducible apply q_thenR | exact P0 | exact Rdn.zero | apply Rdn.succ | ((with_reducible apply Norm.nil); exact rfl) | ((with_reducible apply Norm.cons); exact rfl) | ((with_reducible apply end_ret)) | exact rvs_nil | ((with_reducible apply rvs_cons)) | ((with_reducible apply rv_tmp); exact rfl) | ((with_reducible apply rv_cellAgg); exact rfl; exact rfl) | exact Nat.le_of_ble_eq_true rfl)
    all_goals rfl
  | true =>
  rw [hfn] at HF
  simp only [if_true] at HF ⊢
  have hpq : p ≤ q := ((fineS_iff (p, q)).1 hfn).1
  obtain ⟨b0, o0, x0, rfl, _, hx0, c0, c1, c2, c3, c4⟩ := lv_read hr (show 0 < l.length by omega)
  obtain ⟨bn, on, xn, hA, _, hxn, d0, d1, d2, d3, d4⟩ := lv_read hr (show l.length - 1 < l.length by omega)
  obtain ⟨rfl, rfl⟩ : b0 = bn ∧ o0 = on := by simpa using hA
  have e0 : lvFst l = x0.h := by unfold lvFst; rw [hx0]
  have en : lvLst l = xn.h := by unfold lvLst; rw [hxn]
  rw [e0, en]
  cases hrg : allFrom x0.h xn.h [p, q] with
  | false =>
    simp only [Bool.false_eq_true, if_false]
    refine enterQ (c := cx w 69) Try.func36 rfl rfl rfl rfl ?_
    repeat' (first | ((with_reducible apply oq_id); first | ((with_reducible apply oq_subE (k := ((l.length - 1 : Nat) : Int))); exact rfl; exact rfl; omega) | (focus ((with_reducible apply oq_indexAddrN); exact rfl; exact rfl; exact rfl; exact rfl; omega)) | (apply oq_fn; exact rfl; first | exact trivial | (refine ⟨?_, ?_⟩ <;> omega) | (refine ⟨?_, ?_, ?_⟩ <;> omega) | omega | skip) | ((with_reducible apply oq_load); exact rfl; exact rfl) | ((with_reducible apply oq_loadAgg); exact rfl; exact rfl) | ((with_reducible apply oq_call (k := 38) (hc := Try.call38)); exact rfl; exact rfl; exact fun D w1 hw1 => HC w1 hw1.ext.ext) | ((with_reducible apply oq_call (k := 55) (hc := Try.call55)); exact rfl; exact rfl; exact fun D w1 hw1 => HF w1) | ((with_reducible apply oq_call (k := 71) (hc := Try.call71)); exact rfl; exact rfl; exact fun D w1 hw1 => fromTwo hrg hw1 (by (repeat (first | exact P0 | apply P1)))) | ((with_reducible apply oq_build); exact rfl; exact rfl; exact rfl)) | ((with_reducible apply tl_id); first | ((with_reducible apply tl_nil)) | ((with_reducible apply u_q); exact rfl; exact rfl; exact rfl; exact rfl) | ((with_reducible apply u_s0); exact rfl; exact rfl) | ((with_reducible apply u_s); exact rfl; exact rfl; exact rfl)) | ((with_reducible apply gx_id); first | ((with_reducible apply v_nil)) | ((with_reducible apply v_q); exact rfl; exact rfl; exact rfl)) | ((with_reducible apply os_id); first | ((with_reducible apply os_x); exact rfl) | ((with_reducible apply os_storeAgg); exact rfl; exact rfl; exact rfl; exact rfl; exact rfl)) | ((with_reducible apply ox_id); first | ((with_reducible apply ox_alloc); exact rfl; intro _) | ((with_reducible apply ox_boxAgg); exact rfl; intro _) | ((with_reducible apply ox_buildSlice1); exact rfl; exact rfl; exact rfl; exact rfl; exact rfl; exact rfl; intro _)) | ((with_reducible apply ai_id); first | ((with_reducible apply ai_q); exact rfl; exact rfl; exact rfl; exact rfl; exact rfl) | ((with_reducible apply ai_x); exact rfl; exact rfl; exact rfl; exact rfl; exact rfl)) | ((with_reducible apply rd_id); first | (apply Rd.own; (repeat (first | exact P0 | apply P1)); exact rfl; done) | (apply Rd.old; (first | (with_reducible assumption) | exact c0 | exact c1 | exact c2 | exact c3 | exact c4 | exact d0 | exact d1 | exact d2 | exact d3 | exact d4); first | exact List.not_mem_nil)) | ((with_reducible apply t_id); first | ((with_reducible apply t_seq)) | (apply t_region; kernel_rfl) | ((with_reducible apply t_condT); exact rfl) | ((with_reducible apply t_condF); exact rfl) | ((with_reducible apply t_ret)) | ((with_reducible apply t_skip))) | with_reducible apply q_thenN | with_reducible apply q_thenR | exact P0 | ((with_reducible apply P1)) | exact Rdn.zero | apply Rdn.succ | ((with_reducible apply Norm.nil); exact rfl) | ((with_reducible apply Norm.cons); exact rfl) | ((with_reducible apply end_ret)) | exact rvs_nil | ((with_reducible apply rvs_cons)) | ((with_reducible apply rv_tmp); exact rfl) | ((with_reducible apply rv_cellAgg); exact rfl; exact rfl) | (apply t_mix (id := 7) [0, 1, 2, 3, 4, 5, 6, 7, 8, 9, 10, 11, 12, 13, 14] 3 #[false, false, false, false, false, false, false, false, false, false, false, false, false, false, false, false, false, false]; kernel_rfl; kernel_rfl; exact rfl) | ((with_reducible apply al_id); first | (apply al_done; decide +kernel) | (apply al_one 15; decide +kernel) | (apply al_one 16; decide +kernel) | (apply al_one 17; decide +kernel)) | exact Nat.le_of_ble_eq_true rfl)
    all_goals rfl
  | true =>
  simp only [if_true]
  have hrr : x0.h ≤ p ∧ p ≤ xn.h ∧ x0.h ≤ q ∧ q ≤ xn.h := by unfold allFrom at hrg; simp at hrg; omega
  cases hu : unfit l with
  | true =>
    simp only [if_true]
    refine enterQ (c := cx w 69) Try.func36 rfl rfl rfl rfl ?_
    repeat' (first | ((with_reducible apply oq_id); first | ((with_reducible apply oq_subE (k := ((l.length - 1 : Nat) : Int))); exact rfl; exact rfl; omega) | (focus ((with_reducible apply oq_indexAddrN); exact rfl; exact rfl; exact rfl; exact rfl; omega)) | (apply oq_fn; exact rfl; first | exact trivial | (refine ⟨?_, ?_⟩ <;> omega) | (refine ⟨?_, ?_, ?_⟩ <;> omega) | omega | skip) | ((with_reducible apply oq_load); exact rfl; exact rfl) | ((with_reducible apply oq_loadAgg); exact rfl; exact rfl) | ((with_reducible apply oq_call (k := 38) (hc := Try.call38)); exact rfl; exact rfl; exact fun D w1 hw1 => HC w1 hw1.ext.ext) | ((with_reducible apply oq_call (k := 55) (hc := Try.call55)); exact rfl; exact rfl; exact fun D w1 hw1 => HF w1) | ((with_reducible apply oq_call (k := 71) (hc := Try.call71)); exact rfl; exact rfl; exact fun D w1 hw1 => fromTwo hrg hw1 (by (repeat (first | exact P0 | apply P1)))) | ((with_reducible apply oq_build); exact rfl; exact rfl; exact rfl)) | ((with_reducible apply tl_id); first | ((with_reducible apply tl_nil)) | ((with_reducible apply u_s); exact rfl; exact rfl; exact rfl; (with_reducible apply os_callF (PV := BarBad) (k := 92) (hc := Try.call92)); exact rfl; exact rfl; exact fun D w1 hw1 => bar_bad _ _ l w1 (hr.ext hw1.ext.ext) hsb hu; rintro v H' ⟨rfl, rfl⟩; simp only [List.cons_append, List.nil_append]) | ((with_reducible apply u_q); exact rfl; exact rfl; exact rfl; exact rfl) | ((with_reducible apply u_s0); exact rfl; exact rfl) | ((with_reducible apply u_s); exact rfl; exact rfl; exact rfl)) | ((with_reducible apply gx_id); first | ((with_reducible apply v_nil)) | ((with_reducible apply v_q); exact rfl; exact rfl; exact rfl)) | ((with_reducible apply os_id); first | ((with_reducible apply os_x); exact rfl) | ((with_reducible apply os_storeAgg); exact rfl; exact rfl; exact rfl; exact rfl; exact rfl)) | ((with_reducible apply ox_id); first | ((with_reducible apply ox_alloc); exact rfl; intro _) | ((with_reducible apply ox_boxAgg); exact rfl; intro _) | ((with_reducible apply ox_buildSlice1); exact rfl; exact rfl; exact rfl; exact rfl; exact rfl; exact rfl; intro _)) | ((with_reducible apply ai_id); first | ((with_reducible apply ai_q); exact rfl; exact rfl; exact rfl; exact rfl; exact rfl) | ((with_reducible apply ai_x); exact rfl; exact rfl; exact rfl; exact rfl; exact rfl)) | ((with_reducible apply rd_id); first | (apply Rd.own; (repeat (first | exact P0 | apply P1)); exact rfl; done) | (apply Rd.old; (first | (with_reducible assumption) | exact c0 | exact c1 | exact c2 | exact c3 | exact c4 | exact d0 | exact d1 | exact d2 | exact d3 | exact d4); first | exact List.not_mem_nil)) | ((with_reducible apply t_id); first | ((with_reducible apply t_seq)) | (apply t_region; kernel_rfl) | ((with_reducible apply t_condT); exact rfl) | ((with_reducible apply t_condF); exact rfl) | ((with_reducible apply t_ret)) | ((with_reducible apply t_skip))) | with_reducible apply q_thenN | with_reducible apply q_thenR | exact P0 | ((with_reducible apply P1)) | exact Rdn.zero | apply Rdn.succ | ((with_reducible apply Norm.nil); exact rfl) | ((with_reducible apply Norm.cons); exact rfl) | ((with_reducible apply end_ret)) | exact rvs_nil | ((with_reducible apply rvs_cons)) | ((with_reducible apply rv_tmp); exact rfl) | ((with_reducible apply rv_cellAgg); exact rfl; exact rfl) | (apply t_mix (id := 7) [0, 1, 2, 3, 4, 5, 6, 7, 8, 9, 10, 11, 12, 13, 14] 3 #[false, false, false, false, false, false, false, false, false, false, false, false, false, false, false, false, false, false]; kernel_rfl; kernel_rfl; exact rfl) | ((with_reducible apply al_id); first | (apply al_done; decide +kernel) | (apply al_one 15; decide +kernel) | (apply al_one 16; decide +kernel) | (apply al_one 17; decide +kernel)) | exact Nat.le_of_ble_eq_true rfl)
    all_goals rfl
  | false =>
    simp only [Bool.false_eq_true, if_false]
    have hp0 : ∀ a, l[0]? = some a → a.h ≤ p := fun a ha => by rw [hx0] at ha; rw [← Option.some.inj ha]; omega
    have hq0 : ∀ a, l[0]? = some a → a.h ≤ q := fun a ha => by rw [hx0] at ha; rw [← Option.some.inj ha]; omega
    have hp1 : ∀ a, l[l.length - 1]? = some a → p ≤ a.h := fun a ha => by rw [hxn] at ha; rw [← Option.some.inj ha]; omega
    have hq1 : ∀ a, l[l.length - 1]? = some a → q ≤ a.h := fun a ha => by rw [hxn] at ha; rw [← Option.some.inj ha]; omega
    refine enterQ (c := cx w 69) Try.func36 rfl rfl rfl rfl ?_
    repeat' (first | ((with_reducible apply oq_id); first | ((with_reducible apply oq_subE (k := ((l.length - 1 : Nat) : Int))); exact rfl; exact rfl; omega) | (focus ((with_reducible apply oq_indexAddrN); exact rfl; exact rfl; exact rfl; exact rfl; omega)) | (apply oq_fn; exact rfl; first | exact trivial | (refine ⟨?_, ?_⟩ <;> omega) | (refine ⟨?_, ?_, ?_⟩ <;> omega) | omega | skip) | ((with_reducible apply oq_load); exact rfl; exact rfl) | ((with_reducible apply oq_loadAgg); exact rfl; exact rfl) | ((with_reducible apply oq_call (k := 38) (hc := Try.call38)); exact rfl; exact rfl; exact fun D w1 hw1 => HC w1 hw1.ext.ext) | ((with_reducible apply oq_call (k := 55) (hc := Try.call55)); exact rfl; exact rfl; exact fun D w1 hw1 => HF w1) | ((with_reducible apply oq_call (k := 71) (hc := Try.call71)); exact rfl; exact rfl; exact fun D w1 hw1 => fromTwo hrg hw1 (by (repeat (first | exact P0 | apply P1)))) | ((with_reducible apply oq_call (k := 130) (hc := Try.call130)); exact rfl; exact rfl; exact fun D w1 hw1 => tell_at hs _ (by first | exact hp0 | exact hq0) (by first | exact hp1 | exact hq1) hw1 (by (repeat (first | exact P0 | apply P1))) (by (repeat (first | exact P0 | apply P1))) (by (repeat (first | exact P0 | apply P1))) (by (repeat (first | exact P0 | apply P1))) (by (repeat (first | exact P0 | apply P1)))) | ((with_reducible apply oq_call (k := 133) (hc := Try.call133)); exact rfl; exact rfl; exact fun D w1 hw1 => thermo2 hs hp0 hpq hq1 hw1 (by (repeat (first | exact P0 | apply P1))) (by (repeat (first | exact P0 | apply P1)))) | ((with_reducible apply oq_build); exact rfl; exact rfl; exact rfl)) | ((with_reducible apply tl_id); first | ((with_reducible apply tl_nil)) | ((with_reducible apply u_s); exact rfl; exact rfl; exact rfl; (with_reducible apply os_callF (PV := BarV l) (k := 92) (hc := Try.call92)); exact rfl; exact rfl; exact fun D w1 hw1 => bar_ok _ _ l w1 (hr.ext hw1.ext.ext) hsb hu; rintro v H' ⟨b1, b6, bk, g, cap, gk, ck, rfl, rfl⟩; simp only [List.cons_append, List.nil_append]) | ((with_reducible apply u_q); exact rfl; exact rfl; exact rfl; exact rfl) | ((with_reducible apply u_s); exact rfl; exact rfl; exact rfl)) | ((with_reducible apply gx_id); first | ((with_reducible apply v_nil)) | ((with_reducible apply v_q); exact rfl; exact rfl; exact rfl)) | ((with_reducible apply os_id); first | ((with_reducible apply os_x); exact rfl) | ((with_reducible apply os_storeAgg); exact rfl; exact rfl; exact rfl; exact rfl; exact rfl)) | ((with_reducible apply ox_id); first | ((with_reducible apply ox_alloc); exact rfl; intro _) | ((with_reducible apply ox_boxAgg); exact rfl; intro _) | ((with_reducible apply ox_buildSlice1); exact rfl; exact rfl; exact rfl; exact rfl; exact rfl; exact rfl; intro _)) | ((with_reducible apply ai_id); first | ((with_reducible apply ai_n); exact rfl; exact rfl; exact rfl; exact rfl; (with_reducible apply os_callF (PV := ThV l) (k := 93) (hc := Try.call93)); exact rfl; exact rfl; exact fun D w1 hw1 => thermo_T _ _ _ l w1 (hr.ext hw1.ext.ext) (by omega) (by omega); rintro v H' ⟨bk2, gk2, ck2, rfl, rfl⟩; simp only [List.cons_append, List.nil_append]) | ((with_reducible apply ai_q); exact rfl; exact rfl; exact rfl; exact rfl; exact rfl) | ((with_reducible apply ai_x); exact rfl; exact rfl; exact rfl; exact rfl; exact rfl) | ((with_reducible apply ai_s0); exact rfl; exact rfl; exact rfl; exact rfl)) | ((with_reducible apply al_keep); focus (repeat (first | exact HpSub.refl _ | (apply HpSub.cons; (repeat (first | exact P0 | apply P1))) | exact HpSub.nil))) | ((with_reducible apply rd_id); first | (apply Rd.own; (repeat (first | exact P0 | apply P1)); exact rfl; done) | (apply Rd.old; (first | (with_reducible assumption) | exact c0 | exact c1 | exact c2 | exact c3 | exact c4 | exact d0 | exact d1 | exact d2 | exact d3 | exact d4); first | exact List.not_mem_nil)) | ((with_reducible apply t_id); first | ((with_reducible apply t_seq)) | (apply t_region; kernel_rfl) | ((with_reducible apply t_condF); exact rfl) | ((with_reducible apply t_ret)) | ((with_reducible apply t_skip))) | with_reducible apply q_thenN | exact P0 | ((with_reducible apply P1)) | exact Rdn.zero | apply Rdn.succ | ((with_reducible apply Norm.nil); exact rfl) | ((with_reducible apply Norm.cons); exact rfl) | ((with_reducible apply end_ret)) | exact rvs_nil | ((with_reducible apply rvs_cons)) | ((with_reducible apply rv_tmp); exact rfl) | ((with_reducible apply rv_cellAgg); exact rfl; exact rfl) | (apply t_mix (id := 7) [0, 1, 2, 3, 4, 5, 6, 7, 8, 9, 10, 11, 12, 13, 14] 3 #[false, false, false, false, false, false, false, false, false, false, false, false, false, false, false, false, false, false]; kernel_rfl; kernel_rfl; exact rfl) | ((with_reducible apply al_id); first | (apply al_done; decide +kernel) | (apply al_one 15; decide +kernel) | (apply al_one 16; decide +kernel) | (apply al_one 17; decide +kernel)) | (apply t_mix (id := 12) [0, 1, 2, 3, 4, 5, 6, 7, 8, 9, 10, 11, 13, 14, 15, 16] 5 #[false, false, false, false, false, false, false, false, false, false, false, false, false, false, false, false, false, false, false, true, false]; kernel_rfl; kernel_rfl; exact rfl) | ((with_reducible apply al_id); first | (apply al_one 12; decide +kernel) | (apply al_one 18; decide +kernel) | (apply al_one 19; decide +kernel) | (apply al_one 20; decide +kernel)) | exact Nat.le_of_ble_eq_true rfl)
    all_goals rfl

end Go.Proofs.Ytalidommelefaaa
/- Settled soundings: plain laws. -/
namespace Go.Proofs.Ytalidommelefaaa
set_option linter.unusedVariables false
set_option linter.unusedSimpArgs false

theorem idxV_lt {α : Type} {p : α → Bool} {l : List α} {n : Nat} (h : l.length = n) (hn : 0 ≤ idxV p l) : idxV p l < n := by
  unfold idxV at hn ⊢
  cases e : l.findIdx? p with
  | none => rw [e] at hn; simp at hn
  | some i =>
    have := (List.findIdx?_eq_some_iff_getElem.1 e).1
    simp only; omega
theorem idxV_no {α : Type} {p : α → Bool} {l : List α} (hn : ¬ 0 ≤ idxV p l) : ∀ x ∈ l, p x = false := by
  unfold idxV at hn
  cases e : l.findIdx? p with
  | none => exact List.findIdx?_eq_none_iff.1 e
  | some i => rw [e] at hn; simp only at hn; omega
theorem unfit_no {l : List Lv} (h : unfit l = false) : ∀ x ∈ setl l, x.plo ≤ x.phi := fun x hx => by
  have := idxV_no (of_decide_eq_false h) x hx
  unfold badL at this
  have := of_decide_eq_false this
  omega
/-- Neighbours that have nothing new to say, by their places. -/
theorem Fix.at_ : ∀ {l : List Lv}, Fix l → ∀ {i : Nat} {a b : Lv}, l[i]? = some a → l[i + 1]? = some b → SIn b.press (upI a b) ∧ SIn a.press (dnI a b)
  | _, .nil, i, a, b, h, _ => by simp at h
  | _, .one _, i, a, b, _, h => by simp at h
  | _, .cons h h' k, 0, a, b, ha, hb => by
    simp at ha hb
    subst ha hb
    exact ⟨h, h'⟩
  | _, .cons h h' k, i + 1, a, b, ha, hb => k.at_ (by simpa using ha) (by simpa using hb)
theorem Ch.at_ : ∀ {l : List Lv}, Ch l → ∀ {i : Nat} {a b : Lv}, l[i]? = some a → l[i + 1]? = some b → GapOk (b.h - a.h) (gapT a b) ∧ 0 ≤ a.plo ∧ 0 ≤ a.phi ∧ 0 ≤ b.plo ∧ 0 ≤ b.phi
  | _, .nil, i, a, b, h, _ => by simp at h
  | _, .one _, i, a, b, _, h => by simp at h
  | _, .cons h g k, 0, a, b, ha, hb => by
    simp at ha hb
    subst ha hb
    have := k.head
    exact ⟨g, h.1, h.2, this.1, this.2⟩
  | _, .cons h g k, i + 1, a, b, ha, hb => k.at_ (by simpa using ha) (by simpa using hb)
/-- What a level says of a higher one has no greater pressures. -/
theorem rise_hi {p t : Int × Int} {c : Int} (hg : GapOk c t) (h2 : 0 ≤ p.2) : (riseV p c t).2 ≤ p.2 := by
  obtain ⟨c0, c1, t0, t1, t2⟩ := hg
  unfold riseV
  refine Int.lt_add_one_iff.1 (Int.ediv_lt_of_lt_mul (by omega) ?_)
  have h : 0 ≤ p.2 * (341632 * c) := Int.mul_nonneg h2 (by omega)
  have e1 : (p.2 + 1) * (1000000 * t.2 + 341632 * c) = p.2 * (1000000 * t.2) + p.2 * (341632 * c) + (1000000 * t.2 + 341632 * c) := by
    rw [Int.add_mul, Int.mul_add, Int.one_mul]
  omega
/-- And of a lower one no lesser ones. -/
theorem sink_lo {p t : Int × Int} {c : Int} (hg : GapOk c t) (h1 : 0 ≤ p.1) : p.1 ≤ (sinkV p c t).1 := by
  obtain ⟨c0, c1, t0, t1, t2⟩ := hg
  unfold sinkV
  refine Int.le_ediv_of_mul_le (by omega) ?_
  exact Int.mul_le_mul_of_nonneg_left (by omega) h1
/-- A settled sounding that fits is valid. -/
theorem Snd.settled {l : List Lv} (hs : Snd l) (hu : unfit l = false) : Snd (setl l) := by
  obtain ⟨hc, hf, ht⟩ := hs.settles
  have hl := setl_len l
  have n2 := hs.n2
  have n16 := hs.n16
  refine ⟨by omega, by omega, fun x hx => ?_, fun {i x y} hx hy => ?_⟩
  · obtain ⟨i, hi, rfl⟩ := List.getElem_of_mem hx
    have hx' : (setl l)[i]? = some (setl l)[i] := List.getElem?_eq_getElem hi
    have hy : l[i]? = some l[i] := List.getElem?_eq_getElem (by omega)
    have k := ht.get hx' hy
    have o := hs.ok _ (List.mem_of_getElem? hy)
    have f := unfit_no hu _ hx
    obtain ⟨k1, k2, k3, k4, k5⟩ := k
    simp only [Lv.press] at k4 k5
    omega
  · have hi : i + 1 < l.length := by
      have := (List.getElem?_eq_some_iff.1 hy).1
      omega
    have hx' : l[i]? = some l[i] := List.getElem?_eq_getElem (by omega)
    have hy' : l[i + 1]? = some l[i + 1] := List.getElem?_eq_getElem hi
    have k1 := ht.get hx hx'
    have k2 := ht.get hy hy'
    have := hs.rise hx' hy'
    omega
theorem unfit_setl {l : List Lv} (hs : Snd l) (hu : unfit l = false) : unfit (setl l) = false := by
  unfold unfit at hu ⊢
  rw [setl_setl hs.ch]
  exact hu
theorem settled_at {l : List Lv} (hs : Snd l) {i : Nat} {x y : Lv} (hx : (setl l)[i]? = some x) (hy : l[i]? = some y) : x.h = y.h ∧ x.tlo = y.tlo ∧ x.thi = y.thi ∧ y.plo ≤ x.plo ∧ x.phi ≤ y.phi := by
  obtain ⟨hc, hf, ht⟩ := hs.settles
  obtain ⟨k1, k2, k3, k4, k5⟩ := ht.get hx hy
  exact ⟨k1, k2, k3, k4, k5⟩
theorem settled_falls {l : List Lv} (hs : Snd l) {i : Nat} {a b : Lv} (ha : (setl l)[i]? = some a) (hb : (setl l)[i + 1]? = some b) : b.plo ≤ a.plo ∧ b.phi ≤ a.phi := by
  obtain ⟨hc, hf, ht⟩ := hs.settles
  obtain ⟨g, p1, p2, p3, p4⟩ := hc.at_ ha hb
  obtain ⟨f1, f2⟩ := hf.at_ ha hb
  have h1 := rise_hi g (p := a.press) p2
  have h2 := sink_lo g (p := b.press) p3
  exact ⟨Int.le_trans h2 f2.1, Int.le_trans f1.2 h1⟩
end Go.Proofs.Ytalidommelefaaa
