/- A part of the proof: rules for walks, and contracts of functions (9). -/
import Derived.Test.YtcjkndjjbjoehaaGreatX3A
import Derived.Test.YtcjkndjjbjoehaaGreatX3C
set_option linter.unusedVariables false
set_option linter.unusedSimpArgs false
set_option maxRecDepth 100000
set_option maxHeartbeats 2000000
namespace Go.Proofs.YtcjkndjjbjoehaaGreat
theorem goK0 {G A1 A2 A3 A4 A5 A6 A7 A8 A9 A10 A11 A12 A13 A14 A15 A16 : Prop} (p : GoP A1 A2 A3 A4 A5 A6 A7 A8 A9 A10 A11 A12 A13 A14 A15 A16) (h : GoL A1 → GoL A2 → GoL A3 → GoL A4 → GoL A5 → GoL A6 → GoL A7 → GoL A8 → GoL A9 → GoL A10 → GoL A11 → GoL A12 → GoL A13 → GoL A14 → GoL A15 → GoL A16 → GoM → G := by intro m1 m2 m3 m4 m5 m6 m7 m8 m9 m10 m11 m12 m13 m14 m15 m16 _; (repeat' (first | ((with_reducible apply oq_id); first | ((with_reducible apply oc_id); first | ((with_reducible apply oq_call (k := 161) (hc := Tryz.call161)); exact rfl; exact rfl; exact fun D w1 hw1 => SX w1) | ((with_reducible apply oq_call (k := 161) (hc := Tryz.call161)); exact rfl; exact rfl; exact fun D w1 hw1 => SY w1) | ((with_reducible apply oq_call (k := 160) (hc := Tryz.call160)); exact rfl; exact rfl; exact fun D w1 hw1 => MX w1) | ((with_reducible apply oq_call (k := 162) (hc := Tryz.call162)); exact rfl; exact rfl; exact fun D w1 hw1 => DX w1)) | ((with_reducible apply ob_id); first | (focus ((with_reducible apply oq_neqB); exact rfl; exact rfl)) | (focus ((with_reducible apply (oq_quoI (k := ((x / 60 : Nat) : Int)))); exact rfl; exact rfl; exact ⟨tdiv_nat rfl rfl, by omega, by omega, by omega⟩)) | (focus ((with_reducible apply (oq_remI (k := ((x % 60 : Nat) : Int)))); exact rfl; exact rfl; exact tmod_natO rfl rfl; omega)) | (focus ((with_reducible apply (oq_quoI (k := ((4398046511104 / (x / 60) : Nat) : Int)))); exact rfl; exact rfl; exact ⟨tdiv_nat rfl rfl, by omega, by omega, by omega⟩)) | (focus ((with_reducible apply (oq_mulE (k := ((hy2 : Nat) : Int)))); exact rfl; exact rfl; exact em; (refine ⟨?_, ?_⟩ <;> omega))) | (focus ((with_reducible apply (oq_addE (k := ((hy2 + v : Nat) : Int)))); exact rfl; exact rfl; omega)) | (focus ((with_reducible apply (oq_quoI (k := (q : Nat)))); exact rfl; exact rfl; exact ⟨(tdiv_nat rfl rfl).trans (by rw [hq]), by omega, by omega, by omega⟩)) | (focus ((with_reducible apply (oq_quoI (k := ((b / 2 : Nat) : Int)))); exact rfl; exact rfl; exact ⟨tdiv_nat rfl rfl, by omega, by omega, by omega⟩)) | (focus ((with_reducible apply (oq_remI (k := ((q % 2 : Nat) : Int)))); exact rfl; exact rfl; exact tmod_natO rfl rfl; omega)) | (focus ((with_reducible apply (oq_mulE (k := ((2 * v : Nat) : Int)))); exact rfl; exact rfl; omega; (refine ⟨?_, ?_⟩ <;> omega))) | (focus ((with_reducible apply (oq_mulE (k := ((2 * r : Nat) : Int)))); exact rfl; exact rfl; omega; (refine ⟨?_, ?_⟩ <;> omega))) | (focus ((with_reducible apply (oq_addE (k := ((2 * r + low : Nat) : Int)))); exact rfl; exact rfl; omega)) | ((with_reducible apply oq_gtrT); exact rfl; exact rfl; omega) | ((with_reducible apply oq_gtrF); exact rfl; exact rfl; omega) | ((with_reducible apply oq_lssT); exact rfl; exact rfl; omega) | ((with_reducible apply oq_lssF); exact rfl; exact rfl; omega) | ((with_reducible apply oq_eqlT); exact rfl; exact rfl; omega) | ((with_reducible apply oq_eqlF); exact rfl; exact rfl; omega) | (focus ((with_reducible apply (oq_subE (k := ((r1 - 60 : Nat) : Int)))); exact rfl; exact rfl; omega)) | (focus ((with_reducible apply (oq_addE (k := ((v1 + 1 : Nat) : Int)))); exact rfl; exact rfl; omega)) | ((with_reducible apply oq_geqT); exact rfl; exact rfl; omega) | ((with_reducible apply oq_geqF); exact rfl; exact rfl; omega)) | (focus ((with_reducible apply oq_convU); exact rfl; exact rfl; exact rfl; (refine ⟨?_, ?_⟩ <;> omega))) | ((with_reducible apply (oq_min2E (k := ((hy2 + v : Nat) : Int)))); exact rfl; exact rfl; omega) | (apply oq_fn; exact rfl; first | exact trivial | (refine ⟨?_, ?_⟩ <;> omega) | (refine ⟨?_, ?_, ?_⟩ <;> omega) | omega | skip) | ((with_reducible apply oq_load); exact rfl; exact rfl) | ((with_reducible apply oq_loadAgg); exact rfl; exact rfl) | ((with_reducible apply oq_build); exact rfl; exact rfl; exact rfl)) | ((with_reducible apply tl_id); first | ((with_reducible apply tl_nil)) | ((with_reducible apply u_q); exact rfl; exact rfl; exact rfl; exact rfl) | ((with_reducible apply u_s0); exact rfl; exact rfl) | ((with_reducible apply u_s); exact rfl; exact rfl; exact rfl) | ((with_reducible apply u_skip); exact rfl; exact rfl; exact rfl)) | ((with_reducible apply gx_id); first | ((with_reducible apply v_nil)) | ((with_reducible apply v_q); exact rfl; exact rfl; exact rfl)) | ((with_reducible apply os_id); first | ((with_reducible apply os_x); exact rfl) | ((with_reducible apply os_store); exact rfl; exact rfl; exact rfl; exact rfl) | ((with_reducible apply os_storeAgg); exact rfl; exact rfl; exact rfl; exact rfl; exact rfl)) | ((with_reducible apply ox_id); first | ((with_reducible apply ox_alloc); exact rfl; intro _)) | ((with_reducible apply rd_id); first | (apply Rd.own; (repeat (first | exact P0 | apply P1)); exact rfl; done)) | ((with_reducible apply t_id); first | (apply t_mix (id := 1) [0, 1, 2, 3, 4, 5, 6, 7] 0 #[false, false, false, false, false, false, false, false]; kernel_rfl; kernel_rfl; exact rfl) | ((with_reducible apply t_seq)) | (apply t_region; kernel_rfl) | ((with_reducible apply t_condT); exact rfl) | ((with_reducible apply t_condF); exact rfl) | ((with_reducible apply t_ret)) | ((with_reducible apply t_skip)) | ((with_reducible apply t_exit)) | ((with_reducible apply t_block))) | with_reducible apply q_thenN | with_reducible apply q_blockN | with_reducible apply q_thenE | ((with_reducible apply q_blockE); exact rfl) | exact P0 | ((with_reducible apply P1)) | exact Rdn.zero | apply Rdn.succ | ((with_reducible apply Norm.nil); exact rfl) | ((with_reducible apply Norm.cons); exact rfl) | ((with_reducible apply end_ret)) | exact rvs_nil | ((with_reducible apply rvs_cons)) | ((with_reducible apply rv_tmp); exact rfl) | ((with_reducible apply rv_cellAgg); exact rfl; exact rfl) | ((with_reducible apply al_id); first | (apply al_done; decide +kernel)) | exact Nat.le_of_ble_eq_true rfl)); (try focus (repeat (rename_i x; first | exact goD x m1.p | revert x))); (try focus (repeat (rename_i x; first | exact goD x m2.p | revert x))); (try focus (repeat (rename_i x; first | exact goD x m3.p | revert x))); (try focus (repeat (rename_i x; first | exact goD x m4.p | revert x))); (try focus (repeat (rename_i x; first | exact goD x m5.p | revert x))); (try focus (repeat (rename_i x; first | exact goD x m6.p | revert x))); (try focus (repeat (rename_i x; first | exact goD x m7.p | revert x))); (try focus (repeat (rename_i x; first | exact goD x m8.p | revert x))); (try focus (repeat (rename_i x; first | exact goD x m9.p | revert x))); (try focus (repeat (rename_i x; first | exact goD x m10.p | revert x))); (try focus (repeat (rename_i x; first | exact goD x m11.p | revert x))); (try focus (repeat (rename_i x; first | exact goD x m12.p | revert x))); (try focus (repeat (rename_i x; first | exact goD x m13.p | revert x))); (try focus (repeat (rename_i x; first | exact goD x m14.p | revert x))); (try focus (repeat (rename_i x; first | exact goD x m15.p | revert x))); (try focus (repeat (rename_i x; first | exact goD x m16.p | revert x)))) (e : GoTs A1 A2 A3 A4 A5 A6 A7 A8 A9 A10 A11 A12 A13 A14 A15 A16 := by constructor <;> first | (with_reducible exact GoT.t) | exact GoT.u) : G := p.run h
open Go.RowKit
attribute [local irreducible] OQ OS OX Rd T TL GX GL AL AI RV wpG SAny Calls
theorem tdiv_nat {m n : Int} {a b : Nat} (e : m = (a : Int)) (e2 : n = (b : Int)) : m.tdiv n = ((a / b : Nat) : Int) := by rw [e, e2]; rfl
theorem tmod_natO {m n : Int} {a b : Nat} (e : m = (a : Int)) (e2 : n = (b : Int)) : m.tmod n = ((a % b : Nat) : Int) := by rw [e, e2, Int.ofNat_tmod]
/-- A product over sixty, rounded down and up. -/
def qf (m : Nat) : Nat := m / 60
def qc (m : Nat) : Nat := if m % 60 = 0 then m / 60 else m / 60 + 1
theorem qf_bound {m : Nat} (h : m ≤ 10000000000000) : qf m ≤ 166666666666 ∧ qf m ≤ qc m ∧ qc m ≤ 166666666667 := by
  unfold qf qc
  split <;> omega
theorem share60_calls (x y : Nat) (hx : x ≤ 10000000) (hy : y ≤ 1000000) (w : World) : Calls Tryz.prog 141 #[.int .i64 (x : Nat), .int .i64 (y : Nat), .int .i64 60] w fun e w' => e = .returned (.agg #[.int .i64 (qf (x * y) : Nat), .int .i64 (qc (x * y) : Nat)]) ∧ Ext w w' := by
  have hm : x * y ≤ 10000000000000 := Nat.le_trans (Nat.mul_le_mul hx hy) (by decide)
  have SX := fun w1 => size_calls (x : Int) (by omega) (by omega) w1
  have SY := fun w1 => size_calls (y : Int) (by omega) (by omega) w1
  rw [Int.max_eq_left (by omega)] at SX SY
  have MX := fun w1 => mul64_calls (x : Int) (y : Int) (by omega) (by omega) (by omega) (by omega) w1
  have em : (x : Int) * (y : Int) = ((x * y : Nat) : Int) := by simp
  rw [em] at MX
  have qb := qf_bound hm
  have hqc : qc (x * y) = if (x * y) % 60 = 0 then qf (x * y) else qf (x * y) + 1 := rfl
  have DX := fun w1 => div64_calls ((x * y : Nat) : Int) 60 (by omega) (by omega) (by omega) w1
  rw [show ((x * y : Nat) : Int).tdiv 60 = ((qf (x * y) : Nat) : Int) from tdiv_nat rfl rfl, show ((x * y : Nat) : Int).tmod 60 = ((x * y % 60 : Nat) : Int) from tmod_natO rfl rfl] at DX
  clear em
  generalize qf (x * y) = a at *
  generalize qc (x * y) = b at *
  have hr : x * y % 60 < 60 := Nat.mod_lt _ (by omega)
  generalize x * y % 60 = r at *
  generalize x * y = m at *
  by_cases h0 : r = 0
  · rw [if_pos h0] at hqc
    subst hqc
    refine enterQ (c := cx w 64) Tryz.func141 rfl rfl rfl rfl ?_
    ((all_goals refine goK0 ?_); (all_goals constructor); (any_goals exact trivial); all_goals intros)
    all_goals first | rfl | (exfalso; simp_all; omega)
  · rw [if_neg h0] at hqc
    subst hqc
    refine enterQ (c := cx w 64) Tryz.func141 rfl rfl rfl rfl ?_
    ((all_goals refine goK0 ?_); (all_goals constructor); (any_goals exact trivial); all_goals intros)
    all_goals first | rfl | (exfalso; simp_all; omega)
theorem pow_half {b : Nat} (h : ∃ k, k ≤ 40 ∧ b = 2 ^ k) : (b = 1 ∧ b / 2 = 0) ∨ (∃ k, k ≤ 40 ∧ b / 2 = 2 ^ k) ∧ b / 2 * 2 = b := by
  obtain ⟨k, hk, rfl⟩ := h
  cases k with
  | zero => exact .inl ⟨rfl, rfl⟩
  | succ k =>
    have e : 2 ^ (k + 1) / 2 = 2 ^ k := by rw [Nat.pow_succ]; omega
    rw [e]
    exact .inr ⟨⟨k, by omega, rfl⟩, (Nat.pow_succ ..).symm⟩
theorem pow_pos' {b : Nat} (h : ∃ k, k ≤ 40 ∧ b = 2 ^ k) : 0 < b ∧ b ≤ 1099511627776 := by
  obtain ⟨k, hk, rfl⟩ := h
  exact ⟨Nat.pow_pos (by decide), Nat.le_trans (Nat.pow_le_pow_right (by decide) hk) (by decide)⟩
theorem refQuo_calls (x y : Nat) (hx : x ≤ 10000000) (hy : y ≤ 1000000) (w : World) : Calls Tryz.prog 171 #[.int .i64 (x : Nat), .int .i64 (y : Nat), .int .i64 60] w fun e w' => e = .returned (.tuple #[.int .i64 (qf (x * y) : Nat), .bool (decide (x * y % 60 = 0))]) ∧ Ext w w' := by
  have hm : x * y ≤ 10000000000000 := Nat.le_trans (Nat.mul_le_mul hx hy) (by decide)
  have hlow : x % 60 < 60 := Nat.mod_lt _ (by omega)
  have hhigh : x / 60 ≤ 166667 := by omega
  have hcap : 0 < x / 60 → 1000000 ≤ 4398046511104 / (x / 60) := fun h => by
    rw [Nat.le_div_iff_mul_le h]; omega
  have hcap2 : 4398046511104 / (x / 60) ≤ 4398046511104 := Nat.div_le_self _ _
  have hxy : x * y = 60 * (x / 60 * y) + x % 60 * y := by
    have e := Nat.div_add_mod x 60
    have e2 : x * y = (60 * (x / 60) + x % 60) * y := by rw [e]
    rw [e2, Nat.add_mul, Nat.mul_assoc]
  have hly : x % 60 * y ≤ 60 * 1000000 := Nat.mul_le_mul (by omega) hy
  refine enterQ (c := cx w 59) Tryz.func171 rfl rfl rfl rfl ?_
  refine t_cut (ι := Unit) (fun _ => [(0, .int .i64 ((x : Nat) : Int)), (1, .int .i64 ((y : Nat) : Int)), (2, .int .i64 60)]) (fun _ => []) (fun _ => True) ?_ ?_
  · repeat' (first | ((with_reducible apply oq_id); first | (apply oq_fn; exact rfl; first | exact trivial | (refine ⟨?_, ?_⟩ <;> omega) | (refine ⟨?_, ?_, ?_⟩ <;> omega) | omega | skip)) | ((with_reducible apply tl_id); first | ((with_reducible apply tl_nil)) | ((with_reducible apply u_q); exact rfl; exact rfl; exact rfl; exact rfl)) | ((with_reducible apply t_id); first | (apply t_region; kernel_rfl)))
    all_goals exact ⟨rfl, (), trivial, by (repeat (first | exact FrSub.nil | (apply FrSub.cons; exact rfl))), by (repeat (first | exact HpSub.refl _ | (apply HpSub.consE; (repeat (first | exact P0 | apply P1)); exact rfl) | exact HpSub.nil))⟩
  rintro ⟨⟩ -
  try dsimp only
  refine t_cut (ι := Unit) (fun _ => [(1, .int .i64 ((y : Nat) : Int)), (2, .int .i64 60), (8, .int .i64 ((x / 60 : Nat) : Int)), (9, .int .i64 ((x % 60 : Nat) : Int))]) (fun _ => []) (fun _ => True) ?_ ?_
  · ((all_goals refine goK0 ?_); (all_goals constructor); (any_goals exact trivial); all_goals intros)
    all_goals exact ⟨rfl, (), trivial, by (repeat (first | exact FrSub.nil | (apply FrSub.cons; exact rfl))), by (repeat (first | exact HpSub.refl _ | (apply HpSub.consE; (repeat (first | exact P0 | apply P1)); exact rfl) | exact HpSub.nil))⟩
  rintro ⟨⟩ -
  try dsimp only
  refine t_cut (ι := Unit) (fun _ => [(1, .int .i64 ((y : Nat) : Int)), (2, .int .i64 60), (8, .int .i64 ((x / 60 : Nat) : Int)), (9, .int .i64 ((x % 60 : Nat) : Int))]) (fun _ => []) (fun _ => True) ?_ ?_
  · by_cases hpos : 0 < x / 60
    · have hc1 := hcap hpos
      ((all_goals refine goK0 ?_); (all_goals constructor); (any_goals exact trivial); all_goals intros)
      all_goals exact ⟨rfl, (), trivial, by (repeat (first | exact FrSub.nil | (apply FrSub.cons; exact rfl))), by (repeat (first | exact HpSub.refl _ | (apply HpSub.consE; (repeat (first | exact P0 | apply P1)); exact rfl) | exact HpSub.nil))⟩
    · ((all_goals refine goK0 ?_); (all_goals constructor); (any_goals exact trivial); all_goals intros)
      all_goals exact ⟨rfl, (), trivial, by (repeat (first | exact FrSub.nil | (apply FrSub.cons; exact rfl))), by (repeat (first | exact HpSub.refl _ | (apply HpSub.consE; (repeat (first | exact P0 | apply P1)); exact rfl) | exact HpSub.nil))⟩
  rintro ⟨⟩ -
  try dsimp only
  ((all_goals refine goK0 ?_); (all_goals constructor); (any_goals exact trivial); all_goals intros)
  apply t_loopK (ι := Nat × Nat × Nat) [1, 2, 8, 9] (fun z => [(12, .int .i64 ((z.1 : Nat) : Int)), (10, .int .i64 ((z.2.1 : Nat) : Int)), (11, .int .i64 ((z.2.2 : Nat) : Int))]) (fun z => []) (fun z => z.2.2 < 60 ∧ z.2.1 ≤ 10000000000000 ∧ ((z.1 = 0 ∧ z.2.1 * 60 + z.2.2 = x % 60 * y) ∨ ((∃ k, k ≤ 40 ∧ z.1 = 2 ^ k) ∧ z.2.1 * 60 + z.2.2 = x % 60 * (y / (z.1 * 2))))) (fun z => z.1) ((1099511627776, 0, 0))
  (repeat (first | exact KeepF.nil | (apply KeepF.cons; exact rfl) | apply KeepF.skip))
  (repeat (first | exact FrSub.nil | (apply FrSub.cons; exact rfl)))
  (repeat (first | exact HpSub.refl _ | (apply HpSub.consE; (repeat (first | exact P0 | apply P1)); exact rfl) | exact HpSub.nil))
  · refine ⟨by simp only; omega, by simp only; omega, .inr ⟨⟨40, Nat.le_refl _, by decide⟩, ?_⟩⟩
    rw [Nat.div_eq_of_lt (by omega)]; rfl
  rintro ⟨b, v, r⟩ ⟨hr, hvv, hb⟩
  simp only at hr hvv hb
  try simp only [List.cons_append, List.nil_append]
  rcases hb with ⟨rfl, hE⟩ | ⟨hk, hE⟩
  · have hv : x / 60 * y + v = qf (x * y) := by unfold qf; omega
    have hr2 : x * y % 60 = r := by omega
    rw [hr2, ← hv]
    have hv2 : x / 60 * y ≤ 166667 * 1000000 := Nat.mul_le_mul hhigh hy
    have em : ((x / 60 : Nat) : Int) * (y : Int) = ((x / 60 * y : Nat) : Int) := by simp
    generalize x / 60 * y = hy2 at *
    by_cases hr0 : r = 0
    · ((all_goals refine goK0 ?_); (all_goals constructor); (any_goals exact trivial); all_goals intros)
      all_goals (rw [decide_eq_true hr0]; rfl)
    · ((all_goals refine goK0 ?_); (all_goals constructor); (any_goals exact trivial); all_goals intros)
      all_goals (rw [decide_eq_false hr0]; rfl)
  · have hbp := pow_pos' hk
    have hh := pow_half hk
    have hd2 : y / (b * 2) = y / b / 2 := (Nat.div_div_eq_div_mul ..).symm
    have hyb : y / b ≤ 1000000 := Nat.le_trans (Nat.div_le_self _ _) hy
    rw [hd2] at hE
    obtain ⟨q, hq⟩ : ∃ q, y / b = q := ⟨_, rfl⟩
    obtain ⟨low, hlw⟩ : ∃ q, x % 60 = q := ⟨_, rfl⟩
    rw [hq] at hE hyb
    rw [hlw] at hE
    obtain ⟨par, hpar⟩ : ∃ p, q % 2 = p := ⟨_, rfl⟩
    have hlq : low * q = 2 * (low * (q / 2)) + low * par := by
      have : q = 2 * (q / 2) + par := by omega
      rw [← hpar]
      calc low * q = low * (2 * (q / 2) + q % 2) := by rw [Nat.div_add_mod]
        _ = 2 * (low * (q / 2)) + low * (q % 2) := by rw [Nat.mul_add]; congr 1; rw [Nat.mul_left_comm]
    have hlq2 : low * q ≤ 60 * 1000000 := Nat.mul_le_mul (by omega) hyb
    have hnext : (b / 2 = 0 ∧ low * q = x % 60 * y) ∨ ((∃ k, k ≤ 40 ∧ b / 2 = 2 ^ k) ∧ low * q = x % 60 * (y / (b / 2 * 2))) := by
      rcases hh with ⟨h1, h2⟩ | ⟨h1, h2⟩
      · left
        subst h1
        rw [Nat.div_one] at hq
        exact ⟨h2, by rw [hlw, hq]⟩
      · right
        exact ⟨h1, by rw [h2, hlw, hq]⟩
    rcases (by omega : par = 0 ∨ par = 1) with hp0 | hp0
    · subst hp0
      ((all_goals refine goK0 ?_); (all_goals constructor); (any_goals exact trivial); all_goals intros)
      apply t_loopK (ι := Nat × Nat) [1, 2, 8, 9, 12] (fun z => [(10, .int .i64 ((z.1 : Nat) : Int)), (11, .int .i64 ((z.2 : Nat) : Int))]) (fun z => []) (fun z => z.1 * 60 + z.2 = (2 * v) * 60 + (2 * r) ∧ z.2 < 200) (fun z => z.2) ((2 * v, 2 * r))
      (repeat (first | exact KeepF.nil | (apply KeepF.cons; exact rfl) | apply KeepF.skip))
      (repeat (first | exact FrSub.nil | (apply FrSub.cons; exact rfl)))
      (repeat (first | exact HpSub.refl _ | (apply HpSub.consE; (repeat (first | exact P0 | apply P1)); exact rfl) | exact HpSub.nil))
      · exact ⟨by first | omega | (simp only; done) | (simp only; omega), by first | omega | (simp only; omega)⟩
      rintro ⟨v1, r1⟩ ⟨h1, h2⟩
      simp only at h1 h2
      try simp only [List.cons_append, List.nil_append]
      by_cases hge : 60 ≤ r1
      · ((all_goals refine goK0 ?_); (all_goals constructor); (any_goals exact trivial); all_goals intros)
        all_goals (refine ⟨(v1 + 1, r1 - 60), ⟨by simp only; omega, by simp only; omega⟩, (by simp only; omega), ?_, ?_⟩ <;> (try simp only [List.cons_append, List.nil_append]) <;> (repeat' (first | exact FrSub.nil | (apply FrSub.cons; exact rfl) | exact HpSub.refl _)))
      · ((all_goals refine goK0 ?_); (all_goals constructor); (any_goals exact trivial); all_goals intros)
        all_goals (refine ⟨(b / 2, v1, r1), ⟨by simp only; omega, by simp only; omega, by simp only; (rcases hnext with ⟨n1, n2⟩ | ⟨n1, n2⟩; (exact .inl ⟨n1, by omega⟩); (exact .inr ⟨n1, by omega⟩))⟩, (by simp only; omega), ?_, ?_⟩ <;> (try simp only [List.cons_append, List.nil_append]) <;> (repeat' (first | exact FrSub.nil | (apply FrSub.cons; exact rfl) | exact HpSub.refl _)))
    · subst hp0
      ((all_goals refine goK0 ?_); (all_goals constructor); (any_goals exact trivial); all_goals intros)
      apply t_loopK (ι := Nat × Nat) [1, 2, 8, 9, 12] (fun z => [(10, .int .i64 ((z.1 : Nat) : Int)), (11, .int .i64 ((z.2 : Nat) : Int))]) (fun z => []) (fun z => z.1 * 60 + z.2 = (2 * v) * 60 + (2 * r + low) ∧ z.2 < 200) (fun z => z.2) ((2 * v, 2 * r + low))
      (repeat (first | exact KeepF.nil | (apply KeepF.cons; exact rfl) | apply KeepF.skip))
      (repeat (first | exact FrSub.nil | (apply FrSub.cons; exact rfl)))
      (repeat (first | exact HpSub.refl _ | (apply HpSub.consE; (repeat (first | exact P0 | apply P1)); exact rfl) | exact HpSub.nil))
      · exact ⟨by first | omega | (simp only; done) | (simp only; omega), by first | omega | (simp only; omega)⟩
      rintro ⟨v1, r1⟩ ⟨h1, h2⟩
      simp only at h1 h2
      try simp only [List.cons_append, List.nil_append]
      by_cases hge : 60 ≤ r1
      · ((all_goals refine goK0 ?_); (all_goals constructor); (any_goals exact trivial); all_goals intros)
        all_goals (refine ⟨(v1 + 1, r1 - 60), ⟨by simp only; omega, by simp only; omega⟩, (by simp only; omega), ?_, ?_⟩ <;> (try simp only [List.cons_append, List.nil_append]) <;> (repeat' (first | exact FrSub.nil | (apply FrSub.cons; exact rfl) | exact HpSub.refl _)))
      · ((all_goals refine goK0 ?_); (all_goals constructor); (any_goals exact trivial); all_goals intros)
        all_goals (refine ⟨(b / 2, v1, r1), ⟨by simp only; omega, by simp only; omega, by simp only; (rcases hnext with ⟨n1, n2⟩ | ⟨n1, n2⟩; (exact .inl ⟨n1, by omega⟩); (exact .inr ⟨n1, by omega⟩))⟩, (by simp only; omega), ?_, ?_⟩ <;> (try simp only [List.cons_append, List.nil_append]) <;> (repeat' (first | exact FrSub.nil | (apply FrSub.cons; exact rfl) | exact HpSub.refl _)))
end Go.Proofs.YtcjkndjjbjoehaaGreat

