/- How fast a wind blows along a way: n divided by the root of q, rounded down. -/
import Derived.Test.YtalidommelefaaaAlg
namespace Go.Proofs.Ytalidommelefaaa
open Go.RowKit
attribute [local irreducible] OQ OS OX Rd T TL GX GL AL AI RV wpG SAny Calls
set_option maxRecDepth 100000
set_option maxHeartbeats 2000000
set_option linter.unusedVariables false
set_option linter.unusedSimpArgs false

def ShP (n q k : Int) : Prop := (0 ≤ n ∧ (k ≤ 0 ∨ k * k * q ≤ n * n)) ∨ (n < 0 ∧ k < 0 ∧ n * n ≤ k * k * q)
theorem sq_mono {j k : Int} (h0 : 0 ≤ j) (h : j ≤ k) : j * j ≤ k * k := Int.mul_le_mul h h h0 (by omega)
theorem sq_neg (k : Int) : k * k = (-k) * (-k) := by rw [Int.neg_mul_neg]
theorem ShP.mono {n q j k : Int} (hq : 0 < q) (h : ShP n q k) (hj : j ≤ k) : ShP n q j := by
  rcases h with ⟨h0, h1⟩ | ⟨h0, h1, h2⟩
  · refine .inl ⟨h0, ?_⟩
    by_cases hj0 : j ≤ 0
    · exact .inl hj0
    · rcases h1 with h1 | h1
      · omega
      · exact .inr (Int.le_trans (Int.mul_le_mul_of_nonneg_right (sq_mono (by omega) hj) (by omega)) h1)
  · refine .inr ⟨h0, by omega, Int.le_trans h2 (Int.mul_le_mul_of_nonneg_right ?_ (by omega))⟩
    rw [sq_neg j, sq_neg k]
    exact sq_mono (by omega) (by omega)
/-- r is n divided by the root of q, rounded down. -/
def IsSh (n q r : Int) : Prop := ShP n q r ∧ ¬ ShP n q (r + 1)
theorem IsSh.uniq {n q r s : Int} (hq : 0 < q) (h : IsSh n q r) (k : IsSh n q s) : r = s := by
  rcases Int.lt_trichotomy r s with h1 | h1 | h1
  · exact absurd (k.1.mono hq (by omega)) h.2
  · exact h1
  · exact absurd (h.1.mono hq (by omega)) k.2
noncomputable def shV (n q : Int) : Int := open Classical in if h : ∃ r, IsSh n q r then Classical.choose h else 0
theorem IsSh.val {n q r : Int} (hq : 0 < q) (h : IsSh n q r) : shV n q = r := by
  have hx : ∃ r, IsSh n q r := ⟨r, h⟩
  unfold shV
  rw [dif_pos hx]
  exact (Classical.choose_spec hx).uniq hq h
theorem part_facts {n q k : Int} (hq : 0 < q) (h : IsR ((n * n).tdiv q) k) : k * k * q ≤ n * n ∧ n * n < (k + 1) * (k + 1) * q := by
  have hn : 0 ≤ n * n := by
    rcases Int.le_total 0 n with h | h
    · exact Int.mul_nonneg h h
    · rw [sq_neg]; exact Int.mul_nonneg (by omega) (by omega)
  rw [Int.tdiv_eq_ediv_of_nonneg hn] at h
  have h1 := Int.ediv_mul_le (n * n) (Int.ne_of_gt hq)
  have h2 := Int.lt_ediv_add_one_mul_self (n * n) hq
  refine ⟨Int.le_trans (Int.mul_le_mul_of_nonneg_right h.2.1 (by omega)) h1, Int.lt_of_lt_of_le h2 (Int.mul_le_mul_of_nonneg_right ?_ (by omega))⟩
  have := h.2.2
  omega
theorem isSh_pos {n q k : Int} (hn : 0 ≤ n) (h0 : 0 ≤ k) (h1 : k * k * q ≤ n * n) (h2 : n * n < (k + 1) * (k + 1) * q) : IsSh n q k := by
  refine ⟨.inl ⟨hn, .inr h1⟩, ?_⟩
  rintro (⟨_, h | h⟩ | ⟨h, _⟩) <;> omega
theorem isSh_neg1 {n q k : Int} (hn : n < 0) (h0 : 0 ≤ k) (h1 : k * k * q < n * n) (h2 : n * n < (k + 1) * (k + 1) * q) : IsSh n q (-(k + 1)) := by
  refine ⟨.inr ⟨hn, by omega, ?_⟩, ?_⟩
  · rw [← sq_neg]; omega
  · rintro (⟨h, _⟩ | ⟨_, h, h3⟩)
    · omega
    · rw [show -(k + 1) + 1 = -k by omega, ← sq_neg] at h3
      omega
theorem isSh_neg0 {n q k : Int} (hq : 0 < q) (hn : n < 0) (h0 : 0 ≤ k) (h1 : ¬ k * k * q < n * n) (h2 : k * k * q ≤ n * n) : IsSh n q (-k) := by
  have hnn : 0 < n * n := by rw [sq_neg]; exact Int.mul_pos (by omega) (by omega)
  have hk : 0 < k := by
    rcases Int.lt_or_le 0 k with h | h
    · exact h
    · obtain rfl : k = 0 := by omega
      simp at h1; omega
  refine ⟨.inr ⟨hn, by omega, ?_⟩, ?_⟩
  · rw [← sq_neg]; omega
  · rintro (⟨h, _⟩ | ⟨_, h, h3⟩)
    · omega
    · rw [show -k + 1 = -(k - 1) by omega, ← sq_neg] at h3
      have h4 : (k - 1) * (k - 1) < k * k := by
        rw [Int.sub_mul, Int.mul_sub]; omega
      have := Int.mul_lt_mul_of_pos_right h4 hq
      omega


theorem inr_of {x : Int} (m : Int) (hm : m ≤ 9223372036854775807) (h0 : -m ≤ x) (h1 : x ≤ m) : InR x := ⟨by omega, by omega⟩
theorem mul_abs {x y a b : Int} (hx : -a ≤ x ∧ x ≤ a) (hy : -b ≤ y ∧ y ≤ b) : -(a * b) ≤ x * y ∧ x * y ≤ a * b := by
  have key : ∀ {x y : Int}, 0 ≤ x → x ≤ a → -b ≤ y ∧ y ≤ b → -(a * b) ≤ x * y ∧ x * y ≤ a * b := fun {x y} h0 h1 hy => by
    have e : ∀ {z : Int}, 0 ≤ z → z ≤ b → 0 ≤ x * z ∧ x * z ≤ a * b := fun hz hb => ⟨Int.mul_nonneg h0 hz, Int.mul_le_mul h1 hb hz (by omega)⟩
    rcases Int.le_total 0 y with h | h
    · have := e h hy.2; omega
    · have := e (z := -y) (by omega) (by omega)
      rw [Int.mul_neg] at this; omega
  rcases Int.le_total 0 x with h | h
  · exact key h hx.2 hy
  · have := key (x := -x) (by omega) (by omega) hy
    rw [Int.neg_mul] at this; omega
theorem share_calls (n q : Int) (hq : 1 ≤ q) (hq1 : q ≤ 200000000) (h8 : n * n ≤ 8000000 * q) (w : World) : Calls Try.prog 117 #[.int .i64 n, .int .i64 q] w fun e w' => e = .returned (.int .i64 (shV n q)) ∧ Ext w w' := by
  have hnn : InR (n * n) := by
    have : 0 ≤ n * n := by
      rcases Int.le_total 0 n with h | h
      · exact Int.mul_nonneg h h
      · rw [sq_neg]; exact Int.mul_nonneg (by omega) (by omega)
    exact ⟨by omega, by omega⟩
  refine enterQ (c := cx w 55) Try.func117 rfl rfl rfl rfl ?_
  repeat' (first | ((with_reducible apply oq_id); first | (apply oq_fn; exact rfl; first | exact trivial | (refine ⟨?_, ?_⟩ <;> omega) | (refine ⟨?_, ?_, ?_⟩ <;> omega) | omega | skip)) | ((with_reducible apply tl_id); first | ((with_reducible apply tl_nil)) | ((with_reducible apply u_q); exact rfl; exact rfl; exact rfl; exact rfl) | ((with_reducible apply u_s); exact rfl; exact rfl; exact rfl) | ((with_reducible apply u_skip); exact rfl; exact rfl; exact rfl) | ((with_reducible apply u_splitD); exact rfl; exact rfl; all_goals first | (intro hp; try (exfalso; omega)) | skip) | ((with_reducible apply u_splitN); exact rfl; exact rfl; all_goals first | (intro hp; try (exfalso; omega)) | skip) | ((with_reducible apply u_split); exact rfl; exact rfl; all_goals first | intro hp | skip)) | ((with_reducible apply t_id); first | ((with_reducible apply t_seq)) | (apply t_region; kernel_rfl) | ((with_reducible apply t_condT); exact rfl) | ((with_reducible apply t_condF); exact rfl) | ((with_reducible apply t_condD); exact rfl; all_goals first | (intro hp; try (exfalso; omega)) | skip) | ((with_reducible apply t_condN); exact rfl; all_goals first | (intro hp; try (exfalso; omega)) | skip) | ((with_reducible apply t_cond); exact rfl; all_goals first | intro hp | skip) | ((with_reducible apply t_ret)) | ((with_reducible apply t_skip)) | ((with_reducible apply t_exit)) | ((with_reducible apply t_block))) | with_reducible apply q_thenN | with_reducible apply q_thenR | with_reducible apply q_blockR | with_reducible apply q_blockN | with_reducible apply q_thenE | ((with_reducible apply q_blockE); exact rfl) | ((with_reducible apply q_blockO); exact rfl) | exact P0 | ((with_reducible apply P1)) | ((with_reducible apply Norm.nil); exact rfl) | ((with_reducible apply Norm.cons); exact rfl) | ((with_reducible apply end_ret)) | ((with_reducible apply end_normal)) | exact rvs_nil | ((with_reducible apply rvs_cons)) | ((with_reducible apply rv_tmp); exact rfl) | exact Nat.le_of_ble_eq_true rfl | exact (rfl : (_ : Bool) = true) | omega | (intro _ _; with_reducible apply tl_id) | (intro _; with_reducible apply tl_id) | (intro _ _; with_reducible apply al_id) | (intro _; with_reducible apply al_id))
  apply t_loopK (ι := (Int × Int)) [0, 1, 4, 54] (fun (i : Int × Int) => [(5, .int .i64 i.1), (6, .int .i64 i.2)]) (fun _ => []) (fun i => -4000 ≤ i.1 ∧ i.1 < i.2 ∧ i.2 ≤ 4000 ∧ ShP n q i.1 ∧ ¬ ShP n q i.2) (fun i => (i.2 - i.1).toNat) ((-4000, 4000))
  (repeat (first | exact KeepF.nil | (apply KeepF.cons; exact rfl) | apply KeepF.skip))
  (repeat (first | exact FrSub.nil | (apply FrSub.cons; exact rfl)))
  (repeat (first | exact HpSub.refl _ | (apply HpSub.consE; (repeat (first | exact P0 | apply P1)); exact rfl) | exact HpSub.nil))
  · simp only; unfold ShP; omega
  rintro ⟨a, b⟩ ⟨i0, i1, i2, i3, i4⟩
  simp only at i0 i1 i2 i3 i4
  obtain ⟨m, hm⟩ : ∃ m, m = (a + b).tdiv 2 := ⟨_, rfl⟩
  have hm0 : a ≤ m ∧ m ≤ b ∧ (1 < b - a → a < m ∧ m < b) := by
    rcases Int.le_total 0 (a + b) with h | h
    · rw [Int.tdiv_eq_ediv_of_nonneg h] at hm; omega
    · have : (a + b).tdiv 2 = -((-(a + b)).tdiv 2) := by rw [Int.neg_tdiv, Int.neg_neg]
      rw [this, Int.tdiv_eq_ediv_of_nonneg (by omega)] at hm; omega
  have h1 := mul_abs (x := m) (y := m) (a := 4000) (b := 4000) (by omega) (by omega)
  have h2 := mul_abs (x := m * m) (y := q) (a := 16000000) (b := 200000000) (by omega) (by omega)
  have r1 : InR (m * m) := ⟨by omega, by omega⟩
  have r2 : InR (m * m * q) := ⟨by omega, by omega⟩
  rw [hm] at r1 r2
  have r3 : InR ((a + b).tdiv 2) := by rw [← hm]; exact ⟨by omega, by omega⟩
  dsimp only
  repeat' (first | ((with_reducible apply oq_id); first | (apply oq_fn; exact rfl; first | exact trivial | (refine ⟨?_, ?_⟩ <;> omega) | (refine ⟨?_, ?_, ?_⟩ <;> omega) | omega | skip)) | ((with_reducible apply tl_id); first | ((with_reducible apply tl_nil)) | ((with_reducible apply u_q); exact rfl; exact rfl; exact rfl; exact rfl) | ((with_reducible apply u_s); exact rfl; exact rfl; exact rfl) | ((with_reducible apply u_skip); exact rfl; exact rfl; exact rfl) | ((with_reducible apply u_splitD); exact rfl; exact rfl; all_goals first | (intro hp; try (exfalso; omega)) | skip) | ((with_reducible apply u_splitN); exact rfl; exact rfl; all_goals first | (intro hp; try (exfalso; omega)) | skip) | ((with_reducible apply u_split); exact rfl; exact rfl; all_goals first | intro hp | skip)) | ((with_reducible apply t_id); first | ((with_reducible apply t_seq)) | (apply t_region; kernel_rfl) | ((with_reducible apply t_condT); exact rfl) | ((with_reducible apply t_condF); exact rfl) | ((with_reducible apply t_condD); exact rfl; all_goals first | (intro hp; try (exfalso; omega)) | skip) | ((with_reducible apply t_condN); exact rfl; all_goals first | (intro hp; try (exfalso; omega)) | skip) | ((with_reducible apply t_cond); exact rfl; all_goals first | intro hp | skip) | ((with_reducible apply t_ret)) | ((with_reducible apply t_skip)) | ((with_reducible apply t_exit)) | ((with_reducible apply t_block))) | with_reducible apply q_thenN | with_reducible apply q_thenR | with_reducible apply q_blockR | with_reducible apply q_blockN | with_reducible apply q_thenE | ((with_reducible apply q_blockE); exact rfl) | ((with_reducible apply q_blockO); exact rfl) | exact P0 | ((with_reducible apply P1)) | ((with_reducible apply Norm.nil); exact rfl) | ((with_reducible apply Norm.cons); exact rfl) | ((with_reducible apply end_ret)) | ((with_reducible apply end_normal)) | exact rvs_nil | ((with_reducible apply rvs_cons)) | ((with_reducible apply rv_tmp); exact rfl) | exact r1 | exact r2 | exact hnn | exact r3 | exact Nat.le_of_ble_eq_true rfl | exact (rfl : (_ : Bool) = true) | omega | (intro _ _; with_reducible apply tl_id) | (intro _; with_reducible apply tl_id) | (intro _ _; with_reducible apply al_id) | (intro _; with_reducible apply al_id))
  all_goals try rw [← hm] at *
  all_goals first
    | (refine ⟨(m, b), ⟨by simp only; omega, by simp only; omega, i2, by simp only; unfold ShP; omega, i4⟩, by simp only; omega, ?_, ?_⟩ <;> (repeat' (first | exact FrSub.nil | (apply FrSub.cons; exact rfl) | exact HpSub.refl _ | (apply HpSub.consE; (repeat (first | exact P0 | apply P1)); exact rfl) | exact HpSub.nil)))
    | (refine ⟨(a, m), ⟨i0, by simp only; omega, by simp only; omega, i3, by simp only; unfold ShP; omega⟩, by simp only; omega, ?_, ?_⟩ <;> (repeat' (first | exact FrSub.nil | (apply FrSub.cons; exact rfl) | exact HpSub.refl _ | (apply HpSub.consE; (repeat (first | exact P0 | apply P1)); exact rfl) | exact HpSub.nil)))
    | (obtain rfl : b = a + 1 := by omega
       rw [IsSh.val (by omega) ⟨i3, i4⟩]; rfl)


theorem part_calls (n q : Int) (hq : 1 ≤ q) (hq1 : q ≤ 200000000) (h8 : n * n ≤ 8000000 * q) (w : World) : Calls Try.prog 118 #[.int .i64 n, .int .i64 q] w fun e w' => e = .returned (.int .i64 (shV n q)) ∧ Ext w w' := by
  have hn0 : 0 ≤ n * n := by
    rcases Int.le_total 0 n with h | h
    · exact Int.mul_nonneg h h
    · rw [sq_neg]; exact Int.mul_nonneg (by omega) (by omega)
  have hnn : InR (n * n) := ⟨by omega, by omega⟩
  have hd : (n * n).tdiv q = n * n / q := Int.tdiv_eq_ediv_of_nonneg hn0
  have hd0 : 0 ≤ (n * n).tdiv q := by rw [hd]; exact Int.ediv_nonneg hn0 (by omega)
  have hd1 : (n * n).tdiv q ≤ 8000000 := by rw [hd]; exact Int.ediv_le_of_le_mul (by omega) h8
  have hk := rt_spec ((n * n).tdiv q) hd0
  obtain ⟨k, ek⟩ : ∃ k, k = rt ((n * n).tdiv q) := ⟨_, rfl⟩
  rw [← ek] at hk
  obtain ⟨f1, f2⟩ := part_facts (by omega) hk
  have hk0 := hk.1
  have hk1 : k ≤ 3000 := by
    rcases Int.lt_or_le 3000 k with h | h
    · have := sq_mono (j := 3001) (k := k) (by omega) (by omega)
      have := hk.2.1; omega
    · exact h
  have g1 := mul_abs (x := k) (y := k) (a := 3000) (b := 3000) (by omega) (by omega)
  have g2 := mul_abs (x := k * k) (y := q) (a := 9000000) (b := 200000000) (by omega) (by omega)
  have r1 : InR (k * k) := ⟨by omega, by omega⟩
  have r2 : InR (k * k * q) := ⟨by omega, by omega⟩
  have r3 : InR ((n * n).tdiv q) := ⟨by omega, by omega⟩
  have r4 : InR (k + 1) := ⟨by omega, by omega⟩
  have r5 : InR (-k) := ⟨by omega, by omega⟩
  have r6 : InR (-(k + 1)) := ⟨by omega, by omega⟩
  have hS := fun w1 => sqrt_calls ((n * n).tdiv q) hd0 (by omega) w1
  rw [← ek] at hS
  refine enterQ (c := cx w 28) Try.func118 rfl rfl rfl rfl ?_
  repeat' (first | ((with_reducible apply oq_id); first | (apply oq_fn; exact rfl; first | exact trivial | (refine ⟨?_, ?_⟩ <;> omega) | (refine ⟨?_, ?_, ?_⟩ <;> omega) | omega | skip) | (focus ((apply oq_fn); exact rfl; exact ⟨by omega, r3⟩)) | ((with_reducible apply oq_call (k := 137) (hc := Try.call137)); exact rfl; exact rfl; exact fun D w1 hw1 => hS w1)) | ((with_reducible apply tl_id); first | ((with_reducible apply tl_nil)) | ((with_reducible apply u_q); exact rfl; exact rfl; exact rfl; exact rfl) | ((with_reducible apply u_s0); exact rfl; exact rfl) | ((with_reducible apply u_s); exact rfl; exact rfl; exact rfl)) | ((with_reducible apply t_id); first | ((with_reducible apply t_seq)) | (apply t_region; kernel_rfl) | ((with_reducible apply t_condT); exact rfl) | ((with_reducible apply t_condF); exact rfl) | ((with_reducible apply t_condD); exact rfl; all_goals first | (intro hp; try (exfalso; omega)) | skip) | ((with_reducible apply t_condN); exact rfl; all_goals first | (intro hp; try (exfalso; omega)) | skip) | ((with_reducible apply t_cond); exact rfl; all_goals first | intro hp | skip) | ((with_reducible apply t_ret)) | ((with_reducible apply t_skip))) | with_reducible apply q_thenN | with_reducible apply q_thenR | exact P0 | ((with_reducible apply P1)) | ((with_reducible apply Norm.nil); exact rfl) | ((with_reducible apply Norm.cons); exact rfl) | ((with_reducible apply end_ret)) | ((with_reducible apply end_normal)) | exact rvs_nil | ((with_reducible apply rvs_cons)) | ((with_reducible apply rv_tmp); exact rfl) | exact r1 | exact r2 | exact hnn | exact r3 | exact r4 | exact r5 | exact r6 | exact Nat.le_of_ble_eq_true rfl | exact (rfl : (_ : Bool) = true) | omega | (intro _ _; with_reducible apply tl_id) | (intro _; with_reducible apply tl_id) | (intro _ _; with_reducible apply al_id) | (intro _; with_reducible apply al_id))
  · rw [(isSh_pos (by assumption) hk0 f1 f2).val (by omega)]; rfl
  · rw [(isSh_neg1 (by omega) hk0 (by assumption) f2).val (by omega)]; rfl
  · rw [(isSh_neg0 (by omega) (by omega) hk0 (by assumption) f1).val (by omega)]; rfl

end Go.Proofs.Ytalidommelefaaa
