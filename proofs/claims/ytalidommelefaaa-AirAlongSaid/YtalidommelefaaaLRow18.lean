/- What the statement computes, walked. -/
import Derived.Test.YtalidommelefaaaPkK
import Derived.Test.YtalidommelefaaaPkM
/- Winds along ways: plain laws. -/
namespace Go.Proofs.Ytalidommelefaaa
set_option linter.unusedVariables false
set_option linter.unusedSimpArgs false
theorem IsSh.le {n q r k : Int} (hq : 0 < q) (h : IsSh n q r) (hk : ShP n q k) : k ≤ r := by
  rcases Int.lt_or_le r k with g | g
  · exact absurd (hk.mono hq (by omega)) h.2
  · exact g
theorem along_neg (a b c d dx dy : Int) : alongLo a b c d (-dx) (-dy) = -alongHi a b c d dx dy ∧ alongHi a b c d (-dx) (-dy) = -alongLo a b c d dx dy := by
  unfold alongLo alongHi
  simp only [Int.mul_neg]
  omega
/-- A sum of two products, squared, is no more than both sums of squares. -/
theorem cauchy (x y p q : Int) : (x * p + y * q) * (x * p + y * q) + (x * -q + y * p) * (x * -q + y * p) = (x * x + y * y) * (p * p + q * q) := by
  simp only [Int.add_mul, Int.mul_add, Int.mul_neg, Int.neg_mul]
  have e1 : x * p * (x * p) = x * x * (p * p) := by ac_rfl
  have e2 : y * q * (y * q) = y * y * (q * q) := by ac_rfl
  have e3 : x * q * (x * q) = x * x * (q * q) := by ac_rfl
  have e4 : y * p * (y * p) = y * y * (p * p) := by ac_rfl
  have e5 : x * p * (y * q) = x * y * (p * q) := by ac_rfl
  have e6 : y * q * (x * p) = x * y * (p * q) := by ac_rfl
  have e7 : x * q * (y * p) = x * y * (p * q) := by ac_rfl
  have e8 : y * p * (x * q) = x * y * (p * q) := by ac_rfl
  omega
theorem cauchy_le (x y p q : Int) : (x * p + y * q) * (x * p + y * q) ≤ (x * x + y * y) * (p * p + q * q) := by
  have h := cauchy x y p q
  have := sq_nn (x * -q + y * p)
  omega
theorem far_sq {a b x : Int} (h1 : a ≤ x) (h2 : x ≤ b) : x * x ≤ farV a b * farV a b := by
  have h : x ≤ farV a b ∧ -x ≤ farV a b := by unfold farV; omega
  rcases Int.le_total 0 x with g | g
  · exact sq_mono g h.1
  · rw [sq_neg x]; exact sq_mono (by omega) h.2
theorem ends_sq {a b c d p q : Int} (hab : a ≤ b) (hcd : c ≤ d) {n : Int} (hn : n = alongLo a b c d p q ∨ n = alongHi a b c d p q) : n * n ≤ (farV a b * farV a b + farV c d * farV c d) * (p * p + q * q) := by
  have key : ∀ x y, a ≤ x → x ≤ b → c ≤ y → y ≤ d → (x * p + y * q) * (x * p + y * q) ≤ (farV a b * farV a b + farV c d * farV c d) * (p * p + q * q) := fun x y h1 h2 h3 h4 => by
    refine Int.le_trans (cauchy_le x y p q) (Int.mul_le_mul_of_nonneg_right ?_ ?_)
    · have := far_sq h1 h2
      have := far_sq h3 h4
      omega
    · have := sq_nn p
      have := sq_nn q
      omega
  have hx : ∃ x, a ≤ x ∧ x ≤ b ∧ ∃ y, c ≤ y ∧ y ≤ d ∧ n = x * p + y * q := by
    rcases hn with rfl | rfl
    · unfold alongLo
      rcases Int.le_total (a * p) (b * p) with h1 | h1 <;> rcases Int.le_total (c * q) (d * q) with h2 | h2
      · exact ⟨a, by omega, by omega, c, by omega, by omega, by omega⟩
      · exact ⟨a, by omega, by omega, d, by omega, by omega, by omega⟩
      · exact ⟨b, by omega, by omega, c, by omega, by omega, by omega⟩
      · exact ⟨b, by omega, by omega, d, by omega, by omega, by omega⟩
    · unfold alongHi
      rcases Int.le_total (a * p) (b * p) with h1 | h1 <;> rcases Int.le_total (c * q) (d * q) with h2 | h2
      · exact ⟨b, by omega, by omega, d, by omega, by omega, by omega⟩
      · exact ⟨b, by omega, by omega, c, by omega, by omega, by omega⟩
      · exact ⟨a, by omega, by omega, d, by omega, by omega, by omega⟩
      · exact ⟨a, by omega, by omega, c, by omega, by omega, by omega⟩
  obtain ⟨x, h1, h2, y, h3, h4, rfl⟩ := hx
  exact key x y h1 h2 h3 h4
/-- A number divided by the root of q is at least -V, if its square is at most V^2 q. -/
theorem sh_ge {n q V : Int} (hq : 1 ≤ q) (h8 : n * n ≤ 8000000 * q) (hV : 0 ≤ V) (h : n * n ≤ V * V * q) : -V ≤ shV n q := by
  refine (shV_ex hq h8).1.le (by omega) ?_
  by_cases hn : 0 ≤ n
  · exact .inl ⟨hn, .inl (by omega)⟩
  · refine .inr ⟨by omega, ?_, by rw [← sq_neg]; exact h⟩
    rcases Int.lt_or_eq_of_le hV with g | g
    · omega
    · exfalso
      rw [← g, Int.zero_mul, Int.zero_mul, sq_neg] at h
      have := Int.mul_pos (show 0 < -n by omega) (show 0 < -n by omega)
      omega
/-- Rounded up it is one more than rounded down, at most. -/
theorem sh_one {n q : Int} (hq : 1 ≤ q) (h8 : n * n ≤ 8000000 * q) : -shV (-n) q - shV n q ≤ 1 := by
  have h8' : -n * -n ≤ 8000000 * q := by rw [← sq_neg]; exact h8
  have hs := (shV_ex hq h8).1
  generalize shV n q = s at *
  have hk : ShP (-n) q (-(s + 1)) := by
    have hn := hs.2
    unfold ShP at hn ⊢
    rw [← sq_neg n, ← sq_neg (s + 1)]
    by_cases h0 : 0 ≤ n
    · by_cases h00 : n = 0
      · subst h00
        refine .inl ⟨by omega, .inl ?_⟩
        by_cases g : s + 1 ≤ 0
        · exact absurd (.inl ⟨by omega, .inl g⟩) hn
        · omega
      · refine .inr ⟨by omega, ?_, ?_⟩
        · by_cases g : s + 1 ≤ 0
          · exact absurd (.inl ⟨h0, .inl g⟩) hn
          · omega
        · by_cases g : (s + 1) * (s + 1) * q ≤ n * n
          · exact absurd (.inl ⟨h0, .inr g⟩) hn
          · omega
    · refine .inl ⟨by omega, ?_⟩
      by_cases g : 0 ≤ s + 1
      · exact .inl (by omega)
      · by_cases g2 : n * n ≤ (s + 1) * (s + 1) * q
        · exact absurd (.inr ⟨by omega, by omega, g2⟩) hn
        · exact .inr (by omega)
  have := (shV_ex hq h8').1.le (by omega) hk
  omega
def leastV (lo hi : Int) : Int := max (max lo (-hi)) 0
def mostV (lo hi : Int) : Int := max hi (-lo)
theorem least_sq {n q : Int} (hq : 1 ≤ q) (h8 : n * n ≤ 8000000 * q) : leastV (shV n q) (-shV (-n) q) * leastV (shV n q) (-shV (-n) q) * q ≤ n * n := by
  have h8' : -n * -n ≤ 8000000 * q := by rw [← sq_neg]; exact h8
  have hs := (shV_ex hq h8).1
  have ht := (shV_ex hq h8').1
  generalize shV n q = s at *
  generalize shV (-n) q = t at *
  have h1 := hs.1
  have h2 := ht.1
  have hsq := sq_nn n
  unfold ShP at h1 h2
  rw [← sq_neg n] at h2
  have hS : 0 < s → s * s * q ≤ n * n := fun g => by
    rcases h1 with ⟨_, k | k⟩ | ⟨_, k, _⟩
    · omega
    · exact k
    · omega
  have hT : 0 < t → t * t * q ≤ n * n := fun g => by
    rcases h2 with ⟨_, k | k⟩ | ⟨_, k, _⟩
    · omega
    · exact k
    · omega
  have hm : leastV s (-t) = 0 ∨ (leastV s (-t) = s ∧ 0 < s) ∨ (leastV s (-t) = t ∧ 0 < t) := by unfold leastV; omega
  rcases hm with e | ⟨e, g⟩ | ⟨e, g⟩
  · rw [e, Int.zero_mul, Int.zero_mul]; exact hsq
  · rw [e]; exact hS g
  · rw [e]; exact hT g
theorem most_sq {n q : Int} (hq : 1 ≤ q) (h8 : n * n ≤ 8000000 * q) : n * n ≤ mostV (shV n q) (-shV (-n) q) * mostV (shV n q) (-shV (-n) q) * q := by
  have h8' : -n * -n ≤ 8000000 * q := by rw [← sq_neg]; exact h8
  have hs := (shV_ex hq h8).1
  have ht := (shV_ex hq h8').1
  generalize shV n q = s at *
  generalize shV (-n) q = t at *
  have h1 := hs.1
  have h2 := ht.1
  unfold ShP at h1 h2
  rw [← sq_neg n] at h2
  rcases Int.lt_trichotomy n 0 with g | g | g
  · rcases h1 with ⟨k, _⟩ | ⟨_, k1, k2⟩
    · omega
    · refine Int.le_trans k2 (Int.mul_le_mul_of_nonneg_right ?_ (by omega))
      rw [sq_neg s]
      exact sq_mono (by omega) (by unfold mostV; omega)
  · subst g
    rw [Int.zero_mul]
    exact Int.mul_nonneg (sq_nn _) (by omega)
  · rcases h2 with ⟨k, _⟩ | ⟨_, k1, k2⟩
    · omega
    · refine Int.le_trans k2 (Int.mul_le_mul_of_nonneg_right ?_ (by omega))
      rw [sq_neg t]
      exact sq_mono (by omega) (by unfold mostV; omega)
theorem root_hi {b : Int} (hb : 0 ≤ b) : 0 ≤ (if rt b * rt b = b then rt b else rt b + 1) ∧ b ≤ (if rt b * rt b = b then rt b else rt b + 1) * (if rt b * rt b = b then rt b else rt b + 1) := by
  obtain ⟨h1, h2, h3⟩ := rt_spec b hb
  split
  · rename_i h; omega
  · omega
theorem windE_ok {a b c d : Int} (h : windE a b c d = 0) : a ≤ b ∧ c ≤ d ∧ -2000 ≤ a ∧ b ≤ 2000 ∧ -2000 ≤ c ∧ d ≤ 2000 := by
  unfold windE at h
  split at h
  · rename_i h1
    split at h
    · rename_i h2
      rw [Bool.and_eq_true, fineS_iff, fineS_iff] at h1
      unfold allFrom at h2
      simp only [List.all_cons, List.all_nil, Bool.and_true, Bool.and_eq_true, decide_eq_true_eq] at h2
      simp only at h1
      omega
    · omega
  · omega
theorem wayOk_iff {dx dy : Int} : wayOk dx dy = true ↔ (-10000 ≤ dx ∧ dx ≤ 10000) ∧ (-10000 ≤ dy ∧ dy ≤ 10000) ∧ ¬ (dx = 0 ∧ dy = 0) := by
  unfold wayOk allFrom
  simp only [List.all_cons, List.all_nil, Bool.and_true, Bool.and_eq_true, decide_eq_true_eq, Bool.not_eq_true', Bool.and_eq_false_iff, decide_eq_false_iff_not]
  omega
end Go.Proofs.Ytalidommelefaaa
/- Law 18: along, across, and the speed. -/
namespace Go.Proofs.Ytalidommelefaaa
open Go.RowKit
attribute [local irreducible] OQ OS OX Rd T TL GX GL AL AI RV wpG SAny Calls
set_option maxRecDepth 100000
set_option maxHeartbeats 2000000
set_option linter.unusedVariables false
set_option linter.unusedSimpArgs false


theorem least_calls (a b : Int) (hb : -10000 ≤ b ∧ b ≤ 10000) (w : World) : Calls Try.prog 57 #[.agg #[.int .i64 a, .int .i64 b]] w fun e w' => e = .returned (.int .i64 (leastV a b)) ∧ Ext w w' := by
  unfold leastV
  refine enterQ (c := cx w 9) Try.func57 rfl rfl rfl rfl ?_
  repeat' (first | ((with_reducible apply oq_id); first | (apply oq_fn; exact rfl; first | exact trivial | (refine ⟨?_, ?_⟩ <;> omega) | (refine ⟨?_, ?_, ?_⟩ <;> omega) | omega | skip) | ((with_reducible apply oq_load); exact rfl; exact rfl)) | ((with_reducible apply tl_id); first | ((with_reducible apply tl_nil)) | ((with_reducible apply u_q); exact rfl; exact rfl; exact rfl; exact rfl) | ((with_reducible apply u_s); exact rfl; exact rfl; exact rfl)) | ((with_reducible apply os_id); first | ((with_reducible apply os_x); exact rfl)) | ((with_reducible apply ox_id); first | ((with_reducible apply ox_boxAgg); exact rfl; intro _)) | ((with_reducible apply rd_id); first | (apply Rd.own; (repeat (first | exact P0 | apply P1)); exact rfl; done)) | ((with_reducible apply t_id); first | ((with_reducible apply t_seq)) | (apply t_region; kernel_rfl) | ((with_reducible apply t_ret))) | with_reducible apply q_thenN | ((with_reducible apply end_ret)) | exact rvs_nil | ((with_reducible apply rvs_cons)) | ((with_reducible apply rv_tmp); exact rfl))
  all_goals rfl
theorem most_calls (a b : Int) (hb : -10000 ≤ a ∧ a ≤ 10000) (w : World) : Calls Try.prog 58 #[.agg #[.int .i64 a, .int .i64 b]] w fun e w' => e = .returned (.int .i64 (mostV a b)) ∧ Ext w w' := by
  unfold mostV
  refine enterQ (c := cx w 9) Try.func58 rfl rfl rfl rfl ?_
  repeat' (first | ((with_reducible apply oq_id); first | (apply oq_fn; exact rfl; first | exact trivial | (refine ⟨?_, ?_⟩ <;> omega) | (refine ⟨?_, ?_, ?_⟩ <;> omega) | omega | skip) | ((with_reducible apply oq_load); exact rfl; exact rfl)) | ((with_reducible apply tl_id); first | ((with_reducible apply tl_nil)) | ((with_reducible apply u_q); exact rfl; exact rfl; exact rfl; exact rfl) | ((with_reducible apply u_s); exact rfl; exact rfl; exact rfl)) | ((with_reducible apply os_id); first | ((with_reducible apply os_x); exact rfl)) | ((with_reducible apply ox_id); first | ((with_reducible apply ox_boxAgg); exact rfl; intro _)) | ((with_reducible apply rd_id); first | (apply Rd.own; (repeat (first | exact P0 | apply P1)); exact rfl; done)) | ((with_reducible apply t_id); first | ((with_reducible apply t_seq)) | (apply t_region; kernel_rfl) | ((with_reducible apply t_ret))) | with_reducible apply q_thenN | ((with_reducible apply end_ret)) | exact rvs_nil | ((with_reducible apply rvs_cons)) | ((with_reducible apply rv_tmp); exact rfl))
  all_goals rfl
theorem near_self (x : Int) : nearV x x * nearV x x = x * x := by
  unfold nearV
  rcases Int.le_total 0 x with h | h
  · rw [show max (max x (-x)) 0 = x by omega]
  · rw [show max (max x (-x)) 0 = -x by omega, ← sq_neg]
theorem far_self (x : Int) : farV x x * farV x x = x * x := by
  unfold farV
  rcases Int.le_total 0 x with h | h
  · rw [show max x (-x) = x by omega]
  · rw [show max x (-x) = -x by omega, ← sq_neg]
theorem near_far {a b : Int} (h : a ≤ b) (h1 : -2000 ≤ a) (h2 : b ≤ 2000) : 0 ≤ nearV a b * nearV a b ∧ nearV a b * nearV a b ≤ farV a b * farV a b ∧ farV a b * farV a b ≤ 4000000 := by
  have k1 : 0 ≤ nearV a b := by unfold nearV; omega
  have k2 : nearV a b ≤ farV a b := by unfold nearV farV; omega
  have k3 : farV a b ≤ 2000 := by unfold farV; omega
  refine ⟨Int.mul_nonneg k1 k1, sq_mono k1 k2, ?_⟩
  have := sq_mono (show 0 ≤ farV a b by omega) k3
  omega
theorem airAlongL_T (a b c d dx dy : Int) (w : World) : Calls Try.prog 18 #[.agg #[.int .i64 a, .int .i64 b, .int .i64 c, .int .i64 d], .int .i64 dx, .int .i64 dy] w fun e w' => e = .returned (.bool true) ∧ Ext w w' := by
  have HA := fun w1 => airAlong_calls a b c d dx dy w1
  have HB := fun w1 => airAlong_calls a b c d (-dx) (-dy) w1
  have HC := fun w1 => airAlong_calls a b c d (-dy) dx w1
  have HV := fun w1 => speed_calls a b c d w1
  by_cases hw : windE a b c d = 0
  · cases hy : wayOk dx dy with
    | false =>
      have e1 : alongV a b c d dx dy = (0, 0, 2) := by unfold alongV; rw [if_pos hw, hy]; rfl
      rw [e1] at HA
      dsimp only at HA
      refine enterQ (c := cx w 210) Try.func18 rfl rfl rfl rfl ?_
      repeat' (first | ((with_reducible apply oq_id); first | ((with_reducible apply oq_same26); exact rfl; exact rfl) | ((with_reducible apply oq_neqT); exact rfl; exact rfl; omega) | (apply oq_fn; exact rfl; first | exact trivial | (refine ⟨?_, ?_⟩ <;> omega) | (refine ⟨?_, ?_, ?_⟩ <;> omega) | omega | skip) | ((with_reducible apply oq_loadAgg); exact rfl; exact rfl) | ((with_reducible apply oq_call (k := 48) (hc := Try.call48)); exact rfl; exact rfl; exact fun D w1 hw1 => alive_calls w1) | ((with_reducible apply oq_call (k := 46) (hc := Try.call46)); exact rfl; exact rfl; exact fun D w1 hw1 => HA w1) | ((with_reducible apply oq_build); exact rfl; exact rfl; exact rfl)) | ((with_reducible apply tl_id); first | ((with_reducible apply tl_nil)) | ((with_reducible apply u_q); exact rfl; exact rfl; exact rfl; exact rfl) | ((with_reducible apply u_s0); exact rfl; exact rfl) | ((with_reducible apply u_s); exact rfl; exact rfl; exact rfl)) | ((with_reducible apply os_id); first | ((with_reducible apply os_x); exact rfl) | ((with_reducible apply os_storeAgg); exact rfl; exact rfl; exact rfl; exact rfl; exact rfl)) | ((with_reducible apply ox_id); first | ((with_reducible apply ox_alloc); exact rfl; intro _) | ((with_reducible apply ox_boxAgg); exact rfl; intro _)) | ((with_reducible apply rd_id); first | (apply Rd.own; (repeat (first | exact P0 | apply P1)); exact rfl; done)) | ((with_reducible apply t_id); first | ((with_reducible apply t_seq)) | (apply t_region; kernel_rfl) | ((with_reducible apply t_condT); exact rfl) | ((with_reducible apply t_ret))) | with_reducible apply q_thenN | with_reducible apply q_thenR | exact P0 | exact Rdn.zero | apply Rdn.succ | ((with_reducible apply Norm.nil); exact rfl) | ((with_reducible apply Norm.cons); exact rfl) | ((with_reducible apply end_ret)) | exact rvs_nil | ((with_reducible apply rvs_cons)) | ((with_reducible apply rv_tmp); exact rfl) | exact Nat.le_of_ble_eq_true rfl)
      all_goals rfl
    | true =>
      obtain ⟨b1, b2, b3⟩ := wayOk_iff.1 hy
      have hy2 : wayOk (-dx) (-dy) = true := wayOk_iff.2 ⟨by omega, by omega, by omega⟩
      have hy3 : wayOk (-dy) dx = true := wayOk_iff.2 ⟨by omega, by omega, by omega⟩
      obtain ⟨w1', w2', w3', w4', w5', w6'⟩ := windE_ok hw
      obtain ⟨q, hq⟩ : ∃ q, q = dx * dx + dy * dy := ⟨_, rfl⟩
      have hq1 : 1 ≤ q := by
        have h1 := sq_nn dx
        have h2 := sq_nn dy
        by_cases g : dx = 0
        · have : dy ≠ 0 := fun e => b3 ⟨g, e⟩
          rcases Int.lt_or_lt_of_ne this with k | k
          · have := Int.mul_pos (show 0 < -dy by omega) (show 0 < -dy by omega); rw [← sq_neg] at this; omega
          · have := Int.mul_pos k k; omega
        · rcases Int.lt_or_lt_of_ne g with k | k
          · have := Int.mul_pos (show 0 < -dx by omega) (show 0 < -dx by omega); rw [← sq_neg] at this; omega
          · have := Int.mul_pos k k; omega
      have q2 : -dx * -dx + -dy * -dy = q := by rw [← sq_neg, ← sq_neg]; exact hq.symm
      have q3 : -dy * -dy + dx * dx = q := by rw [← sq_neg]; omega
      have hb6 : a ≤ b ∧ c ≤ d ∧ -2000 ≤ a ∧ b ≤ 2000 ∧ -2000 ≤ c ∧ d ≤ 2000 := ⟨w1', w2', w3', w4', w5', w6'⟩
      have l1 := alongLo_sq (dx := dx) (dy := dy) hb6
      have l2 := alongHi_sq (dx := dx) (dy := dy) hb6
      have l3 := alongLo_sq (dx := -dy) (dy := dx) hb6
      have l4 := alongHi_sq (dx := -dy) (dy := dx) hb6
      have f1 := ends_sq (p := dx) (q := dy) w1' w2' (n := alongLo a b c d dx dy) (.inl rfl)
      have f2 := ends_sq (p := dx) (q := dy) w1' w2' (n := alongHi a b c d dx dy) (.inr rfl)
      have f3 := ends_sq (p := -dy) (q := dx) w1' w2' (n := alongLo a b c d (-dy) dx) (.inl rfl)
      have f4 := ends_sq (p := -dy) (q := dx) w1' w2' (n := alongHi a b c d (-dy) dx) (.inr rfl)
      rw [← hq] at l1 l2 f1 f2
      rw [q3] at l3 l4 f3 f4
      obtain ⟨n1, n2, n3⟩ := near_far w1' w3' w4'
      obtain ⟨n4, n5, n6⟩ := near_far w2' w5' w6'
      have e1 : alongV a b c d dx dy = (shV (alongLo a b c d dx dy) q, -shV (-alongHi a b c d dx dy) q, 0) := by unfold alongV; rw [if_pos hw, hy, ← hq]; rfl
      have e2 : alongV a b c d (-dx) (-dy) = (shV (-alongHi a b c d dx dy) q, -shV (alongLo a b c d dx dy) q, 0) := by
        unfold alongV
        rw [if_pos hw, hy2, q2, (along_neg a b c d dx dy).1, (along_neg a b c d dx dy).2, Int.neg_neg]; rfl
      have e3 : alongV a b c d (-dy) dx = (shV (alongLo a b c d (-dy) dx) q, -shV (-alongHi a b c d (-dy) dx) q, 0) := by unfold alongV; rw [if_pos hw, hy3, q3]; rfl
      obtain ⟨nn, hnn⟩ : ∃ nn, nn = nearV a b * nearV a b + nearV c d * nearV c d := ⟨_, rfl⟩
      obtain ⟨ff, hff⟩ : ∃ ff, ff = farV a b * farV a b + farV c d * farV c d := ⟨_, rfl⟩
      have e4 : speedV a b c d = (rt nn, (if rt ff * rt ff = ff then rt ff else rt ff + 1), 0) := by
        unfold speedV rootV
        rw [if_pos hw, ← hnn, ← hff, if_pos ((fineS_iff _).2 ⟨by simp only; omega, by simp only; omega, by simp only; omega⟩), if_neg (by omega)]
      rw [← hff] at f1 f2 f3 f4
      obtain ⟨v1, v2⟩ := root_hi (b := ff) (by omega)
      obtain ⟨r1, r2, r3⟩ := rt_spec nn (by omega)
      have hvb : (if rt ff * rt ff = ff then rt ff else rt ff + 1) ≤ 3001 := by
        obtain ⟨g1, g2, g3⟩ := rt_spec ff (by omega)
        have : rt ff ≤ 3000 := by
          rcases Int.lt_or_le 3000 (rt ff) with h | h
          · have := sq_mono (j := 3001) (k := rt ff) (by omega) (by omega)
            omega
          · exact h
        split <;> omega
      have hrb : rt nn ≤ 3000 := by
        rcases Int.lt_or_le 3000 (rt nn) with h | h
        · have := sq_mono (j := 3001) (k := rt nn) (by omega) (by omega)
          omega
        · exact h
      generalize (if rt ff * rt ff = ff then rt ff else rt ff + 1) = vh at *
      have hvq : ff * q ≤ vh * vh * q := Int.mul_le_mul_of_nonneg_right v2 (by omega)
      have g1 := sh_ge hq1 l1 v1 (Int.le_trans f1 hvq)
      have g2 := sh_ge hq1 l2 v1 (by rw [← sq_neg]; exact Int.le_trans f2 hvq)
      have g3 := sh_ge hq1 l3 v1 (Int.le_trans f3 hvq)
      have g4 := sh_ge hq1 l4 v1 (by rw [← sq_neg]; exact Int.le_trans f4 hvq)
      have x1 := shV_ex hq1 l1
      have x2 := shV_ex hq1 l2
      have x3 := shV_ex hq1 l3
      have x4 := shV_ex hq1 l4
      rw [e1] at HA
      rw [e2] at HB
      rw [e3] at HC
      rw [e4] at HV
      dsimp only at HA HB HC HV
      by_cases hex : a = b ∧ c = d
      · obtain ⟨rfl, rfl⟩ := hex
        have t1 : alongHi a a c c dx dy = alongLo a a c c dx dy := by unfold alongHi alongLo; omega
        have t2 : alongHi a a c c (-dy) dx = alongLo a a c c (-dy) dx := by unfold alongHi alongLo; omega
        have t3 : alongLo a a c c dx dy = a * dx + c * dy := by unfold alongLo; omega
        have t4 : alongLo a a c c (-dy) dx = a * -dy + c * dx := by unfold alongLo; omega
        simp only [t1, t2] at HA HB HC l1 l2 l3 l4 g1 g2 g3 g4 x1 x2 x3 x4 f1 f2 f3 f4
        have c1 := cauchy a c dx dy
        rw [← t3, ← t4, ← hq] at c1
        have y1 := least_sq hq1 l1
        have y2 := least_sq hq1 l3
        have y3 := most_sq hq1 l1
        have y4 := most_sq hq1 l3
        have y5 := sh_one hq1 l1
        have y6 := sh_one hq1 l3
        rw [near_self, near_self] at hnn
        rw [far_self, far_self] at hff
        generalize alongLo a a c c dx dy = N at *
        generalize alongLo a a c c (-dy) dx = M at *
        generalize shV N q = sL at *
        generalize shV (-N) q = sH at *
        generalize shV M q = tL at *
        generalize shV (-M) q = tH at *
        have H1 := fun w1 => least_calls sL (-sH) ⟨by omega, by omega⟩ w1
        have H2 := fun w1 => least_calls tL (-tH) ⟨by omega, by omega⟩ w1
        have H3 := fun w1 => most_calls sL (-sH) ⟨by omega, by omega⟩ w1
        have H4 := fun w1 => most_calls tL (-tH) ⟨by omega, by omega⟩ w1
        have z1 : 0 ≤ leastV sL (-sH) ∧ leastV sL (-sH) ≤ 4000 := by unfold leastV; omega
        have z2 : 0 ≤ leastV tL (-tH) ∧ leastV tL (-tH) ≤ 4000 := by unfold leastV; omega
        have z3 : -4000 ≤ mostV sL (-sH) ∧ mostV sL (-sH) ≤ 4000 := by unfold mostV; omega
        have z4 : -4000 ≤ mostV tL (-tH) ∧ mostV tL (-tH) ≤ 4000 := by unfold mostV; omega
        generalize leastV sL (-sH) = lv1 at *
        generalize leastV tL (-tH) = lv2 at *
        generalize mostV sL (-sH) = mv1 at *
        generalize mostV tL (-tH) = mv2 at *
        have i1 := sq_mono z1.1 z1.2
        have i2 := sq_mono z2.1 z2.2
        have i3 : mv1 * mv1 ≤ 16000000 := by
          rcases Int.le_total 0 mv1 with h | h
          · exact sq_mono (k := 4000) h z3.2
          · rw [sq_neg]; exact sq_mono (k := 4000) (by omega) (by omega)
        have i4 : mv2 * mv2 ≤ 16000000 := by
          rcases Int.le_total 0 mv2 with h | h
          · exact sq_mono (k := 4000) h z4.2
          · rw [sq_neg]; exact sq_mono (k := 4000) (by omega) (by omega)
        have j1 := sq_nn lv1
        have j2 := sq_nn lv2
        have j3 := sq_nn mv1
        have j4 := sq_nn mv2
        have j5 := sq_nn a
        have j6 := sq_nn c
        have u1 : lv1 * lv1 + lv2 * lv2 ≤ a * a + c * c := by
          refine Int.le_of_mul_le_mul_right ?_ (show 0 < q by omega)
          rw [Int.add_mul]
          omega
        have u2 : a * a + c * c ≤ mv1 * mv1 + mv2 * mv2 := by
          refine Int.le_of_mul_le_mul_right ?_ (show 0 < q by omega)
          rw [Int.add_mul (mv1 * mv1)]
          omega
        have i5 := sq_mono r1 hrb
        have i6 := sq_mono v1 hvb
        have j7 := sq_nn vh
        have j8 := sq_nn (rt nn)
        generalize rt nn = vl at *
        refine enterQ (c := cx w 210) Try.func18 rfl rfl rfl rfl ?_
        repeat' (first | ((with_reducible apply oq_id); first | ((with_reducible apply oq_neX26F); exact rfl; exact rfl; exact ⟨by omega, rfl⟩) | ((with_reducible apply oq_leqT); exact rfl; exact rfl; omega) | ((with_reducible apply oq_lssF); exact rfl; exact rfl; omega) | ((with_reducible apply oq_gtrF); exact rfl; exact rfl; omega) | ((with_reducible apply oq_geqT); exact rfl; exact rfl; omega) | ((with_reducible apply oq_neqF); exact rfl; exact rfl; omega) | (apply oq_fn; exact rfl; first | exact trivial | (refine ⟨?_, ?_⟩ <;> omega) | (refine ⟨?_, ?_, ?_⟩ <;> omega) | omega | skip) | ((with_reducible apply oq_load); exact rfl; exact rfl) | ((with_reducible apply oq_loadAgg); exact rfl; exact rfl) | ((with_reducible apply oq_call (k := 48) (hc := Try.call48)); exact rfl; exact rfl; exact fun D w1 hw1 => alive_calls w1) | ((with_reducible apply oq_call (k := 52) (hc := Try.call52)); exact rfl; exact rfl; exact fun D w1 hw1 => span_calls _ _ w1) | ((with_reducible apply oq_call (k := 44) (hc := Try.call44)); exact rfl; exact rfl; exact fun D w1 hw1 => HV w1) | ((with_reducible apply oq_call (k := 46) (hc := Try.call46)); exact rfl; exact rfl; exact fun D w1 hw1 => HA w1) | ((with_reducible apply oq_call (k := 46) (hc := Try.call46)); exact rfl; exact rfl; exact fun D w1 hw1 => HB w1) | ((with_reducible apply oq_call (k := 46) (hc := Try.call46)); exact rfl; exact rfl; exact fun D w1 hw1 => HC w1) | ((with_reducible apply oq_call (k := 57) (hc := Try.call57)); exact rfl; exact rfl; exact fun D w1 hw1 => H1 w1) | ((with_reducible apply oq_call (k := 57) (hc := Try.call57)); exact rfl; exact rfl; exact fun D w1 hw1 => H2 w1) | ((with_reducible apply oq_call (k := 58) (hc := Try.call58)); exact rfl; exact rfl; exact fun D w1 hw1 => H3 w1) | ((with_reducible apply oq_call (k := 58) (hc := Try.call58)); exact rfl; exact rfl; exact fun D w1 hw1 => H4 w1)) | ((with_reducible apply tl_id); first | ((with_reducible apply tl_nil)) | ((with_reducible apply u_q); exact rfl; exact rfl; exact rfl; exact rfl) | ((with_reducible apply u_s0); exact rfl; exact rfl) | ((with_reducible apply u_s); exact rfl; exact rfl; exact rfl)) | ((with_reducible apply gx_id); first | ((with_reducible apply v_nil)) | ((with_reducible apply v_q); exact rfl; exact rfl; exact rfl)) | ((with_reducible apply os_id); first | ((with_reducible apply os_x); exact rfl) | ((with_reducible apply os_storeAgg); exact rfl; exact rfl; exact rfl; exact rfl; exact rfl)) | ((with_reducible apply ox_id); first | ((with_reducible apply ox_alloc); exact rfl; intro _) | ((with_reducible apply ox_boxAgg); exact rfl; intro _)) | ((with_reducible apply rd_id); first | (apply Rd.own; (repeat (first | exact P0 | apply P1)); exact rfl; done)) | ((with_reducible apply t_id); first | ((with_reducible apply t_seq)) | (apply t_region; kernel_rfl) | (apply t_drawn; kernel_rfl; decide +kernel; try simp only [List.append_eq, List.cons_append, List.nil_append]) | ((with_reducible apply t_condF); exact rfl) | ((with_reducible apply t_ret)) | ((with_reducible apply t_skip))) | with_reducible apply q_thenN | exact P0 | exact Rdn.zero | apply Rdn.succ | ((with_reducible apply Norm.nil); exact rfl) | ((with_reducible apply Norm.cons); exact rfl) | ((with_reducible apply end_ret)) | exact rvs_nil | ((with_reducible apply rvs_cons)) | ((with_reducible apply rv_tmp); exact rfl) | exact Nat.le_of_ble_eq_true rfl)
        all_goals rfl
      · generalize shV (alongLo a b c d dx dy) q = sL at *
        generalize shV (-alongHi a b c d dx dy) q = sH at *
        generalize shV (alongLo a b c d (-dy) dx) q = tL at *
        generalize shV (-alongHi a b c d (-dy) dx) q = tH at *
        generalize rt nn = vl at *
        by_cases hab : a = b
        · have hcd : ¬ c = d := fun h => hex ⟨hab, h⟩
          refine enterQ (c := cx w 210) Try.func18 rfl rfl rfl rfl ?_
          repeat' (first | ((with_reducible apply oq_id); first | ((with_reducible apply oq_neX26F); exact rfl; exact rfl; exact ⟨by omega, rfl⟩) | ((with_reducible apply oq_lssF); exact rfl; exact rfl; omega) | ((with_reducible apply oq_gtrF); exact rfl; exact rfl; omega) | ((with_reducible apply oq_neqT); exact rfl; exact rfl; omega) | ((with_reducible apply oq_neqF); exact rfl; exact rfl; omega) | (apply oq_fn; exact rfl; first | exact trivial | (refine ⟨?_, ?_⟩ <;> omega) | (refine ⟨?_, ?_, ?_⟩ <;> omega) | omega | skip) | ((with_reducible apply oq_load); exact rfl; exact rfl) | ((with_reducible apply oq_loadAgg); exact rfl; exact rfl) | ((with_reducible apply oq_call (k := 48) (hc := Try.call48)); exact rfl; exact rfl; exact fun D w1 hw1 => alive_calls w1) | ((with_reducible apply oq_call (k := 52) (hc := Try.call52)); exact rfl; exact rfl; exact fun D w1 hw1 => span_calls _ _ w1) | ((with_reducible apply oq_call (k := 44) (hc := Try.call44)); exact rfl; exact rfl; exact fun D w1 hw1 => HV w1) | ((with_reducible apply oq_call (k := 46) (hc := Try.call46)); exact rfl; exact rfl; exact fun D w1 hw1 => HA w1) | ((with_reducible apply oq_call (k := 46) (hc := Try.call46)); exact rfl; exact rfl; exact fun D w1 hw1 => HB w1) | ((with_reducible apply oq_call (k := 46) (hc := Try.call46)); exact rfl; exact rfl; exact fun D w1 hw1 => HC w1)) | ((with_reducible apply tl_id); first | ((with_reducible apply tl_nil)) | ((with_reducible apply u_q); exact rfl; exact rfl; exact rfl; exact rfl) | ((with_reducible apply u_s0); exact rfl; exact rfl) | ((with_reducible apply u_s); exact rfl; exact rfl; exact rfl)) | ((with_reducible apply gx_id); first | ((with_reducible apply v_nil)) | ((with_reducible apply v_q); exact rfl; exact rfl; exact rfl)) | ((with_reducible apply os_id); first | ((with_reducible apply os_x); exact rfl) | ((with_reducible apply os_storeAgg); exact rfl; exact rfl; exact rfl; exact rfl; exact rfl)) | ((with_reducible apply ox_id); first | ((with_reducible apply ox_alloc); exact rfl; intro _) | ((with_reducible apply ox_boxAgg); exact rfl; intro _)) | ((with_reducible apply rd_id); first | (apply Rd.own; (repeat (first | exact P0 | apply P1)); exact rfl; done)) | ((with_reducible apply t_id); first | ((with_reducible apply t_seq)) | (apply t_region; kernel_rfl) | (apply t_drawn; kernel_rfl; decide +kernel; try simp only [List.append_eq, List.cons_append, List.nil_append]) | ((with_reducible apply t_condT); exact rfl) | ((with_reducible apply t_condF); exact rfl) | ((with_reducible apply t_ret)) | ((with_reducible apply t_skip))) | with_reducible apply q_thenN | with_reducible apply q_thenR | exact P0 | exact Rdn.zero | apply Rdn.succ | ((with_reducible apply Norm.nil); exact rfl) | ((with_reducible apply Norm.cons); exact rfl) | ((with_reducible apply end_ret)) | exact rvs_nil | ((with_reducible apply rvs_cons)) | ((with_reducible apply rv_tmp); exact rfl) | exact Nat.le_of_ble_eq_true rfl)
          all_goals rfl
        · refine enterQ (c := cx w 210) Try.func18 rfl rfl rfl rfl ?_
          repeat' (first | ((with_reducible apply oq_id); first | ((with_reducible apply oq_neX26F); exact rfl; exact rfl; exact ⟨by omega, rfl⟩) | ((with_reducible apply oq_lssF); exact rfl; exact rfl; omega) | ((with_reducible apply oq_gtrF); exact rfl; exact rfl; omega) | ((with_reducible apply oq_neqT); exact rfl; exact rfl; omega) | ((with_reducible apply oq_neqF); exact rfl; exact rfl; omega) | (apply oq_fn; exact rfl; first | exact trivial | (refine ⟨?_, ?_⟩ <;> omega) | (refine ⟨?_, ?_, ?_⟩ <;> omega) | omega | skip) | ((with_reducible apply oq_load); exact rfl; exact rfl) | ((with_reducible apply oq_loadAgg); exact rfl; exact rfl) | ((with_reducible apply oq_call (k := 48) (hc := Try.call48)); exact rfl; exact rfl; exact fun D w1 hw1 => alive_calls w1) | ((with_reducible apply oq_call (k := 52) (hc := Try.call52)); exact rfl; exact rfl; exact fun D w1 hw1 => span_calls _ _ w1) | ((with_reducible apply oq_call (k := 44) (hc := Try.call44)); exact rfl; exact rfl; exact fun D w1 hw1 => HV w1) | ((with_reducible apply oq_call (k := 46) (hc := Try.call46)); exact rfl; exact rfl; exact fun D w1 hw1 => HA w1) | ((with_reducible apply oq_call (k := 46) (hc := Try.call46)); exact rfl; exact rfl; exact fun D w1 hw1 => HB w1) | ((with_reducible apply oq_call (k := 46) (hc := Try.call46)); exact rfl; exact rfl; exact fun D w1 hw1 => HC w1)) | ((with_reducible apply tl_id); first | ((with_reducible apply tl_nil)) | ((with_reducible apply u_q); exact rfl; exact rfl; exact rfl; exact rfl) | ((with_reducible apply u_s0); exact rfl; exact rfl) | ((with_reducible apply u_s); exact rfl; exact rfl; exact rfl) | ((with_reducible apply u_skip); exact rfl; exact rfl; exact rfl)) | ((with_reducible apply gx_id); first | ((with_reducible apply v_nil)) | ((with_reducible apply v_q); exact rfl; exact rfl; exact rfl)) | ((with_reducible apply os_id); first | ((with_reducible apply os_x); exact rfl) | ((with_reducible apply os_storeAgg); exact rfl; exact rfl; exact rfl; exact rfl; exact rfl)) | ((with_reducible apply ox_id); first | ((with_reducible apply ox_alloc); exact rfl; intro _) | ((with_reducible apply ox_boxAgg); exact rfl; intro _)) | ((with_reducible apply rd_id); first | (apply Rd.own; (repeat (first | exact P0 | apply P1)); exact rfl; done)) | ((with_reducible apply t_id); first | ((with_reducible apply t_seq)) | (apply t_region; kernel_rfl) | (apply t_drawn; kernel_rfl; decide +kernel; try simp only [List.append_eq, List.cons_append, List.nil_append]) | ((with_reducible apply t_condT); exact rfl) | ((with_reducible apply t_condF); exact rfl) | ((with_reducible apply t_ret)) | ((with_reducible apply t_skip))) | with_reducible apply q_thenN | with_reducible apply q_thenR | exact P0 | exact Rdn.zero | apply Rdn.succ | ((with_reducible apply Norm.nil); exact rfl) | ((with_reducible apply Norm.cons); exact rfl) | ((with_reducible apply end_ret)) | exact rvs_nil | ((with_reducible apply rvs_cons)) | ((with_reducible apply rv_tmp); exact rfl) | exact Nat.le_of_ble_eq_true rfl)
          all_goals rfl
  · have e1 : alongV a b c d dx dy = (0, 0, windE a b c d) := by unfold alongV; rw [if_neg hw]
    rw [e1] at HA
    dsimp only at HA
    generalize windE a b c d = E at *
    refine enterQ (c := cx w 210) Try.func18 rfl rfl rfl rfl ?_
    repeat' (first | ((with_reducible apply oq_id); first | ((with_reducible apply oq_same26); exact rfl; exact rfl) | ((with_reducible apply oq_neqT); exact rfl; exact rfl; omega) | (apply oq_fn; exact rfl; first | exact trivial | (refine ⟨?_, ?_⟩ <;> omega) | (refine ⟨?_, ?_, ?_⟩ <;> omega) | omega | skip) | ((with_reducible apply oq_loadAgg); exact rfl; exact rfl) | ((with_reducible apply oq_call (k := 48) (hc := Try.call48)); exact rfl; exact rfl; exact fun D w1 hw1 => alive_calls w1) | ((with_reducible apply oq_call (k := 46) (hc := Try.call46)); exact rfl; exact rfl; exact fun D w1 hw1 => HA w1) | ((with_reducible apply oq_build); exact rfl; exact rfl; exact rfl)) | ((with_reducible apply tl_id); first | ((with_reducible apply tl_nil)) | ((with_reducible apply u_q); exact rfl; exact rfl; exact rfl; exact rfl) | ((with_reducible apply u_s0); exact rfl; exact rfl) | ((with_reducible apply u_s); exact rfl; exact rfl; exact rfl)) | ((with_reducible apply os_id); first | ((with_reducible apply os_x); exact rfl) | ((with_reducible apply os_storeAgg); exact rfl; exact rfl; exact rfl; exact rfl; exact rfl)) | ((with_reducible apply ox_id); first | ((with_reducible apply ox_alloc); exact rfl; intro _) | ((with_reducible apply ox_boxAgg); exact rfl; intro _)) | ((with_reducible apply rd_id); first | (apply Rd.own; (repeat (first | exact P0 | apply P1)); exact rfl; done)) | ((with_reducible apply t_id); first | ((with_reducible apply t_seq)) | (apply t_region; kernel_rfl) | ((with_reducible apply t_condT); exact rfl) | ((with_reducible apply t_ret))) | with_reducible apply q_thenN | with_reducible apply q_thenR | exact P0 | exact Rdn.zero | apply Rdn.succ | ((with_reducible apply Norm.nil); exact rfl) | ((with_reducible apply Norm.cons); exact rfl) | ((with_reducible apply end_ret)) | exact rvs_nil | ((with_reducible apply rvs_cons)) | ((with_reducible apply rv_tmp); exact rfl) | exact Nat.le_of_ble_eq_true rfl)
    all_goals rfl

end Go.Proofs.Ytalidommelefaaa
