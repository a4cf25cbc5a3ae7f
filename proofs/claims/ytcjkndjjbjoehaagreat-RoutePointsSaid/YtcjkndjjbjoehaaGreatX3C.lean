/- A part of the proof: rules for walks, and contracts of functions (3). -/
import Derived.Test.YtcjkndjjbjoehaaGreatX3B
import Derived.Laws.StructEq
import Derived.Test.YtcjkndjjbjoehaaGreatX3A
import Derived.Laws.MakeOwn
set_option linter.unusedVariables false
set_option linter.unusedSimpArgs false
set_option maxRecDepth 100000
set_option maxHeartbeats 2000000
namespace Go.Proofs.YtcjkndjjbjoehaaGreat
theorem goF0 {G A1 A2 A3 A4 A5 A6 A7 A8 A9 A10 A11 A12 A13 A14 A15 A16 : Prop} (p : GoP A1 A2 A3 A4 A5 A6 A7 A8 A9 A10 A11 A12 A13 A14 A15 A16) (h : GoL A1 → GoL A2 → GoL A3 → GoL A4 → GoL A5 → GoL A6 → GoL A7 → GoL A8 → GoL A9 → GoL A10 → GoL A11 → GoL A12 → GoL A13 → GoL A14 → GoL A15 → GoL A16 → GoM → G := by intro m1 m2 m3 m4 m5 m6 m7 m8 m9 m10 m11 m12 m13 m14 m15 m16 _; (repeat' (first | ((with_reducible apply oq_id); first | ((with_reducible apply oc_id); first | ((with_reducible apply oq_call (k := f) (hc := hc)); exact rfl; exact rfl; exact fun D w1 hw1 => hf' w1 hw1.ext.ext) | ((with_reducible apply oq_call (k := 164) (hc := Tryz.call164)); exact rfl; exact rfl; exact fun D w1 hw1 => down_calls _ _ (by omega) (by omega) (by first | exact M1 | exact M2) w1) | ((with_reducible apply oq_call (k := 143) (hc := Tryz.call143)); exact rfl; exact rfl; exact fun D w1 hw1 => around2 hw1 (by (repeat (first | exact P0 | apply P1)))) | ((with_reducible apply oq_call (k := 120) (hc := Tryz.call120)); exact rfl; exact rfl; exact fun D w1 hw1 => fromOne h0 hw1 (by (repeat (first | exact P0 | apply P1)))) | ((with_reducible apply oq_call (k := 120) (hc := Tryz.call120)); exact rfl; exact rfl; exact fun D w1 hw1 => fromOne h1 hw1 (by (repeat (first | exact P0 | apply P1)))) | ((with_reducible apply oq_call (k := 120) (hc := Tryz.call120)); exact rfl; exact rfl; exact fun D w1 hw1 => fromOne h3 hw1 (by (repeat (first | exact P0 | apply P1)))) | ((with_reducible apply oq_call (k := 121) (hc := Tryz.call121)); exact rfl; exact rfl; exact fun D w1 hw1 => inside_at _ _ _ _ h4 w1) | ((with_reducible apply oq_call (k := 121) (hc := Tryz.call121)); exact rfl; exact rfl; exact fun D w1 hw1 => inside_at _ _ _ _ h5 w1) | ((with_reducible apply oq_call (k := 158) (hc := Tryz.call158)); exact rfl; exact rfl; exact fun D w1 hw1 => within_q _ _ _ h0 w1) | ((with_reducible apply oq_call (k := 158) (hc := Tryz.call158)); exact rfl; exact rfl; exact fun D w1 hw1 => within_q _ _ _ h1 w1) | ((with_reducible apply oq_call (k := 158) (hc := Tryz.call158)); exact rfl; exact rfl; exact fun D w1 hw1 => within_q _ _ _ h3 w1) | ((with_reducible apply oq_call (k := 159) (hc := Tryz.call159)); exact rfl; exact rfl; exact fun D w1 hw1 => in_q _ _ _ _ h4 w1) | ((with_reducible apply oq_call (k := 159) (hc := Tryz.call159)); exact rfl; exact rfl; exact fun D w1 hw1 => in_q _ _ _ _ h5 w1)) | (focus ((with_reducible apply oq_shr1N (a := i + j)); exact rfl; exact rfl; omega)) | ((with_reducible apply oq_subE (k := (j : Int))); exact rfl; exact rfl; omega) | ((with_reducible apply oq_addE (k := ((j + 1 + 1 : Nat) : Int))); exact rfl; exact rfl; omega) | (focus ((apply oq_fn); exact rfl; exact ⟨by omega, r1⟩)) | (focus ((with_reducible apply oq_convU); exact rfl; exact rfl; exact rfl; (refine ⟨?_, ?_⟩ <;> omega))) | (focus ((with_reducible apply oq_indexAddrN); exact rfl; exact rfl; exact rfl; exact rfl; omega)) | (apply oq_fn; exact rfl; first | exact trivial | (refine ⟨?_, ?_⟩ <;> omega) | (refine ⟨?_, ?_, ?_⟩ <;> omega) | omega | skip) | ((with_reducible apply oq_load); exact rfl; exact rfl) | ((with_reducible apply oq_build); exact rfl; exact rfl; exact rfl) | ((with_reducible apply oq_loadAgg); exact rfl; exact rfl)) | ((with_reducible apply tl_id); first | ((with_reducible apply tl_nil)) | ((with_reducible apply u_q); exact rfl; exact rfl; exact rfl; exact rfl) | ((with_reducible apply u_s0); exact rfl; exact rfl) | ((with_reducible apply u_s); exact rfl; exact rfl; exact rfl) | ((with_reducible apply u_skip); exact rfl; exact rfl; exact rfl) | ((with_reducible apply u_splitD); exact rfl; exact rfl; all_goals first | (intro _; try (exfalso; omega)) | skip) | ((with_reducible apply u_split); exact rfl; exact rfl; all_goals first | intro _ | skip)) | ((with_reducible apply gx_id); first | ((with_reducible apply v_nil)) | ((with_reducible apply v_q); exact rfl; exact rfl; exact rfl) | ((with_reducible apply v_skip); exact rfl; exact rfl; exact rfl) | ((with_reducible apply v_splitD); exact rfl; exact rfl; all_goals first | (intro _; try (exfalso; omega)) | skip) | ((with_reducible apply v_split); exact rfl; exact rfl; all_goals first | intro _ | skip)) | ((with_reducible apply os_id); first | ((with_reducible apply os_x); exact rfl) | ((with_reducible apply os_storeAgg); exact rfl; exact rfl; exact rfl; exact rfl; exact rfl)) | ((with_reducible apply ox_id); first | ((with_reducible apply ox_alloc); exact rfl; intro _) | ((with_reducible apply ox_buildSlice2); exact rfl; exact rfl; exact rfl; exact rfl; exact rfl; exact rfl; intro _) | ((with_reducible apply ox_buildSlice1); exact rfl; exact rfl; exact rfl; exact rfl; exact rfl; exact rfl; intro _) | ((with_reducible apply ox_boxAgg); exact rfl; intro _)) | ((with_reducible apply ai_id); first | ((with_reducible apply ai_s0); exact rfl; exact rfl; exact rfl; exact rfl) | ((with_reducible apply ai_q); exact rfl; exact rfl; exact rfl; exact rfl; exact rfl) | ((with_reducible apply ai_x); exact rfl; exact rfl; exact rfl; exact rfl; exact rfl) | ((with_reducible apply ai_skip); exact rfl; exact rfl; exact rfl; exact rfl)) | ((with_reducible apply rd_id); first | (apply Rd.old; exact m0; exact List.not_mem_nil) | (apply Rd.old; (first | (with_reducible assumption) | exact c0 | exact c1 | exact c2); first | exact List.not_mem_nil | exact m0 | exact m1) | (apply Rd.old; (first | exact c0 | exact c5 | exact d0 | exact e0); exact List.not_mem_nil) | (apply Rd.own; (repeat (first | exact P0 | apply P1)); exact rfl; done)) | ((with_reducible apply t_id); first | ((with_reducible apply t_seq)) | (apply t_region; kernel_rfl) | (apply t_drawn; kernel_rfl; decide +kernel) | ((with_reducible apply t_condT); exact rfl) | ((with_reducible apply t_condF); exact rfl) | ((with_reducible apply t_condD); exact rfl; all_goals first | (intro _; try (exfalso; omega)) | skip) | ((with_reducible apply t_cond); exact rfl; all_goals first | intro _ | skip) | ((with_reducible apply t_ret)) | ((with_reducible apply t_exit)) | ((with_reducible apply t_skip)) | ((with_reducible apply t_block))) | with_reducible apply q_thenN | with_reducible apply q_thenE | ((with_reducible apply q_blockE); exact rfl) | with_reducible apply q_thenR | with_reducible apply q_blockR | with_reducible apply q_blockN | exact P0 | ((with_reducible apply P1)) | exact Rdn.zero | apply Rdn.succ | ((with_reducible apply Norm.nil); exact rfl) | ((with_reducible apply Norm.cons); exact rfl) | ((with_reducible apply end_ret)) | exact rvs_nil | ((with_reducible apply rvs_cons)) | ((with_reducible apply rv_tmp); exact rfl) | ((with_reducible apply rv_cellAgg); exact rfl; exact rfl) | (apply t_mix (id := 5) [0, 1, 2, 3, 4, 5, 6, 7, 8, 9, 10, 11, 12, 13, 14, 15, 16, 17, 18, 19, 20, 21, 22, 23, 24, 25, 26, 27, 28, 29, 30] 1 #[false, false, false, false, false, false, false, false, false, false, false, false, false, false, false, false, false, false, false, false, false, false, false, false, false, false, false, false, false, false, false, true]; kernel_rfl; kernel_rfl; exact rfl) | (apply t_mix (id := 6) [0, 1] 25 #[false, false, false, false, false, false, false, false, false, false, false, false, false, false, false, false, false, false, false, false, false, false, false, false, false, false, false]; kernel_rfl; kernel_rfl; exact rfl) | ((with_reducible apply al_id); first | (apply al_more [4, 5, 6, 7, 8, 9, 10, 11, 12, 13, 14, 15, 16, 17, 18, 19, 20, 21, 22] 4; decide +kernel; exact rfl; exact rfl; focus (repeat (first | exact HpSub.refl _ | (apply HpSub.cons; (repeat (first | exact P0 | apply P1))) | exact HpSub.nil))) | (apply al_more [25, 26] 0; decide +kernel; exact rfl; exact rfl; focus (repeat (first | exact HpSub.refl _ | (apply HpSub.cons; (repeat (first | exact P0 | apply P1))) | exact HpSub.nil))) | (apply al_done; decide +kernel) | (apply al_one 31; decide +kernel) | (apply al_one 2; decide +kernel) | (apply al_one 3; decide +kernel) | (apply al_one 23; decide +kernel) | (apply al_one 24; decide +kernel)) | exact Nat.le_of_ble_eq_true rfl)); (try focus (repeat (rename_i x; first | exact goD x m1.p | revert x))); (try focus (repeat (rename_i x; first | exact goD x m2.p | revert x))); (try focus (repeat (rename_i x; first | exact goD x m3.p | revert x))); (try focus (repeat (rename_i x; first | exact goD x m4.p | revert x))); (try focus (repeat (rename_i x; first | exact goD x m5.p | revert x))); (try focus (repeat (rename_i x; first | exact goD x m6.p | revert x))); (try focus (repeat (rename_i x; first | exact goD x m7.p | revert x))); (try focus (repeat (rename_i x; first | exact goD x m8.p | revert x))); (try focus (repeat (rename_i x; first | exact goD x m9.p | revert x))); (try focus (repeat (rename_i x; first | exact goD x m10.p | revert x))); (try focus (repeat (rename_i x; first | exact goD x m11.p | revert x))); (try focus (repeat (rename_i x; first | exact goD x m12.p | revert x))); (try focus (repeat (rename_i x; first | exact goD x m13.p | revert x))); (try focus (repeat (rename_i x; first | exact goD x m14.p | revert x))); (try focus (repeat (rename_i x; first | exact goD x m15.p | revert x))); (try focus (repeat (rename_i x; first | exact goD x m16.p | revert x)))) (e : GoTs A1 A2 A3 A4 A5 A6 A7 A8 A9 A10 A11 A12 A13 A14 A15 A16 := by constructor <;> first | (with_reducible exact GoT.t) | exact GoT.u) : G := p.run h
open Go.RowKit
attribute [local irreducible] OQ OS OX Rd T TL GX GL AL AI RV wpG SAny Calls
theorem sized_calls (a b : Int) (ha : -1099511627776 ≤ a) (hb : b ≤ 1099511627776) (w : World) : Calls Tryz.prog 142 #[.agg #[.int .i64 a, .int .i64 b]] w fun e w' => e = .returned (.tuple #[.agg #[.int .i64 a, .int .i64 b], .int .i64 0]) ∧ Ext w w' := by
  refine enterQ (c := cx w 14) Tryz.func142 rfl rfl rfl rfl ?_
  ((all_goals refine goE0 ?_); (all_goals constructor); (any_goals exact trivial); all_goals intros)
  all_goals rfl
theorem add_calls (a b c d : Int) (h : -1000000000 ≤ a ∧ a ≤ b ∧ b ≤ 1000000000) (k : -1000000000 ≤ c ∧ c ≤ d ∧ d ≤ 1000000000) (w : World) : Calls Tryz.prog 155 #[.agg #[.int .i64 a, .int .i64 b], .agg #[.int .i64 c, .int .i64 d]] w fun e w' => e = .returned (.tuple #[.agg #[.int .i64 (a + c), .int .i64 (b + d)], .int .i64 0]) ∧ Ext w w' := by
  have hq : (fineS (a, b) && fineS (c, d)) = true := by rw [Bool.and_eq_true, fineS_iff, fineS_iff]; simp only; omega
  refine enterQ (c := cx w 26) Tryz.func155 rfl rfl rfl rfl ?_
  ((all_goals refine goE0 ?_); (all_goals constructor); (any_goals exact trivial); all_goals intros)
  all_goals rfl
def hullS (a b : Int × Int) : Int × Int := (min a.1 b.1, max a.2 b.2)
def hullA (s : Int × Int) (l : List (Int × Int)) : Int × Int := l.foldl hullS s
theorem hullA_take (s : Int × Int) (l : List (Int × Int)) (k : Nat) (x : Int × Int) (h : l[k]? = some x) : hullA s (l.take (k + 1)) = hullS (hullA s (l.take k)) x := by
  unfold hullA
  rw [List.take_add_one, h, List.foldl_append]
  rfl
theorem hullA_one {s : Int × Int} {l : List (Int × Int)} (h : l[0]? = some s) : hullA s (l.take (0 + 1)) = s := by
  rw [hullA_take s l 0 s h]
  simp [hullA, hullS]
theorem around_calls (A : Option Addr) (n cp : Nat) (s : Int × Int) (l : List (Int × Int)) (w : World) (hr : RdS w 2 A n (l.map spanCells)) (hn : n ≤ 1000000) (h0 : l[0]? = some s) (hcp : 1 < cp) (hn1 : 1 ≤ n) :
    Calls Tryz.prog 143 #[.slice A n cp] w fun e w' => e = .returned (.agg #[.int .i64 (hullA s l).1, .int .i64 (hullA s l).2]) ∧ Ext w w' := by
  have hl := hr.len
  simp only [List.length_map] at hl
  obtain ⟨b0, o, x, rfl, hb, hkx, c0, c1⟩ := span_read hr (show 0 < n by omega)
  obtain rfl : s = x := by rw [hkx] at h0; exact (Option.some.inj h0).symm
  refine enterQ (c := cx w 30) Tryz.func143 rfl rfl rfl rfl ?_
  ((all_goals refine goE0 ?_); (all_goals constructor); (any_goals exact trivial); all_goals intros)
  rename_i b2 b3
  apply t_loopK (ι := Nat) [2, 3, 10, 11, 29] (fun k => [(12, .int .i64 (k : Nat))]) (fun k => [(b3, [.int .i64 (hullA s (l.take (k + 1))).1, .int .i64 (hullA s (l.take (k + 1))).2], some (27, 2, 1))]) (fun k => k ≤ n - 1) (fun k => n - 1 - k) (0)
  (repeat (first | exact KeepF.nil | (apply KeepF.cons; exact rfl) | apply KeepF.skip))
  (repeat (first | exact FrSub.nil | (apply FrSub.cons; exact rfl)))
  (repeat (first | exact HpSub.refl _ | (apply HpSub.consE; (repeat (first | exact P0 | apply P1)); first | exact rfl | ((rw [hullA_one h0]))) | exact HpSub.nil))
  · omega
  intro k hk
  try simp only [List.cons_append, List.nil_append]
  clear c0 c1
  by_cases hlt : k < n - 1
  · obtain ⟨b1, o1, x, hA, _, hkx2, c0, c1⟩ := span_read hr (show k + 1 < n by omega)
    obtain ⟨rfl, rfl⟩ : b1 = b0 ∧ o1 = o := by simpa using hA.symm
    rw [show o1 + (k + 1) * 2 = o1 + 1 * 2 + k * 2 by omega] at c0 c1
    ((all_goals refine goE0 ?_); (all_goals constructor); (any_goals exact trivial); all_goals intros)
    all_goals
      refine ⟨k + 1, by omega, by omega, ?_, ?_⟩
      · try simp only [List.cons_append, List.nil_append]
        (repeat (first | exact FrSub.nil | (apply FrSub.cons; exact rfl)))
      · try simp only [List.cons_append, List.nil_append]
        (repeat (first | exact HpSub.refl _ | (apply HpSub.consE; (repeat (first | exact P0 | apply P1)); first | exact rfl | (rw [hullA_take _ _ _ _ hkx2]; rfl)) | exact HpSub.nil))
  · have hkn : l.take (k + 1) = l := List.take_of_length_le (by omega)
    ((all_goals refine goE0 ?_); (all_goals constructor); (any_goals exact trivial); all_goals intros)
    rw [hkn]
    rfl
def ShP (n q k : Int) : Prop := (0 ≤ n ∧ (k ≤ 0 ∨ k * k * q ≤ n * n)) ∨ (n < 0 ∧ k < 0 ∧ n * n ≤ k * k * q)
theorem sq_mono {j k : Int} (h0 : 0 ≤ j) (h : j ≤ k) : j * j ≤ k * k := Int.mul_le_mul h h h0 (by omega)
theorem sq_neg (k : Int) : k * k = (-k) * (-k) := by rw [Int.neg_mul_neg]
theorem ShP.mono {n q j k : Int} (hq : 0 < q) (h : ShP n q k) (hj : j ≤ k) : ShP n q j := by
  rcases h with ⟨h0, h1⟩ | ⟨h0, h1, h2⟩
  · refine .inl ⟨h0, ?_⟩
    by_cases hj0 : j ≤ 0
    · exact .inl hj0
    · rcases h1 with h1 | h1
      · omega
      · exact .inr (Int.le_trans (Int.mul_le_mul_of_nonneg_right (sq_mono (by omega) hj) (by omega)) h1)
  · refine .inr ⟨h0, by omega, Int.le_trans h2 (Int.mul_le_mul_of_nonneg_right ?_ (by omega))⟩
    rw [sq_neg j, sq_neg k]
    exact sq_mono (by omega) (by omega)
/-- r is n divided by the root of q, rounded down. -/
def IsSh (n q r : Int) : Prop := ShP n q r ∧ ¬ ShP n q (r + 1)
theorem IsSh.uniq {n q r s : Int} (hq : 0 < q) (h : IsSh n q r) (k : IsSh n q s) : r = s := by
  rcases Int.lt_trichotomy r s with h1 | h1 | h1
  · exact absurd (k.1.mono hq (by omega)) h.2
  · exact h1
  · exact absurd (h.1.mono hq (by omega)) k.2
noncomputable def shV (n q : Int) : Int := open Classical in if h : ∃ r, IsSh n q r then Classical.choose h else 0
theorem IsSh.val {n q r : Int} (hq : 0 < q) (h : IsSh n q r) : shV n q = r := by
  have hx : ∃ r, IsSh n q r := ⟨r, h⟩
  unfold shV
  rw [dif_pos hx]
  exact (Classical.choose_spec hx).uniq hq h
theorem part_facts {n q k : Int} (hq : 0 < q) (h : IsR ((n * n).tdiv q) k) : k * k * q ≤ n * n ∧ n * n < (k + 1) * (k + 1) * q := by
  have hn : 0 ≤ n * n := by
    rcases Int.le_total 0 n with h | h
    · exact Int.mul_nonneg h h
    · rw [sq_neg]; exact Int.mul_nonneg (by omega) (by omega)
  rw [Int.tdiv_eq_ediv_of_nonneg hn] at h
  have h1 := Int.ediv_mul_le (n * n) (Int.ne_of_gt hq)
  have h2 := Int.lt_ediv_add_one_mul_self (n * n) hq
  refine ⟨Int.le_trans (Int.mul_le_mul_of_nonneg_right h.2.1 (by omega)) h1, Int.lt_of_lt_of_le h2 (Int.mul_le_mul_of_nonneg_right ?_ (by omega))⟩
  have := h.2.2
  omega
theorem isSh_pos {n q k : Int} (hn : 0 ≤ n) (h0 : 0 ≤ k) (h1 : k * k * q ≤ n * n) (h2 : n * n < (k + 1) * (k + 1) * q) : IsSh n q k := by
  refine ⟨.inl ⟨hn, .inr h1⟩, ?_⟩
  rintro (⟨_, h | h⟩ | ⟨h, _⟩) <;> omega
theorem isSh_neg1 {n q k : Int} (hn : n < 0) (h0 : 0 ≤ k) (h1 : k * k * q < n * n) (h2 : n * n < (k + 1) * (k + 1) * q) : IsSh n q (-(k + 1)) := by
  refine ⟨.inr ⟨hn, by omega, ?_⟩, ?_⟩
  · rw [← sq_neg]; omega
  · rintro (⟨h, _⟩ | ⟨_, h, h3⟩)
    · omega
    · rw [show -(k + 1) + 1 = -k by omega, ← sq_neg] at h3
      omega
theorem isSh_neg0 {n q k : Int} (hq : 0 < q) (hn : n < 0) (h0 : 0 ≤ k) (h1 : ¬ k * k * q < n * n) (h2 : k * k * q ≤ n * n) : IsSh n q (-k) := by
  have hnn : 0 < n * n := by rw [sq_neg]; exact Int.mul_pos (by omega) (by omega)
  have hk : 0 < k := by
    rcases Int.lt_or_le 0 k with h | h
    · exact h
    · obtain rfl : k = 0 := by omega
      simp at h1; omega
  refine ⟨.inr ⟨hn, by omega, ?_⟩, ?_⟩
  · rw [← sq_neg]; omega
  · rintro (⟨h, _⟩ | ⟨_, h, h3⟩)
    · omega
    · rw [show -k + 1 = -(k - 1) by omega, ← sq_neg] at h3
      have h4 : (k - 1) * (k - 1) < k * k := by
        rw [Int.sub_mul, Int.mul_sub]; omega
      have := Int.mul_lt_mul_of_pos_right h4 hq
      omega
theorem mul_abs {x y a b : Int} (hx : -a ≤ x ∧ x ≤ a) (hy : -b ≤ y ∧ y ≤ b) : -(a * b) ≤ x * y ∧ x * y ≤ a * b := by
  have key : ∀ {x y : Int}, 0 ≤ x → x ≤ a → -b ≤ y ∧ y ≤ b → -(a * b) ≤ x * y ∧ x * y ≤ a * b := fun {x y} h0 h1 hy => by
    have e : ∀ {z : Int}, 0 ≤ z → z ≤ b → 0 ≤ x * z ∧ x * z ≤ a * b := fun hz hb => ⟨Int.mul_nonneg h0 hz, Int.mul_le_mul h1 hb hz (by omega)⟩
    rcases Int.le_total 0 y with h | h
    · have := e h hy.2; omega
    · have := e (z := -y) (by omega) (by omega)
      rw [Int.mul_neg] at this; omega
  rcases Int.le_total 0 x with h | h
  · exact key h hx.2 hy
  · have := key (x := -x) (by omega) (by omega) hy
    rw [Int.neg_mul] at this; omega
theorem share_calls (n q : Int) (hq : 1 ≤ q) (hq1 : q ≤ 200000000) (h8 : n * n ≤ 8000000 * q) (w : World) : Calls Tryz.prog 156 #[.int .i64 n, .int .i64 q] w fun e w' => e = .returned (.int .i64 (shV n q)) ∧ Ext w w' := by
  have hnn : InR (n * n) := by
    have : 0 ≤ n * n := by
      rcases Int.le_total 0 n with h | h
      · exact Int.mul_nonneg h h
      · rw [sq_neg]; exact Int.mul_nonneg (by omega) (by omega)
    exact ⟨by omega, by omega⟩
  refine enterQ (c := cx w 55) Tryz.func156 rfl rfl rfl rfl ?_
  ((all_goals refine goE0 ?_); (all_goals constructor); (any_goals exact trivial); all_goals intros)
  apply t_loopK (ι := (Int × Int)) [0, 1, 4, 54] (fun (i : Int × Int) => [(5, .int .i64 i.1), (6, .int .i64 i.2)]) (fun _ => []) (fun i => -4000 ≤ i.1 ∧ i.1 < i.2 ∧ i.2 ≤ 4000 ∧ ShP n q i.1 ∧ ¬ ShP n q i.2) (fun i => (i.2 - i.1).toNat) ((-4000, 4000))
  (repeat (first | exact KeepF.nil | (apply KeepF.cons; exact rfl) | apply KeepF.skip))
  (repeat (first | exact FrSub.nil | (apply FrSub.cons; exact rfl)))
  (repeat (first | exact HpSub.refl _ | (apply HpSub.consE; (repeat (first | exact P0 | apply P1)); exact rfl) | exact HpSub.nil))
  · simp only; unfold ShP; omega
  rintro ⟨a, b⟩ ⟨i0, i1, i2, i3, i4⟩
  simp only at i0 i1 i2 i3 i4
  obtain ⟨m, hm⟩ : ∃ m, m = (a + b).tdiv 2 := ⟨_, rfl⟩
  have hm0 : a ≤ m ∧ m ≤ b ∧ (1 < b - a → a < m ∧ m < b) := by
    rcases Int.le_total 0 (a + b) with h | h
    · rw [Int.tdiv_eq_ediv_of_nonneg h] at hm; omega
    · have : (a + b).tdiv 2 = -((-(a + b)).tdiv 2) := by rw [Int.neg_tdiv, Int.neg_neg]
      rw [this, Int.tdiv_eq_ediv_of_nonneg (by omega)] at hm; omega
  have h1 := mul_abs (x := m) (y := m) (a := 4000) (b := 4000) (by omega) (by omega)
  have h2 := mul_abs (x := m * m) (y := q) (a := 16000000) (b := 200000000) (by omega) (by omega)
  have r1 : InR (m * m) := ⟨by omega, by omega⟩
  have r2 : InR (m * m * q) := ⟨by omega, by omega⟩
  rw [hm] at r1 r2
  have r3 : InR ((a + b).tdiv 2) := by rw [← hm]; exact ⟨by omega, by omega⟩
  dsimp only
  repeat' (first | ((with_reducible apply oq_id); first | (apply oq_fn; exact rfl; first | exact trivial | (refine ⟨?_, ?_⟩ <;> omega) | (refine ⟨?_, ?_, ?_⟩ <;> omega) | omega | skip)) | ((with_reducible apply tl_id); first | ((with_reducible apply tl_nil)) | ((with_reducible apply u_q); exact rfl; exact rfl; exact rfl; exact rfl) | ((with_reducible apply u_skip); exact rfl; exact rfl; exact rfl) | ((with_reducible apply u_splitD); exact rfl; exact rfl; all_goals first | (intro hp; try (exfalso; omega)) | skip)) | ((with_reducible apply t_id); first | ((with_reducible apply t_seq)) | (apply t_region; kernel_rfl) | ((with_reducible apply t_condF); exact rfl) | ((with_reducible apply t_condD); exact rfl; all_goals first | (intro hp; try (exfalso; omega)) | skip) | ((with_reducible apply t_ret)) | ((with_reducible apply t_skip)) | ((with_reducible apply t_exit)) | ((with_reducible apply t_block))) | with_reducible apply q_thenN | with_reducible apply q_blockN | with_reducible apply q_thenE | ((with_reducible apply q_blockE); exact rfl) | ((with_reducible apply end_ret)) | exact rvs_nil | ((with_reducible apply rvs_cons)) | ((with_reducible apply rv_tmp); exact rfl))
  all_goals try rw [← hm] at *
  all_goals first
    | (refine ⟨(m, b), ⟨by simp only; omega, by simp only; omega, i2, by simp only; unfold ShP; omega, i4⟩, by simp only; omega, ?_, ?_⟩ <;> (repeat' (first | exact FrSub.nil | (apply FrSub.cons; exact rfl) | exact HpSub.refl _)))
    | (refine ⟨(a, m), ⟨i0, by simp only; omega, by simp only; omega, i3, by simp only; unfold ShP; omega⟩, by simp only; omega, ?_, ?_⟩ <;> (repeat' (first | exact FrSub.nil | (apply FrSub.cons; exact rfl) | exact HpSub.refl _)))
    | (obtain rfl : b = a + 1 := by omega
       rw [IsSh.val (by omega) ⟨i3, i4⟩]; rfl)
theorem part_calls (n q : Int) (hq : 1 ≤ q) (hq1 : q ≤ 200000000) (h8 : n * n ≤ 8000000 * q) (w : World) : Calls Tryz.prog 170 #[.int .i64 n, .int .i64 q] w fun e w' => e = .returned (.int .i64 (shV n q)) ∧ Ext w w' := by
  have hn0 : 0 ≤ n * n := by
    rcases Int.le_total 0 n with h | h
    · exact Int.mul_nonneg h h
    · rw [sq_neg]; exact Int.mul_nonneg (by omega) (by omega)
  have hnn : InR (n * n) := ⟨by omega, by omega⟩
  have hd : (n * n).tdiv q = n * n / q := Int.tdiv_eq_ediv_of_nonneg hn0
  have hd0 : 0 ≤ (n * n).tdiv q := by rw [hd]; exact Int.ediv_nonneg hn0 (by omega)
  have hd1 : (n * n).tdiv q ≤ 8000000 := by rw [hd]; exact Int.ediv_le_of_le_mul (by omega) h8
  have hk := rt_spec ((n * n).tdiv q) hd0
  obtain ⟨k, ek⟩ : ∃ k, k = rt ((n * n).tdiv q) := ⟨_, rfl⟩
  rw [← ek] at hk
  obtain ⟨f1, f2⟩ := part_facts (by omega) hk
  have hk0 := hk.1
  have hk1 : k ≤ 3000 := by
    rcases Int.lt_or_le 3000 k with h | h
    · have := sq_mono (j := 3001) (k := k) (by omega) (by omega)
      have := hk.2.1; omega
    · exact h
  have g1 := mul_abs (x := k) (y := k) (a := 3000) (b := 3000) (by omega) (by omega)
  have g2 := mul_abs (x := k * k) (y := q) (a := 9000000) (b := 200000000) (by omega) (by omega)
  have r1 : InR (k * k) := ⟨by omega, by omega⟩
  have r2 : InR (k * k * q) := ⟨by omega, by omega⟩
  have r3 : InR ((n * n).tdiv q) := ⟨by omega, by omega⟩
  have r4 : InR (k + 1) := ⟨by omega, by omega⟩
  have r5 : InR (-k) := ⟨by omega, by omega⟩
  have r6 : InR (-(k + 1)) := ⟨by omega, by omega⟩
  have hS := fun w1 => sqrt_calls ((n * n).tdiv q) hd0 (by omega) w1
  rw [← ek] at hS
  refine enterQ (c := cx w 28) Tryz.func170 rfl rfl rfl rfl ?_
  repeat' (first | ((with_reducible apply oq_id); first | (apply oq_fn; exact rfl; first | exact trivial | (refine ⟨?_, ?_⟩ <;> omega) | (refine ⟨?_, ?_, ?_⟩ <;> omega) | omega | skip) | ((with_reducible apply oq_call (k := 148) (hc := Tryz.call148)); exact rfl; exact rfl; exact fun D w1 hw1 => hS w1)) | ((with_reducible apply tl_id); first | ((with_reducible apply tl_nil)) | ((with_reducible apply u_q); exact rfl; exact rfl; exact rfl; exact rfl)) | ((with_reducible apply t_id); first | ((with_reducible apply t_seq)) | (apply t_region; kernel_rfl) | ((with_reducible apply t_condD); exact rfl; all_goals first | (intro hp; try (exfalso; omega)) | skip) | ((with_reducible apply t_ret)) | ((with_reducible apply t_skip))) | with_reducible apply q_thenN | with_reducible apply q_thenR | ((with_reducible apply end_ret)) | exact rvs_nil | ((with_reducible apply rvs_cons)) | ((with_reducible apply rv_tmp); exact rfl))
  · rw [(isSh_pos (by assumption) hk0 f1 f2).val (by omega)]; rfl
  · rw [(isSh_neg1 (by omega) hk0 (by assumption) f2).val (by omega)]; rfl
  · rw [(isSh_neg0 (by omega) (by omega) hk0 (by assumption) f1).val (by omega)]; rfl
end Go.Proofs.YtcjkndjjbjoehaaGreat
namespace Go.Proofs.YtcjkndjjbjoehaaGreat
open Go.RowKit
section
variable {c : Cx} {F : Fr} {H : Hp} {d : Option Tmp} {ty t t' : TypeId} {pos : String} {af : Array Edge} {g : Option (Nat × Bool)} {x y : Operand} {m n : Int}
theorem oq_shr1U {k' : IntKind} (hx : ev F x = some (.int .u64 m)) (hy : ev F y = some (.int k' 1)) (_ : 0 ≤ m) : OQ c ⟨d, .binOp .shr t x y t', ty, pos, af, g⟩ F H (.int .u64 (m / 2)) := by
  have := oq_shr (c := c) (d := d) (ty := ty) (t := t) (t' := t') (pos := pos) (af := af) (g := g) (H := H) hx hy (by omega)
  rw [show (2 : Int) ^ (min (1 : Int).toNat IntKind.u64.bits) = 2 from rfl, Int.fdiv_eq_ediv_of_nonneg _ (by omega)] at this
  exact this
theorem oq_shr1I {k' : IntKind} (hx : ev F x = some (.int .i64 m)) (hy : ev F y = some (.int k' 1)) : OQ c ⟨d, .binOp .shr t x y t', ty, pos, af, g⟩ F H (.int .i64 (m / 2)) := by
  have := oq_shr (c := c) (d := d) (ty := ty) (t := t) (t' := t') (pos := pos) (af := af) (g := g) (H := H) hx hy (by omega)
  rw [show (2 : Int) ^ (min (1 : Int).toNat IntKind.i64.bits) = 2 from rfl, Int.fdiv_eq_ediv_of_nonneg _ (by omega)] at this
  exact this
theorem oq_shr2I {k' : IntKind} (hx : ev F x = some (.int .i64 m)) (hy : ev F y = some (.int k' 2)) : OQ c ⟨d, .binOp .shr t x y t', ty, pos, af, g⟩ F H (.int .i64 (m / 4)) := by
  have := oq_shr (c := c) (d := d) (ty := ty) (t := t) (t' := t') (pos := pos) (af := af) (g := g) (H := H) hx hy (by omega)
  rw [show (2 : Int) ^ (min (2 : Int).toNat IntKind.i64.bits) = 4 from rfl, Int.fdiv_eq_ediv_of_nonneg _ (by omega)] at this
  exact this
theorem oq_and1I (hx : ev F x = some (.int .i64 m)) (hy : ev F y = some (.int .i64 1)) (h : 0 ≤ m ∧ m ≤ 9223372036854775807) : OQ c ⟨d, .binOp .and t x y t', ty, pos, af, g⟩ F H (.int .i64 (m % 2)) := .of fun D a w ha _ => by
  have hm := and_mask (a := m) (j := 1) ⟨h.1, by omega⟩ (by omega)
  rw [show ((2 : Int) ^ 1 - 1) = 1 from rfl, show ((2 : Int) ^ 1) = 2 from rfl] at hm
  have hw : IntKind.i64.wrap (((BitVec.ofInt IntKind.i64.bits m &&& BitVec.ofInt IntKind.i64.bits 1).toNat : Nat) : Int) = m % 2 := by
    rw [show (BitVec.ofInt IntKind.i64.bits m &&& BitVec.ofInt IntKind.i64.bits 1).toNat = (m % 2).toNat from hm, Int.toNat_of_nonneg (by omega)]
    exact wrap_in ⟨by omega, by omega⟩
  simp only [execOp, ha.ev hx, ha.ev hy, eqGuard, binOp, Op.intBits]
  rw [hw]
  simp [go_sem]
end
/-- Where a piece of code ends: slots and blocks, by an index. -/
def cutQ {ι : Type} (ch : ι → Fr) (hc : ι → Hp) (G : Fr) (GH : Hp) : QS := fun e F' H' => e = .normal ∧ ∃ i, FrSub F' (ch i ++ G) ∧ HpSub H' (hc i ++ GH)
section
variable {c : Cx} {S : WS c.P} {Q : QS} {F : Fr} {H : Hp}
/-- A cut behind a region: the slots 'keep' stay, 'ch' are new, so are the blocks 'hc'; the blocks H stay. -/
theorem t_cutK {ι : Type} (rid : Nat) {ops : Array Oper} {dr : Bool} {y : Code} (keep : List Nat) (ch : ι → Fr) (hc : ι → Hp) {G : Fr} (hK : KeepF F keep G)
    (h1 : T c S (.region rid ops dr) (cutQ ch hc G H) F H) (h2 : ∀ i, T c S y Q (ch i ++ G) (hc i ++ H)) : T c S (.seq (.region rid ops dr) y) Q F H :=
  t_cut (fun i => ch i ++ G) (fun i => hc i ++ H) (fun _ => True) (fun D a w ha hw => S.mono (h1 D a w ha hw) fun e a' w' ⟨D', F', H', ⟨he, i, hF, hH⟩, h4, h5⟩ => ⟨D', F', H', ⟨he, i, trivial, hF, hH⟩, h4, h5⟩) (fun i _ => h2 i)
theorem cut_in0 {ch : Unit → Fr} {hc : Unit → Hp} {G F' : Fr} {GH H' : Hp} (h : FrSub F' (ch () ++ G)) (k : HpSub H' (hc () ++ GH)) : cutQ ch hc G GH .normal F' H' := ⟨rfl, (), h, k⟩
theorem cut_in1 {ch : Nat → Fr} {hc : Nat → Hp} {G F' : Fr} {GH H' : Hp} (i : Nat) (h : FrSub F' (ch i ++ G)) (k : HpSub H' (hc i ++ GH)) : cutQ ch hc G GH .normal F' H' := ⟨rfl, i, h, k⟩
theorem cut_in2 {ch : Nat × Nat → Fr} {hc : Nat × Nat → Hp} {G F' : Fr} {GH H' : Hp} (i j : Nat) (h : FrSub F' (ch (i, j) ++ G)) (k : HpSub H' (hc (i, j) ++ GH)) : cutQ ch hc G GH .normal F' H' := ⟨rfl, (i, j), h, k⟩
theorem cut_in3 {ch : Nat × Nat × Nat → Fr} {hc : Nat × Nat × Nat → Hp} {G F' : Fr} {GH H' : Hp} (i j l : Nat) (h : FrSub F' (ch (i, j, l) ++ G)) (k : HpSub H' (hc (i, j, l) ++ GH)) : cutQ ch hc G GH .normal F' H' := ⟨rfl, (i, j, l), h, k⟩
end
end Go.Proofs.YtcjkndjjbjoehaaGreat
namespace Go.Proofs.YtcjkndjjbjoehaaGreat
open Go.RowKit
attribute [local irreducible] OQ OS OX Rd T TL GX GL AL AI RV wpG SAny Calls
/-- The products of the ends of two spans. -/
def prI (a b c d : Int) (k : Nat) : Int := (if k % 2 = 1 then b else a) * (if k / 2 % 2 = 1 then d else c)
def prK (a b c d : Int) (k : Nat) : List (Int × Int) := (List.range 8).map fun i => if i < k then (prI a b c d i, prI a b c d i) else (0, 0)
theorem fine3 {w0 : World} {M : Ms} {H H' : Hp} {w : World} {g : Nat} {a b a' b' a'' b'' : Int} {tg : Tg} {cp : Nat} {q : Bool} (hq : (fineS (a, b) && (fineS (a', b') && fineS (a'', b''))) = q) (h : Has w0 M H w) (p : Pick H g [.int .i64 a, .int .i64 b, .int .i64 a', .int .i64 b', .int .i64 a'', .int .i64 b''] tg H') :
    Calls Tryz.prog 122 #[.slice (some ⟨g, 0, none⟩) 3 cp] w fun e w' => e = .returned (.bool q) ∧ Ext w w' := by
  have := fine_calls (some ⟨g, 0, none⟩) 3 cp [(a, b), (a', b'), (a'', b'')] w (Blk.rows (k := 2) (rows := [(a, b), (a', b'), (a'', b'')].map spanCells) (h.blk _ p.mem).2 rfl (by simp [spanCells])) (by omega)
  simp only [List.all_cons, List.all_nil, Bool.and_true, hq] at this
  exact this
theorem over1_calls (a b c d : Int) (h : -1000000 ≤ a ∧ a ≤ b ∧ b ≤ 1000000) (k0 : -1000000 ≤ c ∧ c ≤ d ∧ d ≤ 1000000) (w : World) :
    Calls Tryz.prog 119 #[.agg #[.int .i64 a, .int .i64 b], .agg #[.int .i64 c, .int .i64 d], .agg #[.int .i64 1, .int .i64 1]] w fun e w' => e = .returned (.tuple #[.agg #[.int .i64 (min (min (a * c) (b * c)) (min (a * d) (b * d))), .int .i64 (max (max (a * c) (b * c)) (max (a * d) (b * d)))], .int .i64 0]) ∧ Ext w w' := by
  have hq : (fineS (a, b) && (fineS (c, d) && fineS (1, 1))) = true := by rw [Bool.and_eq_true, Bool.and_eq_true, fineS_iff, fineS_iff, fineS_iff]; simp only; omega
  have m1 := mul_abs (x := a) (y := c) (a := 1000000) (b := 1000000) (by omega) (by omega)
  have m2 := mul_abs (x := b) (y := c) (a := 1000000) (b := 1000000) (by omega) (by omega)
  have m3 := mul_abs (x := a) (y := d) (a := 1000000) (b := 1000000) (by omega) (by omega)
  have m4 := mul_abs (x := b) (y := d) (a := 1000000) (b := 1000000) (by omega) (by omega)
  have HA : ∀ {w0 : World} {M : Ms} {H H' : Hp} {g : Nat} {tg : Tg} (w1 : World), Has w0 M H w1 → Pick H g ((prK a b c d 8).map spanCells).flatten tg H' → Calls Tryz.prog 143 #[.slice (some ⟨g, 0, none⟩) 8 8] w1 fun e w' =>
      e = .returned (.agg #[.int .i64 (min (min (a * c) (b * c)) (min (a * d) (b * d))), .int .i64 (max (max (a * c) (b * c)) (max (a * d) (b * d)))]) ∧ Ext w1 w' := fun w1 hw p => by
    have := around_calls (some ⟨_, 0, none⟩) 8 8 (a * c, a * c) (prK a b c d 8) w1 (Blk.rows (hw.blk _ p.mem).2 (by simp [prK]) (by simp only [List.mem_map]; rintro r ⟨x, _, rfl⟩; rfl)) (by omega) rfl (by omega) (by omega)
    have e : hullA (a * c, a * c) (prK a b c d 8) = (min (min (a * c) (b * c)) (min (a * d) (b * d)), max (max (a * c) (b * c)) (max (a * d) (b * d))) := by
      have : prK a b c d 8 = [(a * c, a * c), (b * c, b * c), (a * d, a * d), (b * d, b * d), (a * c, a * c), (b * c, b * c), (a * d, a * d), (b * d, b * d)] := rfl
      rw [this]
      simp only [hullA, List.foldl_cons, List.foldl_nil, hullS]
      generalize a * c = x1
      generalize b * c = x2
      generalize a * d = x3
      generalize b * d = x4
      congr 1 <;> omega
    rw [e] at this
    exact this
  refine enterQ (c := cx w 66) Tryz.func119 rfl rfl rfl rfl ?_
  ((all_goals refine goE0 ?_); (all_goals constructor); (any_goals exact trivial); all_goals intros)
  rename_i b3 b4 b5 b6 b7 b8
  apply t_loopK (ι := Nat) [3, 4, 5, 6, 7, 8, 61, 62, 63, 64, 65] (fun k => [(26, .int .i64 (k : Nat))]) (fun k => [(b8, ((prK a b c d k).map spanCells).flatten, some (236, 16, 1))]) (fun k => k ≤ 8) (fun k => 8 - k) (0)
  (repeat (first | exact KeepF.nil | (apply KeepF.cons; exact rfl) | apply KeepF.skip))
  (repeat (first | exact FrSub.nil | (apply FrSub.cons; exact rfl)))
  (repeat (first | exact HpSub.refl _ | (apply HpSub.consE; (repeat (first | exact P0 | apply P1)); exact rfl) | exact HpSub.nil))
  · omega
  intro k hk
  try simp only [List.cons_append, List.nil_append]
  by_cases hlt : k < 8
  · repeat' (first | ((with_reducible apply oq_id); first | (apply oq_fn; exact rfl; first | exact trivial | (refine ⟨?_, ?_⟩ <;> omega) | (refine ⟨?_, ?_, ?_⟩ <;> omega) | omega | skip) | ((with_reducible apply oq_load); exact rfl; exact rfl) | ((with_reducible apply oq_buildA); exact rfl; exact rfl; exact rfl; exact rfl)) | ((with_reducible apply tl_id); first | ((with_reducible apply tl_nil)) | ((with_reducible apply u_q); exact rfl; exact rfl; exact rfl; exact rfl)) | ((with_reducible apply gx_id); first | ((with_reducible apply v_nil)) | ((with_reducible apply v_q); exact rfl; exact rfl; exact rfl)) | ((with_reducible apply os_id); first | ((with_reducible apply os_storeAgg); exact rfl; exact rfl; exact rfl; exact rfl; exact rfl)) | ((with_reducible apply ox_id); first | ((with_reducible apply ox_alloc); exact rfl; intro _)) | ((with_reducible apply ai_id); first | ((with_reducible apply ai_x); exact rfl; exact rfl; exact rfl; exact rfl; exact rfl) | ((with_reducible apply ai_n0); exact rfl; exact rfl; exact rfl)) | ((with_reducible apply al_keep); focus (repeat (first | exact HpSub.refl _ | (apply HpSub.cons; (repeat (first | exact P0 | apply P1))) | exact HpSub.nil))) | ((with_reducible apply rd_id); first | (apply Rd.own; (repeat (first | exact P0 | apply P1)); exact rfl; done)) | ((with_reducible apply t_id); first | (with_reducible apply t_cutK (ι := (Nat × Nat × Nat)) (rid := 9) [3, 4, 5, 6, 7, 8, 9, 26] (fun i => [(10, .pointer (some ⟨i.1, 0, none⟩)), (11, .pointer (some ⟨i.2.1, 0, none⟩)), (12, .pointer (some ⟨i.2.2, 0, none⟩))]) (fun i => [(i.1, [.int .i64 a, .int .i64 b], some (237, 2, 1)), (i.2.1, [.int .i64 c, .int .i64 d], some (237, 2, 1)), (i.2.2, [.int .i64 1, .int .i64 1], some (237, 2, 1))])); (repeat (first | exact KeepF.nil | (apply KeepF.cons; exact rfl) | apply KeepF.skip)) | ((with_reducible apply t_seq)) | (apply t_region; kernel_rfl) | ((with_reducible apply t_condD); exact rfl; all_goals first | (intro hp; try (exfalso; omega)) | skip) | ((with_reducible apply t_skip)) | ((with_reducible apply t_block))) | with_reducible apply q_thenN | exact P0 | ((with_reducible apply P1)) | ((with_reducible apply Norm.nil); exact rfl) | ((with_reducible apply Norm.cons); exact rfl) | ((with_reducible apply cut_in3) <;> (repeat' (first | exact FrSub.nil | (apply FrSub.cons; exact rfl) | exact HpSub.refl _ | (apply HpSub.consE; (repeat (first | exact P0 | apply P1)); exact rfl) | exact HpSub.nil))) | (apply t_mix (id := 9) [0, 1, 2, 3, 4, 5, 6, 7, 8, 9, 10, 11, 12, 13, 14] 6 #[false, false, false, false, false, false, false, false, false, false, false, false, false, false, false, false, false, false, false, false, false]; kernel_rfl; kernel_rfl; exact rfl) | ((with_reducible apply al_id); first | (apply al_done; decide +kernel) | (apply al_one 15; decide +kernel) | (apply al_one 16; decide +kernel) | (apply al_one 17; decide +kernel) | (apply al_one 18; decide +kernel) | (apply al_one 19; decide +kernel) | (apply al_one 20; decide +kernel) | (apply al_two 15 16; decide +kernel) | (apply al_two 15 17; decide +kernel) | (apply al_two 16 17; decide +kernel) | (apply al_three 15 16 17; decide +kernel)) | exact Nat.le_of_ble_eq_true rfl)
    rintro ⟨b10, b11, b12⟩
    try simp only [List.cons_append, List.nil_append]
    try dsimp only
    have hk8 : k = 0 ∨ k = 1 ∨ k = 2 ∨ k = 3 ∨ k = 4 ∨ k = 5 ∨ k = 6 ∨ k = 7 := by omega
    clear hlt hk
    rcases hk8 with rfl | rfl | rfl | rfl | rfl | rfl | rfl | rfl
    · repeat' (first | ((with_reducible apply oq_id); first | (apply oq_fn; exact rfl; first | exact trivial | (refine ⟨?_, ?_⟩ <;> omega) | (refine ⟨?_, ?_, ?_⟩ <;> omega) | omega | skip) | ((with_reducible apply oq_load); exact rfl; exact rfl) | (focus ((with_reducible apply oq_and1I); exact rfl; exact rfl; (refine ⟨?_, ?_⟩ <;> omega))) | ((with_reducible apply oq_shr1I); exact rfl; exact rfl) | ((with_reducible apply oq_shr2I); exact rfl; exact rfl) | ((with_reducible apply oq_call (k := 141) (hc := Tryz.call141)); exact rfl; exact rfl; exact fun D w1 hw1 => share1_calls _ _ (by omega) (by omega) w1)) | ((with_reducible apply tl_id); first | ((with_reducible apply tl_nil)) | ((with_reducible apply u_q); exact rfl; exact rfl; exact rfl; exact rfl)) | ((with_reducible apply gx_id); first | ((with_reducible apply v_nil)) | ((with_reducible apply v_q); exact rfl; exact rfl; exact rfl)) | ((with_reducible apply os_id); first | ((with_reducible apply os_storeAgg); exact rfl; exact rfl; exact rfl; exact rfl; exact rfl)) | ((with_reducible apply ai_id); first | ((with_reducible apply ai_s0); exact rfl; exact rfl; exact rfl; exact rfl)) | ((with_reducible apply rd_id); first | (apply Rd.own; (repeat (first | exact P0 | apply P1)); exact rfl; done)) | ((with_reducible apply t_id); first | (apply t_region; kernel_rfl)) | with_reducible apply q_thenN | with_reducible apply q_blockN | exact P0 | ((with_reducible apply P1)) | ((with_reducible apply Norm.nil); exact rfl) | ((with_reducible apply Norm.cons); exact rfl) | (apply t_mix (id := 10) [0, 1, 2, 3, 4, 5, 6, 7, 8, 9, 10, 11, 12, 13, 14, 15] 1 #[false, false, false, false, false, false, false, false, false, false, false, false, false, false, false, false, true]; kernel_rfl; kernel_rfl; exact rfl) | ((with_reducible apply al_id); first | (apply al_done; decide +kernel) | (apply al_one 16; decide +kernel)) | exact Nat.le_of_ble_eq_true rfl)
      refine ⟨1, by omega, by omega, ?_, ?_⟩
      · try simp only [List.cons_append, List.nil_append]
        (repeat (first | exact FrSub.nil | (apply FrSub.cons; exact rfl)))
      · try simp only [List.cons_append, List.nil_append]
        (repeat (first | exact HpSub.refl _ | (apply HpSub.consE; (repeat (first | exact P0 | apply P1)); exact rfl) | exact HpSub.nil))
    · repeat' (first | ((with_reducible apply oq_id); first | (apply oq_fn; exact rfl; first | exact trivial | (refine ⟨?_, ?_⟩ <;> omega) | (refine ⟨?_, ?_, ?_⟩ <;> omega) | omega | skip) | ((with_reducible apply oq_load); exact rfl; exact rfl) | (focus ((with_reducible apply oq_and1I); exact rfl; exact rfl; (refine ⟨?_, ?_⟩ <;> omega))) | ((with_reducible apply oq_shr1I); exact rfl; exact rfl) | ((with_reducible apply oq_shr2I); exact rfl; exact rfl) | ((with_reducible apply oq_call (k := 141) (hc := Tryz.call141)); exact rfl; exact rfl; exact fun D w1 hw1 => share1_calls _ _ (by omega) (by omega) w1)) | ((with_reducible apply tl_id); first | ((with_reducible apply tl_nil)) | ((with_reducible apply u_q); exact rfl; exact rfl; exact rfl; exact rfl)) | ((with_reducible apply gx_id); first | ((with_reducible apply v_nil)) | ((with_reducible apply v_q); exact rfl; exact rfl; exact rfl)) | ((with_reducible apply os_id); first | ((with_reducible apply os_storeAgg); exact rfl; exact rfl; exact rfl; exact rfl; exact rfl)) | ((with_reducible apply ai_id); first | ((with_reducible apply ai_s0); exact rfl; exact rfl; exact rfl; exact rfl)) | ((with_reducible apply rd_id); first | (apply Rd.own; (repeat (first | exact P0 | apply P1)); exact rfl; done)) | ((with_reducible apply t_id); first | (apply t_region; kernel_rfl)) | with_reducible apply q_thenN | with_reducible apply q_blockN | exact P0 | ((with_reducible apply P1)) | ((with_reducible apply Norm.nil); exact rfl) | ((with_reducible apply Norm.cons); exact rfl) | (apply t_mix (id := 10) [0, 1, 2, 3, 4, 5, 6, 7, 8, 9, 10, 11, 12, 13, 14, 15] 1 #[false, false, false, false, false, false, false, false, false, false, false, false, false, false, false, false, true]; kernel_rfl; kernel_rfl; exact rfl) | ((with_reducible apply al_id); first | (apply al_done; decide +kernel) | (apply al_one 16; decide +kernel)) | exact Nat.le_of_ble_eq_true rfl)
      refine ⟨2, by omega, by omega, ?_, ?_⟩
      · try simp only [List.cons_append, List.nil_append]
        (repeat (first | exact FrSub.nil | (apply FrSub.cons; exact rfl)))
      · try simp only [List.cons_append, List.nil_append]
        (repeat (first | exact HpSub.refl _ | (apply HpSub.consE; (repeat (first | exact P0 | apply P1)); exact rfl) | exact HpSub.nil))
    · repeat' (first | ((with_reducible apply oq_id); first | (apply oq_fn; exact rfl; first | exact trivial | (refine ⟨?_, ?_⟩ <;> omega) | (refine ⟨?_, ?_, ?_⟩ <;> omega) | omega | skip) | ((with_reducible apply oq_load); exact rfl; exact rfl) | (focus ((with_reducible apply oq_and1I); exact rfl; exact rfl; (refine ⟨?_, ?_⟩ <;> omega))) | ((with_reducible apply oq_shr1I); exact rfl; exact rfl) | ((with_reducible apply oq_shr2I); exact rfl; exact rfl) | ((with_reducible apply oq_call (k := 141) (hc := Tryz.call141)); exact rfl; exact rfl; exact fun D w1 hw1 => share1_calls _ _ (by omega) (by omega) w1)) | ((with_reducible apply tl_id); first | ((with_reducible apply tl_nil)) | ((with_reducible apply u_q); exact rfl; exact rfl; exact rfl; exact rfl)) | ((with_reducible apply gx_id); first | ((with_reducible apply v_nil)) | ((with_reducible apply v_q); exact rfl; exact rfl; exact rfl)) | ((with_reducible apply os_id); first | ((with_reducible apply os_storeAgg); exact rfl; exact rfl; exact rfl; exact rfl; exact rfl)) | ((with_reducible apply ai_id); first | ((with_reducible apply ai_s0); exact rfl; exact rfl; exact rfl; exact rfl)) | ((with_reducible apply rd_id); first | (apply Rd.own; (repeat (first | exact P0 | apply P1)); exact rfl; done)) | ((with_reducible apply t_id); first | (apply t_region; kernel_rfl)) | with_reducible apply q_thenN | with_reducible apply q_blockN | exact P0 | ((with_reducible apply P1)) | ((with_reducible apply Norm.nil); exact rfl) | ((with_reducible apply Norm.cons); exact rfl) | (apply t_mix (id := 10) [0, 1, 2, 3, 4, 5, 6, 7, 8, 9, 10, 11, 12, 13, 14, 15] 1 #[false, false, false, false, false, false, false, false, false, false, false, false, false, false, false, false, true]; kernel_rfl; kernel_rfl; exact rfl) | ((with_reducible apply al_id); first | (apply al_done; decide +kernel) | (apply al_one 16; decide +kernel)) | exact Nat.le_of_ble_eq_true rfl)
      refine ⟨3, by omega, by omega, ?_, ?_⟩
      · try simp only [List.cons_append, List.nil_append]
        (repeat (first | exact FrSub.nil | (apply FrSub.cons; exact rfl)))
      · try simp only [List.cons_append, List.nil_append]
        (repeat (first | exact HpSub.refl _ | (apply HpSub.consE; (repeat (first | exact P0 | apply P1)); exact rfl) | exact HpSub.nil))
    · repeat' (first | ((with_reducible apply oq_id); first | (apply oq_fn; exact rfl; first | exact trivial | (refine ⟨?_, ?_⟩ <;> omega) | (refine ⟨?_, ?_, ?_⟩ <;> omega) | omega | skip) | ((with_reducible apply oq_load); exact rfl; exact rfl) | (focus ((with_reducible apply oq_and1I); exact rfl; exact rfl; (refine ⟨?_, ?_⟩ <;> omega))) | ((with_reducible apply oq_shr1I); exact rfl; exact rfl) | ((with_reducible apply oq_shr2I); exact rfl; exact rfl) | ((with_reducible apply oq_call (k := 141) (hc := Tryz.call141)); exact rfl; exact rfl; exact fun D w1 hw1 => share1_calls _ _ (by omega) (by omega) w1)) | ((with_reducible apply tl_id); first | ((with_reducible apply tl_nil)) | ((with_reducible apply u_q); exact rfl; exact rfl; exact rfl; exact rfl)) | ((with_reducible apply gx_id); first | ((with_reducible apply v_nil)) | ((with_reducible apply v_q); exact rfl; exact rfl; exact rfl)) | ((with_reducible apply os_id); first | ((with_reducible apply os_storeAgg); exact rfl; exact rfl; exact rfl; exact rfl; exact rfl)) | ((with_reducible apply ai_id); first | ((with_reducible apply ai_s0); exact rfl; exact rfl; exact rfl; exact rfl)) | ((with_reducible apply rd_id); first | (apply Rd.own; (repeat (first | exact P0 | apply P1)); exact rfl; done)) | ((with_reducible apply t_id); first | (apply t_region; kernel_rfl)) | with_reducible apply q_thenN | with_reducible apply q_blockN | exact P0 | ((with_reducible apply P1)) | ((with_reducible apply Norm.nil); exact rfl) | ((with_reducible apply Norm.cons); exact rfl) | (apply t_mix (id := 10) [0, 1, 2, 3, 4, 5, 6, 7, 8, 9, 10, 11, 12, 13, 14, 15] 1 #[false, false, false, false, false, false, false, false, false, false, false, false, false, false, false, false, true]; kernel_rfl; kernel_rfl; exact rfl) | ((with_reducible apply al_id); first | (apply al_done; decide +kernel) | (apply al_one 16; decide +kernel)) | exact Nat.le_of_ble_eq_true rfl)
      refine ⟨4, by omega, by omega, ?_, ?_⟩
      · try simp only [List.cons_append, List.nil_append]
        (repeat (first | exact FrSub.nil | (apply FrSub.cons; exact rfl)))
      · try simp only [List.cons_append, List.nil_append]
        (repeat (first | exact HpSub.refl _ | (apply HpSub.consE; (repeat (first | exact P0 | apply P1)); exact rfl) | exact HpSub.nil))
    · repeat' (first | ((with_reducible apply oq_id); first | (apply oq_fn; exact rfl; first | exact trivial | (refine ⟨?_, ?_⟩ <;> omega) | (refine ⟨?_, ?_, ?_⟩ <;> omega) | omega | skip) | ((with_reducible apply oq_load); exact rfl; exact rfl) | (focus ((with_reducible apply oq_and1I); exact rfl; exact rfl; (refine ⟨?_, ?_⟩ <;> omega))) | ((with_reducible apply oq_shr1I); exact rfl; exact rfl) | ((with_reducible apply oq_shr2I); exact rfl; exact rfl) | ((with_reducible apply oq_call (k := 141) (hc := Tryz.call141)); exact rfl; exact rfl; exact fun D w1 hw1 => share1_calls _ _ (by omega) (by omega) w1)) | ((with_reducible apply tl_id); first | ((with_reducible apply tl_nil)) | ((with_reducible apply u_q); exact rfl; exact rfl; exact rfl; exact rfl)) | ((with_reducible apply gx_id); first | ((with_reducible apply v_nil)) | ((with_reducible apply v_q); exact rfl; exact rfl; exact rfl)) | ((with_reducible apply os_id); first | ((with_reducible apply os_storeAgg); exact rfl; exact rfl; exact rfl; exact rfl; exact rfl)) | ((with_reducible apply ai_id); first | ((with_reducible apply ai_s0); exact rfl; exact rfl; exact rfl; exact rfl)) | ((with_reducible apply rd_id); first | (apply Rd.own; (repeat (first | exact P0 | apply P1)); exact rfl; done)) | ((with_reducible apply t_id); first | (apply t_region; kernel_rfl)) | with_reducible apply q_thenN | with_reducible apply q_blockN | exact P0 | ((with_reducible apply P1)) | ((with_reducible apply Norm.nil); exact rfl) | ((with_reducible apply Norm.cons); exact rfl) | (apply t_mix (id := 10) [0, 1, 2, 3, 4, 5, 6, 7, 8, 9, 10, 11, 12, 13, 14, 15] 1 #[false, false, false, false, false, false, false, false, false, false, false, false, false, false, false, false, true]; kernel_rfl; kernel_rfl; exact rfl) | ((with_reducible apply al_id); first | (apply al_done; decide +kernel) | (apply al_one 16; decide +kernel)) | exact Nat.le_of_ble_eq_true rfl)
      refine ⟨5, by omega, by omega, ?_, ?_⟩
      · try simp only [List.cons_append, List.nil_append]
        (repeat (first | exact FrSub.nil | (apply FrSub.cons; exact rfl)))
      · try simp only [List.cons_append, List.nil_append]
        (repeat (first | exact HpSub.refl _ | (apply HpSub.consE; (repeat (first | exact P0 | apply P1)); exact rfl) | exact HpSub.nil))
    · repeat' (first | ((with_reducible apply oq_id); first | (apply oq_fn; exact rfl; first | exact trivial | (refine ⟨?_, ?_⟩ <;> omega) | (refine ⟨?_, ?_, ?_⟩ <;> omega) | omega | skip) | ((with_reducible apply oq_load); exact rfl; exact rfl) | (focus ((with_reducible apply oq_and1I); exact rfl; exact rfl; (refine ⟨?_, ?_⟩ <;> omega))) | ((with_reducible apply oq_shr1I); exact rfl; exact rfl) | ((with_reducible apply oq_shr2I); exact rfl; exact rfl) | ((with_reducible apply oq_call (k := 141) (hc := Tryz.call141)); exact rfl; exact rfl; exact fun D w1 hw1 => share1_calls _ _ (by omega) (by omega) w1)) | ((with_reducible apply tl_id); first | ((with_reducible apply tl_nil)) | ((with_reducible apply u_q); exact rfl; exact rfl; exact rfl; exact rfl)) | ((with_reducible apply gx_id); first | ((with_reducible apply v_nil)) | ((with_reducible apply v_q); exact rfl; exact rfl; exact rfl)) | ((with_reducible apply os_id); first | ((with_reducible apply os_storeAgg); exact rfl; exact rfl; exact rfl; exact rfl; exact rfl)) | ((with_reducible apply ai_id); first | ((with_reducible apply ai_s0); exact rfl; exact rfl; exact rfl; exact rfl)) | ((with_reducible apply rd_id); first | (apply Rd.own; (repeat (first | exact P0 | apply P1)); exact rfl; done)) | ((with_reducible apply t_id); first | (apply t_region; kernel_rfl)) | with_reducible apply q_thenN | with_reducible apply q_blockN | exact P0 | ((with_reducible apply P1)) | ((with_reducible apply Norm.nil); exact rfl) | ((with_reducible apply Norm.cons); exact rfl) | (apply t_mix (id := 10) [0, 1, 2, 3, 4, 5, 6, 7, 8, 9, 10, 11, 12, 13, 14, 15] 1 #[false, false, false, false, false, false, false, false, false, false, false, false, false, false, false, false, true]; kernel_rfl; kernel_rfl; exact rfl) | ((with_reducible apply al_id); first | (apply al_done; decide +kernel) | (apply al_one 16; decide +kernel)) | exact Nat.le_of_ble_eq_true rfl)
      refine ⟨6, by omega, by omega, ?_, ?_⟩
      · try simp only [List.cons_append, List.nil_append]
        (repeat (first | exact FrSub.nil | (apply FrSub.cons; exact rfl)))
      · try simp only [List.cons_append, List.nil_append]
        (repeat (first | exact HpSub.refl _ | (apply HpSub.consE; (repeat (first | exact P0 | apply P1)); exact rfl) | exact HpSub.nil))
    · repeat' (first | ((with_reducible apply oq_id); first | (apply oq_fn; exact rfl; first | exact trivial | (refine ⟨?_, ?_⟩ <;> omega) | (refine ⟨?_, ?_, ?_⟩ <;> omega) | omega | skip) | ((with_reducible apply oq_load); exact rfl; exact rfl) | (focus ((with_reducible apply oq_and1I); exact rfl; exact rfl; (refine ⟨?_, ?_⟩ <;> omega))) | ((with_reducible apply oq_shr1I); exact rfl; exact rfl) | ((with_reducible apply oq_shr2I); exact rfl; exact rfl) | ((with_reducible apply oq_call (k := 141) (hc := Tryz.call141)); exact rfl; exact rfl; exact fun D w1 hw1 => share1_calls _ _ (by omega) (by omega) w1)) | ((with_reducible apply tl_id); first | ((with_reducible apply tl_nil)) | ((with_reducible apply u_q); exact rfl; exact rfl; exact rfl; exact rfl)) | ((with_reducible apply gx_id); first | ((with_reducible apply v_nil)) | ((with_reducible apply v_q); exact rfl; exact rfl; exact rfl)) | ((with_reducible apply os_id); first | ((with_reducible apply os_storeAgg); exact rfl; exact rfl; exact rfl; exact rfl; exact rfl)) | ((with_reducible apply ai_id); first | ((with_reducible apply ai_s0); exact rfl; exact rfl; exact rfl; exact rfl)) | ((with_reducible apply rd_id); first | (apply Rd.own; (repeat (first | exact P0 | apply P1)); exact rfl; done)) | ((with_reducible apply t_id); first | (apply t_region; kernel_rfl)) | with_reducible apply q_thenN | with_reducible apply q_blockN | exact P0 | ((with_reducible apply P1)) | ((with_reducible apply Norm.nil); exact rfl) | ((with_reducible apply Norm.cons); exact rfl) | (apply t_mix (id := 10) [0, 1, 2, 3, 4, 5, 6, 7, 8, 9, 10, 11, 12, 13, 14, 15] 1 #[false, false, false, false, false, false, false, false, false, false, false, false, false, false, false, false, true]; kernel_rfl; kernel_rfl; exact rfl) | ((with_reducible apply al_id); first | (apply al_done; decide +kernel) | (apply al_one 16; decide +kernel)) | exact Nat.le_of_ble_eq_true rfl)
      refine ⟨7, by omega, by omega, ?_, ?_⟩
      · try simp only [List.cons_append, List.nil_append]
        (repeat (first | exact FrSub.nil | (apply FrSub.cons; exact rfl)))
      · try simp only [List.cons_append, List.nil_append]
        (repeat (first | exact HpSub.refl _ | (apply HpSub.consE; (repeat (first | exact P0 | apply P1)); exact rfl) | exact HpSub.nil))
    · repeat' (first | ((with_reducible apply oq_id); first | (apply oq_fn; exact rfl; first | exact trivial | (refine ⟨?_, ?_⟩ <;> omega) | (refine ⟨?_, ?_, ?_⟩ <;> omega) | omega | skip) | ((with_reducible apply oq_load); exact rfl; exact rfl) | (focus ((with_reducible apply oq_and1I); exact rfl; exact rfl; (refine ⟨?_, ?_⟩ <;> omega))) | ((with_reducible apply oq_shr1I); exact rfl; exact rfl) | ((with_reducible apply oq_shr2I); exact rfl; exact rfl) | ((with_reducible apply oq_call (k := 141) (hc := Tryz.call141)); exact rfl; exact rfl; exact fun D w1 hw1 => share1_calls _ _ (by omega) (by omega) w1)) | ((with_reducible apply tl_id); first | ((with_reducible apply tl_nil)) | ((with_reducible apply u_q); exact rfl; exact rfl; exact rfl; exact rfl)) | ((with_reducible apply gx_id); first | ((with_reducible apply v_nil)) | ((with_reducible apply v_q); exact rfl; exact rfl; exact rfl)) | ((with_reducible apply os_id); first | ((with_reducible apply os_storeAgg); exact rfl; exact rfl; exact rfl; exact rfl; exact rfl)) | ((with_reducible apply ai_id); first | ((with_reducible apply ai_s0); exact rfl; exact rfl; exact rfl; exact rfl)) | ((with_reducible apply rd_id); first | (apply Rd.own; (repeat (first | exact P0 | apply P1)); exact rfl; done)) | ((with_reducible apply t_id); first | (apply t_region; kernel_rfl)) | with_reducible apply q_thenN | with_reducible apply q_blockN | exact P0 | ((with_reducible apply P1)) | ((with_reducible apply Norm.nil); exact rfl) | ((with_reducible apply Norm.cons); exact rfl) | (apply t_mix (id := 10) [0, 1, 2, 3, 4, 5, 6, 7, 8, 9, 10, 11, 12, 13, 14, 15] 1 #[false, false, false, false, false, false, false, false, false, false, false, false, false, false, false, false, true]; kernel_rfl; kernel_rfl; exact rfl) | ((with_reducible apply al_id); first | (apply al_done; decide +kernel) | (apply al_one 16; decide +kernel)) | exact Nat.le_of_ble_eq_true rfl)
      refine ⟨8, by omega, by omega, ?_, ?_⟩
      · try simp only [List.cons_append, List.nil_append]
        (repeat (first | exact FrSub.nil | (apply FrSub.cons; exact rfl)))
      · try simp only [List.cons_append, List.nil_append]
        (repeat (first | exact HpSub.refl _ | (apply HpSub.consE; (repeat (first | exact P0 | apply P1)); exact rfl) | exact HpSub.nil))
  · obtain rfl : k = 8 := by omega
    ((all_goals refine goE0 ?_); (all_goals constructor); (any_goals exact trivial); all_goals intros)
    rfl
theorem mul_calls (a b c d : Int) (h : -1000000 ≤ a ∧ a ≤ b ∧ b ≤ 1000000) (k0 : -1000000 ≤ c ∧ c ≤ d ∧ d ≤ 1000000) (w : World) :
    Calls Tryz.prog 154 #[.agg #[.int .i64 a, .int .i64 b], .agg #[.int .i64 c, .int .i64 d]] w fun e w' => e = .returned (.tuple #[.agg #[.int .i64 (min (min (a * c) (b * c)) (min (a * d) (b * d))), .int .i64 (max (max (a * c) (b * c)) (max (a * d) (b * d)))], .int .i64 0]) ∧ Ext w w' := by
  refine enterQ (c := cx w 12) Tryz.func154 rfl rfl rfl rfl ?_
  ((all_goals refine goE0 ?_); (all_goals constructor); (any_goals exact trivial); all_goals intros)
  all_goals rfl
def wayOk (dx dy : Int) : Bool := allFrom (-10000) 10000 [dx, dy] && !(decide (dx = 0) && decide (dy = 0))
def alongLo (a b c d dx dy : Int) : Int := min (a * dx) (b * dx) + min (c * dy) (d * dy)
def alongHi (a b c d dx dy : Int) : Int := max (a * dx) (b * dx) + max (c * dy) (d * dy)
/-- How fast a wind blows along a way: bounds, then the error. -/
noncomputable def alongV (a b c d dx dy : Int) : Int × Int × Int :=
  if windE a b c d = 0 then (if wayOk dx dy then (shV (alongLo a b c d dx dy) (dx * dx + dy * dy), -shV (-alongHi a b c d dx dy) (dx * dx + dy * dy), 0) else (0, 0, 2)) else (0, 0, windE a b c d)
theorem fromS2 {w0 : World} {M : Ms} {H H' : Hp} {w : World} {g : Nat} {a b lo hi : Int} {tg : Tg} {cp : Nat} {q : Bool} (hq : allFrom lo hi [a, b] = q) (h : Has w0 M H w) (p : Pick H g [.int .i64 a, .int .i64 b] tg H') :
    Calls Tryz.prog 120 #[.int .i64 lo, .int .i64 hi, .slice (some ⟨g, 0, none⟩) 2 cp] w fun e w' => e = .returned (.bool q) ∧ Ext w w' :=
  hq ▸ from_calls lo hi (some ⟨g, 0, none⟩) 2 cp [a, b] w (Blk.rows (k := 1) (rows := [a, b].map fun z => [Value.int .i64 z]) (h.blk _ p.mem).2 rfl (by simp)) (by omega)
/-- (x dx + y dy)^2 is at most 8000000 (dx^2 + dy^2). -/
theorem sum_sq {x y p q : Int} (hx : -2000 ≤ x ∧ x ≤ 2000) (hy : -2000 ≤ y ∧ y ≤ 2000) : (x * p + y * q) * (x * p + y * q) ≤ 8000000 * (p * p + q * q) := by
  have key : (x * p + y * q) * (x * p + y * q) + (x * q - y * p) * (x * q - y * p) = (x * x + y * y) * (p * p + q * q) := by
    simp only [Int.add_mul, Int.mul_add, Int.sub_mul, Int.mul_sub]
    have e1 : x * p * (x * p) = x * x * (p * p) := by ac_rfl
    have e2 : y * q * (y * q) = y * y * (q * q) := by ac_rfl
    have e3 : x * q * (x * q) = x * x * (q * q) := by ac_rfl
    have e4 : y * p * (y * p) = y * y * (p * p) := by ac_rfl
    have e5 : x * p * (y * q) = x * y * (p * q) := by ac_rfl
    have e6 : y * q * (x * p) = x * y * (p * q) := by ac_rfl
    have e7 : x * q * (y * p) = x * y * (p * q) := by ac_rfl
    have e8 : y * p * (x * q) = x * y * (p * q) := by ac_rfl
    omega
  have sq0 : ∀ z : Int, 0 ≤ z * z := fun z => by
    rcases Int.le_total 0 z with h | h
    · exact Int.mul_nonneg h h
    · rw [sq_neg]; exact Int.mul_nonneg (by omega) (by omega)
  have h1 := sq0 (x * q - y * p)
  have hx2 := (mul_abs hx hx).2
  have hy2 := (mul_abs hy hy).2
  have hp := sq0 p
  have hq := sq0 q
  have h2 : (x * x + y * y) * (p * p + q * q) ≤ 8000000 * (p * p + q * q) := Int.mul_le_mul_of_nonneg_right (by omega) (by omega)
  omega
theorem alongLo_sq {a b c d dx dy : Int} (h : a ≤ b ∧ c ≤ d ∧ -2000 ≤ a ∧ b ≤ 2000 ∧ -2000 ≤ c ∧ d ≤ 2000) : alongLo a b c d dx dy * alongLo a b c d dx dy ≤ 8000000 * (dx * dx + dy * dy) := by
  unfold alongLo
  rcases Int.le_total (a * dx) (b * dx) with h1 | h1 <;> rcases Int.le_total (c * dy) (d * dy) with h2 | h2
  · rw [Int.min_eq_left h1, Int.min_eq_left h2]; exact sum_sq (by omega) (by omega)
  · rw [Int.min_eq_left h1, Int.min_eq_right h2]; exact sum_sq (by omega) (by omega)
  · rw [Int.min_eq_right h1, Int.min_eq_left h2]; exact sum_sq (by omega) (by omega)
  · rw [Int.min_eq_right h1, Int.min_eq_right h2]; exact sum_sq (by omega) (by omega)
theorem alongHi_sq {a b c d dx dy : Int} (h : a ≤ b ∧ c ≤ d ∧ -2000 ≤ a ∧ b ≤ 2000 ∧ -2000 ≤ c ∧ d ≤ 2000) : -alongHi a b c d dx dy * -alongHi a b c d dx dy ≤ 8000000 * (dx * dx + dy * dy) := by
  rw [← sq_neg]
  unfold alongHi
  rcases Int.le_total (a * dx) (b * dx) with h1 | h1 <;> rcases Int.le_total (c * dy) (d * dy) with h2 | h2
  · rw [Int.max_eq_right h1, Int.max_eq_right h2]; exact sum_sq (by omega) (by omega)
  · rw [Int.max_eq_right h1, Int.max_eq_left h2]; exact sum_sq (by omega) (by omega)
  · rw [Int.max_eq_left h1, Int.max_eq_right h2]; exact sum_sq (by omega) (by omega)
  · rw [Int.max_eq_left h1, Int.max_eq_left h2]; exact sum_sq (by omega) (by omega)
theorem sq_nn (n : Int) : 0 ≤ n * n := by
  rcases Int.le_total 0 n with h | h
  · exact Int.mul_nonneg h h
  · rw [sq_neg]; exact Int.mul_nonneg (by omega) (by omega)
theorem shV_ex {n q : Int} (hq : 1 ≤ q) (h8 : n * n ≤ 8000000 * q) : IsSh n q (shV n q) ∧ -4000 ≤ shV n q ∧ shV n q ≤ 4000 := by
  have hk := rt_spec ((n * n).tdiv q) (by rw [Int.tdiv_eq_ediv_of_nonneg (sq_nn n)]; exact Int.ediv_nonneg (sq_nn n) (by omega))
  have hd1 : (n * n).tdiv q ≤ 8000000 := by rw [Int.tdiv_eq_ediv_of_nonneg (sq_nn n)]; exact Int.ediv_le_of_le_mul (by omega) h8
  obtain ⟨k, ek⟩ : ∃ k, k = rt ((n * n).tdiv q) := ⟨_, rfl⟩
  rw [← ek] at hk
  obtain ⟨f1, f2⟩ := part_facts (by omega) hk
  have hk0 := hk.1
  have hk1 : k ≤ 3000 := by
    rcases Int.lt_or_le 3000 k with h | h
    · have := sq_mono (j := 3001) (k := k) (by omega) (by omega)
      have := hk.2.1; omega
    · exact h
  by_cases hn : 0 ≤ n
  · have := isSh_pos hn hk0 f1 f2
    rw [this.val (by omega)]
    exact ⟨this, by omega, by omega⟩
  · by_cases hh : k * k * q < n * n
    · have := isSh_neg1 (by omega) hk0 hh f2
      rw [this.val (by omega)]
      exact ⟨this, by omega, by omega⟩
    · have := isSh_neg0 (by omega) (by omega) hk0 hh f1
      rw [this.val (by omega)]
      exact ⟨this, by omega, by omega⟩
theorem shV_in {n q : Int} (hq : 1 ≤ q) (h8 : n * n ≤ 8000000 * q) : InR (-shV n q) := by
  have := shV_ex hq h8
  exact ⟨by omega, by omega⟩
theorem airAlong_calls (a b c d dx dy : Int) (w : World) : Calls Tryz.prog 130 #[.agg #[.int .i64 a, .int .i64 b, .int .i64 c, .int .i64 d], .int .i64 dx, .int .i64 dy] w fun e w' => e = .returned (.tuple #[.agg #[.int .i64 (alongV a b c d dx dy).1, .int .i64 (alongV a b c d dx dy).2.1], .int .i64 (alongV a b c d dx dy).2.2]) ∧ Ext w w' := by
  have H1 := fun w1 => checkWind_calls a b c d w1
  obtain ⟨e, he⟩ : ∃ e, windE a b c d = e := ⟨_, rfl⟩
  obtain ⟨q, hq⟩ : ∃ q, allFrom (-10000) 10000 [dx, dy] = q := ⟨_, rfl⟩
  rw [he] at H1
  by_cases he0 : e = 0
  · subst he0
    have hb := windE_zero he
    cases q with
    | false =>
      have hW : alongV a b c d dx dy = (0, 0, 2) := by unfold alongV; rw [he, if_pos rfl, if_neg (by unfold wayOk; rw [hq]; simp)]
      rw [hW]
      refine enterQ (c := cx w 78) Tryz.func130 rfl rfl rfl rfl ?_
      ((all_goals refine goE0 ?_); (all_goals constructor); (any_goals exact trivial); all_goals intros)
      all_goals rfl
    | true =>
      have hd : -10000 ≤ dx ∧ dx ≤ 10000 ∧ -10000 ≤ dy ∧ dy ≤ 10000 := by unfold allFrom at hq; simp at hq; omega
      by_cases hz : dx = 0 ∧ dy = 0
      · have hW : alongV a b c d dx dy = (0, 0, 2) := by unfold alongV; rw [he, if_pos rfl, if_neg (by unfold wayOk; rw [hq]; simp [hz.1, hz.2])]
        rw [hW]
        refine enterQ (c := cx w 78) Tryz.func130 rfl rfl rfl rfl ?_
        ((all_goals refine goE0 ?_); (all_goals constructor); (any_goals exact trivial); all_goals intros)
        all_goals rfl
      · have hW : alongV a b c d dx dy = (shV (alongLo a b c d dx dy) (dx * dx + dy * dy), -shV (-alongHi a b c d dx dy) (dx * dx + dy * dy), 0) := by unfold alongV; rw [he, if_pos rfl, if_pos (by unfold wayOk; rw [hq]; simp; omega)]
        rw [hW]
        have q1 := mul_abs (x := dx) (y := dx) (a := 10000) (b := 10000) (by omega) (by omega)
        have q2 := mul_abs (x := dy) (y := dy) (a := 10000) (b := 10000) (by omega) (by omega)
        have q0 : 1 ≤ dx * dx + dy * dy := by
          have p1 := sq_mono (j := 0) (k := max dx (-dx)) (by omega) (by omega)
          have p2 := sq_mono (j := 0) (k := max dy (-dy)) (by omega) (by omega)
          rcases (by omega : dx ≠ 0 ∨ dy ≠ 0) with h | h
          · have p3 := sq_mono (j := 1) (k := max dx (-dx)) (by omega) (by omega)
            have e1 : max dx (-dx) * max dx (-dx) = dx * dx := by rcases Int.le_total dx (-dx) with h | h; (rw [Int.max_eq_right h, Int.neg_mul_neg]); (rw [Int.max_eq_left h])
            have e2 : max dy (-dy) * max dy (-dy) = dy * dy := by rcases Int.le_total dy (-dy) with h | h; (rw [Int.max_eq_right h, Int.neg_mul_neg]); (rw [Int.max_eq_left h])
            omega
          · have p3 := sq_mono (j := 1) (k := max dy (-dy)) (by omega) (by omega)
            have e1 : max dx (-dx) * max dx (-dx) = dx * dx := by rcases Int.le_total dx (-dx) with h | h; (rw [Int.max_eq_right h, Int.neg_mul_neg]); (rw [Int.max_eq_left h])
            have e2 : max dy (-dy) * max dy (-dy) = dy * dy := by rcases Int.le_total dy (-dy) with h | h; (rw [Int.max_eq_right h, Int.neg_mul_neg]); (rw [Int.max_eq_left h])
            omega
        have hA := alongLo_sq (dx := dx) (dy := dy) hb
        have hB := alongHi_sq (dx := dx) (dy := dy) hb
        have r1 := mul_abs (x := a) (y := dx) (a := 2000) (b := 10000) (by omega) (by omega)
        have r2 := mul_abs (x := b) (y := dx) (a := 2000) (b := 10000) (by omega) (by omega)
        have r3 := mul_abs (x := c) (y := dy) (a := 2000) (b := 10000) (by omega) (by omega)
        have r4 := mul_abs (x := d) (y := dy) (a := 2000) (b := 10000) (by omega) (by omega)
        have HL := fun w1 => share_calls (alongLo a b c d dx dy) (dx * dx + dy * dy) q0 (by omega) hA w1
        have HR := fun w1 => share_calls (-alongHi a b c d dx dy) (dx * dx + dy * dy) q0 (by omega) hB w1
        have hsr : ∀ n : Int, n * n ≤ 8000000 * (dx * dx + dy * dy) → InR (-shV n (dx * dx + dy * dy)) := fun n hn => shV_in q0 hn
        have hR := hsr _ hB
        obtain ⟨s1, e1⟩ : ∃ s, s = shV (alongLo a b c d dx dy) (dx * dx + dy * dy) := ⟨_, rfl⟩
        obtain ⟨s2, e2⟩ : ∃ s, s = shV (-alongHi a b c d dx dy) (dx * dx + dy * dy) := ⟨_, rfl⟩
        rw [← e1] at HL
        rw [← e2] at HR hR
        rw [← e1, ← e2]
        clear hA hB hsr hW e1 e2
        unfold alongLo at HL
        unfold alongHi at HR
        have k1 : InR (dx * dx) := ⟨by omega, by omega⟩
        have k2 : InR (dy * dy) := ⟨by omega, by omega⟩
        have k3 : InR (dx * dx + dy * dy) := ⟨by omega, by omega⟩
        have MX := fun w1 => mul_calls a b dx dx (by omega) (by omega) w1
        have MY := fun w1 => mul_calls c d dy dy (by omega) (by omega) w1
        have f1 : min (min (a * dx) (b * dx)) (min (a * dx) (b * dx)) = min (a * dx) (b * dx) := by omega
        have f2 : max (max (a * dx) (b * dx)) (max (a * dx) (b * dx)) = max (a * dx) (b * dx) := by omega
        have f3 : min (min (c * dy) (d * dy)) (min (c * dy) (d * dy)) = min (c * dy) (d * dy) := by omega
        have f4 : max (max (c * dy) (d * dy)) (max (c * dy) (d * dy)) = max (c * dy) (d * dy) := by omega
        rw [f1, f2] at MX
        rw [f3, f4] at MY
        clear f1 f2 f3 f4
        refine enterQ (c := cx w 78) Tryz.func130 rfl rfl rfl rfl ?_
        ((all_goals refine goE0 ?_); (all_goals constructor); (any_goals exact trivial); all_goals intros)
        all_goals rfl
  · have hW : alongV a b c d dx dy = (0, 0, e) := by unfold alongV; rw [he, if_neg he0]
    rw [hW]
    refine enterQ (c := cx w 78) Tryz.func130 rfl rfl rfl rfl ?_
    repeat' (first | ((with_reducible apply oq_id); first | (apply oq_fn; exact rfl; first | exact trivial | (refine ⟨?_, ?_⟩ <;> omega) | (refine ⟨?_, ?_, ?_⟩ <;> omega) | omega | skip) | ((with_reducible apply oq_loadAgg); exact rfl; exact rfl) | ((with_reducible apply oq_call (k := 153) (hc := Tryz.call153)); exact rfl; exact rfl; exact fun D w1 hw1 => H1 w1) | ((with_reducible apply oq_build); exact rfl; exact rfl; exact rfl)) | ((with_reducible apply tl_id); first | ((with_reducible apply tl_nil)) | ((with_reducible apply u_q); exact rfl; exact rfl; exact rfl; exact rfl) | ((with_reducible apply u_s0); exact rfl; exact rfl) | ((with_reducible apply u_s); exact rfl; exact rfl; exact rfl)) | ((with_reducible apply os_id); first | ((with_reducible apply os_x); exact rfl) | ((with_reducible apply os_storeAgg); exact rfl; exact rfl; exact rfl; exact rfl; exact rfl)) | ((with_reducible apply ox_id); first | ((with_reducible apply ox_alloc); exact rfl; intro _) | ((with_reducible apply ox_boxAgg); exact rfl; intro _)) | ((with_reducible apply rd_id); first | (apply Rd.own; (repeat (first | exact P0 | apply P1)); exact rfl; done)) | ((with_reducible apply t_id); first | ((with_reducible apply t_seq)) | (apply t_region; kernel_rfl) | ((with_reducible apply t_condN); exact rfl; all_goals first | (intro hp; try (exfalso; omega)) | skip) | ((with_reducible apply t_ret))) | with_reducible apply q_thenN | with_reducible apply q_thenR | exact P0 | exact Rdn.zero | apply Rdn.succ | ((with_reducible apply Norm.nil); exact rfl) | ((with_reducible apply Norm.cons); exact rfl) | ((with_reducible apply end_ret)) | exact rvs_nil | ((with_reducible apply rvs_cons)) | ((with_reducible apply rv_tmp); exact rfl) | ((with_reducible apply rv_cellAgg); exact rfl; exact rfl) | exact Nat.le_of_ble_eq_true rfl)
    all_goals rfl
theorem refAlong_calls (a b c d dx dy : Int) (w : World) : Calls Tryz.prog 150 #[.agg #[.int .i64 a, .int .i64 b, .int .i64 c, .int .i64 d], .int .i64 dx, .int .i64 dy] w fun e w' => e = .returned (.tuple #[.agg #[.int .i64 (alongV a b c d dx dy).1, .int .i64 (alongV a b c d dx dy).2.1], .int .i64 (alongV a b c d dx dy).2.2]) ∧ Ext w w' := by
  have H1 := fun w1 => blows_calls a b c d w1
  obtain ⟨e, he⟩ : ∃ e, windE a b c d = e := ⟨_, rfl⟩
  obtain ⟨q, hq⟩ : ∃ q, allFrom (-10000) 10000 [dx, dy] = q := ⟨_, rfl⟩
  rw [he] at H1
  by_cases he0 : e = 0
  · subst he0
    have hb := windE_zero he
    cases q with
    | false =>
      have hW : alongV a b c d dx dy = (0, 0, 2) := by unfold alongV; rw [he, if_pos rfl, if_neg (by unfold wayOk; rw [hq]; simp)]
      rw [hW]
      have hd : ¬ (-10000 ≤ dx ∧ dx ≤ 10000 ∧ -10000 ≤ dy ∧ dy ≤ 10000) := by unfold allFrom at hq; simp at hq; omega
      refine enterQ (c := cx w 97) Tryz.func150 rfl rfl rfl rfl ?_
      repeat' (first | ((with_reducible apply oq_id); first | (apply oq_fn; exact rfl; first | exact trivial | (refine ⟨?_, ?_⟩ <;> omega) | (refine ⟨?_, ?_, ?_⟩ <;> omega) | omega | skip) | ((with_reducible apply oq_loadAgg); exact rfl; exact rfl) | ((with_reducible apply oq_call (k := 169) (hc := Tryz.call169)); exact rfl; exact rfl; exact fun D w1 hw1 => H1 w1) | ((with_reducible apply oq_call (k := 158) (hc := Tryz.call158)); exact rfl; exact rfl; exact fun D w1 hw1 => (within_calls _ _ _ w1).mono fun e w' h => ⟨h.1, h.2 ▸ Ext.refl _⟩) | ((with_reducible apply oq_build); exact rfl; exact rfl; exact rfl)) | ((with_reducible apply tl_id); first | ((with_reducible apply tl_nil)) | ((with_reducible apply u_q); exact rfl; exact rfl; exact rfl; exact rfl) | ((with_reducible apply u_s0); exact rfl; exact rfl) | ((with_reducible apply u_s); exact rfl; exact rfl; exact rfl) | ((with_reducible apply u_skip); exact rfl; exact rfl; exact rfl) | ((with_reducible apply u_splitN); exact rfl; exact rfl; all_goals first | (intro hp; try (exfalso; omega)) | skip)) | ((with_reducible apply os_id); first | ((with_reducible apply os_x); exact rfl) | ((with_reducible apply os_storeAgg); exact rfl; exact rfl; exact rfl; exact rfl; exact rfl)) | ((with_reducible apply ox_id); first | ((with_reducible apply ox_alloc); exact rfl; intro _) | ((with_reducible apply ox_boxAgg); exact rfl; intro _)) | ((with_reducible apply rd_id); first | (apply Rd.own; (repeat (first | exact P0 | apply P1)); exact rfl; done)) | ((with_reducible apply t_id); first | ((with_reducible apply t_seq)) | (apply t_region; kernel_rfl) | ((with_reducible apply t_condT); exact rfl) | ((with_reducible apply t_condF); exact rfl) | ((with_reducible apply t_ret)) | ((with_reducible apply t_skip))) | with_reducible apply q_thenN | with_reducible apply q_thenR | exact P0 | exact Rdn.zero | apply Rdn.succ | ((with_reducible apply Norm.nil); exact rfl) | ((with_reducible apply Norm.cons); exact rfl) | ((with_reducible apply end_ret)) | exact rvs_nil | ((with_reducible apply rvs_cons)) | ((with_reducible apply rv_tmp); exact rfl) | ((with_reducible apply rv_cellAgg); exact rfl; exact rfl) | exact Nat.le_of_ble_eq_true rfl)
      all_goals rfl
    | true =>
      have hd : -10000 ≤ dx ∧ dx ≤ 10000 ∧ -10000 ≤ dy ∧ dy ≤ 10000 := by unfold allFrom at hq; simp at hq; omega
      by_cases hz : dx = 0 ∧ dy = 0
      · have hW : alongV a b c d dx dy = (0, 0, 2) := by unfold alongV; rw [he, if_pos rfl, if_neg (by unfold wayOk; rw [hq]; simp [hz.1, hz.2])]
        rw [hW]
        refine enterQ (c := cx w 97) Tryz.func150 rfl rfl rfl rfl ?_
        ((all_goals refine goE0 ?_); (all_goals constructor); (any_goals exact trivial); all_goals intros)
        all_goals rfl
      · have hW : alongV a b c d dx dy = (shV (alongLo a b c d dx dy) (dx * dx + dy * dy), -shV (-alongHi a b c d dx dy) (dx * dx + dy * dy), 0) := by unfold alongV; rw [he, if_pos rfl, if_pos (by unfold wayOk; rw [hq]; simp; omega)]
        rw [hW]
        have q1 := mul_abs (x := dx) (y := dx) (a := 10000) (b := 10000) (by omega) (by omega)
        have q2 := mul_abs (x := dy) (y := dy) (a := 10000) (b := 10000) (by omega) (by omega)
        have q0 : 1 ≤ dx * dx + dy * dy := by
          have p1 := sq_mono (j := 0) (k := max dx (-dx)) (by omega) (by omega)
          have p2 := sq_mono (j := 0) (k := max dy (-dy)) (by omega) (by omega)
          rcases (by omega : dx ≠ 0 ∨ dy ≠ 0) with h | h
          · have p3 := sq_mono (j := 1) (k := max dx (-dx)) (by omega) (by omega)
            have e1 : max dx (-dx) * max dx (-dx) = dx * dx := by rcases Int.le_total dx (-dx) with h | h; (rw [Int.max_eq_right h, Int.neg_mul_neg]); (rw [Int.max_eq_left h])
            have e2 : max dy (-dy) * max dy (-dy) = dy * dy := by rcases Int.le_total dy (-dy) with h | h; (rw [Int.max_eq_right h, Int.neg_mul_neg]); (rw [Int.max_eq_left h])
            omega
          · have p3 := sq_mono (j := 1) (k := max dy (-dy)) (by omega) (by omega)
            have e1 : max dx (-dx) * max dx (-dx) = dx * dx := by rcases Int.le_total dx (-dx) with h | h; (rw [Int.max_eq_right h, Int.neg_mul_neg]); (rw [Int.max_eq_left h])
            have e2 : max dy (-dy) * max dy (-dy) = dy * dy := by rcases Int.le_total dy (-dy) with h | h; (rw [Int.max_eq_right h, Int.neg_mul_neg]); (rw [Int.max_eq_left h])
            omega
        have hA := alongLo_sq (dx := dx) (dy := dy) hb
        have hB := alongHi_sq (dx := dx) (dy := dy) hb
        have r1 := mul_abs (x := a) (y := dx) (a := 2000) (b := 10000) (by omega) (by omega)
        have r2 := mul_abs (x := b) (y := dx) (a := 2000) (b := 10000) (by omega) (by omega)
        have r3 := mul_abs (x := c) (y := dy) (a := 2000) (b := 10000) (by omega) (by omega)
        have r4 := mul_abs (x := d) (y := dy) (a := 2000) (b := 10000) (by omega) (by omega)
        have HL := fun w1 => part_calls (alongLo a b c d dx dy) (dx * dx + dy * dy) q0 (by omega) hA w1
        have HR := fun w1 => part_calls (-alongHi a b c d dx dy) (dx * dx + dy * dy) q0 (by omega) hB w1
        have hsr : ∀ n : Int, n * n ≤ 8000000 * (dx * dx + dy * dy) → InR (-shV n (dx * dx + dy * dy)) := fun n hn => shV_in q0 hn
        have hR := hsr _ hB
        obtain ⟨s1, e1⟩ : ∃ s, s = shV (alongLo a b c d dx dy) (dx * dx + dy * dy) := ⟨_, rfl⟩
        obtain ⟨s2, e2⟩ : ∃ s, s = shV (-alongHi a b c d dx dy) (dx * dx + dy * dy) := ⟨_, rfl⟩
        rw [← e1] at HL
        rw [← e2] at HR hR
        rw [← e1, ← e2]
        clear hA hB hsr hW e1 e2
        unfold alongLo at HL
        unfold alongHi at HR
        have k1 : InR (dx * dx) := ⟨by omega, by omega⟩
        have k2 : InR (dy * dy) := ⟨by omega, by omega⟩
        have k3 : InR (dx * dx + dy * dy) := ⟨by omega, by omega⟩
        have ix0 : InR (a * dx) := ⟨by omega, by omega⟩
        have ix1 : InR (b * dx) := ⟨by omega, by omega⟩
        have ix2 : InR (c * dy) := ⟨by omega, by omega⟩
        have ix3 : InR (d * dy) := ⟨by omega, by omega⟩
        refine enterQ (c := cx w 97) Tryz.func150 rfl rfl rfl rfl ?_
        repeat' (first | ((with_reducible apply oq_id); first | (apply oq_fn; exact rfl; first | exact trivial | (refine ⟨?_, ?_⟩ <;> omega) | (refine ⟨?_, ?_, ?_⟩ <;> omega) | omega | skip) | ((with_reducible apply oq_load); exact rfl; exact rfl) | ((with_reducible apply oq_loadAgg); exact rfl; exact rfl) | ((with_reducible apply oq_call (k := 169) (hc := Tryz.call169)); exact rfl; exact rfl; exact fun D w1 hw1 => H1 w1) | ((with_reducible apply oq_call (k := 158) (hc := Tryz.call158)); exact rfl; exact rfl; exact fun D w1 hw1 => (within_calls _ _ _ w1).mono fun e w' h => ⟨h.1, h.2 ▸ Ext.refl _⟩) | ((with_reducible apply oq_call (k := 170) (hc := Tryz.call170)); exact rfl; exact rfl; exact fun D w1 hw1 => HL w1) | ((with_reducible apply oq_call (k := 170) (hc := Tryz.call170)); exact rfl; exact rfl; exact fun D w1 hw1 => HR w1) | ((with_reducible apply oq_build); exact rfl; exact rfl; exact rfl)) | ((with_reducible apply tl_id); first | ((with_reducible apply tl_nil)) | ((with_reducible apply u_q); exact rfl; exact rfl; exact rfl; exact rfl) | ((with_reducible apply u_s0); exact rfl; exact rfl) | ((with_reducible apply u_s); exact rfl; exact rfl; exact rfl) | ((with_reducible apply u_skip); exact rfl; exact rfl; exact rfl) | ((with_reducible apply u_splitD); exact rfl; exact rfl; all_goals first | (intro hp; try (exfalso; omega)) | skip) | ((with_reducible apply u_splitN); exact rfl; exact rfl; all_goals first | (intro hp; try (exfalso; omega)) | skip)) | ((with_reducible apply os_id); first | ((with_reducible apply os_x); exact rfl) | ((with_reducible apply os_storeAgg); exact rfl; exact rfl; exact rfl; exact rfl; exact rfl)) | ((with_reducible apply ox_id); first | ((with_reducible apply ox_alloc); exact rfl; intro _) | ((with_reducible apply ox_boxAgg); exact rfl; intro _)) | ((with_reducible apply rd_id); first | (apply Rd.own; (repeat (first | exact P0 | apply P1)); exact rfl; done)) | ((with_reducible apply t_id); first | ((with_reducible apply t_seq)) | (apply t_region; kernel_rfl) | ((with_reducible apply t_condF); exact rfl) | ((with_reducible apply t_condD); exact rfl; all_goals first | (intro hp; try (exfalso; omega)) | skip) | ((with_reducible apply t_ret)) | ((with_reducible apply t_skip))) | with_reducible apply q_thenN | exact P0 | exact Rdn.zero | apply Rdn.succ | ((with_reducible apply Norm.nil); exact rfl) | ((with_reducible apply Norm.cons); exact rfl) | ((with_reducible apply end_ret)) | exact rvs_nil | ((with_reducible apply rvs_cons)) | ((with_reducible apply rv_tmp); exact rfl) | ((with_reducible apply rv_cellAgg); exact rfl; exact rfl) | exact Nat.le_of_ble_eq_true rfl)
        all_goals rfl
  · have hW : alongV a b c d dx dy = (0, 0, e) := by unfold alongV; rw [he, if_neg he0]
    rw [hW]
    refine enterQ (c := cx w 97) Tryz.func150 rfl rfl rfl rfl ?_
    repeat' (first | ((with_reducible apply oq_id); first | (apply oq_fn; exact rfl; first | exact trivial | (refine ⟨?_, ?_⟩ <;> omega) | (refine ⟨?_, ?_, ?_⟩ <;> omega) | omega | skip) | ((with_reducible apply oq_loadAgg); exact rfl; exact rfl) | ((with_reducible apply oq_call (k := 169) (hc := Tryz.call169)); exact rfl; exact rfl; exact fun D w1 hw1 => H1 w1) | ((with_reducible apply oq_build); exact rfl; exact rfl; exact rfl)) | ((with_reducible apply tl_id); first | ((with_reducible apply tl_nil)) | ((with_reducible apply u_q); exact rfl; exact rfl; exact rfl; exact rfl) | ((with_reducible apply u_s0); exact rfl; exact rfl) | ((with_reducible apply u_s); exact rfl; exact rfl; exact rfl)) | ((with_reducible apply os_id); first | ((with_reducible apply os_x); exact rfl) | ((with_reducible apply os_storeAgg); exact rfl; exact rfl; exact rfl; exact rfl; exact rfl)) | ((with_reducible apply ox_id); first | ((with_reducible apply ox_alloc); exact rfl; intro _) | ((with_reducible apply ox_boxAgg); exact rfl; intro _)) | ((with_reducible apply rd_id); first | (apply Rd.own; (repeat (first | exact P0 | apply P1)); exact rfl; done)) | ((with_reducible apply t_id); first | ((with_reducible apply t_seq)) | (apply t_region; kernel_rfl) | ((with_reducible apply t_condN); exact rfl; all_goals first | (intro hp; try (exfalso; omega)) | skip) | ((with_reducible apply t_ret))) | with_reducible apply q_thenN | with_reducible apply q_thenR | exact P0 | exact Rdn.zero | apply Rdn.succ | ((with_reducible apply Norm.nil); exact rfl) | ((with_reducible apply Norm.cons); exact rfl) | ((with_reducible apply end_ret)) | exact rvs_nil | ((with_reducible apply rvs_cons)) | ((with_reducible apply rv_tmp); exact rfl) | ((with_reducible apply rv_cellAgg); exact rfl; exact rfl) | exact Nat.le_of_ble_eq_true rfl)
    all_goals rfl
end Go.Proofs.YtcjkndjjbjoehaaGreat
namespace Go.Proofs.YtcjkndjjbjoehaaGreat
theorem IsSh.le {n q r k : Int} (hq : 0 < q) (h : IsSh n q r) (hk : ShP n q k) : k ≤ r := by
  rcases Int.lt_or_le r k with g | g
  · exact absurd (hk.mono hq (by omega)) h.2
  · exact g
/-- A sum of two products, squared, is no more than both sums of squares. -/
theorem cauchy (x y p q : Int) : (x * p + y * q) * (x * p + y * q) + (x * -q + y * p) * (x * -q + y * p) = (x * x + y * y) * (p * p + q * q) := by
  simp only [Int.add_mul, Int.mul_add, Int.mul_neg, Int.neg_mul]
  have e1 : x * p * (x * p) = x * x * (p * p) := by ac_rfl
  have e2 : y * q * (y * q) = y * y * (q * q) := by ac_rfl
  have e3 : x * q * (x * q) = x * x * (q * q) := by ac_rfl
  have e4 : y * p * (y * p) = y * y * (p * p) := by ac_rfl
  have e5 : x * p * (y * q) = x * y * (p * q) := by ac_rfl
  have e6 : y * q * (x * p) = x * y * (p * q) := by ac_rfl
  have e7 : x * q * (y * p) = x * y * (p * q) := by ac_rfl
  have e8 : y * p * (x * q) = x * y * (p * q) := by ac_rfl
  omega
theorem cauchy_le (x y p q : Int) : (x * p + y * q) * (x * p + y * q) ≤ (x * x + y * y) * (p * p + q * q) := by
  have h := cauchy x y p q
  have := sq_nn (x * -q + y * p)
  omega
theorem far_sq {a b x : Int} (h1 : a ≤ x) (h2 : x ≤ b) : x * x ≤ farV a b * farV a b := by
  have h : x ≤ farV a b ∧ -x ≤ farV a b := by unfold farV; omega
  rcases Int.le_total 0 x with g | g
  · exact sq_mono g h.1
  · rw [sq_neg x]; exact sq_mono (by omega) h.2
theorem ends_sq {a b c d p q : Int} (hab : a ≤ b) (hcd : c ≤ d) {n : Int} (hn : n = alongLo a b c d p q ∨ n = alongHi a b c d p q) : n * n ≤ (farV a b * farV a b + farV c d * farV c d) * (p * p + q * q) := by
  have key : ∀ x y, a ≤ x → x ≤ b → c ≤ y → y ≤ d → (x * p + y * q) * (x * p + y * q) ≤ (farV a b * farV a b + farV c d * farV c d) * (p * p + q * q) := fun x y h1 h2 h3 h4 => by
    refine Int.le_trans (cauchy_le x y p q) (Int.mul_le_mul_of_nonneg_right ?_ ?_)
    · have := far_sq h1 h2
      have := far_sq h3 h4
      omega
    · have := sq_nn p
      have := sq_nn q
      omega
  have hx : ∃ x, a ≤ x ∧ x ≤ b ∧ ∃ y, c ≤ y ∧ y ≤ d ∧ n = x * p + y * q := by
    rcases hn with rfl | rfl
    · unfold alongLo
      rcases Int.le_total (a * p) (b * p) with h1 | h1 <;> rcases Int.le_total (c * q) (d * q) with h2 | h2
      · exact ⟨a, by omega, by omega, c, by omega, by omega, by omega⟩
      · exact ⟨a, by omega, by omega, d, by omega, by omega, by omega⟩
      · exact ⟨b, by omega, by omega, c, by omega, by omega, by omega⟩
      · exact ⟨b, by omega, by omega, d, by omega, by omega, by omega⟩
    · unfold alongHi
      rcases Int.le_total (a * p) (b * p) with h1 | h1 <;> rcases Int.le_total (c * q) (d * q) with h2 | h2
      · exact ⟨b, by omega, by omega, d, by omega, by omega, by omega⟩
      · exact ⟨b, by omega, by omega, c, by omega, by omega, by omega⟩
      · exact ⟨a, by omega, by omega, d, by omega, by omega, by omega⟩
      · exact ⟨a, by omega, by omega, c, by omega, by omega, by omega⟩
  obtain ⟨x, h1, h2, y, h3, h4, rfl⟩ := hx
  exact key x y h1 h2 h3 h4
def leastV (lo hi : Int) : Int := max (max lo (-hi)) 0
def mostV (lo hi : Int) : Int := max hi (-lo)
/-- The greatest number whose square, times n, is not above x. -/
def IsM (x n r : Int) : Prop := 0 ≤ r ∧ r * r * n ≤ x ∧ x < (r + 1) * (r + 1) * n
theorem sqn_mono {n j k : Int} (hn : 0 ≤ n) (h0 : 0 ≤ j) (h : j ≤ k) : j * j * n ≤ k * k * n := Int.mul_le_mul_of_nonneg_right (sq_mono h0 h) hn
theorem IsM.le {x y n r s : Int} (hn : 0 < n) (h : IsM x n r) (k : IsM y n s) (hxy : x ≤ y) : r ≤ s := by
  rcases Int.lt_or_le s r with g | g
  · have := sqn_mono (n := n) (j := s + 1) (k := r) (by omega) (by have := k.1; omega) (by omega)
    have := h.2.1
    have := k.2.2
    omega
  · exact g
theorem IsM.uniq {x n r s : Int} (hn : 0 < n) (h : IsM x n r) (k : IsM x n s) : r = s := Int.le_antisymm (h.le hn k (Int.le_refl _)) (k.le hn h (Int.le_refl _))
noncomputable def mrV (x n : Int) : Int := open Classical in if h : ∃ r, IsM x n r then Classical.choose h else 0
theorem IsM.val {x n r : Int} (hn : 0 < n) (h : IsM x n r) : mrV x n = r := by
  unfold mrV
  have hex : ∃ r, IsM x n r := ⟨r, h⟩
  rw [dif_pos hex]
  exact (Classical.choose_spec hex).uniq hn h
/-- The least number whose square, times n, is not below x. -/
noncomputable def mhV (x n : Int) : Int := if mrV x n * mrV x n * n < x then mrV x n + 1 else mrV x n
/-- The squares of the least and of the greatest crosswind, times the square of the axis' length. -/
def acLo (a b c d p q : Int) : Int := alongLo a b c d q (-p)
def acHi (a b c d p q : Int) : Int := alongHi a b c d q (-p)
def nearC (a b c d p q : Int) : Int := leastV (acLo a b c d p q) (acHi a b c d p q)
def farC (a b c d p q : Int) : Int := mostV (acLo a b c d p q) (acHi a b c d p q)
end Go.Proofs.YtcjkndjjbjoehaaGreat
namespace Go.Proofs.YtcjkndjjbjoehaaGreat
open Go.RowKit
section
variable {c : Cx} {F : Fr} {H : Hp} {d : Option Tmp} {ty t t' : TypeId} {pos : String} {af : Array Edge} {g : Option (Nat × Bool)} {x y : Operand} {m n k : Int} {v u : Value}
theorem OQ.as {o : Oper} (h : OQ c o F H u) (e : u = v) : OQ c o F H v := e ▸ h
theorem oq_subE (hx : ev F x = some (.int .i64 m)) (hy : ev F y = some (.int .i64 n)) (e : m - n = k ∧ -9223372036854775808 ≤ k ∧ k ≤ 9223372036854775807) : OQ c ⟨d, .binOp .sub t x y t', ty, pos, af, g⟩ F H (.int .i64 k) :=
  (oq_sub hx hy ⟨by omega, by omega⟩).as (by rw [e.1])
theorem oq_addE (hx : ev F x = some (.int .i64 m)) (hy : ev F y = some (.int .i64 n)) (e : m + n = k ∧ -9223372036854775808 ≤ k ∧ k ≤ 9223372036854775807) : OQ c ⟨d, .binOp .add t x y t', ty, pos, af, g⟩ F H (.int .i64 k) :=
  (oq_add hx hy ⟨by omega, by omega⟩).as (by rw [e.1])
theorem oq_min2E {T : Array TypeId} (hx : ev F x = some (.int .i64 m)) (hy : ev F y = some (.int .i64 n)) (e : min m n = k) : OQ c ⟨d, .call ⟨.builtin .min, #[x, y], T⟩, ty, pos, af, g⟩ F H (.int .i64 k) :=
  (oq_min2 hx hy).as (by rw [e])
theorem oq_max2E {T : Array TypeId} (hx : ev F x = some (.int .i64 m)) (hy : ev F y = some (.int .i64 n)) (e : max m n = k) : OQ c ⟨d, .call ⟨.builtin .max, #[x, y], T⟩, ty, pos, af, g⟩ F H (.int .i64 k) :=
  (oq_max2 hx hy).as (by rw [e])
theorem oq_shr1N {k' : IntKind} {a : Nat} (hx : ev F x = some (.int .u64 m)) (hy : ev F y = some (.int k' 1)) (e : m = (a : Int)) : OQ c ⟨d, .binOp .shr t x y t', ty, pos, af, g⟩ F H (.int .u64 ((a / 2 : Nat) : Int)) :=
  (oq_shr1U hx hy (by omega)).as (by subst e; simp)
end
section
variable {c : Cx} {F : Fr} {H H' : Hp} {K : Value → Hp → Prop} {d : Option Tmp} {ty : TypeId} {pos : String} {af : Array Edge} {g : Option (Nat × Bool)} {C C' : List Value} {b : Nat} {tg : Tg} {v : Value}
/-- A call that writes block b, and else only adds to the world. -/
theorem os_callW {f : Operand} {args : Array Operand} {T : Array TypeId} {k : Nat} {fst cap vs : List Value} (hf : ev F f = some (.func (.func k) ⟨fst⟩ ⟨cap⟩)) (hc : ∀ (a : Array Value) (w : World), (callFunc k a).run c.P w = .ok (.enter k a) w)
    (ha : evs F args.toList = some vs) (hp : Pick H b C tg H') (h : ∀ D w, Has c.w0 ⟨c.M, D⟩ H w → Calls c.P k ⟨fst ++ vs ++ cap⟩ w fun e w' => e = .returned v ∧ ExtM [b] w w' ∧ Blk w' b C' tg)
    (hk : K v ((b, C', tg) :: H')) : OS c ⟨d, .call ⟨.value f, args, T⟩, ty, pos, af, g⟩ F H K :=
  os_call hf hc ha fun D w hw => (h D w hw).mono fun e w' ⟨h1, h2, h3⟩ => ⟨v, _, h1, hk, (hw.perm hp.perm).wrote h2 h3⟩
/-- A function that writes block b, and else only adds to the world. -/
theorem enterW {k : FuncId} {fn : Func} {code : Code} {rs : List ResultVar} {args : List Value} {V : Value} (hf : c.P.funcs[k]? = some fn) (hb : fn.body = some code) (hrs : fn.results = ⟨rs⟩) (hN : c.N = args.length + (fn.ntmps - args.length)) (hM : c.M = [b]) (hB : Blk c.w0 b C tg)
    (h : T c (WS.own c.P) code (endQ c rs fun v H => v = V ∧ HpSub H [(b, C', tg)]) (frOf 0 args) [(b, C, tg)]) : Calls c.P k ⟨args⟩ c.w0 fun e w' => e = .returned V ∧ ExtM [b] c.w0 w' ∧ Blk w' b C' tg := by
  refine (enter hf hb hrs hN (fun d v hv => (look_frOf args 0 d v hv).2) ?_ h).mono fun e w' ⟨v, H', h1, ⟨h2, h3⟩, h4⟩ => ⟨by rw [h1, h2], ?_, ?_⟩
  · rw [hM]
    refine ⟨ExtM.refl _ _, fun x hx => ?_, by simp, List.nodup_nil, fun k hk => (List.not_mem_nil hk).elim⟩
    obtain rfl : x = _ := by simpa using hx
    exact ⟨.inr (by simp), hB⟩
  · have := h4.ext; rw [hM] at this; exact this
  · exact ((h4.sub h3).blk _ (List.mem_cons_self ..)).2
end
theorem eqF_cons {P : Program} {w : World} {d : Nat} {xs ys : Array Value} {f : Field} {fs : List Field} {u v : Value} {q : Bool} (hn : (f.name == "_") = false) (hx : (part f.type xs f.offset).run P w = .ok u w) (hy : (part f.type ys f.offset).run P w = .ok v w)
    (he : (Op.equalIn d f.type u v).run P w = .ok q w) : (Op.eqFields d xs ys (f :: fs)).run P w = if q then (Op.eqFields d xs ys fs).run P w else .ok false w := by
  have hn' : f.name ≠ "_" := by simpa using hn
  simp only [Op.eqFields, hn', ne_eq, not_false_eq_true, if_true, Sem.run_bind, hx, hy, he, Result.andThen_ok]
  cases q <;> simp [Sem.run_pure]
theorem part_cell {P : Program} {w : World} {t o : Nat} {xs : List Value} {v : Value} (ha : (isAgg t).run P w = .ok false w) (hv : xs[o]? = some v) : (part t ⟨xs⟩ o).run P w = .ok v w := by
  simp [part, Sem.run_bind, ha, Result.andThen, go_sem, hv]
theorem part_agg {P : Program} {w : World} {t o n : Nat} {xs vs : List Value} (ha : (isAgg t).run P w = .ok true w) (hs : (sizeOf t).run P w = .ok n w) (hv : (xs.drop o).take n = vs) : (part t ⟨xs⟩ o).run P w = .ok (.agg ⟨vs⟩) w := by
  subst hv
  simp [part, Sem.run_bind, ha, hs, Result.andThen, go_sem]
theorem eq_int3 {w : World} {d : Nat} {a b : Int} : (Op.equalIn (d + 1) 3 (.int .i64 a) (.int .i64 b)).run Tryz.prog w = .ok (decide (a = b)) w := by
  rw [run_equalIn_int w d 3 .i64 .i64 a b Tryz.underlying3]
  rfl
theorem eqF_int {w : World} {d o : Nat} {xs ys : List Value} {f : Field} {fs : List Field} {a b : Int} {q : Bool} (hn : (f.name == "_") = false) (ht : f.type = 3) (ho : f.offset = o) (hx : xs[o]? = some (.int .i64 a)) (hy : ys[o]? = some (.int .i64 b))
    (hr : (Op.eqFields (d + 1) ⟨xs⟩ ⟨ys⟩ fs).run Tryz.prog w = .ok q w) : (Op.eqFields (d + 1) ⟨xs⟩ ⟨ys⟩ (f :: fs)).run Tryz.prog w = .ok (decide (a = b) && q) w := by
  rw [eqF_cons hn (by rw [ht, ho]; exact part_cell (Tryz.isAgg3 w) hx) (by rw [ht, ho]; exact part_cell (Tryz.isAgg3 w) hy) (by rw [ht]; exact eq_int3), hr]
  by_cases h : a = b <;> simp [h]
theorem eqF_nil {w : World} {d : Nat} {xs ys : Array Value} : (Op.eqFields d xs ys []).run Tryz.prog w = .ok true w := by simp [Op.eqFields, Sem.run_pure]
section
variable {w : World} {N : Nat} {F : Fr} {H : Hp} {M : List Nat} {d : Option Tmp} {ty t' : TypeId} {pos : String} {af : Array Edge} {g : Option (Nat × Bool)} {x y : Operand} {a0 a1 a2 a3 a4 b0 b1 b2 b3 b4 : Int}
theorem oq_eqS {t : TypeId} {xs ys : Array Value} {q : Bool} (hm : Tryz.prog.eqGuardType Tryz.prog.depth t = false) (he : ∀ w, (Op.equalIn 10000 t (.agg xs) (.agg ys)).run Tryz.prog w = .ok q w) (hx : ev F x = some (.agg xs)) (hy : ev F y = some (.agg ys)) :
    OQ (cxM M w N) ⟨d, .binOp .eql t x y t', ty, pos, af, g⟩ F H (.bool q) := .of fun D a w ha _ => by
  simp only [execOp, ha.ev hx, ha.ev hy, Sem.run_bind, run_eqGuard_agg _ _ _ _ _ _ _ hm, Result.andThen]
  rw [run_eql_struct, he]
  rfl
end
/-- All that the listed operations wait for is listed. -/
def downB (ops : List Oper) (listed : Array Bool) : Bool := go ops 0
where
  go : List Oper → Nat → Bool
  | [], _ => true
  | o :: r, k => (!listed.getD k false || o.after.all fun e => !Region.binds .any e || listed.getD e.on false) && go r (k + 1)
theorem downB_go {listed : Array Bool} : ∀ {ops : List Oper} {k j : Nat} {o : Oper}, downB.go listed ops k = true → ops[j]? = some o → listed.getD (k + j) false = true → ∀ e ∈ o.after, Region.binds .any e = true → listed.getD e.on false = true
  | [], _, _, _, _, h, _ => by simp at h
  | o' :: r, k, 0, o, h, ho, hl => by
    unfold downB.go at h
    obtain rfl : o' = o := by simpa using ho
    intro e he hb
    simp only [Bool.and_eq_true, Bool.or_eq_true, Bool.not_eq_true', Array.all_eq_true_iff_forall_mem] at h
    rcases h.1 with h1 | h1
    · rw [show k + 0 = k from rfl, h1] at hl; cases hl
    · rcases h1 e he with h2 | h2
      · rw [h2] at hb; cases hb
      · exact h2
  | o' :: r, k, j + 1, o, h, ho, hl => by
    unfold downB.go at h
    simp only [Bool.and_eq_true] at h
    exact downB_go (k := k + 1) (j := j) h.2 (by simpa using ho) (by rw [show k + 1 + j = k + (j + 1) by omega]; exact hl)
theorem downB_spec {l : List Oper} {listed : Array Bool} (h : downB l listed = true) : Down ⟨l⟩ listed := fun k o hk ho e he hb =>
  downB_go (k := 0) (j := k) h (by simpa using ho) (by simpa using hk) e he hb
theorem al_more {c : Cx} {l ql : List Oper} {cov : Array Bool} {H0 H : Hp} {n : Nat} {listed : Array Bool} {R : Fr → Hp → Prop} {F : Fr} (q : List Nat) (m : Nat) (hB : (Region.noSelect ⟨l⟩ && downB l listed && lexOk ⟨l⟩ cov q listed) = true) (hn : n = m + q.length) (hq : pickOps l q = some ql) (hs : HpSub H H0)
    (h : GX c ⟨l⟩ ql (fun F' => AL c ⟨l⟩ cov H0 m (listedBy q listed) R F' H0) F H0) : AL c ⟨l⟩ cov H0 n listed R F H := fun D a w ha hw => by
  subst hn
  simp only [Bool.and_eq_true] at hB
  exact SAnyI_lex (Has.up (M := ⟨c.M, D⟩)) hB.1.1 m q listed a hB.2 (downB_spec hB.1.2) (wpGI_mono (fun a' ⟨F', h1, h2⟩ w' hw' => h1 D a' w' h2 hw') q a (h q (pickOps_spec hq) D a ha)) w (hw.sub hs)
section
variable {c : Cx} {F : Fr} {H : Hp} {d : Option Tmp} {ty t : TypeId} {pos : String} {af : Array Edge} {g : Option (Nat × Bool)} {x y z : Operand}
theorem oq_sliceLH {a0 a1 : Bool} {s0 s1 e b o len cap l h : Nat} {z0 z1 : List Value} {k1 : TyK} {k k' : IntKind} {li hi : Int} (ht : tyAt c.tys t = some ⟨a0, s0, z0, .slice e⟩) (he : tyAt c.tys e = some ⟨a1, s1, z1, k1⟩)
    (hx : ev F x = some (.slice (some ⟨b, o, none⟩) len cap)) (hy : ev F y = some (.int k li)) (hz : ev F z = some (.int k' hi)) (hl : li = l) (hh : hi = h) (h1 : l ≤ h) (h3 : h ≤ cap) (h2 : cap ≠ l) :
    OQ c ⟨d, .slice t x (some y) (some z) none, ty, pos, af, g⟩ F H (.slice (some ⟨b, o + l * s1, none⟩) (h - l) (cap - l)) := .of fun D a w ha _ => by
  subst hl hh
  have hk := (c.ty ht).kind w
  have hs := (c.ty he).size w
  simp only [execOp, Option.map, ha.ev hx, ha.ev hy, ha.ev hz]
  simp [Instr.sliceAt, Instr.slice, Instr.sliceBounds, Instr.sliceBound, asIntOf, Sem.run_bind, hk, hs, h1, h2, h3, Result.andThen, go_sem, add_eq]
end
end Go.Proofs.YtcjkndjjbjoehaaGreat
namespace Go.Proofs.YtcjkndjjbjoehaaGreat
open Go.RowKit
attribute [local irreducible] OQ OS OX Rd T TL GX GL AL AI RV wpG SAny Calls
def inCells (z : Int) : List Value := [.int .i64 z]
theorem in_read {w : World} {A : Option Addr} {n : Nat} {l : List Int} (h : RdS w 1 A n (l.map inCells)) {i : Nat} (hi : i < n) :
    ∃ b o x, A = some ⟨b, o, none⟩ ∧ b < w.heap.size ∧ l[i]? = some x ∧ w.cell? ⟨b, o + i * 1, none⟩ = some (.int .i64 x) := by
  obtain ⟨b, o, cs, hA, hb, hx, _, hc⟩ := h.row hi
  simp only [List.getElem?_map, Option.map_eq_some_iff] at hx
  obtain ⟨x, hx, rfl⟩ := hx
  exact ⟨b, o, x, hA, hb, hx, hc 0 _ rfl⟩
end Go.Proofs.YtcjkndjjbjoehaaGreat
namespace Go.Proofs.YtcjkndjjbjoehaaGreat
open Go.RowKit
def iv (z : Int) : Value := .int .i64 z
theorem iv_flat (l : List Int) : (l.map inCells).flatten = l.map iv := by
  induction l with
  | nil => rfl
  | cons z l ih => simp [inCells, iv] at ih ⊢; exact ih
theorem int_rows {w0 : World} {M : Ms} {H H' : Hp} {w : World} {g n : Nat} {l : List Int} {tg : Tg} (hl : l.length = n) (h : Has w0 M H w) (q : Pick H g (l.map iv) tg H') : RdS w 1 (some ⟨g, 0, none⟩) n (l.map inCells) :=
  Blk.rows (by rw [iv_flat]; exact (h.blk _ q.mem).2) (by simpa using hl) (by simp only [List.mem_map]; rintro r ⟨x, _, rfl⟩; rfl)
section
variable {c : Cx} {F : Fr} {H H' : Hp} {K : Value → Hp → Prop} {d : Option Tmp} {ty : TypeId} {pos : String} {af : Array Edge} {gd : Option (Nat × Bool)} {t : TypeId} {x y : Operand} {a0 : Bool} {z0 : List Value} {k0 : TyK} {g k : Nat} {tg : Tg} {row A : List Int} {B : List Value} {z u : Int}
end
theorem eq_span {w : World} {d : Nat} {a b a' b' : Int} : (Op.equalIn (d + 2) 27 (.agg ⟨[.int .i64 a, .int .i64 b]⟩) (.agg ⟨[.int .i64 a', .int .i64 b']⟩)).run Tryz.prog w = .ok (decide (a = a') && (decide (b = b') && true)) w := by
  rw [run_equalIn_struct w (d + 1) 27 _ _ (by kernel_rfl) (by kernel_rfl)]
  simp only [Program.fieldsOf, Tryz.underlying27]
  exact eqF_int rfl rfl rfl rfl rfl (eqF_int rfl rfl rfl rfl rfl eqF_nil)
theorem eqF_span {w : World} {d o : Nat} {xs ys : List Value} {f : Field} {fs : List Field} {a b a' b' : Int} {q : Bool} (hn : (f.name == "_") = false) (ht : f.type = 27) (ho : f.offset = o) (hx : (xs.drop o).take 2 = [.int .i64 a, .int .i64 b]) (hy : (ys.drop o).take 2 = [.int .i64 a', .int .i64 b'])
    (hr : (Op.eqFields (d + 2) ⟨xs⟩ ⟨ys⟩ fs).run Tryz.prog w = .ok q w) : (Op.eqFields (d + 2) ⟨xs⟩ ⟨ys⟩ (f :: fs)).run Tryz.prog w = .ok (decide (a = a') && (decide (b = b') && true) && q) w := by
  rw [eqF_cons hn (by rw [ht, ho]; exact part_agg (Tryz.isAgg27 w) (Tryz.sizeOf27 w) hx) (by rw [ht, ho]; exact part_agg (Tryz.isAgg27 w) (Tryz.sizeOf27 w) hy) (by rw [ht]; exact eq_span), hr]
  by_cases h : a = a' <;> by_cases h2 : b = b' <;> simp [h, h2]
end Go.Proofs.YtcjkndjjbjoehaaGreat
namespace Go.Proofs.YtcjkndjjbjoehaaGreat
open Go.RowKit
attribute [local irreducible] wpG SAny
theorem rfrom_in (n lo hi : Int) (a b : Addr) (w : World) (ha : w.cell? a = some (.int .i64 lo)) (hb : w.cell? b = some (.int .i64 hi)) :
    Calls Tryz.prog 104 #[.int .i64 n, .pointer (some a), .pointer (some b)] w fun e w' => e = .returned (.bool (decide (n < lo) || decide (hi < n))) ∧ w = w' := by
  by_cases h1 : n < lo
  · go_enter Tryz.func104, Tryz.ntmps104
    go_wp2
    go_ret
    simp [h1]
  · go_enter Tryz.func104, Tryz.ntmps104
    go_wp2
    go_ret
    simp
    omega
theorem rfrom_calls (lo hi : Int) (A : Option Addr) (n c : Nat) (zs : List Int) (w : World)
    (hr : RdS w 1 A n (zs.map fun z => [.int .i64 z])) (hn : n ≤ 1000000000) :
    Calls Tryz.prog 67 #[.int .i64 lo, .int .i64 hi, .slice A n c] w fun e w' => e = .returned (.bool (allFrom lo hi zs)) ∧ Ext w w' := by
  have hc := fun caps w1 hx hp => containsFunc_int A n c zs 104 caps (fun n => decide (n < lo) || decide (hi < n)) w1 (hr.ext hx) hp hn
  have H := Lib.hid hc
  clear hc hr hn
  go_enter Tryz.func67, Tryz.ntmps67
  go_wp2_with fail
  refine (H.out _ _ (((Ext.refl w).alloc _).alloc _) ⟨fun args w' => by go_simp, fun n w' hx => ?_⟩).mono ?_
  · refine (rfrom_in n lo hi _ _ w' (hx.cell ?_) (hx.cell ?_)).mono fun e w'' ⟨h1, h2⟩ => ⟨h1, h2 ▸ Ext.refl _⟩
    · go_simp
    · go_simp
  · rintro e w' ⟨rfl, hx⟩
    go_wp2
    go_ret
    refine ⟨?_, hx.of_alloc.of_alloc⟩
    show Ending.returned (.bool (!zs.any fun n => decide (n < lo) || decide (hi < n))) = _
    rw [allFrom_any]
end Go.Proofs.YtcjkndjjbjoehaaGreat
namespace Go.Proofs.YtcjkndjjbjoehaaGreat
open Go.RowKit
theorem Has.right {w0 : World} {M : Ms} {w : World} {G H : Hp} (h : Has w0 M (G ++ H) w) : Has w0 M H w :=
  ⟨h.ext, fun x hx => h.blk x (List.mem_append_right _ hx), by have := h.nodup; rw [List.map_append, List.nodup_append] at this; exact this.2.1, h.marks⟩
theorem Has.left {w0 : World} {M : Ms} {w : World} {G H : Hp} (h : Has w0 M (G ++ H) w) : Has w0 M G w :=
  ⟨h.ext, fun x hx => h.blk x (List.mem_append_left _ hx), by have := h.nodup; rw [List.map_append, List.nodup_append] at this; exact this.1, h.marks⟩
theorem HpSub.skipX {x : Nat × List Value × Tg} {H G : Hp} (h : HpSub H G) : HpSub (x :: H) G := by
  induction h with
  | nil => exact .nil
  | cons p _ ih => exact .cons (.tail p) ih
theorem HpSub.appLeft {G R : Hp} : HpSub (G ++ R) G := by
  induction G with
  | nil => exact HpSub.nil
  | cons x G ih => obtain ⟨b, C, g⟩ := x; exact HpSub.cons P0 ih
theorem HpSub.skipApp {G R X : Hp} (h : HpSub R X) : HpSub (G ++ R) X := by
  induction G with
  | nil => exact h
  | cons x G ih => exact HpSub.skipX ih
theorem hp_perm : ∀ {G H : Hp}, H.Perm G → HpSub H G
  | [], H, _ => HpSub.nil
  | (b, C, g) :: G, H, h => by
    have hm : (b, C, g) ∈ H := h.mem_iff.2 (List.mem_cons_self ..)
    obtain ⟨H', hp⟩ : ∃ H', Pick H b C g H' := by
      clear h
      induction H with
      | nil => cases hm
      | cons x H ih =>
        rcases List.mem_cons.1 hm with rfl | hm
        · exact ⟨H, Pick.head _ _ _ _⟩
        · obtain ⟨H', hp⟩ := ih hm
          exact ⟨x :: H', hp.tail⟩
    exact HpSub.cons hp (hp_perm ((hp.perm.symm.trans h).cons_inv))
theorem hp_comm (A B : Hp) : HpSub (A ++ B) (B ++ A) := hp_perm List.perm_append_comm
theorem HpSub.front {x : Nat × List Value × Tg} {H G : Hp} (h : HpSub H G) : HpSub (x :: H) (x :: G) := by
  obtain ⟨b, C, g⟩ := x; exact HpSub.cons P0 h
/-- What holds of the blocks H holds of the blocks G. -/
def HpW (H G : Hp) : Prop := ∀ w0 M w, Has w0 M H w → Has w0 M G w
theorem HpSub.w {H G : Hp} (h : HpSub H G) : HpW H G := fun _ _ _ hw => hw.sub h
theorem HpW.refl (H : Hp) : HpW H H := fun _ _ _ h => h
theorem HpW.trans {H G K : Hp} (h : HpW H G) (k : HpW G K) : HpW H K := fun _ _ _ hw => k _ _ _ (h _ _ _ hw)
theorem Blk.pre {w : World} {b : Nat} {C D : List Value} {tg : Tg} (h : Blk w b (C ++ D) tg) : Blk w b C tg := by
  rcases h with ⟨c, t, e1, e2, e3⟩ | ⟨e, h⟩
  · exact .inl ⟨c, t, e1, fun o v ho => e2 o v (by
      have := (List.getElem?_eq_some_iff.1 ho).1
      rw [List.getElem?_append_left this]; exact ho), e3⟩
  · exact .inr ⟨(List.append_eq_nil_iff.1 e).1, h⟩
theorem HpW.pre {b : Nat} {C D : List Value} {tg : Tg} {H : Hp} : HpW ((b, C ++ D, tg) :: H) ((b, C, tg) :: H) := fun w0 M w h => by
  refine ⟨h.ext, fun x hx => ?_, h.nodup, h.marks⟩
  rcases List.mem_cons.1 hx with rfl | hx
  · have h1 := h.blk _ (List.mem_cons_self ..)
    exact ⟨h1.1, h1.2.pre⟩
  · exact h.blk _ (List.mem_cons_of_mem _ hx)
theorem HpW.cons {x : Nat × List Value × Tg} {H G : Hp} (h : ∀ w0 M w, Has w0 M (x :: H) w → Has w0 M (x :: G) w) : HpW (x :: H) (x :: G) := h
section
variable {c : Cx} {S : WS c.P} {Q : QS} {F : Fr} {H G R : Hp} {x y : Code} {K : Value → Hp → Prop} {d : Option Tmp} {ty : TypeId} {pos : String} {af : Array Edge} {g : Option (Nat × Bool)} {PV : Value → Hp → Prop} {v : Value}
/-! Interfaces -/
end
/-- Where a queue lies: its block, the place of its first one, the room from there, the room of the block, what is known of the block. -/
structure Qm where
  b : Nat
  o : Nat
  cap : Nat
  c0 : Nat
  C : List Value
def Qok (q : List Int) (m : Qm) : Prop := (m.cap = 0 ∧ q = []) ∨ (∃ pre : List Value, pre.length = m.o ∧ m.C = pre ++ q.map iv ∧ m.c0 = m.o + m.cap ∧ 0 < m.cap)
theorem Qok.at_ {q : List Int} {m : Qm} (h : Qok q m) {i : Nat} {z : Int} (hz : q[i]? = some z) : m.C[m.o + i * 1]? = some (.int .i64 z) := by
  rcases h with ⟨_, rfl⟩ | ⟨pre, h1, h2, _⟩
  · simp at hz
  · rw [h2, List.getElem?_append_right (by omega), List.getElem?_map, show m.o + i * 1 - pre.length = i by omega, hz]; rfl
/-- Sliced from the second one on. -/
def Qm.tail (m : Qm) : Qm := if m.cap = 1 then { m with cap := 0 } else { m with o := m.o + 1, cap := m.cap - 1 }
theorem Qok.tail {q : List Int} {m : Qm} {z : Int} (h : Qok (z :: q) m) (hc : (z :: q).length ≤ m.cap) : Qok q m.tail := by
  rcases h with ⟨_, e⟩ | ⟨pre, h1, h2, h3, h4⟩
  · cases e
  · unfold Qm.tail
    simp only [List.length_cons] at hc
    split
    · exact .inl ⟨rfl, List.eq_nil_of_length_eq_zero (by omega)⟩
    · exact .inr ⟨pre ++ [iv z], by simp [h1], by simp [h2], by simp only []; omega, by simp only []; omega⟩
section
variable {c : Cx} {F : Fr} {H H' : Hp} {K : Value → Hp → Prop} {d : Option Tmp} {ty t : TypeId} {pos : String} {af : Array Edge} {g : Option (Nat × Bool)} {x y s : Operand}
theorem Blk.more {w : World} {b e cap : Nat} {C : List Value} (h : Blk w b C (some (e, 1, cap))) (hc : C.length < cap) : ∃ u, Blk w b (C ++ [u]) (some (e, 1, cap)) := by
  rcases h with ⟨c, t, h1, h2, h3, h4, h5⟩ | ⟨_, t, L, e, _⟩
  · have hlt : C.length < c.size := by omega
    refine ⟨c[C.length], .inl ⟨c, t, h1, fun o v ho => ?_, h3, h4, h5⟩⟩
    rw [List.getElem?_append] at ho
    split at ho
    · exact h2 o v ho
    · have ho2 : o - C.length = 0 := by
        have := (List.getElem?_eq_some_iff.1 ho).1
        simp at this; omega
      rw [ho2] at ho
      have hv : c[C.length] = v := by simpa using ho
      have : o = C.length := by omega
      subst this
      rw [← hv]
      exact Array.getElem?_eq_getElem hlt
  · simp only [mapTg, Option.some.injEq, Prod.mk.injEq] at e
    omega
end
end Go.Proofs.YtcjkndjjbjoehaaGreat
namespace Go.Proofs.YtcjkndjjbjoehaaGreat
theorem countP_drop {α : Type} {p : α → Bool} : ∀ {l : List α} {i : Nat} {u v : α}, l[i]? = some u → p u = true → p v = false → (l.set i v).countP p + 1 = l.countP p
  | [], i, u, v, h, _, _ => by simp at h
  | x :: l, 0, u, v, h, hu, hv => by
    obtain rfl : x = u := by simpa using h
    simp [List.countP_cons, hu, hv]
  | x :: l, i + 1, u, v, h, hu, hv => by
    have := countP_drop (l := l) (i := i) (by simpa using h) hu hv
    simp only [List.set_cons_succ, List.countP_cons]
    omega
/-- The cells beside a cell. -/
def nb (W n a : Nat) : List Nat :=
  (if W ≤ a then [a - W] else []) ++ ((if 0 < a % W then [a - 1] else []) ++ ((if a % W + 1 < W then [a + 1] else []) ++ (if a + W < n then [a + W] else [])))
theorem mem_nb {W n a c : Nat} : c ∈ nb W n a ↔ (W ≤ a ∧ c = a - W) ∨ (0 < a % W ∧ c = a - 1) ∨ (a % W + 1 < W ∧ c = a + 1) ∨ (a + W < n ∧ c = a + W) := by
  unfold nb
  simp only [List.mem_append]
  constructor
  · rintro (h | h | h | h) <;> split at h <;> simp at h <;> omega
  · rintro (⟨h, rfl⟩ | ⟨h, rfl⟩ | ⟨h, rfl⟩ | ⟨h, rfl⟩) <;> simp [h]
/-- A terrain's frame. -/
structure Ter (W Hh n : Nat) : Prop where
  w1 : 1 ≤ W
  h1 : 1 ≤ Hh
  w24 : W ≤ 24
  h24 : Hh ≤ 24
  hn : n = W * Hh
theorem Ter.n0 {W Hh n : Nat} (h : Ter W Hh n) : 0 < n := by rw [h.hn]; exact Nat.mul_pos h.w1 h.h1
theorem row_lt {W Hh a : Nat} (h : a < W * Hh) (hw : 1 ≤ W) : a / W < Hh := by
  rw [Nat.div_lt_iff_lt_mul (by omega), Nat.mul_comm]; exact h
theorem nb_lt {W Hh n a c : Nat} (t : Ter W Hh n) (ha : a < n) (h : c ∈ nb W n a) : c < n := by
  rw [mem_nb] at h
  rcases h with ⟨h, rfl⟩ | ⟨h, rfl⟩ | ⟨h, rfl⟩ | ⟨h, rfl⟩
  · have := t.w1; omega
  · omega
  · have hr := row_lt (t.hn ▸ ha) t.w1
    have h1 := Nat.div_add_mod a W
    have h2 : W * (a / W) + W ≤ W * Hh := by
      have := Nat.mul_le_mul_left W (show a / W + 1 ≤ Hh by omega)
      rw [Nat.mul_add, Nat.mul_one] at this; exact this
    rw [t.hn]; omega
  · exact h
theorem mod_up {W a : Nat} (hw : 1 ≤ W) (h : a % W + 1 < W) : (a + 1) % W = a % W + 1 := by
  rw [Nat.add_mod]
  by_cases h1 : W = 1
  · omega
  · rw [Nat.mod_eq_of_lt (show 1 < W by omega), Nat.mod_eq_of_lt h]
theorem mod_dn {W a : Nat} (hw : 1 ≤ W) (h : 0 < a % W) : (a - 1) % W + 1 = a % W := by
  have h1 := Nat.mod_lt a (show 0 < W by omega)
  have h2 := Nat.div_add_mod a W
  have h3 : a - 1 = W * (a / W) + (a % W - 1) := by omega
  rw [h3, Nat.mul_add_mod, Nat.mod_eq_of_lt (by omega)]; omega
theorem nb_symm {W Hh n a c : Nat} (t : Ter W Hh n) (ha : a < n) (h : c ∈ nb W n a) : a ∈ nb W n c := by
  have hw := t.w1
  rw [mem_nb] at h ⊢
  rcases h with ⟨h, rfl⟩ | ⟨h, rfl⟩ | ⟨h, rfl⟩ | ⟨h, rfl⟩
  · exact .inr (.inr (.inr ⟨by omega, by omega⟩))
  · have h1 := mod_dn hw h
    have h2 := Nat.mod_lt a (show 0 < W by omega)
    exact .inr (.inr (.inl ⟨by omega, by
      have : 0 < a := by rcases Nat.eq_zero_or_pos a with rfl | h3; simp at h; exact h3
      omega⟩))
  · have h1 := mod_up hw h
    exact .inr (.inl ⟨by omega, by omega⟩)
  · exact .inl ⟨by omega, by omega⟩
/-- The height of a cell. -/
def gr (g : List Int) (c : Nat) : Int := g.getD c 0
/-- What can be reached from a cell over cells up to a height. -/
inductive Rch (W n : Nat) (g : List Int) (h : Int) (a : Nat) : Nat → Prop
  | refl (ha : gr g a ≤ h) : Rch W n g h a a
  | step {b c : Nat} (k : Rch W n g h a b) (hc : c ∈ nb W n b) (hg : gr g c ≤ h) : Rch W n g h a c
section
variable {W Hh n : Nat} {g : List Int} {h : Int} {a b c : Nat}
theorem Rch.dst (k : Rch W n g h a b) : gr g b ≤ h := by
  cases k with
  | refl ha => exact ha
  | step _ _ hg => exact hg
theorem Rch.lt (t : Ter W Hh n) (ha : a < n) (k : Rch W n g h a b) : b < n := by
  induction k with
  | refl _ => exact ha
  | step _ hc _ ih => exact nb_lt t ih hc
theorem Rch.mono {h' : Int} (hh : h ≤ h') (k : Rch W n g h a b) : Rch W n g h' a b := by
  induction k with
  | refl ha => exact .refl (by omega)
  | step _ hc hg ih => exact .step ih hc (by omega)
theorem Rch.trans (k : Rch W n g h a b) (l : Rch W n g h b c) : Rch W n g h a c := by
  induction l with
  | refl _ => exact k
  | step _ hc hg ih => exact .step ih hc hg
theorem Rch.symm (t : Ter W Hh n) (ha : a < n) (k : Rch W n g h a b) : Rch W n g h b a := by
  induction k with
  | refl h1 => exact .refl h1
  | step k hc hg ih =>
    exact (Rch.step (.refl hg) (nb_symm t (k.lt t ha) hc) k.dst).trans ih
end
/-- The height of the pass. -/
structure IsPass (W n : Nat) (g : List Int) (a b : Nat) (h : Int) : Prop where
  is : Rch W n g h a b
  least : ∀ k, Rch W n g k a b → h ≤ k
theorem IsPass.uniq {W n : Nat} {g : List Int} {a b : Nat} {h h' : Int} (x : IsPass W n g a b h) (y : IsPass W n g a b h') : h = h' :=
  Int.le_antisymm (x.least _ y.is) (y.least _ x.is)
/-! The search for the lowest path -/
section
variable {W Hh n : Nat} {g : List Int} {a : Nat}
/-- The state of the search: which cells are seen; the front: heights and cells. -/
structure Sea (W n : Nat) (g : List Int) (a : Nat) (seen : List Bool) (f : List (Int × Nat)) : Prop where
  len : seen.length = n
  lt : ∀ x ∈ f, x.2 < n
  rch : ∀ x ∈ f, Rch W n g x.1 a x.2
  seen_ : ∀ u, seen[u]? = some true → ∃ k, (∀ H, Rch W n g H a u → k ≤ H) ∧ ∀ c ∈ nb W n u, seen[c]? = some true ∨ ∃ x ∈ f, x.2 = c ∧ x.1 ≤ max k (gr g c)
  start : seen[a]? = some true ∨ ∃ x ∈ f, x.2 = a ∧ x.1 ≤ gr g a
/-- On the way to a cell that is not seen the front has a cell. -/
theorem Sea.front {seen : List Bool} {f : List (Int × Nat)} (s : Sea W n g a seen f) {b : Nat} {H : Int} (k : Rch W n g H a b) (hb : ¬ seen[b]? = some true) : ∃ x ∈ f, x.1 ≤ H := by
  induction k with
  | refl ha =>
    rcases s.start with h | ⟨x, h1, _, h2⟩
    · exact (hb h).elim
    · exact ⟨x, h1, by omega⟩
  | step k hc hg ih =>
    rename_i b c
    by_cases hs : seen[b]? = some true
    · obtain ⟨q, h1, h2⟩ := s.seen_ b hs
      rcases h2 _ hc with h3 | ⟨x, h3, _, h4⟩
      · exact (hb h3).elim
      · have := h1 _ k
        exact ⟨x, h3, by omega⟩
    · exact ih hs
/-- The least of the front is the lowest way to its cell. -/
theorem Sea.least {seen : List Bool} {f : List (Int × Nat)} (s : Sea W n g a seen f) {x : Int × Nat} (hx : x ∈ f) (hm : ∀ y ∈ f, x.1 ≤ y.1) (hs : ¬ seen[x.2]? = some true) : IsPass W n g a x.2 x.1 :=
  ⟨s.rch x hx, fun k hk => by
    obtain ⟨y, h1, h2⟩ := s.front hk hs
    have := hm y h1; omega⟩
theorem Sea.first (h0 : a < n) : Sea W n g a (List.replicate n false) [(gr g a, a)] := by
  refine ⟨by simp, fun x hx => ?_, fun x hx => ?_, fun u hu => ?_, .inr ⟨_, List.mem_cons_self .., rfl, Int.le_refl _⟩⟩
  · obtain rfl : x = (gr g a, a) := by simpa using hx
    exact h0
  · obtain rfl : x = (gr g a, a) := by simpa using hx
    exact .refl (Int.le_refl _)
  · rw [List.getElem?_replicate] at hu
    split at hu <;> simp at hu
/-- A cell that was seen before is left out. -/
theorem Sea.skip {seen : List Bool} {f f' : List (Int × Nat)} (s : Sea W n g a seen f) {x : Int × Nat} (hp : f.Perm (x :: f')) (hs : seen[x.2]? = some true) : Sea W n g a seen f' := by
  have hin : ∀ y ∈ f', y ∈ f := fun y hy => hp.mem_iff.2 (List.mem_cons_of_mem _ hy)
  have hout : ∀ y ∈ f, y.2 ≠ x.2 → y ∈ f' := fun y hy hne => by
    rcases List.mem_cons.1 (hp.mem_iff.1 hy) with rfl | h
    · exact (hne rfl).elim
    · exact h
  refine ⟨s.len, fun y hy => s.lt y (hin y hy), fun y hy => s.rch y (hin y hy), fun u hu => ?_, ?_⟩
  · obtain ⟨k, h1, h2⟩ := s.seen_ u hu
    refine ⟨k, h1, fun c hc => ?_⟩
    rcases h2 c hc with h3 | ⟨y, h3, rfl, h4⟩
    · exact .inl h3
    · by_cases he : y.2 = x.2
      · rw [he]; exact .inl hs
      · exact .inr ⟨y, hout y h3 he, rfl, h4⟩
  · rcases s.start with h | ⟨y, h1, h2, h3⟩
    · exact .inl h
    · by_cases he : y.2 = x.2
      · rw [← h2, he]; exact .inl hs
      · exact .inr ⟨y, hout y h1 he, h2, h3⟩
/-- A cell that was not seen: its neighbours come to the front. -/
theorem Sea.next (t : Ter W Hh n) {seen : List Bool} {f f' f2 : List (Int × Nat)} (s : Sea W n g a seen f) {x : Int × Nat} (hp : f.Perm (x :: f')) (hm : ∀ y ∈ f, x.1 ≤ y.1) (hs : ¬ seen[x.2]? = some true)
    (hf : f2.Perm ((nb W n x.2).map (fun c => (max x.1 (gr g c), c)) ++ f')) : Sea W n g a (seen.set x.2 true) f2 := by
  have hx : x ∈ f := hp.mem_iff.2 (List.mem_cons_self ..)
  have hlt := s.lt x hx
  have hP := s.least hx hm hs
  have hin : ∀ y ∈ f', y ∈ f := fun y hy => hp.mem_iff.2 (List.mem_cons_of_mem _ hy)
  have hnew : ∀ y ∈ f2, (∃ c ∈ nb W n x.2, y = (max x.1 (gr g c), c)) ∨ y ∈ f' := fun y hy => by
    rcases List.mem_append.1 (hf.mem_iff.1 hy) with h | h
    · obtain ⟨c, h1, rfl⟩ := List.mem_map.1 h
      exact .inl ⟨c, h1, rfl⟩
    · exact .inr h
  have hset : ∀ c, (seen.set x.2 true)[c]? = some true ↔ c = x.2 ∨ seen[c]? = some true := fun c => by
    rw [List.getElem?_set]
    by_cases h : x.2 = c
    · subst h; simp [s.len, hlt]
    · rw [if_neg h]
      constructor
      · intro h1; exact .inr h1
      · rintro (h1 | h1)
        · exact (h h1.symm).elim
        · exact h1
  have hkeep : ∀ y ∈ f, y.2 ≠ x.2 → y ∈ f2 := fun y hy hne => by
    rcases List.mem_cons.1 (hp.mem_iff.1 hy) with rfl | h
    · exact (hne rfl).elim
    · exact hf.mem_iff.2 (List.mem_append_right _ h)
  refine ⟨by simp [s.len], fun y hy => ?_, fun y hy => ?_, fun u hu => ?_, ?_⟩
  · rcases hnew y hy with ⟨c, h1, rfl⟩ | h1
    · exact nb_lt t hlt h1
    · exact s.lt y (hin y h1)
  · rcases hnew y hy with ⟨c, h1, rfl⟩ | h1
    · exact (Rch.step ((s.rch x hx).mono (by simp only []; omega)) h1 (by simp only []; omega))
    · exact s.rch y (hin y h1)
  · by_cases he : u = x.2
    · subst he
      refine ⟨x.1, hP.least, fun c hc => .inr ⟨_, hf.mem_iff.2 (List.mem_append_left _ (List.mem_map.2 ⟨c, hc, rfl⟩)), rfl, Int.le_refl _⟩⟩
    · obtain ⟨k, h1, h2⟩ := s.seen_ u (((hset u).1 hu).resolve_left he)
      refine ⟨k, h1, fun c hc => ?_⟩
      rcases h2 c hc with h3 | ⟨y, h3, rfl, h4⟩
      · exact .inl ((hset c).2 (.inr h3))
      · by_cases hy : y.2 = x.2
        · exact .inl ((hset _).2 (.inl hy))
        · exact .inr ⟨y, hkeep y h3 hy, rfl, h4⟩
  · rcases s.start with h | ⟨y, h1, h2, h3⟩
    · exact .inl ((hset a).2 (.inr h))
    · by_cases hy : y.2 = x.2
      · exact .inl ((hset a).2 (.inl (by rw [← h2, hy])))
      · exact .inr ⟨y, hkeep y h1 hy, h2, h3⟩
end
/-! How many steps are left -/
/-- The cells beside a cell get the steps d, where they have none and are not too high; they are added to the queue. -/
def bfsRow (g : List Int) (h : Int) (d : Nat) : List Nat → List Nat × List Nat → List Nat × List Nat
  | [], s => s
  | c :: l, s => bfsRow g h d l (if s.1.getD c 0 = 0 ∧ gr g c ≤ h then (s.1.set c d, s.2 ++ [c]) else s)
/-- From the levels and the queue k rounds lead to the levels L. -/
inductive Bfs (W n : Nat) (g : List Int) (h : Int) (L : List Nat) : Nat → List Nat → List Nat → Prop
  | done : Bfs W n g h L 0 L []
  | next {k a : Nat} {lev q : List Nat} (s : Bfs W n g h L k (bfsRow g h (lev.getD a 0 + 1) (nb W n a) (lev, q)).1 (bfsRow g h (lev.getD a 0 + 1) (nb W n a) (lev, q)).2) : Bfs W n g h L (k + 1) lev (a :: q)
/-- Steps, one more than from the end; 0: not reached. -/
structure Dist (W n : Nat) (g : List Int) (h : Int) (b : Nat) (L : List Nat) : Prop where
  len : L.length = n
  one : ∀ c, c < n → (L.getD c 0 = 1 ↔ c = b)
  low : ∀ c, c < n → 0 < L.getD c 0 → gr g c ≤ h
  prev : ∀ c, c < n → 1 < L.getD c 0 → ∃ d ∈ nb W n c, L.getD d 0 + 1 = L.getD c 0
  next : ∀ c, c < n → 0 < L.getD c 0 → ∀ d ∈ nb W n c, gr g d ≤ h → 0 < L.getD d 0 ∧ L.getD d 0 ≤ L.getD c 0 + 1
  bnd : ∀ c, L.getD c 0 ≤ n + 1
theorem getD_set {l : List Nat} {i j v : Nat} : (l.set i v).getD j 0 = if i = j ∧ i < l.length then v else l.getD j 0 := by
  simp only [List.getD_eq_getElem?_getD, List.getElem?_set]
  by_cases h : i = j
  · subst h
    by_cases h2 : i < l.length
    · simp [h2]
    · simp [h2]
  · simp [h]
/-- What holds on the way: enough for the walks. -/
structure WI (n : Nat) (lev q : List Nat) : Prop where
  len : lev.length = n
  lt : ∀ c ∈ q, c < n
  cnt : q.length + lev.countP (fun x => x == 0) ≤ n
  bnd : ∀ c, lev.getD c 0 + lev.countP (fun x => x == 0) ≤ n + 1
theorem WI.one {n d c : Nat} {lev q : List Nat} (w : WI n lev q) (hc : c < n) (h0 : lev.getD c 0 = 0) (hd : 0 < d) (hdb : d + lev.countP (fun x => x == 0) ≤ n + 2) : WI n (lev.set c d) (q ++ [c]) := by
  have hg : lev[c]? = some 0 := by
    have : c < lev.length := by rw [w.len]; exact hc
    rw [List.getD_eq_getElem?_getD, List.getElem?_eq_getElem this] at h0
    rw [List.getElem?_eq_getElem this]
    simpa using h0
  have hk := countP_drop (p := fun x : Nat => x == 0) (v := d) hg (by simp) (by simp; omega)
  refine ⟨by simp [w.len], fun x hx => ?_, ?_, fun x => ?_⟩
  · rcases List.mem_append.1 hx with h | h
    · exact w.lt x h
    · obtain rfl : x = c := by simpa using h
      exact hc
  · have := w.cnt; simp only [List.length_append, List.length_singleton]; omega
  · rw [getD_set]
    have := w.bnd x
    split <;> omega
theorem WI.pop {n a : Nat} {lev q : List Nat} (w : WI n lev (a :: q)) : WI n lev q :=
  ⟨w.len, fun c hc => w.lt c (List.mem_cons_of_mem _ hc), by have := w.cnt; simp at this; omega, w.bnd⟩
/-- What a row of the search does. -/
structure RowF (g : List Int) (h : Int) (d : Nat) (l lev q lev' q' : List Nat) : Prop where
  len : lev'.length = lev.length
  keep : ∀ c, 0 < lev.getD c 0 → lev'.getD c 0 = lev.getD c 0
  new : ∀ c, lev'.getD c 0 ≠ lev.getD c 0 → lev.getD c 0 = 0 ∧ lev'.getD c 0 = d ∧ c ∈ l ∧ gr g c ≤ h ∧ c ∈ q'
  all : ∀ c ∈ l, c < lev.length → gr g c ≤ h → 0 < lev'.getD c 0
  que : ∃ x, q' = q ++ x ∧ ∀ c ∈ x, lev'.getD c 0 = d ∧ c < lev.length
theorem bfsRow_spec {g : List Int} {h : Int} {d : Nat} (hd : 0 < d) : ∀ (l lev q : List Nat), (∀ c ∈ l, c < lev.length) → RowF g h d l lev q (bfsRow g h d l (lev, q)).1 (bfsRow g h d l (lev, q)).2
  | [], lev, q, _ => ⟨rfl, fun _ _ => rfl, fun _ h => (h rfl).elim, fun _ h => (List.not_mem_nil h).elim, [], by simp [bfsRow], fun _ h => (List.not_mem_nil h).elim⟩
  | c :: l, lev, q, hl => by
    unfold bfsRow
    have hcl := hl c (List.mem_cons_self ..)
    by_cases hc : lev.getD c 0 = 0 ∧ gr g c ≤ h
    · rw [if_pos hc]
      have ih := bfsRow_spec (g := g) (h := h) hd l (lev.set c d) (q ++ [c]) (fun x hx => by simpa using hl x (List.mem_cons_of_mem _ hx))
      simp only []
      generalize (bfsRow g h d l (lev.set c d, q ++ [c])).1 = lev' at ih ⊢
      generalize (bfsRow g h d l (lev.set c d, q ++ [c])).2 = q' at ih ⊢
      have hset : ∀ x, (lev.set c d).getD x 0 = if c = x then d else lev.getD x 0 := fun x => by
        rw [getD_set]; simp [hcl]
      have hcd : lev'.getD c 0 = d := by rw [ih.keep c (by rw [hset]; simp; exact hd), hset]; simp
      obtain ⟨y, hq1, hq2⟩ := ih.que
      have hcq : c ∈ q' := by rw [hq1]; simp
      refine ⟨by rw [ih.len]; simp, fun x hx => ?_, fun x hx => ?_, fun x hx hlt hgx => ?_, ⟨c :: y, by simp [hq1], fun x hx => ?_⟩⟩
      · have hne : c ≠ x := fun e => by subst e; omega
        rw [ih.keep x (by rw [hset, if_neg hne]; exact hx), hset, if_neg hne]
      · by_cases hne : c = x
        · subst hne
          exact ⟨hc.1, hcd, List.mem_cons_self .., hc.2, hcq⟩
        · obtain ⟨h1, h2, h3, h4, h5⟩ := ih.new x (by rw [hset, if_neg hne]; exact hx)
          rw [hset, if_neg hne] at h1
          exact ⟨h1, h2, List.mem_cons_of_mem _ h3, h4, h5⟩
      · rcases List.mem_cons.1 hx with rfl | hx
        · omega
        · exact ih.all x hx (by simpa using hlt) hgx
      · rcases List.mem_cons.1 hx with rfl | hx
        · exact ⟨hcd, hcl⟩
        · obtain ⟨h1, h2⟩ := hq2 x hx
          exact ⟨h1, by simpa using h2⟩
    · rw [if_neg hc]
      have ih := bfsRow_spec (g := g) (h := h) hd l lev q (fun x hx => hl x (List.mem_cons_of_mem _ hx))
      skip
      generalize (bfsRow g h d l (lev, q)).1 = lev' at ih ⊢
      generalize (bfsRow g h d l (lev, q)).2 = q' at ih ⊢
      refine ⟨ih.len, ih.keep, fun x hx => ?_, fun x hx hlt hgx => ?_, ih.que⟩
      · obtain ⟨h1, h2, h3, h4, h5⟩ := ih.new x hx
        exact ⟨h1, h2, List.mem_cons_of_mem _ h3, h4, h5⟩
      · rcases List.mem_cons.1 hx with rfl | hx
        · have : lev.getD x 0 ≠ 0 := fun e => hc ⟨e, hgx⟩
          rw [ih.keep x (by omega)]; omega
        · exact ih.all x hx hlt hgx
theorem bfsRow_WI {n : Nat} {g : List Int} {h : Int} {d : Nat} (hd : 0 < d) : ∀ (l lev q : List Nat), (∀ c ∈ l, c < n) → WI n lev q → d + lev.countP (fun x => x == 0) ≤ n + 2 →
    WI n (bfsRow g h d l (lev, q)).1 (bfsRow g h d l (lev, q)).2
  | [], lev, q, _, w, _ => w
  | c :: l, lev, q, hl, w, hb => by
    unfold bfsRow
    have hcl := hl c (List.mem_cons_self ..)
    by_cases hc : lev.getD c 0 = 0 ∧ gr g c ≤ h
    · rw [if_pos hc]
      refine bfsRow_WI hd l _ _ (fun x hx => hl x (List.mem_cons_of_mem _ hx)) (w.one hcl hc.1 hd hb) ?_
      have hg : lev[c]? = some 0 := by
        have h0 := hc.1
        have : c < lev.length := by rw [w.len]; exact hcl
        rw [List.getD_eq_getElem?_getD, List.getElem?_eq_getElem this] at h0
        rw [List.getElem?_eq_getElem this]
        simpa using h0
      have := countP_drop (p := fun x : Nat => x == 0) (v := d) hg (by simp) (by simp; omega)
      simp only []
      omega
    · rw [if_neg hc]
      exact bfsRow_WI hd l _ _ (fun x hx => hl x (List.mem_cons_of_mem _ hx)) w hb
/-- What holds between two rounds. -/
structure BI (W n : Nat) (g : List Int) (h : Int) (b : Nat) (lev q : List Nat) : Prop extends WI n lev q where
  set_ : ∀ c ∈ q, 0 < lev.getD c 0
  one : ∀ c, c < n → (lev.getD c 0 = 1 ↔ c = b)
  low : ∀ c, c < n → 0 < lev.getD c 0 → gr g c ≤ h
  prev : ∀ c, c < n → 1 < lev.getD c 0 → ∃ d ∈ nb W n c, lev.getD d 0 + 1 = lev.getD c 0
  next : ∀ c, c < n → 0 < lev.getD c 0 → c ∉ q → ∀ d ∈ nb W n c, gr g d ≤ h → 0 < lev.getD d 0 ∧ lev.getD d 0 ≤ lev.getD c 0 + 1
  ord : ∃ e q1 q2, (∀ c, lev.getD c 0 ≤ e + 1) ∧ q = q1 ++ q2 ∧ (∀ c ∈ q1, lev.getD c 0 = e) ∧ ∀ c ∈ q2, lev.getD c 0 = e + 1
theorem BI.round {W Hh n : Nat} {g : List Int} {h : Int} {b a : Nat} {lev q : List Nat} (t : Ter W Hh n) (i : BI W n g h b lev (a :: q)) :
    BI W n g h b (bfsRow g h (lev.getD a 0 + 1) (nb W n a) (lev, q)).1 (bfsRow g h (lev.getD a 0 + 1) (nb W n a) (lev, q)).2 := by
  have ha : a < n := i.lt a (List.mem_cons_self ..)
  have ha0 := i.set_ a (List.mem_cons_self ..)
  have hl : ∀ c ∈ nb W n a, c < n := fun c hc => nb_lt t ha hc
  have hw := bfsRow_WI (g := g) (h := h) (d := lev.getD a 0 + 1) (by omega) (nb W n a) lev q hl i.toWI.pop (by have := i.bnd a; omega)
  have hr := bfsRow_spec (g := g) (h := h) (d := lev.getD a 0 + 1) (by omega) (nb W n a) lev q (fun c hc => by rw [i.len]; exact hl c hc)
  generalize (bfsRow g h (lev.getD a 0 + 1) (nb W n a) (lev, q)).1 = lev' at hw hr ⊢
  generalize (bfsRow g h (lev.getD a 0 + 1) (nb W n a) (lev, q)).2 = q' at hw hr ⊢
  -- the front's levels
  obtain ⟨e, q1, q2, hm, hqe, hq1, hq2⟩ : ∃ e q1 q2, (∀ c, lev.getD c 0 ≤ e + 1) ∧ q = q1 ++ q2 ∧ (∀ c ∈ q1, lev.getD c 0 = e) ∧ (∀ c ∈ q2, lev.getD c 0 = e + 1) ∧ lev.getD a 0 = e := by
    obtain ⟨e, q1, q2, hm, hqe, hq1, hq2⟩ := i.ord
    cases q1 with
    | nil =>
      rw [List.nil_append] at hqe
      subst hqe
      exact ⟨e + 1, q, [], fun c => by have := hm c; omega, by simp, fun c hc => hq2 c (List.mem_cons_of_mem _ hc), fun c hc => (List.not_mem_nil hc).elim, hq2 a (List.mem_cons_self ..)⟩
    | cons x q1 =>
      rw [List.cons_append, List.cons.injEq] at hqe
      obtain ⟨rfl, rfl⟩ := hqe
      exact ⟨e, q1, q2, hm, rfl, fun c hc => hq1 c (List.mem_cons_of_mem _ hc), hq2, hq1 a (List.mem_cons_self ..)⟩
  obtain ⟨hq2, hae⟩ := hq2
  obtain ⟨x, hx1, hx2⟩ := hr.que
  have hcase : ∀ c, lev'.getD c 0 = lev.getD c 0 ∨ (lev.getD c 0 = 0 ∧ lev'.getD c 0 = lev.getD a 0 + 1 ∧ c ∈ nb W n a ∧ gr g c ≤ h ∧ c ∈ q') := fun c => by
    by_cases hc : lev'.getD c 0 = lev.getD c 0
    · exact .inl hc
    · exact .inr (hr.new c hc)
  have hge : ∀ c, lev.getD c 0 ≤ lev'.getD c 0 := fun c => by rcases hcase c with h1 | h1 <;> omega
  have ha' : lev'.getD a 0 = lev.getD a 0 := hr.keep a ha0
  refine ⟨hw, fun c hc => ?_, fun c hc => ?_, fun c hc h0 => ?_, fun c hc h1 => ?_, fun c hc h0 hnq d hd hgd => ?_, ⟨e, q1, q2 ++ x, fun c => ?_, by rw [hx1, hqe, List.append_assoc], fun c hc => ?_, fun c hc => ?_⟩⟩
  · rw [hx1] at hc
    rcases List.mem_append.1 hc with hc | hc
    · have := i.set_ c (List.mem_cons_of_mem _ hc); have := hge c; omega
    · have := hx2 c hc; omega
  · rcases hcase c with h1 | h1
    · rw [h1]; exact i.one c hc
    · constructor
      · intro h2; omega
      · rintro rfl
        have := (i.one c hc).2 rfl; omega
  · rcases hcase c with h1 | h1
    · exact i.low c hc (by omega)
    · exact h1.2.2.2.1
  · rcases hcase c with h2 | h2
    · obtain ⟨d, h3, h4⟩ := i.prev c hc (by omega)
      exact ⟨d, h3, by rw [hr.keep d (by omega)]; omega⟩
    · exact ⟨a, nb_symm t ha h2.2.2.1, by omega⟩
  · rcases hcase c with h2 | h2
    · by_cases hca : c = a
      · subst hca
        have h3 := hr.all d hd (by rw [i.len]; exact hl d hd) hgd
        refine ⟨h3, ?_⟩
        rcases hcase d with h4 | h4
        · have := hm d; omega
        · omega
      · have hcq : c ∉ a :: q := fun hmem => by
          rcases List.mem_cons.1 hmem with h3 | h3
          · exact hca h3
          · exact hnq (by rw [hx1]; exact List.mem_append_left _ h3)
        obtain ⟨h3, h4⟩ := i.next c hc (by omega) hcq d hd hgd
        rw [hr.keep d h3]
        omega
    · exact (hnq h2.2.2.2.2).elim
  · rcases hcase c with h1 | h1
    · have := hm c; omega
    · omega
  · rw [hr.keep c (i.set_ c (List.mem_cons_of_mem _ (by rw [hqe]; exact List.mem_append_left _ hc)))]
    exact hq1 c hc
  · rcases List.mem_append.1 hc with hc | hc
    · rw [hr.keep c (i.set_ c (List.mem_cons_of_mem _ (by rw [hqe]; exact List.mem_append_right _ hc)))]
      exact hq2 c hc
    · have := hx2 c hc; omega
theorem bfsRow_cnt {n : Nat} {g : List Int} {h : Int} {d : Nat} (hd : 0 < d) : ∀ (l lev q : List Nat), (∀ c ∈ l, c < lev.length) →
    (bfsRow g h d l (lev, q)).2.length + (bfsRow g h d l (lev, q)).1.countP (fun x => x == 0) = q.length + lev.countP (fun x => x == 0)
  | [], lev, q, _ => rfl
  | c :: l, lev, q, hl => by
    unfold bfsRow
    by_cases hc : lev.getD c 0 = 0 ∧ gr g c ≤ h
    · rw [if_pos hc, bfsRow_cnt (n := n) hd l _ _ (fun x hx => by simpa using hl x (List.mem_cons_of_mem _ hx))]
      have hg : lev[c]? = some 0 := by
        have h0 := hc.1
        have : c < lev.length := hl c (List.mem_cons_self ..)
        rw [List.getD_eq_getElem?_getD, List.getElem?_eq_getElem this] at h0
        rw [List.getElem?_eq_getElem this]
        simpa using h0
      have := countP_drop (p := fun x : Nat => x == 0) (v := d) hg (by simp) (by simp; omega)
      simp only [List.length_append, List.length_singleton]
      omega
    · rw [if_neg hc]
      exact bfsRow_cnt (n := n) hd l _ _ (fun x hx => hl x (List.mem_cons_of_mem _ hx))
theorem BI.runs {W Hh n : Nat} {g : List Int} {h : Int} {b : Nat} (t : Ter W Hh n) : ∀ (m : Nat) {lev q : List Nat}, q.length + 2 * lev.countP (fun x => x == 0) = m → BI W n g h b lev q → ∃ k L, Bfs W n g h L k lev q ∧ Dist W n g h b L := by
  intro m
  induction m using Nat.strongRecOn with
  | ind m ih =>
    intro lev q hm i
    cases q with
    | nil =>
      exact ⟨0, lev, .done, i.len, i.one, i.low, i.prev, fun c hc h0 d hd hg => i.next c hc h0 List.not_mem_nil d hd hg, fun c => by have := i.bnd c; omega⟩
    | cons a q =>
      have ha : a < n := i.lt a (List.mem_cons_self ..)
      have hcn := bfsRow_cnt (n := n) (g := g) (h := h) (d := lev.getD a 0 + 1) (by omega) (nb W n a) lev q (fun c hc => by rw [i.len]; exact nb_lt t ha hc)
      have hr := bfsRow_spec (g := g) (h := h) (d := lev.getD a 0 + 1) (by omega) (nb W n a) lev q (fun c hc => by rw [i.len]; exact nb_lt t ha hc)
      obtain ⟨x, hx1, _⟩ := hr.que
      have hq : q.length ≤ (bfsRow g h (lev.getD a 0 + 1) (nb W n a) (lev, q)).2.length := by rw [hx1]; simp
      simp only [List.length_cons] at hm
      obtain ⟨k, L, h1, h2⟩ := ih _ (by omega) rfl (i.round t)
      exact ⟨k + 1, L, .next h1, h2⟩
/-- What has steps can be reached. -/
theorem Dist.back {W Hh n : Nat} {g : List Int} {h : Int} {b : Nat} {L : List Nat} (t : Ter W Hh n) (d : Dist W n g h b L) (hg : gr g b ≤ h) : ∀ (m c : Nat), c < n → L.getD c 0 = m + 1 → Rch W n g h b c
  | 0, c, hc, hm => by rw [(d.one c hc).1 hm]; exact .refl hg
  | m + 1, c, hc, hm => by
    obtain ⟨e, h1, h2⟩ := d.prev c hc (by omega)
    have he := nb_lt t hc h1
    exact .step (Dist.back t d hg m e he (by omega)) (nb_symm t hc h1) (d.low c hc (by omega))
/-! The way -/
/-- The next cell on the way. -/
def nxt (W n : Nat) (L : List Nat) (a : Nat) : Option Nat := (nb W n a).find? fun c => L.getD c 0 + 1 == L.getD a 0
inductive Pth (W n : Nat) (L : List Nat) (b : Nat) : Nat → List Nat → Prop
  | done : Pth W n L b b [b]
  | next {a c : Nat} {l : List Nat} (hne : a ≠ b) (hn : nxt W n L a = some c) (k : Pth W n L b c l) : Pth W n L b a (a :: l)
theorem Dist.nxt {W n : Nat} {g : List Int} {h : Int} {a b : Nat} {L : List Nat} (d : Dist W n g h b L) (ha : a < n) (h0 : 0 < L.getD a 0) (hne : a ≠ b) : ∃ c, nxt W n L a = some c ∧ c ∈ nb W n a ∧ L.getD c 0 + 1 = L.getD a 0 := by
  have h1 : 1 < L.getD a 0 := by
    have : L.getD a 0 ≠ 1 := fun e => hne ((d.one a ha).1 e)
    omega
  obtain ⟨c, h2, h3⟩ := d.prev a ha h1
  generalize hf : Go.Proofs.YtcjkndjjbjoehaaGreat.nxt W n L a = o
  cases o with
  | none =>
    have := List.find?_eq_none.1 hf c h2
    exact absurd (beq_iff_eq.2 h3) this
  | some x =>
    have h4 := List.find?_some hf
    exact ⟨x, rfl, List.mem_of_find?_eq_some hf, by simpa using h4⟩
theorem Pth.uniq {W n : Nat} {L : List Nat} {a b : Nat} {l l' : List Nat} (x : Pth W n L b a l) (y : Pth W n L b a l') : l = l' := by
  induction x generalizing l' with
  | done => cases y with
    | done => rfl
    | next hne _ _ => exact (hne rfl).elim
  | next hne hn k ih => cases y with
    | done => exact (hne rfl).elim
    | next _ hn' k' =>
      rw [hn] at hn'
      obtain rfl := Option.some.inj hn'
      rw [ih k']
theorem Bfs.uniq {W n : Nat} {g : List Int} {h : Int} {L L' : List Nat} {k k' : Nat} {lev q : List Nat} (x : Bfs W n g h L k lev q) (y : Bfs W n g h L' k' lev q) : L = L' := by
  induction x generalizing k' with
  | done => cases y; rfl
  | next s ih => cases y with
    | next s' => exact ih s'
section
variable {c : Cx} {F : Fr} {H : Hp} {d : Option Tmp} {ty t t' : TypeId} {pos : String} {af : Array Edge} {g : Option (Nat × Bool)} {x y : Operand} {k : IntKind} {m n : Int}
theorem oq_leqT (hx : ev F x = some (.int k m)) (hy : ev F y = some (.int k n)) (h : m ≤ n) : OQ c ⟨d, .binOp .leq t x y t', ty, pos, af, g⟩ F H (.bool true) := (oq_leq hx hy).as (by simp [h])
theorem oq_leqF (hx : ev F x = some (.int k m)) (hy : ev F y = some (.int k n)) (h : ¬ m ≤ n) : OQ c ⟨d, .binOp .leq t x y t', ty, pos, af, g⟩ F H (.bool false) := (oq_leq hx hy).as (by simp [h])
theorem oq_lssT (hx : ev F x = some (.int k m)) (hy : ev F y = some (.int k n)) (h : m < n) : OQ c ⟨d, .binOp .lss t x y t', ty, pos, af, g⟩ F H (.bool true) := (oq_lss hx hy).as (by simp [h])
theorem oq_lssF (hx : ev F x = some (.int k m)) (hy : ev F y = some (.int k n)) (h : ¬ m < n) : OQ c ⟨d, .binOp .lss t x y t', ty, pos, af, g⟩ F H (.bool false) := (oq_lss hx hy).as (by simp [h])
theorem oq_gtrT (hx : ev F x = some (.int k m)) (hy : ev F y = some (.int k n)) (h : n < m) : OQ c ⟨d, .binOp .gtr t x y t', ty, pos, af, g⟩ F H (.bool true) := (oq_gtr hx hy).as (by simp [h])
theorem oq_gtrF (hx : ev F x = some (.int k m)) (hy : ev F y = some (.int k n)) (h : ¬ n < m) : OQ c ⟨d, .binOp .gtr t x y t', ty, pos, af, g⟩ F H (.bool false) := (oq_gtr hx hy).as (by simp [h])
theorem oq_geqT (hx : ev F x = some (.int k m)) (hy : ev F y = some (.int k n)) (h : n ≤ m) : OQ c ⟨d, .binOp .geq t x y t', ty, pos, af, g⟩ F H (.bool true) := (oq_geq hx hy).as (by simp [h])
theorem oq_geqF (hx : ev F x = some (.int k m)) (hy : ev F y = some (.int k n)) (h : ¬ n ≤ m) : OQ c ⟨d, .binOp .geq t x y t', ty, pos, af, g⟩ F H (.bool false) := (oq_geq hx hy).as (by simp [h])
theorem oq_eqlT (hx : ev F x = some (.int k m)) (hy : ev F y = some (.int k n)) (h : m = n) : OQ c ⟨d, .binOp .eql t x y t', ty, pos, af, g⟩ F H (.bool true) := (oq_eql hx hy).as (by simp [h])
theorem oq_eqlF (hx : ev F x = some (.int k m)) (hy : ev F y = some (.int k n)) (h : ¬ m = n) : OQ c ⟨d, .binOp .eql t x y t', ty, pos, af, g⟩ F H (.bool false) := (oq_eql hx hy).as (by simp [h])
theorem oq_neqT (hx : ev F x = some (.int k m)) (hy : ev F y = some (.int k n)) (h : ¬ m = n) : OQ c ⟨d, .binOp .neq t x y t', ty, pos, af, g⟩ F H (.bool true) := (oq_neq hx hy).as (by simp [h])
theorem oq_neqF (hx : ev F x = some (.int k m)) (hy : ev F y = some (.int k n)) (h : m = n) : OQ c ⟨d, .binOp .neq t x y t', ty, pos, af, g⟩ F H (.bool false) := (oq_neq hx hy).as (by simp [h])
end
theorem oq_mulE {c : Cx} {F : Fr} {H : Hp} {d : Option Tmp} {ty t t' : TypeId} {pos : String} {af : Array Edge} {g : Option (Nat × Bool)} {x y : Operand} {m n k : Int} (hx : ev F x = some (.int .i64 m)) (hy : ev F y = some (.int .i64 n)) (e : m * n = k) (hk : -9223372036854775808 ≤ k ∧ k ≤ 9223372036854775807) : OQ c ⟨d, .binOp .mul t x y t', ty, pos, af, g⟩ F H (.int .i64 k) := by
  subst e
  exact oq_mul hx hy ⟨hk.1, hk.2⟩
end Go.Proofs.YtcjkndjjbjoehaaGreat
namespace Go.Proofs.YtcjkndjjbjoehaaGreat
open Go.RowKit
attribute [local irreducible] OQ OS OX Rd T TL GX GL AL AI RV wpG SAny Calls
def hI (l : List Int) : Option (Nat × Nat) → Hp
  | none => []
  | some (b, cap) => [(b, l.map iv, some (3, 1, cap))]
def cI (l : List Nat) : List Int := l.map fun c : Nat => (c : Int)
def p1 (W a : Nat) : List Nat := if W ≤ a then [a - W] else []
def p2 (W a : Nat) : List Nat := if 0 < a % W then [a - 1] else []
def p3 (W a : Nat) : List Nat := if a % W + 1 < W then [a + 1] else []
def p4 (W n a : Nat) : List Nat := if a + W < n then [a + W] else []
section
variable {c : Cx} {F : Fr} {H : Hp} {d : Option Tmp} {ty t t' : TypeId} {pos : String} {af : Array Edge} {g : Option (Nat × Bool)} {x y : Operand} {m n k : Int}
end
theorem allFrom_two {lo hi x y : Int} : allFrom lo hi [x, y] = true ↔ lo ≤ x ∧ x ≤ hi ∧ lo ≤ y ∧ y ≤ hi := by
  simp [allFrom]; omega
theorem within6_calls (n lo hi : Int) (w : World) : Calls Tryz.prog 71 #[.int .i64 n, .int .i64 lo, .int .i64 hi] w fun e w' => e = .returned (.bool (decide (lo ≤ n ∧ n ≤ hi))) ∧ Ext w w' := by
  refine enterQ (c := cx w 15) Tryz.func71 rfl rfl rfl rfl ?_
  ((all_goals refine goF0 ?_); (all_goals constructor); (any_goals exact trivial); all_goals intros)
  all_goals (show Value.bool _ = Value.bool _; congr 1; rw [Bool.eq_iff_iff]; simp; try omega)
theorem within6_t (n lo hi : Int) (h : lo ≤ n ∧ n ≤ hi) (w : World) : Calls Tryz.prog 71 #[.int .i64 n, .int .i64 lo, .int .i64 hi] w fun e w' => e = .returned (.bool true) ∧ Ext w w' := by
  have := within6_calls n lo hi w
  rw [decide_eq_true h] at this
  exact this
theorem within6_f (n lo hi : Int) (h : ¬ (lo ≤ n ∧ n ≤ hi)) (w : World) : Calls Tryz.prog 71 #[.int .i64 n, .int .i64 lo, .int .i64 hi] w fun e w' => e = .returned (.bool false) ∧ Ext w w' := by
  have := within6_calls n lo hi w
  rw [decide_eq_false h] at this
  exact this
end Go.Proofs.YtcjkndjjbjoehaaGreat
namespace Go.Proofs.YtcjkndjjbjoehaaGreat
open Go.RowKit
theorem within_q (n lo hi : Int) {q : Bool} (hq : decide (lo ≤ n ∧ n ≤ hi) = q) (w : World) : Calls Tryz.prog 158 #[.int .i64 n, .int .i64 lo, .int .i64 hi] w fun e w' => e = .returned (.bool q) ∧ Ext w w' := hq ▸ (within_calls n lo hi w).mono fun e w' h => ⟨h.1, h.2 ▸ Ext.refl _⟩
theorem in_q (x y lo hi : Int) {q : Bool} (hq : decide (x ≤ y ∧ lo ≤ x ∧ y ≤ hi) = q) (w : World) : Calls Tryz.prog 159 #[.agg #[.int .i64 x, .int .i64 y], .int .i64 lo, .int .i64 hi] w fun e w' => e = .returned (.bool q) ∧ Ext w w' := by
  have := in_calls x y lo hi w
  have e : insideB x y lo hi = q := by rw [← hq]; unfold insideB; rw [Bool.eq_iff_iff]; try (simp; try omega)
  rw [e] at this
  exact this
end Go.Proofs.YtcjkndjjbjoehaaGreat
namespace Go.Proofs.YtcjkndjjbjoehaaGreat
open Go.RowKit
attribute [local irreducible] OQ OS OX Rd T TL GX GL AL AI RV wpG SAny Calls
section
variable {w : World} {N : Nat} {F : Fr} {H : Hp} {M : List Nat} {d : Option Tmp} {ty t' : TypeId} {pos : String} {af : Array Edge} {g : Option (Nat × Bool)} {x y : Operand} {a b a' b' : Int} {q : Bool}
end
/-- A wind that the mast takes. -/
structure WOk (a b c d : Int) : Prop where
  ab : a ≤ b
  cd : c ≤ d
  a2 : -2000 ≤ a
  b2 : b ≤ 2000
  c2 : -2000 ≤ c
  d2 : d ≤ 2000
section
variable {c : Cx} {F : Fr} {H : Hp} {d : Option Tmp} {ty t t' : TypeId} {pos : String} {af : Array Edge} {g : Option (Nat × Bool)} {x y : Operand} {m n k : Int}
theorem oq_quoI (hx : ev F x = some (.int .i64 m)) (hy : ev F y = some (.int .i64 n)) (e : m.tdiv n = k ∧ n ≠ 0 ∧ -9223372036854775808 ≤ k ∧ k ≤ 9223372036854775807) : OQ c ⟨d, .binOp .quo t x y t', ty, pos, af, g⟩ F H (.int .i64 k) :=
  (oq_quo hx hy e.2.1 (by rw [e.1]; exact ⟨e.2.2.1, e.2.2.2⟩)).as (by rw [e.1])
theorem oq_remI (hx : ev F x = some (.int .i64 m)) (hy : ev F y = some (.int .i64 n)) (e : m.tmod n = k) (h : n ≠ 0) : OQ c ⟨d, .binOp .rem t x y t', ty, pos, af, g⟩ F H (.int .i64 k) :=
  (oq_rem hx hy h).as (by rw [e])
end
end Go.Proofs.YtcjkndjjbjoehaaGreat
namespace Go.Proofs.YtcjkndjjbjoehaaGreat
/-- A level: its height, pressure and temperature. -/
structure Lv where
  h : Int
  plo : Int
  phi : Int
  tlo : Int
  thi : Int
def Lv.press (x : Lv) : Int × Int := (x.plo, x.phi)
def Lv.temp (x : Lv) : Int × Int := (x.tlo, x.thi)
def Lv.put (x : Lv) (s : Int × Int) : Lv := ⟨x.h, s.1, s.2, x.tlo, x.thi⟩
theorem all_range_no {n k : Nat} {p : Nat → Bool} (hk : k < n) (h : p k = false) : (List.range n).all p = false := by
  rw [Bool.eq_false_iff, Ne, List.all_eq_true]
  intro h2
  have := h2 k (List.mem_range.2 hk)
  rw [h] at this
  cases this
theorem all_range_yes {n : Nat} {p : Nat → Bool} (h : ∀ k, k < n → p k = true) : (List.range n).all p = true :=
  List.all_eq_true.2 fun k hk => h k (List.mem_range.1 hk)
structure Gl where
  h : Int
  xlo : Int
  xhi : Int
  ylo : Int
  yhi : Int
  gust : Int
def glCells (x : Gl) : List Value := [.int .i64 x.h, .int .i64 x.xlo, .int .i64 x.xhi, .int .i64 x.ylo, .int .i64 x.yhi, .int .i64 x.gust]
theorem gl_read {w : World} {A : Option Addr} {n : Nat} {l : List Gl} (h : RdS w 6 A n (l.map glCells)) {i : Nat} (hi : i < n) :
    ∃ b o x, A = some ⟨b, o, none⟩ ∧ b < w.heap.size ∧ l[i]? = some x ∧ w.cell? ⟨b, o + i * 6, none⟩ = some (.int .i64 x.h) ∧ w.cell? ⟨b, o + i * 6 + 1, none⟩ = some (.int .i64 x.xlo) ∧ w.cell? ⟨b, o + i * 6 + 2, none⟩ = some (.int .i64 x.xhi) ∧
      w.cell? ⟨b, o + i * 6 + 3, none⟩ = some (.int .i64 x.ylo) ∧ w.cell? ⟨b, o + i * 6 + 4, none⟩ = some (.int .i64 x.yhi) ∧ w.cell? ⟨b, o + i * 6 + 5, none⟩ = some (.int .i64 x.gust) := by
  obtain ⟨b, o, cs, hA, hb, hx, _, hc⟩ := h.row hi
  simp only [List.getElem?_map, Option.map_eq_some_iff] at hx
  obtain ⟨x, hx, rfl⟩ := hx
  exact ⟨b, o, x, hA, hb, hx, hc 0 _ rfl, hc 1 _ rfl, hc 2 _ rfl, hc 3 _ rfl, hc 4 _ rfl, hc 5 _ rfl⟩
/-- A gale, and the one below it. -/
def galeOk (x : Gl) (y : Option Gl) : Bool :=
  decide (-500 ≤ x.h ∧ x.h ≤ 9000) && ((match y with | some y => decide (y.h < x.h) | none => true) && (decide (0 ≤ x.gust ∧ x.gust ≤ 500) && (decide (x.xlo ≤ x.xhi ∧ -1000 ≤ x.xlo ∧ x.xhi ≤ 1000) && decide (x.ylo ≤ x.yhi ∧ -1000 ≤ x.ylo ∧ x.yhi ≤ 1000))))
def prevG (l : List Gl) : Nat → Option Gl | 0 => none | j + 1 => l[j]?
def galeAt (l : List Gl) (i : Nat) : Bool := match l[i]? with | some x => galeOk x (prevG l i) | none => true
def windB (l : List Gl) : Bool := decide (1 ≤ (l.length : Int) ∧ (l.length : Int) ≤ 16) && (List.range l.length).all (galeAt l)
theorem galeAt_eq {l : List Gl} {i : Nat} {x : Gl} (h : l[i]? = some x) : galeAt l i = galeOk x (prevG l i) := by unfold galeAt; rw [h]
theorem windB_no {l : List Gl} {k n : Nat} (hl : l.length = n) (hk : k < n) (h : galeAt l k = false) : windB l = false := by
  unfold windB
  rw [all_range_no (by simpa [hl] using hk) h, Bool.and_false]
theorem windB_short {l : List Gl} {n : Nat} (hl : l.length = n) (h : decide (1 ≤ (n : Int) ∧ (n : Int) ≤ 16) = false) : windB l = false := by
  unfold windB
  rw [hl, h, Bool.false_and]
theorem windB_yes {l : List Gl} {n : Nat} (hl : l.length = n) (h1 : decide (1 ≤ (n : Int) ∧ (n : Int) ≤ 16) = true) (h : ∀ j, j < n → galeAt l j = true) : windB l = true := by
  unfold windB
  rw [hl, h1, all_range_yes h, Bool.and_true]
/-- Valid winds. -/
structure Wnd (l : List Gl) : Prop where
  n1 : 1 ≤ l.length
  n16 : l.length ≤ 16
  ok : ∀ x ∈ l, -500 ≤ x.h ∧ x.h ≤ 9000 ∧ 0 ≤ x.gust ∧ x.gust ≤ 500 ∧ x.xlo ≤ x.xhi ∧ -1000 ≤ x.xlo ∧ x.xhi ≤ 1000 ∧ x.ylo ≤ x.yhi ∧ -1000 ≤ x.ylo ∧ x.yhi ≤ 1000
  rise : ∀ {i : Nat} {x y : Gl}, l[i]? = some x → l[i + 1]? = some y → x.h < y.h
theorem windB_iff (l : List Gl) : windB l = true ↔ Wnd l := by
  unfold windB
  simp only [Bool.and_eq_true, List.all_eq_true, List.mem_range, decide_eq_true_eq]
  constructor
  · rintro ⟨h1, h2⟩
    refine ⟨by omega, by omega, fun x hx => ?_, fun {i x y} hx hy => ?_⟩
    · obtain ⟨i, hi, rfl⟩ := List.getElem_of_mem hx
      have h3 := h2 i hi
      rw [galeAt_eq (List.getElem?_eq_getElem hi)] at h3
      unfold galeOk at h3
      simp only [Bool.and_eq_true, decide_eq_true_eq] at h3
      omega
    · have h3 := h2 (i + 1) (List.getElem?_eq_some_iff.1 hy).1
      rw [galeAt_eq hy, show prevG l (i + 1) = some x from hx] at h3
      unfold galeOk at h3
      simp only [Bool.and_eq_true, decide_eq_true_eq] at h3
      omega
  · rintro ⟨h1, h2, h3, h4⟩
    refine ⟨by omega, fun i hi => ?_⟩
    have hx : l[i]? = some l[i] := List.getElem?_eq_getElem hi
    have hb := h3 _ (List.mem_of_getElem? hx)
    rw [galeAt_eq hx]
    cases i with
    | zero =>
      unfold galeOk prevG
      simp only [Bool.and_eq_true, decide_eq_true_eq, true_and]; omega
    | succ j =>
      have hy : l[j]? = some l[j] := List.getElem?_eq_getElem (by omega)
      have := h4 hy hx
      rw [show prevG l (j + 1) = some l[j] from hy]
      unfold galeOk
      simp only [Bool.and_eq_true, decide_eq_true_eq]; omega
end Go.Proofs.YtcjkndjjbjoehaaGreat

