/- A part of the proof: rules for walks, and contracts of functions (8). -/
import Derived.Test.YtcjkndjjbjoehaaGreatX3A
import Derived.Test.YtcjkndjjbjoehaaGreatX3E
import Derived.Test.YtcjkndjjbjoehaaGreatX3G
import Derived.Test.YtcjkndjjbjoehaaGreatX3C
set_option linter.unusedVariables false
set_option linter.unusedSimpArgs false
set_option maxRecDepth 100000
set_option maxHeartbeats 2000000
namespace Go.Proofs.YtcjkndjjbjoehaaGreat
theorem goJ0 {G A1 A2 A3 A4 A5 A6 A7 A8 A9 A10 A11 A12 A13 A14 A15 A16 : Prop} (p : GoP A1 A2 A3 A4 A5 A6 A7 A8 A9 A10 A11 A12 A13 A14 A15 A16) (h : GoL A1 → GoL A2 → GoL A3 → GoL A4 → GoL A5 → GoL A6 → GoL A7 → GoL A8 → GoL A9 → GoL A10 → GoL A11 → GoL A12 → GoL A13 → GoL A14 → GoL A15 → GoL A16 → GoM → G := by intro m1 m2 m3 m4 m5 m6 m7 m8 m9 m10 m11 m12 m13 m14 m15 m16 _; (repeat' (first | ((with_reducible apply oq_id); first | ((with_reducible apply oc_id); first | ((with_reducible apply oq_call (k := 88) (hc := Tryz.call88)); exact rfl; exact rfl; exact fun D w1 hw1 => HC w1 hw1.ext.ext) | ((with_reducible apply oq_call (k := 89) (hc := Tryz.call89)); exact rfl; exact rfl; exact fun D w1 hw1 => HF w1) | ((with_reducible apply oq_call (k := 90) (hc := Tryz.call90)); exact rfl; exact rfl; exact fun D w1 hw1 => srchGe hr hn p q r1 k1 h1 h2 w1 hw1 (by (repeat (first | exact P0 | apply P1))) (by (repeat (first | exact P0 | apply P1)))) | ((with_reducible apply oq_call (k := 90) (hc := Tryz.call90)); exact rfl; exact rfl; exact fun D w1 hw1 => srchGt hr hn p q r2 k2 h3 h4 w1 hw1 (by (repeat (first | exact P0 | apply P1))) (by (repeat (first | exact P0 | apply P1)))) | ((with_reducible apply oq_call (k := 94) (hc := Tryz.call94)); exact rfl; exact rfl; exact fun D w1 hw1 => layers_calls 95 true _ n c l p q w1 (hr.ext hw1.ext.ext) hW hpq Tryz.call95 (fun x w2 => eastG_calls _ _ _ _ w2)) | ((with_reducible apply oq_call (k := 94) (hc := Tryz.call94)); exact rfl; exact rfl; exact fun D w1 hw1 => layers_calls 96 false _ n c l p q w1 (hr.ext hw1.ext.ext) hW hpq Tryz.call96 (fun x w2 => northG_calls _ _ _ _ w2)) | ((with_reducible apply oq_call (k := 93) (hc := Tryz.call93)); exact rfl; exact rfl; exact fun D w1 hw1 => wide1 ⟨by omega, by omega⟩ ⟨by omega, by omega⟩ G hw1 (by (repeat (first | exact P0 | apply P1))))) | ((with_reducible apply oq_sliceLH (l := a) (h := m)); exact rfl; exact rfl; exact rfl; exact rfl; exact rfl; omega; omega; omega; omega; omega) | (focus ((with_reducible apply oq_indexAddrN); exact rfl; exact rfl; exact rfl; exact rfl; omega)) | (apply oq_fn; exact rfl; first | exact trivial | (refine ⟨?_, ?_⟩ <;> omega) | (refine ⟨?_, ?_, ?_⟩ <;> omega) | omega | skip) | ((with_reducible apply oq_load); exact rfl; exact rfl) | ((with_reducible apply oq_loadAgg); exact rfl; exact rfl) | ((with_reducible apply oq_build); exact rfl; exact rfl; exact rfl)) | ((with_reducible apply tl_id); first | ((with_reducible apply tl_nil)) | ((with_reducible apply u_q); exact rfl; exact rfl; exact rfl; exact rfl) | ((with_reducible apply u_s0); exact rfl; exact rfl) | ((with_reducible apply u_s); exact rfl; exact rfl; exact rfl)) | ((with_reducible apply gx_id); first | ((with_reducible apply v_nil)) | ((with_reducible apply v_q); exact rfl; exact rfl; exact rfl)) | ((with_reducible apply os_id); first | ((with_reducible apply os_x); exact rfl) | ((with_reducible apply os_store); exact rfl; exact rfl; exact rfl; exact rfl) | ((with_reducible apply os_storeAgg); exact rfl; exact rfl; exact rfl; exact rfl; exact rfl)) | ((with_reducible apply ox_id); first | ((with_reducible apply ox_alloc); exact rfl; intro _) | ((with_reducible apply ox_box); exact rfl; exact rfl; intro _) | ((with_reducible apply ox_boxAgg); exact rfl; intro _)) | ((with_reducible apply ai_id); first | ((with_reducible apply ai_q); exact rfl; exact rfl; exact rfl; exact rfl; exact rfl) | ((with_reducible apply ai_s0); exact rfl; exact rfl; exact rfl; exact rfl)) | ((with_reducible apply rd_id); first | (apply Rd.own; (repeat (first | exact P0 | apply P1)); exact rfl; done) | (apply Rd.old; (first | (with_reducible assumption) | exact c0 | exact c1 | exact c2 | exact c3 | exact c4 | exact c5); first | exact List.not_mem_nil)) | ((with_reducible apply t_id); first | ((with_reducible apply t_seq)) | (apply t_region; kernel_rfl) | ((with_reducible apply t_condT); exact rfl) | ((with_reducible apply t_condF); exact rfl) | ((with_reducible apply t_condD); exact rfl; all_goals first | (intro _; try (exfalso; omega)) | skip) | ((with_reducible apply t_ret)) | ((with_reducible apply t_skip)) | ((with_reducible apply t_exit)) | ((with_reducible apply t_block))) | with_reducible apply q_thenN | with_reducible apply q_thenR | with_reducible apply q_blockN | with_reducible apply q_thenE | ((with_reducible apply q_blockE); exact rfl) | exact P0 | ((with_reducible apply P1)) | exact Rdn.zero | apply Rdn.succ | ((with_reducible apply Norm.nil); exact rfl) | ((with_reducible apply Norm.cons); exact rfl) | ((with_reducible apply end_ret)) | exact rvs_nil | ((with_reducible apply rvs_cons)) | ((with_reducible apply rv_tmp); exact rfl) | ((with_reducible apply rv_cellAgg); exact rfl; exact rfl) | (apply t_mix (id := 16) [0, 1, 2, 3, 4, 5, 6, 7, 8, 9, 10] 2 #[false, false, false, false, false, false, false, false, false, false, false, true, false]; kernel_rfl; kernel_rfl; exact rfl) | ((with_reducible apply al_id); first | (apply al_done; decide +kernel) | (apply al_one 11; decide +kernel) | (apply al_one 12; decide +kernel)) | exact Nat.le_of_ble_eq_true rfl)); (try focus (repeat (rename_i x; first | exact goD x m1.p | revert x))); (try focus (repeat (rename_i x; first | exact goD x m2.p | revert x))); (try focus (repeat (rename_i x; first | exact goD x m3.p | revert x))); (try focus (repeat (rename_i x; first | exact goD x m4.p | revert x))); (try focus (repeat (rename_i x; first | exact goD x m5.p | revert x))); (try focus (repeat (rename_i x; first | exact goD x m6.p | revert x))); (try focus (repeat (rename_i x; first | exact goD x m7.p | revert x))); (try focus (repeat (rename_i x; first | exact goD x m8.p | revert x))); (try focus (repeat (rename_i x; first | exact goD x m9.p | revert x))); (try focus (repeat (rename_i x; first | exact goD x m10.p | revert x))); (try focus (repeat (rename_i x; first | exact goD x m11.p | revert x))); (try focus (repeat (rename_i x; first | exact goD x m12.p | revert x))); (try focus (repeat (rename_i x; first | exact goD x m13.p | revert x))); (try focus (repeat (rename_i x; first | exact goD x m14.p | revert x))); (try focus (repeat (rename_i x; first | exact goD x m15.p | revert x))); (try focus (repeat (rename_i x; first | exact goD x m16.p | revert x)))) (e : GoTs A1 A2 A3 A4 A5 A6 A7 A8 A9 A10 A11 A12 A13 A14 A15 A16 := by constructor <;> first | (with_reducible exact GoT.t) | exact GoT.u) : G := p.run h
theorem goJ2 {G A1 A2 A3 A4 A5 A6 A7 A8 A9 A10 A11 A12 A13 A14 A15 A16 : Prop} (p : GoP A1 A2 A3 A4 A5 A6 A7 A8 A9 A10 A11 A12 A13 A14 A15 A16) (h : GoL A1 → GoL A2 → GoL A3 → GoL A4 → GoL A5 → GoL A6 → GoL A7 → GoL A8 → GoL A9 → GoL A10 → GoL A11 → GoL A12 → GoL A13 → GoL A14 → GoL A15 → GoL A16 → GoM → G := by intro m1 m2 m3 m4 m5 m6 m7 m8 m9 m10 m11 m12 m13 m14 m15 m16 _; (repeat' (first | ((with_reducible apply oq_id); first | ((with_reducible apply oc_id); first | ((with_reducible apply oq_call (k := 39) (hc := Tryz.call39)); exact rfl; exact rfl; exact fun D w1 hw1 => HX w1 hw1.ext.ext) | ((with_reducible apply oq_call (k := 130) (hc := Tryz.call130)); exact rfl; exact rfl; exact fun D w1 hw1 => HA w1) | ((with_reducible apply oq_call (k := 130) (hc := Tryz.call130)); exact rfl; exact rfl; exact fun D w1 hw1 => HC w1) | ((with_reducible apply oq_call (k := 118) (hc := Tryz.call118)); exact rfl; exact rfl; exact fun D w1 hw1 => HR w1) | ((with_reducible apply oq_call (k := 149) (hc := Tryz.call149)); exact rfl; exact rfl; exact fun D w1 hw1 => HX w1 hw1.ext.ext) | ((with_reducible apply oq_call (k := 150) (hc := Tryz.call150)); exact rfl; exact rfl; exact fun D w1 hw1 => HA w1) | ((with_reducible apply oq_call (k := 150) (hc := Tryz.call150)); exact rfl; exact rfl; exact fun D w1 hw1 => HC w1) | ((with_reducible apply oq_call (k := 126) (hc := Tryz.call126)); exact rfl; exact rfl; exact fun D w1 hw1 => HR w1) | ((with_reducible apply oq_call (k := 148) (hc := Tryz.call148)); exact rfl; exact rfl; exact fun D w1 hw1 => HS w1)) | ((with_reducible apply ob_id); first | ((with_reducible apply oq_neg); exact rfl; (refine ⟨?_, ?_⟩ <;> omega)) | (focus ((with_reducible apply (oq_mulE (k := v * v))); exact rfl; exact rfl; exact rfl; (refine ⟨?_, ?_⟩ <;> omega))) | (focus ((with_reducible apply (oq_mulE (k := fr * fr))); exact rfl; exact rfl; exact rfl; (refine ⟨?_, ?_⟩ <;> omega))) | (focus ((with_reducible apply (oq_mulE (k := nr * nr))); exact rfl; exact rfl; exact rfl; (refine ⟨?_, ?_⟩ <;> omega))) | (focus ((with_reducible apply (oq_subE (k := v * v - fr * fr))); exact rfl; exact rfl; omega)) | (focus ((with_reducible apply (oq_subE (k := v * v - nr * nr))); exact rfl; exact rfl; omega)) | (focus ((with_reducible apply (oq_addE (k := h + q2))); exact rfl; exact rfl; omega)) | (focus ((with_reducible apply (oq_addE (k := al + r0))); exact rfl; exact rfl; omega)) | (focus ((with_reducible apply (oq_addE (k := ah + r1))); exact rfl; exact rfl; omega)) | (focus ((with_reducible apply (oq_addE (k := ((acc.length + 1 : Nat) : Int)))); exact rfl; exact rfl; omega)) | ((with_reducible apply oq_gtrT); exact rfl; exact rfl; omega) | ((with_reducible apply oq_gtrF); exact rfl; exact rfl; omega) | ((with_reducible apply oq_lssT); exact rfl; exact rfl; omega) | ((with_reducible apply oq_lssF); exact rfl; exact rfl; omega)) | (focus ((with_reducible apply oq_indexAddrN); exact rfl; exact rfl; exact rfl; exact rfl; omega)) | ((with_reducible apply (oq_max2E (k := up))); exact rfl; exact rfl; exact hup) | ((with_reducible apply (oq_max2E (k := fr))); exact rfl; exact rfl; exact hfr) | ((with_reducible apply (oq_max3E (r := nr))); exact rfl; exact rfl; exact rfl; exact hnr) | ((with_reducible apply (oq_max2E (k := max (al + r0) 0))); exact rfl; exact rfl; exact rfl) | (apply oq_fn; exact rfl; first | exact trivial | (refine ⟨?_, ?_⟩ <;> omega) | (refine ⟨?_, ?_, ?_⟩ <;> omega) | omega | skip) | ((with_reducible apply oq_load); exact rfl; exact rfl) | ((with_reducible apply oq_loadAgg); exact rfl; exact rfl) | ((with_reducible apply oq_build); exact rfl; exact rfl; exact rfl)) | ((with_reducible apply tl_id); first | ((with_reducible apply tl_nil)) | ((with_reducible apply u_q); exact rfl; exact rfl; exact rfl; exact rfl) | ((with_reducible apply u_s0); exact rfl; exact rfl) | ((with_reducible apply u_s); exact rfl; exact rfl; exact rfl)) | ((with_reducible apply gx_id); first | ((with_reducible apply v_nil)) | ((with_reducible apply v_q); exact rfl; exact rfl; exact rfl)) | ((with_reducible apply os_id); first | ((with_reducible apply os_x); exact rfl) | ((with_reducible apply os_storeAgg); exact rfl; exact rfl; exact rfl; exact rfl; exact rfl) | ((with_reducible apply os_append (hk := app_ok178)); exact rfl; exact rfl; (repeat (first | exact P0 | apply P1))) | ((with_reducible apply os_appendNil (hk := app_ok178)); exact rfl; exact rfl)) | ((with_reducible apply ox_id); first | ((with_reducible apply ox_alloc); exact rfl; intro _) | ((with_reducible apply ox_boxAgg); exact rfl; intro _) | ((with_reducible apply ox_buildSlice2); exact rfl; exact rfl; exact rfl; exact rfl; exact rfl; exact rfl; intro _)) | ((with_reducible apply rd_id); first | (apply Rd.own; (repeat (first | exact P0 | apply P1)); exact rfl; done) | (apply Rd.old; (first | (with_reducible assumption) | exact c0 | exact c1 | exact c2 | exact c3 | exact c4 | exact c5 | exact c6 | exact c7 | exact c8 | exact d0 | exact d1 | exact d2 | exact d3 | exact d4 | exact d5); first | exact List.not_mem_nil | exact m0 | exact m1 | exact m2 | exact m3 | exact m4 | exact m5 | exact m6 | exact m7 | exact m8 | exact m9)) | ((with_reducible apply t_id); first | ((with_reducible apply t_seq)) | (apply t_region; kernel_rfl) | (apply t_drawn; kernel_rfl; decide +kernel; try simp only [List.append_eq, List.cons_append, List.nil_append]) | ((with_reducible apply t_condT); exact rfl) | ((with_reducible apply t_condF); exact rfl) | ((with_reducible apply t_ret)) | ((with_reducible apply t_skip)) | ((with_reducible apply t_exit)) | ((with_reducible apply t_block))) | with_reducible apply q_thenN | with_reducible apply q_thenR | with_reducible apply q_blockR | with_reducible apply q_blockN | with_reducible apply q_thenE | ((with_reducible apply q_blockE); exact rfl) | exact P0 | exact Rdn.zero | apply Rdn.succ | ((with_reducible apply Norm.nil); exact rfl) | ((with_reducible apply Norm.cons); exact rfl) | ((with_reducible apply end_ret)) | exact rvs_nil | ((with_reducible apply rvs_cons)) | ((with_reducible apply rv_tmp); exact rfl) | exact rt_len _ | exact Nat.le_of_ble_eq_true rfl | exact (rfl : (_ : Bool) = true) | omega | (intro _ _; with_reducible apply tl_id))); (try focus (repeat (rename_i x; first | exact goD x m1.p | revert x))); (try focus (repeat (rename_i x; first | exact goD x m2.p | revert x))); (try focus (repeat (rename_i x; first | exact goD x m3.p | revert x))); (try focus (repeat (rename_i x; first | exact goD x m4.p | revert x))); (try focus (repeat (rename_i x; first | exact goD x m5.p | revert x))); (try focus (repeat (rename_i x; first | exact goD x m6.p | revert x))); (try focus (repeat (rename_i x; first | exact goD x m7.p | revert x))); (try focus (repeat (rename_i x; first | exact goD x m8.p | revert x))); (try focus (repeat (rename_i x; first | exact goD x m9.p | revert x))); (try focus (repeat (rename_i x; first | exact goD x m10.p | revert x))); (try focus (repeat (rename_i x; first | exact goD x m11.p | revert x))); (try focus (repeat (rename_i x; first | exact goD x m12.p | revert x))); (try focus (repeat (rename_i x; first | exact goD x m13.p | revert x))); (try focus (repeat (rename_i x; first | exact goD x m14.p | revert x))); (try focus (repeat (rename_i x; first | exact goD x m15.p | revert x))); (try focus (repeat (rename_i x; first | exact goD x m16.p | revert x)))) (e : GoTs A1 A2 A3 A4 A5 A6 A7 A8 A9 A10 A11 A12 A13 A14 A15 A16 := by constructor <;> first | (with_reducible exact GoT.t) | exact GoT.u) : G := p.run h
theorem sq_lt {j k : Int} (h0 : 0 ≤ j) (h : j < k) : j * j < k * k := by
  have := sq_mono h0 (show j ≤ k - 1 by omega)
  have e : (k - 1) * (k - 1) = k * k - 2 * k + 1 := by simp only [Int.sub_mul, Int.mul_sub, Int.mul_one, Int.one_mul]; omega
  omega
/-- Rounded down is no more than rounded up. -/
theorem sh_pair {n m q s t : Int} (hq : 1 ≤ q) (hs : IsSh n q s) (ht : IsSh (-m) q t) (h : n ≤ m) : s + t ≤ 0 := by
  rcases Int.lt_or_le 0 (s + t) with g | g
  · exfalso
    have h1 := hs.1
    have h2 := ht.1
    unfold ShP at h1 h2
    rw [← sq_neg m] at h2
    rcases Int.lt_or_le 0 s with g1 | g1
    · have a : 0 ≤ n ∧ s * s * q ≤ n * n := by
        rcases h1 with ⟨x, y | y⟩ | ⟨x, y, _⟩
        · omega
        · exact ⟨x, y⟩
        · omega
      have sp := Int.mul_pos g1 g1
      have sq := Int.mul_pos sp (show 0 < q by omega)
      have n0 : 0 < n := by
        rcases Int.lt_or_eq_of_le a.1 with x | x
        · exact x
        · rw [← x] at a; omega
      have b : t < 0 ∧ m * m ≤ t * t * q := by
        rcases h2 with ⟨x, _⟩ | ⟨x, y, z⟩
        · omega
        · exact ⟨y, z⟩
      have c := sq_lt (j := -t) (k := s) (by omega) (by omega)
      rw [← sq_neg t] at c
      have d := Int.mul_lt_mul_of_pos_right c (show 0 < q by omega)
      have e := sq_mono a.1 h
      omega
    · have b : 0 ≤ -m ∧ t * t * q ≤ m * m := by
        rcases h2 with ⟨x, y | y⟩ | ⟨x, y, _⟩
        · omega
        · exact ⟨x, y⟩
        · omega
      have sp := Int.mul_pos (show 0 < t by omega) (show 0 < t by omega)
      have sq := Int.mul_pos sp (show 0 < q by omega)
      have m0 : m < 0 := by
        rcases Int.lt_or_eq_of_le b.1 with x | x
        · omega
        · have : m = 0 := by omega
          rw [this] at b; omega
      have a : s < 0 ∧ n * n ≤ s * s * q := by
        rcases h1 with ⟨x, _⟩ | ⟨x, y, z⟩
        · omega
        · exact ⟨y, z⟩
      have c := sq_lt (j := -s) (k := t) (by omega) (by omega)
      rw [← sq_neg s] at c
      have d := Int.mul_lt_mul_of_pos_right c (show 0 < q by omega)
      have e := sq_mono (show 0 ≤ -m by omega) (show -m ≤ -n by omega)
      rw [← sq_neg m, ← sq_neg n] at e
      omega
  · exact g
def WayIn (x y : Int) : Prop := (-7000 ≤ x ∧ x ≤ 7000) ∧ (-7000 ≤ y ∧ y ≤ 7000) ∧ ¬ (x = 0 ∧ y = 0)
theorem WayIn.neg {x y : Int} (h : WayIn x y) : WayIn (-x) (-y) := by unfold WayIn at *; omega
theorem WayIn.turn {x y : Int} (h : WayIn x y) : WayIn (-y) x := by unfold WayIn at *; omega
theorem WayIn.q {p q : Int} (h : WayIn p q) : 1 ≤ p * p + q * q := by
  have c := sq_nn p
  have d := sq_nn q
  rcases Int.lt_or_le (p * p + q * q) 1 with g | g
  · have e1 : p * p = 0 := by omega
    have e2 : q * q = 0 := by omega
    exact absurd ⟨(Int.mul_eq_zero.1 e1).elim id id, (Int.mul_eq_zero.1 e2).elim id id⟩ h.2.2
  · exact g
theorem along_way {a b c d x y : Int} (h : WOk a b c d) (hw : WayIn x y) : ∃ lo hi, alongV a b c d x y = (lo, hi, 0) ∧ lo ≤ hi ∧ -4000 ≤ lo ∧ hi ≤ 4000 := by
  have hq := hw.q
  have hy : wayOk x y = true := by
    unfold wayOk
    rw [Bool.and_eq_true, allFrom_two]
    unfold WayIn at hw
    refine ⟨by omega, ?_⟩
    simp
    omega
  have f1 : farV a b ≤ 2000 ∧ 0 ≤ farV a b := by obtain ⟨h1, h2, h3, h4, h5, h6⟩ := h; unfold farV; omega
  have f2 : farV c d ≤ 2000 ∧ 0 ≤ farV c d := by obtain ⟨h1, h2, h3, h4, h5, h6⟩ := h; unfold farV; omega
  have g1 := Int.mul_le_mul f1.1 f1.1 f1.2 (by omega)
  have g2 := Int.mul_le_mul f2.1 f2.1 f2.2 (by omega)
  have h8 : ∀ n, (n = alongLo a b c d x y ∨ n = alongHi a b c d x y) → n * n ≤ 8000000 * (x * x + y * y) := fun n hn =>
    Int.le_trans (ends_sq h.ab h.cd hn) (Int.mul_le_mul_of_nonneg_right (by omega) (by omega))
  have k1 := h8 _ (.inl rfl)
  have k2 := h8 _ (.inr rfl)
  rw [sq_neg (alongHi a b c d x y)] at k2
  have s1 := shV_ex hq k1
  have s2 := shV_ex hq k2
  have hle : alongLo a b c d x y ≤ alongHi a b c d x y := by unfold alongLo alongHi; omega
  have sp := sh_pair hq s1.1 s2.1 hle
  unfold alongV
  rw [if_pos h.windE, if_pos hy]
  exact ⟨_, _, rfl, by omega, by omega, by omega⟩
def nearR (cl ch : Int) : Int := max (max 0 cl) (-ch)
def farR (cl ch : Int) : Int := max (-cl) ch
noncomputable def rtHi (b : Int) : Int := if rt b * rt b = b then rt b else rt b + 1
theorem rt_le {a b : Int} (h0 : 0 ≤ a) (h : a ≤ b) : rt a ≤ rt b := by
  obtain ⟨r1, r2, r3⟩ := rt_spec a h0
  obtain ⟨s1, s2, s3⟩ := rt_spec b (by omega)
  rcases Int.lt_or_le (rt b) (rt a) with g | g
  · have := sq_mono (show 0 ≤ rt b + 1 by omega) (show rt b + 1 ≤ rt a by omega)
    omega
  · exact g
theorem rtHi_ge (b : Int) : rt b ≤ rtHi b := by unfold rtHi; split <;> omega
theorem rt_bound {a : Int} (h0 : 0 ≤ a) (h : a ≤ 1000000) : 0 ≤ rt a ∧ rt a ≤ 1000 ∧ rtHi a ≤ 1001 := by
  obtain ⟨r1, r2, r3⟩ := rt_spec a h0
  have := sq_bound (s := rt a) (m := 1000) r1 (by omega) (by omega)
  unfold rtHi
  split <;> omega
theorem rootV_eq {a b : Int} (h0 : 0 ≤ a) (hab : a ≤ b) (h : b ≤ 1000000) : rootV a b = (rt a, rtHi b, 0) := by
  unfold rootV
  have f1 : fineS (a, b) = true := (fineS_iff _).2 ⟨hab, by show _ ≤ a; omega, by show b ≤ _; omega⟩
  rw [if_pos f1, if_neg (by omega)]; rfl
/-- The least and the greatest speed over ground, if she can fly the way at all. -/
noncomputable def rate (v al ah cl ch : Int) : Option (Int × Int) :=
  if v < farR cl ch then none else if al + rt (v * v - farR cl ch * farR cl ch) < 1 then none else some (al + rt (v * v - farR cl ch * farR cl ch), ah + rtHi (v * v - nearR cl ch * nearR cl ch))
noncomputable def spd (v al ah cl ch : Int) : Int × Int :=
  if v < farR cl ch then (0, 0) else (max (al + rt (v * v - farR cl ch * farR cl ch)) 0, ah + rtHi (v * v - nearR cl ch * nearR cl ch))
structure Fast (v al ah cl ch : Int) : Prop where
  v1 : 1 ≤ v
  v2 : v ≤ 1000
  a1 : al ≤ ah
  a2 : -4000 ≤ al
  a3 : ah ≤ 4000
  c1 : cl ≤ ch
  c2 : -4000 ≤ cl
  c3 : ch ≤ 4000
theorem Fast.sqs {v al ah cl ch : Int} (h : Fast v al ah cl ch) (hv : ¬ v < farR cl ch) : 0 ≤ v * v - farR cl ch * farR cl ch ∧ v * v - farR cl ch * farR cl ch ≤ v * v - nearR cl ch * nearR cl ch ∧ v * v - nearR cl ch * nearR cl ch ≤ 1000000 ∧ v * v ≤ 1000000 ∧ 0 ≤ farR cl ch * farR cl ch ∧ 0 ≤ nearR cl ch * nearR cl ch := by
  have hc := h.c1
  have v1 := h.v1
  have v2 := h.v2
  have n0 : 0 ≤ nearR cl ch ∧ nearR cl ch ≤ farR cl ch := by unfold nearR farR; omega
  have e1 := sq_mono n0.1 n0.2
  have e2 := sq_mono (show 0 ≤ farR cl ch by omega) (show farR cl ch ≤ v by omega)
  have e3 := sq_mono (show 0 ≤ v by omega) v2
  have e4 := sq_nn (farR cl ch)
  have e5 := sq_nn (nearR cl ch)
  omega
theorem rate_spd {v al ah cl ch : Int} (h : Fast v al ah cl ch) : (rate v al ah cl ch = none ∧ (spd v al ah cl ch).1 = 0) ∨ ∃ s f, rate v al ah cl ch = some (s, f) ∧ spd v al ah cl ch = (s, f) ∧ 1 ≤ s ∧ s ≤ f ∧ f ≤ 5001 := by
  unfold rate spd
  by_cases hv : v < farR cl ch
  · rw [if_pos hv, if_pos hv]; exact .inl ⟨rfl, rfl⟩
  · rw [if_neg hv, if_neg hv]
    obtain ⟨q1, q2, q3, _, _, _⟩ := h.sqs hv
    have a1 := h.a1
    have a3 := h.a3
    have b1 := rt_le q1 q2
    have b2 := rtHi_ge (v * v - nearR cl ch * nearR cl ch)
    have b3 := rt_bound (a := v * v - nearR cl ch * nearR cl ch) (by omega) q3
    split
    · exact .inl ⟨rfl, by simp only; omega⟩
    · refine .inr ⟨_, _, rfl, ?_, by omega, by omega, by omega⟩
      rw [Int.max_eq_left (by omega)]
/-- The rate with one of the winds of a cast. -/
noncomputable def wrate (v up x y : Int) (z : Wn) : Option (Int × Int) :=
  let W := windV z.l up up
  let A := alongV W.1.1 W.1.2 W.2.1.1 W.2.1.2 x y
  let C := alongV W.1.1 W.1.2 W.2.1.1 W.2.1.2 (-y) x
  rate v A.1 A.2.1 C.1 C.2.1
noncomputable def wspd (v up x y : Int) (z : Wn) : Int × Int :=
  let W := windV z.l up up
  let A := alongV W.1.1 W.1.2 W.2.1.1 W.2.1.2 x y
  let C := alongV W.1.1 W.1.2 W.2.1.1 W.2.1.2 (-y) x
  spd v A.1 A.2.1 C.1 C.2.1
/-- All that a wind gives. -/
theorem wn_all {v up x y : Int} {z : Wn} (hz : windB z.l = true) (hv : 1 ≤ v ∧ v ≤ 1000) (hu : -500 ≤ up ∧ up ≤ 20000) (hw : WayIn x y) : ∃ a b c d al ah cl ch, windV z.l up up = ((a, b), (c, d), 0) ∧ alongV a b c d x y = (al, ah, 0) ∧ alongV a b c d (-y) x = (cl, ch, 0) ∧ Fast v al ah cl ch ∧ wrate v up x y z = rate v al ah cl ch ∧ wspd v up x y z = spd v al ah cl ch := by
  have hf : fineS (up, up) = true := (fineS_iff _).2 ⟨Int.le_refl _, by show _ ≤ up; omega, by show up ≤ _; omega⟩
  obtain ⟨a, b, c, d, e, h1, h2, h3, h4, h5, h6⟩ := windV_ok hz hf
  have ok : WOk a b c d := ⟨h1, h2, h3, h4, h5, h6⟩
  obtain ⟨al, ah, e1, l1, l2, l3⟩ := along_way ok hw
  obtain ⟨cl, ch, e2, m1, m2, m3⟩ := along_way ok hw.turn
  refine ⟨a, b, c, d, al, ah, cl, ch, e, e1, e2, ⟨hv.1, hv.2, l1, l2, l3, m1, m2, m3⟩, ?_, ?_⟩
  · unfold wrate; rw [e]; simp only; rw [e1, e2]
  · unfold wspd; rw [e]; simp only; rw [e1, e2]
theorem wn_both {v up x y : Int} {z : Wn} (hz : windB z.l = true) (hv : 1 ≤ v ∧ v ≤ 1000) (hu : -500 ≤ up ∧ up ≤ 20000) (hw : WayIn x y) : (wrate v up x y z = none ∧ (wspd v up x y z).1 = 0) ∨ ∃ s f, wrate v up x y z = some (s, f) ∧ wspd v up x y z = (s, f) ∧ 1 ≤ s ∧ s ≤ f ∧ f ≤ 5001 := by
  obtain ⟨a, b, c, d, al, ah, cl, ch, _, _, _, hF, e1, e2⟩ := wn_all hz hv hu hw
  rw [e1, e2]
  exact rate_spd hF
/-- The rates of a way, one for each wind; none, if there is a wind that she cannot fly in. -/
noncomputable def ratesV (v up x y : Int) (L : List Wn) : List (Int × Int) := if L.all fun z => (wrate v up x y z).isSome then L.filterMap (wrate v up x y) else []
end Go.Proofs.YtcjkndjjbjoehaaGreat
namespace Go.Proofs.YtcjkndjjbjoehaaGreat
open Go.RowKit
attribute [local irreducible] OQ OS OX Rd T TL GX GL AL AI RV wpG SAny Calls
theorem windAt_calls (A : Option Addr) (n c : Nat) (l : List Gl) (p q : Int) (w : World) (hr : RdS w 6 A n (l.map glCells)) (hn : n ≤ 1000000) (hcap : n ≤ c) :
    Calls Tryz.prog 39 #[.slice A n c, .agg #[.int .i64 p, .int .i64 q]] w fun e w' => e = .returned (windO (windV l p q)) ∧ Ext w w' := by
  have hl := hr.len
  simp only [List.length_map] at hl
  have HC := fun w1 (hx : Ext w w1) => checkWinds_calls A n c l w1 (hr.ext hx) hn
  have HF := fun w1 => check_calls p q w1
  unfold windV
  cases hwb : windB l with
  | false =>
    rw [hwb] at HC
    simp only [Bool.false_eq_true, if_false] at HC ⊢
    refine enterQ (c := cx w 66) Tryz.func39 rfl rfl rfl rfl ?_
    ((all_goals refine goJ0 ?_); (all_goals constructor); (any_goals exact trivial); all_goals intros)
    all_goals rfl
  | true =>
  rw [hwb] at HC
  have hW := (windB_iff l).1 hwb
  cases hfn : fineS (p, q) with
  | false =>
    rw [hfn] at HF
    simp only [Bool.false_eq_true, if_false, if_true] at HF HC ⊢
    refine enterQ (c := cx w 66) Tryz.func39 rfl rfl rfl rfl ?_
    ((all_goals refine goJ0 ?_); (all_goals constructor); (any_goals exact trivial); all_goals intros)
    all_goals rfl
  | true =>
  rw [hfn] at HF
  simp only [if_true] at HF HC ⊢
  have hpq : p ≤ q := ((fineS_iff (p, q)).1 hfn).1
  have n1 := hW.n1
  have n16 := hW.n16
  obtain ⟨a1, a2, a3, a4⟩ := steady_big (e := true) (p := p) (q := q) hW
  obtain ⟨b1, b2, b3, b4⟩ := steady_big (e := false) (p := p) (q := q) hW
  have G := gustR_bounds (p := p) (q := q) (fun x hx => by have := hW.ok x hx; omega) l.length
  obtain ⟨r1, k1, h1, h2⟩ := wnd_split hW (fun h => decide (p ≤ h)) (fun a b hab h => by simp at h ⊢; omega)
  obtain ⟨r2, k2, h3, h4⟩ := wnd_split hW (fun h => decide (q < h)) (fun a b hab h => by simp at h ⊢; omega)
  simp only [decide_eq_false_iff_not, decide_eq_true_eq, Int.not_le, Int.not_lt] at h1 h2 h3 h4
  have hr12 : r1 ≤ r2 := by
    rcases Nat.lt_or_ge r2 r1 with k | k
    · have hx : l[r2]? = some l[r2] := List.getElem?_eq_getElem (by omega)
      have := h1 _ _ k hx
      have := h4 _ _ (Nat.le_refl _) hx
      omega
    · exact k
  have hcn := fun i hi => cntG_iff (i := i) hW h1 h2 h3 h4 k1 hi
  rw [hl] at k1 k2
  obtain ⟨a, ha⟩ : ∃ a, a = r1 - 1 := ⟨_, rfl⟩
  obtain ⟨m, hm⟩ : ∃ m, m = min (r2 + 1) n := ⟨_, rfl⟩
  have hz : gustR l p q (a + 0) = 0 := gustR_from (a := a) _ (Nat.le_refl _) fun i hi => by rw [hcn i (by omega)]; simp; omega
  have he : gustR l p q (a + (m - a)) = gustV l p q := by
    rw [show a + (m - a) = m by omega]
    exact (gustR_to l.length (by omega) fun i hi hi2 => by rw [hcn i (by omega)]; simp; omega).symm
  obtain ⟨b, o, x0, rfl, _, _, _⟩ := gl_read hr (show 0 < n by omega)
  refine enterQ (c := cx w 66) Tryz.func39 rfl rfl rfl rfl ?_
  ((all_goals refine goJ0 ?_); (all_goals constructor); (any_goals exact trivial); all_goals intros)
  rename_i b10
  apply t_loopK (ι := Nat) [2, 3, 4, 5, 10, 13, 43, 44, 54, 55, 56, 57, 58, 59, 60, 61, 62, 63, 64, 65] (fun j => [(45, .int .i64 (j : Nat))]) (fun j => [(b10, [.int .i64 (gustR l p q (a + j))], some (3, 1, 1))]) (fun j => j ≤ m - a) (fun j => m - a - j) (0)
  (repeat (first | exact KeepF.nil | (apply KeepF.cons; exact rfl) | apply KeepF.skip))
  (repeat (first | exact FrSub.nil | (apply FrSub.cons; exact rfl)))
  (repeat (first | exact HpSub.refl _ | (apply HpSub.consE; (repeat (first | exact P0 | apply P1)); (first | exact rfl | exact congrArg (fun z => [Value.int .i64 z]) hz.symm)) | exact HpSub.nil))
  · omega
  intro j hj
  try simp only [List.cons_append, List.nil_append]
  by_cases hlt : j < m - a
  · obtain ⟨b', o', x, hA, _, hx, c0, c1, c2, c3, c4, c5⟩ := gl_read hr (show a + j < n by omega)
    obtain ⟨rfl, rfl⟩ : b = b' ∧ o = o' := by simpa using hA
    rw [show o + (a + j) * 6 = o + a * 6 + j * 6 by omega] at c0 c1 c2 c3 c4 c5
    have hcnt : cntG l p q (a + j) = true := by rw [hcn (a + j) (by omega)]; simp; omega
    ((all_goals refine goJ0 ?_); (all_goals constructor); (any_goals exact trivial); all_goals intros)
    all_goals (refine ⟨j + 1, by omega, by omega, ?_, ?_⟩ <;> (try simp only [List.cons_append, List.nil_append]) <;> (repeat' (first | exact FrSub.nil | (apply FrSub.cons; exact rfl) | (apply HpSub.consE; (repeat (first | exact P0 | apply P1)); first | exact rfl | (exact congrArg (fun z => [Value.int .i64 z]) (gustR_yes hx hcnt).symm)) | exact HpSub.nil)))
  · obtain rfl : j = m - a := by omega
    rw [he]
    change 0 ≤ gustV l p q ∧ gustV l p q ≤ 500 at G
    clear hz he hcn
    ((all_goals refine goJ0 ?_); (all_goals constructor); (any_goals exact trivial); all_goals intros)
    all_goals rfl
def rtCells (z : Int × Int) : List Value := [.int .i64 z.1, .int .i64 z.2]
/-- An own list of rates, or none. -/
def sR (l : List (Int × Int)) : Option (Nat × Nat) → Value
  | none => .slice none 0 0
  | some (b, cap) => .slice (some ⟨b, 0, none⟩) l.length cap
def hR (l : List (Int × Int)) : Option (Nat × Nat) → Hp
  | none => []
  | some (b, cap) => [(b, (l.map rtCells).flatten, some (205, 2, cap))]
theorem rt_len (l : List (Int × Int)) : ((l.map rtCells).flatten).length = l.length * 2 := by
  induction l with
  | nil => rfl
  | cons a l ih => simp only [List.map_cons, List.flatten_cons, List.length_append, ih, List.length_cons, rtCells, List.length_nil]; omega
def LsR (l : List (Int × Int)) (v : Value) (H : Hp) : Prop := ∃ o, (o = none → l = []) ∧ v = sR l o ∧ H = hR l o
theorem sR_snoc (l : List (Int × Int)) (z : Int × Int) (b cap : Nat) : sR (l ++ [z]) (some (b, cap)) = .slice (some ⟨b, 0, none⟩) (l.length + 1) cap := by simp [sR]
theorem hR_snoc (l : List (Int × Int)) (s f : Int) (b cap : Nat) : hR (l ++ [(s, f)]) (some (b, cap)) = [(b, (l.map rtCells).flatten ++ [.int .i64 s, .int .i64 f], some (205, 2, cap))] := by simp [hR, rtCells]
/-- What a function gives for the first ones of a list. -/
def Pre {α β : Type} (f : α → Option β) (L : List α) (acc : List β) : Prop := (L.take acc.length).map f = acc.map some ∧ acc.length ≤ L.length
theorem pre_nil {α β : Type} (f : α → Option β) (L : List α) : Pre f L [] := ⟨rfl, Nat.zero_le _⟩
theorem pre_snoc {α β : Type} {f : α → Option β} {L : List α} {acc : List β} {x : α} {z : β} (h : Pre f L acc) (hx : L[acc.length]? = some x) (hz : f x = some z) : Pre f L (acc ++ [z]) := by
  refine ⟨?_, ?_⟩
  · rw [List.length_append, List.length_singleton, List.take_add_one, hx, List.map_append, List.map_append, h.1]
    simp [hz]
  · have := (List.getElem?_eq_some_iff.1 hx).1
    rw [List.length_append, List.length_singleton]; omega
theorem map_some {α β : Type} {f : α → Option β} : ∀ {L : List α} {acc : List β}, L.map f = acc.map some → (L.all fun z => (f z).isSome) = true ∧ L.filterMap f = acc
  | [], [], _ => ⟨rfl, rfl⟩
  | [], _ :: _, h => by cases h
  | _ :: _, [], h => by cases h
  | x :: L, z :: acc, h => by
    simp only [List.map_cons, List.cons.injEq] at h
    obtain ⟨i1, i2⟩ := map_some h.2
    refine ⟨?_, ?_⟩
    · rw [List.all_cons, i1, h.1]; rfl
    · rw [List.filterMap_cons, h.1, i2]
theorem ratesV_pre {v up x y : Int} {L acc : List _} (h : Pre (wrate v up x y) L acc) (hl : acc.length = L.length) : ratesV v up x y L = acc := by
  have h1 := h.1
  rw [List.take_of_length_le (by omega)] at h1
  obtain ⟨i1, i2⟩ := map_some h1
  unfold ratesV
  rw [if_pos i1, i2]
theorem ratesV_no {v up x y : Int} {L : List Wn} {z : Wn} (h : z ∈ L) (hz : wrate v up x y z = none) : ratesV v up x y L = [] := by
  unfold ratesV
  rw [if_neg]
  intro e
  have := List.all_eq_true.1 e z h
  rw [hz] at this; cases this
theorem oq_max3E {c : Cx} {F : Fr} {H : Hp} {d : Option Tmp} {ty : TypeId} {pos : String} {af : Array Edge} {g : Option (Nat × Bool)} {x y z : Operand} {m n k r : Int} {T : Array TypeId} (hx : ev F x = some (.int .i64 m)) (hy : ev F y = some (.int .i64 n)) (hz : ev F z = some (.int .i64 k)) (e : max (max m n) k = r) : OQ c ⟨d, .call ⟨.builtin .max, #[x, y, z], T⟩, ty, pos, af, g⟩ F H (.int .i64 r) :=
  (oq_max3 hx hy hz).as (by rw [e])
theorem rates_calls (v q1 q2 q3 q4 g0 g1 up x y : Int) (A : Option Addr) (n cp : Nat) (L : List Wn) (w : World) (hr : CastR w A n L) (hs : ∀ z ∈ L, z.n ≤ 1000000) (hb : ∀ z ∈ L, windB z.l = true) (hn : n ≤ 8) (hv : 1 ≤ v ∧ v ≤ 1000) (hu : -500 ≤ up ∧ up ≤ 20000) (hw : WayIn x y) : Calls Tryz.prog 102 #[.agg #[.int .i64 v, .int .i64 q1, .int .i64 q2, .int .i64 q3, .int .i64 q4, .int .i64 g0, .int .i64 g1], .slice A n cp, .int .i64 up, .int .i64 x, .int .i64 y] w fun e w' => ∃ u H', e = .returned u ∧ LsR (ratesV v up x y L) u H' ∧ Has w ⟨[], []⟩ H' w' := by
  have hl := hr.len
  refine enterF (c := cx w 113) Tryz.func102 rfl rfl rfl rfl ?_
  refine t_cut (ι := Nat) (fun b5 => [(1, .slice A n cp), (2, .int .i64 up), (3, .int .i64 x), (4, .int .i64 y), (5, .pointer (some ⟨b5, 0, none⟩))]) (fun b5 => [(b5, [.int .i64 v, .int .i64 q1, .int .i64 q2, .int .i64 q3, .int .i64 q4, .int .i64 g0, .int .i64 g1], some (29, 7, 1))]) (fun _ => True) ?_ ?_
  · ((all_goals refine goJ0 ?_); (all_goals constructor); (any_goals exact trivial); all_goals intros)
    all_goals exact ⟨rfl, _, trivial, by (repeat (first | exact FrSub.nil | (apply FrSub.cons; exact rfl))), by (repeat (first | exact HpSub.refl _ | (apply HpSub.consE; (repeat (first | exact P0 | apply P1)); exact rfl) | exact HpSub.nil))⟩
  rintro b5 -
  try dsimp only
  ((all_goals refine goJ0 ?_); (all_goals constructor); (any_goals exact trivial); all_goals intros)
  apply t_loopK (ι := List (Int × Int) × Option (Nat × Nat)) [2, 3, 4, 5, 25, 26, 112] (fun z => [(27, .int .i64 ((z.1.length : Nat) : Int)), (11, sR z.1 z.2)]) (fun z => (b5, [.int .i64 v, .int .i64 q1, .int .i64 q2, .int .i64 q3, .int .i64 q4, .int .i64 g0, .int .i64 g1], some (29, 7, 1)) :: hR z.1 z.2) (fun z => z.1.length ≤ n ∧ Pre (wrate v up x y) L z.1 ∧ (z.2 = none → z.1 = [])) (fun z => n - z.1.length) (([], none))
  (repeat (first | exact KeepF.nil | (apply KeepF.cons; exact rfl) | apply KeepF.skip))
  (repeat (first | exact FrSub.nil | (apply FrSub.cons; exact rfl)))
  (repeat (first | exact HpSub.refl _ | (apply HpSub.consE; (repeat (first | exact P0 | apply P1)); exact rfl) | exact HpSub.nil))
  · exact ⟨Nat.zero_le _, pre_nil _ _, fun _ => rfl⟩
  rintro ⟨acc, o⟩ ⟨hj, hpre, ho⟩
  simp only at hj hpre ho
  try simp only [List.cons_append, List.nil_append]
  by_cases hlt : acc.length < n
  · obtain ⟨b, o', z, rfl, _, hz, c0, hrx, hcx⟩ := hr.read hlt
    have hm := List.mem_of_getElem? hz
    obtain ⟨a, bb, cc, d, al, ah, cl, ch, e1, e2, e3, hF, er, es⟩ := wn_all (hb z hm) hv hu hw
    have HX := fun w1 (e : Ext w w1) => windAt_calls z.A z.n z.c z.l up up w1 (hrx.ext e) (hs z hm) hcx
    have HA := fun w1 => airAlong_calls a bb cc d x y w1
    have HC := fun w1 => airAlong_calls a bb cc d (-y) x w1
    rw [e1] at HX
    rw [e2] at HA
    rw [e3] at HC
    simp only at HA HC
    have f1 := hF.a1
    have f2 := hF.a2
    have f3 := hF.a3
    have f4 := hF.c1
    have f5 := hF.c2
    have f6 := hF.c3
    obtain ⟨hwx, hwy, hwz⟩ := hw
    have hsq := hF.sqs
    unfold rate at er
    obtain ⟨fr, hfr0⟩ : ∃ r, farR cl ch = r := ⟨_, rfl⟩
    obtain ⟨nr, hnr0⟩ : ∃ r, nearR cl ch = r := ⟨_, rfl⟩
    rw [hfr0, hnr0] at er hsq
    have hfr : max (-cl) ch = fr := hfr0
    have hnr : max (max 0 cl) (-ch) = nr := hnr0
    clear hfr0 hnr0
    by_cases hv2 : v < fr
    · have hnone : wrate v up x y z = none := by rw [er, if_pos hv2]
      clear er es hsq
      ((all_goals refine goJ2 ?_); (all_goals constructor); (any_goals exact trivial); all_goals intros)
      all_goals (rw [ratesV_no (List.mem_of_getElem? hz) hnone]; exact ⟨_, ⟨none, (fun _ => rfl), rfl, rfl⟩, HpSub.nil⟩)
    · obtain ⟨k1, k2, k3, k4, k5, k6⟩ := hsq hv2
      have HR := fun w1 => boundRoot_calls (v * v - fr * fr) (v * v - nr * nr) w1
      rw [rootV_eq k1 k2 k3] at HR
      simp only at HR
      have kr := rt_bound k1 (by omega)
      have kh := rt_bound (show 0 ≤ v * v - nr * nr by omega) k3
      have kh2 := rtHi_ge (v * v - nr * nr)
      rw [if_neg hv2] at er
      obtain ⟨r0, hr0⟩ : ∃ r, rt (v * v - fr * fr) = r := ⟨_, rfl⟩
      obtain ⟨r1, hr1⟩ : ∃ r, rtHi (v * v - nr * nr) = r := ⟨_, rfl⟩
      rw [hr0, hr1] at HR er
      rw [hr0] at kr
      rw [hr1] at kh kh2
      clear hsq hr0 hr1 es
      by_cases hs1 : al + r0 < 1
      · have hnone : wrate v up x y z = none := by rw [er, if_pos hs1]
        clear er
        ((all_goals refine goJ2 ?_); (all_goals constructor); (any_goals exact trivial); all_goals intros)
        all_goals (rw [ratesV_no (List.mem_of_getElem? hz) hnone]; exact ⟨_, ⟨none, (fun _ => rfl), rfl, rfl⟩, HpSub.nil⟩)
      · rw [if_neg hs1] at er
        have hpre' := pre_snoc hpre hz er
        rcases o with _ | ⟨bo, co⟩
        · obtain rfl := ho rfl
          ((all_goals refine goJ2 ?_); (all_goals constructor); (any_goals exact trivial); all_goals intros)
          all_goals (rename_i bN cN; refine ⟨(_ ++ [(al + r0, ah + r1)], some (bN, cN)), ⟨(by simp only [List.length_append, List.length_singleton, List.length_nil]; first | exact hlt | omega), hpre', fun h => by cases h⟩, (by simp only [List.length_append, List.length_singleton, List.length_nil]; omega), ?_, ?_⟩ <;> (try simp only [sR_snoc, hR_snoc, List.length_append, List.length_singleton]) <;> (repeat' (first | exact FrSub.nil | (apply FrSub.cons; exact rfl) | exact HpSub.refl _ | (apply HpSub.consE; (repeat (first | exact P0 | apply P1)); first | exact rfl | (simp [rtCells]; done)) | apply HpSub.skipX)))
        · ((all_goals refine goJ2 ?_); (all_goals constructor); (any_goals exact trivial); all_goals intros)
          all_goals (rename_i bN cN; refine ⟨(acc ++ [(al + r0, ah + r1)], some (bN, cN)), ⟨(by simp only [List.length_append, List.length_singleton]; first | exact hlt | omega), hpre', fun h => by cases h⟩, (by simp only [List.length_append, List.length_singleton]; omega), ?_, ?_⟩ <;> (try simp only [sR_snoc, hR_snoc, List.length_append, List.length_singleton]) <;> (repeat' (first | exact FrSub.nil | (apply FrSub.cons; exact rfl) | exact HpSub.refl _ | (apply HpSub.consE; (repeat (first | exact P0 | apply P1)); first | exact rfl | (simp [rtCells]; done)) | apply HpSub.skipX)))
  · have hv3 := ratesV_pre hpre (by omega)
    ((all_goals refine goJ2 ?_); (all_goals constructor); (any_goals exact trivial); all_goals intros)
    all_goals (rw [hv3]; exact ⟨_, ⟨o, ho, rfl, rfl⟩, HpSub.skipX (by simp only [List.append_nil]; exact HpSub.refl _)⟩)
/-- The height at which a leg is flown. -/
def upV (q1 q2 h : Int) : Int := max q1 (h + q2)
def turnX (bk : Bool) (x : Int) : Int := if bk then -x else x
theorem speeds_calls (a b x y h v q1 q2 q3 q4 g0 g1 : Int) (bk : Bool) (z : Wn) (cp : Nat) (w : World) (hrx : RdS w 6 z.A z.n (z.l.map glCells)) (hs : z.n ≤ 1000000) (hb : windB z.l = true) (hp : PaceOk v q1 q2 q3 q4 g0 g1) (hh : -500 ≤ h ∧ h ≤ 9000) (hw : WayIn x y) : Calls Tryz.prog 127 #[.agg #[.int .i64 a, .int .i64 b, .int .i64 x, .int .i64 y, .int .i64 h], .agg #[.int .i64 v, .int .i64 q1, .int .i64 q2, .int .i64 q3, .int .i64 q4, .int .i64 g0, .int .i64 g1], .slice z.A z.n cp, .bool bk] w fun e w' => e = .returned (if q3 < upV q1 q2 h then .tuple #[.int .i64 0, .int .i64 0] else .tuple #[.int .i64 (wspd v (upV q1 q2 h) (turnX bk x) (turnX bk y) z).1, .int .i64 (wspd v (upV q1 q2 h) (turnX bk x) (turnX bk y) z).2]) ∧ Ext w w' := by
  obtain ⟨p1, p2, p3, p4, p5, p6⟩ := id hp
  have hup0 : -500 ≤ upV q1 q2 h ∧ upV q1 q2 h ≤ 11000 := by unfold upV; omega
  have hup1 : max q1 (h + q2) = upV q1 q2 h := rfl
  obtain ⟨up, hupE⟩ : ∃ u, upV q1 q2 h = u := ⟨_, rfl⟩
  rw [hupE] at hup0 hup1 ⊢
  have hup := hup1
  clear hup1 hupE
  obtain ⟨hwx, hwy, hwz⟩ := id hw
  by_cases hu : q3 < up
  · rw [if_pos hu]
    refine enterQ (c := cx w 127) Tryz.func127 rfl rfl rfl rfl ?_
    ((all_goals refine goJ2 ?_); (all_goals constructor); (any_goals exact trivial); all_goals intros)
    all_goals rfl
  rw [if_neg hu]
  cases bk with
  | false =>
    obtain ⟨a0, bb, cc, d, al, ah, cl, ch, e1, e2, e3, hF, er, es⟩ := wn_all hb hp.1 (show -500 ≤ up ∧ up ≤ 20000 by omega) hw
    have HX := fun w1 (e : Ext w w1) => refWind_calls z.A z.n cp z.l up up w1 (hrx.ext e) hs
    have HA := fun w1 => refAlong_calls a0 bb cc d x y w1
    have HC := fun w1 => refAlong_calls a0 bb cc d (-y) x w1
    rw [e1] at HX
    rw [e2] at HA
    rw [e3] at HC
    simp only at HA HC
    have f1 := hF.a1
    have f2 := hF.a2
    have f3 := hF.a3
    have f4 := hF.c1
    have f5 := hF.c2
    have f6 := hF.c3
    have hsq := hF.sqs
    rw [show turnX false x = x from rfl, show turnX false y = y from rfl, es]
    unfold spd
    obtain ⟨fr, hfr0⟩ : ∃ r, farR cl ch = r := ⟨_, rfl⟩
    obtain ⟨nr, hnr0⟩ : ∃ r, nearR cl ch = r := ⟨_, rfl⟩
    rw [hfr0, hnr0] at hsq ⊢
    have hfr : max ch (-cl) = fr := by rw [← hfr0]; unfold farR; omega
    have hnr : max (max cl (-ch)) 0 = nr := by rw [← hnr0]; unfold nearR; omega
    clear hfr0 hnr0 er es
    by_cases hv2 : v < fr
    · rw [if_pos hv2]
      refine enterQ (c := cx w 127) Tryz.func127 rfl rfl rfl rfl ?_
      ((all_goals refine goJ2 ?_); (all_goals constructor); (any_goals exact trivial); all_goals intros)
      all_goals rfl
    · rw [if_neg hv2]
      obtain ⟨k1, k2, k3, k4, k5, k6⟩ := hsq hv2
      have HR := fun w1 => refRoot_calls (v * v - nr * nr) (v * v - nr * nr) w1
      rw [rootV_eq (by omega) (Int.le_refl _) k3] at HR
      simp only at HR
      have HS := fun w1 => sqrt_calls (v * v - fr * fr) k1 (by omega) w1
      have kr := rt_bound k1 (by omega)
      have kh := rt_bound (show 0 ≤ v * v - nr * nr by omega) k3
      have kh2 := rtHi_ge (v * v - nr * nr)
      obtain ⟨r0, hr0⟩ : ∃ r, rt (v * v - fr * fr) = r := ⟨_, rfl⟩
      obtain ⟨r1, hr1⟩ : ∃ r, rtHi (v * v - nr * nr) = r := ⟨_, rfl⟩
      rw [hr1] at HR
      rw [hr0] at HS
      rw [hr0, hr1]
      rw [hr0] at kr
      rw [hr1] at kh kh2
      clear hsq hr0 hr1
      refine enterQ (c := cx w 127) Tryz.func127 rfl rfl rfl rfl ?_
      ((all_goals refine goJ2 ?_); (all_goals constructor); (any_goals exact trivial); all_goals intros)
      all_goals rfl
  | true =>
    obtain ⟨a0, bb, cc, d, al, ah, cl, ch, e1, e2, e3, hF, er, es⟩ := wn_all hb hp.1 (show -500 ≤ up ∧ up ≤ 20000 by omega) hw.neg
    have HX := fun w1 (e : Ext w w1) => refWind_calls z.A z.n cp z.l up up w1 (hrx.ext e) hs
    have HA := fun w1 => refAlong_calls a0 bb cc d (-x) (-y) w1
    have HC := fun w1 => refAlong_calls a0 bb cc d (-(-y)) (-x) w1
    rw [e1] at HX
    rw [e2] at HA
    rw [e3] at HC
    simp only at HA HC
    have f1 := hF.a1
    have f2 := hF.a2
    have f3 := hF.a3
    have f4 := hF.c1
    have f5 := hF.c2
    have f6 := hF.c3
    have hsq := hF.sqs
    rw [show turnX true x = (-x) from rfl, show turnX true y = (-y) from rfl, es]
    unfold spd
    obtain ⟨fr, hfr0⟩ : ∃ r, farR cl ch = r := ⟨_, rfl⟩
    obtain ⟨nr, hnr0⟩ : ∃ r, nearR cl ch = r := ⟨_, rfl⟩
    rw [hfr0, hnr0] at hsq ⊢
    have hfr : max ch (-cl) = fr := by rw [← hfr0]; unfold farR; omega
    have hnr : max (max cl (-ch)) 0 = nr := by rw [← hnr0]; unfold nearR; omega
    clear hfr0 hnr0 er es
    by_cases hv2 : v < fr
    · rw [if_pos hv2]
      refine enterQ (c := cx w 127) Tryz.func127 rfl rfl rfl rfl ?_
      ((all_goals refine goJ2 ?_); (all_goals constructor); (any_goals exact trivial); all_goals intros)
      all_goals rfl
    · rw [if_neg hv2]
      obtain ⟨k1, k2, k3, k4, k5, k6⟩ := hsq hv2
      have HR := fun w1 => refRoot_calls (v * v - nr * nr) (v * v - nr * nr) w1
      rw [rootV_eq (by omega) (Int.le_refl _) k3] at HR
      simp only at HR
      have HS := fun w1 => sqrt_calls (v * v - fr * fr) k1 (by omega) w1
      have kr := rt_bound k1 (by omega)
      have kh := rt_bound (show 0 ≤ v * v - nr * nr by omega) k3
      have kh2 := rtHi_ge (v * v - nr * nr)
      obtain ⟨r0, hr0⟩ : ∃ r, rt (v * v - fr * fr) = r := ⟨_, rfl⟩
      obtain ⟨r1, hr1⟩ : ∃ r, rtHi (v * v - nr * nr) = r := ⟨_, rfl⟩
      rw [hr1] at HR
      rw [hr0] at HS
      rw [hr0, hr1]
      rw [hr0] at kr
      rw [hr1] at kh kh2
      clear hsq hr0 hr1
      refine enterQ (c := cx w 127) Tryz.func127 rfl rfl rfl rfl ?_
      ((all_goals refine goJ2 ?_); (all_goals constructor); (any_goals exact trivial); all_goals intros)
      all_goals rfl
end Go.Proofs.YtcjkndjjbjoehaaGreat

