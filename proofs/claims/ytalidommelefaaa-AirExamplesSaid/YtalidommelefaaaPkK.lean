/- Winds along ways. -/
import Derived.Test.YtalidommelefaaaPkD
import Derived.Test.YtalidommelefaaaPkB
/- Products of spans. -/
namespace Go.Proofs.Ytalidommelefaaa
open Go.RowKit
attribute [local irreducible] OQ OS OX Rd T TL GX GL AL AI RV wpG SAny Calls
set_option maxRecDepth 100000
set_option maxHeartbeats 2000000
set_option linter.unusedVariables false
set_option linter.unusedSimpArgs false


/-- The products of the ends of two spans. -/
def prI (a b c d : Int) (k : Nat) : Int := (if k % 2 = 1 then b else a) * (if k / 2 % 2 = 1 then d else c)
def prK (a b c d : Int) (k : Nat) : List (Int × Int) := (List.range 8).map fun i => if i < k then (prI a b c d i, prI a b c d i) else (0, 0)


theorem fine3 {w0 : World} {M : Ms} {H H' : Hp} {w : World} {g : Nat} {a b a' b' a'' b'' : Int} {tg : Tg} {cp : Nat} {q : Bool} (hq : (fineS (a, b) && (fineS (a', b') && fineS (a'', b''))) = q) (h : Has w0 M H w) (p : Pick H g [.int .i64 a, .int .i64 b, .int .i64 a', .int .i64 b', .int .i64 a'', .int .i64 b''] tg H') :
    Calls Try.prog 121 #[.slice (some ⟨g, 0, none⟩) 3 cp] w fun e w' => e = .returned (.bool q) ∧ Ext w w' := by
  have := fine_calls (some ⟨g, 0, none⟩) 3 cp [(a, b), (a', b'), (a'', b'')] w (Blk.rows (k := 2) (rows := [(a, b), (a', b'), (a'', b'')].map spanCells) (h.blk _ p.mem).2 rfl (by simp [spanCells])) (by omega)
  simp only [List.all_cons, List.all_nil, Bool.and_true, hq] at this
  exact this
theorem over1_calls (a b c d : Int) (h : -1000000 ≤ a ∧ a ≤ b ∧ b ≤ 1000000) (k0 : -1000000 ≤ c ∧ c ≤ d ∧ d ≤ 1000000) (w : World) :
    Calls Try.prog 138 #[.agg #[.int .i64 a, .int .i64 b], .agg #[.int .i64 c, .int .i64 d], .agg #[.int .i64 1, .int .i64 1]] w fun e w' => e = .returned (.tuple #[.agg #[.int .i64 (min (min (a * c) (b * c)) (min (a * d) (b * d))), .int .i64 (max (max (a * c) (b * c)) (max (a * d) (b * d)))], .int .i64 0]) ∧ Ext w w' := by
  have hq : (fineS (a, b) && (fineS (c, d) && fineS (1, 1))) = true := by rw [Bool.and_eq_true, Bool.and_eq_true, fineS_iff, fineS_iff, fineS_iff]; simp only; omega
  have m1 := mul_abs (x := a) (y := c) (a := 1000000) (b := 1000000) (by omega) (by omega)
  have m2 := mul_abs (x := b) (y := c) (a := 1000000) (b := 1000000) (by omega) (by omega)
  have m3 := mul_abs (x := a) (y := d) (a := 1000000) (b := 1000000) (by omega) (by omega)
  have m4 := mul_abs (x := b) (y := d) (a := 1000000) (b := 1000000) (by omega) (by omega)
  have HA : ∀ {w0 : World} {M : Ms} {H H' : Hp} {g : Nat} {tg : Tg} (w1 : World), Has w0 M H w1 → Pick H g ((prK a b c d 8).map spanCells).flatten tg H' → Calls Try.prog 141 #[.slice (some ⟨g, 0, none⟩) 8 8] w1 fun e w' =>
      e = .returned (.agg #[.int .i64 (min (min (a * c) (b * c)) (min (a * d) (b * d))), .int .i64 (max (max (a * c) (b * c)) (max (a * d) (b * d)))]) ∧ Ext w1 w' := fun w1 hw p => by
    have := around_calls (some ⟨_, 0, none⟩) 8 8 (a * c, a * c) (prK a b c d 8) w1 (Blk.rows (hw.blk _ p.mem).2 (by simp [prK]) (by simp only [List.mem_map]; rintro r ⟨x, _, rfl⟩; rfl)) (by omega) rfl (by omega) (by omega)
    have e : hullA (a * c, a * c) (prK a b c d 8) = (min (min (a * c) (b * c)) (min (a * d) (b * d)), max (max (a * c) (b * c)) (max (a * d) (b * d))) := by
      have : prK a b c d 8 = [(a * c, a * c), (b * c, b * c), (a * d, a * d), (b * d, b * d), (a * c, a * c), (b * c, b * c), (a * d, a * d), (b * d, b * d)] := rfl
      rw [this]
      simp only [hullA, List.foldl_cons, List.foldl_nil, hullS]
      generalize a * c = x1
      generalize b * c = x2
      generalize a * d = x3
      generalize b * d = x4
      congr 1 <;> omega
    rw [e] at this
    exact this
  refine enterQ (c := cx w 66) Try.func138 rfl rfl rfl rfl ?_
  repeat' (first | ((with_reducible apply oq_id); first | (apply oq_fn; exact rfl; first | exact trivial | (refine ⟨?_, ?_⟩ <;> omega) | (refine ⟨?_, ?_, ?_⟩ <;> omega) | omega | skip) | ((with_reducible apply oq_load); exact rfl; exact rfl) | ((with_reducible apply oq_loadAgg); exact rfl; exact rfl) | ((with_reducible apply oq_call (k := 121) (hc := Try.call121)); exact rfl; exact rfl; exact fun D w1 hw1 => fine3 hq hw1 (by (repeat (first | exact P0 | apply P1))))) | ((with_reducible apply tl_id); first | ((with_reducible apply tl_nil)) | ((with_reducible apply u_q); exact rfl; exact rfl; exact rfl; exact rfl) | ((with_reducible apply u_s); exact rfl; exact rfl; exact rfl)) | ((with_reducible apply os_id); first | ((with_reducible apply os_x); exact rfl)) | ((with_reducible apply ox_id); first | ((with_reducible apply ox_alloc); exact rfl; intro _) | ((with_reducible apply ox_boxAgg); exact rfl; intro _) | ((with_reducible apply ox_buildSlice2); exact rfl; exact rfl; exact rfl; exact rfl; exact rfl; exact rfl; intro _)) | ((with_reducible apply rd_id); first | (apply Rd.own; (repeat (first | exact P0 | apply P1)); exact rfl; done)) | ((with_reducible apply t_id); first | ((with_reducible apply t_seq)) | (apply t_region; kernel_rfl) | ((with_reducible apply t_condF); exact rfl) | ((with_reducible apply t_skip)) | ((with_reducible apply t_block))) | with_reducible apply q_thenN | with_reducible apply q_blockN | exact Rdn.zero | apply Rdn.succ)
  rename_i b3 b4 b5 b6 b7 b8
  apply t_loopK (ι := Nat) [3, 4, 5, 6, 7, 8, 61, 62, 63, 64, 65] (fun k => [(26, .int .i64 (k : Nat))]) (fun k => [(b8, ((prK a b c d k).map spanCells).flatten, some (192, 16, 1))]) (fun k => k ≤ 8) (fun k => 8 - k) (0)
  (repeat (first | exact KeepF.nil | (apply KeepF.cons; exact rfl) | apply KeepF.skip))
  (repeat (first | exact FrSub.nil | (apply FrSub.cons; exact rfl)))
  (repeat (first | exact HpSub.refl _ | (apply HpSub.consE; (repeat (first | exact P0 | apply P1)); exact rfl) | exact HpSub.nil))
  · omega
  intro k hk
  try simp only [List.cons_append, List.nil_append]
  by_cases hlt : k < 8
  · repeat' (first | ((with_reducible apply oq_id); first | (apply oq_fn; exact rfl; first | exact trivial | (refine ⟨?_, ?_⟩ <;> omega) | (refine ⟨?_, ?_, ?_⟩ <;> omega) | omega | skip) | ((with_reducible apply oq_load); exact rfl; exact rfl) | ((with_reducible apply oq_buildA); exact rfl; exact rfl; exact rfl; exact rfl)) | ((with_reducible apply tl_id); first | ((with_reducible apply tl_nil)) | ((with_reducible apply u_q); exact rfl; exact rfl; exact rfl; exact rfl)) | ((with_reducible apply gx_id); first | ((with_reducible apply v_nil)) | ((with_reducible apply v_q); exact rfl; exact rfl; exact rfl)) | ((with_reducible apply os_id); first | ((with_reducible apply os_storeAgg); exact rfl; exact rfl; exact rfl; exact rfl; exact rfl)) | ((with_reducible apply ox_id); first | ((with_reducible apply ox_alloc); exact rfl; intro _)) | ((with_reducible apply ai_id); first | ((with_reducible apply ai_x); exact rfl; exact rfl; exact rfl; exact rfl; exact rfl) | ((with_reducible apply ai_n0); exact rfl; exact rfl; exact rfl)) | ((with_reducible apply al_keep); focus (repeat (first | exact HpSub.refl _ | (apply HpSub.cons; (repeat (first | exact P0 | apply P1))) | exact HpSub.nil))) | ((with_reducible apply rd_id); first | (apply Rd.own; (repeat (first | exact P0 | apply P1)); exact rfl; done)) | ((with_reducible apply t_id); first | (with_reducible apply t_cutK (ι := (Nat × Nat × Nat)) (rid := 9) [3, 4, 5, 6, 7, 8, 9, 26] (fun i => [(10, .pointer (some ⟨i.1, 0, none⟩)), (11, .pointer (some ⟨i.2.1, 0, none⟩)), (12, .pointer (some ⟨i.2.2, 0, none⟩))]) (fun i => [(i.1, [.int .i64 a, .int .i64 b], some (193, 2, 1)), (i.2.1, [.int .i64 c, .int .i64 d], some (193, 2, 1)), (i.2.2, [.int .i64 1, .int .i64 1], some (193, 2, 1))])); (repeat (first | exact KeepF.nil | (apply KeepF.cons; exact rfl) | apply KeepF.skip)) | ((with_reducible apply t_seq)) | (apply t_region; kernel_rfl) | ((with_reducible apply t_condD); exact rfl; all_goals first | (intro hp; try (exfalso; omega)) | skip) | ((with_reducible apply t_skip)) | ((with_reducible apply t_block))) | with_reducible apply q_thenN | exact P0 | ((with_reducible apply P1)) | ((with_reducible apply Norm.nil); exact rfl) | ((with_reducible apply Norm.cons); exact rfl) | ((with_reducible apply cut_in3) <;> (repeat' (first | exact FrSub.nil | (apply FrSub.cons; exact rfl) | exact HpSub.refl _ | (apply HpSub.consE; (repeat (first | exact P0 | apply P1)); exact rfl) | exact HpSub.nil))) | (apply t_mix (id := 9) [0, 1, 2, 3, 4, 5, 6, 7, 8, 9, 10, 11, 12, 13, 14] 6 #[false, false, false, false, false, false, false, false, false, false, false, false, false, false, false, false, false, false, false, false, false]; kernel_rfl; kernel_rfl; exact rfl) | ((with_reducible apply al_id); first | (apply al_done; decide +kernel) | (apply al_one 15; decide +kernel) | (apply al_one 16; decide +kernel) | (apply al_one 17; decide +kernel) | (apply al_one 18; decide +kernel) | (apply al_one 19; decide +kernel) | (apply al_one 20; decide +kernel) | (apply al_two 15 16; decide +kernel) | (apply al_two 15 17; decide +kernel) | (apply al_two 16 17; decide +kernel) | (apply al_three 15 16 17; decide +kernel)) | exact Nat.le_of_ble_eq_true rfl)
    rintro ⟨b10, b11, b12⟩
    try simp only [List.cons_append, List.nil_append]
    try dsimp only
    have hk8 : k = 0 ∨ k = 1 ∨ k = 2 ∨ k = 3 ∨ k = 4 ∨ k = 5 ∨ k = 6 ∨ k = 7 := by omega
    clear hlt hk
    rcases hk8 with rfl | rfl | rfl | rfl | rfl | rfl | rfl | rfl
    · repeat' (first | ((with_reducible apply oq_id); first | (apply oq_fn; exact rfl; first | exact trivial | (refine ⟨?_, ?_⟩ <;> omega) | (refine ⟨?_, ?_, ?_⟩ <;> omega) | omega | skip) | ((with_reducible apply oq_load); exact rfl; exact rfl) | (focus ((with_reducible apply oq_and1I); exact rfl; exact rfl; (refine ⟨?_, ?_⟩ <;> omega))) | ((with_reducible apply oq_shr1I); exact rfl; exact rfl) | ((with_reducible apply oq_shr2I); exact rfl; exact rfl) | ((with_reducible apply oq_call (k := 150) (hc := Try.call150)); exact rfl; exact rfl; exact fun D w1 hw1 => share1_calls _ _ (by omega) (by omega) w1)) | ((with_reducible apply tl_id); first | ((with_reducible apply tl_nil)) | ((with_reducible apply u_q); exact rfl; exact rfl; exact rfl; exact rfl)) | ((with_reducible apply gx_id); first | ((with_reducible apply v_nil)) | ((with_reducible apply v_q); exact rfl; exact rfl; exact rfl)) | ((with_reducible apply os_id); first | ((with_reducible apply os_storeAgg); exact rfl; exact rfl; exact rfl; exact rfl; exact rfl)) | ((with_reducible apply ai_id); first | ((with_reducible apply ai_s0); exact rfl; exact rfl; exact rfl; exact rfl)) | ((with_reducible apply rd_id); first | (apply Rd.own; (repeat (first | exact P0 | apply P1)); exact rfl; done)) | ((with_reducible apply t_id); first | (apply t_region; kernel_rfl)) | with_reducible apply q_thenN | with_reducible apply q_blockN | exact P0 | ((with_reducible apply P1)) | ((with_reducible apply Norm.nil); exact rfl) | ((with_reducible apply Norm.cons); exact rfl) | (apply t_mix (id := 10) [0, 1, 2, 3, 4, 5, 6, 7, 8, 9, 10, 11, 12, 13, 14, 15] 1 #[false, false, false, false, false, false, false, false, false, false, false, false, false, false, false, false, true]; kernel_rfl; kernel_rfl; exact rfl) | ((with_reducible apply al_id); first | (apply al_done; decide +kernel) | (apply al_one 16; decide +kernel)) | exact Nat.le_of_ble_eq_true rfl)
      refine ⟨1, by omega, by omega, ?_, ?_⟩
      · try simp only [List.cons_append, List.nil_append]
        (repeat (first | exact FrSub.nil | (apply FrSub.cons; exact rfl)))
      · try simp only [List.cons_append, List.nil_append]
        (repeat (first | exact HpSub.refl _ | (apply HpSub.consE; (repeat (first | exact P0 | apply P1)); exact rfl) | exact HpSub.nil))
    · repeat' (first | ((with_reducible apply oq_id); first | (apply oq_fn; exact rfl; first | exact trivial | (refine ⟨?_, ?_⟩ <;> omega) | (refine ⟨?_, ?_, ?_⟩ <;> omega) | omega | skip) | ((with_reducible apply oq_load); exact rfl; exact rfl) | (focus ((with_reducible apply oq_and1I); exact rfl; exact rfl; (refine ⟨?_, ?_⟩ <;> omega))) | ((with_reducible apply oq_shr1I); exact rfl; exact rfl) | ((with_reducible apply oq_shr2I); exact rfl; exact rfl) | ((with_reducible apply oq_call (k := 150) (hc := Try.call150)); exact rfl; exact rfl; exact fun D w1 hw1 => share1_calls _ _ (by omega) (by omega) w1)) | ((with_reducible apply tl_id); first | ((with_reducible apply tl_nil)) | ((with_reducible apply u_q); exact rfl; exact rfl; exact rfl; exact rfl)) | ((with_reducible apply gx_id); first | ((with_reducible apply v_nil)) | ((with_reducible apply v_q); exact rfl; exact rfl; exact rfl)) | ((with_reducible apply os_id); first | ((with_reducible apply os_storeAgg); exact rfl; exact rfl; exact rfl; exact rfl; exact rfl)) | ((with_reducible apply ai_id); first | ((with_reducible apply ai_s0); exact rfl; exact rfl; exact rfl; exact rfl)) | ((with_reducible apply rd_id); first | (apply Rd.own; (repeat (first | exact P0 | apply P1)); exact rfl; done)) | ((with_reducible apply t_id); first | (apply t_region; kernel_rfl)) | with_reducible apply q_thenN | with_reducible apply q_blockN | exact P0 | ((with_reducible apply P1)) | ((with_reducible apply Norm.nil); exact rfl) | ((with_reducible apply Norm.cons); exact rfl) | (apply t_mix (id := 10) [0, 1, 2, 3, 4, 5, 6, 7, 8, 9, 10, 11, 12, 13, 14, 15] 1 #[false, false, false, false, false, false, false, false, false, false, false, false, false, false, false, false, true]; kernel_rfl; kernel_rfl; exact rfl) | ((with_reducible apply al_id); first | (apply al_done; decide +kernel) | (apply al_one 16; decide +kernel)) | exact Nat.le_of_ble_eq_true rfl)
      refine ⟨2, by omega, by omega, ?_, ?_⟩
      · try simp only [List.cons_append, List.nil_append]
        (repeat (first | exact FrSub.nil | (apply FrSub.cons; exact rfl)))
      · try simp only [List.cons_append, List.nil_append]
        (repeat (first | exact HpSub.refl _ | (apply HpSub.consE; (repeat (first | exact P0 | apply P1)); exact rfl) | exact HpSub.nil))
    · repeat' (first | ((with_reducible apply oq_id); first | (apply oq_fn; exact rfl; first | exact trivial | (refine ⟨?_, ?_⟩ <;> omega) | (refine ⟨?_, ?_, ?_⟩ <;> omega) | omega | skip) | ((with_reducible apply oq_load); exact rfl; exact rfl) | (focus ((with_reducible apply oq_and1I); exact rfl; exact rfl; (refine ⟨?_, ?_⟩ <;> omega))) | ((with_reducible apply oq_shr1I); exact rfl; exact rfl) | ((with_reducible apply oq_shr2I); exact rfl; exact rfl) | ((with_reducible apply oq_call (k := 150) (hc := Try.call150)); exact rfl; exact rfl; exact fun D w1 hw1 => share1_calls _ _ (by omega) (by omega) w1)) | ((with_reducible apply tl_id); first | ((with_reducible apply tl_nil)) | ((with_reducible apply u_q); exact rfl; exact rfl; exact rfl; exact rfl)) | ((with_reducible apply gx_id); first | ((with_reducible apply v_nil)) | ((with_reducible apply v_q); exact rfl; exact rfl; exact rfl)) | ((with_reducible apply os_id); first | ((with_reducible apply os_storeAgg); exact rfl; exact rfl; exact rfl; exact rfl; exact rfl)) | ((with_reducible apply ai_id); first | ((with_reducible apply ai_s0); exact rfl; exact rfl; exact rfl; exact rfl)) | ((with_reducible apply rd_id); first | (apply Rd.own; (repeat (first | exact P0 | apply P1)); exact rfl; done)) | ((with_reducible apply t_id); first | (apply t_region; kernel_rfl)) | with_reducible apply q_thenN | with_reducible apply q_blockN | exact P0 | ((with_reducible apply P1)) | ((with_reducible apply Norm.nil); exact rfl) | ((with_reducible apply Norm.cons); exact rfl) | (apply t_mix (id := 10) [0, 1, 2, 3, 4, 5, 6, 7, 8, 9, 10, 11, 12, 13, 14, 15] 1 #[false, false, false, false, false, false, false, false, false, false, false, false, false, false, false, false, true]; kernel_rfl; kernel_rfl; exact rfl) | ((with_reducible apply al_id); first | (apply al_done; decide +kernel) | (apply al_one 16; decide +kernel)) | exact Nat.le_of_ble_eq_true rfl)
      refine ⟨3, by omega, by omega, ?_, ?_⟩
      · try simp only [List.cons_append, List.nil_append]
        (repeat (first | exact FrSub.nil | (apply FrSub.cons; exact rfl)))
      · try simp only [List.cons_append, List.nil_append]
        (repeat (first | exact HpSub.refl _ | (apply HpSub.consE; (repeat (first | exact P0 | apply P1)); exact rfl) | exact HpSub.nil))
    · repeat' (first | ((with_reducible apply oq_id); first | (apply oq_fn; exact rfl; first | exact trivial | (refine ⟨?_, ?_⟩ <;> omega) | (refine ⟨?_, ?_, ?_⟩ <;> omega) | omega | skip) | ((with_reducible apply oq_load); exact rfl; exact rfl) | (focus ((with_reducible apply oq_and1I); exact rfl; exact rfl; (refine ⟨?_, ?_⟩ <;> omega))) | ((with_reducible apply oq_shr1I); exact rfl; exact rfl) | ((with_reducible apply oq_shr2I); exact rfl; exact rfl) | ((with_reducible apply oq_call (k := 150) (hc := Try.call150)); exact rfl; exact rfl; exact fun D w1 hw1 => share1_calls _ _ (by omega) (by omega) w1)) | ((with_reducible apply tl_id); first | ((with_reducible apply tl_nil)) | ((with_reducible apply u_q); exact rfl; exact rfl; exact rfl; exact rfl)) | ((with_reducible apply gx_id); first | ((with_reducible apply v_nil)) | ((with_reducible apply v_q); exact rfl; exact rfl; exact rfl)) | ((with_reducible apply os_id); first | ((with_reducible apply os_storeAgg); exact rfl; exact rfl; exact rfl; exact rfl; exact rfl)) | ((with_reducible apply ai_id); first | ((with_reducible apply ai_s0); exact rfl; exact rfl; exact rfl; exact rfl)) | ((with_reducible apply rd_id); first | (apply Rd.own; (repeat (first | exact P0 | apply P1)); exact rfl; done)) | ((with_reducible apply t_id); first | (apply t_region; kernel_rfl)) | with_reducible apply q_thenN | with_reducible apply q_blockN | exact P0 | ((with_reducible apply P1)) | ((with_reducible apply Norm.nil); exact rfl) | ((with_reducible apply Norm.cons); exact rfl) | (apply t_mix (id := 10) [0, 1, 2, 3, 4, 5, 6, 7, 8, 9, 10, 11, 12, 13, 14, 15] 1 #[false, false, false, false, false, false, false, false, false, false, false, false, false, false, false, false, true]; kernel_rfl; kernel_rfl; exact rfl) | ((with_reducible apply al_id); first | (apply al_done; decide +kernel) | (apply al_one 16; decide +kernel)) | exact Nat.le_of_ble_eq_true rfl)
      refine ⟨4, by omega, by omega, ?_, ?_⟩
      · try simp only [List.cons_append, List.nil_append]
        (repeat (first | exact FrSub.nil | (apply FrSub.cons; exact rfl)))
      · try simp only [List.cons_append, List.nil_append]
        (repeat (first | exact HpSub.refl _ | (apply HpSub.consE; (repeat (first | exact P0 | apply P1)); exact rfl) | exact HpSub.nil))
    · repeat' (first | ((with_reducible apply oq_id); first | (apply oq_fn; exact rfl; first | exact trivial | (refine ⟨?_, ?_⟩ <;> omega) | (refine ⟨?_, ?_, ?_⟩ <;> omega) | omega | skip) | ((with_reducible apply oq_load); exact rfl; exact rfl) | (focus ((with_reducible apply oq_and1I); exact rfl; exact rfl; (refine ⟨?_, ?_⟩ <;> omega))) | ((with_reducible apply oq_shr1I); exact rfl; exact rfl) | ((with_reducible apply oq_shr2I); exact rfl; exact rfl) | ((with_reducible apply oq_call (k := 150) (hc := Try.call150)); exact rfl; exact rfl; exact fun D w1 hw1 => share1_calls _ _ (by omega) (by omega) w1)) | ((with_reducible apply tl_id); first | ((with_reducible apply tl_nil)) | ((with_reducible apply u_q); exact rfl; exact rfl; exact rfl; exact rfl)) | ((with_reducible apply gx_id); first | ((with_reducible apply v_nil)) | ((with_reducible apply v_q); exact rfl; exact rfl; exact rfl)) | ((with_reducible apply os_id); first | ((with_reducible apply os_storeAgg); exact rfl; exact rfl; exact rfl; exact rfl; exact rfl)) | ((with_reducible apply ai_id); first | ((with_reducible apply ai_s0); exact rfl; exact rfl; exact rfl; exact rfl)) | ((with_reducible apply rd_id); first | (apply Rd.own; (repeat (first | exact P0 | apply P1)); exact rfl; done)) | ((with_reducible apply t_id); first | (apply t_region; kernel_rfl)) | with_reducible apply q_thenN | with_reducible apply q_blockN | exact P0 | ((with_reducible apply P1)) | ((with_reducible apply Norm.nil); exact rfl) | ((with_reducible apply Norm.cons); exact rfl) | (apply t_mix (id := 10) [0, 1, 2, 3, 4, 5, 6, 7, 8, 9, 10, 11, 12, 13, 14, 15] 1 #[false, false, false, false, false, false, false, false, false, false, false, false, false, false, false, false, true]; kernel_rfl; kernel_rfl; exact rfl) | ((with_reducible apply al_id); first | (apply al_done; decide +kernel) | (apply al_one 16; decide +kernel)) | exact Nat.le_of_ble_eq_true rfl)
      refine ⟨5, by omega, by omega, ?_, ?_⟩
      · try simp only [List.cons_append, List.nil_append]
        (repeat (first | exact FrSub.nil | (apply FrSub.cons; exact rfl)))
      · try simp only [List.cons_append, List.nil_append]
        (repeat (first | exact HpSub.refl _ | (apply HpSub.consE; (repeat (first | exact P0 | apply P1)); exact rfl) | exact HpSub.nil))
    · repeat' (first | ((with_reducible apply oq_id); first | (apply oq_fn; exact rfl; first | exact trivial | (refine ⟨?_, ?_⟩ <;> omega) | (refine ⟨?_, ?_, ?_⟩ <;> omega) | omega | skip) | ((with_reducible apply oq_load); exact rfl; exact rfl) | (focus ((with_reducible apply oq_and1I); exact rfl; exact rfl; (refine ⟨?_, ?_⟩ <;> omega))) | ((with_reducible apply oq_shr1I); exact rfl; exact rfl) | ((with_reducible apply oq_shr2I); exact rfl; exact rfl) | ((with_reducible apply oq_call (k := 150) (hc := Try.call150)); exact rfl; exact rfl; exact fun D w1 hw1 => share1_calls _ _ (by omega) (by omega) w1)) | ((with_reducible apply tl_id); first | ((with_reducible apply tl_nil)) | ((with_reducible apply u_q); exact rfl; exact rfl; exact rfl; exact rfl)) | ((with_reducible apply gx_id); first | ((with_reducible apply v_nil)) | ((with_reducible apply v_q); exact rfl; exact rfl; exact rfl)) | ((with_reducible apply os_id); first | ((with_reducible apply os_storeAgg); exact rfl; exact rfl; exact rfl; exact rfl; exact rfl)) | ((with_reducible apply ai_id); first | ((with_reducible apply ai_s0); exact rfl; exact rfl; exact rfl; exact rfl)) | ((with_reducible apply rd_id); first | (apply Rd.own; (repeat (first | exact P0 | apply P1)); exact rfl; done)) | ((with_reducible apply t_id); first | (apply t_region; kernel_rfl)) | with_reducible apply q_thenN | with_reducible apply q_blockN | exact P0 | ((with_reducible apply P1)) | ((with_reducible apply Norm.nil); exact rfl) | ((with_reducible apply Norm.cons); exact rfl) | (apply t_mix (id := 10) [0, 1, 2, 3, 4, 5, 6, 7, 8, 9, 10, 11, 12, 13, 14, 15] 1 #[false, false, false, false, false, false, false, false, false, false, false, false, false, false, false, false, true]; kernel_rfl; kernel_rfl; exact rfl) | ((with_reducible apply al_id); first | (apply al_done; decide +kernel) | (apply al_one 16; decide +kernel)) | exact Nat.le_of_ble_eq_true rfl)
      refine ⟨6, by omega, by omega, ?_, ?_⟩
      · try simp only [List.cons_append, List.nil_append]
        (repeat (first | exact FrSub.nil | (apply FrSub.cons; exact rfl)))
      · try simp only [List.cons_append, List.nil_append]
        (repeat (first | exact HpSub.refl _ | (apply HpSub.consE; (repeat (first | exact P0 | apply P1)); exact rfl) | exact HpSub.nil))
    · repeat' (first | ((with_reducible apply oq_id); first | (apply oq_fn; exact rfl; first | exact trivial | (refine ⟨?_, ?_⟩ <;> omega) | (refine ⟨?_, ?_, ?_⟩ <;> omega) | omega | skip) | ((with_reducible apply oq_load); exact rfl; exact rfl) | (focus ((with_reducible apply oq_and1I); exact rfl; exact rfl; (refine ⟨?_, ?_⟩ <;> omega))) | ((with_reducible apply oq_shr1I); exact rfl; exact rfl) | ((with_reducible apply oq_shr2I); exact rfl; exact rfl) | ((with_reducible apply oq_call (k := 150) (hc := Try.call150)); exact rfl; exact rfl; exact fun D w1 hw1 => share1_calls _ _ (by omega) (by omega) w1)) | ((with_reducible apply tl_id); first | ((with_reducible apply tl_nil)) | ((with_reducible apply u_q); exact rfl; exact rfl; exact rfl; exact rfl)) | ((with_reducible apply gx_id); first | ((with_reducible apply v_nil)) | ((with_reducible apply v_q); exact rfl; exact rfl; exact rfl)) | ((with_reducible apply os_id); first | ((with_reducible apply os_storeAgg); exact rfl; exact rfl; exact rfl; exact rfl; exact rfl)) | ((with_reducible apply ai_id); first | ((with_reducible apply ai_s0); exact rfl; exact rfl; exact rfl; exact rfl)) | ((with_reducible apply rd_id); first | (apply Rd.own; (repeat (first | exact P0 | apply P1)); exact rfl; done)) | ((with_reducible apply t_id); first | (apply t_region; kernel_rfl)) | with_reducible apply q_thenN | with_reducible apply q_blockN | exact P0 | ((with_reducible apply P1)) | ((with_reducible apply Norm.nil); exact rfl) | ((with_reducible apply Norm.cons); exact rfl) | (apply t_mix (id := 10) [0, 1, 2, 3, 4, 5, 6, 7, 8, 9, 10, 11, 12, 13, 14, 15] 1 #[false, false, false, false, false, false, false, false, false, false, false, false, false, false, false, false, true]; kernel_rfl; kernel_rfl; exact rfl) | ((with_reducible apply al_id); first | (apply al_done; decide +kernel) | (apply al_one 16; decide +kernel)) | exact Nat.le_of_ble_eq_true rfl)
      refine ⟨7, by omega, by omega, ?_, ?_⟩
      · try simp only [List.cons_append, List.nil_append]
        (repeat (first | exact FrSub.nil | (apply FrSub.cons; exact rfl)))
      · try simp only [List.cons_append, List.nil_append]
        (repeat (first | exact HpSub.refl _ | (apply HpSub.consE; (repeat (first | exact P0 | apply P1)); exact rfl) | exact HpSub.nil))
    · repeat' (first | ((with_reducible apply oq_id); first | (apply oq_fn; exact rfl; first | exact trivial | (refine ⟨?_, ?_⟩ <;> omega) | (refine ⟨?_, ?_, ?_⟩ <;> omega) | omega | skip) | ((with_reducible apply oq_load); exact rfl; exact rfl) | (focus ((with_reducible apply oq_and1I); exact rfl; exact rfl; (refine ⟨?_, ?_⟩ <;> omega))) | ((with_reducible apply oq_shr1I); exact rfl; exact rfl) | ((with_reducible apply oq_shr2I); exact rfl; exact rfl) | ((with_reducible apply oq_call (k := 150) (hc := Try.call150)); exact rfl; exact rfl; exact fun D w1 hw1 => share1_calls _ _ (by omega) (by omega) w1)) | ((with_reducible apply tl_id); first | ((with_reducible apply tl_nil)) | ((with_reducible apply u_q); exact rfl; exact rfl; exact rfl; exact rfl)) | ((with_reducible apply gx_id); first | ((with_reducible apply v_nil)) | ((with_reducible apply v_q); exact rfl; exact rfl; exact rfl)) | ((with_reducible apply os_id); first | ((with_reducible apply os_storeAgg); exact rfl; exact rfl; exact rfl; exact rfl; exact rfl)) | ((with_reducible apply ai_id); first | ((with_reducible apply ai_s0); exact rfl; exact rfl; exact rfl; exact rfl)) | ((with_reducible apply rd_id); first | (apply Rd.own; (repeat (first | exact P0 | apply P1)); exact rfl; done)) | ((with_reducible apply t_id); first | (apply t_region; kernel_rfl)) | with_reducible apply q_thenN | with_reducible apply q_blockN | exact P0 | ((with_reducible apply P1)) | ((with_reducible apply Norm.nil); exact rfl) | ((with_reducible apply Norm.cons); exact rfl) | (apply t_mix (id := 10) [0, 1, 2, 3, 4, 5, 6, 7, 8, 9, 10, 11, 12, 13, 14, 15] 1 #[false, false, false, false, false, false, false, false, false, false, false, false, false, false, false, false, true]; kernel_rfl; kernel_rfl; exact rfl) | ((with_reducible apply al_id); first | (apply al_done; decide +kernel) | (apply al_one 16; decide +kernel)) | exact Nat.le_of_ble_eq_true rfl)
      refine ⟨8, by omega, by omega, ?_, ?_⟩
      · try simp only [List.cons_append, List.nil_append]
        (repeat (first | exact FrSub.nil | (apply FrSub.cons; exact rfl)))
      · try simp only [List.cons_append, List.nil_append]
        (repeat (first | exact HpSub.refl _ | (apply HpSub.consE; (repeat (first | exact P0 | apply P1)); exact rfl) | exact HpSub.nil))
  · obtain rfl : k = 8 := by omega
    repeat' (first | ((with_reducible apply oq_id); first | (apply oq_fn; exact rfl; first | exact trivial | (refine ⟨?_, ?_⟩ <;> omega) | (refine ⟨?_, ?_, ?_⟩ <;> omega) | omega | skip) | ((with_reducible apply oq_sliceArr); exact rfl; exact rfl; exact rfl) | ((with_reducible apply oq_call (k := 141) (hc := Try.call141)); exact rfl; exact rfl; exact fun D w1 hw1 => HA w1 hw1 (by (repeat (first | exact P0 | apply P1)))) | ((with_reducible apply oq_call (k := 139) (hc := Try.call139)); exact rfl; exact rfl; exact fun D w1 hw1 => sized_calls _ _ (by omega) (by omega) w1)) | ((with_reducible apply tl_id); first | ((with_reducible apply tl_nil)) | ((with_reducible apply u_q); exact rfl; exact rfl; exact rfl; exact rfl) | ((with_reducible apply u_s0); exact rfl; exact rfl)) | ((with_reducible apply os_id); first | ((with_reducible apply os_storeAgg); exact rfl; exact rfl; exact rfl; exact rfl; exact rfl)) | ((with_reducible apply rd_id); first | (apply Rd.own; (repeat (first | exact P0 | apply P1)); exact rfl; done)) | ((with_reducible apply t_id); first | ((with_reducible apply t_seq)) | (apply t_region; kernel_rfl) | ((with_reducible apply t_condF); exact rfl) | ((with_reducible apply t_ret)) | ((with_reducible apply t_exit))) | with_reducible apply q_thenN | with_reducible apply q_thenE | ((with_reducible apply q_blockE); exact rfl) | exact P0 | ((with_reducible apply P1)) | exact Rdn.zero | apply Rdn.succ | ((with_reducible apply Norm.nil); exact rfl) | ((with_reducible apply Norm.cons); exact rfl) | ((with_reducible apply end_ret)) | exact rvs_nil | ((with_reducible apply rvs_cons)) | ((with_reducible apply rv_tmp); exact rfl) | ((with_reducible apply rv_cellAgg); exact rfl; exact rfl) | exact Nat.le_of_ble_eq_true rfl)
    rfl


theorem mul_calls (a b c d : Int) (h : -1000000 ≤ a ∧ a ≤ b ∧ b ≤ 1000000) (k0 : -1000000 ≤ c ∧ c ≤ d ∧ d ≤ 1000000) (w : World) :
    Calls Try.prog 115 #[.agg #[.int .i64 a, .int .i64 b], .agg #[.int .i64 c, .int .i64 d]] w fun e w' => e = .returned (.tuple #[.agg #[.int .i64 (min (min (a * c) (b * c)) (min (a * d) (b * d))), .int .i64 (max (max (a * c) (b * c)) (max (a * d) (b * d)))], .int .i64 0]) ∧ Ext w w' := by
  refine enterQ (c := cx w 12) Try.func115 rfl rfl rfl rfl ?_
  repeat' (first | ((with_reducible apply oq_id); first | (apply oq_fn; exact rfl; first | exact trivial | (refine ⟨?_, ?_⟩ <;> omega) | (refine ⟨?_, ?_, ?_⟩ <;> omega) | omega | skip) | ((with_reducible apply oq_loadAgg); exact rfl; exact rfl) | ((with_reducible apply oq_call (k := 138) (hc := Try.call138)); exact rfl; exact rfl; exact fun D w1 hw1 => over1_calls _ _ _ _ h k0 w1) | ((with_reducible apply oq_build); exact rfl; exact rfl; exact rfl)) | ((with_reducible apply tl_id); first | ((with_reducible apply tl_nil)) | ((with_reducible apply u_q); exact rfl; exact rfl; exact rfl; exact rfl) | ((with_reducible apply u_s0); exact rfl; exact rfl) | ((with_reducible apply u_s); exact rfl; exact rfl; exact rfl)) | ((with_reducible apply os_id); first | ((with_reducible apply os_x); exact rfl) | ((with_reducible apply os_storeAgg); exact rfl; exact rfl; exact rfl; exact rfl; exact rfl)) | ((with_reducible apply ox_id); first | ((with_reducible apply ox_alloc); exact rfl; intro _) | ((with_reducible apply ox_boxAgg); exact rfl; intro _)) | ((with_reducible apply rd_id); first | (apply Rd.own; (repeat (first | exact P0 | apply P1)); exact rfl; done)) | ((with_reducible apply t_id); first | ((with_reducible apply t_seq)) | (apply t_region; kernel_rfl) | ((with_reducible apply t_ret))) | with_reducible apply q_thenN | exact P0 | exact Rdn.zero | apply Rdn.succ | ((with_reducible apply Norm.nil); exact rfl) | ((with_reducible apply Norm.cons); exact rfl) | ((with_reducible apply end_ret)) | exact rvs_nil | ((with_reducible apply rvs_cons)) | ((with_reducible apply rv_tmp); exact rfl) | ((with_reducible apply rv_cellAgg); exact rfl; exact rfl) | exact Nat.le_of_ble_eq_true rfl)
  all_goals rfl

end Go.Proofs.Ytalidommelefaaa
/- How fast a wind blows along a way. -/
namespace Go.Proofs.Ytalidommelefaaa
open Go.RowKit
attribute [local irreducible] OQ OS OX Rd T TL GX GL AL AI RV wpG SAny Calls
set_option maxRecDepth 100000
set_option maxHeartbeats 2000000
set_option linter.unusedVariables false
set_option linter.unusedSimpArgs false


def wayOk (dx dy : Int) : Bool := allFrom (-10000) 10000 [dx, dy] && !(decide (dx = 0) && decide (dy = 0))
def alongLo (a b c d dx dy : Int) : Int := min (a * dx) (b * dx) + min (c * dy) (d * dy)
def alongHi (a b c d dx dy : Int) : Int := max (a * dx) (b * dx) + max (c * dy) (d * dy)
/-- How fast a wind blows along a way: bounds, then the error. -/
noncomputable def alongV (a b c d dx dy : Int) : Int × Int × Int :=
  if windE a b c d = 0 then (if wayOk dx dy then (shV (alongLo a b c d dx dy) (dx * dx + dy * dy), -shV (-alongHi a b c d dx dy) (dx * dx + dy * dy), 0) else (0, 0, 2)) else (0, 0, windE a b c d)
theorem fromS2 {w0 : World} {M : Ms} {H H' : Hp} {w : World} {g : Nat} {a b lo hi : Int} {tg : Tg} {cp : Nat} {q : Bool} (hq : allFrom lo hi [a, b] = q) (h : Has w0 M H w) (p : Pick H g [.int .i64 a, .int .i64 b] tg H') :
    Calls Try.prog 71 #[.int .i64 lo, .int .i64 hi, .slice (some ⟨g, 0, none⟩) 2 cp] w fun e w' => e = .returned (.bool q) ∧ Ext w w' :=
  hq ▸ from_calls lo hi (some ⟨g, 0, none⟩) 2 cp [a, b] w (Blk.rows (k := 1) (rows := [a, b].map fun z => [Value.int .i64 z]) (h.blk _ p.mem).2 rfl (by simp)) (by omega)
/-- (x dx + y dy)^2 is at most 8000000 (dx^2 + dy^2). -/
theorem sum_sq {x y p q : Int} (hx : -2000 ≤ x ∧ x ≤ 2000) (hy : -2000 ≤ y ∧ y ≤ 2000) : (x * p + y * q) * (x * p + y * q) ≤ 8000000 * (p * p + q * q) := by
  have key : (x * p + y * q) * (x * p + y * q) + (x * q - y * p) * (x * q - y * p) = (x * x + y * y) * (p * p + q * q) := by
    simp only [Int.add_mul, Int.mul_add, Int.sub_mul, Int.mul_sub]
    have e1 : x * p * (x * p) = x * x * (p * p) := by ac_rfl
    have e2 : y * q * (y * q) = y * y * (q * q) := by ac_rfl
    have e3 : x * q * (x * q) = x * x * (q * q) := by ac_rfl
    have e4 : y * p * (y * p) = y * y * (p * p) := by ac_rfl
    have e5 : x * p * (y * q) = x * y * (p * q) := by ac_rfl
    have e6 : y * q * (x * p) = x * y * (p * q) := by ac_rfl
    have e7 : x * q * (y * p) = x * y * (p * q) := by ac_rfl
    have e8 : y * p * (x * q) = x * y * (p * q) := by ac_rfl
    omega
  have sq0 : ∀ z : Int, 0 ≤ z * z := fun z => by
    rcases Int.le_total 0 z with h | h
    · exact Int.mul_nonneg h h
    · rw [sq_neg]; exact Int.mul_nonneg (by omega) (by omega)
  have h1 := sq0 (x * q - y * p)
  have hx2 := (mul_abs hx hx).2
  have hy2 := (mul_abs hy hy).2
  have hp := sq0 p
  have hq := sq0 q
  have h2 : (x * x + y * y) * (p * p + q * q) ≤ 8000000 * (p * p + q * q) := Int.mul_le_mul_of_nonneg_right (by omega) (by omega)
  omega
theorem alongLo_sq {a b c d dx dy : Int} (h : a ≤ b ∧ c ≤ d ∧ -2000 ≤ a ∧ b ≤ 2000 ∧ -2000 ≤ c ∧ d ≤ 2000) : alongLo a b c d dx dy * alongLo a b c d dx dy ≤ 8000000 * (dx * dx + dy * dy) := by
  unfold alongLo
  rcases Int.le_total (a * dx) (b * dx) with h1 | h1 <;> rcases Int.le_total (c * dy) (d * dy) with h2 | h2
  · rw [Int.min_eq_left h1, Int.min_eq_left h2]; exact sum_sq (by omega) (by omega)
  · rw [Int.min_eq_left h1, Int.min_eq_right h2]; exact sum_sq (by omega) (by omega)
  · rw [Int.min_eq_right h1, Int.min_eq_left h2]; exact sum_sq (by omega) (by omega)
  · rw [Int.min_eq_right h1, Int.min_eq_right h2]; exact sum_sq (by omega) (by omega)
theorem alongHi_sq {a b c d dx dy : Int} (h : a ≤ b ∧ c ≤ d ∧ -2000 ≤ a ∧ b ≤ 2000 ∧ -2000 ≤ c ∧ d ≤ 2000) : -alongHi a b c d dx dy * -alongHi a b c d dx dy ≤ 8000000 * (dx * dx + dy * dy) := by
  rw [← sq_neg]
  unfold alongHi
  rcases Int.le_total (a * dx) (b * dx) with h1 | h1 <;> rcases Int.le_total (c * dy) (d * dy) with h2 | h2
  · rw [Int.max_eq_right h1, Int.max_eq_right h2]; exact sum_sq (by omega) (by omega)
  · rw [Int.max_eq_right h1, Int.max_eq_left h2]; exact sum_sq (by omega) (by omega)
  · rw [Int.max_eq_left h1, Int.max_eq_right h2]; exact sum_sq (by omega) (by omega)
  · rw [Int.max_eq_left h1, Int.max_eq_left h2]; exact sum_sq (by omega) (by omega)


theorem sq_nn (n : Int) : 0 ≤ n * n := by
  rcases Int.le_total 0 n with h | h
  · exact Int.mul_nonneg h h
  · rw [sq_neg]; exact Int.mul_nonneg (by omega) (by omega)
theorem shV_ex {n q : Int} (hq : 1 ≤ q) (h8 : n * n ≤ 8000000 * q) : IsSh n q (shV n q) ∧ -4000 ≤ shV n q ∧ shV n q ≤ 4000 := by
  have hk := rt_spec ((n * n).tdiv q) (by rw [Int.tdiv_eq_ediv_of_nonneg (sq_nn n)]; exact Int.ediv_nonneg (sq_nn n) (by omega))
  have hd1 : (n * n).tdiv q ≤ 8000000 := by rw [Int.tdiv_eq_ediv_of_nonneg (sq_nn n)]; exact Int.ediv_le_of_le_mul (by omega) h8
  obtain ⟨k, ek⟩ : ∃ k, k = rt ((n * n).tdiv q) := ⟨_, rfl⟩
  rw [← ek] at hk
  obtain ⟨f1, f2⟩ := part_facts (by omega) hk
  have hk0 := hk.1
  have hk1 : k ≤ 3000 := by
    rcases Int.lt_or_le 3000 k with h | h
    · have := sq_mono (j := 3001) (k := k) (by omega) (by omega)
      have := hk.2.1; omega
    · exact h
  by_cases hn : 0 ≤ n
  · have := isSh_pos hn hk0 f1 f2
    rw [this.val (by omega)]
    exact ⟨this, by omega, by omega⟩
  · by_cases hh : k * k * q < n * n
    · have := isSh_neg1 (by omega) hk0 hh f2
      rw [this.val (by omega)]
      exact ⟨this, by omega, by omega⟩
    · have := isSh_neg0 (by omega) (by omega) hk0 hh f1
      rw [this.val (by omega)]
      exact ⟨this, by omega, by omega⟩
theorem shV_in {n q : Int} (hq : 1 ≤ q) (h8 : n * n ≤ 8000000 * q) : InR (-shV n q) := by
  have := shV_ex hq h8
  exact ⟨by omega, by omega⟩
theorem airAlong_calls (a b c d dx dy : Int) (w : World) : Calls Try.prog 46 #[.agg #[.int .i64 a, .int .i64 b, .int .i64 c, .int .i64 d], .int .i64 dx, .int .i64 dy] w fun e w' => e = .returned (.tuple #[.agg #[.int .i64 (alongV a b c d dx dy).1, .int .i64 (alongV a b c d dx dy).2.1], .int .i64 (alongV a b c d dx dy).2.2]) ∧ Ext w w' := by
  have H1 := fun w1 => checkWind_calls a b c d w1
  obtain ⟨e, he⟩ : ∃ e, windE a b c d = e := ⟨_, rfl⟩
  obtain ⟨q, hq⟩ : ∃ q, allFrom (-10000) 10000 [dx, dy] = q := ⟨_, rfl⟩
  rw [he] at H1
  by_cases he0 : e = 0
  · subst he0
    have hb := windE_zero he
    cases q with
    | false =>
      have hW : alongV a b c d dx dy = (0, 0, 2) := by unfold alongV; rw [he, if_pos rfl, if_neg (by unfold wayOk; rw [hq]; simp)]
      rw [hW]
      refine enterQ (c := cx w 78) Try.func46 rfl rfl rfl rfl ?_
      repeat' (first | ((with_reducible apply oq_id); first | (apply oq_fn; exact rfl; first | exact trivial | (refine ⟨?_, ?_⟩ <;> omega) | (refine ⟨?_, ?_, ?_⟩ <;> omega) | omega | skip) | ((with_reducible apply oq_loadAgg); exact rfl; exact rfl) | ((with_reducible apply oq_call (k := 110) (hc := Try.call110)); exact rfl; exact rfl; exact fun D w1 hw1 => H1 w1) | ((with_reducible apply oq_call (k := 71) (hc := Try.call71)); exact rfl; exact rfl; exact fun D w1 hw1 => fromS2 hq hw1 (by (repeat (first | exact P0 | apply P1)))) | ((with_reducible apply oq_build); exact rfl; exact rfl; exact rfl)) | ((with_reducible apply tl_id); first | ((with_reducible apply tl_nil)) | ((with_reducible apply u_q); exact rfl; exact rfl; exact rfl; exact rfl) | ((with_reducible apply u_s0); exact rfl; exact rfl) | ((with_reducible apply u_s); exact rfl; exact rfl; exact rfl) | ((with_reducible apply u_skip); exact rfl; exact rfl; exact rfl)) | ((with_reducible apply os_id); first | ((with_reducible apply os_x); exact rfl) | ((with_reducible apply os_storeAgg); exact rfl; exact rfl; exact rfl; exact rfl; exact rfl)) | ((with_reducible apply ox_id); first | ((with_reducible apply ox_alloc); exact rfl; intro _) | ((with_reducible apply ox_boxAgg); exact rfl; intro _) | ((with_reducible apply ox_buildSlice1); exact rfl; exact rfl; exact rfl; exact rfl; exact rfl; exact rfl; intro _)) | ((with_reducible apply rd_id); first | (apply Rd.own; (repeat (first | exact P0 | apply P1)); exact rfl; done)) | ((with_reducible apply t_id); first | ((with_reducible apply t_seq)) | (apply t_region; kernel_rfl) | ((with_reducible apply t_condT); exact rfl) | ((with_reducible apply t_condF); exact rfl) | ((with_reducible apply t_ret)) | ((with_reducible apply t_skip))) | with_reducible apply q_thenN | with_reducible apply q_thenR | exact P0 | ((with_reducible apply P1)) | exact Rdn.zero | apply Rdn.succ | ((with_reducible apply Norm.nil); exact rfl) | ((with_reducible apply Norm.cons); exact rfl) | ((with_reducible apply end_ret)) | exact rvs_nil | ((with_reducible apply rvs_cons)) | ((with_reducible apply rv_tmp); exact rfl) | ((with_reducible apply rv_cellAgg); exact rfl; exact rfl) | exact Nat.le_of_ble_eq_true rfl)
      all_goals rfl
    | true =>
      have hd : -10000 ≤ dx ∧ dx ≤ 10000 ∧ -10000 ≤ dy ∧ dy ≤ 10000 := by unfold allFrom at hq; simp at hq; omega
      by_cases hz : dx = 0 ∧ dy = 0
      · have hW : alongV a b c d dx dy = (0, 0, 2) := by unfold alongV; rw [he, if_pos rfl, if_neg (by unfold wayOk; rw [hq]; simp [hz.1, hz.2])]
        rw [hW]
        refine enterQ (c := cx w 78) Try.func46 rfl rfl rfl rfl ?_
        repeat' (first | ((with_reducible apply oq_id); first | (apply oq_fn; exact rfl; first | exact trivial | (refine ⟨?_, ?_⟩ <;> omega) | (refine ⟨?_, ?_, ?_⟩ <;> omega) | omega | skip) | ((with_reducible apply oq_loadAgg); exact rfl; exact rfl) | ((with_reducible apply oq_call (k := 110) (hc := Try.call110)); exact rfl; exact rfl; exact fun D w1 hw1 => H1 w1) | ((with_reducible apply oq_call (k := 71) (hc := Try.call71)); exact rfl; exact rfl; exact fun D w1 hw1 => fromS2 hq hw1 (by (repeat (first | exact P0 | apply P1)))) | ((with_reducible apply oq_build); exact rfl; exact rfl; exact rfl)) | ((with_reducible apply tl_id); first | ((with_reducible apply tl_nil)) | ((with_reducible apply u_q); exact rfl; exact rfl; exact rfl; exact rfl) | ((with_reducible apply u_s0); exact rfl; exact rfl) | ((with_reducible apply u_s); exact rfl; exact rfl; exact rfl) | ((with_reducible apply u_splitD); exact rfl; exact rfl; all_goals first | (intro hp; try (exfalso; omega)) | skip)) | ((with_reducible apply os_id); first | ((with_reducible apply os_x); exact rfl) | ((with_reducible apply os_storeAgg); exact rfl; exact rfl; exact rfl; exact rfl; exact rfl)) | ((with_reducible apply ox_id); first | ((with_reducible apply ox_alloc); exact rfl; intro _) | ((with_reducible apply ox_boxAgg); exact rfl; intro _) | ((with_reducible apply ox_buildSlice1); exact rfl; exact rfl; exact rfl; exact rfl; exact rfl; exact rfl; intro _)) | ((with_reducible apply rd_id); first | (apply Rd.own; (repeat (first | exact P0 | apply P1)); exact rfl; done)) | ((with_reducible apply t_id); first | ((with_reducible apply t_seq)) | (apply t_region; kernel_rfl) | ((with_reducible apply t_condF); exact rfl) | ((with_reducible apply t_condD); exact rfl; all_goals first | (intro hp; try (exfalso; omega)) | skip) | ((with_reducible apply t_ret)) | ((with_reducible apply t_skip))) | with_reducible apply q_thenN | with_reducible apply q_thenR | exact P0 | ((with_reducible apply P1)) | exact Rdn.zero | apply Rdn.succ | ((with_reducible apply Norm.nil); exact rfl) | ((with_reducible apply Norm.cons); exact rfl) | ((with_reducible apply end_ret)) | exact rvs_nil | ((with_reducible apply rvs_cons)) | ((with_reducible apply rv_tmp); exact rfl) | ((with_reducible apply rv_cellAgg); exact rfl; exact rfl) | exact Nat.le_of_ble_eq_true rfl)
        all_goals rfl
      · have hW : alongV a b c d dx dy = (shV (alongLo a b c d dx dy) (dx * dx + dy * dy), -shV (-alongHi a b c d dx dy) (dx * dx + dy * dy), 0) := by unfold alongV; rw [he, if_pos rfl, if_pos (by unfold wayOk; rw [hq]; simp; omega)]
        rw [hW]
        have q1 := mul_abs (x := dx) (y := dx) (a := 10000) (b := 10000) (by omega) (by omega)
        have q2 := mul_abs (x := dy) (y := dy) (a := 10000) (b := 10000) (by omega) (by omega)
        have q0 : 1 ≤ dx * dx + dy * dy := by
          have p1 := sq_mono (j := 0) (k := max dx (-dx)) (by omega) (by omega)
          have p2 := sq_mono (j := 0) (k := max dy (-dy)) (by omega) (by omega)
          rcases (by omega : dx ≠ 0 ∨ dy ≠ 0) with h | h
          · have p3 := sq_mono (j := 1) (k := max dx (-dx)) (by omega) (by omega)
            have e1 : max dx (-dx) * max dx (-dx) = dx * dx := by rcases Int.le_total dx (-dx) with h | h; (rw [Int.max_eq_right h, Int.neg_mul_neg]); (rw [Int.max_eq_left h])
            have e2 : max dy (-dy) * max dy (-dy) = dy * dy := by rcases Int.le_total dy (-dy) with h | h; (rw [Int.max_eq_right h, Int.neg_mul_neg]); (rw [Int.max_eq_left h])
            omega
          · have p3 := sq_mono (j := 1) (k := max dy (-dy)) (by omega) (by omega)
            have e1 : max dx (-dx) * max dx (-dx) = dx * dx := by rcases Int.le_total dx (-dx) with h | h; (rw [Int.max_eq_right h, Int.neg_mul_neg]); (rw [Int.max_eq_left h])
            have e2 : max dy (-dy) * max dy (-dy) = dy * dy := by rcases Int.le_total dy (-dy) with h | h; (rw [Int.max_eq_right h, Int.neg_mul_neg]); (rw [Int.max_eq_left h])
            omega
        have hA := alongLo_sq (dx := dx) (dy := dy) hb
        have hB := alongHi_sq (dx := dx) (dy := dy) hb
        have r1 := mul_abs (x := a) (y := dx) (a := 2000) (b := 10000) (by omega) (by omega)
        have r2 := mul_abs (x := b) (y := dx) (a := 2000) (b := 10000) (by omega) (by omega)
        have r3 := mul_abs (x := c) (y := dy) (a := 2000) (b := 10000) (by omega) (by omega)
        have r4 := mul_abs (x := d) (y := dy) (a := 2000) (b := 10000) (by omega) (by omega)
        have HL := fun w1 => share_calls (alongLo a b c d dx dy) (dx * dx + dy * dy) q0 (by omega) hA w1
        have HR := fun w1 => share_calls (-alongHi a b c d dx dy) (dx * dx + dy * dy) q0 (by omega) hB w1
        have hsr : ∀ n : Int, n * n ≤ 8000000 * (dx * dx + dy * dy) → InR (-shV n (dx * dx + dy * dy)) := fun n hn => shV_in q0 hn
        have hR := hsr _ hB
        obtain ⟨s1, e1⟩ : ∃ s, s = shV (alongLo a b c d dx dy) (dx * dx + dy * dy) := ⟨_, rfl⟩
        obtain ⟨s2, e2⟩ : ∃ s, s = shV (-alongHi a b c d dx dy) (dx * dx + dy * dy) := ⟨_, rfl⟩
        rw [← e1] at HL
        rw [← e2] at HR hR
        rw [← e1, ← e2]
        clear hA hB hsr hW e1 e2
        unfold alongLo at HL
        unfold alongHi at HR
        have k1 : InR (dx * dx) := ⟨by omega, by omega⟩
        have k2 : InR (dy * dy) := ⟨by omega, by omega⟩
        have k3 : InR (dx * dx + dy * dy) := ⟨by omega, by omega⟩
        have MX := fun w1 => mul_calls a b dx dx (by omega) (by omega) w1
        have MY := fun w1 => mul_calls c d dy dy (by omega) (by omega) w1
        have f1 : min (min (a * dx) (b * dx)) (min (a * dx) (b * dx)) = min (a * dx) (b * dx) := by omega
        have f2 : max (max (a * dx) (b * dx)) (max (a * dx) (b * dx)) = max (a * dx) (b * dx) := by omega
        have f3 : min (min (c * dy) (d * dy)) (min (c * dy) (d * dy)) = min (c * dy) (d * dy) := by omega
        have f4 : max (max (c * dy) (d * dy)) (max (c * dy) (d * dy)) = max (c * dy) (d * dy) := by omega
        rw [f1, f2] at MX
        rw [f3, f4] at MY
        clear f1 f2 f3 f4
        refine enterQ (c := cx w 78) Try.func46 rfl rfl rfl rfl ?_
        repeat' (first | ((with_reducible apply oq_id); first | (apply oq_fn; exact rfl; first | exact trivial | (refine ⟨?_, ?_⟩ <;> omega) | (refine ⟨?_, ?_, ?_⟩ <;> omega) | omega | skip) | ((with_reducible apply oq_load); exact rfl; exact rfl) | ((with_reducible apply oq_loadAgg); exact rfl; exact rfl) | ((with_reducible apply oq_call (k := 110) (hc := Try.call110)); exact rfl; exact rfl; exact fun D w1 hw1 => H1 w1) | ((with_reducible apply oq_call (k := 71) (hc := Try.call71)); exact rfl; exact rfl; exact fun D w1 hw1 => fromS2 hq hw1 (by (repeat (first | exact P0 | apply P1)))) | ((with_reducible apply oq_call (k := 115) (hc := Try.call115)); exact rfl; exact rfl; exact fun D w1 hw1 => MX w1) | ((with_reducible apply oq_call (k := 115) (hc := Try.call115)); exact rfl; exact rfl; exact fun D w1 hw1 => MY w1) | ((with_reducible apply oq_call (k := 116) (hc := Try.call116)); exact rfl; exact rfl; exact fun D w1 hw1 => add_calls _ _ _ _ (by omega) (by omega) w1) | ((with_reducible apply oq_call (k := 117) (hc := Try.call117)); exact rfl; exact rfl; exact fun D w1 hw1 => HL w1) | ((with_reducible apply oq_call (k := 117) (hc := Try.call117)); exact rfl; exact rfl; exact fun D w1 hw1 => HR w1) | ((with_reducible apply oq_build); exact rfl; exact rfl; exact rfl)) | ((with_reducible apply tl_id); first | ((with_reducible apply tl_nil)) | ((with_reducible apply u_q); exact rfl; exact rfl; exact rfl; exact rfl) | ((with_reducible apply u_s0); exact rfl; exact rfl) | ((with_reducible apply u_s); exact rfl; exact rfl; exact rfl) | ((with_reducible apply u_skip); exact rfl; exact rfl; exact rfl) | ((with_reducible apply u_splitD); exact rfl; exact rfl; all_goals first | (intro hp; try (exfalso; omega)) | skip)) | ((with_reducible apply gx_id); first | ((with_reducible apply v_nil)) | ((with_reducible apply v_q); exact rfl; exact rfl; exact rfl)) | ((with_reducible apply os_id); first | ((with_reducible apply os_x); exact rfl) | ((with_reducible apply os_storeAgg); exact rfl; exact rfl; exact rfl; exact rfl; exact rfl)) | ((with_reducible apply ox_id); first | ((with_reducible apply ox_alloc); exact rfl; intro _) | ((with_reducible apply ox_boxAgg); exact rfl; intro _) | ((with_reducible apply ox_buildSlice1); exact rfl; exact rfl; exact rfl; exact rfl; exact rfl; exact rfl; intro _)) | ((with_reducible apply ai_id); first | ((with_reducible apply ai_q); exact rfl; exact rfl; exact rfl; exact rfl; exact rfl) | ((with_reducible apply ai_s0); exact rfl; exact rfl; exact rfl; exact rfl)) | ((with_reducible apply rd_id); first | (apply Rd.own; (repeat (first | exact P0 | apply P1)); exact rfl; done)) | ((with_reducible apply t_id); first | ((with_reducible apply t_seq)) | (apply t_region; kernel_rfl) | ((with_reducible apply t_condF); exact rfl) | ((with_reducible apply t_condD); exact rfl; all_goals first | (intro hp; try (exfalso; omega)) | skip) | ((with_reducible apply t_ret)) | ((with_reducible apply t_skip))) | with_reducible apply q_thenN | exact P0 | ((with_reducible apply P1)) | exact Rdn.zero | apply Rdn.succ | ((with_reducible apply Norm.nil); exact rfl) | ((with_reducible apply Norm.cons); exact rfl) | ((with_reducible apply end_ret)) | exact rvs_nil | ((with_reducible apply rvs_cons)) | ((with_reducible apply rv_tmp); exact rfl) | ((with_reducible apply rv_cellAgg); exact rfl; exact rfl) | (apply t_mix (id := 10) [0, 1, 2, 3, 4, 5, 6, 7, 8, 9, 10] 2 #[false, false, false, false, false, false, false, false, false, false, false, true, false]; kernel_rfl; kernel_rfl; exact rfl) | ((with_reducible apply al_id); first | (apply al_done; decide +kernel) | (apply al_one 11; decide +kernel) | (apply al_one 12; decide +kernel)) | exact Nat.le_of_ble_eq_true rfl)
        all_goals rfl
  · have hW : alongV a b c d dx dy = (0, 0, e) := by unfold alongV; rw [he, if_neg he0]
    rw [hW]
    refine enterQ (c := cx w 78) Try.func46 rfl rfl rfl rfl ?_
    repeat' (first | ((with_reducible apply oq_id); first | (apply oq_fn; exact rfl; first | exact trivial | (refine ⟨?_, ?_⟩ <;> omega) | (refine ⟨?_, ?_, ?_⟩ <;> omega) | omega | skip) | ((with_reducible apply oq_loadAgg); exact rfl; exact rfl) | ((with_reducible apply oq_call (k := 110) (hc := Try.call110)); exact rfl; exact rfl; exact fun D w1 hw1 => H1 w1) | ((with_reducible apply oq_build); exact rfl; exact rfl; exact rfl)) | ((with_reducible apply tl_id); first | ((with_reducible apply tl_nil)) | ((with_reducible apply u_q); exact rfl; exact rfl; exact rfl; exact rfl) | ((with_reducible apply u_s0); exact rfl; exact rfl) | ((with_reducible apply u_s); exact rfl; exact rfl; exact rfl)) | ((with_reducible apply os_id); first | ((with_reducible apply os_x); exact rfl) | ((with_reducible apply os_storeAgg); exact rfl; exact rfl; exact rfl; exact rfl; exact rfl)) | ((with_reducible apply ox_id); first | ((with_reducible apply ox_alloc); exact rfl; intro _) | ((with_reducible apply ox_boxAgg); exact rfl; intro _)) | ((with_reducible apply rd_id); first | (apply Rd.own; (repeat (first | exact P0 | apply P1)); exact rfl; done)) | ((with_reducible apply t_id); first | ((with_reducible apply t_seq)) | (apply t_region; kernel_rfl) | ((with_reducible apply t_condN); exact rfl; all_goals first | (intro hp; try (exfalso; omega)) | skip) | ((with_reducible apply t_ret))) | with_reducible apply q_thenN | with_reducible apply q_thenR | exact P0 | exact Rdn.zero | apply Rdn.succ | ((with_reducible apply Norm.nil); exact rfl) | ((with_reducible apply Norm.cons); exact rfl) | ((with_reducible apply end_ret)) | exact rvs_nil | ((with_reducible apply rvs_cons)) | ((with_reducible apply rv_tmp); exact rfl) | ((with_reducible apply rv_cellAgg); exact rfl; exact rfl) | exact Nat.le_of_ble_eq_true rfl)
    all_goals rfl


theorem refAlong_calls (a b c d dx dy : Int) (w : World) : Calls Try.prog 47 #[.agg #[.int .i64 a, .int .i64 b, .int .i64 c, .int .i64 d], .int .i64 dx, .int .i64 dy] w fun e w' => e = .returned (.tuple #[.agg #[.int .i64 (alongV a b c d dx dy).1, .int .i64 (alongV a b c d dx dy).2.1], .int .i64 (alongV a b c d dx dy).2.2]) ∧ Ext w w' := by
  have H1 := fun w1 => blows_calls a b c d w1
  obtain ⟨e, he⟩ : ∃ e, windE a b c d = e := ⟨_, rfl⟩
  obtain ⟨q, hq⟩ : ∃ q, allFrom (-10000) 10000 [dx, dy] = q := ⟨_, rfl⟩
  rw [he] at H1
  by_cases he0 : e = 0
  · subst he0
    have hb := windE_zero he
    cases q with
    | false =>
      have hW : alongV a b c d dx dy = (0, 0, 2) := by unfold alongV; rw [he, if_pos rfl, if_neg (by unfold wayOk; rw [hq]; simp)]
      rw [hW]
      have hd : ¬ (-10000 ≤ dx ∧ dx ≤ 10000 ∧ -10000 ≤ dy ∧ dy ≤ 10000) := by unfold allFrom at hq; simp at hq; omega
      refine enterQ (c := cx w 97) Try.func47 rfl rfl rfl rfl ?_
      repeat' (first | ((with_reducible apply oq_id); first | (apply oq_fn; exact rfl; first | exact trivial | (refine ⟨?_, ?_⟩ <;> omega) | (refine ⟨?_, ?_, ?_⟩ <;> omega) | omega | skip) | ((with_reducible apply oq_loadAgg); exact rfl; exact rfl) | ((with_reducible apply oq_call (k := 112) (hc := Try.call112)); exact rfl; exact rfl; exact fun D w1 hw1 => H1 w1) | ((with_reducible apply oq_call (k := 73) (hc := Try.call73)); exact rfl; exact rfl; exact fun D w1 hw1 => (within_calls _ _ _ w1).mono fun e w' h => ⟨h.1, h.2 ▸ Ext.refl _⟩) | ((with_reducible apply oq_build); exact rfl; exact rfl; exact rfl)) | ((with_reducible apply tl_id); first | ((with_reducible apply tl_nil)) | ((with_reducible apply u_q); exact rfl; exact rfl; exact rfl; exact rfl) | ((with_reducible apply u_s0); exact rfl; exact rfl) | ((with_reducible apply u_s); exact rfl; exact rfl; exact rfl) | ((with_reducible apply u_skip); exact rfl; exact rfl; exact rfl) | ((with_reducible apply u_splitN); exact rfl; exact rfl; all_goals first | (intro hp; try (exfalso; omega)) | skip)) | ((with_reducible apply os_id); first | ((with_reducible apply os_x); exact rfl) | ((with_reducible apply os_storeAgg); exact rfl; exact rfl; exact rfl; exact rfl; exact rfl)) | ((with_reducible apply ox_id); first | ((with_reducible apply ox_alloc); exact rfl; intro _) | ((with_reducible apply ox_boxAgg); exact rfl; intro _)) | ((with_reducible apply rd_id); first | (apply Rd.own; (repeat (first | exact P0 | apply P1)); exact rfl; done)) | ((with_reducible apply t_id); first | ((with_reducible apply t_seq)) | (apply t_region; kernel_rfl) | ((with_reducible apply t_condT); exact rfl) | ((with_reducible apply t_condF); exact rfl) | ((with_reducible apply t_ret)) | ((with_reducible apply t_skip))) | with_reducible apply q_thenN | with_reducible apply q_thenR | exact P0 | exact Rdn.zero | apply Rdn.succ | ((with_reducible apply Norm.nil); exact rfl) | ((with_reducible apply Norm.cons); exact rfl) | ((with_reducible apply end_ret)) | exact rvs_nil | ((with_reducible apply rvs_cons)) | ((with_reducible apply rv_tmp); exact rfl) | ((with_reducible apply rv_cellAgg); exact rfl; exact rfl) | exact Nat.le_of_ble_eq_true rfl)
      all_goals rfl
    | true =>
      have hd : -10000 ≤ dx ∧ dx ≤ 10000 ∧ -10000 ≤ dy ∧ dy ≤ 10000 := by unfold allFrom at hq; simp at hq; omega
      by_cases hz : dx = 0 ∧ dy = 0
      · have hW : alongV a b c d dx dy = (0, 0, 2) := by unfold alongV; rw [he, if_pos rfl, if_neg (by unfold wayOk; rw [hq]; simp [hz.1, hz.2])]
        rw [hW]
        refine enterQ (c := cx w 97) Try.func47 rfl rfl rfl rfl ?_
        repeat' (first | ((with_reducible apply oq_id); first | (apply oq_fn; exact rfl; first | exact trivial | (refine ⟨?_, ?_⟩ <;> omega) | (refine ⟨?_, ?_, ?_⟩ <;> omega) | omega | skip) | ((with_reducible apply oq_loadAgg); exact rfl; exact rfl) | ((with_reducible apply oq_call (k := 112) (hc := Try.call112)); exact rfl; exact rfl; exact fun D w1 hw1 => H1 w1) | ((with_reducible apply oq_call (k := 73) (hc := Try.call73)); exact rfl; exact rfl; exact fun D w1 hw1 => (within_calls _ _ _ w1).mono fun e w' h => ⟨h.1, h.2 ▸ Ext.refl _⟩) | ((with_reducible apply oq_build); exact rfl; exact rfl; exact rfl)) | ((with_reducible apply tl_id); first | ((with_reducible apply tl_nil)) | ((with_reducible apply u_q); exact rfl; exact rfl; exact rfl; exact rfl) | ((with_reducible apply u_s0); exact rfl; exact rfl) | ((with_reducible apply u_s); exact rfl; exact rfl; exact rfl) | ((with_reducible apply u_splitD); exact rfl; exact rfl; all_goals first | (intro hp; try (exfalso; omega)) | skip) | ((with_reducible apply u_splitN); exact rfl; exact rfl; all_goals first | (intro hp; try (exfalso; omega)) | skip)) | ((with_reducible apply os_id); first | ((with_reducible apply os_x); exact rfl) | ((with_reducible apply os_storeAgg); exact rfl; exact rfl; exact rfl; exact rfl; exact rfl)) | ((with_reducible apply ox_id); first | ((with_reducible apply ox_alloc); exact rfl; intro _) | ((with_reducible apply ox_boxAgg); exact rfl; intro _)) | ((with_reducible apply rd_id); first | (apply Rd.own; (repeat (first | exact P0 | apply P1)); exact rfl; done)) | ((with_reducible apply t_id); first | ((with_reducible apply t_seq)) | (apply t_region; kernel_rfl) | ((with_reducible apply t_condF); exact rfl) | ((with_reducible apply t_condD); exact rfl; all_goals first | (intro hp; try (exfalso; omega)) | skip) | ((with_reducible apply t_ret)) | ((with_reducible apply t_skip))) | with_reducible apply q_thenN | with_reducible apply q_thenR | exact P0 | exact Rdn.zero | apply Rdn.succ | ((with_reducible apply Norm.nil); exact rfl) | ((with_reducible apply Norm.cons); exact rfl) | ((with_reducible apply end_ret)) | exact rvs_nil | ((with_reducible apply rvs_cons)) | ((with_reducible apply rv_tmp); exact rfl) | ((with_reducible apply rv_cellAgg); exact rfl; exact rfl) | exact Nat.le_of_ble_eq_true rfl)
        all_goals rfl
      · have hW : alongV a b c d dx dy = (shV (alongLo a b c d dx dy) (dx * dx + dy * dy), -shV (-alongHi a b c d dx dy) (dx * dx + dy * dy), 0) := by unfold alongV; rw [he, if_pos rfl, if_pos (by unfold wayOk; rw [hq]; simp; omega)]
        rw [hW]
        have q1 := mul_abs (x := dx) (y := dx) (a := 10000) (b := 10000) (by omega) (by omega)
        have q2 := mul_abs (x := dy) (y := dy) (a := 10000) (b := 10000) (by omega) (by omega)
        have q0 : 1 ≤ dx * dx + dy * dy := by
          have p1 := sq_mono (j := 0) (k := max dx (-dx)) (by omega) (by omega)
          have p2 := sq_mono (j := 0) (k := max dy (-dy)) (by omega) (by omega)
          rcases (by omega : dx ≠ 0 ∨ dy ≠ 0) with h | h
          · have p3 := sq_mono (j := 1) (k := max dx (-dx)) (by omega) (by omega)
            have e1 : max dx (-dx) * max dx (-dx) = dx * dx := by rcases Int.le_total dx (-dx) with h | h; (rw [Int.max_eq_right h, Int.neg_mul_neg]); (rw [Int.max_eq_left h])
            have e2 : max dy (-dy) * max dy (-dy) = dy * dy := by rcases Int.le_total dy (-dy) with h | h; (rw [Int.max_eq_right h, Int.neg_mul_neg]); (rw [Int.max_eq_left h])
            omega
          · have p3 := sq_mono (j := 1) (k := max dy (-dy)) (by omega) (by omega)
            have e1 : max dx (-dx) * max dx (-dx) = dx * dx := by rcases Int.le_total dx (-dx) with h | h; (rw [Int.max_eq_right h, Int.neg_mul_neg]); (rw [Int.max_eq_left h])
            have e2 : max dy (-dy) * max dy (-dy) = dy * dy := by rcases Int.le_total dy (-dy) with h | h; (rw [Int.max_eq_right h, Int.neg_mul_neg]); (rw [Int.max_eq_left h])
            omega
        have hA := alongLo_sq (dx := dx) (dy := dy) hb
        have hB := alongHi_sq (dx := dx) (dy := dy) hb
        have r1 := mul_abs (x := a) (y := dx) (a := 2000) (b := 10000) (by omega) (by omega)
        have r2 := mul_abs (x := b) (y := dx) (a := 2000) (b := 10000) (by omega) (by omega)
        have r3 := mul_abs (x := c) (y := dy) (a := 2000) (b := 10000) (by omega) (by omega)
        have r4 := mul_abs (x := d) (y := dy) (a := 2000) (b := 10000) (by omega) (by omega)
        have HL := fun w1 => part_calls (alongLo a b c d dx dy) (dx * dx + dy * dy) q0 (by omega) hA w1
        have HR := fun w1 => part_calls (-alongHi a b c d dx dy) (dx * dx + dy * dy) q0 (by omega) hB w1
        have hsr : ∀ n : Int, n * n ≤ 8000000 * (dx * dx + dy * dy) → InR (-shV n (dx * dx + dy * dy)) := fun n hn => shV_in q0 hn
        have hR := hsr _ hB
        obtain ⟨s1, e1⟩ : ∃ s, s = shV (alongLo a b c d dx dy) (dx * dx + dy * dy) := ⟨_, rfl⟩
        obtain ⟨s2, e2⟩ : ∃ s, s = shV (-alongHi a b c d dx dy) (dx * dx + dy * dy) := ⟨_, rfl⟩
        rw [← e1] at HL
        rw [← e2] at HR hR
        rw [← e1, ← e2]
        clear hA hB hsr hW e1 e2
        unfold alongLo at HL
        unfold alongHi at HR
        have k1 : InR (dx * dx) := ⟨by omega, by omega⟩
        have k2 : InR (dy * dy) := ⟨by omega, by omega⟩
        have k3 : InR (dx * dx + dy * dy) := ⟨by omega, by omega⟩
        have ix0 : InR (a * dx) := ⟨by omega, by omega⟩
        have ix1 : InR (b * dx) := ⟨by omega, by omega⟩
        have ix2 : InR (c * dy) := ⟨by omega, by omega⟩
        have ix3 : InR (d * dy) := ⟨by omega, by omega⟩
        refine enterQ (c := cx w 97) Try.func47 rfl rfl rfl rfl ?_
        repeat' (first | ((with_reducible apply oq_id); first | (apply oq_fn; exact rfl; first | exact trivial | (refine ⟨?_, ?_⟩ <;> omega) | (refine ⟨?_, ?_, ?_⟩ <;> omega) | omega | skip) | ((with_reducible apply oq_load); exact rfl; exact rfl) | ((with_reducible apply oq_loadAgg); exact rfl; exact rfl) | ((with_reducible apply oq_call (k := 112) (hc := Try.call112)); exact rfl; exact rfl; exact fun D w1 hw1 => H1 w1) | ((with_reducible apply oq_call (k := 73) (hc := Try.call73)); exact rfl; exact rfl; exact fun D w1 hw1 => (within_calls _ _ _ w1).mono fun e w' h => ⟨h.1, h.2 ▸ Ext.refl _⟩) | ((with_reducible apply oq_call (k := 118) (hc := Try.call118)); exact rfl; exact rfl; exact fun D w1 hw1 => HL w1) | ((with_reducible apply oq_call (k := 118) (hc := Try.call118)); exact rfl; exact rfl; exact fun D w1 hw1 => HR w1) | ((with_reducible apply oq_build); exact rfl; exact rfl; exact rfl)) | ((with_reducible apply tl_id); first | ((with_reducible apply tl_nil)) | ((with_reducible apply u_q); exact rfl; exact rfl; exact rfl; exact rfl) | ((with_reducible apply u_s0); exact rfl; exact rfl) | ((with_reducible apply u_s); exact rfl; exact rfl; exact rfl) | ((with_reducible apply u_skip); exact rfl; exact rfl; exact rfl) | ((with_reducible apply u_splitD); exact rfl; exact rfl; all_goals first | (intro hp; try (exfalso; omega)) | skip) | ((with_reducible apply u_splitN); exact rfl; exact rfl; all_goals first | (intro hp; try (exfalso; omega)) | skip)) | ((with_reducible apply os_id); first | ((with_reducible apply os_x); exact rfl) | ((with_reducible apply os_storeAgg); exact rfl; exact rfl; exact rfl; exact rfl; exact rfl)) | ((with_reducible apply ox_id); first | ((with_reducible apply ox_alloc); exact rfl; intro _) | ((with_reducible apply ox_boxAgg); exact rfl; intro _)) | ((with_reducible apply rd_id); first | (apply Rd.own; (repeat (first | exact P0 | apply P1)); exact rfl; done)) | ((with_reducible apply t_id); first | ((with_reducible apply t_seq)) | (apply t_region; kernel_rfl) | ((with_reducible apply t_condF); exact rfl) | ((with_reducible apply t_condD); exact rfl; all_goals first | (intro hp; try (exfalso; omega)) | skip) | ((with_reducible apply t_ret)) | ((with_reducible apply t_skip))) | with_reducible apply q_thenN | exact P0 | exact Rdn.zero | apply Rdn.succ | ((with_reducible apply Norm.nil); exact rfl) | ((with_reducible apply Norm.cons); exact rfl) | ((with_reducible apply end_ret)) | exact rvs_nil | ((with_reducible apply rvs_cons)) | ((with_reducible apply rv_tmp); exact rfl) | ((with_reducible apply rv_cellAgg); exact rfl; exact rfl) | exact Nat.le_of_ble_eq_true rfl)
        all_goals rfl
  · have hW : alongV a b c d dx dy = (0, 0, e) := by unfold alongV; rw [he, if_neg he0]
    rw [hW]
    refine enterQ (c := cx w 97) Try.func47 rfl rfl rfl rfl ?_
    repeat' (first | ((with_reducible apply oq_id); first | (apply oq_fn; exact rfl; first | exact trivial | (refine ⟨?_, ?_⟩ <;> omega) | (refine ⟨?_, ?_, ?_⟩ <;> omega) | omega | skip) | ((with_reducible apply oq_loadAgg); exact rfl; exact rfl) | ((with_reducible apply oq_call (k := 112) (hc := Try.call112)); exact rfl; exact rfl; exact fun D w1 hw1 => H1 w1) | ((with_reducible apply oq_build); exact rfl; exact rfl; exact rfl)) | ((with_reducible apply tl_id); first | ((with_reducible apply tl_nil)) | ((with_reducible apply u_q); exact rfl; exact rfl; exact rfl; exact rfl) | ((with_reducible apply u_s0); exact rfl; exact rfl) | ((with_reducible apply u_s); exact rfl; exact rfl; exact rfl)) | ((with_reducible apply os_id); first | ((with_reducible apply os_x); exact rfl) | ((with_reducible apply os_storeAgg); exact rfl; exact rfl; exact rfl; exact rfl; exact rfl)) | ((with_reducible apply ox_id); first | ((with_reducible apply ox_alloc); exact rfl; intro _) | ((with_reducible apply ox_boxAgg); exact rfl; intro _)) | ((with_reducible apply rd_id); first | (apply Rd.own; (repeat (first | exact P0 | apply P1)); exact rfl; done)) | ((with_reducible apply t_id); first | ((with_reducible apply t_seq)) | (apply t_region; kernel_rfl) | ((with_reducible apply t_condN); exact rfl; all_goals first | (intro hp; try (exfalso; omega)) | skip) | ((with_reducible apply t_ret))) | with_reducible apply q_thenN | with_reducible apply q_thenR | exact P0 | exact Rdn.zero | apply Rdn.succ | ((with_reducible apply Norm.nil); exact rfl) | ((with_reducible apply Norm.cons); exact rfl) | ((with_reducible apply end_ret)) | exact rvs_nil | ((with_reducible apply rvs_cons)) | ((with_reducible apply rv_tmp); exact rfl) | ((with_reducible apply rv_cellAgg); exact rfl; exact rfl) | exact Nat.le_of_ble_eq_true rfl)
    all_goals rfl

end Go.Proofs.Ytalidommelefaaa
