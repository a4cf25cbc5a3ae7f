/- A part of the proof: rules for walks, and contracts of functions (3). -/
import Derived.Test.YtmlmgipngbndgaaX8B
set_option linter.unusedVariables false
set_option linter.unusedSimpArgs false
set_option maxRecDepth 100000
set_option maxHeartbeats 2000000
namespace Go.Proofs.Ytmlmgipngbndgaa
open Go.RowKit
attribute [local irreducible] OQ OS OX Rd T TL GX GL AL AI RV wpG SAny Calls
theorem oq_shrE {c : Cx} {F : Fr} {H : Hp} {d : Option Tmp} {ty t t' : TypeId} {pos : String} {af : Array Edge} {g : Option (Nat × Bool)} {x y : Operand} {m : Int} {k' : IntKind} {a r : Nat} (hx : ev F x = some (.int .u64 m)) (hy : ev F y = some (.int k' 1)) (e : m = (a : Int)) (e2 : a / 2 = r) : OQ c ⟨d, .binOp .shr t x y t', ty, pos, af, g⟩ F H (.int .u64 (r : Nat)) :=
  e2 ▸ oq_shr1N hx hy e
theorem sym1_W (g cp n a m b : Nat) (x : Sh) (P V Q : List Sh) (w : World) (hB : Blk w g (shB (P ++ ([x] ++ (V ++ Q)))) (some (101, 3, cp))) (hV : Srt ltS V) (ha : P.length = a) (hm : a + 1 = m) (hb : m + V.length = b) (hn : (P ++ ([x] ++ (V ++ Q))).length = n) (hn1 : n ≤ 1000000) :
    Calls Try.prog 139 #[.slice (some ⟨g, 0, none⟩) n cp, .int .i64 (a : Nat), .int .i64 (m : Nat), .int .i64 (b : Nat), .func (.func 111) #[] #[]] w fun e w' => e = .returned (.tuple #[]) ∧ ExtM [g] w w' ∧ Blk w' g (shB (P ++ (mrg ltS [x] V ++ Q))) (some (101, 3, cp)) := by
  simp only [List.length_append, List.length_cons, List.length_nil] at hn
  have hda : (P ++ ([x] ++ (V ++ Q)))[a]? = some x := by rw [← ha]; simp
  refine enterW (c := cxM [g] w 220) Try.func139 rfl rfl rfl rfl hB ?_
  repeat' (first | ((with_reducible apply oq_id); first | ((with_reducible apply oq_subE (k := ((m - a : Nat) : Int))); exact rfl; exact rfl; omega) | ((with_reducible apply oq_eqlT); exact rfl; exact rfl; omega) | (apply oq_fn; exact rfl; try first | exact trivial | (and_intros <;> omega))) | ((with_reducible apply tl_id); first | (with_reducible apply tl_nil) | ((with_reducible apply u_q); (iterate 4 exact rfl))) | ((with_reducible apply t_id); first | (with_reducible apply t_seq) | (apply t_region; kernel_rfl) | ((with_reducible apply t_condT); exact rfl) | (with_reducible apply t_block)) | with_reducible apply q_thenN)
  apply t_loopK (ι := Nat × Nat) [0, 1, 2, 3, 4] (fun z => [(10, .int .i64 ((m + z.1 : Nat) : Int)), (11, .int .i64 ((m + z.2 : Nat) : Int))]) (fun _ => [(g, shB (P ++ ([x] ++ (V ++ Q))), some (101, 3, cp))]) (fun z => z.1 ≤ z.2 ∧ z.2 ≤ V.length ∧ (z.1 = 0 ∨ ∃ y, V[z.1 - 1]? = some y ∧ ltS y x = true) ∧ (z.2 = V.length ∨ ∃ y, V[z.2]? = some y ∧ ltS y x = false)) (fun z => z.2 - z.1) ((0, V.length))
  (repeat (first | exact KeepF.nil | (apply KeepF.cons; exact rfl) | apply KeepF.skip))
  (repeat (first | exact FrSub.nil | (apply FrSub.cons; exact rfl) | (apply FrSub.consE; exact rfl; (congr 2; first | omega | (simp only; omega)))))
  (repeat (first | exact HpSub.refl _ | (apply HpSub.consE; (repeat (first | exact P0 | apply P1)); exact rfl) | exact HpSub.nil))
  · exact ⟨Nat.zero_le _, Nat.le_refl _, .inl rfl, .inl rfl⟩
  rintro ⟨i, j⟩ ⟨h1, h2, h3, h4⟩
  simp only at h1 h2 h3 h4
  try dsimp only
  by_cases hij : i < j
  · obtain ⟨q, hq⟩ : ∃ q, q = (i + j) / 2 := ⟨_, rfl⟩
    obtain ⟨y, hy⟩ : ∃ y, V[q]? = some y := ⟨_, List.getElem?_eq_getElem (by omega)⟩
    have hdy : (P ++ ([x] ++ (V ++ Q)))[m + q]? = some y := get_seg2 (by simp only [List.length_cons, List.length_nil]; omega) hy
    obtain ⟨D, hD⟩ : ∃ D, P ++ ([x] ++ (V ++ Q)) = D := ⟨_, rfl⟩
    rw [hD] at hda hdy ⊢
    obtain ⟨q0, q1, q2⟩ := sh_at hda
    obtain ⟨r0, r1, r2⟩ := sh_at hdy
    have HC := fun w1 => byPerson_calls y.who y.fr y.to x.who x.fr x.to w1
    obtain ⟨o, ho⟩ : ∃ o, byP y.who y.fr x.who x.fr = o := ⟨_, rfl⟩
    rw [ho] at HC
    cases hc : ltS y x with
    | true =>
      have HN : o < 0 := by rw [← ho]; exact byP_neg.2 hc
      repeat' (first | ((with_reducible apply oq_id); first | ((with_reducible apply oq_addE (k := ((m + i + (m + j) : Nat) : Int))); exact rfl; exact rfl; omega) | ((with_reducible apply oq_addE (k := ((m + (q + 1) : Nat) : Int))); exact rfl; exact rfl; omega) | (focus ((with_reducible apply (oq_shrE (a := m + i + (m + j)) (r := m + q))); exact rfl; exact rfl; omega; omega)) | (focus ((with_reducible apply oq_convU); (iterate 3 exact rfl); (refine ⟨?_, ?_⟩ <;> omega))) | (focus ((with_reducible apply oq_indexAddrN); (iterate 4 exact rfl); omega)) | ((with_reducible apply oq_lssT); exact rfl; exact rfl; omega) | (apply oq_fn; exact rfl; try first | exact trivial | (and_intros <;> omega)) | ((with_reducible apply oq_loadAgg); exact rfl; exact rfl) | ((with_reducible apply oq_call (k := 111) (hc := Try.call111)); exact rfl; exact rfl; exact fun D w1 hw1 => HC w1)) | ((with_reducible apply tl_id); first | (with_reducible apply tl_nil) | ((with_reducible apply u_q); (iterate 4 exact rfl))) | ((with_reducible apply gx_id); first | (with_reducible apply v_nil) | ((with_reducible apply v_q); (iterate 3 exact rfl))) | ((with_reducible apply rd_id); first | (apply Rd.own; (repeat (first | exact P0 | apply P1)); with_reducible (first | exact q0 | exact q1 | exact q2 | exact r0 | exact r1 | exact r2); done)) | ((with_reducible apply t_id); first | (with_reducible apply t_seq) | (apply t_region; kernel_rfl) | (apply t_drawn; kernel_rfl; decide +kernel; try simp only [List.append_eq, List.cons_append, List.nil_append]) | ((with_reducible apply t_condT); exact rfl) | (with_reducible apply t_skip) | (with_reducible apply t_block)) | with_reducible apply q_thenN | with_reducible apply q_blockN | exact Rdn.zero | apply Rdn.succ)
      all_goals (refine ⟨(q + 1, j), (by refine ⟨(by simp only; omega), h2, .inr ⟨y, (by simpa using hy), hc⟩, h4⟩), (by simp only; omega), ?_, ?_⟩ <;> (try simp only [List.cons_append, List.nil_append]) <;> (repeat' (first | exact FrSub.nil | (apply FrSub.cons; exact rfl) | exact HpSub.refl _)))
    | false =>
      have HN : ¬ o < 0 := by rw [← ho]; intro h; rw [byP_neg, hc] at h; cases h
      repeat' (first | ((with_reducible apply oq_id); first | ((with_reducible apply oq_addE (k := ((m + i + (m + j) : Nat) : Int))); exact rfl; exact rfl; omega) | (focus ((with_reducible apply (oq_shrE (a := m + i + (m + j)) (r := m + q))); exact rfl; exact rfl; omega; omega)) | (focus ((with_reducible apply oq_convU); (iterate 3 exact rfl); (refine ⟨?_, ?_⟩ <;> omega))) | (focus ((with_reducible apply oq_indexAddrN); (iterate 4 exact rfl); omega)) | ((with_reducible apply oq_lssT); exact rfl; exact rfl; omega) | ((with_reducible apply oq_lssF); exact rfl; exact rfl; omega) | (apply oq_fn; exact rfl; try first | exact trivial | (and_intros <;> omega)) | ((with_reducible apply oq_loadAgg); exact rfl; exact rfl) | ((with_reducible apply oq_call (k := 111) (hc := Try.call111)); exact rfl; exact rfl; exact fun D w1 hw1 => HC w1)) | ((with_reducible apply tl_id); first | (with_reducible apply tl_nil) | ((with_reducible apply u_q); (iterate 4 exact rfl))) | ((with_reducible apply gx_id); first | (with_reducible apply v_nil) | ((with_reducible apply v_q); (iterate 3 exact rfl))) | ((with_reducible apply rd_id); first | (apply Rd.own; (repeat (first | exact P0 | apply P1)); with_reducible (first | exact q0 | exact q1 | exact q2 | exact r0 | exact r1 | exact r2); done)) | ((with_reducible apply t_id); first | (with_reducible apply t_seq) | (apply t_region; kernel_rfl) | (apply t_drawn; kernel_rfl; decide +kernel; try simp only [List.append_eq, List.cons_append, List.nil_append]) | ((with_reducible apply t_condT); exact rfl) | ((with_reducible apply t_condF); exact rfl) | (with_reducible apply t_skip) | (with_reducible apply t_block)) | with_reducible apply q_thenN | with_reducible apply q_blockN | exact Rdn.zero | apply Rdn.succ)
      all_goals (refine ⟨(i, q), (by refine ⟨(by simp only; omega), (by simp only; omega), h3, .inr ⟨y, hy, hc⟩⟩), (by simp only; omega), ?_, ?_⟩ <;> (try simp only [List.cons_append, List.nil_append]) <;> (repeat' (first | exact FrSub.nil | (apply FrSub.cons; exact rfl) | exact HpSub.refl _)))
  · obtain rfl : i = j := by omega
    rw [mrg_one woS hV h3 h4, List.append_assoc, List.cons_append]
    repeat' (first | ((with_reducible apply oq_id); first | ((with_reducible apply oq_lssF); exact rfl; exact rfl; omega) | (apply oq_fn; exact rfl; try first | exact trivial | (and_intros <;> omega))) | ((with_reducible apply tl_id); first | (with_reducible apply tl_nil) | ((with_reducible apply u_q); (iterate 4 exact rfl))) | ((with_reducible apply t_id); first | (with_reducible apply t_seq) | (apply t_region; kernel_rfl) | ((with_reducible apply t_condF); exact rfl) | (with_reducible apply t_exit) | (with_reducible apply t_block)) | with_reducible apply q_thenN | with_reducible apply q_thenE | ((with_reducible apply q_blockE); exact rfl))
    apply t_loopK (ι := Nat) [0, 1, 2, 3, 4, 10] (fun k => [(13, .int .i64 ((a + k : Nat) : Int))]) (fun k => [(g, shB (P ++ (V.take k ++ x :: (V.drop k ++ Q))), some (101, 3, cp))]) (fun k => k ≤ i) (fun k => i - k) (0)
    (repeat (first | exact KeepF.nil | (apply KeepF.cons; exact rfl) | apply KeepF.skip))
    (repeat (first | exact FrSub.nil | (apply FrSub.cons; exact rfl) | (apply FrSub.consE; exact rfl; (congr 2; first | omega | (simp only; omega)))))
    (repeat (first | exact HpSub.refl _ | (apply HpSub.consE; (repeat (first | exact P0 | apply P1)); exact rfl) | exact HpSub.nil))
    · exact Nat.zero_le _
    rintro k hk
    try dsimp only
    by_cases hki : k < i
    · obtain ⟨y, hy⟩ : ∃ y, V[k]? = some y := ⟨_, List.getElem?_eq_getElem (by omega)⟩
      obtain ⟨hdx, hdy, hst⟩ := mov_step (P := P) (Q := Q) (x := x) hy
      rw [ha] at hdx hdy hst
      obtain ⟨D, hD⟩ : ∃ D, P ++ (V.take k ++ x :: (V.drop k ++ Q)) = D := ⟨_, rfl⟩
      rw [hD] at hdx hdy hst ⊢
      have hdy2 : (D.set (a + k) y)[a + k + 1]? = some y := by rw [List.getElem?_set_ne (by omega)]; exact hdy
      obtain ⟨q0, q1, q2⟩ := sh_at hdx
      obtain ⟨r0, r1, r2⟩ := sh_at hdy
      repeat' (first | ((with_reducible apply oq_id); first | ((with_reducible apply oq_subE (k := ((m + i - 1 : Nat) : Int))); exact rfl; exact rfl; omega) | ((with_reducible apply oq_addE (k := ((a + k + 1 : Nat) : Int))); exact rfl; exact rfl; omega) | (focus ((with_reducible apply oq_indexAddrN); (iterate 4 exact rfl); omega)) | ((with_reducible apply oq_lssT); exact rfl; exact rfl; omega) | (apply oq_fn; exact rfl; try first | exact trivial | (and_intros <;> omega)) | ((with_reducible apply oq_loadAgg); exact rfl; exact rfl)) | ((with_reducible apply tl_id); first | (with_reducible apply tl_nil) | ((with_reducible apply u_q); (iterate 4 exact rfl))) | ((with_reducible apply gx_id); first | (with_reducible apply v_nil) | ((with_reducible apply v_q); (iterate 3 exact rfl))) | ((with_reducible apply os_id); first | ((with_reducible apply (os_storeSh y hdx rfl)); (iterate 3 exact rfl); (repeat (first | exact P0 | apply P1))) | ((with_reducible apply (os_storeSh x hdy2 hst)); (iterate 3 exact rfl); (repeat (first | exact P0 | apply P1)))) | ((with_reducible apply ai_id); first | ((with_reducible apply ai_q); (iterate 5 exact rfl)) | ((with_reducible apply ai_n0); (iterate 3 exact rfl))) | ((with_reducible apply al_keep); focus (repeat (first | exact HpSub.refl _ | (apply HpSub.cons; (repeat (first | exact P0 | apply P1))) | apply HpSub.skipX | exact HpSub.nil))) | ((with_reducible apply rd_id); first | (apply Rd.own; (repeat (first | exact P0 | apply P1)); with_reducible (first | exact q0 | exact q1 | exact q2 | exact r0 | exact r1 | exact r2); done)) | ((with_reducible apply t_id); first | (apply t_mixZ (id := 11) [0, 1, 2, 3, 4, 5, 6, 7, 8, 10, 11, 12] 6; kernel_rfl; kernel_rfl; exact rfl) | (with_reducible apply t_seq) | (apply t_region; kernel_rfl) | ((with_reducible apply t_condT); exact rfl) | (with_reducible apply t_skip) | (with_reducible apply t_block)) | with_reducible apply q_thenN | with_reducible apply q_blockN | exact Rdn.zero | apply Rdn.succ | ((with_reducible apply al_id); first | (apply al_done; decide +kernel) | (apply al_one 9; decide +kernel) | (apply al_one 13; decide +kernel) | (apply al_one 14; decide +kernel) | (apply al_one 15; decide +kernel) | (apply al_one 16; decide +kernel) | (apply al_one 17; decide +kernel) | (apply al_two 9 13; decide +kernel)))
      all_goals (refine ⟨(k + 1), (by omega), (by omega), ?_, ?_⟩ <;> (try simp only [List.cons_append, List.nil_append]) <;> (repeat' (first | exact FrSub.nil | (apply FrSub.cons; exact rfl) | exact HpSub.refl _)))
    · obtain rfl : k = i := by omega
      repeat' (first | ((with_reducible apply oq_id); first | ((with_reducible apply oq_subE (k := ((m + k - 1 : Nat) : Int))); exact rfl; exact rfl; omega) | ((with_reducible apply oq_lssF); exact rfl; exact rfl; omega) | (apply oq_fn; exact rfl; try first | exact trivial | (and_intros <;> omega))) | ((with_reducible apply tl_id); first | (with_reducible apply tl_nil) | ((with_reducible apply u_q); (iterate 4 exact rfl))) | ((with_reducible apply t_id); first | (with_reducible apply t_seq) | (apply t_region; kernel_rfl) | ((with_reducible apply t_condF); exact rfl) | (with_reducible apply t_ret) | (with_reducible apply t_exit)) | with_reducible apply q_thenN | with_reducible apply q_thenR | with_reducible apply q_thenE | ((with_reducible apply q_blockE); exact rfl) | (with_reducible apply end_ret) | exact rvs_nil)
      all_goals exact ⟨rfl, by (repeat (first | exact HpSub.refl _ | (apply HpSub.consE; (repeat (first | exact P0 | apply P1)); exact rfl) | exact HpSub.nil))⟩
theorem sym2_W (g cp n a m b : Nat) (y : Sh) (P U Q : List Sh) (w : World) (hB : Blk w g (shB (P ++ (U ++ ([y] ++ Q)))) (some (101, 3, cp))) (hU : Srt ltS U) (hU1 : U.length ≠ 1) (ha : P.length = a) (hm : a + U.length = m) (hb : m + 1 = b) (hn : (P ++ (U ++ ([y] ++ Q))).length = n) (hn1 : n ≤ 1000000) :
    Calls Try.prog 139 #[.slice (some ⟨g, 0, none⟩) n cp, .int .i64 (a : Nat), .int .i64 (m : Nat), .int .i64 (b : Nat), .func (.func 111) #[] #[]] w fun e w' => e = .returned (.tuple #[]) ∧ ExtM [g] w w' ∧ Blk w' g (shB (P ++ (mrg ltS U [y] ++ Q))) (some (101, 3, cp)) := by
  simp only [List.length_append, List.length_cons, List.length_nil] at hn
  have hdm : (P ++ (U ++ ([y] ++ Q)))[m]? = some y := by
    have := get_seg2 (P := P) (U := U) (V := [y]) (R := Q) (m := m) (q := 0) (x := y) (by omega) rfl
    simpa using this
  refine enterW (c := cxM [g] w 220) Try.func139 rfl rfl rfl rfl hB ?_
  repeat' (first | ((with_reducible apply oq_id); first | ((with_reducible apply oq_subE (k := ((m - a : Nat) : Int))); exact rfl; exact rfl; omega) | ((with_reducible apply oq_subE (k := ((b - m : Nat) : Int))); exact rfl; exact rfl; omega) | ((with_reducible apply oq_eqlT); exact rfl; exact rfl; omega) | ((with_reducible apply oq_eqlF); exact rfl; exact rfl; omega) | (apply oq_fn; exact rfl; try first | exact trivial | (and_intros <;> omega))) | ((with_reducible apply tl_id); first | (with_reducible apply tl_nil) | ((with_reducible apply u_q); (iterate 4 exact rfl))) | ((with_reducible apply t_id); first | (with_reducible apply t_seq) | (apply t_region; kernel_rfl) | ((with_reducible apply t_condT); exact rfl) | ((with_reducible apply t_condF); exact rfl) | (with_reducible apply t_skip) | (with_reducible apply t_block)) | with_reducible apply q_thenN)
  apply t_loopK (ι := Nat × Nat) [0, 1, 2, 3, 4] (fun z => [(14, .int .i64 ((a + z.1 : Nat) : Int)), (15, .int .i64 ((a + z.2 : Nat) : Int))]) (fun _ => [(g, shB (P ++ (U ++ ([y] ++ Q))), some (101, 3, cp))]) (fun z => z.1 ≤ z.2 ∧ z.2 ≤ U.length ∧ (z.1 = 0 ∨ ∃ x, U[z.1 - 1]? = some x ∧ ltS y x = false) ∧ (z.2 = U.length ∨ ∃ x, U[z.2]? = some x ∧ ltS y x = true)) (fun z => z.2 - z.1) ((0, U.length))
  (repeat (first | exact KeepF.nil | (apply KeepF.cons; exact rfl) | apply KeepF.skip))
  (repeat (first | exact FrSub.nil | (apply FrSub.cons; exact rfl) | (apply FrSub.consE; exact rfl; (congr 2; first | omega | (simp only; omega)))))
  (repeat (first | exact HpSub.refl _ | (apply HpSub.consE; (repeat (first | exact P0 | apply P1)); exact rfl) | exact HpSub.nil))
  · exact ⟨Nat.zero_le _, Nat.le_refl _, .inl rfl, .inl rfl⟩
  rintro ⟨i, j⟩ ⟨h1, h2, h3, h4⟩
  simp only at h1 h2 h3 h4
  try dsimp only
  by_cases hij : i < j
  · obtain ⟨q, hq⟩ : ∃ q, q = (i + j) / 2 := ⟨_, rfl⟩
    obtain ⟨x, hx⟩ : ∃ x, U[q]? = some x := ⟨_, List.getElem?_eq_getElem (by omega)⟩
    have hdx : (P ++ (U ++ ([y] ++ Q)))[a + q]? = some x := get_seg ha hx
    obtain ⟨D, hD⟩ : ∃ D, P ++ (U ++ ([y] ++ Q)) = D := ⟨_, rfl⟩
    rw [hD] at hdm hdx ⊢
    obtain ⟨q0, q1, q2⟩ := sh_at hdm
    obtain ⟨r0, r1, r2⟩ := sh_at hdx
    have HC := fun w1 => byPerson_calls y.who y.fr y.to x.who x.fr x.to w1
    obtain ⟨o, ho⟩ : ∃ o, byP y.who y.fr x.who x.fr = o := ⟨_, rfl⟩
    rw [ho] at HC
    cases hc : ltS y x with
    | true =>
      have HN : o < 0 := by rw [← ho]; exact byP_neg.2 hc
      repeat' (first | ((with_reducible apply oq_id); first | ((with_reducible apply oq_addE (k := ((a + i + (a + j) : Nat) : Int))); exact rfl; exact rfl; omega) | (focus ((with_reducible apply (oq_shrE (a := a + i + (a + j)) (r := a + q))); exact rfl; exact rfl; omega; omega)) | (focus ((with_reducible apply oq_convU); (iterate 3 exact rfl); (refine ⟨?_, ?_⟩ <;> omega))) | (focus ((with_reducible apply oq_indexAddrN); (iterate 4 exact rfl); omega)) | ((with_reducible apply oq_lssT); exact rfl; exact rfl; omega) | (apply oq_fn; exact rfl; try first | exact trivial | (and_intros <;> omega)) | ((with_reducible apply oq_loadAgg); exact rfl; exact rfl) | ((with_reducible apply oq_call (k := 111) (hc := Try.call111)); exact rfl; exact rfl; exact fun D w1 hw1 => HC w1)) | ((with_reducible apply tl_id); first | (with_reducible apply tl_nil) | ((with_reducible apply u_q); (iterate 4 exact rfl))) | ((with_reducible apply gx_id); first | (with_reducible apply v_nil) | ((with_reducible apply v_q); (iterate 3 exact rfl))) | ((with_reducible apply rd_id); first | (apply Rd.own; (repeat (first | exact P0 | apply P1)); with_reducible (first | exact q0 | exact q1 | exact q2 | exact r0 | exact r1 | exact r2); done)) | ((with_reducible apply t_id); first | (with_reducible apply t_seq) | (apply t_region; kernel_rfl) | (apply t_drawn; kernel_rfl; decide +kernel; try simp only [List.append_eq, List.cons_append, List.nil_append]) | ((with_reducible apply t_condT); exact rfl) | ((with_reducible apply t_condF); exact rfl) | (with_reducible apply t_skip) | (with_reducible apply t_block)) | with_reducible apply q_thenN | with_reducible apply q_blockN | exact Rdn.zero | apply Rdn.succ)
      all_goals (refine ⟨(i, q), (by refine ⟨(by simp only; omega), (by simp only; omega), h3, .inr ⟨x, hx, hc⟩⟩), (by simp only; omega), ?_, ?_⟩ <;> (try simp only [List.cons_append, List.nil_append]) <;> (repeat' (first | exact FrSub.nil | (apply FrSub.cons; exact rfl) | exact HpSub.refl _)))
    | false =>
      have HN : ¬ o < 0 := by rw [← ho]; intro h; rw [byP_neg, hc] at h; cases h
      repeat' (first | ((with_reducible apply oq_id); first | ((with_reducible apply oq_addE (k := ((a + i + (a + j) : Nat) : Int))); exact rfl; exact rfl; omega) | ((with_reducible apply oq_addE (k := ((a + (q + 1) : Nat) : Int))); exact rfl; exact rfl; omega) | (focus ((with_reducible apply (oq_shrE (a := a + i + (a + j)) (r := a + q))); exact rfl; exact rfl; omega; omega)) | (focus ((with_reducible apply oq_convU); (iterate 3 exact rfl); (refine ⟨?_, ?_⟩ <;> omega))) | (focus ((with_reducible apply oq_indexAddrN); (iterate 4 exact rfl); omega)) | ((with_reducible apply oq_lssT); exact rfl; exact rfl; omega) | ((with_reducible apply oq_lssF); exact rfl; exact rfl; omega) | (apply oq_fn; exact rfl; try first | exact trivial | (and_intros <;> omega)) | ((with_reducible apply oq_loadAgg); exact rfl; exact rfl) | ((with_reducible apply oq_call (k := 111) (hc := Try.call111)); exact rfl; exact rfl; exact fun D w1 hw1 => HC w1)) | ((with_reducible apply tl_id); first | (with_reducible apply tl_nil) | ((with_reducible apply u_q); (iterate 4 exact rfl))) | ((with_reducible apply gx_id); first | (with_reducible apply v_nil) | ((with_reducible apply v_q); (iterate 3 exact rfl))) | ((with_reducible apply rd_id); first | (apply Rd.own; (repeat (first | exact P0 | apply P1)); with_reducible (first | exact q0 | exact q1 | exact q2 | exact r0 | exact r1 | exact r2); done)) | ((with_reducible apply t_id); first | (with_reducible apply t_seq) | (apply t_region; kernel_rfl) | (apply t_drawn; kernel_rfl; decide +kernel; try simp only [List.append_eq, List.cons_append, List.nil_append]) | ((with_reducible apply t_condT); exact rfl) | (with_reducible apply t_skip) | (with_reducible apply t_block)) | with_reducible apply q_thenN | with_reducible apply q_blockN | exact Rdn.zero | apply Rdn.succ)
      all_goals (refine ⟨(q + 1, j), (by refine ⟨(by simp only; omega), h2, .inr ⟨x, (by simpa using hx), hc⟩, h4⟩), (by simp only; omega), ?_, ?_⟩ <;> (try simp only [List.cons_append, List.nil_append]) <;> (repeat' (first | exact FrSub.nil | (apply FrSub.cons; exact rfl) | exact HpSub.refl _)))
  · obtain rfl : i = j := by omega
    rw [mrg_last woS h2 hU h3 h4, List.append_assoc, List.cons_append]
    have h0e : shB (P ++ (U ++ ([y] ++ Q))) = shB (P ++ (U.take U.length ++ y :: (U.drop U.length ++ Q))) := by
      rw [List.take_of_length_le (Nat.le_refl _), List.drop_of_length_le (Nat.le_refl _)]; rfl
    repeat' (first | ((with_reducible apply oq_id); first | ((with_reducible apply oq_lssF); exact rfl; exact rfl; omega) | (apply oq_fn; exact rfl; try first | exact trivial | (and_intros <;> omega))) | ((with_reducible apply tl_id); first | (with_reducible apply tl_nil) | ((with_reducible apply u_q); (iterate 4 exact rfl))) | ((with_reducible apply t_id); first | (with_reducible apply t_seq) | (apply t_region; kernel_rfl) | ((with_reducible apply t_condF); exact rfl) | (with_reducible apply t_exit) | (with_reducible apply t_block)) | with_reducible apply q_thenN | with_reducible apply q_thenE | ((with_reducible apply q_blockE); exact rfl))
    apply t_loopK (ι := Nat) [0, 1, 2, 3, 4, 14] (fun q => [(17, .int .i64 ((a + q : Nat) : Int))]) (fun q => [(g, shB (P ++ (U.take q ++ y :: (U.drop q ++ Q))), some (101, 3, cp))]) (fun q => i ≤ q ∧ q ≤ U.length) (fun q => q) (U.length)
    (repeat (first | exact KeepF.nil | (apply KeepF.cons; exact rfl) | apply KeepF.skip))
    (repeat (first | exact FrSub.nil | (apply FrSub.cons; exact rfl) | (apply FrSub.consE; exact rfl; (congr 2; first | omega | (simp only; omega)))))
    (repeat (first | exact HpSub.refl _ | (apply HpSub.consE; (repeat (first | exact P0 | apply P1)); (first | exact rfl | exact h0e)) | exact HpSub.nil))
    · exact ⟨h2, Nat.le_refl _⟩
    rintro q ⟨hiq, hqU⟩
    try dsimp only
    by_cases hki : i < q
    · obtain ⟨k, rfl⟩ : ∃ k, q = k + 1 := ⟨q - 1, by omega⟩
      obtain ⟨x, hx⟩ : ∃ x, U[k]? = some x := ⟨_, List.getElem?_eq_getElem (by omega)⟩
      obtain ⟨hdy, hdx, hst⟩ := mov_back (P := P) (Q := Q) (y := y) hx
      rw [ha] at hdx hdy hst
      obtain ⟨D, hD⟩ : ∃ D, P ++ (U.take (k + 1) ++ y :: (U.drop (k + 1) ++ Q)) = D := ⟨_, rfl⟩
      rw [hD] at hdx hdy hst ⊢
      rw [show a + (k + 1) = a + k + 1 by omega]
      have hdx2 : (D.set (a + k + 1) x)[a + k]? = some x := by rw [List.getElem?_set_ne (by omega)]; exact hdx
      obtain ⟨q0, q1, q2⟩ := sh_at hdx
      obtain ⟨r0, r1, r2⟩ := sh_at hdy
      repeat' (first | ((with_reducible apply oq_id); first | ((with_reducible apply oq_subE (k := ((a + k : Nat) : Int))); exact rfl; exact rfl; omega) | (focus ((with_reducible apply oq_indexAddrN); (iterate 4 exact rfl); omega)) | ((with_reducible apply oq_gtrT); exact rfl; exact rfl; omega) | (apply oq_fn; exact rfl; try first | exact trivial | (and_intros <;> omega)) | ((with_reducible apply oq_loadAgg); exact rfl; exact rfl)) | ((with_reducible apply tl_id); first | (with_reducible apply tl_nil) | ((with_reducible apply u_q); (iterate 4 exact rfl))) | ((with_reducible apply gx_id); first | (with_reducible apply v_nil) | ((with_reducible apply v_q); (iterate 3 exact rfl))) | ((with_reducible apply os_id); first | ((with_reducible apply (os_storeSh x hdy rfl)); (iterate 3 exact rfl); (repeat (first | exact P0 | apply P1))) | ((with_reducible apply (os_storeSh y hdx2 hst)); (iterate 3 exact rfl); (repeat (first | exact P0 | apply P1)))) | ((with_reducible apply ai_id); first | ((with_reducible apply ai_q); (iterate 5 exact rfl)) | ((with_reducible apply ai_n0); (iterate 3 exact rfl))) | ((with_reducible apply al_keep); focus (repeat (first | exact HpSub.refl _ | (apply HpSub.cons; (repeat (first | exact P0 | apply P1))) | apply HpSub.skipX | exact HpSub.nil))) | ((with_reducible apply rd_id); first | (apply Rd.own; (repeat (first | exact P0 | apply P1)); with_reducible (first | exact q0 | exact q1 | exact q2 | exact r0 | exact r1 | exact r2); done)) | ((with_reducible apply t_id); first | (apply t_mixZ (id := 23) [0, 1, 2, 3, 4, 5, 6, 7, 8, 10, 11, 12] 6; kernel_rfl; kernel_rfl; exact rfl) | (with_reducible apply t_seq) | (apply t_region; kernel_rfl) | ((with_reducible apply t_condT); exact rfl) | (with_reducible apply t_skip) | (with_reducible apply t_block)) | with_reducible apply q_thenN | with_reducible apply q_blockN | exact Rdn.zero | apply Rdn.succ | ((with_reducible apply al_id); first | (apply al_done; decide +kernel) | (apply al_one 9; decide +kernel) | (apply al_one 13; decide +kernel) | (apply al_one 14; decide +kernel) | (apply al_one 15; decide +kernel) | (apply al_one 16; decide +kernel) | (apply al_one 17; decide +kernel) | (apply al_two 9 13; decide +kernel)))
      all_goals (refine ⟨k, (by omega), (by omega), ?_, ?_⟩ <;> (try simp only [List.cons_append, List.nil_append]) <;> (repeat' (first | exact FrSub.nil | (apply FrSub.cons; exact rfl) | exact HpSub.refl _)))
    · obtain rfl : q = i := by omega
      repeat' (first | ((with_reducible apply oq_id); first | ((with_reducible apply oq_gtrF); exact rfl; exact rfl; omega) | (apply oq_fn; exact rfl; try first | exact trivial | (and_intros <;> omega))) | ((with_reducible apply tl_id); first | (with_reducible apply tl_nil) | ((with_reducible apply u_q); (iterate 4 exact rfl))) | ((with_reducible apply t_id); first | (with_reducible apply t_seq) | (apply t_region; kernel_rfl) | ((with_reducible apply t_condF); exact rfl) | (with_reducible apply t_ret) | (with_reducible apply t_exit)) | with_reducible apply q_thenN | with_reducible apply q_thenR | with_reducible apply q_thenE | ((with_reducible apply q_blockE); exact rfl) | (with_reducible apply end_ret) | exact rvs_nil)
      all_goals exact ⟨rfl, by (repeat (first | exact HpSub.refl _ | (apply HpSub.consE; (repeat (first | exact P0 | apply P1)); exact rfl) | exact HpSub.nil))⟩
theorem sym_W : ∀ (s : Nat) (g cp n a m b : Nat) (P U V Q : List Sh) (w : World), U.length + V.length = s → Blk w g (shB (P ++ (U ++ (V ++ Q)))) (some (101, 3, cp)) → Srt ltS U → Srt ltS V → 0 < U.length → 0 < V.length → P.length = a → a + U.length = m → m + V.length = b → (P ++ (U ++ (V ++ Q))).length = n → n ≤ 1000000 →
    Calls Try.prog 139 #[.slice (some ⟨g, 0, none⟩) n cp, .int .i64 (a : Nat), .int .i64 (m : Nat), .int .i64 (b : Nat), .func (.func 111) #[] #[]] w fun e w' => e = .returned (.tuple #[]) ∧ ExtM [g] w w' ∧ Blk w' g (shB (P ++ (mrg ltS U V ++ Q))) (some (101, 3, cp)) := by
  intro s
  induction s using Nat.strongRecOn with
  | _ s ih =>
  intro g cp n a m b P U V Q w hs hB hU hV hU0 hV0 ha hm hb hn hn1
  by_cases hU1 : U.length = 1
  · obtain ⟨x, rfl⟩ : ∃ x, U = [x] := List.length_eq_one_iff.1 hU1
    exact sym1_W g cp n a m b x P V Q w hB hV ha (by simpa using hm) hb hn hn1
  by_cases hV1 : V.length = 1
  · obtain ⟨y, rfl⟩ : ∃ y, V = [y] := List.length_eq_one_iff.1 hV1
    exact sym2_W g cp n a m b y P U Q w hB hU hU1 ha hm (by simpa using hb) hn hn1
  have hn0 := hn
  simp only [List.length_append] at hn
  obtain ⟨h, hh⟩ : ∃ h, h = (U.length + V.length) / 2 := ⟨_, rfl⟩
  refine enterW (c := cxM [g] w 220) Try.func139 rfl rfl rfl rfl hB ?_
  refine t_cut (ι := Unit) (fun _ => [(0, .slice (some ⟨g, 0, none⟩) n cp), (1, .int .i64 (a : Nat)), (2, .int .i64 (m : Nat)), (3, .int .i64 (b : Nat)), (4, .func (.func 111) #[] #[])]) (fun _ => [(g, shB (P ++ (U ++ (V ++ Q))), some (101, 3, cp))]) (fun _ => True) ?_ ?_
  · repeat' (first | ((with_reducible apply oq_id); first | ((with_reducible apply oq_subE (k := ((m - a : Nat) : Int))); exact rfl; exact rfl; omega) | ((with_reducible apply oq_eqlF); exact rfl; exact rfl; omega) | (apply oq_fn; exact rfl; try first | exact trivial | (and_intros <;> omega))) | ((with_reducible apply tl_id); first | (with_reducible apply tl_nil) | ((with_reducible apply u_q); (iterate 4 exact rfl))) | ((with_reducible apply t_id); first | (with_reducible apply t_seq) | (apply t_region; kernel_rfl) | ((with_reducible apply t_condF); exact rfl) | (with_reducible apply t_skip)) | with_reducible apply q_thenN)
    all_goals exact ⟨rfl, (), trivial, by (repeat (first | exact FrSub.nil | (apply FrSub.cons; exact rfl))), by (repeat (first | exact HpSub.refl _ | (apply HpSub.consE; (repeat (first | exact P0 | apply P1)); exact rfl) | exact HpSub.nil))⟩
  rintro ⟨⟩ -
  refine t_cut (ι := Unit) (fun _ => [(0, .slice (some ⟨g, 0, none⟩) n cp), (1, .int .i64 (a : Nat)), (2, .int .i64 (m : Nat)), (3, .int .i64 (b : Nat)), (4, .func (.func 111) #[] #[])]) (fun _ => [(g, shB (P ++ (U ++ (V ++ Q))), some (101, 3, cp))]) (fun _ => True) ?_ ?_
  · repeat' (first | ((with_reducible apply oq_id); first | ((with_reducible apply oq_subE (k := ((b - m : Nat) : Int))); exact rfl; exact rfl; omega) | ((with_reducible apply oq_eqlF); exact rfl; exact rfl; omega) | (apply oq_fn; exact rfl; try first | exact trivial | (and_intros <;> omega))) | ((with_reducible apply tl_id); first | (with_reducible apply tl_nil) | ((with_reducible apply u_q); (iterate 4 exact rfl))) | ((with_reducible apply t_id); first | (with_reducible apply t_seq) | (apply t_region; kernel_rfl) | ((with_reducible apply t_condF); exact rfl) | (with_reducible apply t_skip)) | with_reducible apply q_thenN)
    all_goals exact ⟨rfl, (), trivial, by (repeat (first | exact FrSub.nil | (apply FrSub.cons; exact rfl))), by (repeat (first | exact HpSub.refl _ | (apply HpSub.consE; (repeat (first | exact P0 | apply P1)); exact rfl) | exact HpSub.nil))⟩
  rintro ⟨⟩ -
  refine t_cut (ι := Unit) (fun _ => [(0, .slice (some ⟨g, 0, none⟩) n cp), (1, .int .i64 (a : Nat)), (2, .int .i64 (m : Nat)), (3, .int .i64 (b : Nat)), (4, .func (.func 111) #[] #[]), (18, .int .i64 (a + h : Nat))]) (fun _ => [(g, shB (P ++ (U ++ (V ++ Q))), some (101, 3, cp))]) (fun _ => True) ?_ ?_
  · repeat' (first | ((with_reducible apply oq_id); first | ((with_reducible apply oq_addE (k := ((a + b : Nat) : Int))); exact rfl; exact rfl; omega) | (focus ((with_reducible apply (oq_shrE (a := a + b) (r := a + h))); exact rfl; exact rfl; omega; omega)) | (focus ((with_reducible apply oq_convU); (iterate 3 exact rfl); (refine ⟨?_, ?_⟩ <;> omega))) | (apply oq_fn; exact rfl; try first | exact trivial | (and_intros <;> omega))) | ((with_reducible apply tl_id); first | (with_reducible apply tl_nil) | ((with_reducible apply u_q); (iterate 4 exact rfl))) | ((with_reducible apply t_id); first | (apply t_region; kernel_rfl)))
    all_goals exact ⟨rfl, (), trivial, by (repeat (first | exact FrSub.nil | (apply FrSub.cons; exact rfl))), by (repeat (first | exact HpSub.refl _ | (apply HpSub.consE; (repeat (first | exact P0 | apply P1)); exact rfl) | exact HpSub.nil))⟩
  rintro ⟨⟩ -
  refine t_cut (ι := Unit) (fun _ => [(0, .slice (some ⟨g, 0, none⟩) n cp), (1, .int .i64 (a : Nat)), (2, .int .i64 (m : Nat)), (3, .int .i64 (b : Nat)), (4, .func (.func 111) #[] #[]), (18, .int .i64 (a + h : Nat)), (19, .int .i64 (a + h + m : Nat))]) (fun _ => [(g, shB (P ++ (U ++ (V ++ Q))), some (101, 3, cp))]) (fun _ => True) ?_ ?_
  · repeat' (first | ((with_reducible apply oq_id); first | ((with_reducible apply oq_addE (k := ((a + h + m : Nat) : Int))); exact rfl; exact rfl; omega) | (apply oq_fn; exact rfl; try first | exact trivial | (and_intros <;> omega))) | ((with_reducible apply tl_id); first | (with_reducible apply tl_nil) | ((with_reducible apply u_q); (iterate 4 exact rfl))) | ((with_reducible apply t_id); first | (apply t_region; kernel_rfl)))
    all_goals exact ⟨rfl, (), trivial, by (repeat (first | exact FrSub.nil | (apply FrSub.cons; exact rfl))), by (repeat (first | exact HpSub.refl _ | (apply HpSub.consE; (repeat (first | exact P0 | apply P1)); exact rfl) | exact HpSub.nil))⟩
  rintro ⟨⟩ -
  refine t_cut (ι := Unit) (fun _ => [(0, .slice (some ⟨g, 0, none⟩) n cp), (1, .int .i64 (a : Nat)), (2, .int .i64 (m : Nat)), (3, .int .i64 (b : Nat)), (4, .func (.func 111) #[] #[]), (18, .int .i64 (a + h : Nat)), (19, .int .i64 (a + h + m : Nat))]) (fun _ => [(g, shB (P ++ (U ++ (V ++ Q))), some (101, 3, cp))]) (fun _ => True) ?_ ?_
  · repeat' (first | ((with_reducible apply oq_id); first | (apply oq_fn; exact rfl; try first | exact trivial | (and_intros <;> omega))) | ((with_reducible apply tl_id); first | (with_reducible apply tl_nil) | ((with_reducible apply u_q); (iterate 4 exact rfl))) | ((with_reducible apply t_id); first | (apply t_region; kernel_rfl)))
    all_goals exact ⟨rfl, (), trivial, by (repeat (first | exact FrSub.nil | (apply FrSub.cons; exact rfl))), by (repeat (first | exact HpSub.refl _ | (apply HpSub.consE; (repeat (first | exact P0 | apply P1)); exact rfl) | exact HpSub.nil))⟩
  rintro ⟨⟩ -
  obtain ⟨lo, hi, hlo, hhi, hlh, hhU, hhh, hh3, hcase⟩ : ∃ lo hi : Nat, (lo = 0 ∨ V.length + lo = h) ∧ (hi = h ∨ hi = U.length) ∧ lo ≤ hi ∧ hi ≤ U.length ∧ hi ≤ h ∧ h ≤ V.length + lo ∧ ((h < U.length ∧ V.length + lo = h ∧ hi = h) ∨ (U.length ≤ h ∧ lo = 0 ∧ hi = U.length)) := by
    by_cases hc : h < U.length
    · exact ⟨h - V.length, h, by omega, by omega, by omega, by omega, by omega, by omega, by omega⟩
    · exact ⟨0, U.length, by omega, by omega, by omega, by omega, by omega, by omega, by omega⟩
  refine t_cut (ι := Unit) (fun _ => [(0, .slice (some ⟨g, 0, none⟩) n cp), (1, .int .i64 (a : Nat)), (2, .int .i64 (m : Nat)), (3, .int .i64 (b : Nat)), (4, .func (.func 111) #[] #[]), (18, .int .i64 (a + h : Nat)), (19, .int .i64 (a + h + m : Nat)), (20, .int .i64 (a + lo : Nat)), (21, .int .i64 (a + hi : Nat))]) (fun _ => [(g, shB (P ++ (U ++ (V ++ Q))), some (101, 3, cp))]) (fun _ => True) ?_ ?_
  · rcases hcase with ⟨c1, c2, c3⟩ | ⟨c1, c2, c3⟩
    · repeat' (first | ((with_reducible apply oq_id); first | ((with_reducible apply oq_subE (k := ((a + lo : Nat) : Int))); exact rfl; exact rfl; omega) | ((with_reducible apply oq_gtrT); exact rfl; exact rfl; omega) | (apply oq_fn; exact rfl; try first | exact trivial | (and_intros <;> omega))) | ((with_reducible apply tl_id); first | (with_reducible apply tl_nil) | ((with_reducible apply u_q); (iterate 4 exact rfl))) | ((with_reducible apply t_id); first | (with_reducible apply t_seq) | (apply t_region; kernel_rfl) | ((with_reducible apply t_condT); exact rfl)) | with_reducible apply q_thenN)
      all_goals exact ⟨rfl, (), trivial, by (repeat (first | exact FrSub.nil | (apply FrSub.cons; exact rfl) | (apply FrSub.consE; exact rfl; (congr 2; first | omega | (simp only; omega))))), by (repeat (first | exact HpSub.refl _ | (apply HpSub.consE; (repeat (first | exact P0 | apply P1)); exact rfl) | exact HpSub.nil))⟩
    · repeat' (first | ((with_reducible apply oq_id); first | ((with_reducible apply oq_gtrF); exact rfl; exact rfl; omega) | (apply oq_fn; exact rfl; try first | exact trivial | (and_intros <;> omega))) | ((with_reducible apply tl_id); first | (with_reducible apply tl_nil) | ((with_reducible apply u_q); (iterate 4 exact rfl))) | ((with_reducible apply t_id); first | (with_reducible apply t_seq) | (apply t_region; kernel_rfl) | ((with_reducible apply t_condF); exact rfl)) | with_reducible apply q_thenN)
      all_goals exact ⟨rfl, (), trivial, by (repeat (first | exact FrSub.nil | (apply FrSub.cons; exact rfl) | (apply FrSub.consE; exact rfl; (congr 2; first | omega | (simp only; omega))))), by (repeat (first | exact HpSub.refl _ | (apply HpSub.consE; (repeat (first | exact P0 | apply P1)); exact rfl) | exact HpSub.nil))⟩
  rintro ⟨⟩ -
  refine t_cut (ι := Unit) (fun _ => [(0, .slice (some ⟨g, 0, none⟩) n cp), (1, .int .i64 (a : Nat)), (2, .int .i64 (m : Nat)), (3, .int .i64 (b : Nat)), (4, .func (.func 111) #[] #[]), (18, .int .i64 (a + h : Nat)), (19, .int .i64 (a + h + m : Nat)), (20, .int .i64 (a + lo : Nat)), (21, .int .i64 (a + hi : Nat)), (22, .int .i64 (a + h + m - 1 : Nat))]) (fun _ => [(g, shB (P ++ (U ++ (V ++ Q))), some (101, 3, cp))]) (fun _ => True) ?_ ?_
  · repeat' (first | ((with_reducible apply oq_id); first | ((with_reducible apply oq_subE (k := ((a + h + m - 1 : Nat) : Int))); exact rfl; exact rfl; omega) | (apply oq_fn; exact rfl; try first | exact trivial | (and_intros <;> omega))) | ((with_reducible apply tl_id); first | (with_reducible apply tl_nil) | ((with_reducible apply u_q); (iterate 4 exact rfl))) | ((with_reducible apply t_id); first | (apply t_region; kernel_rfl)))
    all_goals exact ⟨rfl, (), trivial, by (repeat (first | exact FrSub.nil | (apply FrSub.cons; exact rfl))), by (repeat (first | exact HpSub.refl _ | (apply HpSub.consE; (repeat (first | exact P0 | apply P1)); exact rfl) | exact HpSub.nil))⟩
  rintro ⟨⟩ -
  refine t_cut (ι := Nat) (fun i => [(0, .slice (some ⟨g, 0, none⟩) n cp), (1, .int .i64 (a : Nat)), (2, .int .i64 (m : Nat)), (3, .int .i64 (b : Nat)), (4, .func (.func 111) #[] #[]), (18, .int .i64 (a + h : Nat)), (19, .int .i64 (a + h + m : Nat)), (20, .int .i64 (a + i : Nat))]) (fun _ => [(g, shB (P ++ (U ++ (V ++ Q))), some (101, 3, cp))]) (fun i => lo ≤ i ∧ i ≤ hi ∧ mrg ltS U V = mrg ltS (U.take i) (V.take (h - i)) ++ mrg ltS (U.drop i) (V.drop (h - i))) ?_ ?_
  · repeat' (first | (with_reducible apply t_block))
    apply t_loopK (ι := Nat × Nat) [0, 1, 2, 3, 4, 18, 19, 22] (fun z => [(20, .int .i64 ((a + z.1 : Nat) : Int)), (21, .int .i64 ((a + z.2 : Nat) : Int))]) (fun _ => [(g, shB (P ++ (U ++ (V ++ Q))), some (101, 3, cp))]) (fun z => lo ≤ z.1 ∧ z.1 ≤ z.2 ∧ z.2 ≤ hi ∧ (z.1 = lo ∨ ∃ x y, U[z.1 - 1]? = some x ∧ V[h - z.1]? = some y ∧ ltS y x = false) ∧ (z.2 = hi ∨ ∃ x y, U[z.2]? = some x ∧ V[h - 1 - z.2]? = some y ∧ ltS y x = true)) (fun z => z.2 - z.1) ((lo, hi))
    (repeat (first | exact KeepF.nil | (apply KeepF.cons; exact rfl) | apply KeepF.skip))
    (repeat (first | exact FrSub.nil | (apply FrSub.cons; exact rfl) | (apply FrSub.consE; exact rfl; (congr 2; first | omega | (simp only; omega)))))
    (repeat (first | exact HpSub.refl _ | (apply HpSub.consE; (repeat (first | exact P0 | apply P1)); exact rfl) | exact HpSub.nil))
    · exact ⟨Nat.le_refl _, hlh, Nat.le_refl _, .inl rfl, .inl rfl⟩
    rintro ⟨i, j⟩ ⟨h0, h1, h2, h3, h4⟩
    simp only at h0 h1 h2 h3 h4
    try dsimp only
    by_cases hij : i < j
    · obtain ⟨q, hq⟩ : ∃ q, q = (i + j) / 2 := ⟨_, rfl⟩
      obtain ⟨x, hx⟩ : ∃ x, U[q]? = some x := ⟨_, List.getElem?_eq_getElem (by omega)⟩
      obtain ⟨y, hy⟩ : ∃ y, V[h - 1 - q]? = some y := ⟨_, List.getElem?_eq_getElem (by omega)⟩
      have hdx : (P ++ (U ++ (V ++ Q)))[a + q]? = some x := get_seg ha hx
      have hdy : (P ++ (U ++ (V ++ Q)))[m + (h - 1 - q)]? = some y := get_seg2 (by omega) hy
      obtain ⟨D, hD⟩ : ∃ D, P ++ (U ++ (V ++ Q)) = D := ⟨_, rfl⟩
      rw [hD] at hdx hdy ⊢
      obtain ⟨q0, q1, q2⟩ := sh_at hdx
      obtain ⟨r0, r1, r2⟩ := sh_at hdy
      have HC := fun w1 => byPerson_calls y.who y.fr y.to x.who x.fr x.to w1
      obtain ⟨o, ho⟩ : ∃ o, byP y.who y.fr x.who x.fr = o := ⟨_, rfl⟩
      rw [ho] at HC
      cases hc : ltS y x with
      | true =>
        have HN : o < 0 := by rw [← ho]; exact byP_neg.2 hc
        repeat' (first | ((with_reducible apply oq_id); first | ((with_reducible apply oq_addE (k := ((a + i + (a + j) : Nat) : Int))); exact rfl; exact rfl; omega) | (focus ((with_reducible apply (oq_shrE (a := a + i + (a + j)) (r := a + q))); exact rfl; exact rfl; omega; omega)) | ((with_reducible apply oq_subE (k := ((m + (h - 1 - q) : Nat) : Int))); exact rfl; exact rfl; omega) | (focus ((with_reducible apply oq_convU); (iterate 3 exact rfl); (refine ⟨?_, ?_⟩ <;> omega))) | (focus ((with_reducible apply oq_indexAddrN); (iterate 4 exact rfl); omega)) | ((with_reducible apply oq_lssT); exact rfl; exact rfl; omega) | (apply oq_fn; exact rfl; try first | exact trivial | (and_intros <;> omega)) | ((with_reducible apply oq_loadAgg); exact rfl; exact rfl) | ((with_reducible apply oq_call (k := 111) (hc := Try.call111)); exact rfl; exact rfl; exact fun D w1 hw1 => HC w1)) | ((with_reducible apply tl_id); first | (with_reducible apply tl_nil) | ((with_reducible apply u_q); (iterate 4 exact rfl))) | ((with_reducible apply gx_id); first | (with_reducible apply v_nil) | ((with_reducible apply v_q); (iterate 3 exact rfl))) | ((with_reducible apply rd_id); first | (apply Rd.own; (repeat (first | exact P0 | apply P1)); with_reducible (first | exact q0 | exact q1 | exact q2 | exact r0 | exact r1 | exact r2); done)) | ((with_reducible apply t_id); first | (with_reducible apply t_seq) | (apply t_region; kernel_rfl) | (apply t_drawn; kernel_rfl; decide +kernel; try simp only [List.append_eq, List.cons_append, List.nil_append]) | ((with_reducible apply t_condT); exact rfl) | ((with_reducible apply t_condF); exact rfl) | (with_reducible apply t_skip) | (with_reducible apply t_block)) | with_reducible apply q_thenN | with_reducible apply q_blockN | exact Rdn.zero | apply Rdn.succ)
        all_goals (refine ⟨(i, q), (by refine ⟨h0, (by simp only; omega), (by simp only; omega), h3, .inr ⟨x, y, hx, hy, hc⟩⟩), (by simp only; omega), ?_, ?_⟩ <;> (try simp only [List.cons_append, List.nil_append]) <;> (repeat' (first | exact FrSub.nil | (apply FrSub.cons; exact rfl) | exact HpSub.refl _)))
      | false =>
        have HN : ¬ o < 0 := by rw [← ho]; intro h; rw [byP_neg, hc] at h; cases h
        repeat' (first | ((with_reducible apply oq_id); first | ((with_reducible apply oq_addE (k := ((a + i + (a + j) : Nat) : Int))); exact rfl; exact rfl; omega) | ((with_reducible apply oq_addE (k := ((a + (q + 1) : Nat) : Int))); exact rfl; exact rfl; omega) | (focus ((with_reducible apply (oq_shrE (a := a + i + (a + j)) (r := a + q))); exact rfl; exact rfl; omega; omega)) | ((with_reducible apply oq_subE (k := ((m + (h - 1 - q) : Nat) : Int))); exact rfl; exact rfl; omega) | (focus ((with_reducible apply oq_convU); (iterate 3 exact rfl); (refine ⟨?_, ?_⟩ <;> omega))) | (focus ((with_reducible apply oq_indexAddrN); (iterate 4 exact rfl); omega)) | ((with_reducible apply oq_lssT); exact rfl; exact rfl; omega) | ((with_reducible apply oq_lssF); exact rfl; exact rfl; omega) | (apply oq_fn; exact rfl; try first | exact trivial | (and_intros <;> omega)) | ((with_reducible apply oq_loadAgg); exact rfl; exact rfl) | ((with_reducible apply oq_call (k := 111) (hc := Try.call111)); exact rfl; exact rfl; exact fun D w1 hw1 => HC w1)) | ((with_reducible apply tl_id); first | (with_reducible apply tl_nil) | ((with_reducible apply u_q); (iterate 4 exact rfl))) | ((with_reducible apply gx_id); first | (with_reducible apply v_nil) | ((with_reducible apply v_q); (iterate 3 exact rfl))) | ((with_reducible apply rd_id); first | (apply Rd.own; (repeat (first | exact P0 | apply P1)); with_reducible (first | exact q0 | exact q1 | exact q2 | exact r0 | exact r1 | exact r2); done)) | ((with_reducible apply t_id); first | (with_reducible apply t_seq) | (apply t_region; kernel_rfl) | (apply t_drawn; kernel_rfl; decide +kernel; try simp only [List.append_eq, List.cons_append, List.nil_append]) | ((with_reducible apply t_condT); exact rfl) | (with_reducible apply t_skip) | (with_reducible apply t_block)) | with_reducible apply q_thenN | with_reducible apply q_blockN | exact Rdn.zero | apply Rdn.succ)
        all_goals (refine ⟨(q + 1, j), (by refine ⟨(by simp only; omega), (by simp only; omega), h2, .inr ⟨x, y, (by simpa using hx), (by rw [show h - (q + 1) = h - 1 - q by omega]; exact hy), hc⟩, h4⟩), (by simp only; omega), ?_, ?_⟩ <;> (try simp only [List.cons_append, List.nil_append]) <;> (repeat' (first | exact FrSub.nil | (apply FrSub.cons; exact rfl) | exact HpSub.refl _)))
    · obtain rfl : i = j := by omega
      repeat' (first | ((with_reducible apply oq_id); first | ((with_reducible apply oq_lssF); exact rfl; exact rfl; omega) | (apply oq_fn; exact rfl; try first | exact trivial | (and_intros <;> omega))) | ((with_reducible apply tl_id); first | (with_reducible apply tl_nil) | ((with_reducible apply u_q); (iterate 4 exact rfl))) | ((with_reducible apply t_id); first | (with_reducible apply t_seq) | (apply t_region; kernel_rfl) | ((with_reducible apply t_condF); exact rfl) | (with_reducible apply t_exit)) | with_reducible apply q_thenN | with_reducible apply q_thenE | ((with_reducible apply q_blockE); exact rfl))
      all_goals exact ⟨rfl, i, ⟨h0, h2, sym_pick woS hU hV h0 h2 hlo hhi hhU hhh hh3 h3 h4⟩, by (repeat (first | exact FrSub.nil | (apply FrSub.cons; exact rfl))), by (repeat (first | exact HpSub.refl _ | (apply HpSub.consE; (repeat (first | exact P0 | apply P1)); exact rfl) | exact HpSub.nil))⟩
  rintro i ⟨h0, h2, hmrg⟩
  have lu : (U.take i).length = i := by simp; omega
  have lu' : (U.drop i).length = U.length - i := by simp
  have lv : (V.take (h - i)).length = h - i := by simp; omega
  have lv' : (V.drop (h - i)).length = V.length - (h - i) := by simp
  have eU := List.take_append_drop i U
  have eV := List.take_append_drop (h - i) V
  have sU : Srt ltS (U.take i ++ U.drop i) := by rw [eU]; exact hU
  have sV : Srt ltS (V.take (h - i) ++ V.drop (h - i)) := by rw [eV]; exact hV
  obtain ⟨sU1, sU2, _⟩ := List.pairwise_append.1 sU
  obtain ⟨sV1, sV2, _⟩ := List.pairwise_append.1 sV
  rw [hmrg]
  generalize U.take i = U1 at *
  generalize U.drop i = U2 at *
  generalize V.take (h - i) = V1 at *
  generalize V.drop (h - i) = V2 at *
  rw [← eU, ← eV] at hn0 ⊢
  clear hmrg
  have ml := mrg_len (lt := ltS) U1 V1
  simp only [List.append_assoc] at hn0 ⊢
  have hn2 := hn0
  simp only [List.length_append] at hn2
  refine t_cut (ι := Unit) (fun _ => [(0, .slice (some ⟨g, 0, none⟩) n cp), (1, .int .i64 (a : Nat)), (2, .int .i64 (m : Nat)), (3, .int .i64 (b : Nat)), (4, .func (.func 111) #[] #[]), (18, .int .i64 (a + h : Nat)), (20, .int .i64 (a + i : Nat)), (24, .int .i64 (m + (h - i) : Nat))]) (fun _ => [(g, shB (P ++ (U1 ++ (U2 ++ (V1 ++ (V2 ++ Q))))), some (101, 3, cp))]) (fun _ => True) ?_ ?_
  · repeat' (first | ((with_reducible apply oq_id); first | ((with_reducible apply oq_subE (k := ((m + (h - i) : Nat) : Int))); exact rfl; exact rfl; omega) | (apply oq_fn; exact rfl; try first | exact trivial | (and_intros <;> omega))) | ((with_reducible apply tl_id); first | (with_reducible apply tl_nil) | ((with_reducible apply u_q); (iterate 4 exact rfl))) | ((with_reducible apply t_id); first | (apply t_region; kernel_rfl)))
    all_goals exact ⟨rfl, (), trivial, by (repeat (first | exact FrSub.nil | (apply FrSub.cons; exact rfl))), by (repeat (first | exact HpSub.refl _ | (apply HpSub.consE; (repeat (first | exact P0 | apply P1)); exact rfl) | exact HpSub.nil))⟩
  rintro ⟨⟩ -
  refine t_cut (ι := Unit) (fun _ => [(0, .slice (some ⟨g, 0, none⟩) n cp), (1, .int .i64 (a : Nat)), (2, .int .i64 (m : Nat)), (3, .int .i64 (b : Nat)), (4, .func (.func 111) #[] #[]), (18, .int .i64 (a + h : Nat)), (20, .int .i64 (a + i : Nat)), (24, .int .i64 (m + (h - i) : Nat))]) (fun _ => [(g, shB (P ++ (U1 ++ (V1 ++ (U2 ++ (V2 ++ Q))))), some (101, 3, cp))]) (fun _ => True) ?_ ?_
  · by_cases hz : 0 < U2.length ∧ 0 < V1.length
    · obtain ⟨z1, z2⟩ := hz
      have hB1 : (P ++ U1) ++ (U2 ++ (V1 ++ (V2 ++ Q))) = P ++ (U1 ++ (U2 ++ (V1 ++ (V2 ++ Q)))) := by simp only [List.append_assoc]
      rw [← hB1] at hn0 ⊢
      repeat' (first | ((with_reducible apply oq_id); first | ((with_reducible apply oq_lssT); exact rfl; exact rfl; omega) | (apply oq_fn; exact rfl; try first | exact trivial | (and_intros <;> omega))) | ((with_reducible apply tl_id); first | (with_reducible apply tl_nil) | ((with_reducible apply u_s); (iterate 3 exact rfl); (with_reducible apply os_callW (b := g) (k := 140) (hc := Try.call140)); exact rfl; exact rfl; (repeat (first | exact P0 | apply P1)); exact fun D w1 hw1 => rot_W g cp n (a + i) m (m + (h - i)) (P ++ U1) U2 V1 (V2 ++ Q) w1 (hw1.blkP (by (repeat (first | exact P0 | apply P1)))) z1 z2 (by simp only [List.length_append]; omega) (by omega) (by omega) hn0 hn1) | ((with_reducible apply u_q); (iterate 4 exact rfl))) | ((with_reducible apply t_id); first | (with_reducible apply t_seq) | (apply t_region; kernel_rfl) | ((with_reducible apply t_condT); exact rfl)) | with_reducible apply q_thenN)
      all_goals exact ⟨rfl, (), trivial, by (repeat (first | exact FrSub.nil | (apply FrSub.cons; exact rfl))), by (simp only [List.append_assoc]; (repeat (first | exact HpSub.refl _ | (apply HpSub.consE; (repeat (first | exact P0 | apply P1)); exact rfl) | exact HpSub.nil)))⟩
    · have hsame : P ++ (U1 ++ (V1 ++ (U2 ++ (V2 ++ Q)))) = P ++ (U1 ++ (U2 ++ (V1 ++ (V2 ++ Q)))) := by
        by_cases z1 : 0 < U2.length
        · rw [List.length_eq_zero_iff.1 (show V1.length = 0 by omega)]; rfl
        · rw [List.length_eq_zero_iff.1 (show U2.length = 0 by omega)]; rfl
      rw [hsame]
      by_cases z1 : 0 < U2.length
      · repeat' (first | ((with_reducible apply oq_id); first | ((with_reducible apply oq_lssT); exact rfl; exact rfl; omega) | ((with_reducible apply oq_lssF); exact rfl; exact rfl; omega) | (apply oq_fn; exact rfl; try first | exact trivial | (and_intros <;> omega))) | ((with_reducible apply tl_id); first | (with_reducible apply tl_nil) | ((with_reducible apply u_q); (iterate 4 exact rfl))) | ((with_reducible apply t_id); first | (with_reducible apply t_seq) | (apply t_region; kernel_rfl) | ((with_reducible apply t_condF); exact rfl) | (with_reducible apply t_skip)) | with_reducible apply q_thenN)
        all_goals exact ⟨rfl, (), trivial, by (repeat (first | exact FrSub.nil | (apply FrSub.cons; exact rfl))), by (repeat (first | exact HpSub.refl _ | (apply HpSub.consE; (repeat (first | exact P0 | apply P1)); exact rfl) | exact HpSub.nil))⟩
      · repeat' (first | ((with_reducible apply oq_id); first | ((with_reducible apply oq_lssF); exact rfl; exact rfl; omega) | (apply oq_fn; exact rfl; try first | exact trivial | (and_intros <;> omega))) | ((with_reducible apply tl_id); first | (with_reducible apply tl_nil) | ((with_reducible apply u_q); (iterate 4 exact rfl)) | ((with_reducible apply u_skip); (iterate 3 exact rfl))) | ((with_reducible apply t_id); first | (with_reducible apply t_seq) | (apply t_region; kernel_rfl) | ((with_reducible apply t_condF); exact rfl) | (with_reducible apply t_skip)) | with_reducible apply q_thenN)
        all_goals exact ⟨rfl, (), trivial, by (repeat (first | exact FrSub.nil | (apply FrSub.cons; exact rfl))), by (repeat (first | exact HpSub.refl _ | (apply HpSub.consE; (repeat (first | exact P0 | apply P1)); exact rfl) | exact HpSub.nil))⟩
  rintro ⟨⟩ -
  refine t_cut (ι := Unit) (fun _ => [(0, .slice (some ⟨g, 0, none⟩) n cp), (1, .int .i64 (a : Nat)), (2, .int .i64 (m : Nat)), (3, .int .i64 (b : Nat)), (4, .func (.func 111) #[] #[]), (18, .int .i64 (a + h : Nat)), (20, .int .i64 (a + i : Nat)), (24, .int .i64 (m + (h - i) : Nat))]) (fun _ => [(g, shB (P ++ (mrg ltS U1 V1 ++ (U2 ++ (V2 ++ Q)))), some (101, 3, cp))]) (fun _ => True) ?_ ?_
  · by_cases hz : 0 < U1.length ∧ 0 < V1.length
    · obtain ⟨z1, z2⟩ := hz
      repeat' (first | ((with_reducible apply oq_id); first | ((with_reducible apply oq_lssT); exact rfl; exact rfl; omega) | (apply oq_fn; exact rfl; try first | exact trivial | (and_intros <;> omega))) | ((with_reducible apply tl_id); first | (with_reducible apply tl_nil) | ((with_reducible apply u_s); (iterate 3 exact rfl); (with_reducible apply os_callW (b := g) (k := 139) (hc := Try.call139)); exact rfl; exact rfl; (repeat (first | exact P0 | apply P1)); exact fun D w1 hw1 => ih (U1.length + V1.length) (by omega) g cp n a (a + i) (a + h) P U1 V1 (U2 ++ (V2 ++ Q)) w1 rfl (hw1.blkP (by (repeat (first | exact P0 | apply P1)))) sU1 sV1 z1 z2 ha (by omega) (by omega) (by simp only [List.length_append]; omega) hn1) | ((with_reducible apply u_q); (iterate 4 exact rfl))) | ((with_reducible apply t_id); first | (with_reducible apply t_seq) | (apply t_region; kernel_rfl) | ((with_reducible apply t_condT); exact rfl)) | with_reducible apply q_thenN)
      all_goals exact ⟨rfl, (), trivial, by (repeat (first | exact FrSub.nil | (apply FrSub.cons; exact rfl))), by (repeat (first | exact HpSub.refl _ | (apply HpSub.consE; (repeat (first | exact P0 | apply P1)); exact rfl) | exact HpSub.nil))⟩
    · have hsame : P ++ (mrg ltS U1 V1 ++ (U2 ++ (V2 ++ Q))) = P ++ (U1 ++ (V1 ++ (U2 ++ (V2 ++ Q)))) := by
        by_cases z1 : 0 < U1.length
        · rw [List.length_eq_zero_iff.1 (show V1.length = 0 by omega), mrg_right]; rfl
        · rw [List.length_eq_zero_iff.1 (show U1.length = 0 by omega), mrg_nil]; rfl
      rw [hsame]
      by_cases z1 : 0 < U1.length
      · repeat' (first | ((with_reducible apply oq_id); first | ((with_reducible apply oq_lssT); exact rfl; exact rfl; omega) | ((with_reducible apply oq_lssF); exact rfl; exact rfl; omega) | (apply oq_fn; exact rfl; try first | exact trivial | (and_intros <;> omega))) | ((with_reducible apply tl_id); first | (with_reducible apply tl_nil) | ((with_reducible apply u_q); (iterate 4 exact rfl))) | ((with_reducible apply t_id); first | (with_reducible apply t_seq) | (apply t_region; kernel_rfl) | ((with_reducible apply t_condF); exact rfl) | (with_reducible apply t_skip)) | with_reducible apply q_thenN)
        all_goals exact ⟨rfl, (), trivial, by (repeat (first | exact FrSub.nil | (apply FrSub.cons; exact rfl))), by (repeat (first | exact HpSub.refl _ | (apply HpSub.consE; (repeat (first | exact P0 | apply P1)); exact rfl) | exact HpSub.nil))⟩
      · repeat' (first | ((with_reducible apply oq_id); first | ((with_reducible apply oq_lssF); exact rfl; exact rfl; omega) | (apply oq_fn; exact rfl; try first | exact trivial | (and_intros <;> omega))) | ((with_reducible apply tl_id); first | (with_reducible apply tl_nil) | ((with_reducible apply u_q); (iterate 4 exact rfl)) | ((with_reducible apply u_skip); (iterate 3 exact rfl))) | ((with_reducible apply t_id); first | (with_reducible apply t_seq) | (apply t_region; kernel_rfl) | ((with_reducible apply t_condF); exact rfl) | (with_reducible apply t_skip)) | with_reducible apply q_thenN)
        all_goals exact ⟨rfl, (), trivial, by (repeat (first | exact FrSub.nil | (apply FrSub.cons; exact rfl))), by (repeat (first | exact HpSub.refl _ | (apply HpSub.consE; (repeat (first | exact P0 | apply P1)); exact rfl) | exact HpSub.nil))⟩
  rintro ⟨⟩ -
  by_cases hz : 0 < U2.length ∧ 0 < V2.length
  · obtain ⟨z1, z2⟩ := hz
    have hB1 : (P ++ mrg ltS U1 V1) ++ (U2 ++ (V2 ++ Q)) = P ++ (mrg ltS U1 V1 ++ (U2 ++ (V2 ++ Q))) := by simp only [List.append_assoc]
    rw [← hB1]
    repeat' (first | ((with_reducible apply oq_id); first | ((with_reducible apply oq_lssT); exact rfl; exact rfl; omega) | (apply oq_fn; exact rfl; try first | exact trivial | (and_intros <;> omega))) | ((with_reducible apply tl_id); first | (with_reducible apply tl_nil) | ((with_reducible apply u_s); (iterate 3 exact rfl); (with_reducible apply os_callW (b := g) (k := 139) (hc := Try.call139)); exact rfl; exact rfl; (repeat (first | exact P0 | apply P1)); exact fun D w1 hw1 => ih (U2.length + V2.length) (by omega) g cp n (a + h) (m + (h - i)) b (P ++ mrg ltS U1 V1) U2 V2 Q w1 rfl (hw1.blkP (by (repeat (first | exact P0 | apply P1)))) sU2 sV2 z1 z2 (by simp only [List.length_append]; omega) (by omega) (by omega) (by simp only [List.length_append]; omega) hn1) | ((with_reducible apply u_q); (iterate 4 exact rfl))) | ((with_reducible apply t_id); first | (with_reducible apply t_seq) | (apply t_region; kernel_rfl) | ((with_reducible apply t_condT); exact rfl)) | with_reducible apply q_thenN | (with_reducible apply end_normal) | exact rvs_nil)
    all_goals exact ⟨rfl, by (simp only [List.append_assoc]; (repeat (first | exact HpSub.refl _ | (apply HpSub.consE; (repeat (first | exact P0 | apply P1)); exact rfl) | exact HpSub.nil)))⟩
  · have hsame : P ++ (mrg ltS U1 V1 ++ (mrg ltS U2 V2 ++ Q)) = P ++ (mrg ltS U1 V1 ++ (U2 ++ (V2 ++ Q))) := by
      by_cases z1 : 0 < U2.length
      · rw [List.length_eq_zero_iff.1 (show V2.length = 0 by omega), mrg_right]; rfl
      · rw [List.length_eq_zero_iff.1 (show U2.length = 0 by omega), mrg_nil]; rfl
    rw [hsame]
    by_cases z1 : 0 < U2.length
    · repeat' (first | ((with_reducible apply oq_id); first | ((with_reducible apply oq_lssT); exact rfl; exact rfl; omega) | ((with_reducible apply oq_lssF); exact rfl; exact rfl; omega) | (apply oq_fn; exact rfl; try first | exact trivial | (and_intros <;> omega))) | ((with_reducible apply tl_id); first | (with_reducible apply tl_nil) | ((with_reducible apply u_q); (iterate 4 exact rfl))) | ((with_reducible apply t_id); first | (with_reducible apply t_seq) | (apply t_region; kernel_rfl) | ((with_reducible apply t_condF); exact rfl) | (with_reducible apply t_skip)) | with_reducible apply q_thenN | (with_reducible apply end_normal) | exact rvs_nil)
      all_goals exact ⟨rfl, by (repeat (first | exact HpSub.refl _ | (apply HpSub.consE; (repeat (first | exact P0 | apply P1)); exact rfl) | exact HpSub.nil))⟩
    · repeat' (first | ((with_reducible apply oq_id); first | ((with_reducible apply oq_lssF); exact rfl; exact rfl; omega) | (apply oq_fn; exact rfl; try first | exact trivial | (and_intros <;> omega))) | ((with_reducible apply tl_id); first | (with_reducible apply tl_nil) | ((with_reducible apply u_q); (iterate 4 exact rfl)) | ((with_reducible apply u_skip); (iterate 3 exact rfl))) | ((with_reducible apply t_id); first | (with_reducible apply t_seq) | (apply t_region; kernel_rfl) | ((with_reducible apply t_condF); exact rfl) | (with_reducible apply t_skip)) | with_reducible apply q_thenN | (with_reducible apply end_normal) | exact rvs_nil)
      all_goals exact ⟨rfl, by (repeat (first | exact HpSub.refl _ | (apply HpSub.consE; (repeat (first | exact P0 | apply P1)); exact rfl) | exact HpSub.nil))⟩
theorem stable_W (g cp n : Nat) (L : List Sh) (w : World) (hB : Blk w g (shB L) (some (101, 3, cp))) (hn : L.length = n) (hn1 : n ≤ 1000000) :
    Calls Try.prog 136 #[.slice (some ⟨g, 0, none⟩) n cp, .int .i64 (n : Nat), .func (.func 111) #[] #[]] w fun e w' => e = .returned (.tuple #[]) ∧ ExtM [g] w w' ∧ Blk w' g (shB (srtS L)) (some (101, 3, cp)) := by
  refine enterW (c := cxM [g] w 63) Try.func136 rfl rfl rfl rfl hB ?_
  refine t_cut (ι := Unit) (fun _ => [(0, .slice (some ⟨g, 0, none⟩) n cp), (1, .int .i64 (n : Nat)), (2, .func (.func 111) #[] #[]), (6, .int .i64 20)]) (fun _ => [(g, shB (L), some (101, 3, cp))]) (fun _ => True) ?_ ?_
  · repeat' (first | ((with_reducible apply oq_id); first | (apply oq_fn; exact rfl; try first | exact trivial | (and_intros <;> omega))) | ((with_reducible apply tl_id); first | (with_reducible apply tl_nil) | ((with_reducible apply u_q); (iterate 4 exact rfl))) | ((with_reducible apply t_id); first | (apply t_region; kernel_rfl)))
    all_goals exact ⟨rfl, (), trivial, by (repeat (first | exact FrSub.nil | (apply FrSub.cons; exact rfl))), by (repeat (first | exact HpSub.refl _ | (apply HpSub.consE; (repeat (first | exact P0 | apply P1)); exact rfl) | exact HpSub.nil))⟩
  rintro ⟨⟩ -
  refine t_cut (ι := Unit) (fun _ => [(0, .slice (some ⟨g, 0, none⟩) n cp), (1, .int .i64 (n : Nat)), (2, .func (.func 111) #[] #[]), (6, .int .i64 20), (7, .int .i64 0), (8, .int .i64 20)]) (fun _ => [(g, shB (L), some (101, 3, cp))]) (fun _ => True) ?_ ?_
  · repeat' (first | ((with_reducible apply oq_id); first | (apply oq_fn; exact rfl; try first | exact trivial | (and_intros <;> omega))) | ((with_reducible apply tl_id); first | (with_reducible apply tl_nil) | ((with_reducible apply u_q); (iterate 4 exact rfl))) | ((with_reducible apply t_id); first | (apply t_region; kernel_rfl)))
    all_goals exact ⟨rfl, (), trivial, by (repeat (first | exact FrSub.nil | (apply FrSub.cons; exact rfl))), by (repeat (first | exact HpSub.refl _ | (apply HpSub.consE; (repeat (first | exact P0 | apply P1)); exact rfl) | exact HpSub.nil))⟩
  rintro ⟨⟩ -
  refine t_cut (ι := List Sh × List Sh × List Sh) (fun z => [(0, .slice (some ⟨g, 0, none⟩) n cp), (1, .int .i64 (n : Nat)), (2, .func (.func 111) #[] #[]), (6, .int .i64 20), (7, .int .i64 (z.1.length : Nat))]) (fun z => [(g, shB (z.2.1 ++ z.2.2), some (101, 3, cp))]) (fun z => Pf ltS 20 z.1 z.2.1 ∧ L = z.1 ++ z.2.2 ∧ z.2.2.length < 20) ?_ ?_
  · repeat' (first | (with_reducible apply t_block))
    apply t_loopK (ι := List Sh × List Sh × List Sh) [0, 1, 2, 6] (fun z => [(7, .int .i64 (z.1.length : Nat)), (8, .int .i64 ((z.1.length + 20 : Nat) : Int))]) (fun z => [(g, shB (z.2.1 ++ z.2.2), some (101, 3, cp))]) (fun z => Pf ltS 20 z.1 z.2.1 ∧ L = z.1 ++ z.2.2) (fun z => z.2.2.length) (([], [], L))
    (repeat (first | exact KeepF.nil | (apply KeepF.cons; exact rfl) | apply KeepF.skip))
    (repeat (first | exact FrSub.nil | (apply FrSub.cons; exact rfl) | (apply FrSub.consE; exact rfl; (congr 2; first | omega | (simp only; omega) | (simp only [List.length_nil]; omega) | (simp only [List.length_append]; omega)))))
    (repeat (first | exact HpSub.refl _ | (apply HpSub.consE; (repeat (first | exact P0 | apply P1)); exact rfl) | exact HpSub.nil))
    · exact ⟨Pf.zero, rfl⟩
    rintro ⟨A, P, R⟩ ⟨hP, hL⟩
    simp only at hP hL
    try dsimp only
    have hPl := hP.len
    have hLl : A.length + R.length = n := by rw [← hn, hL, List.length_append]
    by_cases hc : 20 ≤ R.length
    · obtain ⟨B, R2, hB2, rfl⟩ : ∃ B R2, B.length = 20 ∧ R = B ++ R2 := ⟨R.take 20, R.drop 20, by simp; omega, (List.take_append_drop _ _).symm⟩
      simp only [List.length_append] at hLl hc
      repeat' (first | ((with_reducible apply oq_id); first | ((with_reducible apply oq_addE (k := ((A.length + 20 + 20 : Nat) : Int))); exact rfl; exact rfl; omega) | ((with_reducible apply oq_leqT); exact rfl; exact rfl; omega) | (apply oq_fn; exact rfl; try first | exact trivial | (and_intros <;> omega))) | ((with_reducible apply tl_id); first | (with_reducible apply tl_nil) | ((with_reducible apply u_s); (iterate 3 exact rfl); (with_reducible apply os_callW (b := g) (k := 138) (hc := Try.call138)); exact rfl; exact rfl; (repeat (first | exact P0 | apply P1)); exact fun D w1 hw1 => ins_W g cp n A.length (A.length + 20) P B R2 w1 (hw1.blkP (by (repeat (first | exact P0 | apply P1)))) hPl (by omega) (by simp only [List.length_append]; omega) hn1) | ((with_reducible apply u_q); (iterate 4 exact rfl))) | ((with_reducible apply t_id); first | (with_reducible apply t_seq) | (apply t_region; kernel_rfl) | ((with_reducible apply t_condT); exact rfl) | (with_reducible apply t_skip) | (with_reducible apply t_block)) | with_reducible apply q_thenN | with_reducible apply q_blockN)
      all_goals (refine ⟨(A ++ B, P ++ srtS B, R2), ⟨hP.snoc hB2, (by rw [hL, List.append_assoc])⟩, (by simp only [List.length_append]; omega), ?_, ?_⟩)
      all_goals first
        | ((try simp only [List.cons_append, List.nil_append]); (repeat (first | exact FrSub.nil | (apply FrSub.cons; exact rfl) | (apply FrSub.consE; exact rfl; (congr 2; first | omega | (simp only; omega) | (simp only [List.length_nil]; omega) | (simp only [List.length_append]; omega))))); done)
        | (simp only [List.append_assoc]; (try simp only [List.cons_append, List.nil_append]); (repeat (first | exact HpSub.refl _ | (apply HpSub.consE; (repeat (first | exact P0 | apply P1)); exact rfl) | exact HpSub.nil)); done)
    · repeat' (first | ((with_reducible apply oq_id); first | ((with_reducible apply oq_leqF); exact rfl; exact rfl; omega) | (apply oq_fn; exact rfl; try first | exact trivial | (and_intros <;> omega))) | ((with_reducible apply tl_id); first | (with_reducible apply tl_nil) | ((with_reducible apply u_q); (iterate 4 exact rfl))) | ((with_reducible apply t_id); first | (with_reducible apply t_seq) | (apply t_region; kernel_rfl) | ((with_reducible apply t_condF); exact rfl) | (with_reducible apply t_exit)) | with_reducible apply q_thenN | with_reducible apply q_thenE | ((with_reducible apply q_blockE); exact rfl))
      all_goals exact ⟨rfl, (A, P, R), ⟨hP, hL, by simp only; omega⟩, by (repeat (first | exact FrSub.nil | (apply FrSub.cons; exact rfl))), by (repeat (first | exact HpSub.refl _ | (apply HpSub.consE; (repeat (first | exact P0 | apply P1)); exact rfl) | exact HpSub.nil))⟩
  rintro ⟨A, P, R⟩ ⟨hP, hL, hR⟩
  simp only at hP hL hR
  try dsimp only
  have hPl := hP.len
  have hLl : A.length + R.length = n := by rw [← hn, hL, List.length_append]
  refine t_cut (ι := List Sh) (fun D0 => [(0, .slice (some ⟨g, 0, none⟩) n cp), (1, .int .i64 (n : Nat)), (2, .func (.func 111) #[] #[]), (6, .int .i64 20)]) (fun D0 => [(g, shB (D0), some (101, 3, cp))]) (fun D0 => Bl ltS 20 L D0) ?_ ?_
  · have hRn : P ++ R = P ++ (R ++ []) := by rw [List.append_nil]
    rw [hRn]
    repeat' (first | ((with_reducible apply oq_id); first | (apply oq_fn; exact rfl; try first | exact trivial | (and_intros <;> omega))) | ((with_reducible apply tl_id); first | (with_reducible apply tl_nil) | ((with_reducible apply u_s); (iterate 3 exact rfl); (with_reducible apply os_callW (b := g) (k := 138) (hc := Try.call138)); exact rfl; exact rfl; (repeat (first | exact P0 | apply P1)); exact fun D w1 hw1 => ins_W g cp n A.length n P R [] w1 (hw1.blkP (by (repeat (first | exact P0 | apply P1)))) hPl (by omega) (by simp only [List.length_append, List.length_nil]; omega) hn1) | ((with_reducible apply u_q); (iterate 4 exact rfl))) | ((with_reducible apply t_id); first | (apply t_region; kernel_rfl)))
    all_goals exact ⟨rfl, P ++ (srtS R ++ []), by (rw [hL, List.append_nil]; exact hP.bl (.last (by omega))), by (repeat (first | exact FrSub.nil | (apply FrSub.cons; exact rfl))), by (repeat (first | exact HpSub.refl _ | (apply HpSub.consE; (repeat (first | exact P0 | apply P1)); exact rfl) | exact HpSub.nil))⟩
  rintro D0 hD0
  try dsimp only
  clear hP hL hR hPl hLl A P R
  repeat' (first | (with_reducible apply t_block))
  apply t_loopK (ι := Nat × List Sh) [0, 1, 2] (fun z => [(6, .int .i64 (z.1 : Nat))]) (fun z => [(g, shB (z.2), some (101, 3, cp))]) (fun z => 20 ≤ z.1 ∧ z.1 ≤ 2000000 ∧ Bl ltS z.1 L z.2) (fun z => n - z.1) ((20, D0))
  (repeat (first | exact KeepF.nil | (apply KeepF.cons; exact rfl) | apply KeepF.skip))
  (repeat (first | exact FrSub.nil | (apply FrSub.cons; exact rfl) | (apply FrSub.consE; exact rfl; (congr 2; first | omega | (simp only; omega) | (simp only [List.length_nil]; omega) | (simp only [List.length_append]; omega)))))
  (repeat (first | exact HpSub.refl _ | (apply HpSub.consE; (repeat (first | exact P0 | apply P1)); exact rfl) | exact HpSub.nil))
  · exact ⟨Nat.le_refl _, (by simp only; omega), hD0⟩
  rintro ⟨s, D⟩ ⟨hs1, hs2, hD⟩
  simp only at hs1 hs2 hD
  try dsimp only
  have hDl := hD.len
  by_cases hsn : s < n
  · refine t_cut (ι := Unit) (fun _ => [(0, .slice (some ⟨g, 0, none⟩) n cp), (1, .int .i64 (n : Nat)), (2, .func (.func 111) #[] #[]), (6, .int .i64 (s : Nat))]) (fun _ => [(g, shB (D), some (101, 3, cp))]) (fun _ => True) ?_ ?_
    · repeat' (first | ((with_reducible apply oq_id); first | ((with_reducible apply oq_lssT); exact rfl; exact rfl; omega) | (apply oq_fn; exact rfl; try first | exact trivial | (and_intros <;> omega))) | ((with_reducible apply tl_id); first | (with_reducible apply tl_nil) | ((with_reducible apply u_q); (iterate 4 exact rfl))) | ((with_reducible apply t_id); first | (with_reducible apply t_seq) | (apply t_region; kernel_rfl) | ((with_reducible apply t_condT); exact rfl) | (with_reducible apply t_skip)) | with_reducible apply q_thenN)
      all_goals exact ⟨rfl, (), trivial, by (repeat (first | exact FrSub.nil | (apply FrSub.cons; exact rfl))), by (repeat (first | exact HpSub.refl _ | (apply HpSub.consE; (repeat (first | exact P0 | apply P1)); exact rfl) | exact HpSub.nil))⟩
    rintro ⟨⟩ -
    refine t_block ?_
    refine t_cut (ι := Unit) (fun _ => [(0, .slice (some ⟨g, 0, none⟩) n cp), (1, .int .i64 (n : Nat)), (2, .func (.func 111) #[] #[]), (6, .int .i64 (s : Nat)), (7, .int .i64 0), (8, .int .i64 (2 * s : Nat))]) (fun _ => [(g, shB (D), some (101, 3, cp))]) (fun _ => True) ?_ ?_
    · repeat' (first | ((with_reducible apply oq_id); first | (focus ((with_reducible apply (oq_mulE (k := ((2 * s : Nat) : Int)))); exact rfl; exact rfl; omega; omega)) | (apply oq_fn; exact rfl; try first | exact trivial | (and_intros <;> omega))) | ((with_reducible apply tl_id); first | (with_reducible apply tl_nil) | ((with_reducible apply u_q); (iterate 4 exact rfl))) | ((with_reducible apply t_id); first | (apply t_region; kernel_rfl)))
      all_goals exact ⟨rfl, (), trivial, by (repeat (first | exact FrSub.nil | (apply FrSub.cons; exact rfl))), by (repeat (first | exact HpSub.refl _ | (apply HpSub.consE; (repeat (first | exact P0 | apply P1)); exact rfl) | exact HpSub.nil))⟩
    rintro ⟨⟩ -
    refine t_cut (ι := List Sh × List Sh × List Sh × List Sh) (fun z => [(0, .slice (some ⟨g, 0, none⟩) n cp), (1, .int .i64 (n : Nat)), (2, .func (.func 111) #[] #[]), (6, .int .i64 (s : Nat)), (7, .int .i64 (z.1.length : Nat))]) (fun z => [(g, shB (z.2.1 ++ z.2.2.2), some (101, 3, cp))]) (fun z => Pf ltS (2 * s) z.1 z.2.1 ∧ Bl ltS s z.2.2.1 z.2.2.2 ∧ L = z.1 ++ z.2.2.1 ∧ z.2.2.1.length < 2 * s) ?_ ?_
    · repeat' (first | (with_reducible apply t_block))
      apply t_loopK (ι := List Sh × List Sh × List Sh × List Sh) [0, 1, 2, 6] (fun z => [(7, .int .i64 (z.1.length : Nat)), (8, .int .i64 ((z.1.length + 2 * s : Nat) : Int))]) (fun z => [(g, shB (z.2.1 ++ z.2.2.2), some (101, 3, cp))]) (fun z => Pf ltS (2 * s) z.1 z.2.1 ∧ Bl ltS s z.2.2.1 z.2.2.2 ∧ L = z.1 ++ z.2.2.1) (fun z => z.2.2.1.length) (([], [], L, D))
      (repeat (first | exact KeepF.nil | (apply KeepF.cons; exact rfl) | apply KeepF.skip))
      (repeat (first | exact FrSub.nil | (apply FrSub.cons; exact rfl) | (apply FrSub.consE; exact rfl; (congr 2; first | omega | (simp only; omega) | (simp only [List.length_nil]; omega) | (simp only [List.length_append]; omega)))))
      (repeat (first | exact HpSub.refl _ | (apply HpSub.consE; (repeat (first | exact P0 | apply P1)); exact rfl) | exact HpSub.nil))
      · exact ⟨Pf.zero, hD, rfl⟩
      rintro ⟨A, P, R, E⟩ ⟨hP, hE, hL⟩
      simp only at hP hE hL
      try dsimp only
      have hPl := hP.len
      have hLl : A.length + R.length = n := by rw [← hn, hL, List.length_append]
      by_cases hc : 2 * s ≤ R.length
      · obtain ⟨B1, R1, E1, hB1, rfl, rfl, hE1⟩ := hE.split (by omega)
        simp only [List.length_append] at hLl hc
        obtain ⟨B2, R2, E2, hB2, rfl, rfl, hE2⟩ := hE1.split' (by omega)
        simp only [List.length_append] at hLl hc
        have el := hE2.len
        have sl1 : (srtS B1).length = s := by rw [srtS, srt_len, hB1]
        have sl2 : (srtS B2).length = s := by rw [srtS, srt_len, hB2]
        repeat' (first | ((with_reducible apply oq_id); first | ((with_reducible apply oq_addE (k := ((A.length + s : Nat) : Int))); exact rfl; exact rfl; omega) | (focus ((with_reducible apply (oq_mulE (k := ((2 * s : Nat) : Int)))); exact rfl; exact rfl; omega; omega)) | ((with_reducible apply oq_addE (k := ((A.length + 2 * s + 2 * s : Nat) : Int))); exact rfl; exact rfl; omega) | ((with_reducible apply oq_leqT); exact rfl; exact rfl; omega) | (apply oq_fn; exact rfl; try first | exact trivial | (and_intros <;> omega))) | ((with_reducible apply tl_id); first | (with_reducible apply tl_nil) | ((with_reducible apply u_s); (iterate 3 exact rfl); (with_reducible apply os_callW (b := g) (k := 139) (hc := Try.call139)); exact rfl; exact rfl; (repeat (first | exact P0 | apply P1)); exact fun D w1 hw1 => sym_W (2 * s) g cp n A.length (A.length + s) (A.length + 2 * s) P (srtS B1) (srtS B2) E2 w1 (by omega) (hw1.blkP (by (repeat (first | exact P0 | apply P1)))) (srt_srt woS _) (srt_srt woS _) (by omega) (by omega) hPl (by omega) (by omega) (by simp only [List.length_append]; omega) hn1) | ((with_reducible apply u_q); (iterate 4 exact rfl))) | ((with_reducible apply t_id); first | (with_reducible apply t_seq) | (apply t_region; kernel_rfl) | ((with_reducible apply t_condT); exact rfl) | (with_reducible apply t_skip) | (with_reducible apply t_block)) | with_reducible apply q_thenN | with_reducible apply q_blockN)
        all_goals (refine ⟨(A ++ (B1 ++ B2), P ++ srtS (B1 ++ B2), R2, E2), ⟨hP.snoc (by rw [List.length_append]; omega), hE2, (by rw [hL]; simp only [List.append_assoc])⟩, (by simp only [List.length_append]; omega), ?_, ?_⟩)
        all_goals first
          | ((try simp only [List.cons_append, List.nil_append]); (repeat (first | exact FrSub.nil | (apply FrSub.cons; exact rfl) | (apply FrSub.consE; exact rfl; (congr 2; first | omega | (simp only; omega) | (simp only [List.length_nil]; omega) | (simp only [List.length_append]; omega))))); done)
          | (rw [show mrg ltS (srtS B1) (srtS B2) = srtS (B1 ++ B2) from srt_app woS B1 B2]; simp only [List.append_assoc]; (try simp only [List.cons_append, List.nil_append]); (repeat (first | exact HpSub.refl _ | (apply HpSub.consE; (repeat (first | exact P0 | apply P1)); exact rfl) | exact HpSub.nil)); done)
      · repeat' (first | ((with_reducible apply oq_id); first | ((with_reducible apply oq_leqF); exact rfl; exact rfl; omega) | (apply oq_fn; exact rfl; try first | exact trivial | (and_intros <;> omega))) | ((with_reducible apply tl_id); first | (with_reducible apply tl_nil) | ((with_reducible apply u_q); (iterate 4 exact rfl))) | ((with_reducible apply t_id); first | (with_reducible apply t_seq) | (apply t_region; kernel_rfl) | ((with_reducible apply t_condF); exact rfl) | (with_reducible apply t_exit)) | with_reducible apply q_thenN | with_reducible apply q_thenE | ((with_reducible apply q_blockE); exact rfl))
        all_goals exact ⟨rfl, (A, P, R, E), ⟨hP, hE, hL, by simp only; omega⟩, by (repeat (first | exact FrSub.nil | (apply FrSub.cons; exact rfl))), by (repeat (first | exact HpSub.refl _ | (apply HpSub.consE; (repeat (first | exact P0 | apply P1)); exact rfl) | exact HpSub.nil))⟩
    rintro ⟨A, P, R, E⟩ ⟨hP, hE, hL, hR⟩
    simp only at hP hE hL hR
    try dsimp only
    have hPl := hP.len
    have hLl : A.length + R.length = n := by rw [← hn, hL, List.length_append]
    refine t_cut (ι := List Sh) (fun D2 => [(0, .slice (some ⟨g, 0, none⟩) n cp), (1, .int .i64 (n : Nat)), (2, .func (.func 111) #[] #[]), (6, .int .i64 (s : Nat))]) (fun D2 => [(g, shB (D2), some (101, 3, cp))]) (fun D2 => Bl ltS (2 * s) L D2) ?_ ?_
    · by_cases hc : s < R.length
      · obtain ⟨B1, R1, E1, hB1, rfl, rfl, hE1⟩ := hE.split hc
        simp only [List.length_append] at hLl hc hR
        obtain rfl := hE1.small (by omega)
        have sl1 : (srtS B1).length = s := by rw [srtS, srt_len, hB1]
        have sl2 : (srtS R1).length = R1.length := by rw [srtS, srt_len]
        have hRn : P ++ (srtS B1 ++ srt ltS R1) = P ++ (srtS B1 ++ (srtS R1 ++ [])) := by rw [List.append_nil]
        rw [hRn]
        repeat' (first | ((with_reducible apply oq_id); first | ((with_reducible apply oq_addE (k := ((A.length + s : Nat) : Int))); exact rfl; exact rfl; omega) | ((with_reducible apply oq_lssT); exact rfl; exact rfl; omega) | (apply oq_fn; exact rfl; try first | exact trivial | (and_intros <;> omega))) | ((with_reducible apply tl_id); first | (with_reducible apply tl_nil) | ((with_reducible apply u_s); (iterate 3 exact rfl); (with_reducible apply os_callW (b := g) (k := 139) (hc := Try.call139)); exact rfl; exact rfl; (repeat (first | exact P0 | apply P1)); exact fun D w1 hw1 => sym_W (s + R1.length) g cp n A.length (A.length + s) n P (srtS B1) (srtS R1) [] w1 (by omega) (hw1.blkP (by (repeat (first | exact P0 | apply P1)))) (srt_srt woS _) (srt_srt woS _) (by omega) (by omega) hPl (by omega) (by omega) (by simp only [List.length_append, List.length_nil]; omega) hn1) | ((with_reducible apply u_q); (iterate 4 exact rfl))) | ((with_reducible apply t_id); first | (with_reducible apply t_seq) | (apply t_region; kernel_rfl) | ((with_reducible apply t_condT); exact rfl)) | with_reducible apply q_thenN)
        all_goals exact ⟨rfl, P ++ (mrg ltS (srtS B1) (srtS R1) ++ []), (by rw [List.append_nil, srt_app woS, hL]; exact hP.bl (.last (by simp only [List.length_append]; omega))), by (repeat (first | exact FrSub.nil | (apply FrSub.cons; exact rfl))), by (repeat (first | exact HpSub.refl _ | (apply HpSub.consE; (repeat (first | exact P0 | apply P1)); exact rfl) | exact HpSub.nil))⟩
      · obtain rfl := hE.small (by omega)
        repeat' (first | ((with_reducible apply oq_id); first | ((with_reducible apply oq_addE (k := ((A.length + s : Nat) : Int))); exact rfl; exact rfl; omega) | ((with_reducible apply oq_lssF); exact rfl; exact rfl; omega) | (apply oq_fn; exact rfl; try first | exact trivial | (and_intros <;> omega))) | ((with_reducible apply tl_id); first | (with_reducible apply tl_nil) | ((with_reducible apply u_q); (iterate 4 exact rfl))) | ((with_reducible apply t_id); first | (with_reducible apply t_seq) | (apply t_region; kernel_rfl) | ((with_reducible apply t_condF); exact rfl) | (with_reducible apply t_skip)) | with_reducible apply q_thenN)
        all_goals exact ⟨rfl, P ++ srt ltS R, (by rw [hL]; exact hP.bl (.last (by omega))), by (repeat (first | exact FrSub.nil | (apply FrSub.cons; exact rfl))), by (repeat (first | exact HpSub.refl _ | (apply HpSub.consE; (repeat (first | exact P0 | apply P1)); exact rfl) | exact HpSub.nil))⟩
    rintro D2 hD2
    try dsimp only
    repeat' (first | ((with_reducible apply oq_id); first | (focus ((with_reducible apply (oq_mulE (k := ((2 * s : Nat) : Int)))); exact rfl; exact rfl; omega; omega)) | (apply oq_fn; exact rfl; try first | exact trivial | (and_intros <;> omega))) | ((with_reducible apply tl_id); first | (with_reducible apply tl_nil) | ((with_reducible apply u_q); (iterate 4 exact rfl))) | ((with_reducible apply t_id); first | (apply t_region; kernel_rfl)) | with_reducible apply q_thenN | with_reducible apply q_blockN)
    all_goals (refine ⟨(2 * s, D2), ⟨(by simp only; omega), (by simp only; omega), hD2⟩, (by simp only; omega), ?_, ?_⟩)
    all_goals first
      | ((try simp only [List.cons_append, List.nil_append]); (repeat (first | exact FrSub.nil | (apply FrSub.cons; exact rfl) | (apply FrSub.consE; exact rfl; (congr 2; first | omega | (simp only; omega) | (simp only [List.length_nil]; omega) | (simp only [List.length_append]; omega))))); done)
      | ((try simp only [List.cons_append, List.nil_append]); (repeat (first | exact HpSub.refl _ | (apply HpSub.consE; (repeat (first | exact P0 | apply P1)); exact rfl) | exact HpSub.nil)); done)
  · rw [← show D = srtS L from hD.small (by omega)]
    repeat' (first | ((with_reducible apply oq_id); first | ((with_reducible apply oq_lssF); exact rfl; exact rfl; omega) | (apply oq_fn; exact rfl; try first | exact trivial | (and_intros <;> omega))) | ((with_reducible apply tl_id); first | (with_reducible apply tl_nil) | ((with_reducible apply u_q); (iterate 4 exact rfl))) | ((with_reducible apply t_id); first | (with_reducible apply t_seq) | (apply t_region; kernel_rfl) | ((with_reducible apply t_condF); exact rfl) | (with_reducible apply t_exit)) | with_reducible apply q_thenN | with_reducible apply q_thenE | ((with_reducible apply q_blockE); exact rfl) | (with_reducible apply end_normal) | exact rvs_nil)
    all_goals exact ⟨rfl, by (repeat (first | exact HpSub.refl _ | (apply HpSub.consE; (repeat (first | exact P0 | apply P1)); exact rfl) | exact HpSub.nil))⟩
theorem sortS_W (g cp n : Nat) (L : List Sh) (w : World) (hB : Blk w g (shB L) (some (101, 3, cp))) (hn : L.length = n) (hn1 : n ≤ 1000000) :
    Calls Try.prog 130 #[.slice (some ⟨g, 0, none⟩) n cp, .func (.func 111) #[] #[]] w fun e w' => e = .returned (.tuple #[]) ∧ ExtM [g] w w' ∧ Blk w' g (shB (srtS L)) (some (101, 3, cp)) := by
  refine enterW (c := cxM [g] w 9) Try.func130 rfl rfl rfl rfl hB ?_
  repeat' (first | ((with_reducible apply oq_id); first | (apply oq_fn; exact rfl; try first | exact trivial | (and_intros <;> omega))) | ((with_reducible apply tl_id); first | (with_reducible apply tl_nil) | ((with_reducible apply u_s); (iterate 3 exact rfl); (with_reducible apply os_callW (b := g) (k := 136) (hc := Try.call136)); exact rfl; exact rfl; (repeat (first | exact P0 | apply P1)); exact fun D w1 hw1 => stable_W g cp n L w1 (hw1.blkP (by (repeat (first | exact P0 | apply P1)))) hn hn1) | ((with_reducible apply u_q); (iterate 4 exact rfl))) | ((with_reducible apply t_id); first | (apply t_region; kernel_rfl)) | (with_reducible apply end_normal) | exact rvs_nil)
  all_goals exact ⟨rfl, by (repeat (first | exact HpSub.refl _ | (apply HpSub.consE; (repeat (first | exact P0 | apply P1)); exact rfl) | exact HpSub.nil))⟩
theorem insNil (w : World) : Calls Try.prog 138 #[.slice none 0 0, .int .i64 0, .int .i64 0, .func (.func 111) #[] #[]] w fun e w' => e = .returned (.tuple #[]) ∧ Ext w w' := by
  refine enterQ (c := cx w 53) Try.func138 rfl rfl rfl rfl ?_
  repeat' (first | ((with_reducible apply oq_id); first | (apply oq_fn; exact rfl; try first | exact trivial | (and_intros <;> omega))) | ((with_reducible apply tl_id); first | (with_reducible apply tl_nil) | ((with_reducible apply u_q); (iterate 4 exact rfl))) | ((with_reducible apply t_id); first | (with_reducible apply t_seq) | (apply t_region; kernel_rfl) | (with_reducible apply t_block)) | with_reducible apply q_thenN)
  apply t_loopK (ι := Unit) [0, 1, 2, 3] (fun _ => [(8, .int .i64 1)]) (fun _ => []) (fun _ => True) (fun _ => 0) (())
  (repeat (first | exact KeepF.nil | (apply KeepF.cons; exact rfl) | apply KeepF.skip))
  (repeat (first | exact FrSub.nil | (apply FrSub.cons; exact rfl)))
  (repeat (first | exact HpSub.refl _ | (apply HpSub.consE; (repeat (first | exact P0 | apply P1)); exact rfl) | exact HpSub.nil))
  · trivial
  rintro ⟨⟩ -
  repeat' (first | ((with_reducible apply oq_id); first | ((with_reducible apply oq_lssF); exact rfl; exact rfl; omega) | (apply oq_fn; exact rfl; try first | exact trivial | (and_intros <;> omega))) | ((with_reducible apply tl_id); first | (with_reducible apply tl_nil) | ((with_reducible apply u_q); (iterate 4 exact rfl))) | ((with_reducible apply t_id); first | (with_reducible apply t_seq) | (apply t_region; kernel_rfl) | ((with_reducible apply t_condF); exact rfl) | (with_reducible apply t_exit)) | with_reducible apply q_thenN | with_reducible apply q_thenE | ((with_reducible apply q_blockE); exact rfl) | (with_reducible apply end_normal) | exact rvs_nil)
  all_goals rfl
theorem stabNil (w : World) : Calls Try.prog 136 #[.slice none 0 0, .int .i64 0, .func (.func 111) #[] #[]] w fun e w' => e = .returned (.tuple #[]) ∧ Ext w w' := by
  refine enterQ (c := cx w 63) Try.func136 rfl rfl rfl rfl ?_
  repeat' (first | ((with_reducible apply oq_id); first | (apply oq_fn; exact rfl; try first | exact trivial | (and_intros <;> omega))) | ((with_reducible apply tl_id); first | (with_reducible apply tl_nil) | ((with_reducible apply u_q); (iterate 4 exact rfl))) | ((with_reducible apply t_id); first | (with_reducible apply t_seq) | (apply t_region; kernel_rfl) | (with_reducible apply t_block)) | with_reducible apply q_thenN)
  apply t_loopK (ι := Unit) [0, 1, 2, 6, 9, 23, 24, 25, 26, 28, 29, 30, 31, 32, 33, 34, 35, 36, 37, 38, 39, 40, 41, 42, 44, 45, 46, 47, 48, 49, 50, 51, 52, 53, 54, 55, 56, 57, 58, 59, 61, 62] (fun _ => [(6, .int .i64 20), (7, .int .i64 0), (8, .int .i64 20)]) (fun _ => []) (fun _ => True) (fun _ => 0) (())
  (repeat (first | exact KeepF.nil | (apply KeepF.cons; exact rfl) | apply KeepF.skip))
  (repeat (first | exact FrSub.nil | (apply FrSub.cons; exact rfl)))
  (repeat (first | exact HpSub.refl _ | (apply HpSub.consE; (repeat (first | exact P0 | apply P1)); exact rfl) | exact HpSub.nil))
  · trivial
  rintro ⟨⟩ -
  repeat' (first | ((with_reducible apply oq_id); first | ((with_reducible apply oq_leqF); exact rfl; exact rfl; omega) | (apply oq_fn; exact rfl; try first | exact trivial | (and_intros <;> omega)) | ((with_reducible apply oq_call (k := 138) (hc := Try.call138)); exact rfl; exact rfl; exact fun D w1 hw1 => insNil w1)) | ((with_reducible apply tl_id); first | (with_reducible apply tl_nil) | ((with_reducible apply u_q); (iterate 4 exact rfl))) | ((with_reducible apply t_id); first | (with_reducible apply t_seq) | (apply t_region; kernel_rfl) | ((with_reducible apply t_condF); exact rfl) | (with_reducible apply t_exit) | (with_reducible apply t_block)) | with_reducible apply q_thenN | with_reducible apply q_thenE | ((with_reducible apply q_blockE); exact rfl))
  apply t_loopK (ι := Unit) [0, 1, 2] (fun _ => [(6, .int .i64 20)]) (fun _ => []) (fun _ => True) (fun _ => 0) (())
  (repeat (first | exact KeepF.nil | (apply KeepF.cons; exact rfl) | apply KeepF.skip))
  (repeat (first | exact FrSub.nil | (apply FrSub.cons; exact rfl)))
  (repeat (first | exact HpSub.refl _ | (apply HpSub.consE; (repeat (first | exact P0 | apply P1)); exact rfl) | exact HpSub.nil))
  · trivial
  rintro ⟨⟩ -
  repeat' (first | ((with_reducible apply oq_id); first | ((with_reducible apply oq_lssF); exact rfl; exact rfl; omega) | (apply oq_fn; exact rfl; try first | exact trivial | (and_intros <;> omega))) | ((with_reducible apply tl_id); first | (with_reducible apply tl_nil) | ((with_reducible apply u_q); (iterate 4 exact rfl))) | ((with_reducible apply t_id); first | (with_reducible apply t_seq) | (apply t_region; kernel_rfl) | ((with_reducible apply t_condF); exact rfl) | (with_reducible apply t_exit)) | with_reducible apply q_thenN | with_reducible apply q_thenE | ((with_reducible apply q_blockE); exact rfl) | (with_reducible apply end_normal) | exact rvs_nil)
  all_goals rfl
theorem sortNil (w : World) : Calls Try.prog 130 #[.slice none 0 0, .func (.func 111) #[] #[]] w fun e w' => e = .returned (.tuple #[]) ∧ Ext w w' := by
  refine enterQ (c := cx w 9) Try.func130 rfl rfl rfl rfl ?_
  repeat' (first | ((with_reducible apply oq_id); first | (apply oq_fn; exact rfl; try first | exact trivial | (and_intros <;> omega)) | ((with_reducible apply oq_call (k := 136) (hc := Try.call136)); exact rfl; exact rfl; exact fun D w1 hw1 => stabNil w1)) | ((with_reducible apply tl_id); first | (with_reducible apply tl_nil) | ((with_reducible apply u_q); (iterate 4 exact rfl))) | ((with_reducible apply t_id); first | (apply t_region; kernel_rfl)) | (with_reducible apply end_normal) | exact rvs_nil)
  all_goals rfl
/-- An arranged roster. -/
def ArrO (S : List Sh) (v : Value) (H : Hp) : Prop := ∃ x, (x = none → S.length = 0) ∧ v = .slice (clA x) S.length (clC x) ∧ H = clH 101 3 (shB S) x
theorem arranged_T (A : Option Addr) (n c : Nat) (l : List Sh) (w : World) (hr : RdS w 3 A n (l.map shCells)) (hA : A = none → n = 0 ∧ c = 0) (hn : n ≤ 1000000) :
    Calls Try.prog 110 #[.slice A n c, .func (.func 111) #[] #[]] w fun e w' => ∃ v H', e = .returned v ∧ ArrO (srtS l) v H' ∧ Has w ⟨[], []⟩ H' w' := by
  have hl := hr.len
  simp only [List.length_map] at hl
  have hsl : (srtS l).length = n := by rw [srtS, srt_len, hl]
  refine enterF (c := cx w 11) Try.func110 rfl rfl rfl rfl ?_
  refine t_cut (ι := Unit) (fun _ => [(0, .slice A n c), (1, .func (.func 111) #[] #[])]) (fun _ => []) (fun _ => True) ?_ ?_
  · repeat' (first | ((with_reducible apply oq_id); first | (apply oq_fn; exact rfl; try first | exact trivial | (and_intros <;> omega))) | ((with_reducible apply tl_id); first | (with_reducible apply tl_nil) | ((with_reducible apply u_q); (iterate 4 exact rfl))) | ((with_reducible apply t_id); first | (apply t_region; kernel_rfl)))
    all_goals exact ⟨rfl, (), trivial, by (repeat (first | exact FrSub.nil | (apply FrSub.cons; exact rfl))), by (repeat (first | exact HpSub.refl _ | (apply HpSub.consE; (repeat (first | exact P0 | apply P1)); exact rfl) | exact HpSub.nil))⟩
  rintro ⟨⟩ -
  refine t_cut (ι := Option (Nat × Nat)) (fun x => [(0, .slice (clA x) n (clC x)), (1, .func (.func 111) #[] #[])]) (fun x => clH 101 3 (shB l) x) (fun x => x = none → n = 0) ?_ ?_
  · repeat' (first | ((with_reducible apply oq_id); first | (apply oq_fn; exact rfl; try first | exact trivial | (and_intros <;> omega))) | ((with_reducible apply tl_id); first | (with_reducible apply tl_nil) | ((with_reducible apply u_s); (iterate 3 exact rfl); (with_reducible apply os_callF (PV := CloneV 101 3 (shB l) n) (k := 89) (hc := Try.call89)); exact rfl; exact rfl; exact fun D w1 hw1 => cloneS_T A n c l w1 (hr.ext hw1.ext.ext) hA hn; rintro v H' ⟨x, hx, rfl, rfl⟩; (try simp only [List.append_nil])) | ((with_reducible apply u_q); (iterate 4 exact rfl))) | ((with_reducible apply t_id); first | (apply t_region; kernel_rfl)))
    all_goals exact ⟨by trivial, x, hx, by (repeat (first | exact FrSub.nil | (apply FrSub.cons; exact rfl))), by (repeat (first | exact HpSub.refl _ | apply HpSub.appC | exact HpSub.nil))⟩
  rintro x hx
  rcases x with _ | ⟨g, cp⟩
  · obtain rfl := hx rfl
    simp only [clA, clC, clH]
    repeat' (first | ((with_reducible apply oq_id); first | (apply oq_fn; exact rfl; try first | exact trivial | (and_intros <;> omega)) | ((with_reducible apply oq_call (k := 130) (hc := Try.call130)); exact rfl; exact rfl; exact fun D w1 hw1 => sortNil w1)) | ((with_reducible apply tl_id); first | (with_reducible apply tl_nil) | ((with_reducible apply u_q); (iterate 4 exact rfl))) | ((with_reducible apply t_id); first | (with_reducible apply t_seq) | (apply t_region; kernel_rfl) | (with_reducible apply t_ret)) | with_reducible apply q_thenN | (with_reducible apply end_ret) | exact rvs_nil | (with_reducible apply rvs_cons) | ((with_reducible apply rv_tmp); exact rfl))
    all_goals exact ⟨_, ⟨none, fun _ => hsl, by rw [hsl]; rfl, rfl⟩, HpSub.nil⟩
  · simp only [clA, clC, clH]
    repeat' (first | ((with_reducible apply oq_id); first | (apply oq_fn; exact rfl; try first | exact trivial | (and_intros <;> omega))) | ((with_reducible apply tl_id); first | (with_reducible apply tl_nil) | ((with_reducible apply u_s); (iterate 3 exact rfl); (with_reducible apply os_callW (b := g) (k := 130) (hc := Try.call130)); exact rfl; exact rfl; (repeat (first | exact P0 | apply P1)); exact fun D w1 hw1 => sortS_W g cp n l w1 (hw1.blkP (by (repeat (first | exact P0 | apply P1)))) hl hn) | ((with_reducible apply u_q); (iterate 4 exact rfl))) | ((with_reducible apply t_id); first | (with_reducible apply t_seq) | (apply t_region; kernel_rfl) | (with_reducible apply t_ret)) | with_reducible apply q_thenN | (with_reducible apply end_ret) | exact rvs_nil | (with_reducible apply rvs_cons) | ((with_reducible apply rv_tmp); exact rfl))
    all_goals exact ⟨_, ⟨some (g, cp), fun h => (by cases h), by rw [hsl]; rfl, rfl⟩, HpSub.refl _⟩
def FitAt (S : List Sh) (i : Nat) : Prop := ∀ x, S[i]? = some x → shOk x ∧ ∀ p, 0 < i → S[i - 1]? = some p → p.who = x.who → p.to ≤ x.fr
theorem fit_all {S : List Sh} : Fit S ↔ ∀ j, j < S.length → FitAt S j := by
  constructor
  · intro h j _ x hx; exact h j x hx
  · intro h i x hx; exact h i (List.getElem?_eq_some_iff.1 hx).1 x hx
theorem allFrom_one {lo hi z : Int} : allFrom lo hi [z] = true ↔ lo ≤ z ∧ z ≤ hi := by
  unfold allFrom; simp
theorem fitsR_calls (A : Option Addr) (n c : Nat) (l : List Sh) (w : World) (hr : RdS w 3 A n (l.map shCells)) (hA : A = none → n = 0 ∧ c = 0) (hn : n ≤ 1000000) :
    Calls Try.prog 84 #[.slice A n c] w fun e w' => e = .returned (.bool (decide (Ros l))) ∧ Ext w w' := by
  have hl := hr.len
  simp only [List.length_map] at hl
  obtain ⟨S, hS⟩ : ∃ S, srtS l = S := ⟨_, rfl⟩
  have hsl : S.length = n := by rw [← hS, srtS, srt_len, hl]
  have hfa : Ros l ↔ ∀ j, j < n → FitAt S j := by rw [← fitS_iff l, hS, fit_all, hsl]
  refine enterQ (c := cx w 63) Try.func84 rfl rfl rfl rfl ?_
  refine t_cut (ι := Unit) (fun _ => [(0, .slice A n c)]) (fun _ => []) (fun _ => True) ?_ ?_
  · repeat' (first | ((with_reducible apply oq_id); first | (apply oq_fn; exact rfl; try first | exact trivial | (and_intros <;> omega))) | ((with_reducible apply tl_id); first | (with_reducible apply tl_nil) | ((with_reducible apply u_q); (iterate 4 exact rfl))) | ((with_reducible apply t_id); first | (apply t_region; kernel_rfl)))
    all_goals exact ⟨rfl, (), trivial, by (repeat (first | exact FrSub.nil | (apply FrSub.cons; exact rfl))), by (repeat (first | exact HpSub.refl _ | (apply HpSub.consE; (repeat (first | exact P0 | apply P1)); exact rfl) | exact HpSub.nil))⟩
  rintro ⟨⟩ -
  refine t_cut (ι := Option (Nat × Nat)) (fun x => [(0, .slice (clA x) n (clC x))]) (fun x => clH 101 3 (shB S) x) (fun x => x = none → n = 0) ?_ ?_
  · repeat' (first | ((with_reducible apply oq_id); first | (apply oq_fn; exact rfl; try first | exact trivial | (and_intros <;> omega))) | ((with_reducible apply tl_id); first | (with_reducible apply tl_nil) | ((with_reducible apply u_s); (iterate 3 exact rfl); (with_reducible apply os_callF (PV := ArrO S) (k := 110) (hc := Try.call110)); exact rfl; exact rfl; exact fun D w1 hw1 => (by rw [← hS]; exact arranged_T A n c l w1 (hr.ext hw1.ext.ext) hA hn); rintro v H' ⟨x, hx, rfl, rfl⟩; (try simp only [List.append_nil])) | ((with_reducible apply u_q); (iterate 4 exact rfl))) | ((with_reducible apply t_id); first | (apply t_region; kernel_rfl)))
    all_goals (rw [hsl] at hx)
    all_goals exact ⟨by trivial, x, hx, by (rw [hsl]; (repeat (first | exact FrSub.nil | (apply FrSub.cons; exact rfl)))), by (repeat (first | exact HpSub.refl _ | apply HpSub.appC | exact HpSub.nil))⟩
  rintro x hx
  rcases x with _ | ⟨g, cp⟩
  · obtain rfl := hx rfl
    simp only [clA, clC, clH]
    rw [decide_eq_true (hfa.2 fun j hj => by omega)]
    repeat' (first | ((with_reducible apply oq_id); first | (apply oq_fn; exact rfl; try first | exact trivial | (and_intros <;> omega))) | ((with_reducible apply tl_id); first | (with_reducible apply tl_nil) | ((with_reducible apply u_q); (iterate 4 exact rfl))) | ((with_reducible apply t_id); first | (with_reducible apply t_seq) | (apply t_region; kernel_rfl) | (with_reducible apply t_block)) | with_reducible apply q_thenN)
    apply t_loopK (ι := Unit) [0, 7, 8] (fun _ => [(9, .int .i64 0)]) (fun _ => []) (fun _ => True) (fun _ => 0) (())
    (repeat (first | exact KeepF.nil | (apply KeepF.cons; exact rfl) | apply KeepF.skip))
    (repeat (first | exact FrSub.nil | (apply FrSub.cons; exact rfl)))
    (repeat (first | exact HpSub.refl _ | (apply HpSub.consE; (repeat (first | exact P0 | apply P1)); exact rfl) | exact HpSub.nil))
    · trivial
    rintro ⟨⟩ -
    repeat' (first | ((with_reducible apply oq_id); first | ((with_reducible apply oq_lssF); exact rfl; exact rfl; omega) | (apply oq_fn; exact rfl; try first | exact trivial | (and_intros <;> omega))) | ((with_reducible apply tl_id); first | (with_reducible apply tl_nil) | ((with_reducible apply u_q); (iterate 4 exact rfl))) | ((with_reducible apply t_id); first | (with_reducible apply t_seq) | (apply t_region; kernel_rfl) | ((with_reducible apply t_condF); exact rfl) | (with_reducible apply t_ret) | (with_reducible apply t_exit)) | with_reducible apply q_thenN | with_reducible apply q_thenE | ((with_reducible apply q_blockE); exact rfl) | (with_reducible apply end_ret) | exact rvs_nil | (with_reducible apply rvs_cons) | ((with_reducible apply rv_tmp); exact rfl))
    all_goals rfl
  · simp only [clA, clC, clH]
    repeat' (first | ((with_reducible apply oq_id); first | (apply oq_fn; exact rfl; try first | exact trivial | (and_intros <;> omega))) | ((with_reducible apply tl_id); first | (with_reducible apply tl_nil) | ((with_reducible apply u_q); (iterate 4 exact rfl))) | ((with_reducible apply t_id); first | (with_reducible apply t_seq) | (apply t_region; kernel_rfl) | (with_reducible apply t_block)) | with_reducible apply q_thenN)
    apply t_loopK (ι := Nat) [0, 7, 8] (fun k => [(9, .int .i64 (k : Nat))]) (fun _ => [(g, shB S, some (101, 3, cp))]) (fun k => k ≤ n ∧ ∀ j, j < k → FitAt S j) (fun k => n - k) (0)
    (repeat (first | exact KeepF.nil | (apply KeepF.cons; exact rfl) | apply KeepF.skip))
    (repeat (first | exact FrSub.nil | (apply FrSub.cons; exact rfl)))
    (repeat (first | exact HpSub.refl _ | (apply HpSub.consE; (repeat (first | exact P0 | apply P1)); exact rfl) | exact HpSub.nil))
    · exact ⟨Nat.zero_le _, fun j hj => by omega⟩
    rintro k ⟨hk, hok⟩
    try simp only [List.cons_append, List.nil_append]
    by_cases hlt : k < n
    · obtain ⟨x, hx⟩ : ∃ x, S[k]? = some x := ⟨_, List.getElem?_eq_getElem (by omega)⟩
      obtain ⟨q0, q1, q2⟩ := sh_at hx
      obtain ⟨q, hq⟩ : ∃ q, allFrom 0 5 [x.who] = q := ⟨_, rfl⟩
      have hno : ¬ FitAt S k → decide (Ros l) = false := fun h => decide_eq_false fun hc => h (hfa.1 hc k hlt)
      cases q with
      | false =>
        have hw : ¬ (0 ≤ x.who ∧ x.who ≤ 5) := by rw [← allFrom_one, hq]; decide
        rw [hno fun h => hw (h x hx).1.1]
        repeat' (first | ((with_reducible apply oq_id); first | (focus ((with_reducible apply oq_indexAddrN); (iterate 4 exact rfl); omega)) | ((with_reducible apply oq_lssT); exact rfl; exact rfl; omega) | (apply oq_fn; exact rfl; try first | exact trivial | (and_intros <;> omega)) | ((with_reducible apply oq_load); exact rfl; exact rfl) | ((with_reducible apply oq_loadAgg); exact rfl; exact rfl) | ((with_reducible apply oq_call (k := 63) (hc := Try.call63)); exact rfl; exact rfl; exact fun D w1 hw1 => fromOne hq hw1 (by (repeat (first | exact P0 | apply P1))))) | ((with_reducible apply tl_id); first | (with_reducible apply tl_nil) | ((with_reducible apply u_q); (iterate 4 exact rfl)) | ((with_reducible apply u_s0); exact rfl; exact rfl) | ((with_reducible apply u_s); (iterate 3 exact rfl))) | ((with_reducible apply gx_id); first | (with_reducible apply v_nil) | ((with_reducible apply v_q); (iterate 3 exact rfl)) | ((with_reducible apply v_skip); (iterate 3 exact rfl))) | ((with_reducible apply os_id); first | ((with_reducible apply os_x); exact rfl) | ((with_reducible apply os_storeAgg); (iterate 5 exact rfl))) | ((with_reducible apply ox_id); first | ((with_reducible apply ox_alloc); exact rfl; intro _) | ((with_reducible apply ox_buildSlice1); (iterate 6 exact rfl); intro _)) | ((with_reducible apply ai_id); first | ((with_reducible apply ai_q); (iterate 5 exact rfl)) | ((with_reducible apply ai_x); (iterate 5 exact rfl))) | ((with_reducible apply rd_id); first | (apply Rd.own; (repeat (first | exact P0 | apply P1)); first | exact q0 | exact q1 | exact q2 | exact r0 | exact r1 | exact r2; done) | (apply Rd.own; (repeat (first | exact P0 | apply P1)); exact rfl; done)) | ((with_reducible apply t_id); first | (apply t_mix (id := 5) [0, 1] 46 #[false, false, false, false, false, false, false, false, false, false, false, false, false, false, false, false, false, false, false, false, false, false, false, false, false, false, false, false, false, false, false, false, false, false, false, false, false, false, false, false, false, false, false, false, false, false, false, false]; kernel_rfl; kernel_rfl; exact rfl) | (with_reducible apply t_seq) | (apply t_region; kernel_rfl) | ((with_reducible apply t_condT); exact rfl) | (with_reducible apply t_ret) | (with_reducible apply t_skip) | (with_reducible apply t_block)) | with_reducible apply q_thenN | with_reducible apply q_thenR | with_reducible apply q_blockR | exact P0 | exact Rdn.zero | apply Rdn.succ | ((with_reducible apply Norm.nil); exact rfl) | ((with_reducible apply Norm.cons); exact rfl) | (with_reducible apply end_ret) | exact rvs_nil | (with_reducible apply rvs_cons) | ((with_reducible apply rv_tmp); exact rfl) | ((with_reducible apply al_id); first | (apply al_more [4, 5, 6, 7, 8, 9, 10, 11, 12, 13, 14, 15, 16, 17, 18, 19, 20, 21, 22, 23, 24, 25, 26, 27, 28, 29, 30, 31, 32, 33, 34, 35, 36, 37, 38, 39, 40, 41, 42, 43, 44, 45, 46, 47] 0; decide +kernel; exact rfl; exact rfl; focus (repeat (first | exact HpSub.refl _ | (apply HpSub.cons; (repeat (first | exact P0 | apply P1))) | apply HpSub.skipX | exact HpSub.nil))) | (apply al_done; decide +kernel) | (apply al_one 2; decide +kernel) | (apply al_one 3; decide +kernel)) | exact Nat.le_of_ble_eq_true rfl)
        all_goals rfl
      | true =>
        have hw : 0 ≤ x.who ∧ x.who ≤ 5 := allFrom_one.1 hq
        by_cases h1 : x.fr < 0
        · rw [hno fun h => by have := (h x hx).1; unfold shOk at this; omega]
          repeat' (first | ((with_reducible apply oq_id); first | (focus ((with_reducible apply oq_indexAddrN); (iterate 4 exact rfl); omega)) | ((with_reducible apply oq_lssT); exact rfl; exact rfl; omega) | (apply oq_fn; exact rfl; try first | exact trivial | (and_intros <;> omega)) | ((with_reducible apply oq_load); exact rfl; exact rfl) | ((with_reducible apply oq_loadAgg); exact rfl; exact rfl) | ((with_reducible apply oq_call (k := 63) (hc := Try.call63)); exact rfl; exact rfl; exact fun D w1 hw1 => fromOne hq hw1 (by (repeat (first | exact P0 | apply P1))))) | ((with_reducible apply tl_id); first | (with_reducible apply tl_nil) | ((with_reducible apply u_q); (iterate 4 exact rfl)) | ((with_reducible apply u_s0); exact rfl; exact rfl) | ((with_reducible apply u_s); (iterate 3 exact rfl))) | ((with_reducible apply gx_id); first | (with_reducible apply v_nil) | ((with_reducible apply v_q); (iterate 3 exact rfl)) | ((with_reducible apply v_skip); (iterate 3 exact rfl))) | ((with_reducible apply os_id); first | ((with_reducible apply os_x); exact rfl) | ((with_reducible apply os_storeAgg); (iterate 5 exact rfl))) | ((with_reducible apply ox_id); first | ((with_reducible apply ox_alloc); exact rfl; intro _) | ((with_reducible apply ox_buildSlice1); (iterate 6 exact rfl); intro _)) | ((with_reducible apply ai_id); first | ((with_reducible apply ai_q); (iterate 5 exact rfl)) | ((with_reducible apply ai_x); (iterate 5 exact rfl))) | ((with_reducible apply rd_id); first | (apply Rd.own; (repeat (first | exact P0 | apply P1)); first | exact q0 | exact q1 | exact q2 | exact r0 | exact r1 | exact r2; done) | (apply Rd.own; (repeat (first | exact P0 | apply P1)); exact rfl; done)) | ((with_reducible apply t_id); first | (apply t_mix (id := 5) [0, 1] 46 #[false, false, false, false, false, false, false, false, false, false, false, false, false, false, false, false, false, false, false, false, false, false, false, false, false, false, false, false, false, false, false, false, false, false, false, false, false, false, false, false, false, false, false, false, false, false, false, false]; kernel_rfl; kernel_rfl; exact rfl) | (with_reducible apply t_seq) | (apply t_region; kernel_rfl) | ((with_reducible apply t_condT); exact rfl) | (with_reducible apply t_ret) | (with_reducible apply t_skip) | (with_reducible apply t_block)) | with_reducible apply q_thenN | with_reducible apply q_thenR | with_reducible apply q_blockR | exact P0 | exact Rdn.zero | apply Rdn.succ | ((with_reducible apply Norm.nil); exact rfl) | ((with_reducible apply Norm.cons); exact rfl) | (with_reducible apply end_ret) | exact rvs_nil | (with_reducible apply rvs_cons) | ((with_reducible apply rv_tmp); exact rfl) | ((with_reducible apply al_id); first | (apply al_more [4, 5, 6, 7, 8, 9, 10, 11, 12, 13, 14, 15, 16, 17, 18, 19, 20, 21, 22, 23, 24, 25, 26, 27, 28, 29, 30, 31, 32, 33, 34, 35, 36, 37, 38, 39, 40, 41, 42, 43, 44, 45, 46, 47] 0; decide +kernel; exact rfl; exact rfl; focus (repeat (first | exact HpSub.refl _ | (apply HpSub.cons; (repeat (first | exact P0 | apply P1))) | apply HpSub.skipX | exact HpSub.nil))) | (apply al_done; decide +kernel) | (apply al_one 2; decide +kernel) | (apply al_one 3; decide +kernel)) | exact Nat.le_of_ble_eq_true rfl)
          all_goals rfl
        by_cases h2 : x.to ≤ x.fr
        · rw [hno fun h => by have := (h x hx).1; unfold shOk at this; omega]
          repeat' (first | ((with_reducible apply oq_id); first | (focus ((with_reducible apply oq_indexAddrN); (iterate 4 exact rfl); omega)) | ((with_reducible apply oq_lssT); exact rfl; exact rfl; omega) | ((with_reducible apply oq_lssF); exact rfl; exact rfl; omega) | ((with_reducible apply oq_geqT); exact rfl; exact rfl; omega) | (apply oq_fn; exact rfl; try first | exact trivial | (and_intros <;> omega)) | ((with_reducible apply oq_load); exact rfl; exact rfl) | ((with_reducible apply oq_loadAgg); exact rfl; exact rfl) | ((with_reducible apply oq_call (k := 63) (hc := Try.call63)); exact rfl; exact rfl; exact fun D w1 hw1 => fromOne hq hw1 (by (repeat (first | exact P0 | apply P1))))) | ((with_reducible apply tl_id); first | (with_reducible apply tl_nil) | ((with_reducible apply u_q); (iterate 4 exact rfl)) | ((with_reducible apply u_s0); exact rfl; exact rfl) | ((with_reducible apply u_s); (iterate 3 exact rfl))) | ((with_reducible apply gx_id); first | (with_reducible apply v_nil) | ((with_reducible apply v_q); (iterate 3 exact rfl)) | ((with_reducible apply v_skip); (iterate 3 exact rfl))) | ((with_reducible apply os_id); first | ((with_reducible apply os_x); exact rfl) | ((with_reducible apply os_storeAgg); (iterate 5 exact rfl))) | ((with_reducible apply ox_id); first | ((with_reducible apply ox_alloc); exact rfl; intro _) | ((with_reducible apply ox_buildSlice1); (iterate 6 exact rfl); intro _)) | ((with_reducible apply ai_id); first | ((with_reducible apply ai_q); (iterate 5 exact rfl)) | ((with_reducible apply ai_x); (iterate 5 exact rfl))) | ((with_reducible apply rd_id); first | (apply Rd.own; (repeat (first | exact P0 | apply P1)); first | exact q0 | exact q1 | exact q2 | exact r0 | exact r1 | exact r2; done) | (apply Rd.own; (repeat (first | exact P0 | apply P1)); exact rfl; done)) | ((with_reducible apply t_id); first | (apply t_mix (id := 5) [0, 1] 46 #[false, false, false, false, false, false, false, false, false, false, false, false, false, false, false, false, false, false, false, false, false, false, false, false, false, false, false, false, false, false, false, false, false, false, false, false, false, false, false, false, false, false, false, false, false, false, false, false]; kernel_rfl; kernel_rfl; exact rfl) | (with_reducible apply t_seq) | (apply t_region; kernel_rfl) | ((with_reducible apply t_condT); exact rfl) | (with_reducible apply t_ret) | (with_reducible apply t_skip) | (with_reducible apply t_block)) | with_reducible apply q_thenN | with_reducible apply q_thenR | with_reducible apply q_blockR | exact P0 | exact Rdn.zero | apply Rdn.succ | ((with_reducible apply Norm.nil); exact rfl) | ((with_reducible apply Norm.cons); exact rfl) | (with_reducible apply end_ret) | exact rvs_nil | (with_reducible apply rvs_cons) | ((with_reducible apply rv_tmp); exact rfl) | ((with_reducible apply al_id); first | (apply al_more [4, 5, 6, 7, 8, 9, 10, 11, 12, 13, 14, 15, 16, 17, 18, 19, 20, 21, 22, 23, 24, 25, 26, 27, 28, 29, 30, 31, 32, 33, 34, 35, 36, 37, 38, 39, 40, 41, 42, 43, 44, 45, 46, 47] 0; decide +kernel; exact rfl; exact rfl; focus (repeat (first | exact HpSub.refl _ | (apply HpSub.cons; (repeat (first | exact P0 | apply P1))) | apply HpSub.skipX | exact HpSub.nil))) | (apply al_done; decide +kernel) | (apply al_one 2; decide +kernel) | (apply al_one 3; decide +kernel)) | exact Nat.le_of_ble_eq_true rfl)
          all_goals rfl
        by_cases h3 : 1000000 < x.to
        · rw [hno fun h => by have := (h x hx).1; unfold shOk at this; omega]
          repeat' (first | ((with_reducible apply oq_id); first | (focus ((with_reducible apply oq_indexAddrN); (iterate 4 exact rfl); omega)) | ((with_reducible apply oq_lssT); exact rfl; exact rfl; omega) | ((with_reducible apply oq_lssF); exact rfl; exact rfl; omega) | ((with_reducible apply oq_geqF); exact rfl; exact rfl; omega) | ((with_reducible apply oq_gtrT); exact rfl; exact rfl; omega) | (apply oq_fn; exact rfl; try first | exact trivial | (and_intros <;> omega)) | ((with_reducible apply oq_load); exact rfl; exact rfl) | ((with_reducible apply oq_loadAgg); exact rfl; exact rfl) | ((with_reducible apply oq_call (k := 63) (hc := Try.call63)); exact rfl; exact rfl; exact fun D w1 hw1 => fromOne hq hw1 (by (repeat (first | exact P0 | apply P1))))) | ((with_reducible apply tl_id); first | (with_reducible apply tl_nil) | ((with_reducible apply u_q); (iterate 4 exact rfl)) | ((with_reducible apply u_s0); exact rfl; exact rfl) | ((with_reducible apply u_s); (iterate 3 exact rfl))) | ((with_reducible apply gx_id); first | (with_reducible apply v_nil) | ((with_reducible apply v_q); (iterate 3 exact rfl)) | ((with_reducible apply v_skip); (iterate 3 exact rfl))) | ((with_reducible apply os_id); first | ((with_reducible apply os_x); exact rfl) | ((with_reducible apply os_storeAgg); (iterate 5 exact rfl))) | ((with_reducible apply ox_id); first | ((with_reducible apply ox_alloc); exact rfl; intro _) | ((with_reducible apply ox_buildSlice1); (iterate 6 exact rfl); intro _)) | ((with_reducible apply ai_id); first | ((with_reducible apply ai_q); (iterate 5 exact rfl)) | ((with_reducible apply ai_x); (iterate 5 exact rfl))) | ((with_reducible apply rd_id); first | (apply Rd.own; (repeat (first | exact P0 | apply P1)); first | exact q0 | exact q1 | exact q2 | exact r0 | exact r1 | exact r2; done) | (apply Rd.own; (repeat (first | exact P0 | apply P1)); exact rfl; done)) | ((with_reducible apply t_id); first | (apply t_mix (id := 5) [0, 1] 46 #[false, false, false, false, false, false, false, false, false, false, false, false, false, false, false, false, false, false, false, false, false, false, false, false, false, false, false, false, false, false, false, false, false, false, false, false, false, false, false, false, false, false, false, false, false, false, false, false]; kernel_rfl; kernel_rfl; exact rfl) | (with_reducible apply t_seq) | (apply t_region; kernel_rfl) | ((with_reducible apply t_condT); exact rfl) | (with_reducible apply t_ret) | (with_reducible apply t_skip) | (with_reducible apply t_block)) | with_reducible apply q_thenN | with_reducible apply q_thenR | with_reducible apply q_blockR | exact P0 | exact Rdn.zero | apply Rdn.succ | ((with_reducible apply Norm.nil); exact rfl) | ((with_reducible apply Norm.cons); exact rfl) | (with_reducible apply end_ret) | exact rvs_nil | (with_reducible apply rvs_cons) | ((with_reducible apply rv_tmp); exact rfl) | ((with_reducible apply al_id); first | (apply al_more [4, 5, 6, 7, 8, 9, 10, 11, 12, 13, 14, 15, 16, 17, 18, 19, 20, 21, 22, 23, 24, 25, 26, 27, 28, 29, 30, 31, 32, 33, 34, 35, 36, 37, 38, 39, 40, 41, 42, 43, 44, 45, 46, 47] 0; decide +kernel; exact rfl; exact rfl; focus (repeat (first | exact HpSub.refl _ | (apply HpSub.cons; (repeat (first | exact P0 | apply P1))) | apply HpSub.skipX | exact HpSub.nil))) | (apply al_done; decide +kernel) | (apply al_one 2; decide +kernel) | (apply al_one 3; decide +kernel)) | exact Nat.le_of_ble_eq_true rfl)
          all_goals rfl
        have hxo : shOk x := ⟨hw, by omega, by omega, by omega⟩
        have hnext : FitAt S k → ∀ j, j < k + 1 → FitAt S j := fun h j hj => by
          by_cases hjk : j = k
          · subst hjk; exact h
          · exact hok j (by omega)
        by_cases h4 : k = 0
        · subst h4
          repeat' (first | ((with_reducible apply oq_id); first | (focus ((with_reducible apply oq_indexAddrN); (iterate 4 exact rfl); omega)) | ((with_reducible apply oq_lssT); exact rfl; exact rfl; omega) | ((with_reducible apply oq_lssF); exact rfl; exact rfl; omega) | ((with_reducible apply oq_geqF); exact rfl; exact rfl; omega) | ((with_reducible apply oq_gtrF); exact rfl; exact rfl; omega) | (apply oq_fn; exact rfl; try first | exact trivial | (and_intros <;> omega)) | ((with_reducible apply oq_load); exact rfl; exact rfl) | ((with_reducible apply oq_loadAgg); exact rfl; exact rfl) | ((with_reducible apply oq_call (k := 63) (hc := Try.call63)); exact rfl; exact rfl; exact fun D w1 hw1 => fromOne hq hw1 (by (repeat (first | exact P0 | apply P1))))) | ((with_reducible apply tl_id); first | (with_reducible apply tl_nil) | ((with_reducible apply u_q); (iterate 4 exact rfl)) | ((with_reducible apply u_s0); exact rfl; exact rfl) | ((with_reducible apply u_s); (iterate 3 exact rfl))) | ((with_reducible apply gx_id); first | (with_reducible apply v_nil) | ((with_reducible apply v_q); (iterate 3 exact rfl)) | ((with_reducible apply v_skip); (iterate 3 exact rfl))) | ((with_reducible apply os_id); first | ((with_reducible apply os_x); exact rfl) | ((with_reducible apply os_storeAgg); (iterate 5 exact rfl))) | ((with_reducible apply ox_id); first | ((with_reducible apply ox_alloc); exact rfl; intro _) | ((with_reducible apply ox_buildSlice1); (iterate 6 exact rfl); intro _)) | ((with_reducible apply ai_id); first | ((with_reducible apply ai_q); (iterate 5 exact rfl)) | ((with_reducible apply ai_x); (iterate 5 exact rfl))) | ((with_reducible apply rd_id); first | (apply Rd.own; (repeat (first | exact P0 | apply P1)); first | exact q0 | exact q1 | exact q2 | exact r0 | exact r1 | exact r2; done) | (apply Rd.own; (repeat (first | exact P0 | apply P1)); exact rfl; done)) | ((with_reducible apply t_id); first | (apply t_mix (id := 5) [0, 1] 46 #[false, false, false, false, false, false, false, false, false, false, false, false, false, false, false, false, false, false, false, false, false, false, false, false, false, false, false, false, false, false, false, false, false, false, false, false, false, false, false, false, false, false, false, false, false, false, false, false]; kernel_rfl; kernel_rfl; exact rfl) | (with_reducible apply t_seq) | (apply t_region; kernel_rfl) | ((with_reducible apply t_condT); exact rfl) | ((with_reducible apply t_condF); exact rfl) | (with_reducible apply t_skip) | (with_reducible apply t_block)) | with_reducible apply q_thenN | with_reducible apply q_blockN | exact P0 | exact Rdn.zero | apply Rdn.succ | ((with_reducible apply Norm.nil); exact rfl) | ((with_reducible apply Norm.cons); exact rfl) | ((with_reducible apply al_id); first | (apply al_more [4, 5, 6, 7, 8, 9, 10, 11, 12, 13, 14, 15, 16, 17, 18, 19, 20, 21, 22, 23, 24, 25, 26, 27, 28, 29, 30, 31, 32, 33, 34, 35, 36, 37, 38, 39, 40, 41, 42, 43, 44, 45, 46, 47] 0; decide +kernel; exact rfl; exact rfl; focus (repeat (first | exact HpSub.refl _ | (apply HpSub.cons; (repeat (first | exact P0 | apply P1))) | apply HpSub.skipX | exact HpSub.nil))) | (apply al_done; decide +kernel) | (apply al_one 2; decide +kernel) | (apply al_one 3; decide +kernel)) | exact Nat.le_of_ble_eq_true rfl)
          all_goals (refine ⟨1, ⟨by omega, hnext fun y hy => by rw [hx] at hy; cases hy; exact ⟨hxo, fun p hp => by omega⟩⟩, (by omega), ?_, ?_⟩ <;> (try simp only [List.cons_append, List.nil_append]) <;> (repeat' (first | exact FrSub.nil | (apply FrSub.cons; exact rfl) | (apply HpSub.consE; (repeat (first | exact P0 | apply P1)); exact rfl) | exact HpSub.nil)))
        obtain ⟨y, hy⟩ : ∃ y, S[k - 1]? = some y := ⟨_, List.getElem?_eq_getElem (by omega)⟩
        obtain ⟨r0, r1, r2⟩ := sh_at hy
        by_cases h5 : y.who = x.who
        · by_cases h6 : y.to ≤ x.fr
          · repeat' (first | ((with_reducible apply oq_id); first | (focus ((with_reducible apply oq_indexAddrN); (iterate 4 exact rfl); omega)) | ((with_reducible apply oq_subE (k := ((k - 1 : Nat) : Int))); exact rfl; exact rfl; omega) | ((with_reducible apply oq_lssT); exact rfl; exact rfl; omega) | ((with_reducible apply oq_lssF); exact rfl; exact rfl; omega) | ((with_reducible apply oq_geqF); exact rfl; exact rfl; omega) | ((with_reducible apply oq_gtrT); exact rfl; exact rfl; omega) | ((with_reducible apply oq_gtrF); exact rfl; exact rfl; omega) | ((with_reducible apply oq_eqlT); exact rfl; exact rfl; omega) | (apply oq_fn; exact rfl; try first | exact trivial | (and_intros <;> omega)) | ((with_reducible apply oq_load); exact rfl; exact rfl) | ((with_reducible apply oq_loadAgg); exact rfl; exact rfl) | ((with_reducible apply oq_call (k := 63) (hc := Try.call63)); exact rfl; exact rfl; exact fun D w1 hw1 => fromOne hq hw1 (by (repeat (first | exact P0 | apply P1))))) | ((with_reducible apply tl_id); first | (with_reducible apply tl_nil) | ((with_reducible apply u_q); (iterate 4 exact rfl)) | ((with_reducible apply u_s0); exact rfl; exact rfl) | ((with_reducible apply u_s); (iterate 3 exact rfl))) | ((with_reducible apply gx_id); first | (with_reducible apply v_nil) | ((with_reducible apply v_q); (iterate 3 exact rfl))) | ((with_reducible apply os_id); first | ((with_reducible apply os_x); exact rfl) | ((with_reducible apply os_storeAgg); (iterate 5 exact rfl))) | ((with_reducible apply ox_id); first | ((with_reducible apply ox_alloc); exact rfl; intro _) | ((with_reducible apply ox_buildSlice1); (iterate 6 exact rfl); intro _)) | ((with_reducible apply ai_id); first | ((with_reducible apply ai_q); (iterate 5 exact rfl)) | ((with_reducible apply ai_x); (iterate 5 exact rfl))) | ((with_reducible apply rd_id); first | (apply Rd.own; (repeat (first | exact P0 | apply P1)); first | exact q0 | exact q1 | exact q2 | exact r0 | exact r1 | exact r2; done) | (apply Rd.own; (repeat (first | exact P0 | apply P1)); exact rfl; done)) | ((with_reducible apply t_id); first | (apply t_mix (id := 5) [0, 1] 46 #[false, false, false, false, false, false, false, false, false, false, false, false, false, false, false, false, false, false, false, false, false, false, false, false, false, false, false, false, false, false, false, false, false, false, false, false, false, false, false, false, false, false, false, false, false, false, false, false]; kernel_rfl; kernel_rfl; exact rfl) | (with_reducible apply t_seq) | (apply t_region; kernel_rfl) | ((with_reducible apply t_condT); exact rfl) | ((with_reducible apply t_condF); exact rfl) | (with_reducible apply t_skip) | (with_reducible apply t_block)) | with_reducible apply q_thenN | with_reducible apply q_blockN | exact P0 | exact Rdn.zero | apply Rdn.succ | ((with_reducible apply Norm.nil); exact rfl) | ((with_reducible apply Norm.cons); exact rfl) | ((with_reducible apply al_id); first | (apply al_more [4, 5, 6, 7, 8, 9, 10, 11, 12, 13, 14, 15, 16, 17, 18, 19, 20, 21, 22, 23, 24, 25, 26, 27, 28, 29, 30, 31, 32, 33, 34, 35, 36, 37, 38, 39, 40, 41, 42, 43, 44, 45, 46, 47] 0; decide +kernel; exact rfl; exact rfl; focus (repeat (first | exact HpSub.refl _ | (apply HpSub.cons; (repeat (first | exact P0 | apply P1))) | apply HpSub.skipX | exact HpSub.nil))) | (apply al_done; decide +kernel) | (apply al_one 2; decide +kernel) | (apply al_one 3; decide +kernel)) | exact Nat.le_of_ble_eq_true rfl)
            all_goals (refine ⟨(k + 1), ⟨by omega, hnext fun z hz => by rw [hx] at hz; cases hz; exact ⟨hxo, fun p _ hp _ => by rw [hy] at hp; cases hp; exact h6⟩⟩, (by omega), ?_, ?_⟩ <;> (try simp only [List.cons_append, List.nil_append]) <;> (repeat' (first | exact FrSub.nil | (apply FrSub.cons; exact rfl) | (apply HpSub.consE; (repeat (first | exact P0 | apply P1)); exact rfl) | exact HpSub.nil)))
          · rw [hno fun h => h6 ((h x hx).2 y (by omega) hy h5)]
            repeat' (first | ((with_reducible apply oq_id); first | (focus ((with_reducible apply oq_indexAddrN); (iterate 4 exact rfl); omega)) | ((with_reducible apply oq_subE (k := ((k - 1 : Nat) : Int))); exact rfl; exact rfl; omega) | ((with_reducible apply oq_lssT); exact rfl; exact rfl; omega) | ((with_reducible apply oq_lssF); exact rfl; exact rfl; omega) | ((with_reducible apply oq_geqF); exact rfl; exact rfl; omega) | ((with_reducible apply oq_gtrT); exact rfl; exact rfl; omega) | ((with_reducible apply oq_gtrF); exact rfl; exact rfl; omega) | ((with_reducible apply oq_eqlT); exact rfl; exact rfl; omega) | (apply oq_fn; exact rfl; try first | exact trivial | (and_intros <;> omega)) | ((with_reducible apply oq_load); exact rfl; exact rfl) | ((with_reducible apply oq_loadAgg); exact rfl; exact rfl) | ((with_reducible apply oq_call (k := 63) (hc := Try.call63)); exact rfl; exact rfl; exact fun D w1 hw1 => fromOne hq hw1 (by (repeat (first | exact P0 | apply P1))))) | ((with_reducible apply tl_id); first | (with_reducible apply tl_nil) | ((with_reducible apply u_q); (iterate 4 exact rfl)) | ((with_reducible apply u_s0); exact rfl; exact rfl) | ((with_reducible apply u_s); (iterate 3 exact rfl))) | ((with_reducible apply gx_id); first | (with_reducible apply v_nil) | ((with_reducible apply v_q); (iterate 3 exact rfl))) | ((with_reducible apply os_id); first | ((with_reducible apply os_x); exact rfl) | ((with_reducible apply os_storeAgg); (iterate 5 exact rfl))) | ((with_reducible apply ox_id); first | ((with_reducible apply ox_alloc); exact rfl; intro _) | ((with_reducible apply ox_buildSlice1); (iterate 6 exact rfl); intro _)) | ((with_reducible apply ai_id); first | ((with_reducible apply ai_q); (iterate 5 exact rfl)) | ((with_reducible apply ai_x); (iterate 5 exact rfl))) | ((with_reducible apply rd_id); first | (apply Rd.own; (repeat (first | exact P0 | apply P1)); first | exact q0 | exact q1 | exact q2 | exact r0 | exact r1 | exact r2; done) | (apply Rd.own; (repeat (first | exact P0 | apply P1)); exact rfl; done)) | ((with_reducible apply t_id); first | (apply t_mix (id := 5) [0, 1] 46 #[false, false, false, false, false, false, false, false, false, false, false, false, false, false, false, false, false, false, false, false, false, false, false, false, false, false, false, false, false, false, false, false, false, false, false, false, false, false, false, false, false, false, false, false, false, false, false, false]; kernel_rfl; kernel_rfl; exact rfl) | (with_reducible apply t_seq) | (apply t_region; kernel_rfl) | ((with_reducible apply t_condT); exact rfl) | (with_reducible apply t_ret) | (with_reducible apply t_skip) | (with_reducible apply t_block)) | with_reducible apply q_thenN | with_reducible apply q_thenR | with_reducible apply q_blockR | exact P0 | exact Rdn.zero | apply Rdn.succ | ((with_reducible apply Norm.nil); exact rfl) | ((with_reducible apply Norm.cons); exact rfl) | (with_reducible apply end_ret) | exact rvs_nil | (with_reducible apply rvs_cons) | ((with_reducible apply rv_tmp); exact rfl) | ((with_reducible apply al_id); first | (apply al_more [4, 5, 6, 7, 8, 9, 10, 11, 12, 13, 14, 15, 16, 17, 18, 19, 20, 21, 22, 23, 24, 25, 26, 27, 28, 29, 30, 31, 32, 33, 34, 35, 36, 37, 38, 39, 40, 41, 42, 43, 44, 45, 46, 47] 0; decide +kernel; exact rfl; exact rfl; focus (repeat (first | exact HpSub.refl _ | (apply HpSub.cons; (repeat (first | exact P0 | apply P1))) | apply HpSub.skipX | exact HpSub.nil))) | (apply al_done; decide +kernel) | (apply al_one 2; decide +kernel) | (apply al_one 3; decide +kernel)) | exact Nat.le_of_ble_eq_true rfl)
            all_goals rfl
        · repeat' (first | ((with_reducible apply oq_id); first | (focus ((with_reducible apply oq_indexAddrN); (iterate 4 exact rfl); omega)) | ((with_reducible apply oq_subE (k := ((k - 1 : Nat) : Int))); exact rfl; exact rfl; omega) | ((with_reducible apply oq_lssT); exact rfl; exact rfl; omega) | ((with_reducible apply oq_lssF); exact rfl; exact rfl; omega) | ((with_reducible apply oq_geqF); exact rfl; exact rfl; omega) | ((with_reducible apply oq_gtrT); exact rfl; exact rfl; omega) | ((with_reducible apply oq_gtrF); exact rfl; exact rfl; omega) | ((with_reducible apply oq_eqlF); exact rfl; exact rfl; omega) | (apply oq_fn; exact rfl; try first | exact trivial | (and_intros <;> omega)) | ((with_reducible apply oq_load); exact rfl; exact rfl) | ((with_reducible apply oq_loadAgg); exact rfl; exact rfl) | ((with_reducible apply oq_call (k := 63) (hc := Try.call63)); exact rfl; exact rfl; exact fun D w1 hw1 => fromOne hq hw1 (by (repeat (first | exact P0 | apply P1))))) | ((with_reducible apply tl_id); first | (with_reducible apply tl_nil) | ((with_reducible apply u_q); (iterate 4 exact rfl)) | ((with_reducible apply u_s0); exact rfl; exact rfl) | ((with_reducible apply u_s); (iterate 3 exact rfl))) | ((with_reducible apply gx_id); first | (with_reducible apply v_nil) | ((with_reducible apply v_q); (iterate 3 exact rfl)) | ((with_reducible apply v_skip); (iterate 3 exact rfl))) | ((with_reducible apply os_id); first | ((with_reducible apply os_x); exact rfl) | ((with_reducible apply os_storeAgg); (iterate 5 exact rfl))) | ((with_reducible apply ox_id); first | ((with_reducible apply ox_alloc); exact rfl; intro _) | ((with_reducible apply ox_buildSlice1); (iterate 6 exact rfl); intro _)) | ((with_reducible apply ai_id); first | ((with_reducible apply ai_q); (iterate 5 exact rfl)) | ((with_reducible apply ai_x); (iterate 5 exact rfl))) | ((with_reducible apply rd_id); first | (apply Rd.own; (repeat (first | exact P0 | apply P1)); first | exact q0 | exact q1 | exact q2 | exact r0 | exact r1 | exact r2; done) | (apply Rd.own; (repeat (first | exact P0 | apply P1)); exact rfl; done)) | ((with_reducible apply t_id); first | (apply t_mix (id := 5) [0, 1] 46 #[false, false, false, false, false, false, false, false, false, false, false, false, false, false, false, false, false, false, false, false, false, false, false, false, false, false, false, false, false, false, false, false, false, false, false, false, false, false, false, false, false, false, false, false, false, false, false, false]; kernel_rfl; kernel_rfl; exact rfl) | (with_reducible apply t_seq) | (apply t_region; kernel_rfl) | ((with_reducible apply t_condT); exact rfl) | ((with_reducible apply t_condF); exact rfl) | (with_reducible apply t_skip) | (with_reducible apply t_block)) | with_reducible apply q_thenN | with_reducible apply q_blockN | exact P0 | exact Rdn.zero | apply Rdn.succ | ((with_reducible apply Norm.nil); exact rfl) | ((with_reducible apply Norm.cons); exact rfl) | ((with_reducible apply al_id); first | (apply al_more [4, 5, 6, 7, 8, 9, 10, 11, 12, 13, 14, 15, 16, 17, 18, 19, 20, 21, 22, 23, 24, 25, 26, 27, 28, 29, 30, 31, 32, 33, 34, 35, 36, 37, 38, 39, 40, 41, 42, 43, 44, 45, 46, 47] 0; decide +kernel; exact rfl; exact rfl; focus (repeat (first | exact HpSub.refl _ | (apply HpSub.cons; (repeat (first | exact P0 | apply P1))) | apply HpSub.skipX | exact HpSub.nil))) | (apply al_done; decide +kernel) | (apply al_one 2; decide +kernel) | (apply al_one 3; decide +kernel)) | exact Nat.le_of_ble_eq_true rfl)
          all_goals (refine ⟨(k + 1), ⟨by omega, hnext fun z hz => by rw [hx] at hz; cases hz; exact ⟨hxo, fun p _ hp hpw => by rw [hy] at hp; cases hp; exact absurd hpw h5⟩⟩, (by omega), ?_, ?_⟩ <;> (try simp only [List.cons_append, List.nil_append]) <;> (repeat' (first | exact FrSub.nil | (apply FrSub.cons; exact rfl) | (apply HpSub.consE; (repeat (first | exact P0 | apply P1)); exact rfl) | exact HpSub.nil)))
    · rw [decide_eq_true (hfa.2 fun j hj => hok j (by omega))]
      repeat' (first | ((with_reducible apply oq_id); first | ((with_reducible apply oq_lssF); exact rfl; exact rfl; omega) | (apply oq_fn; exact rfl; try first | exact trivial | (and_intros <;> omega))) | ((with_reducible apply tl_id); first | (with_reducible apply tl_nil) | ((with_reducible apply u_q); (iterate 4 exact rfl))) | ((with_reducible apply t_id); first | (with_reducible apply t_seq) | (apply t_region; kernel_rfl) | ((with_reducible apply t_condF); exact rfl) | (with_reducible apply t_ret) | (with_reducible apply t_exit)) | with_reducible apply q_thenN | with_reducible apply q_thenE | ((with_reducible apply q_blockE); exact rfl) | (with_reducible apply end_ret) | exact rvs_nil | (with_reducible apply rvs_cons) | ((with_reducible apply rv_tmp); exact rfl))
      all_goals rfl
theorem rosR_calls (A : Option Addr) (n c : Nat) (l : List Sh) (w : World) (hr : RdS w 3 A n (l.map shCells)) (hA : A = none → n = 0 ∧ c = 0) (hn : n ≤ 1000000) :
    Calls Try.prog 46 #[.slice A n c] w fun e w' => e = .returned (.int .i64 (rosE l)) ∧ Ext w w' := by
  have hl := hr.len
  simp only [List.length_map] at hl
  unfold rosE
  by_cases h1 : 40 < l.length
  · rw [if_pos h1]
    refine enterQ (c := cx w 11) Try.func46 rfl rfl rfl rfl ?_
    repeat' (first | ((with_reducible apply oq_id); first | ((with_reducible apply oq_gtrT); exact rfl; exact rfl; omega) | (apply oq_fn; exact rfl; try first | exact trivial | (and_intros <;> omega))) | ((with_reducible apply tl_id); first | (with_reducible apply tl_nil) | ((with_reducible apply u_q); (iterate 4 exact rfl))) | ((with_reducible apply t_id); first | (with_reducible apply t_seq) | (apply t_region; kernel_rfl) | ((with_reducible apply t_condT); exact rfl) | (with_reducible apply t_ret) | (with_reducible apply t_block)) | with_reducible apply q_thenN | with_reducible apply q_thenR | with_reducible apply q_blockR | (with_reducible apply end_ret) | exact rvs_nil | (with_reducible apply rvs_cons) | ((with_reducible apply rv_tmp); exact rfl))
    all_goals rfl
  · rw [if_neg h1]
    have HF := fun w1 h => fitsR_calls A n c l w1 h hA hn
    by_cases h2 : Ros l
    · rw [if_pos h2]
      rw [decide_eq_true h2] at HF
      refine enterQ (c := cx w 11) Try.func46 rfl rfl rfl rfl ?_
      repeat' (first | ((with_reducible apply oq_id); first | ((with_reducible apply oq_gtrF); exact rfl; exact rfl; omega) | (apply oq_fn; exact rfl; try first | exact trivial | (and_intros <;> omega)) | ((with_reducible apply oq_call (k := 84) (hc := Try.call84)); exact rfl; exact rfl; exact fun D w1 hw1 => HF w1 (hr.ext hw1.ext.ext))) | ((with_reducible apply tl_id); first | (with_reducible apply tl_nil) | ((with_reducible apply u_q); (iterate 4 exact rfl))) | ((with_reducible apply t_id); first | (with_reducible apply t_seq) | (apply t_region; kernel_rfl) | ((with_reducible apply t_condF); exact rfl) | (with_reducible apply t_ret) | (with_reducible apply t_skip) | (with_reducible apply t_block)) | with_reducible apply q_thenN | with_reducible apply q_blockN | (with_reducible apply end_ret) | exact rvs_nil | (with_reducible apply rvs_cons) | ((with_reducible apply rv_tmp); exact rfl))
      all_goals rfl
    · rw [if_neg h2]
      rw [decide_eq_false h2] at HF
      refine enterQ (c := cx w 11) Try.func46 rfl rfl rfl rfl ?_
      repeat' (first | ((with_reducible apply oq_id); first | ((with_reducible apply oq_gtrF); exact rfl; exact rfl; omega) | (apply oq_fn; exact rfl; try first | exact trivial | (and_intros <;> omega)) | ((with_reducible apply oq_call (k := 84) (hc := Try.call84)); exact rfl; exact rfl; exact fun D w1 hw1 => HF w1 (hr.ext hw1.ext.ext))) | ((with_reducible apply tl_id); first | (with_reducible apply tl_nil) | ((with_reducible apply u_q); (iterate 4 exact rfl))) | ((with_reducible apply t_id); first | (with_reducible apply t_seq) | (apply t_region; kernel_rfl) | ((with_reducible apply t_condT); exact rfl) | ((with_reducible apply t_condF); exact rfl) | (with_reducible apply t_ret) | (with_reducible apply t_block)) | with_reducible apply q_thenN | with_reducible apply q_thenR | with_reducible apply q_blockR | (with_reducible apply end_ret) | exact rvs_nil | (with_reducible apply rvs_cons) | ((with_reducible apply rv_tmp); exact rfl))
      all_goals rfl
end Go.Proofs.Ytmlmgipngbndgaa
namespace Go.Proofs.Ytmlmgipngbndgaa
theorem minS_nonneg (who fr to : Int) (y : Sh) : 0 ≤ minS who fr to y := by unfold minS; split <;> omega
theorem sum_nonneg {α : Type} {f : α → Int} : ∀ {l : List α}, (∀ x ∈ l, 0 ≤ f x) → 0 ≤ (l.map f).sum
  | [], _ => Int.le_refl _
  | a :: l, h => by
    rw [List.map_cons, List.sum_cons]
    have := h a List.mem_cons_self
    have := sum_nonneg fun x hx => h x (List.mem_cons_of_mem _ hx)
    omega
theorem sum_perm {α : Type} (f : α → Int) {l m : List α} (h : l.Perm m) : (l.map f).sum = (m.map f).sum := by
  induction h with
  | nil => rfl
  | cons x _ ih => rw [List.map_cons, List.sum_cons, List.map_cons, List.sum_cons, ih]
  | swap x y l => simp only [List.map_cons, List.sum_cons]; omega
  | trans _ _ h1 h2 => rw [h1, h2]
theorem work_perm {l m : List Sh} (h : l.Perm m) (who fr to : Int) : workV l who fr to = workV m who fr to := sum_perm _ h
theorem work_nonneg (l : List Sh) (who fr to : Int) : 0 ≤ workV l who fr to := sum_nonneg fun y _ => minS_nonneg _ _ _ y
theorem work_app (l m : List Sh) (who fr to : Int) : workV (l ++ m) who fr to = workV l who fr to + workV m who fr to := by
  unfold workV; rw [List.map_append, List.sum_append]
/-- A case, told without an order. -/
def Cas (d : Du) (l : List Sh) (y : Ti) : Prop := ∃ x ∈ l, y.who = x.who ∧ y.at_ = x.fr ∧
  ((y.kind = 1 ∧ x.to - x.fr > d.most) ∨ (y.kind = 2 ∧ ∃ p ∈ l, p.who = x.who ∧ p.to ≤ x.fr ∧ x.fr - p.to < d.rest) ∨ (y.kind = 3 ∧ workV l x.who x.fr (x.fr + d.win) > d.sum))
theorem Cas.perm {d : Du} {l m : List Sh} (h : l.Perm m) {y : Ti} (hc : Cas d l y) : Cas d m y := by
  obtain ⟨x, hx, h1, h2, h3⟩ := hc
  refine ⟨x, h.mem_iff.1 hx, h1, h2, ?_⟩
  rcases h3 with h3 | ⟨h3, p, hp, h4⟩ | ⟨h3, h4⟩
  · exact .inl h3
  · exact .inr (.inl ⟨h3, p, h.mem_iff.1 hp, h4⟩)
  · exact .inr (.inr ⟨h3, by rw [← work_perm h]; exact h4⟩)
theorem rest_iff {d : Du} {S : List Sh} (hs : Srt ltS S) (hf : Fit S) {i : Nat} {x : Sh} (hx : S[i]? = some x) : restB d S i x = true ↔ ∃ p ∈ S, p.who = x.who ∧ p.to ≤ x.fr ∧ x.fr - p.to < d.rest := by
  obtain ⟨hi, rfl⟩ := List.getElem?_eq_some_iff.1 hx
  constructor
  · intro h
    unfold restB at h
    simp only [Bool.and_eq_true, decide_eq_true_eq] at h
    obtain ⟨h0, h1⟩ := h
    have hp : S[i - 1]? = some S[i - 1] := List.getElem?_eq_getElem (by omega)
    rw [hp] at h1
    simp only [Bool.and_eq_true, decide_eq_true_eq] at h1
    exact ⟨S[i - 1], List.getElem_mem _, h1.1, (hf i _ hx).2 _ h0 hp h1.1, h1.2⟩
  · rintro ⟨p, hp, h1, h2, h3⟩
    obtain ⟨j, hj, rfl⟩ := List.getElem_of_mem hp
    have hpo := (hf j _ (List.getElem?_eq_getElem hj)).1
    unfold shOk at hpo
    have hxo := (hf i _ hx).1
    unfold shOk at hxo
    have hji : j < i := by
      refine Decidable.by_contra fun hc => ?_
      by_cases hij : i = j
      · subst hij; omega
      · have := ltS_no.1 (List.pairwise_iff_getElem.1 hs i j hi hj (by omega)); omega
    have hq : S[i - 1]? = some S[i - 1] := List.getElem?_eq_getElem (by omega)
    have hqo := (hf (i - 1) _ hq).1
    unfold shOk at hqo
    have s1 := ltS_no.1 (List.pairwise_iff_getElem.1 hs (i - 1) i (by omega) hi (by omega))
    have hqw : S[i - 1].who = S[i].who ∧ S[j].to ≤ S[i - 1].to := by
      by_cases hjq : j = i - 1
      · subst hjq; exact ⟨h1, Int.le_refl _⟩
      · have s2 := ltS_no.1 (List.pairwise_iff_getElem.1 hs j (i - 1) hj (by omega) (by omega))
        have hw : S[j].who = S[i - 1].who := by omega
        have := hf.before hs (show j < i - 1 by omega) (List.getElem?_eq_getElem hj) hq hw
        omega
    unfold restB
    rw [hq]
    simp only [Bool.and_eq_true, decide_eq_true_eq]
    omega
theorem mem_casV {d : Du} {S : List Sh} {i : Nat} {x : Sh} {y : Ti} : y ∈ casV d S i x ↔ y.who = x.who ∧ y.at_ = x.fr ∧ ((y.kind = 1 ∧ x.to - x.fr > d.most) ∨ (y.kind = 2 ∧ restB d S i x = true) ∨ (y.kind = 3 ∧ workV S x.who x.fr (x.fr + d.win) > d.sum)) := by
  obtain ⟨k, w, a⟩ := y
  unfold casV
  simp only [List.mem_append]
  have e : ∀ (p : Prop) [Decidable p] (u : Ti), (⟨k, w, a⟩ : Ti) ∈ (if p then [u] else []) ↔ (⟨k, w, a⟩ : Ti) = u ∧ p := fun p _ u => by
    by_cases h : p <;> simp [h]
  rw [e, e, e]
  simp only [Ti.mk.injEq]
  constructor
  · rintro (⟨⟨rfl, rfl, rfl⟩, h⟩ | ⟨⟨rfl, rfl, rfl⟩, h⟩ | ⟨⟨rfl, rfl, rfl⟩, h⟩)
    · exact ⟨rfl, rfl, .inl ⟨rfl, h⟩⟩
    · exact ⟨rfl, rfl, .inr (.inl ⟨rfl, h⟩)⟩
    · exact ⟨rfl, rfl, .inr (.inr ⟨rfl, h⟩)⟩
  · rintro ⟨rfl, rfl, ⟨rfl, h⟩ | ⟨rfl, h⟩ | ⟨rfl, h⟩⟩
    · exact .inl ⟨⟨rfl, rfl, rfl⟩, h⟩
    · exact .inr (.inl ⟨⟨rfl, rfl, rfl⟩, h⟩)
    · exact .inr (.inr ⟨⟨rfl, rfl, rfl⟩, h⟩)
theorem mem_tiTo {d : Du} {S : List Sh} {y : Ti} : ∀ {k : Nat}, y ∈ tiTo d S k ↔ ∃ i x, i < k ∧ S[i]? = some x ∧ y ∈ casV d S i x
  | 0 => by
    constructor
    · intro h; cases h
    · rintro ⟨i, x, h, _⟩; omega
  | k + 1 => by
    show y ∈ tiTo d S k ++ casAt d S k ↔ _
    rw [List.mem_append, mem_tiTo]
    unfold casAt
    constructor
    · rintro (⟨i, x, h1, h2, h3⟩ | h)
      · exact ⟨i, x, by omega, h2, h3⟩
      · cases hx : S[k]? with
        | none => rw [hx] at h; cases h
        | some x => rw [hx] at h; exact ⟨k, x, by omega, hx, h⟩
    · rintro ⟨i, x, h1, h2, h3⟩
      by_cases hik : i = k
      · subst hik; right; rw [h2]; exact h3
      · exact .inl ⟨i, x, by omega, h2, h3⟩
theorem mem_tiV {d : Du} {l : List Sh} (h : Ros l) {y : Ti} : y ∈ tiV d l ↔ Cas d l y := by
  have hs := srt_srt woS l
  have hp := srt_perm (lt := ltS) l
  have hf := (fitS_iff l).2 h
  unfold tiV
  rw [mem_tiTo]
  constructor
  · rintro ⟨i, x, h1, h2, h3⟩
    obtain ⟨e1, e2, e3⟩ := mem_casV.1 h3
    refine Cas.perm hp ⟨x, List.mem_of_getElem? h2, e1, e2, ?_⟩
    rcases e3 with e3 | ⟨e3, e4⟩ | e3
    · exact .inl e3
    · exact .inr (.inl ⟨e3, (rest_iff hs hf h2).1 e4⟩)
    · exact .inr (.inr e3)
  · intro hc
    obtain ⟨x, hx, e1, e2, e3⟩ := hc.perm hp.symm
    obtain ⟨i, hi, rfl⟩ := List.getElem_of_mem hx
    have hix : (srtS l)[i]? = some (srtS l)[i] := List.getElem?_eq_getElem hi
    refine ⟨i, _, by have := srt_len (lt := ltS) l; omega, hix, mem_casV.2 ⟨e1, e2, ?_⟩⟩
    rcases e3 with e3 | ⟨e3, e4⟩ | e3
    · exact .inl e3
    · exact .inr (.inl ⟨e3, (rest_iff hs hf hix).2 e4⟩)
    · exact .inr (.inr e3)
/-! The order of shifts does not matter -/
theorem Ros.perm {l m : List Sh} (h : l.Perm m) (hr : Ros l) : Ros m := ⟨fun x hx => hr.1 x (h.mem_iff.2 hx), (h.pairwise_iff (R := fun x y => ¬ lap x y) (fun {x y} h1 h2 => h1 (lap_symm h2))).1 hr.2⟩
theorem Ros.sub {l m : List Sh} (h : Ros (l ++ m)) : Ros l := ⟨fun x hx => h.1 x (List.mem_append_left _ hx), (List.pairwise_append.1 h.2).1⟩
/-- One more shift takes no case away. -/
theorem Cas.more {d : Du} {l : List Sh} {y : Ti} (hc : Cas d l y) (m : List Sh) : Cas d (l ++ m) y := by
  obtain ⟨x, hx, h1, h2, h3⟩ := hc
  refine ⟨x, List.mem_append_left _ hx, h1, h2, ?_⟩
  rcases h3 with h3 | ⟨h3, p, hp, h4⟩ | ⟨h3, h4⟩
  · exact .inl h3
  · exact .inr (.inl ⟨h3, p, List.mem_append_left _ hp, h4⟩)
  · refine .inr (.inr ⟨h3, ?_⟩)
    rw [work_app]
    have := work_nonneg m x.who x.fr (x.fr + d.win)
    omega
/-! Windows -/
end Go.Proofs.Ytmlmgipngbndgaa
namespace Go.Proofs.Ytmlmgipngbndgaa
open Go.RowKit
attribute [local irreducible] TR OQ OS OX Rd T TL GX GL AL AI RV wpG SAny Calls
theorem Has.capge {w0 : World} {M : Ms} {H H' : Hp} {w : World} {b e s cap : Nat} {C : List Value} (h : Has w0 M H w) (p : Pick H b C (some (e, s, cap)) H') : C.length ≤ cap * s := by
  obtain ⟨c, t, h1, h2, h3⟩ := (h.blk _ p.mem).2
  simp only [TgOk] at h3
  rw [← h3.2.1]
  by_cases hl : C.length = 0
  · omega
  · have hx : C[C.length - 1]? = some C[C.length - 1] := List.getElem?_eq_getElem (by omega)
    have := (Array.getElem?_eq_some_iff.1 (h2 _ _ hx)).1
    omega
end Go.Proofs.Ytmlmgipngbndgaa
