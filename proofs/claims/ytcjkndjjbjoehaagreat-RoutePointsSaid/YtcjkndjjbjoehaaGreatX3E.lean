/- A part of the proof: rules for walks, and contracts of functions (5). -/
import Derived.Test.YtcjkndjjbjoehaaGreatX3A
import Derived.Test.YtcjkndjjbjoehaaGreatX3D
import Derived.Test.YtcjkndjjbjoehaaGreatX3C
set_option linter.unusedVariables false
set_option linter.unusedSimpArgs false
set_option maxRecDepth 100000
set_option maxHeartbeats 2000000
namespace Go.Proofs.YtcjkndjjbjoehaaGreat
open Go.RowKit
attribute [local irreducible] OQ OS OX Rd T TL GX GL AL AI RV wpG SAny Calls
theorem tmod_down {a b : Int} (hb : 0 < b) : (a.tmod b < 0 → a / b = a.tdiv b - 1) ∧ (¬ a.tmod b < 0 → a / b = a.tdiv b) := by
  have h := down_eq (a := a) hb
  have e := Int.mul_tdiv_add_tmod a b
  rw [Int.mul_comm] at e
  exact ⟨fun h1 => h.1 (by omega), fun h1 => h.2 (by omega)⟩
theorem floor_calls (a b : Int) (hb : 0 < b) (hb1 : b ≤ 1000000) (ha : -1000000000000 ≤ a ∧ a ≤ 1000000000000) (w : World) : Calls Tryz.prog 178 #[.int .i64 a, .int .i64 b] w fun e w' => e = .returned (.int .i64 (a / b)) ∧ Ext w w' := by
  have hq := tdiv_abs hb ha
  have hd := tmod_down (a := a) hb
  have r1 : InR (a.tdiv b) := ⟨by omega, by omega⟩
  refine enterQ (c := cx w 22) Tryz.func178 rfl rfl rfl rfl ?_
  ((all_goals refine goG0 ?_); (all_goals constructor); (any_goals exact trivial); all_goals intros)
  · rw [hd.1 (by assumption)]; rfl
  · rw [hd.2 (by assumption)]; rfl
theorem ceil_calls (a b : Int) (hb : 0 < b) (hb1 : b ≤ 1000000) (ha : -1000000000000 ≤ a ∧ a ≤ 1000000000000) (w : World) : Calls Tryz.prog 179 #[.int .i64 a, .int .i64 b] w fun e w' => e = .returned (.int .i64 (-(-a / b))) ∧ Ext w w' := by
  have hq := ediv_abs hb (a := -a) (m := 1000000000000) (by omega)
  refine enterQ (c := cx w 10) Tryz.func179 rfl rfl rfl rfl ?_
  ((all_goals refine goG0 ?_); (all_goals constructor); (any_goals exact trivial); all_goals intros)
  all_goals rfl
theorem lines_calls (A : Option Addr) (n c : Nat) (t : List Kn) (x : Int) (w : World) (hr : RdS w 3 A n (t.map knCells)) (ht : TabOk t) (hx : -100000 ≤ x ∧ x ≤ 100000) :
    Calls Tryz.prog 177 #[.slice A n c, .int .i64 x] w fun e w' => e = .returned (.tuple #[.int .i64 (atV t x).1, .int .i64 (atV t x).2]) ∧ Ext w w' := by
  have hl := hr.len
  simp only [List.length_map] at hl
  have l2 := ht.l2
  have l32 := ht.l32
  refine enterQ (c := cx w 76) Tryz.func177 rfl rfl rfl rfl ?_
  ((all_goals refine goG0 ?_); (all_goals constructor); (any_goals exact trivial); all_goals intros)
  apply t_loopK (ι := Nat) [0, 1, 4, 5, 7, 8, 9, 10, 28, 29, 30, 31, 32, 33, 34, 35, 36, 37, 38, 39, 40, 41, 42, 43, 44, 45, 46, 47, 48, 49, 50, 51, 52, 53, 54, 55, 56, 57, 58, 59, 60, 61, 62, 63, 64, 65, 66, 67, 68, 69, 70, 71, 72, 73, 74, 75] (fun i => [(6, .int .i64 (i : Int))]) (fun _ => []) (fun i => i + 2 ≤ n ∧ (i = 0 ∨ ∀ k, t[i]? = some k → k.x ≤ x)) (fun i => n - i) (0)
  (repeat (first | exact KeepF.nil | (apply KeepF.cons; exact rfl) | apply KeepF.skip))
  (repeat (first | exact FrSub.nil | (apply FrSub.cons; exact rfl)))
  (repeat (first | exact HpSub.refl _ | (apply HpSub.consE; (repeat (first | exact P0 | apply P1)); exact rfl) | exact HpSub.nil))
  · exact ⟨by omega, .inl rfl⟩
  rintro i ⟨hi, hix⟩
  try simp only [List.cons_append, List.nil_append]
  obtain ⟨ba, oa, a, rfl, hba, ha, c0, c1, c2⟩ := kn_read hr (show i < n by omega)
  obtain ⟨bb, ob, b, hA, _, hb, d0, d1, d2⟩ := kn_read hr (show i + 1 < n by omega)
  obtain ⟨rfl, rfl⟩ : bb = ba ∧ ob = oa := by simpa using hA.symm
  by_cases hgo : i + 2 < n ∧ b.x ≤ x
  · obtain ⟨g1, g2⟩ := hgo
    ((all_goals refine goG0 ?_); (all_goals constructor); (any_goals exact trivial); all_goals intros)
    all_goals (refine ⟨i + 1, ⟨by omega, .inr (fun k hk => (by rw [hb] at hk; have := Option.some.inj hk; rw [← this]; exact g2))⟩, by omega, ?_, ?_⟩ <;> (try simp only [List.cons_append, List.nil_append]) <;> (repeat' (first | exact FrSub.nil | (apply FrSub.cons; exact rfl) | exact HpSub.refl _)))
  · have oka := ht.at_ ha
    have okb := ht.at_ hb
    have hab := ht.inc.at_ (Nat.lt_succ_self i) ha hb
    have hval : atV t x = lineV a b x := by
      refine atV_seg ht.inc ha hb ?_ ?_
      · rcases hix with h | h
        · exact .inl h
        · exact .inr (h a ha)
      · by_cases h0 : i + 2 = t.length
        · exact .inl h0
        · exact .inr (by omega)
    obtain ⟨M1, M2, D1, D2⟩ := line_bounds oka okb hab hx
    have e0 : (x - a.x) * (b.hi - a.hi) = -((x - a.x) * (a.hi - b.hi)) := by rw [← Int.mul_neg]; congr 1; omega
    have M3 : -1000000000000 ≤ (x - a.x) * (b.hi - a.hi) ∧ (x - a.x) * (b.hi - a.hi) ≤ 1000000000000 := by rw [e0]; omega
    have k1 : InR ((x - a.x) * (b.lo - a.lo)) := ⟨by omega, by omega⟩
    have k2 : InR ((x - a.x) * (b.hi - a.hi)) := ⟨by omega, by omega⟩
    have hhi : (lineV a b x).2 = a.hi + -(-((x - a.x) * (b.hi - a.hi)) / (b.x - a.x)) := by unfold lineV; simp only; rw [e0, Int.neg_neg]; omega
    have D3 : -1000000000001 ≤ -(-((x - a.x) * (b.hi - a.hi)) / (b.x - a.x)) ∧ -(-((x - a.x) * (b.hi - a.hi)) / (b.x - a.x)) ≤ 1000000000001 := by rw [e0, Int.neg_neg]; omega
    rw [hval, hhi]
    clear hval hhi e0
    repeat' (first | ((with_reducible apply oq_id); first | ((with_reducible apply oq_addE (k := ((i + 1 : Nat) : Int))); exact rfl; exact rfl; omega) | ((with_reducible apply oq_addE (k := ((i + 2 : Nat) : Int))); exact rfl; exact rfl; omega) | (focus ((with_reducible apply oq_indexAddrN); exact rfl; exact rfl; exact rfl; exact rfl; omega)) | (apply oq_fn; exact rfl; first | exact trivial | (refine ⟨?_, ?_⟩ <;> omega) | (refine ⟨?_, ?_, ?_⟩ <;> omega) | omega | skip) | ((with_reducible apply oq_load); exact rfl; exact rfl) | ((with_reducible apply oq_loadAgg); exact rfl; exact rfl)) | ((with_reducible apply tl_id); first | ((with_reducible apply tl_nil)) | ((with_reducible apply u_q); exact rfl; exact rfl; exact rfl; exact rfl) | ((with_reducible apply u_skip); exact rfl; exact rfl; exact rfl) | ((with_reducible apply u_splitD); exact rfl; exact rfl; all_goals first | (intro hp; try (exfalso; omega)) | skip)) | ((with_reducible apply gx_id); first | ((with_reducible apply v_nil)) | ((with_reducible apply v_q); exact rfl; exact rfl; exact rfl)) | ((with_reducible apply os_id); first | ((with_reducible apply os_storeAgg); exact rfl; exact rfl; exact rfl; exact rfl; exact rfl)) | ((with_reducible apply ox_id); first | ((with_reducible apply ox_alloc); exact rfl; intro _)) | ((with_reducible apply ai_id); first | ((with_reducible apply ai_x); exact rfl; exact rfl; exact rfl; exact rfl; exact rfl) | ((with_reducible apply ai_n0); exact rfl; exact rfl; exact rfl)) | ((with_reducible apply al_keep); focus (repeat (first | exact HpSub.refl _ | (apply HpSub.cons; (repeat (first | exact P0 | apply P1))) | exact HpSub.nil))) | ((with_reducible apply rd_id); first | (apply Rd.old; (first | (with_reducible assumption) | exact c0 | exact c1 | exact c2 | exact d0 | exact d1 | exact d2); first | exact List.not_mem_nil)) | ((with_reducible apply t_id); first | (with_reducible apply t_cutK (ι := (Nat × Nat)) (rid := 4) [0, 1, 4, 5] (fun i => [(7, .pointer (some ⟨i.1, 0, none⟩)), (8, .pointer (some ⟨i.2, 0, none⟩))]) (fun i => [(i.1, knCells a, some (212, 3, 1)), (i.2, knCells b, some (212, 3, 1))])); (repeat (first | exact KeepF.nil | (apply KeepF.cons; exact rfl) | apply KeepF.skip)) | ((with_reducible apply t_seq)) | (apply t_region; kernel_rfl) | ((with_reducible apply t_condF); exact rfl) | ((with_reducible apply t_condD); exact rfl; all_goals first | (intro hp; try (exfalso; omega)) | skip) | ((with_reducible apply t_exit))) | with_reducible apply q_thenN | with_reducible apply q_thenE | ((with_reducible apply q_blockE); exact rfl) | exact P0 | ((with_reducible apply P1)) | exact Rdn.zero | apply Rdn.succ | ((with_reducible apply Norm.nil); exact rfl) | ((with_reducible apply Norm.cons); exact rfl) | ((with_reducible apply cut_in2) <;> (repeat' (first | exact FrSub.nil | (apply FrSub.cons; exact rfl) | exact HpSub.refl _ | (apply HpSub.consE; (repeat (first | exact P0 | apply P1)); exact rfl) | exact HpSub.nil))) | (apply t_mix (id := 4) [0, 1, 2, 3, 4, 5, 6, 7, 8] 4 #[false, false, false, false, false, false, false, false, false, false, false, false, false]; kernel_rfl; kernel_rfl; exact rfl) | ((with_reducible apply al_id); first | (apply al_done; decide +kernel) | (apply al_one 9; decide +kernel) | (apply al_one 10; decide +kernel) | (apply al_one 11; decide +kernel) | (apply al_one 12; decide +kernel) | (apply al_two 9 10; decide +kernel)) | exact Nat.le_of_ble_eq_true rfl)
    all_goals
      rintro ⟨b6, b7⟩
      try simp only [List.cons_append, List.nil_append]
      ((all_goals refine goG0 ?_); (all_goals constructor); (any_goals exact trivial); all_goals intros)
      all_goals rfl
theorem table_ok (A : Option Addr) (n c : Nat) (t : List Kn) (w : World) (hr : RdS w 3 A n (t.map knCells)) (ht : TabOk t) :
    Calls Tryz.prog 176 #[.slice A n c] w fun e w' => e = .returned (.bool true) ∧ Ext w w' := by
  have hl := hr.len
  simp only [List.length_map] at hl
  have l2 := ht.l2
  have l32 := ht.l32
  refine enterQ (c := cx w 61) Tryz.func176 rfl rfl rfl rfl ?_
  ((all_goals refine goG0 ?_); (all_goals constructor); (any_goals exact trivial); all_goals intros)
  apply t_loopK (ι := Nat) [0] (fun k => [(3, .int .i64 (k : Nat))]) (fun _ => []) (fun k => k ≤ n) (fun k => n - k) (0)
  (repeat (first | exact KeepF.nil | (apply KeepF.cons; exact rfl) | apply KeepF.skip))
  (repeat (first | exact FrSub.nil | (apply FrSub.cons; exact rfl)))
  (repeat (first | exact HpSub.refl _ | (apply HpSub.consE; (repeat (first | exact P0 | apply P1)); exact rfl) | exact HpSub.nil))
  · omega
  intro k hk
  try simp only [List.cons_append, List.nil_append]
  by_cases hlt : k < n
  · obtain ⟨b, o, y, rfl, _, hy, c0, c1, c2⟩ := kn_read hr hlt
    have oky := ht.at_ hy
    cases k with
    | zero =>
      ((all_goals refine goG0 ?_); (all_goals constructor); (any_goals exact trivial); all_goals intros)
      all_goals (refine ⟨1, by omega, by omega, ?_, ?_⟩ <;> (try simp only [List.cons_append, List.nil_append]) <;> (repeat' (first | exact FrSub.nil | (apply FrSub.cons; exact rfl) | exact HpSub.nil)))
    | succ j =>
      obtain ⟨b', o', x, hA, _, hx, d0, d1, d2⟩ := kn_read hr (show j < n by omega)
      obtain ⟨rfl, rfl⟩ : b' = b ∧ o' = o := by simpa using hA.symm
      have hxy := ht.inc.at_ (Nat.lt_succ_self j) hx hy
      ((all_goals refine goG0 ?_); (all_goals constructor); (any_goals exact trivial); all_goals intros)
      all_goals (refine ⟨j + 1 + 1, by omega, by omega, ?_, ?_⟩ <;> (try simp only [List.cons_append, List.nil_append]) <;> (repeat' (first | exact FrSub.nil | (apply FrSub.cons; exact rfl) | exact HpSub.nil)))
  · ((all_goals refine goG0 ?_); (all_goals constructor); (any_goals exact trivial); all_goals intros)
    all_goals rfl
def accR (t : List Kn) (p q : Int) (k : Nat) : Int × Int := hullA (hullS (atV t p) (atV t q)) (((t.take k).filter (kInR p q)).map Kn.val)
theorem accR_zero (t : List Kn) (p q : Int) : accR t p q 0 = hullS (atV t p) (atV t q) := by simp [accR, hullA]
theorem accR_all {t : List Kn} (ht : TabOk t) {p q : Int} {k : Nat} (h : t.length ≤ k) : accR t p q k = valV t p q := by unfold accR; rw [List.take_of_length_le h]; exact valV_closed ht.inc ht.l2
theorem accR_yes {t : List Kn} {p q : Int} {k : Nat} {x : Kn} (h : t[k]? = some x) (h1 : p ≤ x.x) (h2 : x.x ≤ q) : accR t p q (k + 1) = hullS (accR t p q k) x.val := by
  unfold accR hullA
  rw [List.take_add_one, h, List.filter_append, List.map_append, List.foldl_append]
  simp [kInR, h1, h2]
theorem accR_no {t : List Kn} {p q : Int} {k : Nat} {x : Kn} (h : t[k]? = some x) (h1 : ¬ (p ≤ x.x ∧ x.x ≤ q)) : accR t p q (k + 1) = accR t p q k := by
  unfold accR hullA
  rw [List.take_add_one, h, List.filter_append, List.map_append, List.foldl_append]
  have : kInR p q x = false := by simp [kInR]; omega
  simp [this]
theorem refValue_calls (A : Option Addr) (n c : Nat) (t : List Kn) (p q : Int) (w : World) (hr : RdS w 3 A n (t.map knCells)) (ht : TabOk t) (h0 : ∀ k, t[0]? = some k → k.x ≤ p) (hpq : p ≤ q) (hl : ∀ k, t[n - 1]? = some k → q ≤ k.x) :
    Calls Tryz.prog 174 #[.slice A n c, .agg #[.int .i64 p, .int .i64 q]] w fun e w' => e = .returned (.tuple #[.agg #[.int .i64 (valV t p q).1, .int .i64 (valV t p q).2], .int .i64 0]) ∧ Ext w w' := by
  have hlen := hr.len
  simp only [List.length_map] at hlen
  have l2 := ht.l2
  have l32 := ht.l32
  obtain ⟨m, rfl⟩ : ∃ m, n = m + 1 := ⟨n - 1, by omega⟩
  obtain ⟨b, o, k0, rfl, _, hk0, c0, c1, c2⟩ := kn_read hr (show 0 < m + 1 by omega)
  obtain ⟨b', o', km, hA, _, hkm, d0, d1, d2⟩ := kn_read hr (show m < m + 1 by omega)
  obtain ⟨rfl, rfl⟩ : b' = b ∧ o' = o := by simpa using hA.symm
  have hp0 := h0 k0 hk0
  have hq0 := hl km hkm
  have ok0 := ht.at_ hk0
  have okm := ht.at_ hkm
  have HC := fun w1 => valid_calls (p, q) w1
  rw [(fineS_iff (p, q)).2 ⟨hpq, by simp only; omega, by simp only; omega⟩] at HC
  have HP := fun w1 (hx : Ext w w1) => lines_calls _ _ c t p w1 (hr.ext hx) ht (by omega)
  have HQ := fun w1 (hx : Ext w w1) => lines_calls _ _ c t q w1 (hr.ext hx) ht (by omega)
  refine enterQ (c := cx w 97) Tryz.func174 rfl rfl rfl rfl ?_
  ((all_goals refine goG0 ?_); (all_goals constructor); (any_goals exact trivial); all_goals intros)
  rename_i b10
  clear c0 c1 c2 d0 d1 d2 HP HQ HC
  apply t_loopK (ι := Nat) [0, 3, 4, 5, 10, 96] (fun k => [(11, .int .i64 (k : Nat))]) (fun k => [(b10, [.int .i64 (accR t p q k).1, .int .i64 (accR t p q k).2], some (27, 2, 1))]) (fun k => k ≤ m + 1) (fun k => m + 1 - k) (0)
  (repeat (first | exact KeepF.nil | (apply KeepF.cons; exact rfl) | apply KeepF.skip))
  (repeat (first | exact FrSub.nil | (apply FrSub.cons; exact rfl)))
  (repeat (first | exact HpSub.refl _ | (apply HpSub.consE; (repeat (first | exact P0 | apply P1)); first | exact rfl | ((rw [accR_zero]; rfl))) | exact HpSub.nil))
  · omega
  intro k hk
  try simp only [List.cons_append, List.nil_append]
  by_cases hlt : k < m + 1
  · obtain ⟨b1, o1, y, hA, _, hy, c0, c1, c2⟩ := kn_read hr hlt
    obtain ⟨rfl, rfl⟩ : b1 = b' ∧ o1 = o' := by simpa using hA.symm
    by_cases h1 : p ≤ y.x ∧ y.x ≤ q
    · have he := accR_yes hy h1.1 h1.2
      repeat' (first | ((with_reducible apply oq_id); first | (focus ((with_reducible apply oq_indexAddrN); exact rfl; exact rfl; exact rfl; exact rfl; omega)) | (apply oq_fn; exact rfl; first | exact trivial | (refine ⟨?_, ?_⟩ <;> omega) | (refine ⟨?_, ?_, ?_⟩ <;> omega) | omega | skip) | ((with_reducible apply oq_load); exact rfl; exact rfl) | ((with_reducible apply oq_call (k := 165) (hc := Tryz.call165)); exact rfl; exact rfl; exact fun D w1 hw1 => within1_calls _ _ _ w1) | ((with_reducible apply oq_build); exact rfl; exact rfl; exact rfl)) | ((with_reducible apply tl_id); first | ((with_reducible apply tl_nil)) | ((with_reducible apply u_q); exact rfl; exact rfl; exact rfl; exact rfl)) | ((with_reducible apply gx_id); first | ((with_reducible apply v_nil)) | ((with_reducible apply v_q); exact rfl; exact rfl; exact rfl)) | ((with_reducible apply os_id); first | ((with_reducible apply os_storeAgg); exact rfl; exact rfl; exact rfl; exact rfl; exact rfl)) | ((with_reducible apply ai_id); first | ((with_reducible apply ai_s0); exact rfl; exact rfl; exact rfl; exact rfl)) | ((with_reducible apply rd_id); first | (apply Rd.own; (repeat (first | exact P0 | apply P1)); exact rfl; done) | (apply Rd.old; (first | (with_reducible assumption) | exact c0 | exact c1 | exact c2 | exact d0 | exact d1 | exact d2); first | exact List.not_mem_nil)) | ((with_reducible apply t_id); first | ((with_reducible apply t_seq)) | (apply t_region; kernel_rfl) | (apply t_drawn; kernel_rfl; decide +kernel) | ((with_reducible apply t_condD); exact rfl; all_goals first | (intro hp; try (exfalso; omega)) | skip) | ((with_reducible apply t_skip)) | ((with_reducible apply t_block))) | with_reducible apply q_thenN | with_reducible apply q_blockN | exact P0 | ((with_reducible apply Norm.nil); exact rfl) | ((with_reducible apply Norm.cons); exact rfl) | (apply t_mix (id := 14) [0, 1, 2, 3, 4, 5, 6, 7, 8, 9, 10, 11, 12, 13, 14, 15, 16, 17, 18] 1 #[false, false, false, false, false, false, false, false, false, false, false, false, false, false, false, false, false, false, false, true]; kernel_rfl; kernel_rfl; exact rfl) | ((with_reducible apply al_id); first | (apply al_done; decide +kernel) | (apply al_one 19; decide +kernel)) | exact Nat.le_of_ble_eq_true rfl)
      all_goals (refine ⟨k + 1, by omega, by omega, ?_, ?_⟩ <;> (try simp only [List.cons_append, List.nil_append]) <;> (repeat' (first | exact FrSub.nil | (apply FrSub.cons; exact rfl) | exact HpSub.refl _ | (apply HpSub.consE; (repeat (first | exact P0 | apply P1)); first | exact rfl | (rw [he]; rfl)))))
    · have he := accR_no (t := t) (p := p) (q := q) hy h1
      ((all_goals refine goG0 ?_); (all_goals constructor); (any_goals exact trivial); all_goals intros)
      all_goals (refine ⟨k + 1, by omega, by omega, ?_, ?_⟩ <;> (try simp only [List.cons_append, List.nil_append]) <;> (repeat' (first | exact FrSub.nil | (apply FrSub.cons; exact rfl) | exact HpSub.refl _ | (apply HpSub.consE; (repeat (first | exact P0 | apply P1)); first | exact rfl | (rw [he])))))
  · have he : accR t p q k = valV t p q := accR_all ht (by omega)
    ((all_goals refine goG0 ?_); (all_goals constructor); (any_goals exact trivial); all_goals intros)
    rw [he]
    all_goals rfl
theorem steady_calls (e : Bool) (A : Option Addr) (n c : Nat) (l : List Gl) (p q : Int) (w : World) (hr : RdS w 6 A n (l.map glCells)) (hW : Wnd l) (hpq : p ≤ q) :
    Calls Tryz.prog 168 #[.slice A n c, .agg #[.int .i64 p, .int .i64 q], .bool e] w fun u w' => u = .returned (.agg #[.int .i64 (steadyV e l p q).1, .int .i64 (steadyV e l p q).2]) ∧ Ext w w' := by
  have hl := hr.len
  simp only [List.length_map] at hl
  have hn0 : 0 < n := by have := hW.n1; omega
  have hn16 : n ≤ 16 := by have := hW.n16; omega
  refine enterQ (c := cx w 80) Tryz.func168 rfl rfl rfl rfl ?_
  ((all_goals refine goG0 ?_); (all_goals constructor); (any_goals exact trivial); all_goals intros)
  apply t_loopK (ι := (Nat × Option (Nat × Nat))) [0, 2, 4, 6, 10, 11, 12, 43, 44, 45, 46, 47, 48, 49, 50, 51, 52, 53, 54, 55, 56, 57, 58, 59, 60, 61, 62, 63, 64, 65, 66, 67, 68, 69, 70, 71, 72, 73, 74, 75, 76, 77, 78, 79] (GFr 7 8) (GHp e l) (GPi n) (fun i => n - i.1) ((0, none))
  (repeat (first | exact KeepF.nil | (apply KeepF.cons; exact rfl) | apply KeepF.skip))
  (repeat (first | exact FrSub.nil | (apply FrSub.cons; exact rfl)))
  (repeat (first | exact HpSub.refl _ | (apply HpSub.consE; (repeat (first | exact P0 | apply P1)); exact rfl) | exact HpSub.nil))
  · exact rfl
  rintro ⟨k, i⟩ hi
  dsimp only
  rcases i with _ | ⟨g, cap⟩
  · obtain rfl : k = 0 := hi
    simp only [GFr, GHp, List.cons_append, List.nil_append]
    obtain ⟨b, o, x, rfl, _, hx, c0, c1, c2, c3, c4, c5⟩ := gl_read hr hn0
    cases e
    all_goals (
      ((all_goals refine goG0 ?_); (all_goals constructor); (any_goals exact trivial); all_goals intros)
      rename_i bs bg cg
      refine ⟨(1, some (bg, cg)), ⟨by omega, by omega⟩, by simp only; omega, ?_, ?_⟩
      · simp only [GFr, List.cons_append, List.nil_append]
        (repeat (first | exact FrSub.nil | (apply FrSub.cons; exact rfl)))
      · simp only [GHp, List.cons_append, List.nil_append]
        (repeat (first | exact HpSub.refl _ | (apply HpSub.consE; (repeat (first | exact P0 | apply P1)); first | exact rfl | ((rw [tabG_snoc hx]; rfl))) | exact HpSub.nil)))
  · obtain ⟨h0, hk⟩ : 0 < k ∧ k ≤ n := hi
    simp only [GFr, GHp, List.cons_append, List.nil_append]
    by_cases hlt : k < n
    · obtain ⟨b, o, x, rfl, _, hx, c0, c1, c2, c3, c4, c5⟩ := gl_read hr hlt
      have hC := tabG_len (e := e) hl (Nat.le_of_lt hlt)
      cases e
      all_goals (
        ((all_goals refine goG0 ?_); (all_goals constructor); (any_goals exact trivial); all_goals intros)
        rename_i bs bg cg
        refine ⟨(k + 1, some (bg, cg)), ⟨by omega, by omega⟩, by simp only; omega, ?_, ?_⟩
        · simp only [GFr, List.cons_append, List.nil_append]
          (repeat (first | exact FrSub.nil | (apply FrSub.cons; exact rfl)))
        · simp only [GHp, List.cons_append, List.nil_append]
          (repeat (first | exact HpSub.refl _ | (apply HpSub.consE; (repeat (first | exact P0 | apply P1)); first | exact rfl | (first | (rw [tabG_snoc hx]; rfl) | rw [tabG_snoc hx])) | exact HpSub.nil)))
    · obtain rfl : k = n := by omega
      have ht : l.take k = l := List.take_of_length_le (by omega)
      rw [ht]
      obtain ⟨b, o, x, rfl, _, hx, c0, c1, c2, c3, c4, c5⟩ := gl_read hr hn0
      obtain ⟨b', o', y, hA, _, hy, d0, d1, d2, d3, d4, d5⟩ := gl_read hr (show k - 1 < k by omega)
      obtain ⟨rfl, rfl⟩ : b = b' ∧ o = o' := by simpa using hA
      have hxy := hW.mono hx hy (by omega)
      obtain ⟨t0, t1, t2⟩ := tabG_cell (e := e) hx
      have ef : hAt l 0 = x.h := by unfold hAt; rw [hx]
      have el : hAt l (l.length - 1) = y.h := by unfold hAt; rw [hl, hy]
      by_cases h1 : k = 1
      · have hv : steadyV e l p q = partG e x := by unfold steadyV; rw [if_pos (by omega), hx]
        rw [hv]
        ((all_goals refine goG0 ?_); (all_goals constructor); (any_goals exact trivial); all_goals intros)
        all_goals rfl
      · have hv : steadyV e l p q = valV (tabG e l) (min (max p x.h) y.h) (min (max q x.h) y.h) := by unfold steadyV clampG; rw [if_neg (by omega), ef, el]
        have hlt2 := hxy.2 (by omega)
        rw [hv]
        ((all_goals refine goG0 ?_); (all_goals constructor); (any_goals exact trivial); all_goals intros)
        all_goals rfl
theorem wide_calls (b : Nat) (g p q : Int) (hp : -3000000000000 ≤ p ∧ p ≤ 3000000000000) (hq : -3000000000000 ≤ q ∧ q ≤ 3000000000000) (hg : 0 ≤ g ∧ g ≤ 500) (w : World) (m0 : w.cell? ⟨b, 0, none⟩ = some (.int .i64 g)) :
    Calls Tryz.prog 93 #[.agg #[.int .i64 p, .int .i64 q], .pointer (some ⟨b, 0, none⟩)] w fun u w' => u = .returned (.agg #[.int .i64 (p - g), .int .i64 (q + g)]) ∧ Ext w w' := by
  refine enterQ (c := cx w 13) Tryz.func93 rfl rfl rfl rfl ?_
  ((all_goals refine goG0 ?_); (all_goals constructor); (any_goals exact trivial); all_goals intros)
  all_goals rfl
theorem wide1 {w0 : World} {M : Ms} {H H1 : Hp} {w1 : World} {b : Nat} {g p q : Int} {tg : Tg} (hp : -3000000000000 ≤ p ∧ p ≤ 3000000000000) (hq : -3000000000000 ≤ q ∧ q ≤ 3000000000000) (hg : 0 ≤ g ∧ g ≤ 500) (hw : Has w0 M H w1) (p1 : Pick H b [.int .i64 g] tg H1) :
    Calls Tryz.prog 93 #[.agg #[.int .i64 p, .int .i64 q], .pointer (some ⟨b, 0, none⟩)] w1 fun u w' => u = .returned (.agg #[.int .i64 (p - g), .int .i64 (q + g)]) ∧ Ext w1 w' :=
  wide_calls b g p q hp hq hg w1 (hw.cellAt p1 rfl)
def widen (g : Int) (s : Int × Int) : Int × Int := (s.1 - g, s.2 + g)
/-- The wind between two heights. -/
def windV (l : List Gl) (p q : Int) : (Int × Int) × (Int × Int) × Int :=
  if windB l then (if fineS (p, q) then (widen (gustV l p q) (steadyV true l p q), widen (gustV l p q) (steadyV false l p q), 0) else ((0, 0), (0, 0), 10)) else ((0, 0), (0, 0), 22)
def windO (v : (Int × Int) × (Int × Int) × Int) : Value := .tuple #[.agg #[.int .i64 v.1.1, .int .i64 v.1.2, .int .i64 v.2.1.1, .int .i64 v.2.1.2], .int .i64 v.2.2]
def Big (s : Int × Int) : Prop := -3000000000000 ≤ s.1 ∧ s.1 ≤ 3000000000000 ∧ -3000000000000 ≤ s.2 ∧ s.2 ≤ 3000000000000
theorem atV_big : ∀ {t : List Kn}, Incr t → (∀ k ∈ t, -100000 ≤ k.x ∧ k.x ≤ 100000 ∧ -100000 ≤ k.lo ∧ k.lo ≤ k.hi ∧ k.hi ≤ 100000) → ∀ {x : Int}, -100000 ≤ x ∧ x ≤ 100000 → Big (atV t x)
  | [], _, _, x, hx => by unfold atV Big; simp
  | [a], _, _, x, hx => by unfold atV Big; simp
  | a :: b :: r, .cons h k, hk, x, hx => by
    unfold atV
    split
    · have ha := hk a (by simp)
      have hb := hk b (by simp)
      have := line_bounds ha hb h hx
      unfold Big lineV
      simp only
      omega
    · exact atV_big k (fun y hy => hk y (List.mem_cons_of_mem _ hy)) hx
theorem valV_big {t : List Kn} (ht : TabOk t) {p q : Int} (hp : -100000 ≤ p ∧ p ≤ 100000) (hq : -100000 ≤ q ∧ q ≤ 100000) : Big (valV t p q) := by
  have h1 := atV_big ht.inc ht.ok hp
  have h2 := atV_big ht.inc ht.ok hq
  have h3 : SIn (valV t p q) (-3000000000000, 3000000000000) := by
    unfold valV
    refine hullA_least (hullS_least ?_ ?_) ?_
    · exact ⟨h1.1, h1.2.2.2⟩
    · exact ⟨h2.1, h2.2.2.2⟩
    · intro y hy
      obtain ⟨k, hk, rfl⟩ := List.mem_map.1 hy
      have := ht.ok k ((List.mem_filter.1 hk).1)
      exact ⟨by show _ ≤ k.lo; simp only; omega, by show k.hi ≤ _; simp only; omega⟩
  have h4 : SIn (hullS (atV t p) (atV t q)) (valV t p q) := hullA_mono
  have h5 := (hullS_left (atV t p) (atV t q)).trans h4
  obtain ⟨a1, a2⟩ := h3
  obtain ⟨b1, b2⟩ := h5
  obtain ⟨c1, c2, c3, c4⟩ := h1
  simp only at a1 a2
  exact ⟨by omega, by omega, by omega, by omega⟩
theorem steady_big {e : Bool} {l : List Gl} {p q : Int} (hW : Wnd l) : Big (steadyV e l p q) := by
  have hn := hW.n1
  have hx : l[0]? = some l[0] := List.getElem?_eq_getElem (by omega)
  have hy : l[l.length - 1]? = some l[l.length - 1] := List.getElem?_eq_getElem (by omega)
  have b1 := hW.ok _ (List.mem_of_getElem? hx)
  have b2 := hW.ok _ (List.mem_of_getElem? hy)
  unfold steadyV
  split
  · rw [hx]
    unfold Big
    cases e <;> simp only [partG] <;> omega
  · have ef : hAt l 0 = l[0].h := by unfold hAt; rw [hx]
    have el : hAt l (l.length - 1) = l[l.length - 1].h := by unfold hAt; rw [hy]
    refine valV_big (hW.tab (by omega)) ?_ ?_ <;> (unfold clampG; rw [ef, el]; omega)
theorem refCheckG_calls (a b : Int) (w : World) : Calls Tryz.prog 166 #[.agg #[.int .i64 a, .int .i64 b]] w fun e w' => e = .returned (.int .i64 (if fineS (a, b) then 0 else 10)) ∧ Ext w w' := by
  have HV := fun w1 => valid_calls (a, b) w1
  generalize fineS (a, b) = q at HV
  refine enterQ (c := cx w 6) Tryz.func166 rfl rfl rfl rfl ?_
  ((all_goals refine goG0 ?_); (all_goals constructor); (any_goals exact trivial); all_goals intros)
  all_goals (cases q <;> first | rfl | simp_all)
theorem refWind_calls (A : Option Addr) (n c : Nat) (l : List Gl) (p q : Int) (w : World) (hr : RdS w 6 A n (l.map glCells)) (hn : n ≤ 1000000) :
    Calls Tryz.prog 149 #[.slice A n c, .agg #[.int .i64 p, .int .i64 q]] w fun e w' => e = .returned (windO (windV l p q)) ∧ Ext w w' := by
  have HC := fun w1 (hx : Ext w w1) => winds_calls A n c l w1 (hr.ext hx) hn
  have HF := fun w1 => refCheckG_calls p q w1
  unfold windV
  cases hwb : windB l with
  | false =>
    rw [hwb] at HC
    simp only [Bool.false_eq_true, if_false] at HC ⊢
    refine enterQ (c := cx w 48) Tryz.func149 rfl rfl rfl rfl ?_
    ((all_goals refine goG0 ?_); (all_goals constructor); (any_goals exact trivial); all_goals intros)
    all_goals rfl
  | true =>
  rw [hwb] at HC
  have hW := (windB_iff l).1 hwb
  cases hfn : fineS (p, q) with
  | false =>
    rw [hfn] at HF
    simp only [Bool.false_eq_true, if_false, if_true] at HF HC ⊢
    refine enterQ (c := cx w 48) Tryz.func149 rfl rfl rfl rfl ?_
    ((all_goals refine goG0 ?_); (all_goals constructor); (any_goals exact trivial); all_goals intros)
    all_goals rfl
  | true =>
  rw [hfn] at HF
  simp only [if_true] at HF HC ⊢
  have hpq : p ≤ q := ((fineS_iff (p, q)).1 hfn).1
  have B1 := steady_big (e := true) (p := p) (q := q) hW
  have B2 := steady_big (e := false) (p := p) (q := q) hW
  have G := gustR_bounds (p := p) (q := q) (fun x hx => by have := hW.ok x hx; omega) l.length
  obtain ⟨a1, a2, a3, a4⟩ := B1
  obtain ⟨b1, b2, b3, b4⟩ := B2
  have HG := fun w1 (hx : Ext w w1) => gust_calls A n c l p q w1 (hr.ext hx) hn
  have HX := fun w1 (hx : Ext w w1) => steady_calls true A n c l p q w1 (hr.ext hx) hW hpq
  have HY := fun w1 (hx : Ext w w1) => steady_calls false A n c l p q w1 (hr.ext hx) hW hpq
  unfold widen
  change 0 ≤ gustV l p q ∧ gustV l p q ≤ 500 at G
  generalize gustV l p q = gu at HG G ⊢
  generalize steadyV true l p q = sx at *
  generalize steadyV false l p q = sy at *
  refine enterQ (c := cx w 48) Tryz.func149 rfl rfl rfl rfl ?_
  repeat' (first | ((with_reducible apply oq_id); first | (apply oq_fn; exact rfl; first | exact trivial | (refine ⟨?_, ?_⟩ <;> omega) | (refine ⟨?_, ?_, ?_⟩ <;> omega) | omega | skip) | ((with_reducible apply oq_load); exact rfl; exact rfl) | ((with_reducible apply oq_loadAgg); exact rfl; exact rfl) | ((with_reducible apply oq_call (k := 137) (hc := Tryz.call137)); exact rfl; exact rfl; exact fun D w1 hw1 => HC w1 hw1.ext.ext) | ((with_reducible apply oq_call (k := 166) (hc := Tryz.call166)); exact rfl; exact rfl; exact fun D w1 hw1 => HF w1) | ((with_reducible apply oq_call (k := 167) (hc := Tryz.call167)); exact rfl; exact rfl; exact fun D w1 hw1 => HG w1 hw1.ext.ext) | ((with_reducible apply oq_call (k := 168) (hc := Tryz.call168)); exact rfl; exact rfl; exact fun D w1 hw1 => HX w1 hw1.ext.ext) | ((with_reducible apply oq_call (k := 168) (hc := Tryz.call168)); exact rfl; exact rfl; exact fun D w1 hw1 => HY w1 hw1.ext.ext) | ((with_reducible apply oq_build); exact rfl; exact rfl; exact rfl)) | ((with_reducible apply tl_id); first | ((with_reducible apply tl_nil)) | ((with_reducible apply u_q); exact rfl; exact rfl; exact rfl; exact rfl) | ((with_reducible apply u_s0); exact rfl; exact rfl) | ((with_reducible apply u_s); exact rfl; exact rfl; exact rfl)) | ((with_reducible apply gx_id); first | ((with_reducible apply v_nil)) | ((with_reducible apply v_q); exact rfl; exact rfl; exact rfl)) | ((with_reducible apply os_id); first | ((with_reducible apply os_x); exact rfl) | ((with_reducible apply os_storeAgg); exact rfl; exact rfl; exact rfl; exact rfl; exact rfl)) | ((with_reducible apply ox_id); first | ((with_reducible apply ox_alloc); exact rfl; intro _) | ((with_reducible apply ox_boxAgg); exact rfl; intro _)) | ((with_reducible apply ai_id); first | ((with_reducible apply ai_x); exact rfl; exact rfl; exact rfl; exact rfl; exact rfl) | ((with_reducible apply ai_n0); exact rfl; exact rfl; exact rfl)) | ((with_reducible apply al_keep); focus (repeat (first | exact HpSub.refl _ | (apply HpSub.cons; (repeat (first | exact P0 | apply P1))) | exact HpSub.nil))) | ((with_reducible apply rd_id); first | (apply Rd.own; (repeat (first | exact P0 | apply P1)); exact rfl; done)) | ((with_reducible apply t_id); first | ((with_reducible apply t_seq)) | (apply t_region; kernel_rfl) | ((with_reducible apply t_condF); exact rfl) | ((with_reducible apply t_ret)) | ((with_reducible apply t_skip))) | with_reducible apply q_thenN | exact P0 | ((with_reducible apply P1)) | exact Rdn.zero | apply Rdn.succ | ((with_reducible apply Norm.nil); exact rfl) | ((with_reducible apply Norm.cons); exact rfl) | ((with_reducible apply end_ret)) | exact rvs_nil | ((with_reducible apply rvs_cons)) | ((with_reducible apply rv_tmp); exact rfl) | ((with_reducible apply rv_cellAgg); exact rfl; exact rfl) | (apply t_mix (id := 7) [0, 1, 2, 3, 4, 5] 4 #[false, false, false, false, false, false, false, false, false, false]; kernel_rfl; kernel_rfl; exact rfl) | ((with_reducible apply al_id); first | (apply al_done; decide +kernel) | (apply al_one 6; decide +kernel) | (apply al_one 7; decide +kernel) | (apply al_one 8; decide +kernel) | (apply al_one 9; decide +kernel) | (apply al_two 6 7; decide +kernel)) | exact Nat.le_of_ble_eq_true rfl)
  all_goals rfl
end Go.Proofs.YtcjkndjjbjoehaaGreat
namespace Go.Proofs.YtcjkndjjbjoehaaGreat
theorem lin_mid {d u m v q : Int} (hq : 0 < q) (h1 : u ≤ m) (h2 : m ≤ v) : min (u * d / q) (v * d / q) ≤ m * d / q ∧ m * d / q ≤ max (u * d / q) (v * d / q) := by
  rcases Int.le_total 0 d with h | h
  · have a := ediv_mono hq (Int.mul_le_mul_of_nonneg_right h1 h)
    have b := ediv_mono hq (Int.mul_le_mul_of_nonneg_right h2 h)
    omega
  · have a := ediv_mono hq (Int.mul_le_mul_of_nonpos_right h1 h)
    have b := ediv_mono hq (Int.mul_le_mul_of_nonpos_right h2 h)
    omega
/-- On a line a value between two places is between those at the places. -/
theorem lineV_mid {a b : Kn} {u m v : Int} (hab : a.x < b.x) (h1 : u ≤ m) (h2 : m ≤ v) : SIn (lineV a b m) (hullS (lineV a b u) (lineV a b v)) := by
  have k1 := lin_mid (d := b.lo - a.lo) (u := u - a.x) (m := m - a.x) (v := v - a.x) (q := b.x - a.x) (by omega) (by omega) (by omega)
  have k2 := lin_mid (d := a.hi - b.hi) (u := u - a.x) (m := m - a.x) (v := v - a.x) (q := b.x - a.x) (by omega) (by omega) (by omega)
  unfold SIn hullS lineV
  simp only
  omega
theorem hullS_self (a : Int × Int) : hullS a a = a := by unfold hullS; simp
theorem valV_left (t : List Kn) (p q : Int) : SIn (atV t p) (valV t p q) := (hullS_left _ _).trans hullA_mono
theorem valV_right (t : List Kn) (p q : Int) : SIn (atV t q) (valV t p q) := (hullS_right _ _).trans hullA_mono
theorem valV_knot {t : List Kn} {p q : Int} {k : Kn} (hk : k ∈ t) (h1 : p < k.x) (h2 : k.x < q) : SIn k.val (valV t p q) :=
  hullA_mem (List.mem_map.2 ⟨k, List.mem_filter.2 ⟨hk, by unfold kIn; simp [h1, h2]⟩, rfl⟩)
theorem valV_self (t : List Kn) (h : Int) : valV t h h = atV t h := by
  have : t.filter (kIn h h) = [] := by
    rw [List.filter_eq_nil_iff]
    intro k _ hk
    unfold kIn at hk
    simp at hk
    omega
  unfold valV
  rw [this, hullS_self]
  rfl
/-- Between which neighbours a place of a table is. -/
theorem seg_of : ∀ {t : List Kn}, Incr t → 2 ≤ t.length → ∀ {m : Int}, (∀ k, t[0]? = some k → k.x ≤ m) → (∀ k, t[t.length - 1]? = some k → m ≤ k.x) → ∃ (i : Nat) (a b : Kn), t[i]? = some a ∧ t[i + 1]? = some b ∧ a.x ≤ m ∧ m ≤ b.x
  | [], _, h, _, _, _ => by simp at h
  | [_], _, h, _, _, _ => by simp at h
  | [a, b], _, _, m, h0, h1 => ⟨0, a, b, rfl, rfl, h0 a rfl, h1 b rfl⟩
  | a :: b :: c :: r, hi, _, m, h0, h1 => by
    rcases Int.le_total m b.x with h | h
    · exact ⟨0, a, b, rfl, rfl, h0 a rfl, h⟩
    · cases hi with
      | cons hab hk =>
        obtain ⟨i, u, v, e1, e2, e3, e4⟩ := seg_of hk (by simp) (m := m) (fun k e => by simp at e; subst e; exact h) (fun k e => h1 k (by simpa using e))
        exact ⟨i + 1, u, v, by simpa using e1, by simpa using e2, e3, e4⟩
/-- The value at a place between two others is in the values between them. -/
theorem valV_mid {t : List Kn} (ht : TabOk t) {p m q : Int} (h1 : p ≤ m) (h2 : m ≤ q) (h0 : ∀ k, t[0]? = some k → k.x ≤ p) (hl : ∀ k, t[t.length - 1]? = some k → q ≤ k.x) : SIn (atV t m) (valV t p q) := by
  obtain ⟨i, a, b, ha, hb, k1, k2⟩ := seg_of ht.inc ht.l2 (m := m) (fun k e => Int.le_trans (h0 k e) h1) (fun k e => Int.le_trans h2 (hl k e))
  have hab := ht.inc.at_ (Nat.lt_succ_self i) ha hb
  have e : ∀ x, a.x ≤ x → x ≤ b.x → atV t x = lineV a b x := fun x j1 j2 => atV_seg ht.inc ha hb (.inr j1) (.inr j2)
  rw [e m k1 k2]
  have hu : ∃ u, u ≤ m ∧ a.x ≤ u ∧ u ≤ b.x ∧ SIn (lineV a b u) (valV t p q) := by
    rcases Int.lt_or_le p a.x with h | h
    · refine ⟨a.x, k1, Int.le_refl _, by omega, ?_⟩
      rw [lineV_start]
      rcases Int.lt_or_le a.x q with g | g
      · exact valV_knot (List.mem_of_getElem? ha) h g
      · have eq : q = a.x := by omega
        have := valV_right t p q
        rw [eq, e a.x (Int.le_refl _) (by omega), lineV_start] at this
        rw [eq]
        exact this
    · refine ⟨p, h1, h, by omega, ?_⟩
      rw [← e p h (by omega)]
      exact valV_left t p q
  have hv : ∃ v, m ≤ v ∧ a.x ≤ v ∧ v ≤ b.x ∧ SIn (lineV a b v) (valV t p q) := by
    rcases Int.lt_or_le b.x q with h | h
    · refine ⟨b.x, k2, by omega, Int.le_refl _, ?_⟩
      rw [lineV_end hab]
      rcases Int.lt_or_le p b.x with g | g
      · exact valV_knot (List.mem_of_getElem? hb) g h
      · have eq : p = b.x := by omega
        have := valV_left t p q
        rw [eq, e b.x (by omega) (Int.le_refl _), lineV_end hab] at this
        rw [eq]
        exact this
    · refine ⟨q, h2, by omega, h, ?_⟩
      rw [← e q (by omega) h]
      exact valV_right t p q
  obtain ⟨u, u1, _, _, u2⟩ := hu
  obtain ⟨v, v1, _, _, v2⟩ := hv
  exact (lineV_mid hab u1 v1).trans (hullS_least u2 v2)
theorem Wnd.gusts {l : List Gl} (h : Wnd l) : ∀ x ∈ l, 0 ≤ x.gust ∧ x.gust ≤ 500 := fun x hx => ⟨(h.ok x hx).2.2.1, (h.ok x hx).2.2.2.1⟩
theorem tabG_size (e : Bool) (l : List Gl) : (tabG e l).length = l.length := by unfold tabG; simp
theorem hAt_eq {l : List Gl} {i : Nat} {x : Gl} (h : l[i]? = some x) : hAt l i = x.h := by unfold hAt; rw [h]
theorem hAt_mono {l : List Gl} (h : Wnd l) {i j : Nat} (hij : i ≤ j) (hj : j < l.length) : hAt l i ≤ hAt l j := by
  have h1 : l[i]? = some l[i] := List.getElem?_eq_getElem (by omega)
  have h2 : l[j]? = some l[j] := List.getElem?_eq_getElem hj
  rw [hAt_eq h1, hAt_eq h2]
  exact (h.mono h1 h2 hij).1
/-- The steady wind at a height is one of those of heights around it. -/
theorem steady_wide {e : Bool} {l : List Gl} {p q m : Int} (h : Wnd l) (h1 : p ≤ m) (h2 : m ≤ q) : SIn (steadyV e l m m) (steadyV e l p q) := by
  unfold steadyV
  by_cases h3 : l.length = 1
  · rw [if_pos h3, if_pos h3]; exact SIn.refl _
  · rw [if_neg h3, if_neg h3, valV_self]
    have n1 := h.n1
    have ho := hAt_mono h (Nat.zero_le (l.length - 1)) (by omega)
    refine valV_mid (h.tab (by omega)) (by unfold clampG; omega) (by unfold clampG; omega) (fun k hk => ?_) (fun k hk => ?_)
    · obtain ⟨x, hx, rfl⟩ := tabG_at hk
      have := hAt_eq hx
      show x.h ≤ _
      unfold clampG
      omega
    · rw [tabG_size] at hk
      obtain ⟨x, hx, rfl⟩ := tabG_at hk
      have := hAt_eq hx
      show _ ≤ x.h
      unfold clampG
      omega
theorem line_pick {a b : Kn} {p u v : Int} (h1 : a.x ≤ p) (h2 : p ≤ b.x) (hab : a.x < b.x) (ha : a.lo ≤ u ∧ u ≤ a.hi) (hb : b.lo ≤ v ∧ v ≤ b.hi) :
    (lineV a b p).1 * (b.x - a.x) ≤ u * (b.x - a.x - (p - a.x)) + v * (p - a.x) ∧ u * (b.x - a.x - (p - a.x)) + v * (p - a.x) ≤ (lineV a b p).2 * (b.x - a.x) := by
  unfold lineV
  simp only
  obtain ⟨d, hd⟩ : ∃ d, d = b.x - a.x := ⟨_, rfl⟩
  obtain ⟨t, ht⟩ : ∃ t, t = p - a.x := ⟨_, rfl⟩
  rw [← hd, ← ht]
  have k1 : t * (b.lo - a.lo) / d * d ≤ t * (b.lo - a.lo) := Int.ediv_mul_le _ (by omega)
  have k2 : t * (a.hi - b.hi) / d * d ≤ t * (a.hi - b.hi) := Int.ediv_mul_le _ (by omega)
  have p1 : t * (b.lo - a.lo) = b.lo * t - a.lo * t := by rw [Int.mul_comm, Int.sub_mul]
  have p2 : t * (a.hi - b.hi) = a.hi * t - b.hi * t := by rw [Int.mul_comm, Int.sub_mul]
  generalize t * (b.lo - a.lo) / d = Q1 at *
  generalize t * (a.hi - b.hi) / d = Q2 at *
  rw [p1] at k1
  rw [p2] at k2
  have m1 := Int.mul_le_mul_of_nonneg_right ha.1 (show 0 ≤ d - t by omega)
  have m2 := Int.mul_le_mul_of_nonneg_right ha.2 (show 0 ≤ d - t by omega)
  have m3 := Int.mul_le_mul_of_nonneg_right hb.1 (show 0 ≤ t by omega)
  have m4 := Int.mul_le_mul_of_nonneg_right hb.2 (show 0 ≤ t by omega)
  rw [Int.mul_sub, Int.mul_sub] at m1 m2
  rw [Int.add_mul, Int.sub_mul, Int.mul_sub]
  constructor <;> omega
theorem knG_in {e : Bool} {l : List Gl} (h : Wnd l) {k : Kn} (hk : k ∈ tabG e l) : SIn k.val (-1000, 1000) := by
  unfold tabG at hk
  obtain ⟨x, hx, rfl⟩ := List.mem_map.1 hk
  have := h.ok x hx
  unfold Kn.val knG partG SIn
  cases e <;> simp only <;> omega
theorem steady_in {e : Bool} {l : List Gl} {p q : Int} (h : Wnd l) : SIn (steadyV e l p q) (-1000, 1000) := by
  have n1 := h.n1
  unfold steadyV
  by_cases h3 : l.length = 1
  · rw [if_pos h3]
    have hx : l[0]? = some l[0] := List.getElem?_eq_getElem (by omega)
    rw [hx]
    have := h.ok _ (List.mem_of_getElem? hx)
    unfold partG SIn
    cases e <;> simp only <;> omega
  · rw [if_neg h3]
    have ht := h.tab (e := e) (by omega)
    have ho := hAt_mono h (Nat.zero_le (l.length - 1)) (by omega)
    have at_in : ∀ m, SIn (atV (tabG e l) (clampG l m)) (-1000, 1000) := fun m => by
      obtain ⟨i, a, b, ha, hb, k1, k2⟩ := seg_of ht.inc ht.l2 (m := clampG l m) (fun k hk => by
        obtain ⟨x, hx, rfl⟩ := tabG_at hk
        have := hAt_eq hx
        show x.h ≤ _
        unfold clampG
        omega) (fun k hk => by
        rw [tabG_size] at hk
        obtain ⟨x, hx, rfl⟩ := tabG_at hk
        have := hAt_eq hx
        show _ ≤ x.h
        unfold clampG
        omega)
      have hab := ht.inc.at_ (Nat.lt_succ_self i) ha hb
      rw [atV_seg ht.inc ha hb (.inr k1) (.inr k2)]
      have := lineV_mid (u := a.x) (v := b.x) hab k1 k2
      rw [lineV_start, lineV_end hab] at this
      exact this.trans (hullS_least (knG_in h (List.mem_of_getElem? ha)) (knG_in h (List.mem_of_getElem? hb)))
    unfold valV
    refine hullA_least (hullS_least (at_in p) (at_in q)) fun y hy => ?_
    obtain ⟨k, hk, rfl⟩ := List.mem_map.1 hy
    exact knG_in h (List.mem_filter.1 hk).1
theorem line_le {a b : Kn} {p : Int} (h1 : a.x ≤ p) (h2 : p ≤ b.x) (hab : a.x < b.x) (ha : a.lo ≤ a.hi) (hb : b.lo ≤ b.hi) : (lineV a b p).1 ≤ (lineV a b p).2 := by
  obtain ⟨k1, k2⟩ := line_pick h1 h2 hab ⟨Int.le_refl _, ha⟩ ⟨Int.le_refl _, hb⟩
  exact Int.le_of_mul_le_mul_right (Int.le_trans k1 k2) (by omega)
theorem steady_le {e : Bool} {l : List Gl} {p : Int} (h : Wnd l) : (steadyV e l p p).1 ≤ (steadyV e l p p).2 := by
  have n1 := h.n1
  unfold steadyV
  by_cases h3 : l.length = 1
  · rw [if_pos h3]
    have hx : l[0]? = some l[0] := List.getElem?_eq_getElem (by omega)
    rw [hx]
    have := h.ok _ (List.mem_of_getElem? hx)
    unfold partG
    cases e <;> simp only <;> omega
  · rw [if_neg h3, valV_self]
    have ht := h.tab (e := e) (by omega)
    have ho := hAt_mono h (Nat.zero_le (l.length - 1)) (by omega)
    obtain ⟨i, a, b, ha, hb, k1, k2⟩ := seg_of ht.inc ht.l2 (m := clampG l p) (fun k hk => by
      obtain ⟨x, hx, rfl⟩ := tabG_at hk
      have := hAt_eq hx
      show x.h ≤ _
      unfold clampG
      omega) (fun k hk => by
      rw [tabG_size] at hk
      obtain ⟨x, hx, rfl⟩ := tabG_at hk
      have := hAt_eq hx
      show _ ≤ x.h
      unfold clampG
      omega)
    rw [atV_seg ht.inc ha hb (.inr k1) (.inr k2)]
    exact line_le k1 k2 (ht.inc.at_ (Nat.lt_succ_self i) ha hb) (ht.ok a (List.mem_of_getElem? ha)).2.2.2.1 (ht.ok b (List.mem_of_getElem? hb)).2.2.2.1
theorem steady_ok {e : Bool} {l : List Gl} {p q : Int} (h : Wnd l) (hpq : p ≤ q) : (steadyV e l p q).1 ≤ (steadyV e l p q).2 ∧ -1000 ≤ (steadyV e l p q).1 ∧ (steadyV e l p q).2 ≤ 1000 := by
  have h1 := steady_wide (e := e) h (Int.le_refl p) hpq
  have h2 := steady_le (e := e) (p := p) h
  have h3 := steady_in (e := e) (p := p) (q := q) h
  unfold SIn at h1 h3
  simp only at h3
  omega
/-- The wind at a height: within what a balloon takes. -/
theorem windV_ok {l : List Gl} {p q : Int} (hb : windB l = true) (hf : fineS (p, q) = true) : ∃ a b c d, windV l p q = ((a, b), (c, d), 0) ∧ a ≤ b ∧ c ≤ d ∧ -2000 ≤ a ∧ b ≤ 2000 ∧ -2000 ≤ c ∧ d ≤ 2000 := by
  have h := (windB_iff l).1 hb
  have hpq : p ≤ q := ((fineS_iff _).1 hf).1
  have hg : 0 ≤ gustV l p q ∧ gustV l p q ≤ 500 := gustR_bounds (p := p) (q := q) h.gusts l.length
  have h1 := steady_ok (e := true) h hpq
  have h2 := steady_ok (e := false) h hpq
  unfold windV
  rw [if_pos hb, if_pos hf]
  refine ⟨_, _, _, _, rfl, ?_⟩
  omega
theorem WOk.windE {a b c d : Int} (h : WOk a b c d) : windE a b c d = 0 := by
  obtain ⟨h1, h2, h3, h4, h5, h6⟩ := h
  have f1 : fineS (a, b) = true := (fineS_iff _).2 ⟨h1, by show _ ≤ a; omega, by show b ≤ _; omega⟩
  have f2 : fineS (c, d) = true := (fineS_iff _).2 ⟨h2, by show _ ≤ c; omega, by show d ≤ _; omega⟩
  have h8 : allFrom (-2000) 2000 [a, b, c, d] = true := by simp [allFrom]; omega
  unfold YtcjkndjjbjoehaaGreat.windE
  rw [f1, f2, h8]; rfl
theorem sq_bound {s m : Int} (h0 : 0 ≤ s) (hm : 0 ≤ m) (h : s * s < (m + 1) * (m + 1)) : s ≤ m := by
  rcases Int.lt_or_le m s with g | g
  · have := sq_mono (show 0 ≤ m + 1 by omega) (show m + 1 ≤ s by omega)
    omega
  · exact g
/-- What the law sees of the wind (a, b, c, d) and its point (x, y). -/
structure See (a b c d x y p q s t al ah cl ch dl dh : Int) : Prop where
  speed : speedV x x y y = (s, t, 0)
  along : alongV x x y y p q = (al, ah, 0)
  cl_eq : mrV (nearC x x y y p q * nearC x x y y p q) (p * p + q * q) = cl
  ch_eq : mhV (farC x x y y p q * farC x x y y p q) (p * p + q * q) = ch
  dl_eq : mrV (nearC a b c d p q * nearC a b c d p q) (p * p + q * q) = dl
  dh_eq : mhV (farC a b c d p q * farC a b c d p q) (p * p + q * q) = dh
  s0 : -4001 ≤ s ∧ s ≤ 4001
  t0 : -4001 ≤ t ∧ t ≤ 4001
  al0 : -4001 ≤ al ∧ al ≤ 4001
  ah0 : -4001 ≤ ah ∧ ah ≤ 4001
  cl0 : -4001 ≤ cl ∧ cl ≤ 4001
  ch0 : -4001 ≤ ch ∧ ch ≤ 4001
  low : dl ≤ cl
  high : ch ≤ dh
  most : s * s ≤ mostV al ah * mostV al ah + ch * ch
  least : leastV al ah * leastV al ah + cl * cl ≤ t * t
  calm : farC x x y y p q * farC x x y y p q ≤ farC a b c d p q * farC a b c d p q
end Go.Proofs.YtcjkndjjbjoehaaGreat

