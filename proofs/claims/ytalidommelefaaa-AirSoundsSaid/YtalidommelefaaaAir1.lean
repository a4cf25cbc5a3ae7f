/- What is known, what contradicts: the package's doors. -/
import Derived.Test.YtalidommelefaaaOpen
namespace Go.Proofs.Ytalidommelefaaa
open Go.RowKit Go.Shelf
attribute [local irreducible] OQ OS OX Rd T TL GX GL AL AI RV wpG SAny Calls
set_option maxRecDepth 100000
set_option maxHeartbeats 2000000
set_option linter.unusedVariables false
set_option linter.unusedSimpArgs false

theorem Blk.new {w : World} {b e s cap : Nat} {C : List Value} (h : Blk w b C (some (e, s, cap))) (hl : C.length = cap * s) : isNew w b C.toArray := by
  have hlt := h.lt
  obtain ⟨c, t, h1, h2, h3, h4, h5⟩ := h
  have hc : c = C.toArray := by
    apply Array.ext
    · simp [h4, hl]
    · intro i hi1 hi2
      have := h2 i C[i] (List.getElem?_eq_getElem (by simpa using hi2))
      rw [Array.getElem?_eq_getElem hi1] at this
      simpa using this
  refine ⟨fun o => ?_, fun o => ?_, hlt⟩
  · simp [World.cell?, h1, hc]
  · simp [World.frozen?, h1]
theorem Has.desk {w0 : World} {M : Ms} {H H' : Hp} {w : World} {bd : Nat} {A : Option Addr} {n c : Nat} {p t v : Int} (h : Has w0 M H w)
    (q : Pick H bd [.slice A n c, .int .i64 0, .int .i64 p, .int .i64 t, .int .i64 v, .int .i64 v] (some (171, 6, 1)) H') : Desk w bd A n c p t v :=
  (h.blk _ q.mem).2.new rfl
theorem checkNews_all {l : List News} (h : checkNews l = 0) : ∀ x ∈ l, x.ok = true := by
  unfold checkNews at h
  repeat' split at h
  · omega
  · rename_i h2; simpa using h2
  · omega
theorem openE_asked (p t v : Int) (l : List News) (post kind at_ now : Int) : openE p t v l post kind [at_, now] = asked p t v l post kind at_ now := by
  have : openOk p t v post kind [at_, now] = askedOk p t v post kind at_ now := by
    unfold openOk askedOk allFrom
    rw [Bool.eq_iff_iff]
    simp only [List.all_cons, List.all_nil, Bool.and_true, Bool.and_eq_true, decide_eq_true_eq]
    omega
  unfold openE asked
  rw [this]
theorem openE_one (p t v : Int) (l : List News) (post kind now : Int) : openE p t v l post kind [now] = asked p t v l post kind now now := by
  rw [← openE_asked]
  unfold openE openOk allFrom
  simp
theorem asked_all {p t v : Int} {l : List News} {post kind at_ now : Int} (h : asked p t v l post kind at_ now = 0) :
    (∀ x ∈ l, x.ok = true) ∧ 0 ≤ p ∧ p ≤ 100 ∧ 0 ≤ t ∧ t ≤ 100 ∧ 0 ≤ v ∧ v ≤ 100 ∧ 0 ≤ post ∧ post ≤ 15 ∧ 1 ≤ kind ∧ kind ≤ 4 ∧ 0 ≤ at_ ∧ at_ ≤ 1000000 ∧ 0 ≤ now ∧ now ≤ 1000000 := by
  unfold asked at h
  split at h
  · rename_i h1
    split at h
    · rename_i h2
      unfold askedOk at h2
      exact ⟨checkNews_all h1, of_decide_eq_true h2⟩
    · omega
  · rename_i h1; exact absurd h h1


theorem airKnown_T (p t v : Int) (A : Option Addr) (n c : Nat) (l : List News) (post kind at_ now : Int) (w : World) (hr : RdS w 6 A n (l.map News.cells)) (hn : n ≤ 1000000) :
    Calls Try.prog 20 #[.agg #[.int .i64 p, .int .i64 t, .int .i64 v], .slice A n c, .int .i64 post, .int .i64 kind, .int .i64 at_, .int .i64 now] w fun e w' =>
      e = .returned (.tuple #[.agg #[.int .i64 (knownS p t v l post kind at_ now).1, .int .i64 (knownS p t v l post kind at_ now).2.1], .int .i64 (knownS p t v l post kind at_ now).2.2]) ∧ Ext w w' := by
  have HO : ∀ {b ct : Nat} w1, Ext w w1 → RdS w1 1 (some ⟨b, 0, none⟩) 2 ([at_, now].map fun z => [Value.int .i64 z]) →
      Calls Try.prog 62 #[.agg #[.int .i64 p, .int .i64 t, .int .i64 v], .slice A n c, .int .i64 post, .int .i64 kind, .slice (some ⟨b, 0, none⟩) 2 ct] w1 fun e w' => ∃ V H', e = .returned V ∧ OpenV p t v A n c (asked p t v l post kind at_ now) V H' ∧ Has w1 ⟨[], []⟩ H' w' := fun {b ct} w1 hx ht => by
    have := open_T p t v A n c l post kind (some ⟨b, 0, none⟩) 2 ct [at_, now] w1 (hr.ext hx) hn ht (by omega)
    rw [openE_asked] at this
    exact this
  have HK : ∀ bd w1, Ext w w1 → asked p t v l post kind at_ now = 0 → Desk w1 bd A n c p t v → Calls Try.prog 63 #[.pointer (some ⟨bd, 0, none⟩), .int .i64 post, .int .i64 kind, .int .i64 at_, .int .i64 now] w1 fun e w' =>
      e = .returned (.tuple #[.agg #[.int .i64 (knownS p t v l post kind at_ now).1, .int .i64 (knownS p t v l post kind at_ now).2.1], .int .i64 (knownS p t v l post kind at_ now).2.2]) ∧ Ext w1 w' := fun bd w1 hx hE hD => by
    obtain ⟨hok, p0, p1, t0, t1, v0, v1, _, _, _, _, a0, a1, _, _⟩ := asked_all hE
    unfold knownS
    rw [if_pos hE]
    exact known_T bd A n c p t v l post kind at_ now w1 (hr.ext hx) hn hD hok a0 a1 p0 p1 t0 t1 v0 v1 _ rfl
  clear hr hn
  have HN : asked p t v l post kind at_ now ≠ 0 → knownS p t v l post kind at_ now = (0, 0, asked p t v l post kind at_ now) := fun h => by
    unfold knownS; rw [if_neg h]
  generalize knownS p t v l post kind at_ now = K at HK HN ⊢
  generalize asked p t v l post kind at_ now = E at HK HN HO
  refine enterQ (c := cx w 39) Try.func20 rfl rfl rfl rfl ?_
  repeat' (first | ((with_reducible apply oq_id); first | (apply oq_fn; exact rfl; first | exact trivial | (refine ⟨?_, ?_⟩ <;> omega) | (refine ⟨?_, ?_, ?_⟩ <;> omega) | omega | skip) | ((with_reducible apply oq_load); exact rfl; exact rfl) | ((with_reducible apply oq_loadAgg); exact rfl; exact rfl) | ((with_reducible apply oq_call (k := 63) (hc := Try.call63)); exact rfl; exact rfl; exact fun D w1 hw1 => HK _ w1 hw1.ext.ext hE (hw1.desk (by (repeat (first | exact P0 | apply P1))))) | ((with_reducible apply oq_build); exact rfl; exact rfl; exact rfl)) | ((with_reducible apply tl_id); first | ((with_reducible apply tl_nil)) | ((with_reducible apply u_s); exact rfl; exact rfl; exact rfl; (with_reducible apply os_callF (PV := OpenV p t v A n c E) (k := 62) (hc := Try.call62)); exact rfl; exact rfl; exact fun D w1 hw1 => HO w1 hw1.ext.ext (Blk.rows (k := 1) (rows := [at_, now].map fun z => [Value.int .i64 z]) (hw1.blk _ (Pick.mem (by (repeat (first | exact P0 | apply P1))))).2 rfl (by simp)); rintro v H' (⟨hE, bd, rfl, rfl⟩ | ⟨hE, rfl, rfl⟩) <;> simp only [List.cons_append, List.nil_append]) | ((with_reducible apply u_q); exact rfl; exact rfl; exact rfl; exact rfl) | ((with_reducible apply u_s0); exact rfl; exact rfl) | ((with_reducible apply u_s); exact rfl; exact rfl; exact rfl)) | ((with_reducible apply os_id); first | ((with_reducible apply os_x); exact rfl) | ((with_reducible apply os_store); exact rfl; exact rfl; exact rfl; exact rfl) | ((with_reducible apply os_storeAgg); exact rfl; exact rfl; exact rfl; exact rfl; exact rfl)) | ((with_reducible apply ox_id); first | ((with_reducible apply ox_alloc); exact rfl; intro _) | ((with_reducible apply ox_box); exact rfl; exact rfl; intro _) | ((with_reducible apply ox_boxAgg); exact rfl; intro _) | ((with_reducible apply ox_buildSlice1); exact rfl; exact rfl; exact rfl; exact rfl; exact rfl; exact rfl; intro _) | ((with_reducible apply ox_buildSlice2); exact rfl; exact rfl; exact rfl; exact rfl; exact rfl; exact rfl; intro _) | ((with_reducible apply ox_buildSlice); exact rfl; exact rfl; exact rfl; exact rfl)) | ((with_reducible apply rd_id); first | (apply Rd.own; (repeat (first | exact P0 | apply P1)); exact rfl; done) | (apply Rd.old; (first | (with_reducible assumption)); first | exact List.not_mem_nil)) | ((with_reducible apply t_id); first | ((with_reducible apply t_seq)) | (apply t_region; kernel_rfl) | ((with_reducible apply t_condT); exact rfl) | ((with_reducible apply t_condF); exact rfl) | ((with_reducible apply t_condD); exact rfl; all_goals first | (intro hp; try (exfalso; omega)) | skip) | ((with_reducible apply t_condN); exact rfl; all_goals first | (intro hp; try (exfalso; omega)) | skip) | ((with_reducible apply t_cond); exact rfl; all_goals first | intro hp | skip) | ((with_reducible apply t_ret)) | ((with_reducible apply t_skip))) | with_reducible apply q_thenN | with_reducible apply q_thenR | exact P0 | ((with_reducible apply P1)) | exact Rdn.zero | apply Rdn.succ | ((with_reducible apply Norm.nil); exact rfl) | ((with_reducible apply Norm.cons); exact rfl) | ((with_reducible apply end_ret)) | ((with_reducible apply end_normal)) | exact rvs_nil | ((with_reducible apply rvs_cons)) | ((with_reducible apply rv_tmp); exact rfl) | ((with_reducible apply rv_cell); exact rfl; exact rfl) | ((with_reducible apply rv_cellAgg); exact rfl; exact rfl) | exact Nat.le_of_ble_eq_true rfl | exact (rfl : (_ : Bool) = true) | omega | (intro _ _; with_reducible apply tl_id) | (intro _; with_reducible apply tl_id) | (intro _ _; with_reducible apply al_id) | (intro _; with_reducible apply al_id))
  all_goals first | rfl | (rw [HN (by assumption)]; rfl)


theorem airConflict_T (p t v : Int) (A : Option Addr) (n c : Nat) (l : List News) (post kind now : Int) (w : World) (hr : RdS w 6 A n (l.map News.cells)) (hn : n ≤ 1000000) :
    Calls Try.prog 22 #[.agg #[.int .i64 p, .int .i64 t, .int .i64 v], .slice A n c, .int .i64 post, .int .i64 kind, .int .i64 now] w fun e w' =>
      e = .returned (.tuple #[.int .i64 (conflictS p t v l post kind now).1, .int .i64 (conflictS p t v l post kind now).2.1, .int .i64 (conflictS p t v l post kind now).2.2]) ∧ Ext w w' := by
  have HO : ∀ {b ct : Nat} w1, Ext w w1 → RdS w1 1 (some ⟨b, 0, none⟩) 1 ([now].map fun z => [Value.int .i64 z]) →
      Calls Try.prog 62 #[.agg #[.int .i64 p, .int .i64 t, .int .i64 v], .slice A n c, .int .i64 post, .int .i64 kind, .slice (some ⟨b, 0, none⟩) 1 ct] w1 fun e w' => ∃ V H', e = .returned V ∧ OpenV p t v A n c (asked p t v l post kind now now) V H' ∧ Has w1 ⟨[], []⟩ H' w' := fun {b ct} w1 hx ht => by
    have := open_T p t v A n c l post kind (some ⟨b, 0, none⟩) 1 ct [now] w1 (hr.ext hx) hn ht (by omega)
    rw [openE_one] at this
    exact this
  have HK : ∀ bd w1, Ext w w1 → asked p t v l post kind now now = 0 → Desk w1 bd A n c p t v → Calls Try.prog 69 #[.pointer (some ⟨bd, 0, none⟩), .int .i64 post, .int .i64 kind, .int .i64 now] w1 fun e w' =>
      e = .returned (confV (conflictF (rateOf p t v kind) l post kind now)) ∧ Ext w1 w' := fun bd w1 hx hE hD => by
    obtain ⟨hok, p0, p1, t0, t1, v0, v1, _, _, _, _, a0, a1, _, _⟩ := asked_all hE
    exact conflict_T bd A n c p t v l post kind now w1 (hr.ext hx) hn hD hok p0 p1 t0 t1 v0 v1 _ rfl
  clear hr hn
  unfold conflictS
  generalize asked p t v l post kind now now = E at HK HO ⊢
  cases hC : conflictF (rateOf p t v kind) l post kind now with
  | none =>
    rw [hC] at HK
    simp only [confV] at HK
    refine enterQ (c := cx w 41) Try.func22 rfl rfl rfl rfl ?_
    repeat' (first | ((with_reducible apply oq_id); first | (apply oq_fn; exact rfl; first | exact trivial | (refine ⟨?_, ?_⟩ <;> omega) | (refine ⟨?_, ?_, ?_⟩ <;> omega) | omega | skip) | ((with_reducible apply oq_load); exact rfl; exact rfl) | ((with_reducible apply oq_loadAgg); exact rfl; exact rfl) | ((with_reducible apply oq_call (k := 69) (hc := Try.call69)); exact rfl; exact rfl; exact fun D w1 hw1 => HK _ w1 hw1.ext.ext hE (hw1.desk (by (repeat (first | exact P0 | apply P1)))))) | ((with_reducible apply tl_id); first | ((with_reducible apply tl_nil)) | ((with_reducible apply u_s); exact rfl; exact rfl; exact rfl; (with_reducible apply os_callF (PV := OpenV p t v A n c E) (k := 62) (hc := Try.call62)); exact rfl; exact rfl; exact fun D w1 hw1 => HO w1 hw1.ext.ext (Blk.rows (k := 1) (rows := [now].map fun z => [Value.int .i64 z]) (hw1.blk _ (Pick.mem (by (repeat (first | exact P0 | apply P1))))).2 rfl (by simp)); rintro v H' (⟨hE, bd, rfl, rfl⟩ | ⟨hE, rfl, rfl⟩) <;> simp only [List.cons_append, List.nil_append]) | ((with_reducible apply u_q); exact rfl; exact rfl; exact rfl; exact rfl) | ((with_reducible apply u_s0); exact rfl; exact rfl) | ((with_reducible apply u_s); exact rfl; exact rfl; exact rfl)) | ((with_reducible apply os_id); first | ((with_reducible apply os_x); exact rfl)) | ((with_reducible apply ox_id); first | ((with_reducible apply ox_box); exact rfl; exact rfl; intro _) | ((with_reducible apply ox_boxAgg); exact rfl; intro _) | ((with_reducible apply ox_buildSlice1); exact rfl; exact rfl; exact rfl; exact rfl; exact rfl; exact rfl; intro _) | ((with_reducible apply ox_buildSlice2); exact rfl; exact rfl; exact rfl; exact rfl; exact rfl; exact rfl; intro _) | ((with_reducible apply ox_buildSlice); exact rfl; exact rfl; exact rfl; exact rfl)) | ((with_reducible apply rd_id); first | (apply Rd.own; (repeat (first | exact P0 | apply P1)); exact rfl; done) | (apply Rd.old; (first | (with_reducible assumption)); first | exact List.not_mem_nil)) | ((with_reducible apply t_id); first | ((with_reducible apply t_seq)) | (apply t_region; kernel_rfl) | ((with_reducible apply t_condT); exact rfl) | ((with_reducible apply t_condF); exact rfl) | ((with_reducible apply t_condD); exact rfl; all_goals first | (intro hp; try (exfalso; omega)) | skip) | ((with_reducible apply t_condN); exact rfl; all_goals first | (intro hp; try (exfalso; omega)) | skip) | ((with_reducible apply t_cond); exact rfl; all_goals first | intro hp | skip) | ((with_reducible apply t_ret)) | ((with_reducible apply t_skip))) | with_reducible apply q_thenN | with_reducible apply q_thenR | exact P0 | ((with_reducible apply P1)) | exact Rdn.zero | apply Rdn.succ | ((with_reducible apply Norm.nil); exact rfl) | ((with_reducible apply Norm.cons); exact rfl) | ((with_reducible apply end_ret)) | ((with_reducible apply end_normal)) | exact rvs_nil | ((with_reducible apply rvs_cons)) | ((with_reducible apply rv_tmp); exact rfl) | exact Nat.le_of_ble_eq_true rfl | exact (rfl : (_ : Bool) = true) | omega | (intro _ _; with_reducible apply tl_id) | (intro _; with_reducible apply tl_id) | (intro _ _; with_reducible apply al_id) | (intro _; with_reducible apply al_id))
    all_goals (first | (rw [if_pos (by assumption)]; rfl) | (rw [if_neg (by assumption)]; rfl))
  | some ik =>
    obtain ⟨i, k⟩ := ik
    rw [hC] at HK
    simp only [confV] at HK
    refine enterQ (c := cx w 41) Try.func22 rfl rfl rfl rfl ?_
    repeat' (first | ((with_reducible apply oq_id); first | (apply oq_fn; exact rfl; first | exact trivial | (refine ⟨?_, ?_⟩ <;> omega) | (refine ⟨?_, ?_, ?_⟩ <;> omega) | omega | skip) | ((with_reducible apply oq_load); exact rfl; exact rfl) | ((with_reducible apply oq_loadAgg); exact rfl; exact rfl) | ((with_reducible apply oq_call (k := 69) (hc := Try.call69)); exact rfl; exact rfl; exact fun D w1 hw1 => HK _ w1 hw1.ext.ext hE (hw1.desk (by (repeat (first | exact P0 | apply P1)))))) | ((with_reducible apply tl_id); first | ((with_reducible apply tl_nil)) | ((with_reducible apply u_s); exact rfl; exact rfl; exact rfl; (with_reducible apply os_callF (PV := OpenV p t v A n c E) (k := 62) (hc := Try.call62)); exact rfl; exact rfl; exact fun D w1 hw1 => HO w1 hw1.ext.ext (Blk.rows (k := 1) (rows := [now].map fun z => [Value.int .i64 z]) (hw1.blk _ (Pick.mem (by (repeat (first | exact P0 | apply P1))))).2 rfl (by simp)); rintro v H' (⟨hE, bd, rfl, rfl⟩ | ⟨hE, rfl, rfl⟩) <;> simp only [List.cons_append, List.nil_append]) | ((with_reducible apply u_q); exact rfl; exact rfl; exact rfl; exact rfl) | ((with_reducible apply u_s0); exact rfl; exact rfl) | ((with_reducible apply u_s); exact rfl; exact rfl; exact rfl)) | ((with_reducible apply os_id); first | ((with_reducible apply os_x); exact rfl)) | ((with_reducible apply ox_id); first | ((with_reducible apply ox_box); exact rfl; exact rfl; intro _) | ((with_reducible apply ox_boxAgg); exact rfl; intro _) | ((with_reducible apply ox_buildSlice1); exact rfl; exact rfl; exact rfl; exact rfl; exact rfl; exact rfl; intro _) | ((with_reducible apply ox_buildSlice2); exact rfl; exact rfl; exact rfl; exact rfl; exact rfl; exact rfl; intro _) | ((with_reducible apply ox_buildSlice); exact rfl; exact rfl; exact rfl; exact rfl)) | ((with_reducible apply rd_id); first | (apply Rd.own; (repeat (first | exact P0 | apply P1)); exact rfl; done) | (apply Rd.old; (first | (with_reducible assumption)); first | exact List.not_mem_nil)) | ((with_reducible apply t_id); first | ((with_reducible apply t_seq)) | (apply t_region; kernel_rfl) | ((with_reducible apply t_condT); exact rfl) | ((with_reducible apply t_condF); exact rfl) | ((with_reducible apply t_condD); exact rfl; all_goals first | (intro hp; try (exfalso; omega)) | skip) | ((with_reducible apply t_condN); exact rfl; all_goals first | (intro hp; try (exfalso; omega)) | skip) | ((with_reducible apply t_cond); exact rfl; all_goals first | intro hp | skip) | ((with_reducible apply t_ret)) | ((with_reducible apply t_skip))) | with_reducible apply q_thenN | with_reducible apply q_thenR | exact P0 | ((with_reducible apply P1)) | exact Rdn.zero | apply Rdn.succ | ((with_reducible apply Norm.nil); exact rfl) | ((with_reducible apply Norm.cons); exact rfl) | ((with_reducible apply end_ret)) | ((with_reducible apply end_normal)) | exact rvs_nil | ((with_reducible apply rvs_cons)) | ((with_reducible apply rv_tmp); exact rfl) | exact Nat.le_of_ble_eq_true rfl | exact (rfl : (_ : Bool) = true) | omega | (intro _ _; with_reducible apply tl_id) | (intro _; with_reducible apply tl_id) | (intro _ _; with_reducible apply al_id) | (intro _; with_reducible apply al_id))
    all_goals (first | (rw [if_pos (by assumption)]; rfl) | (rw [if_neg (by assumption)]; rfl))

end Go.Proofs.Ytalidommelefaaa
