/- The wind between two heights. -/
import Derived.Test.YtalidommelefaaaWnd1
import Derived.Test.YtalidommelefaaaWnd4
namespace Go.Proofs.Ytalidommelefaaa
open Go.RowKit
attribute [local irreducible] OQ OS OX Rd T TL GX GL AL AI RV wpG SAny Calls
set_option maxRecDepth 100000
set_option maxHeartbeats 2000000
set_option linter.unusedVariables false
set_option linter.unusedSimpArgs false


def widen (g : Int) (s : Int × Int) : Int × Int := (s.1 - g, s.2 + g)
/-- The wind between two heights. -/
def windV (l : List Gl) (p q : Int) : (Int × Int) × (Int × Int) × Int :=
  if windB l then (if fineS (p, q) then (widen (gustV l p q) (steadyV true l p q), widen (gustV l p q) (steadyV false l p q), 0) else ((0, 0), (0, 0), 10)) else ((0, 0), (0, 0), 22)
def windO (v : (Int × Int) × (Int × Int) × Int) : Value := .tuple #[.agg #[.int .i64 v.1.1, .int .i64 v.1.2, .int .i64 v.2.1.1, .int .i64 v.2.1.2], .int .i64 v.2.2]
def Big (s : Int × Int) : Prop := -3000000000000 ≤ s.1 ∧ s.1 ≤ 3000000000000 ∧ -3000000000000 ≤ s.2 ∧ s.2 ≤ 3000000000000
theorem atV_big : ∀ {t : List Kn}, Incr t → (∀ k ∈ t, -100000 ≤ k.x ∧ k.x ≤ 100000 ∧ -100000 ≤ k.lo ∧ k.lo ≤ k.hi ∧ k.hi ≤ 100000) → ∀ {x : Int}, -100000 ≤ x ∧ x ≤ 100000 → Big (atV t x)
  | [], _, _, x, hx => by unfold atV Big; simp
  | [a], _, _, x, hx => by unfold atV Big; simp
  | a :: b :: r, .cons h k, hk, x, hx => by
    unfold atV
    split
    · have ha := hk a (by simp)
      have hb := hk b (by simp)
      have := line_bounds ha hb h hx
      unfold Big lineV
      simp only
      omega
    · exact atV_big k (fun y hy => hk y (List.mem_cons_of_mem _ hy)) hx
theorem valV_big {t : List Kn} (ht : TabOk t) {p q : Int} (hp : -100000 ≤ p ∧ p ≤ 100000) (hq : -100000 ≤ q ∧ q ≤ 100000) : Big (valV t p q) := by
  have h1 := atV_big ht.inc ht.ok hp
  have h2 := atV_big ht.inc ht.ok hq
  have h3 : SIn (valV t p q) (-3000000000000, 3000000000000) := by
    unfold valV
    refine hullA_least (hullS_least ?_ ?_) ?_
    · exact ⟨h1.1, h1.2.2.2⟩
    · exact ⟨h2.1, h2.2.2.2⟩
    · intro y hy
      obtain ⟨k, hk, rfl⟩ := List.mem_map.1 hy
      have := ht.ok k ((List.mem_filter.1 hk).1)
      exact ⟨by show _ ≤ k.lo; simp only; omega, by show k.hi ≤ _; simp only; omega⟩
  have h4 : SIn (hullS (atV t p) (atV t q)) (valV t p q) := hullA_mono
  have h5 := (hullS_left (atV t p) (atV t q)).trans h4
  obtain ⟨a1, a2⟩ := h3
  obtain ⟨b1, b2⟩ := h5
  obtain ⟨c1, c2, c3, c4⟩ := h1
  simp only at a1 a2
  exact ⟨by omega, by omega, by omega, by omega⟩
theorem steady_big {e : Bool} {l : List Gl} {p q : Int} (hW : Wnd l) : Big (steadyV e l p q) := by
  have hn := hW.n1
  have hx : l[0]? = some l[0] := List.getElem?_eq_getElem (by omega)
  have hy : l[l.length - 1]? = some l[l.length - 1] := List.getElem?_eq_getElem (by omega)
  have b1 := hW.ok _ (List.mem_of_getElem? hx)
  have b2 := hW.ok _ (List.mem_of_getElem? hy)
  unfold steadyV
  split
  · rw [hx]
    unfold Big
    cases e <;> simp only [partG] <;> omega
  · have ef : hAt l 0 = l[0].h := by unfold hAt; rw [hx]
    have el : hAt l (l.length - 1) = l[l.length - 1].h := by unfold hAt; rw [hy]
    refine valV_big (hW.tab (by omega)) ?_ ?_ <;> (unfold clampG; rw [ef, el]; omega)
theorem refCheckG_calls (a b : Int) (w : World) : Calls Try.prog 89 #[.agg #[.int .i64 a, .int .i64 b]] w fun e w' => e = .returned (.int .i64 (if fineS (a, b) then 0 else 10)) ∧ Ext w w' := by
  have HV := fun w1 => valid_calls (a, b) w1
  generalize fineS (a, b) = q at HV
  refine enterQ (c := cx w 6) Try.func89 rfl rfl rfl rfl ?_
  repeat' (first | ((with_reducible apply oq_id); first | (apply oq_fn; exact rfl; first | exact trivial | (refine ⟨?_, ?_⟩ <;> omega) | (refine ⟨?_, ?_, ?_⟩ <;> omega) | omega | skip) | ((with_reducible apply oq_load); exact rfl; exact rfl) | ((with_reducible apply oq_loadAgg); exact rfl; exact rfl) | ((with_reducible apply oq_call (k := 128) (hc := Try.call128)); exact rfl; exact rfl; exact fun D w1 hw1 => HV w1)) | ((with_reducible apply tl_id); first | ((with_reducible apply tl_nil)) | ((with_reducible apply u_q); exact rfl; exact rfl; exact rfl; exact rfl) | ((with_reducible apply u_s0); exact rfl; exact rfl) | ((with_reducible apply u_s); exact rfl; exact rfl; exact rfl)) | ((with_reducible apply os_id); first | ((with_reducible apply os_x); exact rfl)) | ((with_reducible apply ox_id); first | ((with_reducible apply ox_box); exact rfl; exact rfl; intro _) | ((with_reducible apply ox_boxAgg); exact rfl; intro _)) | ((with_reducible apply rd_id); first | (apply Rd.own; (repeat (first | exact P0 | apply P1)); exact rfl; done) | (apply Rd.old; (first | (with_reducible assumption)); first | exact List.not_mem_nil)) | ((with_reducible apply t_id); first | ((with_reducible apply t_seq)) | (apply t_region; kernel_rfl) | ((with_reducible apply t_condT); exact rfl) | ((with_reducible apply t_condF); exact rfl) | ((with_reducible apply t_condD); exact rfl; all_goals first | (intro hp; try (exfalso; omega)) | skip) | ((with_reducible apply t_condN); exact rfl; all_goals first | (intro hp; try (exfalso; omega)) | skip) | ((with_reducible apply t_cond); exact rfl; all_goals first | intro hp | skip) | ((with_reducible apply t_ret)) | ((with_reducible apply t_skip))) | with_reducible apply q_thenN | with_reducible apply q_thenR | exact P0 | ((with_reducible apply P1)) | exact Rdn.zero | apply Rdn.succ | ((with_reducible apply Norm.nil); exact rfl) | ((with_reducible apply Norm.cons); exact rfl) | ((with_reducible apply end_ret)) | ((with_reducible apply end_normal)) | exact rvs_nil | ((with_reducible apply rvs_cons)) | ((with_reducible apply rv_tmp); exact rfl) | exact Nat.le_of_ble_eq_true rfl | exact (rfl : (_ : Bool) = true) | omega | (intro _ _; with_reducible apply tl_id) | (intro _; with_reducible apply tl_id) | (intro _ _; with_reducible apply al_id) | (intro _; with_reducible apply al_id))
  all_goals (cases q <;> first | rfl | simp_all)
theorem refWind_calls (A : Option Addr) (n c : Nat) (l : List Gl) (p q : Int) (w : World) (hr : RdS w 6 A n (l.map glCells)) (hn : n ≤ 1000000) :
    Calls Try.prog 33 #[.slice A n c, .agg #[.int .i64 p, .int .i64 q]] w fun e w' => e = .returned (windO (windV l p q)) ∧ Ext w w' := by
  have HC := fun w1 (hx : Ext w w1) => winds_calls A n c l w1 (hr.ext hx) hn
  have HF := fun w1 => refCheckG_calls p q w1
  unfold windV
  cases hwb : windB l with
  | false =>
    rw [hwb] at HC
    simp only [Bool.false_eq_true, if_false] at HC ⊢
    refine enterQ (c := cx w 48) Try.func33 rfl rfl rfl rfl ?_
    repeat' (first | ((with_reducible apply oq_id); first | (apply oq_fn; exact rfl; first | exact trivial | (refine ⟨?_, ?_⟩ <;> omega) | (refine ⟨?_, ?_, ?_⟩ <;> omega) | omega | skip) | ((with_reducible apply oq_load); exact rfl; exact rfl) | ((with_reducible apply oq_loadAgg); exact rfl; exact rfl) | ((with_reducible apply oq_call (k := 88) (hc := Try.call88)); exact rfl; exact rfl; exact fun D w1 hw1 => HC w1 hw1.ext.ext) | ((with_reducible apply oq_call (k := 89) (hc := Try.call89)); exact rfl; exact rfl; exact fun D w1 hw1 => HF w1) | ((with_reducible apply oq_build); exact rfl; exact rfl; exact rfl)) | ((with_reducible apply tl_id); first | ((with_reducible apply tl_nil)) | ((with_reducible apply u_q); exact rfl; exact rfl; exact rfl; exact rfl) | ((with_reducible apply u_s0); exact rfl; exact rfl) | ((with_reducible apply u_s); exact rfl; exact rfl; exact rfl)) | ((with_reducible apply gx_id); first | ((with_reducible apply v_nil)) | ((with_reducible apply v_q); exact rfl; exact rfl; exact rfl)) | ((with_reducible apply os_id); first | ((with_reducible apply os_x); exact rfl) | ((with_reducible apply os_store); exact rfl; exact rfl; exact rfl; exact rfl) | ((with_reducible apply os_storeAgg); exact rfl; exact rfl; exact rfl; exact rfl; exact rfl)) | ((with_reducible apply ox_id); first | ((with_reducible apply ox_alloc); exact rfl; intro _) | ((with_reducible apply ox_box); exact rfl; exact rfl; intro _) | ((with_reducible apply ox_boxAgg); exact rfl; intro _)) | ((with_reducible apply rd_id); first | (apply Rd.own; (repeat (first | exact P0 | apply P1)); exact rfl; done) | (apply Rd.old; (first | (with_reducible assumption)); first | exact List.not_mem_nil)) | ((with_reducible apply t_id); first | ((with_reducible apply t_seq)) | (apply t_region; kernel_rfl) | (apply t_drawn; kernel_rfl; decide +kernel) | ((with_reducible apply t_condT); exact rfl) | ((with_reducible apply t_condF); exact rfl) | ((with_reducible apply t_condD); exact rfl; all_goals first | (intro hp; try (exfalso; omega)) | skip) | ((with_reducible apply t_condN); exact rfl; all_goals first | (intro hp; try (exfalso; omega)) | skip) | ((with_reducible apply t_cond); exact rfl; all_goals first | intro hp | skip) | ((with_reducible apply t_ret)) | ((with_reducible apply t_skip))) | with_reducible apply q_thenN | with_reducible apply q_thenR | exact P0 | ((with_reducible apply P1)) | exact Rdn.zero | apply Rdn.succ | ((with_reducible apply Norm.nil); exact rfl) | ((with_reducible apply Norm.cons); exact rfl) | ((with_reducible apply end_ret)) | ((with_reducible apply end_normal)) | exact rvs_nil | ((with_reducible apply rvs_cons)) | ((with_reducible apply rv_tmp); exact rfl) | ((with_reducible apply rv_cell); exact rfl; exact rfl) | ((with_reducible apply rv_cellAgg); exact rfl; exact rfl) | exact Nat.le_of_ble_eq_true rfl | exact (rfl : (_ : Bool) = true) | omega | (intro _ _; with_reducible apply tl_id) | (intro _; with_reducible apply tl_id) | (intro _ _; with_reducible apply al_id) | (intro _; with_reducible apply al_id))
    all_goals rfl
  | true =>
  rw [hwb] at HC
  have hW := (windB_iff l).1 hwb
  cases hfn : fineS (p, q) with
  | false =>
    rw [hfn] at HF
    simp only [Bool.false_eq_true, if_false, if_true] at HF HC ⊢
    refine enterQ (c := cx w 48) Try.func33 rfl rfl rfl rfl ?_
    repeat' (first | ((with_reducible apply oq_id); first | (apply oq_fn; exact rfl; first | exact trivial | (refine ⟨?_, ?_⟩ <;> omega) | (refine ⟨?_, ?_, ?_⟩ <;> omega) | omega | skip) | ((with_reducible apply oq_load); exact rfl; exact rfl) | ((with_reducible apply oq_loadAgg); exact rfl; exact rfl) | ((with_reducible apply oq_call (k := 88) (hc := Try.call88)); exact rfl; exact rfl; exact fun D w1 hw1 => HC w1 hw1.ext.ext) | ((with_reducible apply oq_call (k := 89) (hc := Try.call89)); exact rfl; exact rfl; exact fun D w1 hw1 => HF w1) | ((with_reducible apply oq_build); exact rfl; exact rfl; exact rfl)) | ((with_reducible apply tl_id); first | ((with_reducible apply tl_nil)) | ((with_reducible apply u_q); exact rfl; exact rfl; exact rfl; exact rfl) | ((with_reducible apply u_s0); exact rfl; exact rfl) | ((with_reducible apply u_s); exact rfl; exact rfl; exact rfl)) | ((with_reducible apply gx_id); first | ((with_reducible apply v_nil)) | ((with_reducible apply v_q); exact rfl; exact rfl; exact rfl)) | ((with_reducible apply os_id); first | ((with_reducible apply os_x); exact rfl) | ((with_reducible apply os_store); exact rfl; exact rfl; exact rfl; exact rfl) | ((with_reducible apply os_storeAgg); exact rfl; exact rfl; exact rfl; exact rfl; exact rfl)) | ((with_reducible apply ox_id); first | ((with_reducible apply ox_alloc); exact rfl; intro _) | ((with_reducible apply ox_box); exact rfl; exact rfl; intro _) | ((with_reducible apply ox_boxAgg); exact rfl; intro _)) | ((with_reducible apply rd_id); first | (apply Rd.own; (repeat (first | exact P0 | apply P1)); exact rfl; done) | (apply Rd.old; (first | (with_reducible assumption)); first | exact List.not_mem_nil)) | ((with_reducible apply t_id); first | ((with_reducible apply t_seq)) | (apply t_region; kernel_rfl) | (apply t_drawn; kernel_rfl; decide +kernel) | ((with_reducible apply t_condT); exact rfl) | ((with_reducible apply t_condF); exact rfl) | ((with_reducible apply t_condD); exact rfl; all_goals first | (intro hp; try (exfalso; omega)) | skip) | ((with_reducible apply t_condN); exact rfl; all_goals first | (intro hp; try (exfalso; omega)) | skip) | ((with_reducible apply t_cond); exact rfl; all_goals first | intro hp | skip) | ((with_reducible apply t_ret)) | ((with_reducible apply t_skip))) | with_reducible apply q_thenN | with_reducible apply q_thenR | exact P0 | ((with_reducible apply P1)) | exact Rdn.zero | apply Rdn.succ | ((with_reducible apply Norm.nil); exact rfl) | ((with_reducible apply Norm.cons); exact rfl) | ((with_reducible apply end_ret)) | ((with_reducible apply end_normal)) | exact rvs_nil | ((with_reducible apply rvs_cons)) | ((with_reducible apply rv_tmp); exact rfl) | ((with_reducible apply rv_cell); exact rfl; exact rfl) | ((with_reducible apply rv_cellAgg); exact rfl; exact rfl) | exact Nat.le_of_ble_eq_true rfl | exact (rfl : (_ : Bool) = true) | omega | (intro _ _; with_reducible apply tl_id) | (intro _; with_reducible apply tl_id) | (intro _ _; with_reducible apply al_id) | (intro _; with_reducible apply al_id))
    all_goals rfl
  | true =>
  rw [hfn] at HF
  simp only [if_true] at HF HC ⊢
  have hpq : p ≤ q := ((fineS_iff (p, q)).1 hfn).1
  have B1 := steady_big (e := true) (p := p) (q := q) hW
  have B2 := steady_big (e := false) (p := p) (q := q) hW
  have G := gustR_bounds (p := p) (q := q) (fun x hx => by have := hW.ok x hx; omega) l.length
  obtain ⟨a1, a2, a3, a4⟩ := B1
  obtain ⟨b1, b2, b3, b4⟩ := B2
  have HG := fun w1 (hx : Ext w w1) => gust_calls A n c l p q w1 (hr.ext hx) hn
  have HX := fun w1 (hx : Ext w w1) => steady_calls true A n c l p q w1 (hr.ext hx) hW hpq
  have HY := fun w1 (hx : Ext w w1) => steady_calls false A n c l p q w1 (hr.ext hx) hW hpq
  unfold widen
  change 0 ≤ gustV l p q ∧ gustV l p q ≤ 500 at G
  generalize gustV l p q = gu at HG G ⊢
  generalize steadyV true l p q = sx at *
  generalize steadyV false l p q = sy at *
  refine enterQ (c := cx w 48) Try.func33 rfl rfl rfl rfl ?_
  repeat' (first | ((with_reducible apply oq_id); first | (apply oq_fn; exact rfl; first | exact trivial | (refine ⟨?_, ?_⟩ <;> omega) | (refine ⟨?_, ?_, ?_⟩ <;> omega) | omega | skip) | ((with_reducible apply oq_load); exact rfl; exact rfl) | ((with_reducible apply oq_loadAgg); exact rfl; exact rfl) | ((with_reducible apply oq_call (k := 88) (hc := Try.call88)); exact rfl; exact rfl; exact fun D w1 hw1 => HC w1 hw1.ext.ext) | ((with_reducible apply oq_call (k := 89) (hc := Try.call89)); exact rfl; exact rfl; exact fun D w1 hw1 => HF w1) | ((with_reducible apply oq_call (k := 90) (hc := Try.call90)); exact rfl; exact rfl; exact fun D w1 hw1 => HG w1 hw1.ext.ext) | ((with_reducible apply oq_call (k := 91) (hc := Try.call91)); exact rfl; exact rfl; exact fun D w1 hw1 => HX w1 hw1.ext.ext) | ((with_reducible apply oq_call (k := 91) (hc := Try.call91)); exact rfl; exact rfl; exact fun D w1 hw1 => HY w1 hw1.ext.ext) | ((with_reducible apply oq_build); exact rfl; exact rfl; exact rfl)) | ((with_reducible apply tl_id); first | ((with_reducible apply tl_nil)) | ((with_reducible apply u_q); exact rfl; exact rfl; exact rfl; exact rfl) | ((with_reducible apply u_s0); exact rfl; exact rfl) | ((with_reducible apply u_s); exact rfl; exact rfl; exact rfl)) | ((with_reducible apply gx_id); first | ((with_reducible apply v_nil)) | ((with_reducible apply v_q); exact rfl; exact rfl; exact rfl)) | ((with_reducible apply os_id); first | ((with_reducible apply os_x); exact rfl) | ((with_reducible apply os_store); exact rfl; exact rfl; exact rfl; exact rfl) | ((with_reducible apply os_storeAgg); exact rfl; exact rfl; exact rfl; exact rfl; exact rfl)) | ((with_reducible apply ox_id); first | ((with_reducible apply ox_alloc); exact rfl; intro _) | ((with_reducible apply ox_box); exact rfl; exact rfl; intro _) | ((with_reducible apply ox_boxAgg); exact rfl; intro _)) | ((with_reducible apply ai_id); first | ((with_reducible apply ai_q); exact rfl; exact rfl; exact rfl; exact rfl; exact rfl) | ((with_reducible apply ai_x); exact rfl; exact rfl; exact rfl; exact rfl; exact rfl) | ((with_reducible apply ai_s0); exact rfl; exact rfl; exact rfl; exact rfl) | ((with_reducible apply ai_n0); exact rfl; exact rfl; exact rfl) | ((with_reducible apply ai_s); exact rfl; exact rfl; exact rfl; exact rfl; exact rfl) | ((with_reducible apply ai_n); exact rfl; exact rfl; exact rfl; exact rfl) | ((with_reducible apply ai_skip); exact rfl; exact rfl; exact rfl; exact rfl) | ((with_reducible apply ai_splitD); exact rfl; exact rfl; exact rfl; all_goals first | (intro hp; try (exfalso; omega)) | skip) | ((with_reducible apply ai_splitN); exact rfl; exact rfl; exact rfl; all_goals first | (intro hp; try (exfalso; omega)) | skip) | ((with_reducible apply ai_split); exact rfl; exact rfl; exact rfl; all_goals first | intro hp | skip)) | ((with_reducible apply al_keep); focus (repeat (first | exact HpSub.refl _ | (apply HpSub.cons; (repeat (first | exact P0 | apply P1))) | exact HpSub.nil))) | ((with_reducible apply rd_id); first | (apply Rd.own; (repeat (first | exact P0 | apply P1)); exact rfl; done) | (apply Rd.old; (first | (with_reducible assumption)); first | exact List.not_mem_nil)) | ((with_reducible apply t_id); first | ((with_reducible apply t_seq)) | (apply t_region; kernel_rfl) | (apply t_drawn; kernel_rfl; decide +kernel) | ((with_reducible apply t_condT); exact rfl) | ((with_reducible apply t_condF); exact rfl) | ((with_reducible apply t_condD); exact rfl; all_goals first | (intro hp; try (exfalso; omega)) | skip) | ((with_reducible apply t_condN); exact rfl; all_goals first | (intro hp; try (exfalso; omega)) | skip) | ((with_reducible apply t_cond); exact rfl; all_goals first | intro hp | skip) | ((with_reducible apply t_ret)) | ((with_reducible apply t_skip))) | with_reducible apply q_thenN | with_reducible apply q_thenR | exact P0 | ((with_reducible apply P1)) | exact Rdn.zero | apply Rdn.succ | ((with_reducible apply Norm.nil); exact rfl) | ((with_reducible apply Norm.cons); exact rfl) | ((with_reducible apply end_ret)) | ((with_reducible apply end_normal)) | exact rvs_nil | ((with_reducible apply rvs_cons)) | ((with_reducible apply rv_tmp); exact rfl) | ((with_reducible apply rv_cell); exact rfl; exact rfl) | ((with_reducible apply rv_cellAgg); exact rfl; exact rfl) | (apply t_mix (id := 7) [0, 1, 2, 3, 4, 5] 4 #[false, false, false, false, false, false, false, false, false, false]; kernel_rfl; kernel_rfl; exact rfl) | ((with_reducible apply al_id); first | (apply al_done; decide +kernel) | (apply al_one 6; decide +kernel) | (apply al_one 7; decide +kernel) | (apply al_one 8; decide +kernel) | (apply al_one 9; decide +kernel) | (apply al_two 6 7; decide +kernel)) | exact Nat.le_of_ble_eq_true rfl | exact (rfl : (_ : Bool) = true) | omega | (intro _ _; with_reducible apply tl_id) | (intro _; with_reducible apply tl_id) | (intro _ _; with_reducible apply al_id) | (intro _; with_reducible apply al_id))
  all_goals rfl

end Go.Proofs.Ytalidommelefaaa
