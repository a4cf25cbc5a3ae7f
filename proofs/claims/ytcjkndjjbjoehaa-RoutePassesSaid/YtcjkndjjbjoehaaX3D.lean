/- A part of the proof: rules for walks, and contracts of functions (4). -/
import Derived.Test.YtcjkndjjbjoehaaX3A
import Derived.Test.YtcjkndjjbjoehaaX3C
import Derived.Test.YtcjkndjjbjoehaaX3B
import Derived.Laws.IdiomCopy
set_option linter.unusedVariables false
set_option linter.unusedSimpArgs false
set_option maxRecDepth 100000
set_option maxHeartbeats 2000000
namespace Go.Proofs.Ytcjkndjjbjoehaa
open Go.RowKit
attribute [local irreducible] OQ OS OX Rd T TL GX GL AL AI RV wpG SAny Calls
/-- Is a terrain valid? -/
def terB (W Hh : Int) (g : List Int) : Bool := allFrom 1 24 [W, Hh] && decide ((g.length : Int) = W * Hh) && allFrom (-500) 9000 g
theorem allFrom_two {lo hi x y : Int} : allFrom lo hi [x, y] = true ↔ lo ≤ x ∧ x ≤ hi ∧ lo ≤ y ∧ y ≤ hi := by
  simp [allFrom]; omega
theorem terB_iff {W Hh : Int} {g : List Int} : terB W Hh g = true ↔ (1 ≤ W ∧ W ≤ 24 ∧ 1 ≤ Hh ∧ Hh ≤ 24) ∧ (g.length : Int) = W * Hh ∧ ∀ x ∈ g, -500 ≤ x ∧ x ≤ 9000 := by
  unfold terB
  rw [Bool.and_eq_true, Bool.and_eq_true, allFrom_two, decide_eq_true_eq]
  unfold allFrom
  rw [List.all_eq_true]
  constructor
  · rintro ⟨⟨h1, h2⟩, h3⟩
    exact ⟨h1, h2, fun x hx => by simpa using h3 x hx⟩
  · rintro ⟨h1, h2, h3⟩
    exact ⟨⟨h1, h2⟩, fun x hx => by simpa using h3 x hx⟩
theorem mul_24 {W Hh : Int} (h : 1 ≤ W ∧ W ≤ 24 ∧ 1 ≤ Hh ∧ Hh ≤ 24) : 1 ≤ W * Hh ∧ W * Hh ≤ 576 := by
  obtain ⟨h1, h2, h3, h4⟩ := h
  have a := Int.mul_le_mul h2 h4 (by omega) (by omega : (0 : Int) ≤ 24)
  have b := Int.mul_le_mul h1 h3 (by omega) (by omega : (0 : Int) ≤ W)
  omega
theorem within6_calls (n lo hi : Int) (w : World) : Calls Try.prog 51 #[.int .i64 n, .int .i64 lo, .int .i64 hi] w fun e w' => e = .returned (.bool (decide (lo ≤ n ∧ n ≤ hi))) ∧ Ext w w' := by
  refine enterQ (c := cx w 15) Try.func51 rfl rfl rfl rfl ?_
  repeat' (first | ((with_reducible apply oq_id); first | (apply oq_fn; exact rfl; try first | exact trivial | (and_intros <;> omega))) | ((with_reducible apply tl_id); first | (with_reducible apply tl_nil) | ((with_reducible apply u_q); (iterate 4 exact rfl)) | ((with_reducible apply u_skip); (iterate 3 exact rfl)) | ((with_reducible apply u_splitD); exact rfl; exact rfl; all_goals first | (intro hp; try (exfalso; omega)) | skip)) | ((with_reducible apply t_id); first | (with_reducible apply t_seq) | (apply t_region; kernel_rfl) | (with_reducible apply t_ret)) | with_reducible apply q_thenN | (with_reducible apply end_ret) | exact rvs_nil | (with_reducible apply rvs_cons) | ((with_reducible apply rv_tmp); exact rfl))
  all_goals (show Value.bool _ = Value.bool _; congr 1; rw [Bool.eq_iff_iff]; simp; try omega)
theorem checkTerrain_calls (A : Option Addr) (n cp : Nat) (W Hh : Int) (g : List Int) (w : World) (hr : RdS w 1 A n (g.map inCells)) (hn : n ≤ 1000000) :
    Calls Try.prog 10 #[.agg #[.int .i64 W, .int .i64 Hh, .slice A n cp]] w fun e w' => e = .returned (.int .i64 (if terB W Hh g then 0 else 60)) ∧ Ext w w' := by
  have hl : g.length = n := by simpa using hr.len
  have HW := fun (b : Nat) (w1 : World) (h : RdS w1 1 (some ⟨b, 0, none⟩) 2 ([W, Hh].map inCells)) => rfrom_calls 1 24 (some ⟨b, 0, none⟩) 2 2 [W, Hh] w1 h (by omega)
  have HG := fun (w1 : World) (h : RdS w1 1 A n (g.map inCells)) => rfrom_calls (-500) 9000 A n cp g w1 h (by omega)
  unfold terB
  cases h1 : allFrom 1 24 [W, Hh] with
  | false =>
    rw [h1] at HW
    refine enterQ (c := cx w 27) Try.func10 rfl rfl rfl rfl ?_
    repeat' (first
      | ((with_reducible apply oq_id); first | (apply oq_fn; exact rfl; try first | exact trivial | (and_intros <;> omega)) | ((with_reducible apply oq_load); exact rfl; exact rfl) | ((with_reducible apply oq_loadAgg); exact rfl; exact rfl) | ((with_reducible apply oq_call (k := 45) (hc := Try.call45)); exact rfl; exact rfl; exact fun D w1 hw1 => HW _ w1 (int_rows (l := [W, Hh]) rfl hw1 (by (repeat (first | exact P0 | apply P1))))) | ((with_reducible apply oq_build); (iterate 3 exact rfl)) | ((with_reducible apply oq_buildA); (iterate 4 exact rfl)) | ((with_reducible apply oq_fieldAgg); (iterate 3 exact rfl)) | ((with_reducible apply oq_indexAgg); (iterate 4 exact rfl)))
      | ((with_reducible apply tl_id); first | (with_reducible apply tl_nil) | ((with_reducible apply u_q); (iterate 4 exact rfl)) | ((with_reducible apply u_s0); exact rfl; exact rfl) | ((with_reducible apply u_s); (iterate 3 exact rfl)) | ((with_reducible apply u_skip); (iterate 3 exact rfl)) | ((with_reducible apply u_splitD); exact rfl; exact rfl; all_goals first | (intro hp; try (exfalso; omega)) | skip) | ((with_reducible apply u_splitN); exact rfl; exact rfl; all_goals first | (intro hp; try (exfalso; omega)) | skip) | ((with_reducible apply u_split); exact rfl; exact rfl; all_goals first | intro hp | skip))
      | ((with_reducible apply gx_id); first | (with_reducible apply v_nil) | ((with_reducible apply v_q); (iterate 3 exact rfl)) | ((with_reducible apply v_skip); (iterate 3 exact rfl)) | ((with_reducible apply v_splitD); exact rfl; exact rfl; all_goals first | (intro hp; try (exfalso; omega)) | skip) | ((with_reducible apply v_splitN); exact rfl; exact rfl; all_goals first | (intro hp; try (exfalso; omega)) | skip) | ((with_reducible apply v_split); exact rfl; exact rfl; all_goals first | intro hp | skip))
      | ((with_reducible apply os_id); first | ((with_reducible apply os_x); exact rfl) | ((with_reducible apply os_store); (iterate 4 exact rfl)) | ((with_reducible apply os_storeAgg); (iterate 5 exact rfl)))
      | ((with_reducible apply ox_id); first | ((with_reducible apply ox_alloc); exact rfl; intro _) | ((with_reducible apply ox_box); exact rfl; exact rfl; intro _) | ((with_reducible apply ox_boxAgg); exact rfl; intro _) | ((with_reducible apply ox_buildSlice1); (iterate 6 exact rfl); intro _) | ((with_reducible apply ox_buildSlice2); (iterate 6 exact rfl); intro _) | ((with_reducible apply ox_buildSlice); (iterate 4 exact rfl)))
      | ((with_reducible apply rd_id); first | (apply Rd.own; (repeat (first | exact P0 | apply P1)); exact rfl; done) | (apply Rd.old; (first | (with_reducible assumption) | exact c0 | exact c1 | exact c2 | exact c3 | exact c4 | exact c5 | exact c6 | exact c7 | exact c8 | exact d0 | exact d1 | exact d2 | exact d3 | exact d4 | exact d5); first | exact List.not_mem_nil | exact m0 | exact m1 | exact m2 | exact m3 | exact m4 | exact m5 | exact m6 | exact m7 | exact m8 | exact m9))
      | ((with_reducible apply t_id); first | (with_reducible apply t_seq) | (apply t_region; kernel_rfl) | (apply t_drawn; kernel_rfl; decide +kernel; try simp only [List.append_eq, List.cons_append, List.nil_append]) | ((with_reducible apply t_condT); exact rfl) | ((with_reducible apply t_condF); exact rfl) | ((with_reducible apply t_condD); exact rfl; all_goals first | (intro hp; try (exfalso; omega)) | skip) | ((with_reducible apply t_condN); exact rfl; all_goals first | (intro hp; try (exfalso; omega)) | skip) | ((with_reducible apply t_cond); exact rfl; all_goals first | intro hp | skip) | (with_reducible apply t_ret) | (with_reducible apply t_skip) | (with_reducible apply t_exit) | (with_reducible apply t_block))
      | with_reducible apply q_thenN
      | with_reducible apply q_thenR
      | with_reducible apply q_blockR
      | with_reducible apply q_blockN
      | with_reducible apply q_thenE
      | ((with_reducible apply q_blockE); exact rfl)
      | ((with_reducible apply q_blockO); exact rfl)
      | exact P0
      | (with_reducible apply P1)
      | exact Rdn.zero
      | apply Rdn.succ
      | ((with_reducible apply Norm.nil); exact rfl)
      | ((with_reducible apply Norm.cons); exact rfl)
      | (with_reducible apply end_ret)
      | (with_reducible apply end_normal)
      | exact rvs_nil
      | (with_reducible apply rvs_cons)
      | ((with_reducible apply rv_tmp); exact rfl)
      | ((with_reducible apply rv_cell); exact rfl; exact rfl)
      | ((with_reducible apply rv_cellAgg); exact rfl; exact rfl)
      | exact Nat.le_of_ble_eq_true rfl
      | exact (rfl : (_ : Bool) = true)
      | omega
      | (intro _ _; with_reducible apply tl_id)
      | (intro _; with_reducible apply tl_id)
      | (intro _ _; with_reducible apply al_id)
      | (intro _; with_reducible apply al_id))
    all_goals rfl
  | true =>
  rw [h1] at HW
  have h24 := mul_24 (allFrom_two.1 h1)
  cases h3 : allFrom (-500) 9000 g <;> rw [h3] at HG
  all_goals
    by_cases h2 : (g.length : Int) = W * Hh
    all_goals
      refine enterQ (c := cx w 27) Try.func10 rfl rfl rfl rfl ?_
      repeat' (first
        | ((with_reducible apply oq_id); first | ((with_reducible apply (oq_mulE (k := W * Hh))); (iterate 3 exact rfl); omega) | ((with_reducible apply oq_neqT); exact rfl; exact rfl; omega) | ((with_reducible apply oq_neqF); exact rfl; exact rfl; omega) | (apply oq_fn; exact rfl; try first | exact trivial | (and_intros <;> omega)) | ((with_reducible apply oq_load); exact rfl; exact rfl) | ((with_reducible apply oq_loadAgg); exact rfl; exact rfl) | ((with_reducible apply oq_call (k := 45) (hc := Try.call45)); exact rfl; exact rfl; exact fun D w1 hw1 => HW _ w1 (int_rows (l := [W, Hh]) rfl hw1 (by (repeat (first | exact P0 | apply P1))))) | ((with_reducible apply oq_call (k := 45) (hc := Try.call45)); exact rfl; exact rfl; exact fun D w1 hw1 => HG w1 (hr.ext hw1.ext.ext)) | ((with_reducible apply oq_build); (iterate 3 exact rfl)) | ((with_reducible apply oq_buildA); (iterate 4 exact rfl)) | ((with_reducible apply oq_fieldAgg); (iterate 3 exact rfl)) | ((with_reducible apply oq_indexAgg); (iterate 4 exact rfl)))
        | ((with_reducible apply tl_id); first | (with_reducible apply tl_nil) | ((with_reducible apply u_q); (iterate 4 exact rfl)) | ((with_reducible apply u_s0); exact rfl; exact rfl) | ((with_reducible apply u_s); (iterate 3 exact rfl)) | ((with_reducible apply u_skip); (iterate 3 exact rfl)) | ((with_reducible apply u_splitD); exact rfl; exact rfl; all_goals first | (intro hp; try (exfalso; omega)) | skip) | ((with_reducible apply u_splitN); exact rfl; exact rfl; all_goals first | (intro hp; try (exfalso; omega)) | skip) | ((with_reducible apply u_split); exact rfl; exact rfl; all_goals first | intro hp | skip))
        | ((with_reducible apply gx_id); first | (with_reducible apply v_nil) | ((with_reducible apply v_q); (iterate 3 exact rfl)) | ((with_reducible apply v_skip); (iterate 3 exact rfl)) | ((with_reducible apply v_splitD); exact rfl; exact rfl; all_goals first | (intro hp; try (exfalso; omega)) | skip) | ((with_reducible apply v_splitN); exact rfl; exact rfl; all_goals first | (intro hp; try (exfalso; omega)) | skip) | ((with_reducible apply v_split); exact rfl; exact rfl; all_goals first | intro hp | skip))
        | ((with_reducible apply os_id); first | ((with_reducible apply os_x); exact rfl) | ((with_reducible apply os_store); (iterate 4 exact rfl)) | ((with_reducible apply os_storeAgg); (iterate 5 exact rfl)))
        | ((with_reducible apply ox_id); first | ((with_reducible apply ox_alloc); exact rfl; intro _) | ((with_reducible apply ox_box); exact rfl; exact rfl; intro _) | ((with_reducible apply ox_boxAgg); exact rfl; intro _) | ((with_reducible apply ox_buildSlice1); (iterate 6 exact rfl); intro _) | ((with_reducible apply ox_buildSlice2); (iterate 6 exact rfl); intro _) | ((with_reducible apply ox_buildSlice); (iterate 4 exact rfl)))
        | ((with_reducible apply rd_id); first | (apply Rd.own; (repeat (first | exact P0 | apply P1)); exact rfl; done) | (apply Rd.old; (first | (with_reducible assumption) | exact c0 | exact c1 | exact c2 | exact c3 | exact c4 | exact c5 | exact c6 | exact c7 | exact c8 | exact d0 | exact d1 | exact d2 | exact d3 | exact d4 | exact d5); first | exact List.not_mem_nil | exact m0 | exact m1 | exact m2 | exact m3 | exact m4 | exact m5 | exact m6 | exact m7 | exact m8 | exact m9))
        | ((with_reducible apply t_id); first | (with_reducible apply t_seq) | (apply t_region; kernel_rfl) | (apply t_drawn; kernel_rfl; decide +kernel; try simp only [List.append_eq, List.cons_append, List.nil_append]) | ((with_reducible apply t_condT); exact rfl) | ((with_reducible apply t_condF); exact rfl) | ((with_reducible apply t_condD); exact rfl; all_goals first | (intro hp; try (exfalso; omega)) | skip) | ((with_reducible apply t_condN); exact rfl; all_goals first | (intro hp; try (exfalso; omega)) | skip) | ((with_reducible apply t_cond); exact rfl; all_goals first | intro hp | skip) | (with_reducible apply t_ret) | (with_reducible apply t_skip) | (with_reducible apply t_exit) | (with_reducible apply t_block))
        | with_reducible apply q_thenN
        | with_reducible apply q_thenR
        | with_reducible apply q_blockR
        | with_reducible apply q_blockN
        | with_reducible apply q_thenE
        | ((with_reducible apply q_blockE); exact rfl)
        | ((with_reducible apply q_blockO); exact rfl)
        | exact P0
        | (with_reducible apply P1)
        | exact Rdn.zero
        | apply Rdn.succ
        | ((with_reducible apply Norm.nil); exact rfl)
        | ((with_reducible apply Norm.cons); exact rfl)
        | (with_reducible apply end_ret)
        | (with_reducible apply end_normal)
        | exact rvs_nil
        | (with_reducible apply rvs_cons)
        | ((with_reducible apply rv_tmp); exact rfl)
        | ((with_reducible apply rv_cell); exact rfl; exact rfl)
        | ((with_reducible apply rv_cellAgg); exact rfl; exact rfl)
        | exact Nat.le_of_ble_eq_true rfl
        | exact (rfl : (_ : Bool) = true)
        | omega
        | (intro _ _; with_reducible apply tl_id)
        | (intro _; with_reducible apply tl_id)
        | (intro _ _; with_reducible apply al_id)
        | (intro _; with_reducible apply al_id))
      all_goals first | (simp [h2]; rfl) | (simp [h2]; done)
theorem within6_t (n lo hi : Int) (h : lo ≤ n ∧ n ≤ hi) (w : World) : Calls Try.prog 51 #[.int .i64 n, .int .i64 lo, .int .i64 hi] w fun e w' => e = .returned (.bool true) ∧ Ext w w' := by
  have := within6_calls n lo hi w
  rw [decide_eq_true h] at this
  exact this
theorem within6_f (n lo hi : Int) (h : ¬ (lo ≤ n ∧ n ≤ hi)) (w : World) : Calls Try.prog 51 #[.int .i64 n, .int .i64 lo, .int .i64 hi] w fun e w' => e = .returned (.bool false) ∧ Ext w w' := by
  have := within6_calls n lo hi w
  rw [decide_eq_false h] at this
  exact this
theorem take_ok {g : List Int} {p : Int → Prop} {j : Nat} {x : Int} (h : ∀ y ∈ g.take j, p y) (hx : g[j]? = some x) (hp : p x) : ∀ y ∈ g.take (j + 1), p y := by
  rw [List.take_add_one, hx]
  intro y hy
  rcases List.mem_append.1 hy with hy | hy
  · exact h y hy
  · have : y = x := by simpa using hy
    rw [this]; exact hp
theorem terrain_calls (A : Option Addr) (n cp : Nat) (W Hh : Int) (g : List Int) (w : World) (hr : RdS w 1 A n (g.map inCells)) (hn : n ≤ 1000000) :
    Calls Try.prog 50 #[.agg #[.int .i64 W, .int .i64 Hh, .slice A n cp]] w fun e w' => e = .returned (.bool (terB W Hh g)) ∧ Ext w w' := by
  have hl : g.length = n := by simpa using hr.len
  by_cases h1 : 1 ≤ W ∧ W ≤ 24
  rotate_left
  · have e : terB W Hh g = false := by cases h : terB W Hh g with | false => rfl | true => exact absurd (terB_iff.1 h).1 (by omega)
    rw [e]
    refine enterQ (c := cx w 39) Try.func50 rfl rfl rfl rfl ?_
    repeat' (first
      | ((with_reducible apply oq_id); first | (apply oq_fn; exact rfl; try first | exact trivial | (and_intros <;> omega)) | ((with_reducible apply oq_load); exact rfl; exact rfl) | ((with_reducible apply oq_loadAgg); exact rfl; exact rfl) | ((with_reducible apply oq_call (k := 51) (hc := Try.call51)); exact rfl; exact rfl; (intro D w1 hw1; refine within6_t _ _ _ ?_ w1; omega)) | ((with_reducible apply oq_call (k := 51) (hc := Try.call51)); exact rfl; exact rfl; (intro D w1 hw1; refine within6_f _ _ _ ?_ w1; omega)) | ((with_reducible apply oq_build); (iterate 3 exact rfl)) | ((with_reducible apply oq_buildA); (iterate 4 exact rfl)) | ((with_reducible apply oq_fieldAgg); (iterate 3 exact rfl)) | ((with_reducible apply oq_indexAgg); (iterate 4 exact rfl)))
      | ((with_reducible apply tl_id); first | (with_reducible apply tl_nil) | ((with_reducible apply u_q); (iterate 4 exact rfl)) | ((with_reducible apply u_s0); exact rfl; exact rfl) | ((with_reducible apply u_s); (iterate 3 exact rfl)) | ((with_reducible apply u_skip); (iterate 3 exact rfl)) | ((with_reducible apply u_splitD); exact rfl; exact rfl; all_goals first | (intro hp; try (exfalso; omega)) | skip) | ((with_reducible apply u_splitN); exact rfl; exact rfl; all_goals first | (intro hp; try (exfalso; omega)) | skip) | ((with_reducible apply u_split); exact rfl; exact rfl; all_goals first | intro hp | skip))
      | ((with_reducible apply gx_id); first | (with_reducible apply v_nil) | ((with_reducible apply v_q); (iterate 3 exact rfl)) | ((with_reducible apply v_skip); (iterate 3 exact rfl)) | ((with_reducible apply v_splitD); exact rfl; exact rfl; all_goals first | (intro hp; try (exfalso; omega)) | skip) | ((with_reducible apply v_splitN); exact rfl; exact rfl; all_goals first | (intro hp; try (exfalso; omega)) | skip) | ((with_reducible apply v_split); exact rfl; exact rfl; all_goals first | intro hp | skip))
      | ((with_reducible apply os_id); first | ((with_reducible apply os_x); exact rfl) | ((with_reducible apply os_store); (iterate 4 exact rfl)) | ((with_reducible apply os_storeAgg); (iterate 5 exact rfl)))
      | ((with_reducible apply ox_id); first | ((with_reducible apply ox_alloc); exact rfl; intro _) | ((with_reducible apply ox_box); exact rfl; exact rfl; intro _) | ((with_reducible apply ox_boxAgg); exact rfl; intro _) | ((with_reducible apply ox_buildSlice1); (iterate 6 exact rfl); intro _) | ((with_reducible apply ox_buildSlice2); (iterate 6 exact rfl); intro _) | ((with_reducible apply ox_buildSlice); (iterate 4 exact rfl)))
      | ((with_reducible apply rd_id); first | (apply Rd.own; (repeat (first | exact P0 | apply P1)); exact rfl; done) | (apply Rd.old; (first | (with_reducible assumption) | exact c0 | exact c1 | exact c2 | exact c3 | exact c4 | exact c5 | exact c6 | exact c7 | exact c8 | exact d0 | exact d1 | exact d2 | exact d3 | exact d4 | exact d5); first | exact List.not_mem_nil | exact m0 | exact m1 | exact m2 | exact m3 | exact m4 | exact m5 | exact m6 | exact m7 | exact m8 | exact m9))
      | ((with_reducible apply t_id); first | (with_reducible apply t_seq) | (apply t_region; kernel_rfl) | (apply t_drawn; kernel_rfl; decide +kernel; try simp only [List.append_eq, List.cons_append, List.nil_append]) | ((with_reducible apply t_condT); exact rfl) | ((with_reducible apply t_condF); exact rfl) | ((with_reducible apply t_condD); exact rfl; all_goals first | (intro hp; try (exfalso; omega)) | skip) | ((with_reducible apply t_condN); exact rfl; all_goals first | (intro hp; try (exfalso; omega)) | skip) | ((with_reducible apply t_cond); exact rfl; all_goals first | intro hp | skip) | (with_reducible apply t_ret) | (with_reducible apply t_skip) | (with_reducible apply t_exit) | (with_reducible apply t_block))
      | with_reducible apply q_thenN
      | with_reducible apply q_thenR
      | with_reducible apply q_blockR
      | with_reducible apply q_blockN
      | with_reducible apply q_thenE
      | ((with_reducible apply q_blockE); exact rfl)
      | ((with_reducible apply q_blockO); exact rfl)
      | exact P0
      | (with_reducible apply P1)
      | exact Rdn.zero
      | apply Rdn.succ
      | ((with_reducible apply Norm.nil); exact rfl)
      | ((with_reducible apply Norm.cons); exact rfl)
      | (with_reducible apply end_ret)
      | (with_reducible apply end_normal)
      | exact rvs_nil
      | (with_reducible apply rvs_cons)
      | ((with_reducible apply rv_tmp); exact rfl)
      | ((with_reducible apply rv_cell); exact rfl; exact rfl)
      | ((with_reducible apply rv_cellAgg); exact rfl; exact rfl)
      | exact Nat.le_of_ble_eq_true rfl
      | exact (rfl : (_ : Bool) = true)
      | omega
      | (intro _ _; with_reducible apply tl_id)
      | (intro _; with_reducible apply tl_id)
      | (intro _ _; with_reducible apply al_id)
      | (intro _; with_reducible apply al_id))
    all_goals rfl
  by_cases h2 : 1 ≤ Hh ∧ Hh ≤ 24
  rotate_left
  · have e : terB W Hh g = false := by cases h : terB W Hh g with | false => rfl | true => exact absurd (terB_iff.1 h).1 (by omega)
    rw [e]
    refine enterQ (c := cx w 39) Try.func50 rfl rfl rfl rfl ?_
    repeat' (first
      | ((with_reducible apply oq_id); first | (apply oq_fn; exact rfl; try first | exact trivial | (and_intros <;> omega)) | ((with_reducible apply oq_load); exact rfl; exact rfl) | ((with_reducible apply oq_loadAgg); exact rfl; exact rfl) | ((with_reducible apply oq_call (k := 51) (hc := Try.call51)); exact rfl; exact rfl; (intro D w1 hw1; refine within6_t _ _ _ ?_ w1; omega)) | ((with_reducible apply oq_call (k := 51) (hc := Try.call51)); exact rfl; exact rfl; (intro D w1 hw1; refine within6_f _ _ _ ?_ w1; omega)) | ((with_reducible apply oq_build); (iterate 3 exact rfl)) | ((with_reducible apply oq_buildA); (iterate 4 exact rfl)) | ((with_reducible apply oq_fieldAgg); (iterate 3 exact rfl)) | ((with_reducible apply oq_indexAgg); (iterate 4 exact rfl)))
      | ((with_reducible apply tl_id); first | (with_reducible apply tl_nil) | ((with_reducible apply u_q); (iterate 4 exact rfl)) | ((with_reducible apply u_s0); exact rfl; exact rfl) | ((with_reducible apply u_s); (iterate 3 exact rfl)) | ((with_reducible apply u_skip); (iterate 3 exact rfl)) | ((with_reducible apply u_splitD); exact rfl; exact rfl; all_goals first | (intro hp; try (exfalso; omega)) | skip) | ((with_reducible apply u_splitN); exact rfl; exact rfl; all_goals first | (intro hp; try (exfalso; omega)) | skip) | ((with_reducible apply u_split); exact rfl; exact rfl; all_goals first | intro hp | skip))
      | ((with_reducible apply gx_id); first | (with_reducible apply v_nil) | ((with_reducible apply v_q); (iterate 3 exact rfl)) | ((with_reducible apply v_skip); (iterate 3 exact rfl)) | ((with_reducible apply v_splitD); exact rfl; exact rfl; all_goals first | (intro hp; try (exfalso; omega)) | skip) | ((with_reducible apply v_splitN); exact rfl; exact rfl; all_goals first | (intro hp; try (exfalso; omega)) | skip) | ((with_reducible apply v_split); exact rfl; exact rfl; all_goals first | intro hp | skip))
      | ((with_reducible apply os_id); first | ((with_reducible apply os_x); exact rfl) | ((with_reducible apply os_store); (iterate 4 exact rfl)) | ((with_reducible apply os_storeAgg); (iterate 5 exact rfl)))
      | ((with_reducible apply ox_id); first | ((with_reducible apply ox_alloc); exact rfl; intro _) | ((with_reducible apply ox_box); exact rfl; exact rfl; intro _) | ((with_reducible apply ox_boxAgg); exact rfl; intro _) | ((with_reducible apply ox_buildSlice1); (iterate 6 exact rfl); intro _) | ((with_reducible apply ox_buildSlice2); (iterate 6 exact rfl); intro _) | ((with_reducible apply ox_buildSlice); (iterate 4 exact rfl)))
      | ((with_reducible apply rd_id); first | (apply Rd.own; (repeat (first | exact P0 | apply P1)); exact rfl; done) | (apply Rd.old; (first | (with_reducible assumption) | exact c0 | exact c1 | exact c2 | exact c3 | exact c4 | exact c5 | exact c6 | exact c7 | exact c8 | exact d0 | exact d1 | exact d2 | exact d3 | exact d4 | exact d5); first | exact List.not_mem_nil | exact m0 | exact m1 | exact m2 | exact m3 | exact m4 | exact m5 | exact m6 | exact m7 | exact m8 | exact m9))
      | ((with_reducible apply t_id); first | (with_reducible apply t_seq) | (apply t_region; kernel_rfl) | (apply t_drawn; kernel_rfl; decide +kernel; try simp only [List.append_eq, List.cons_append, List.nil_append]) | ((with_reducible apply t_condT); exact rfl) | ((with_reducible apply t_condF); exact rfl) | ((with_reducible apply t_condD); exact rfl; all_goals first | (intro hp; try (exfalso; omega)) | skip) | ((with_reducible apply t_condN); exact rfl; all_goals first | (intro hp; try (exfalso; omega)) | skip) | ((with_reducible apply t_cond); exact rfl; all_goals first | intro hp | skip) | (with_reducible apply t_ret) | (with_reducible apply t_skip) | (with_reducible apply t_exit) | (with_reducible apply t_block))
      | with_reducible apply q_thenN
      | with_reducible apply q_thenR
      | with_reducible apply q_blockR
      | with_reducible apply q_blockN
      | with_reducible apply q_thenE
      | ((with_reducible apply q_blockE); exact rfl)
      | ((with_reducible apply q_blockO); exact rfl)
      | exact P0
      | (with_reducible apply P1)
      | exact Rdn.zero
      | apply Rdn.succ
      | ((with_reducible apply Norm.nil); exact rfl)
      | ((with_reducible apply Norm.cons); exact rfl)
      | (with_reducible apply end_ret)
      | (with_reducible apply end_normal)
      | exact rvs_nil
      | (with_reducible apply rvs_cons)
      | ((with_reducible apply rv_tmp); exact rfl)
      | ((with_reducible apply rv_cell); exact rfl; exact rfl)
      | ((with_reducible apply rv_cellAgg); exact rfl; exact rfl)
      | exact Nat.le_of_ble_eq_true rfl
      | exact (rfl : (_ : Bool) = true)
      | omega
      | (intro _ _; with_reducible apply tl_id)
      | (intro _; with_reducible apply tl_id)
      | (intro _ _; with_reducible apply al_id)
      | (intro _; with_reducible apply al_id))
    all_goals rfl
  have h24 := mul_24 ⟨h1.1, h1.2, h2.1, h2.2⟩
  by_cases h3 : (g.length : Int) = W * Hh
  rotate_left
  · have e : terB W Hh g = false := by cases h : terB W Hh g with | false => rfl | true => exact absurd (terB_iff.1 h).2.1 h3
    rw [e]
    refine enterQ (c := cx w 39) Try.func50 rfl rfl rfl rfl ?_
    repeat' (first
      | ((with_reducible apply oq_id); first | ((with_reducible apply (oq_mulE (k := W * Hh))); (iterate 3 exact rfl); omega) | ((with_reducible apply oq_neqT); exact rfl; exact rfl; omega) | ((with_reducible apply oq_neqF); exact rfl; exact rfl; omega) | (apply oq_fn; exact rfl; try first | exact trivial | (and_intros <;> omega)) | ((with_reducible apply oq_load); exact rfl; exact rfl) | ((with_reducible apply oq_loadAgg); exact rfl; exact rfl) | ((with_reducible apply oq_call (k := 51) (hc := Try.call51)); exact rfl; exact rfl; (intro D w1 hw1; refine within6_t _ _ _ ?_ w1; omega)) | ((with_reducible apply oq_call (k := 51) (hc := Try.call51)); exact rfl; exact rfl; (intro D w1 hw1; refine within6_f _ _ _ ?_ w1; omega)) | ((with_reducible apply oq_build); (iterate 3 exact rfl)) | ((with_reducible apply oq_buildA); (iterate 4 exact rfl)) | ((with_reducible apply oq_fieldAgg); (iterate 3 exact rfl)) | ((with_reducible apply oq_indexAgg); (iterate 4 exact rfl)))
      | ((with_reducible apply tl_id); first | (with_reducible apply tl_nil) | ((with_reducible apply u_q); (iterate 4 exact rfl)) | ((with_reducible apply u_s0); exact rfl; exact rfl) | ((with_reducible apply u_s); (iterate 3 exact rfl)) | ((with_reducible apply u_skip); (iterate 3 exact rfl)) | ((with_reducible apply u_splitD); exact rfl; exact rfl; all_goals first | (intro hp; try (exfalso; omega)) | skip) | ((with_reducible apply u_splitN); exact rfl; exact rfl; all_goals first | (intro hp; try (exfalso; omega)) | skip) | ((with_reducible apply u_split); exact rfl; exact rfl; all_goals first | intro hp | skip))
      | ((with_reducible apply gx_id); first | (with_reducible apply v_nil) | ((with_reducible apply v_q); (iterate 3 exact rfl)) | ((with_reducible apply v_skip); (iterate 3 exact rfl)) | ((with_reducible apply v_splitD); exact rfl; exact rfl; all_goals first | (intro hp; try (exfalso; omega)) | skip) | ((with_reducible apply v_splitN); exact rfl; exact rfl; all_goals first | (intro hp; try (exfalso; omega)) | skip) | ((with_reducible apply v_split); exact rfl; exact rfl; all_goals first | intro hp | skip))
      | ((with_reducible apply os_id); first | ((with_reducible apply os_x); exact rfl) | ((with_reducible apply os_store); (iterate 4 exact rfl)) | ((with_reducible apply os_storeAgg); (iterate 5 exact rfl)))
      | ((with_reducible apply ox_id); first | ((with_reducible apply ox_alloc); exact rfl; intro _) | ((with_reducible apply ox_box); exact rfl; exact rfl; intro _) | ((with_reducible apply ox_boxAgg); exact rfl; intro _) | ((with_reducible apply ox_buildSlice1); (iterate 6 exact rfl); intro _) | ((with_reducible apply ox_buildSlice2); (iterate 6 exact rfl); intro _) | ((with_reducible apply ox_buildSlice); (iterate 4 exact rfl)))
      | ((with_reducible apply rd_id); first | (apply Rd.own; (repeat (first | exact P0 | apply P1)); exact rfl; done) | (apply Rd.old; (first | (with_reducible assumption) | exact c0 | exact c1 | exact c2 | exact c3 | exact c4 | exact c5 | exact c6 | exact c7 | exact c8 | exact d0 | exact d1 | exact d2 | exact d3 | exact d4 | exact d5); first | exact List.not_mem_nil | exact m0 | exact m1 | exact m2 | exact m3 | exact m4 | exact m5 | exact m6 | exact m7 | exact m8 | exact m9))
      | ((with_reducible apply t_id); first | (with_reducible apply t_seq) | (apply t_region; kernel_rfl) | (apply t_drawn; kernel_rfl; decide +kernel; try simp only [List.append_eq, List.cons_append, List.nil_append]) | ((with_reducible apply t_condT); exact rfl) | ((with_reducible apply t_condF); exact rfl) | ((with_reducible apply t_condD); exact rfl; all_goals first | (intro hp; try (exfalso; omega)) | skip) | ((with_reducible apply t_condN); exact rfl; all_goals first | (intro hp; try (exfalso; omega)) | skip) | ((with_reducible apply t_cond); exact rfl; all_goals first | intro hp | skip) | (with_reducible apply t_ret) | (with_reducible apply t_skip) | (with_reducible apply t_exit) | (with_reducible apply t_block))
      | with_reducible apply q_thenN
      | with_reducible apply q_thenR
      | with_reducible apply q_blockR
      | with_reducible apply q_blockN
      | with_reducible apply q_thenE
      | ((with_reducible apply q_blockE); exact rfl)
      | ((with_reducible apply q_blockO); exact rfl)
      | exact P0
      | (with_reducible apply P1)
      | exact Rdn.zero
      | apply Rdn.succ
      | ((with_reducible apply Norm.nil); exact rfl)
      | ((with_reducible apply Norm.cons); exact rfl)
      | (with_reducible apply end_ret)
      | (with_reducible apply end_normal)
      | exact rvs_nil
      | (with_reducible apply rvs_cons)
      | ((with_reducible apply rv_tmp); exact rfl)
      | ((with_reducible apply rv_cell); exact rfl; exact rfl)
      | ((with_reducible apply rv_cellAgg); exact rfl; exact rfl)
      | exact Nat.le_of_ble_eq_true rfl
      | exact (rfl : (_ : Bool) = true)
      | omega
      | (intro _ _; with_reducible apply tl_id)
      | (intro _; with_reducible apply tl_id)
      | (intro _ _; with_reducible apply al_id)
      | (intro _; with_reducible apply al_id))
    all_goals rfl
  refine enterQ (c := cx w 39) Try.func50 rfl rfl rfl rfl ?_
  refine t_cut (ι := Nat) (fun b1 => [(1, .pointer (some ⟨b1, 0, none⟩))]) (fun b1 => [(b1, [.int .i64 W, .int .i64 Hh, .slice A n cp], some (24, 3, 1))]) (fun _ => True) ?_ ?_
  · repeat' (first
      | ((with_reducible apply oq_id); first | (apply oq_fn; exact rfl; try first | exact trivial | (and_intros <;> omega)) | ((with_reducible apply oq_load); exact rfl; exact rfl) | ((with_reducible apply oq_loadAgg); exact rfl; exact rfl) | ((with_reducible apply oq_build); (iterate 3 exact rfl)) | ((with_reducible apply oq_buildA); (iterate 4 exact rfl)) | ((with_reducible apply oq_fieldAgg); (iterate 3 exact rfl)) | ((with_reducible apply oq_indexAgg); (iterate 4 exact rfl)))
      | ((with_reducible apply tl_id); first | (with_reducible apply tl_nil) | ((with_reducible apply u_q); (iterate 4 exact rfl)) | ((with_reducible apply u_s0); exact rfl; exact rfl) | ((with_reducible apply u_s); (iterate 3 exact rfl)) | ((with_reducible apply u_skip); (iterate 3 exact rfl)) | ((with_reducible apply u_splitD); exact rfl; exact rfl; all_goals first | (intro hp; try (exfalso; omega)) | skip) | ((with_reducible apply u_splitN); exact rfl; exact rfl; all_goals first | (intro hp; try (exfalso; omega)) | skip) | ((with_reducible apply u_split); exact rfl; exact rfl; all_goals first | intro hp | skip))
      | ((with_reducible apply gx_id); first | (with_reducible apply v_nil) | ((with_reducible apply v_q); (iterate 3 exact rfl)) | ((with_reducible apply v_skip); (iterate 3 exact rfl)) | ((with_reducible apply v_splitD); exact rfl; exact rfl; all_goals first | (intro hp; try (exfalso; omega)) | skip) | ((with_reducible apply v_splitN); exact rfl; exact rfl; all_goals first | (intro hp; try (exfalso; omega)) | skip) | ((with_reducible apply v_split); exact rfl; exact rfl; all_goals first | intro hp | skip))
      | ((with_reducible apply os_id); first | ((with_reducible apply os_x); exact rfl) | ((with_reducible apply os_store); (iterate 4 exact rfl)) | ((with_reducible apply os_storeAgg); (iterate 5 exact rfl)))
      | ((with_reducible apply ox_id); first | ((with_reducible apply ox_alloc); exact rfl; intro _) | ((with_reducible apply ox_box); exact rfl; exact rfl; intro _) | ((with_reducible apply ox_boxAgg); exact rfl; intro _) | ((with_reducible apply ox_buildSlice1); (iterate 6 exact rfl); intro _) | ((with_reducible apply ox_buildSlice2); (iterate 6 exact rfl); intro _) | ((with_reducible apply ox_buildSlice); (iterate 4 exact rfl)))
      | ((with_reducible apply rd_id); first | (apply Rd.own; (repeat (first | exact P0 | apply P1)); exact rfl; done) | (apply Rd.old; (first | (with_reducible assumption) | exact c0 | exact c1 | exact c2 | exact c3 | exact c4 | exact c5 | exact c6 | exact c7 | exact c8 | exact d0 | exact d1 | exact d2 | exact d3 | exact d4 | exact d5); first | exact List.not_mem_nil | exact m0 | exact m1 | exact m2 | exact m3 | exact m4 | exact m5 | exact m6 | exact m7 | exact m8 | exact m9))
      | ((with_reducible apply t_id); first | (with_reducible apply t_seq) | (apply t_region; kernel_rfl) | (apply t_drawn; kernel_rfl; decide +kernel; try simp only [List.append_eq, List.cons_append, List.nil_append]) | ((with_reducible apply t_condT); exact rfl) | ((with_reducible apply t_condF); exact rfl) | ((with_reducible apply t_condD); exact rfl; all_goals first | (intro hp; try (exfalso; omega)) | skip) | ((with_reducible apply t_condN); exact rfl; all_goals first | (intro hp; try (exfalso; omega)) | skip) | ((with_reducible apply t_cond); exact rfl; all_goals first | intro hp | skip) | (with_reducible apply t_ret) | (with_reducible apply t_skip) | (with_reducible apply t_exit) | (with_reducible apply t_block))
      | with_reducible apply q_thenN
      | with_reducible apply q_thenR
      | with_reducible apply q_blockR
      | with_reducible apply q_blockN
      | with_reducible apply q_thenE
      | ((with_reducible apply q_blockE); exact rfl)
      | ((with_reducible apply q_blockO); exact rfl)
      | exact P0
      | (with_reducible apply P1)
      | exact Rdn.zero
      | apply Rdn.succ
      | ((with_reducible apply Norm.nil); exact rfl)
      | ((with_reducible apply Norm.cons); exact rfl)
      | (with_reducible apply end_ret)
      | (with_reducible apply end_normal)
      | exact rvs_nil
      | (with_reducible apply rvs_cons)
      | ((with_reducible apply rv_tmp); exact rfl)
      | ((with_reducible apply rv_cell); exact rfl; exact rfl)
      | ((with_reducible apply rv_cellAgg); exact rfl; exact rfl)
      | exact Nat.le_of_ble_eq_true rfl
      | exact (rfl : (_ : Bool) = true)
      | omega
      | (intro _ _; with_reducible apply tl_id)
      | (intro _; with_reducible apply tl_id)
      | (intro _ _; with_reducible apply al_id)
      | (intro _; with_reducible apply al_id))
    all_goals exact ⟨rfl, _, trivial, by (repeat (first | exact FrSub.nil | (apply FrSub.cons; exact rfl))), by (repeat (first | exact HpSub.refl _ | (apply HpSub.consE; (repeat (first | exact P0 | apply P1)); exact rfl) | exact HpSub.nil))⟩
  rintro b1 -
  try dsimp only
  refine t_cut (ι := Unit) (fun _ => [(1, .pointer (some ⟨b1, 0, none⟩))]) (fun _ => [(b1, [.int .i64 W, .int .i64 Hh, .slice A n cp], some (24, 3, 1))]) (fun _ => True) ?_ ?_
  · repeat' (first
      | ((with_reducible apply oq_id); first | ((with_reducible apply (oq_mulE (k := W * Hh))); (iterate 3 exact rfl); omega) | ((with_reducible apply oq_neqT); exact rfl; exact rfl; omega) | ((with_reducible apply oq_neqF); exact rfl; exact rfl; omega) | (apply oq_fn; exact rfl; try first | exact trivial | (and_intros <;> omega)) | ((with_reducible apply oq_load); exact rfl; exact rfl) | ((with_reducible apply oq_loadAgg); exact rfl; exact rfl) | ((with_reducible apply oq_call (k := 51) (hc := Try.call51)); exact rfl; exact rfl; (intro D w1 hw1; refine within6_t _ _ _ ?_ w1; omega)) | ((with_reducible apply oq_call (k := 51) (hc := Try.call51)); exact rfl; exact rfl; (intro D w1 hw1; refine within6_f _ _ _ ?_ w1; omega)) | ((with_reducible apply oq_build); (iterate 3 exact rfl)) | ((with_reducible apply oq_buildA); (iterate 4 exact rfl)) | ((with_reducible apply oq_fieldAgg); (iterate 3 exact rfl)) | ((with_reducible apply oq_indexAgg); (iterate 4 exact rfl)))
      | ((with_reducible apply tl_id); first | (with_reducible apply tl_nil) | ((with_reducible apply u_q); (iterate 4 exact rfl)) | ((with_reducible apply u_s0); exact rfl; exact rfl) | ((with_reducible apply u_s); (iterate 3 exact rfl)) | ((with_reducible apply u_skip); (iterate 3 exact rfl)) | ((with_reducible apply u_splitD); exact rfl; exact rfl; all_goals first | (intro hp; try (exfalso; omega)) | skip) | ((with_reducible apply u_splitN); exact rfl; exact rfl; all_goals first | (intro hp; try (exfalso; omega)) | skip) | ((with_reducible apply u_split); exact rfl; exact rfl; all_goals first | intro hp | skip))
      | ((with_reducible apply gx_id); first | (with_reducible apply v_nil) | ((with_reducible apply v_q); (iterate 3 exact rfl)) | ((with_reducible apply v_skip); (iterate 3 exact rfl)) | ((with_reducible apply v_splitD); exact rfl; exact rfl; all_goals first | (intro hp; try (exfalso; omega)) | skip) | ((with_reducible apply v_splitN); exact rfl; exact rfl; all_goals first | (intro hp; try (exfalso; omega)) | skip) | ((with_reducible apply v_split); exact rfl; exact rfl; all_goals first | intro hp | skip))
      | ((with_reducible apply os_id); first | ((with_reducible apply os_x); exact rfl) | ((with_reducible apply os_store); (iterate 4 exact rfl)) | ((with_reducible apply os_storeAgg); (iterate 5 exact rfl)))
      | ((with_reducible apply ox_id); first | ((with_reducible apply ox_alloc); exact rfl; intro _) | ((with_reducible apply ox_box); exact rfl; exact rfl; intro _) | ((with_reducible apply ox_boxAgg); exact rfl; intro _) | ((with_reducible apply ox_buildSlice1); (iterate 6 exact rfl); intro _) | ((with_reducible apply ox_buildSlice2); (iterate 6 exact rfl); intro _) | ((with_reducible apply ox_buildSlice); (iterate 4 exact rfl)))
      | ((with_reducible apply rd_id); first | (apply Rd.own; (repeat (first | exact P0 | apply P1)); exact rfl; done) | (apply Rd.old; (first | (with_reducible assumption) | exact c0 | exact c1 | exact c2 | exact c3 | exact c4 | exact c5 | exact c6 | exact c7 | exact c8 | exact d0 | exact d1 | exact d2 | exact d3 | exact d4 | exact d5); first | exact List.not_mem_nil | exact m0 | exact m1 | exact m2 | exact m3 | exact m4 | exact m5 | exact m6 | exact m7 | exact m8 | exact m9))
      | ((with_reducible apply t_id); first | (with_reducible apply t_seq) | (apply t_region; kernel_rfl) | (apply t_drawn; kernel_rfl; decide +kernel; try simp only [List.append_eq, List.cons_append, List.nil_append]) | ((with_reducible apply t_condT); exact rfl) | ((with_reducible apply t_condF); exact rfl) | ((with_reducible apply t_condD); exact rfl; all_goals first | (intro hp; try (exfalso; omega)) | skip) | ((with_reducible apply t_condN); exact rfl; all_goals first | (intro hp; try (exfalso; omega)) | skip) | ((with_reducible apply t_cond); exact rfl; all_goals first | intro hp | skip) | (with_reducible apply t_ret) | (with_reducible apply t_skip) | (with_reducible apply t_exit) | (with_reducible apply t_block))
      | with_reducible apply q_thenN
      | with_reducible apply q_thenR
      | with_reducible apply q_blockR
      | with_reducible apply q_blockN
      | with_reducible apply q_thenE
      | ((with_reducible apply q_blockE); exact rfl)
      | ((with_reducible apply q_blockO); exact rfl)
      | exact P0
      | (with_reducible apply P1)
      | exact Rdn.zero
      | apply Rdn.succ
      | ((with_reducible apply Norm.nil); exact rfl)
      | ((with_reducible apply Norm.cons); exact rfl)
      | (with_reducible apply end_ret)
      | (with_reducible apply end_normal)
      | exact rvs_nil
      | (with_reducible apply rvs_cons)
      | ((with_reducible apply rv_tmp); exact rfl)
      | ((with_reducible apply rv_cell); exact rfl; exact rfl)
      | ((with_reducible apply rv_cellAgg); exact rfl; exact rfl)
      | exact Nat.le_of_ble_eq_true rfl
      | exact (rfl : (_ : Bool) = true)
      | omega
      | (intro _ _; with_reducible apply tl_id)
      | (intro _; with_reducible apply tl_id)
      | (intro _ _; with_reducible apply al_id)
      | (intro _; with_reducible apply al_id))
    all_goals exact ⟨rfl, (), trivial, by (repeat (first | exact FrSub.nil | (apply FrSub.cons; exact rfl))), by (repeat (first | exact HpSub.refl _ | (apply HpSub.consE; (repeat (first | exact P0 | apply P1)); exact rfl) | exact HpSub.nil))⟩
  rintro ⟨⟩ -
  try dsimp only
  repeat' (first
    | ((with_reducible apply oq_id); first | (apply oq_fn; exact rfl; try first | exact trivial | (and_intros <;> omega)) | ((with_reducible apply oq_load); exact rfl; exact rfl) | ((with_reducible apply oq_loadAgg); exact rfl; exact rfl) | ((with_reducible apply oq_build); (iterate 3 exact rfl)) | ((with_reducible apply oq_buildA); (iterate 4 exact rfl)) | ((with_reducible apply oq_fieldAgg); (iterate 3 exact rfl)) | ((with_reducible apply oq_indexAgg); (iterate 4 exact rfl)))
    | ((with_reducible apply tl_id); first | (with_reducible apply tl_nil) | ((with_reducible apply u_q); (iterate 4 exact rfl)) | ((with_reducible apply u_s0); exact rfl; exact rfl) | ((with_reducible apply u_s); (iterate 3 exact rfl)) | ((with_reducible apply u_skip); (iterate 3 exact rfl)) | ((with_reducible apply u_splitD); exact rfl; exact rfl; all_goals first | (intro hp; try (exfalso; omega)) | skip) | ((with_reducible apply u_splitN); exact rfl; exact rfl; all_goals first | (intro hp; try (exfalso; omega)) | skip) | ((with_reducible apply u_split); exact rfl; exact rfl; all_goals first | intro hp | skip))
    | ((with_reducible apply gx_id); first | (with_reducible apply v_nil) | ((with_reducible apply v_q); (iterate 3 exact rfl)) | ((with_reducible apply v_skip); (iterate 3 exact rfl)) | ((with_reducible apply v_splitD); exact rfl; exact rfl; all_goals first | (intro hp; try (exfalso; omega)) | skip) | ((with_reducible apply v_splitN); exact rfl; exact rfl; all_goals first | (intro hp; try (exfalso; omega)) | skip) | ((with_reducible apply v_split); exact rfl; exact rfl; all_goals first | intro hp | skip))
    | ((with_reducible apply os_id); first | ((with_reducible apply os_x); exact rfl) | ((with_reducible apply os_store); (iterate 4 exact rfl)) | ((with_reducible apply os_storeAgg); (iterate 5 exact rfl)))
    | ((with_reducible apply ox_id); first | ((with_reducible apply ox_alloc); exact rfl; intro _) | ((with_reducible apply ox_box); exact rfl; exact rfl; intro _) | ((with_reducible apply ox_boxAgg); exact rfl; intro _) | ((with_reducible apply ox_buildSlice1); (iterate 6 exact rfl); intro _) | ((with_reducible apply ox_buildSlice2); (iterate 6 exact rfl); intro _) | ((with_reducible apply ox_buildSlice); (iterate 4 exact rfl)))
    | ((with_reducible apply rd_id); first | (apply Rd.own; (repeat (first | exact P0 | apply P1)); exact rfl; done) | (apply Rd.old; (first | (with_reducible assumption) | exact c0 | exact c1 | exact c2 | exact c3 | exact c4 | exact c5 | exact c6 | exact c7 | exact c8 | exact d0 | exact d1 | exact d2 | exact d3 | exact d4 | exact d5); first | exact List.not_mem_nil | exact m0 | exact m1 | exact m2 | exact m3 | exact m4 | exact m5 | exact m6 | exact m7 | exact m8 | exact m9))
    | ((with_reducible apply t_id); first | (with_reducible apply t_seq) | (apply t_region; kernel_rfl) | (apply t_drawn; kernel_rfl; decide +kernel; try simp only [List.append_eq, List.cons_append, List.nil_append]) | ((with_reducible apply t_condT); exact rfl) | ((with_reducible apply t_condF); exact rfl) | ((with_reducible apply t_condD); exact rfl; all_goals first | (intro hp; try (exfalso; omega)) | skip) | ((with_reducible apply t_condN); exact rfl; all_goals first | (intro hp; try (exfalso; omega)) | skip) | ((with_reducible apply t_cond); exact rfl; all_goals first | intro hp | skip) | (with_reducible apply t_ret) | (with_reducible apply t_skip) | (with_reducible apply t_exit) | (with_reducible apply t_block))
    | with_reducible apply q_thenN
    | with_reducible apply q_thenR
    | with_reducible apply q_blockR
    | with_reducible apply q_blockN
    | with_reducible apply q_thenE
    | ((with_reducible apply q_blockE); exact rfl)
    | ((with_reducible apply q_blockO); exact rfl)
    | exact P0
    | (with_reducible apply P1)
    | exact Rdn.zero
    | apply Rdn.succ
    | ((with_reducible apply Norm.nil); exact rfl)
    | ((with_reducible apply Norm.cons); exact rfl)
    | (with_reducible apply end_ret)
    | (with_reducible apply end_normal)
    | exact rvs_nil
    | (with_reducible apply rvs_cons)
    | ((with_reducible apply rv_tmp); exact rfl)
    | ((with_reducible apply rv_cell); exact rfl; exact rfl)
    | ((with_reducible apply rv_cellAgg); exact rfl; exact rfl)
    | exact Nat.le_of_ble_eq_true rfl
    | exact (rfl : (_ : Bool) = true)
    | omega
    | (intro _ _; with_reducible apply tl_id)
    | (intro _; with_reducible apply tl_id)
    | (intro _ _; with_reducible apply al_id)
    | (intro _; with_reducible apply al_id))
  apply t_loopK (ι := Nat) [1] (fun j => [(3, .int .i64 ((j : Nat) : Int))]) (fun j => [(b1, [.int .i64 W, .int .i64 Hh, .slice A n cp], some (24, 3, 1))]) (fun j => j ≤ n ∧ ∀ y ∈ g.take j, -500 ≤ y ∧ y ≤ 9000) (fun j => n - j) (0)
  (repeat (first | exact KeepF.nil | (apply KeepF.cons; exact rfl) | apply KeepF.skip))
  (repeat (first | exact FrSub.nil | (apply FrSub.cons; exact rfl)))
  (repeat (first | exact HpSub.refl _ | (apply HpSub.consE; (repeat (first | exact P0 | apply P1)); exact rfl) | exact HpSub.nil))
  · exact ⟨Nat.zero_le _, fun y hy => by simp at hy⟩
  rintro j ⟨hj, hok⟩
  try simp only [List.cons_append, List.nil_append]
  by_cases hjn : j < n
  · obtain ⟨bA, oA, x, rfl, _, hx, c0⟩ := in_read hr hjn
    by_cases hx9 : -500 ≤ x ∧ x ≤ 9000
    · repeat' (first
        | ((with_reducible apply oq_id); first | (focus ((with_reducible apply oq_indexAddrN); (iterate 4 exact rfl); omega)) | ((with_reducible apply oq_lssT); exact rfl; exact rfl; omega) | ((with_reducible apply oq_lssF); exact rfl; exact rfl; omega) | (apply oq_fn; exact rfl; try first | exact trivial | (and_intros <;> omega)) | ((with_reducible apply oq_load); exact rfl; exact rfl) | ((with_reducible apply oq_loadAgg); exact rfl; exact rfl) | ((with_reducible apply oq_call (k := 51) (hc := Try.call51)); exact rfl; exact rfl; (intro D w1 hw1; refine within6_t _ _ _ ?_ w1; omega)) | ((with_reducible apply oq_call (k := 51) (hc := Try.call51)); exact rfl; exact rfl; (intro D w1 hw1; refine within6_f _ _ _ ?_ w1; omega)) | ((with_reducible apply oq_build); (iterate 3 exact rfl)) | ((with_reducible apply oq_buildA); (iterate 4 exact rfl)) | ((with_reducible apply oq_fieldAgg); (iterate 3 exact rfl)) | ((with_reducible apply oq_indexAgg); (iterate 4 exact rfl)))
        | ((with_reducible apply tl_id); first | (with_reducible apply tl_nil) | ((with_reducible apply u_q); (iterate 4 exact rfl)) | ((with_reducible apply u_s0); exact rfl; exact rfl) | ((with_reducible apply u_s); (iterate 3 exact rfl)) | ((with_reducible apply u_skip); (iterate 3 exact rfl)) | ((with_reducible apply u_splitD); exact rfl; exact rfl; all_goals first | (intro hp; try (exfalso; omega)) | skip) | ((with_reducible apply u_splitN); exact rfl; exact rfl; all_goals first | (intro hp; try (exfalso; omega)) | skip) | ((with_reducible apply u_split); exact rfl; exact rfl; all_goals first | intro hp | skip))
        | ((with_reducible apply gx_id); first | (with_reducible apply v_nil) | ((with_reducible apply v_q); (iterate 3 exact rfl)) | ((with_reducible apply v_skip); (iterate 3 exact rfl)) | ((with_reducible apply v_splitD); exact rfl; exact rfl; all_goals first | (intro hp; try (exfalso; omega)) | skip) | ((with_reducible apply v_splitN); exact rfl; exact rfl; all_goals first | (intro hp; try (exfalso; omega)) | skip) | ((with_reducible apply v_split); exact rfl; exact rfl; all_goals first | intro hp | skip))
        | ((with_reducible apply os_id); first | ((with_reducible apply os_x); exact rfl) | ((with_reducible apply os_store); (iterate 4 exact rfl)) | ((with_reducible apply os_storeAgg); (iterate 5 exact rfl)))
        | ((with_reducible apply ox_id); first | ((with_reducible apply ox_alloc); exact rfl; intro _) | ((with_reducible apply ox_box); exact rfl; exact rfl; intro _) | ((with_reducible apply ox_boxAgg); exact rfl; intro _) | ((with_reducible apply ox_buildSlice1); (iterate 6 exact rfl); intro _) | ((with_reducible apply ox_buildSlice2); (iterate 6 exact rfl); intro _) | ((with_reducible apply ox_buildSlice); (iterate 4 exact rfl)))
        | ((with_reducible apply rd_id); first | (apply Rd.own; (repeat (first | exact P0 | apply P1)); exact rfl; done) | (apply Rd.old; (first | (with_reducible assumption) | exact c0 | exact c1 | exact c2 | exact c3 | exact c4 | exact c5 | exact c6 | exact c7 | exact c8 | exact d0 | exact d1 | exact d2 | exact d3 | exact d4 | exact d5); first | exact List.not_mem_nil | exact m0 | exact m1 | exact m2 | exact m3 | exact m4 | exact m5 | exact m6 | exact m7 | exact m8 | exact m9))
        | ((with_reducible apply t_id); first | (with_reducible apply t_seq) | (apply t_region; kernel_rfl) | (apply t_drawn; kernel_rfl; decide +kernel; try simp only [List.append_eq, List.cons_append, List.nil_append]) | ((with_reducible apply t_condT); exact rfl) | ((with_reducible apply t_condF); exact rfl) | ((with_reducible apply t_condD); exact rfl; all_goals first | (intro hp; try (exfalso; omega)) | skip) | ((with_reducible apply t_condN); exact rfl; all_goals first | (intro hp; try (exfalso; omega)) | skip) | ((with_reducible apply t_cond); exact rfl; all_goals first | intro hp | skip) | (with_reducible apply t_ret) | (with_reducible apply t_skip) | (with_reducible apply t_exit) | (with_reducible apply t_block))
        | with_reducible apply q_thenN
        | with_reducible apply q_thenR
        | with_reducible apply q_blockR
        | with_reducible apply q_blockN
        | with_reducible apply q_thenE
        | ((with_reducible apply q_blockE); exact rfl)
        | ((with_reducible apply q_blockO); exact rfl)
        | exact P0
        | (with_reducible apply P1)
        | exact Rdn.zero
        | apply Rdn.succ
        | ((with_reducible apply Norm.nil); exact rfl)
        | ((with_reducible apply Norm.cons); exact rfl)
        | (with_reducible apply end_ret)
        | (with_reducible apply end_normal)
        | exact rvs_nil
        | (with_reducible apply rvs_cons)
        | ((with_reducible apply rv_tmp); exact rfl)
        | ((with_reducible apply rv_cell); exact rfl; exact rfl)
        | ((with_reducible apply rv_cellAgg); exact rfl; exact rfl)
        | exact Nat.le_of_ble_eq_true rfl
        | exact (rfl : (_ : Bool) = true)
        | omega
        | (intro _ _; with_reducible apply tl_id)
        | (intro _; with_reducible apply tl_id)
        | (intro _ _; with_reducible apply al_id)
        | (intro _; with_reducible apply al_id))
      all_goals (refine ⟨(j + 1), ⟨(by omega), take_ok hok hx hx9⟩, (by omega), ?_, ?_⟩ <;> (try simp only [List.cons_append, List.nil_append]) <;> (repeat' (first | exact FrSub.nil | (apply FrSub.cons; exact rfl) | exact HpSub.refl _ | (apply HpSub.consE; (repeat (first | exact P0 | apply P1)); exact rfl) | exact HpSub.nil)))
    · have e : terB W Hh g = false := by cases h : terB W Hh g with | false => rfl | true => exact absurd ((terB_iff.1 h).2.2 x (List.mem_of_getElem? hx)) hx9
      rw [e]
      repeat' (first
        | ((with_reducible apply oq_id); first | (focus ((with_reducible apply oq_indexAddrN); (iterate 4 exact rfl); omega)) | ((with_reducible apply oq_lssT); exact rfl; exact rfl; omega) | ((with_reducible apply oq_lssF); exact rfl; exact rfl; omega) | (apply oq_fn; exact rfl; try first | exact trivial | (and_intros <;> omega)) | ((with_reducible apply oq_load); exact rfl; exact rfl) | ((with_reducible apply oq_loadAgg); exact rfl; exact rfl) | ((with_reducible apply oq_call (k := 51) (hc := Try.call51)); exact rfl; exact rfl; (intro D w1 hw1; refine within6_t _ _ _ ?_ w1; omega)) | ((with_reducible apply oq_call (k := 51) (hc := Try.call51)); exact rfl; exact rfl; (intro D w1 hw1; refine within6_f _ _ _ ?_ w1; omega)) | ((with_reducible apply oq_build); (iterate 3 exact rfl)) | ((with_reducible apply oq_buildA); (iterate 4 exact rfl)) | ((with_reducible apply oq_fieldAgg); (iterate 3 exact rfl)) | ((with_reducible apply oq_indexAgg); (iterate 4 exact rfl)))
        | ((with_reducible apply tl_id); first | (with_reducible apply tl_nil) | ((with_reducible apply u_q); (iterate 4 exact rfl)) | ((with_reducible apply u_s0); exact rfl; exact rfl) | ((with_reducible apply u_s); (iterate 3 exact rfl)) | ((with_reducible apply u_skip); (iterate 3 exact rfl)) | ((with_reducible apply u_splitD); exact rfl; exact rfl; all_goals first | (intro hp; try (exfalso; omega)) | skip) | ((with_reducible apply u_splitN); exact rfl; exact rfl; all_goals first | (intro hp; try (exfalso; omega)) | skip) | ((with_reducible apply u_split); exact rfl; exact rfl; all_goals first | intro hp | skip))
        | ((with_reducible apply gx_id); first | (with_reducible apply v_nil) | ((with_reducible apply v_q); (iterate 3 exact rfl)) | ((with_reducible apply v_skip); (iterate 3 exact rfl)) | ((with_reducible apply v_splitD); exact rfl; exact rfl; all_goals first | (intro hp; try (exfalso; omega)) | skip) | ((with_reducible apply v_splitN); exact rfl; exact rfl; all_goals first | (intro hp; try (exfalso; omega)) | skip) | ((with_reducible apply v_split); exact rfl; exact rfl; all_goals first | intro hp | skip))
        | ((with_reducible apply os_id); first | ((with_reducible apply os_x); exact rfl) | ((with_reducible apply os_store); (iterate 4 exact rfl)) | ((with_reducible apply os_storeAgg); (iterate 5 exact rfl)))
        | ((with_reducible apply ox_id); first | ((with_reducible apply ox_alloc); exact rfl; intro _) | ((with_reducible apply ox_box); exact rfl; exact rfl; intro _) | ((with_reducible apply ox_boxAgg); exact rfl; intro _) | ((with_reducible apply ox_buildSlice1); (iterate 6 exact rfl); intro _) | ((with_reducible apply ox_buildSlice2); (iterate 6 exact rfl); intro _) | ((with_reducible apply ox_buildSlice); (iterate 4 exact rfl)))
        | ((with_reducible apply rd_id); first | (apply Rd.own; (repeat (first | exact P0 | apply P1)); exact rfl; done) | (apply Rd.old; (first | (with_reducible assumption) | exact c0 | exact c1 | exact c2 | exact c3 | exact c4 | exact c5 | exact c6 | exact c7 | exact c8 | exact d0 | exact d1 | exact d2 | exact d3 | exact d4 | exact d5); first | exact List.not_mem_nil | exact m0 | exact m1 | exact m2 | exact m3 | exact m4 | exact m5 | exact m6 | exact m7 | exact m8 | exact m9))
        | ((with_reducible apply t_id); first | (with_reducible apply t_seq) | (apply t_region; kernel_rfl) | (apply t_drawn; kernel_rfl; decide +kernel; try simp only [List.append_eq, List.cons_append, List.nil_append]) | ((with_reducible apply t_condT); exact rfl) | ((with_reducible apply t_condF); exact rfl) | ((with_reducible apply t_condD); exact rfl; all_goals first | (intro hp; try (exfalso; omega)) | skip) | ((with_reducible apply t_condN); exact rfl; all_goals first | (intro hp; try (exfalso; omega)) | skip) | ((with_reducible apply t_cond); exact rfl; all_goals first | intro hp | skip) | (with_reducible apply t_ret) | (with_reducible apply t_skip) | (with_reducible apply t_exit) | (with_reducible apply t_block))
        | with_reducible apply q_thenN
        | with_reducible apply q_thenR
        | with_reducible apply q_blockR
        | with_reducible apply q_blockN
        | with_reducible apply q_thenE
        | ((with_reducible apply q_blockE); exact rfl)
        | ((with_reducible apply q_blockO); exact rfl)
        | exact P0
        | (with_reducible apply P1)
        | exact Rdn.zero
        | apply Rdn.succ
        | ((with_reducible apply Norm.nil); exact rfl)
        | ((with_reducible apply Norm.cons); exact rfl)
        | (with_reducible apply end_ret)
        | (with_reducible apply end_normal)
        | exact rvs_nil
        | (with_reducible apply rvs_cons)
        | ((with_reducible apply rv_tmp); exact rfl)
        | ((with_reducible apply rv_cell); exact rfl; exact rfl)
        | ((with_reducible apply rv_cellAgg); exact rfl; exact rfl)
        | exact Nat.le_of_ble_eq_true rfl
        | exact (rfl : (_ : Bool) = true)
        | omega
        | (intro _ _; with_reducible apply tl_id)
        | (intro _; with_reducible apply tl_id)
        | (intro _ _; with_reducible apply al_id)
        | (intro _; with_reducible apply al_id))
      all_goals rfl
  · obtain rfl : j = n := by omega
    have e : terB W Hh g = true := terB_iff.2 ⟨⟨h1.1, h1.2, h2.1, h2.2⟩, h3, by rw [← hl, List.take_length] at hok; exact hok⟩
    rw [e]
    repeat' (first
      | ((with_reducible apply oq_id); first | ((with_reducible apply oq_lssT); exact rfl; exact rfl; omega) | ((with_reducible apply oq_lssF); exact rfl; exact rfl; omega) | (apply oq_fn; exact rfl; try first | exact trivial | (and_intros <;> omega)) | ((with_reducible apply oq_load); exact rfl; exact rfl) | ((with_reducible apply oq_loadAgg); exact rfl; exact rfl) | ((with_reducible apply oq_build); (iterate 3 exact rfl)) | ((with_reducible apply oq_buildA); (iterate 4 exact rfl)) | ((with_reducible apply oq_fieldAgg); (iterate 3 exact rfl)) | ((with_reducible apply oq_indexAgg); (iterate 4 exact rfl)))
      | ((with_reducible apply tl_id); first | (with_reducible apply tl_nil) | ((with_reducible apply u_q); (iterate 4 exact rfl)) | ((with_reducible apply u_s0); exact rfl; exact rfl) | ((with_reducible apply u_s); (iterate 3 exact rfl)) | ((with_reducible apply u_skip); (iterate 3 exact rfl)) | ((with_reducible apply u_splitD); exact rfl; exact rfl; all_goals first | (intro hp; try (exfalso; omega)) | skip) | ((with_reducible apply u_splitN); exact rfl; exact rfl; all_goals first | (intro hp; try (exfalso; omega)) | skip) | ((with_reducible apply u_split); exact rfl; exact rfl; all_goals first | intro hp | skip))
      | ((with_reducible apply gx_id); first | (with_reducible apply v_nil) | ((with_reducible apply v_q); (iterate 3 exact rfl)) | ((with_reducible apply v_skip); (iterate 3 exact rfl)) | ((with_reducible apply v_splitD); exact rfl; exact rfl; all_goals first | (intro hp; try (exfalso; omega)) | skip) | ((with_reducible apply v_splitN); exact rfl; exact rfl; all_goals first | (intro hp; try (exfalso; omega)) | skip) | ((with_reducible apply v_split); exact rfl; exact rfl; all_goals first | intro hp | skip))
      | ((with_reducible apply os_id); first | ((with_reducible apply os_x); exact rfl) | ((with_reducible apply os_store); (iterate 4 exact rfl)) | ((with_reducible apply os_storeAgg); (iterate 5 exact rfl)))
      | ((with_reducible apply ox_id); first | ((with_reducible apply ox_alloc); exact rfl; intro _) | ((with_reducible apply ox_box); exact rfl; exact rfl; intro _) | ((with_reducible apply ox_boxAgg); exact rfl; intro _) | ((with_reducible apply ox_buildSlice1); (iterate 6 exact rfl); intro _) | ((with_reducible apply ox_buildSlice2); (iterate 6 exact rfl); intro _) | ((with_reducible apply ox_buildSlice); (iterate 4 exact rfl)))
      | ((with_reducible apply rd_id); first | (apply Rd.own; (repeat (first | exact P0 | apply P1)); exact rfl; done) | (apply Rd.old; (first | (with_reducible assumption) | exact c0 | exact c1 | exact c2 | exact c3 | exact c4 | exact c5 | exact c6 | exact c7 | exact c8 | exact d0 | exact d1 | exact d2 | exact d3 | exact d4 | exact d5); first | exact List.not_mem_nil | exact m0 | exact m1 | exact m2 | exact m3 | exact m4 | exact m5 | exact m6 | exact m7 | exact m8 | exact m9))
      | ((with_reducible apply t_id); first | (with_reducible apply t_seq) | (apply t_region; kernel_rfl) | (apply t_drawn; kernel_rfl; decide +kernel; try simp only [List.append_eq, List.cons_append, List.nil_append]) | ((with_reducible apply t_condT); exact rfl) | ((with_reducible apply t_condF); exact rfl) | ((with_reducible apply t_condD); exact rfl; all_goals first | (intro hp; try (exfalso; omega)) | skip) | ((with_reducible apply t_condN); exact rfl; all_goals first | (intro hp; try (exfalso; omega)) | skip) | ((with_reducible apply t_cond); exact rfl; all_goals first | intro hp | skip) | (with_reducible apply t_ret) | (with_reducible apply t_skip) | (with_reducible apply t_exit) | (with_reducible apply t_block))
      | with_reducible apply q_thenN
      | with_reducible apply q_thenR
      | with_reducible apply q_blockR
      | with_reducible apply q_blockN
      | with_reducible apply q_thenE
      | ((with_reducible apply q_blockE); exact rfl)
      | ((with_reducible apply q_blockO); exact rfl)
      | exact P0
      | (with_reducible apply P1)
      | exact Rdn.zero
      | apply Rdn.succ
      | ((with_reducible apply Norm.nil); exact rfl)
      | ((with_reducible apply Norm.cons); exact rfl)
      | (with_reducible apply end_ret)
      | (with_reducible apply end_normal)
      | exact rvs_nil
      | (with_reducible apply rvs_cons)
      | ((with_reducible apply rv_tmp); exact rfl)
      | ((with_reducible apply rv_cell); exact rfl; exact rfl)
      | ((with_reducible apply rv_cellAgg); exact rfl; exact rfl)
      | exact Nat.le_of_ble_eq_true rfl
      | exact (rfl : (_ : Bool) = true)
      | omega
      | (intro _ _; with_reducible apply tl_id)
      | (intro _; with_reducible apply tl_id)
      | (intro _ _; with_reducible apply al_id)
      | (intro _; with_reducible apply al_id))
    all_goals rfl
theorem refCheckTerrain_calls (A : Option Addr) (n cp : Nat) (W Hh : Int) (g : List Int) (w : World) (hr : RdS w 1 A n (g.map inCells)) (hn : n ≤ 1000000) :
    Calls Try.prog 11 #[.agg #[.int .i64 W, .int .i64 Hh, .slice A n cp]] w fun e w' => e = .returned (.int .i64 (if terB W Hh g then 0 else 60)) ∧ Ext w w' := by
  have HT := fun w1 h => terrain_calls A n cp W Hh g w1 h hn
  cases h : terB W Hh g <;> rw [h] at HT
  all_goals
    refine enterQ (c := cx w 6) Try.func11 rfl rfl rfl rfl ?_
    repeat' (first
      | ((with_reducible apply oq_id); first | (apply oq_fn; exact rfl; try first | exact trivial | (and_intros <;> omega)) | ((with_reducible apply oq_load); exact rfl; exact rfl) | ((with_reducible apply oq_loadAgg); exact rfl; exact rfl) | ((with_reducible apply oq_call (k := 50) (hc := Try.call50)); exact rfl; exact rfl; exact fun D w1 hw1 => HT w1 (hr.ext hw1.ext.ext)) | ((with_reducible apply oq_build); (iterate 3 exact rfl)) | ((with_reducible apply oq_buildA); (iterate 4 exact rfl)) | ((with_reducible apply oq_fieldAgg); (iterate 3 exact rfl)) | ((with_reducible apply oq_indexAgg); (iterate 4 exact rfl)))
      | ((with_reducible apply tl_id); first | (with_reducible apply tl_nil) | ((with_reducible apply u_q); (iterate 4 exact rfl)) | ((with_reducible apply u_s0); exact rfl; exact rfl) | ((with_reducible apply u_s); (iterate 3 exact rfl)) | ((with_reducible apply u_skip); (iterate 3 exact rfl)) | ((with_reducible apply u_splitD); exact rfl; exact rfl; all_goals first | (intro hp; try (exfalso; omega)) | skip) | ((with_reducible apply u_splitN); exact rfl; exact rfl; all_goals first | (intro hp; try (exfalso; omega)) | skip) | ((with_reducible apply u_split); exact rfl; exact rfl; all_goals first | intro hp | skip))
      | ((with_reducible apply gx_id); first | (with_reducible apply v_nil) | ((with_reducible apply v_q); (iterate 3 exact rfl)) | ((with_reducible apply v_skip); (iterate 3 exact rfl)) | ((with_reducible apply v_splitD); exact rfl; exact rfl; all_goals first | (intro hp; try (exfalso; omega)) | skip) | ((with_reducible apply v_splitN); exact rfl; exact rfl; all_goals first | (intro hp; try (exfalso; omega)) | skip) | ((with_reducible apply v_split); exact rfl; exact rfl; all_goals first | intro hp | skip))
      | ((with_reducible apply os_id); first | ((with_reducible apply os_x); exact rfl) | ((with_reducible apply os_store); (iterate 4 exact rfl)) | ((with_reducible apply os_storeAgg); (iterate 5 exact rfl)))
      | ((with_reducible apply ox_id); first | ((with_reducible apply ox_alloc); exact rfl; intro _) | ((with_reducible apply ox_box); exact rfl; exact rfl; intro _) | ((with_reducible apply ox_boxAgg); exact rfl; intro _) | ((with_reducible apply ox_buildSlice1); (iterate 6 exact rfl); intro _) | ((with_reducible apply ox_buildSlice2); (iterate 6 exact rfl); intro _) | ((with_reducible apply ox_buildSlice); (iterate 4 exact rfl)))
      | ((with_reducible apply rd_id); first | (apply Rd.own; (repeat (first | exact P0 | apply P1)); exact rfl; done) | (apply Rd.old; (first | (with_reducible assumption) | exact c0 | exact c1 | exact c2 | exact c3 | exact c4 | exact c5 | exact c6 | exact c7 | exact c8 | exact d0 | exact d1 | exact d2 | exact d3 | exact d4 | exact d5); first | exact List.not_mem_nil | exact m0 | exact m1 | exact m2 | exact m3 | exact m4 | exact m5 | exact m6 | exact m7 | exact m8 | exact m9))
      | ((with_reducible apply t_id); first | (with_reducible apply t_seq) | (apply t_region; kernel_rfl) | (apply t_drawn; kernel_rfl; decide +kernel; try simp only [List.append_eq, List.cons_append, List.nil_append]) | ((with_reducible apply t_condT); exact rfl) | ((with_reducible apply t_condF); exact rfl) | ((with_reducible apply t_condD); exact rfl; all_goals first | (intro hp; try (exfalso; omega)) | skip) | ((with_reducible apply t_condN); exact rfl; all_goals first | (intro hp; try (exfalso; omega)) | skip) | ((with_reducible apply t_cond); exact rfl; all_goals first | intro hp | skip) | (with_reducible apply t_ret) | (with_reducible apply t_skip) | (with_reducible apply t_exit) | (with_reducible apply t_block))
      | with_reducible apply q_thenN
      | with_reducible apply q_thenR
      | with_reducible apply q_blockR
      | with_reducible apply q_blockN
      | with_reducible apply q_thenE
      | ((with_reducible apply q_blockE); exact rfl)
      | ((with_reducible apply q_blockO); exact rfl)
      | exact P0
      | (with_reducible apply P1)
      | exact Rdn.zero
      | apply Rdn.succ
      | ((with_reducible apply Norm.nil); exact rfl)
      | ((with_reducible apply Norm.cons); exact rfl)
      | (with_reducible apply end_ret)
      | (with_reducible apply end_normal)
      | exact rvs_nil
      | (with_reducible apply rvs_cons)
      | ((with_reducible apply rv_tmp); exact rfl)
      | ((with_reducible apply rv_cell); exact rfl; exact rfl)
      | ((with_reducible apply rv_cellAgg); exact rfl; exact rfl)
      | exact Nat.le_of_ble_eq_true rfl
      | exact (rfl : (_ : Bool) = true)
      | omega
      | (intro _ _; with_reducible apply tl_id)
      | (intro _; with_reducible apply tl_id)
      | (intro _ _; with_reducible apply al_id)
      | (intro _; with_reducible apply al_id))
    all_goals rfl
end Go.Proofs.Ytcjkndjjbjoehaa
namespace Go.Proofs.Ytcjkndjjbjoehaa
open Go.RowKit
theorem run_info {P : Program} {w : World} {t : TypeId} {i : TypeInfo} (h : P.info? t = some i) : (typeInfo t).run P w = .ok i w := by
  simp [typeInfo, Sem.run_bind, run_program, Result.andThen, h, Sem.run_pure]
theorem info184 : Try.prog.info? 184 = some Try.t184 := by kernel_rfl
/-- A method with a pointer for its receiver. -/
theorem meth_ptr {w : World} {n k : Nat} {p : Value} {name : String} (h : ∃ m : Method, (Try.t184.methods.find? (·.name == name)) = some m ∧ m.path = #[] ∧ m.func = some (k, true)) :
    (method (n + 1) 184 p name).run Try.prog w = .ok (k, p) w := by
  obtain ⟨m, h1, h2, h3⟩ := h
  unfold method
  simp [Sem.run_bind, run_info info184, Result.andThen, h1, h2, h3, follow, Sem.run_pure, receiverAt, run_underlying Try.underlying184, Place.get]
theorem run_wrap {P : Program} {w : World} {t : TypeId} {a : Addr} {s m : String} : (Builtin.ssaWrapNilChk_ #[t] t #[.pointer (some a), strVal s, strVal m]).run P w = .ok (.pointer (some a)) w := rfl
/-- A method with the list itself for its receiver. -/
theorem meth_val {w : World} {n k pb : Nat} {v : Value} {name : String} (hv : w.cell? ⟨pb, 0, none⟩ = some v) (h : ∃ m : Method, (Try.t184.methods.find? (·.name == name)) = some m ∧ m.path = #[] ∧ m.func = some (k, false)) :
    (method (n + 1) 184 (.pointer (some ⟨pb, 0, none⟩)) name).run Try.prog w = .ok (k, v) w := by
  obtain ⟨m, h1, h2, h3⟩ := h
  unfold method
  simp [Sem.run_bind, run_info info184, Result.andThen, h1, h2, h3, follow, Sem.run_pure, receiverAt, run_underlying Try.underlying184, Place.get, run_wrap, asAddr, loadVar, Try.isAgg188 w, run_load Try.prog _ w v hv]
theorem msz (n : Nat) : n + Made.depth = (n + 99) + 1 := by simp [Made.depth]
theorem m_push {w : World} {p : Value} : Meth Try.prog w 184 p "Push" 242 p := by
  unfold Meth
  rw [msz]
  exact meth_ptr ⟨{ name := "Push", sig := 242, path := #[], func := some (242, true) }, by kernel_rfl, rfl, rfl⟩
theorem m_pop {w : World} {p : Value} : Meth Try.prog w 184 p "Pop" 241 p := by
  unfold Meth
  rw [msz]
  exact meth_ptr ⟨{ name := "Pop", sig := 241, path := #[], func := some (241, true) }, by kernel_rfl, rfl, rfl⟩
theorem m_len {w : World} {pb : Nat} {v : Value} (hv : w.cell? ⟨pb, 0, none⟩ = some v) : Meth Try.prog w 184 (.pointer (some ⟨pb, 0, none⟩)) "Len" 239 v := by
  unfold Meth
  rw [msz]
  exact meth_val hv ⟨{ name := "Len", sig := 238, path := #[], func := some (239, false) }, by kernel_rfl, rfl, rfl⟩
theorem m_less {w : World} {pb : Nat} {v : Value} (hv : w.cell? ⟨pb, 0, none⟩ = some v) : Meth Try.prog w 184 (.pointer (some ⟨pb, 0, none⟩)) "Less" 240 v := by
  unfold Meth
  rw [msz]
  exact meth_val hv ⟨{ name := "Less", sig := 173, path := #[], func := some (240, false) }, by kernel_rfl, rfl, rfl⟩
theorem m_swap {w : World} {pb : Nat} {v : Value} (hv : w.cell? ⟨pb, 0, none⟩ = some v) : Meth Try.prog w 184 (.pointer (some ⟨pb, 0, none⟩)) "Swap" 243 v := by
  unfold Meth
  rw [msz]
  exact meth_val hv ⟨{ name := "Swap", sig := 239, path := #[], func := some (243, false) }, by kernel_rfl, rfl, rfl⟩
end Go.Proofs.Ytcjkndjjbjoehaa
namespace Go.Proofs.Ytcjkndjjbjoehaa
abbrev Rc := Int × Nat
def key (l : List Rc) (i : Nat) : Int := ((l[i]?).map Prod.fst).getD 0
theorem key_of {l : List Rc} {i : Nat} {x : Rc} (h : l[i]? = some x) : key l i = x.1 := by simp [key, h]
def swp (l : List Rc) (i j : Nat) : List Rc := match l[i]?, l[j]? with
  | some x, some y => (l.set i y).set j x
  | _, _ => l
theorem swp_of {l : List Rc} {i j : Nat} {x y : Rc} (hx : l[i]? = some x) (hy : l[j]? = some y) : swp l i j = (l.set i y).set j x := by simp [swp, hx, hy]
theorem swp_len (l : List Rc) (i j : Nat) : (swp l i j).length = l.length := by
  unfold swp
  split <;> simp
theorem swp_perm (l : List Rc) (i j : Nat) : (swp l i j).Perm l := by
  cases hx : l[i]? with
  | none => simp [swp, hx]
  | some x =>
    cases hy : l[j]? with
    | none => simp [swp, hx, hy]
    | some y =>
      rw [swp_of hx hy]
      obtain ⟨hi, rfl⟩ := List.getElem?_eq_some_iff.1 hx
      obtain ⟨hj, rfl⟩ := List.getElem?_eq_some_iff.1 hy
      rw [List.perm_iff_count]
      intro a
      have e : (l.set i l[j])[j]'(by simpa using hj) = l[j] := by simp [List.getElem_set]
      rw [List.count_set (by simpa using hj), List.count_set hi, e]
      have h1 : (if (l[i] == a) = true then 1 else 0) ≤ l.count a := by
        split
        · rename_i h
          rw [← eq_of_beq h]
          exact List.count_pos_iff.2 (List.getElem_mem hi)
        · exact Nat.zero_le _
      generalize (if (l[i] == a) = true then 1 else 0) = A at *
      generalize (if (l[j] == a) = true then 1 else 0) = B at *
      omega
theorem swp_key {l : List Rc} {i j : Nat} (hi : i < l.length) (hj : j < l.length) (k : Nat) : key (swp l i j) k = if k = j then key l i else if k = i then key l j else key l k := by
  have hx : l[i]? = some l[i] := List.getElem?_eq_getElem hi
  have hy : l[j]? = some l[j] := List.getElem?_eq_getElem hj
  rw [swp_of hx hy]
  unfold key
  rw [List.getElem?_set, List.getElem?_set]
  by_cases h1 : j = k
  · subst h1; simp [hj, hx]
  · by_cases h2 : i = k
    · subst h2
      simp [h1, hi, hy, Ne.symm h1]
    · simp [h1, h2, Ne.symm h1, Ne.symm h2]
/-- Of the first n: no child is less than its parent. -/
def Hord (l : List Rc) (n : Nat) : Prop := ∀ k, 0 < k → k < n → key l ((k - 1) / 2) ≤ key l k
theorem Hord.min {l : List Rc} {n : Nat} (h : Hord l n) : ∀ k, k < n → key l 0 ≤ key l k := by
  intro k
  induction k using Nat.strongRecOn with
  | ind k ih =>
    intro hk
    rcases Nat.eq_zero_or_pos k with rfl | h0
    · exact Int.le_refl _
    · have := ih ((k - 1) / 2) (by omega) (by omega)
      have := h k h0 hk
      omega
/-- All is in order, but for j and its parent. -/
structure UpOk (l : List Rc) (n j : Nat) : Prop where
  ord : ∀ k, 0 < k → k < n → k ≠ j → key l ((k - 1) / 2) ≤ key l k
  skip : ∀ k, 0 < k → k < n → (k - 1) / 2 = j → 0 < j → key l ((j - 1) / 2) ≤ key l k
theorem UpOk.done {l : List Rc} {n j : Nat} (u : UpOk l n j) (h : j = 0 ∨ key l ((j - 1) / 2) ≤ key l j) : Hord l n := fun k h0 hk => by
  by_cases e : k = j
  · subst e
    rcases h with h | h
    · omega
    · exact h
  · exact u.ord k h0 hk e
theorem UpOk.step {l : List Rc} {n j : Nat} (u : UpOk l n j) (hn : n = l.length) (hj : j < n) (h0 : 0 < j) (hl : key l j < key l ((j - 1) / 2)) : UpOk (swp l ((j - 1) / 2) j) n ((j - 1) / 2) := by
  have hi : (j - 1) / 2 < l.length := by omega
  have hj' : j < l.length := by omega
  have K := swp_key hi hj'
  generalize hp : (j - 1) / 2 = i at *
  refine ⟨fun k k0 kn ke => ?_, fun k k0 kn ke i0 => ?_⟩
  · rw [K, K]
    by_cases e1 : k = j
    · subst e1
      rw [hp]
      simp only [if_true]
      rw [if_neg (by omega)]
      omega
    · rw [if_neg e1, if_neg ke]
      by_cases e2 : (k - 1) / 2 = j
      · rw [if_pos e2]
        have := u.skip k k0 kn e2 h0
        rw [hp] at this
        exact this
      · rw [if_neg e2]
        by_cases e3 : (k - 1) / 2 = i
        · rw [if_pos e3]
          have := u.ord k k0 kn e1
          rw [e3] at this
          omega
        · rw [if_neg e3]
          exact u.ord k k0 kn e1
  · rw [K, K]
    rw [if_neg (by omega), if_neg (by omega)]
    have h1 := u.ord i i0 (by omega) (by omega)
    by_cases e1 : k = j
    · rw [if_pos e1]; exact h1
    · rw [if_neg e1, if_neg (by omega)]
      have := u.ord k k0 kn e1
      rw [ke] at this
      omega
/-- All is in order, but for i and its children. -/
structure DnOk (l : List Rc) (n i : Nat) : Prop where
  ord : ∀ k, 0 < k → k < n → (k - 1) / 2 ≠ i → key l ((k - 1) / 2) ≤ key l k
  skip : ∀ k, 0 < k → k < n → (k - 1) / 2 = i → 0 < i → key l ((i - 1) / 2) ≤ key l k
theorem DnOk.done {l : List Rc} {n i : Nat} (u : DnOk l n i) (h : ∀ k, 0 < k → k < n → (k - 1) / 2 = i → key l i ≤ key l k) : Hord l n := fun k h0 hk => by
  by_cases e : (k - 1) / 2 = i
  · rw [e]; exact h k h0 hk e
  · exact u.ord k h0 hk e
theorem DnOk.step {l : List Rc} {n i j : Nat} (u : DnOk l n i) (hn : n ≤ l.length) (hj : j < n) (h0 : 0 < j) (hp : (j - 1) / 2 = i) (hm : ∀ k, 0 < k → k < n → (k - 1) / 2 = i → key l j ≤ key l k) (hl : key l j < key l i) : DnOk (swp l i j) n j := by
  have hi : i < l.length := by omega
  have hj' : j < l.length := by omega
  have K := swp_key hi hj'
  refine ⟨fun k k0 kn ke => ?_, fun k k0 kn ke j0 => ?_⟩
  · rw [K, K]
    rw [if_neg ke]
    by_cases e1 : k = j
    · rw [if_pos e1, if_pos (by rw [e1]; exact hp)]; omega
    · rw [if_neg e1]
      by_cases e2 : k = i
      · rw [if_pos e2]
        rw [if_neg (by omega)]
        have := u.skip j h0 hj hp (by omega)
        rw [e2]
        exact this
      · rw [if_neg e2]
        by_cases e3 : (k - 1) / 2 = i
        · rw [if_pos e3]; exact hm k k0 kn e3
        · rw [if_neg e3]; exact u.ord k k0 kn e3
  · rw [K, K]
    rw [hp, if_neg (by omega), if_pos rfl, if_neg (by omega), if_neg (by omega)]
    have := u.ord k k0 kn (by omega)
    rw [ke] at this
    exact this
theorem Hord.push {l : List Rc} {x : Rc} (h : Hord l l.length) : UpOk (l ++ [x]) (l.length + 1) l.length := by
  have K : ∀ k, k < l.length → key (l ++ [x]) k = key l k := fun k hk => by unfold key; rw [List.getElem?_append_left hk]
  refine ⟨fun k k0 kn ke => ?_, fun k k0 kn ke j0 => by omega⟩
  rw [K _ (by omega), K _ (by omega)]
  exact h k k0 (by omega)
theorem Hord.pop {l : List Rc} {n : Nat} (h : Hord l (n + 1)) (hl : l.length = n + 1) : DnOk (swp l 0 n) n 0 := by
  have K := swp_key (l := l) (i := 0) (j := n) (by omega) (by omega)
  refine ⟨fun k k0 kn ke => ?_, fun k k0 kn ke j0 => by omega⟩
  rw [K, K]
  rw [if_neg (by omega), if_neg ke, if_neg (by omega), if_neg (by omega)]
  exact h k k0 (by omega)
theorem Hord.take {l : List Rc} {n : Nat} (h : Hord l n) (hn : n ≤ l.length) : Hord (l.take n) n := fun k k0 kn => by
  have K : ∀ k, k < n → key (l.take n) k = key l k := fun k hk => by unfold key; rw [List.getElem?_take, if_pos hk]
  rw [K _ (by omega), K _ kn]
  exact h k k0 kn
end Go.Proofs.Ytcjkndjjbjoehaa
namespace Go.Proofs.Ytcjkndjjbjoehaa
open Go.RowKit
theorem flat_at {α : Type} {f : α → List Value} {s : Nat} (hf : ∀ x, (f x).length = s) : ∀ {l : List α} {i : Nat} {x : α}, l[i]? = some x → ∀ {j : Nat} {v : Value}, (f x)[j]? = some v → ((l.map f).flatten)[i * s + j]? = some v
  | [], i, x, h, _, _, _ => by simp at h
  | y :: l, 0, x, h, j, v, hv => by
    obtain rfl : y = x := by simpa using h
    have hj := (List.getElem?_eq_some_iff.1 hv).1
    rw [List.map_cons, List.flatten_cons, Nat.zero_mul, Nat.zero_add, List.getElem?_append_left hj]
    exact hv
  | y :: l, i + 1, x, h, j, v, hv => by
    have h' : l[i]? = some x := by simpa using h
    have := flat_at hf h' hv
    rw [List.map_cons, List.flatten_cons, List.getElem?_append_right (by rw [hf]; rw [Nat.succ_mul]; omega), hf]
    rw [show (i + 1) * s + j - s = i * s + j by rw [Nat.succ_mul]; omega]
    exact this
theorem flat_len {α : Type} {f : α → List Value} {s : Nat} (hf : ∀ x, (f x).length = s) : ∀ (l : List α), ((l.map f).flatten).length = l.length * s
  | [] => by simp
  | x :: l => by
    simp only [List.map_cons, List.flatten_cons, List.length_append, hf, flat_len hf l, List.length_cons, Nat.add_mul]
    omega
theorem flat_set {α : Type} {f : α → List Value} {s : Nat} (hf : ∀ x, (f x).length = s) : ∀ {l : List α} {i : Nat} {x y : α}, l[i]? = some x → ∀ {k : Nat} {v : Value}, k < s → f y = (f x).set k v → ((l.map f).flatten).set (i * s + k) v = ((l.set i y).map f).flatten
  | [], i, x, y, h, k, v, hk, hy => by simp at h
  | a :: l, 0, x, y, h, k, v, hk, hy => by
    obtain rfl : a = x := by simpa using h
    simp only [List.map_cons, List.flatten_cons, List.set_cons_zero, Nat.zero_mul, Nat.zero_add]
    rw [List.set_append_left _ _ (by rw [hf]; exact hk), hy]
  | a :: l, i + 1, x, y, h, k, v, hk, hy => by
    have h' : l[i]? = some x := by simpa using h
    simp only [List.map_cons, List.flatten_cons, List.set_cons_succ]
    rw [List.set_append_right _ _ (by rw [hf, Nat.add_mul]; omega), hf, show (i + 1) * s + k - s = i * s + k by rw [Nat.add_mul]; omega, flat_set hf h' hk hy]
section
variable {c : Cx} {F : Fr} {H H' : Hp} {K : Value → Hp → Prop} {d : Option Tmp} {ty t : TypeId} {pos : String} {af : Array Edge} {g : Option (Nat × Bool)} {x y : Operand} {v : Value} {a0 : Bool} {z0 : List Value} {k0 : TyK} {b o : Nat} {C C' : List Value} {tg : Tg}
end
end Go.Proofs.Ytcjkndjjbjoehaa
namespace Go.Proofs.Ytcjkndjjbjoehaa
open Go.RowKit
attribute [local irreducible] OQ OS OX Rd T TL GX GL AL AI RV wpG SAny Calls
abbrev rcCells (x : Rc) : List Value := [.int .i64 x.1, .int .i64 0, .int .i64 (x.2 : Nat)]
abbrev rcs (l : List Rc) : List Value := (l.map rcCells).flatten
theorem rcs_len (l : List Rc) : (rcs l).length = l.length * 3 := flat_len (s := 3) (fun _ => rfl) l
theorem rc_at {l : List Rc} {i : Nat} {x : Rc} (h : l[i]? = some x) : (rcs l)[0 + i * 3]? = some (.int .i64 x.1) ∧ (rcs l)[0 + i * 3 + 1]? = some (.int .i64 0) ∧ (rcs l)[0 + i * 3 + 1 + 1]? = some (.int .i64 (x.2 : Nat)) := by
  rw [Nat.zero_add]
  exact ⟨flat_at (f := rcCells) (s := 3) (fun _ => rfl) h (j := 0) rfl, flat_at (f := rcCells) (s := 3) (fun _ => rfl) h (j := 1) rfl, flat_at (f := rcCells) (s := 3) (fun _ => rfl) h (j := 2) rfl⟩
theorem rc_set {l : List Rc} {i : Nat} {x y : Rc} (h : l[i]? = some x) : setL (rcs l) (0 + i * 3) [.int .i64 y.1, .int .i64 0, .int .i64 (y.2 : Nat)] = rcs (l.set i y) := by
  simp only [setL, Nat.zero_add]
  have e1 := flat_set (f := rcCells) (s := 3) (fun _ => rfl) (l := l) (i := i) (x := x) (y := (y.1, x.2)) h (k := 0) (v := .int .i64 y.1) (by omega) rfl
  have h2 : (l.set i (y.1, x.2))[i]? = some (y.1, x.2) := by
    rw [List.getElem?_set, if_pos rfl, if_pos (List.getElem?_eq_some_iff.1 h).1]
  have e2 := flat_set (f := rcCells) (s := 3) (fun _ => rfl) (l := l.set i (y.1, x.2)) (i := i) (y := (y.1, x.2)) h2 (k := 1) (v := .int .i64 0) (by omega) rfl
  have e3 := flat_set (f := rcCells) (s := 3) (fun _ => rfl) (l := l.set i (y.1, x.2)) (i := i) (y := y) h2 (k := 2) (v := .int .i64 (y.2 : Nat)) (by omega) rfl
  simp only [List.set_set, Nat.add_zero] at e1 e2 e3
  rw [Nat.add_assoc]
  rw [e1, e2, e3]
section
variable {c : Cx} {F : Fr} {H H' : Hp} {K : Value → Hp → Prop} {d : Option Tmp} {ty t : TypeId} {pos : String} {af : Array Edge} {gd : Option (Nat × Bool)} {x y : Operand} {a0 : Bool} {z0 : List Value} {k0 : TyK} {g i : Nat} {tg : Tg} {l l' : List Rc} {z : Rc}
theorem os_storeRc (u : Rc) (hz : l[i]? = some z) (hl : l.set i u = l') (ht : tyAt c.tys t = some ⟨a0, 3, z0, k0⟩) (hx : ev F x = some (.pointer (some ⟨g, 0 + i * 3, none⟩))) (hy : ev F y = some (.agg #[.int .i64 u.1, .int .i64 0, .int .i64 (u.2 : Nat)])) (hp : Pick H g (rcs l) tg H')
    (kk : K undef ((g, rcs l', tg) :: H')) : OS c ⟨d, .store t x y, ty, pos, af, gd⟩ F H K :=
  store_gen (vs := [.int .i64 u.1, .int .i64 0, .int .i64 (u.2 : Nat)]) ht hx hy rfl rfl (by simp [Value.oneCell']) hp (by rw [rcs_len]; have := (List.getElem?_eq_some_iff.1 hz).1; omega) (by rw [rc_set hz, hl]; exact kk)
end
/-- The blocks of a front: its list, its rows. -/
def frH (pb db cap : Nat) (l : List Rc) : Hp := [(pb, [.slice (some ⟨db, 0, none⟩) l.length cap], some (188, 1, 1)), (db, rcs l, some (186, 3, cap))]
theorem frontLen_calls (db n cap : Nat) (w : World) : Calls Try.prog 239 #[.slice (some ⟨db, 0, none⟩) n cap] w fun e w' => e = .returned (.int .i64 (n : Nat)) ∧ Ext w w' := by
  refine enterQ (c := cx w 5) Try.func239 rfl rfl rfl rfl ?_
  repeat' (first
    | ((with_reducible apply oq_id); first | (apply oq_fn; exact rfl; try first | exact trivial | (and_intros <;> omega)) | ((with_reducible apply oq_load); exact rfl; exact rfl) | ((with_reducible apply oq_loadAgg); exact rfl; exact rfl) | ((with_reducible apply oq_build); (iterate 3 exact rfl)) | ((with_reducible apply oq_buildA); (iterate 4 exact rfl)) | ((with_reducible apply oq_fieldAgg); (iterate 3 exact rfl)) | ((with_reducible apply oq_indexAgg); (iterate 4 exact rfl)))
    | ((with_reducible apply tl_id); first | (with_reducible apply tl_nil) | ((with_reducible apply u_q); (iterate 4 exact rfl)) | ((with_reducible apply u_s0); exact rfl; exact rfl) | ((with_reducible apply u_s); (iterate 3 exact rfl)) | ((with_reducible apply u_skip); (iterate 3 exact rfl)) | ((with_reducible apply u_splitD); exact rfl; exact rfl; all_goals first | (intro hp; try (exfalso; omega)) | skip) | ((with_reducible apply u_splitN); exact rfl; exact rfl; all_goals first | (intro hp; try (exfalso; omega)) | skip) | ((with_reducible apply u_split); exact rfl; exact rfl; all_goals first | intro hp | skip))
    | ((with_reducible apply gx_id); first | (with_reducible apply v_nil) | ((with_reducible apply v_q); (iterate 3 exact rfl)) | ((with_reducible apply v_skip); (iterate 3 exact rfl)) | ((with_reducible apply v_splitD); exact rfl; exact rfl; all_goals first | (intro hp; try (exfalso; omega)) | skip) | ((with_reducible apply v_splitN); exact rfl; exact rfl; all_goals first | (intro hp; try (exfalso; omega)) | skip) | ((with_reducible apply v_split); exact rfl; exact rfl; all_goals first | intro hp | skip))
    | ((with_reducible apply os_id); first | ((with_reducible apply os_x); exact rfl) | ((with_reducible apply os_store); (iterate 4 exact rfl)) | ((with_reducible apply os_storeAgg); (iterate 5 exact rfl)) | ((with_reducible apply os_append (hk := app_ok188)); exact rfl; exact rfl; (repeat (first | exact P0 | apply P1))) | ((with_reducible apply os_appendNil (hk := app_ok188)); exact rfl; exact rfl))
    | ((with_reducible apply ox_id); first | ((with_reducible apply ox_alloc); exact rfl; intro _) | ((with_reducible apply ox_box); exact rfl; exact rfl; intro _) | ((with_reducible apply ox_boxAgg); exact rfl; intro _) | ((with_reducible apply ox_buildSlice1); (iterate 6 exact rfl); intro _) | ((with_reducible apply ox_buildSlice2); (iterate 6 exact rfl); intro _) | ((with_reducible apply ox_buildSlice); (iterate 4 exact rfl)))
    | ((with_reducible apply rd_id); first | (apply Rd.own; (repeat (first | exact P0 | apply P1)); exact rfl; done) | (apply Rd.old; (first | (with_reducible assumption) | exact c0 | exact c1 | exact c2 | exact c3 | exact c4 | exact c5 | exact c6 | exact c7 | exact c8 | exact d0 | exact d1 | exact d2 | exact d3 | exact d4 | exact d5); first | exact List.not_mem_nil | exact m0 | exact m1 | exact m2 | exact m3 | exact m4 | exact m5 | exact m6 | exact m7 | exact m8 | exact m9))
    | ((with_reducible apply t_id); first | (with_reducible apply t_seq) | (apply t_region; kernel_rfl) | (apply t_drawn; kernel_rfl; decide +kernel; try simp only [List.append_eq, List.cons_append, List.nil_append]) | ((with_reducible apply t_condT); exact rfl) | ((with_reducible apply t_condF); exact rfl) | ((with_reducible apply t_condD); exact rfl; all_goals first | (intro hp; try (exfalso; omega)) | skip) | ((with_reducible apply t_condN); exact rfl; all_goals first | (intro hp; try (exfalso; omega)) | skip) | ((with_reducible apply t_cond); exact rfl; all_goals first | intro hp | skip) | (with_reducible apply t_ret) | (with_reducible apply t_skip) | (with_reducible apply t_exit) | (with_reducible apply t_block))
    | with_reducible apply q_thenN
    | with_reducible apply q_thenR
    | with_reducible apply q_blockR
    | with_reducible apply q_blockN
    | with_reducible apply q_thenE
    | ((with_reducible apply q_blockE); exact rfl)
    | ((with_reducible apply q_blockO); exact rfl)
    | exact P0
    | (with_reducible apply P1)
    | exact Rdn.zero
    | apply Rdn.succ
    | ((with_reducible apply Norm.nil); exact rfl)
    | ((with_reducible apply Norm.cons); exact rfl)
    | (with_reducible apply end_ret)
    | (with_reducible apply end_normal)
    | exact rvs_nil
    | (with_reducible apply rvs_cons)
    | ((with_reducible apply rv_tmp); exact rfl)
    | ((with_reducible apply rv_cell); exact rfl; exact rfl)
    | ((with_reducible apply rv_cellAgg); exact rfl; exact rfl)
    | exact Nat.le_of_ble_eq_true rfl
    | exact (rfl : (_ : Bool) = true)
    | omega
    | (intro _ _; with_reducible apply tl_id)
    | (intro _; with_reducible apply tl_id)
    | (intro _ _; with_reducible apply al_id)
    | (intro _; with_reducible apply al_id))
  all_goals rfl
theorem frontLess_calls (db n cap i j : Nat) (l : List Rc) (x y : Rc) (tg : Tg) (w : World) (hB : Blk w db (rcs l) tg) (hn : l.length = n) (hn1 : n ≤ 1000000) (hx : l[i]? = some x) (hy : l[j]? = some y) :
    Calls Try.prog 240 #[.slice (some ⟨db, 0, none⟩) n cap, .int .i64 ((i : Nat) : Int), .int .i64 ((j : Nat) : Int)] w fun e w' => e = .returned (.bool (decide (x.1 < y.1))) ∧ Ext w w' := by
  have hi := (List.getElem?_eq_some_iff.1 hx).1
  have hj := (List.getElem?_eq_some_iff.1 hy).1
  have c0 := hB.cell (rc_at hx).1
  have c1 := hB.cell (rc_at hy).1
  refine enterQ (c := cx w 18) Try.func240 rfl rfl rfl rfl ?_
  repeat' (first
    | ((with_reducible apply oq_id); first | (focus ((with_reducible apply oq_indexAddrN); (iterate 4 exact rfl); omega)) | (apply oq_fn; exact rfl; try first | exact trivial | (and_intros <;> omega)) | ((with_reducible apply oq_load); exact rfl; exact rfl) | ((with_reducible apply oq_loadAgg); exact rfl; exact rfl) | ((with_reducible apply oq_build); (iterate 3 exact rfl)) | ((with_reducible apply oq_buildA); (iterate 4 exact rfl)) | ((with_reducible apply oq_fieldAgg); (iterate 3 exact rfl)) | ((with_reducible apply oq_indexAgg); (iterate 4 exact rfl)))
    | ((with_reducible apply tl_id); first | (with_reducible apply tl_nil) | ((with_reducible apply u_q); (iterate 4 exact rfl)) | ((with_reducible apply u_s0); exact rfl; exact rfl) | ((with_reducible apply u_s); (iterate 3 exact rfl)) | ((with_reducible apply u_skip); (iterate 3 exact rfl)) | ((with_reducible apply u_splitD); exact rfl; exact rfl; all_goals first | (intro hp; try (exfalso; omega)) | skip) | ((with_reducible apply u_splitN); exact rfl; exact rfl; all_goals first | (intro hp; try (exfalso; omega)) | skip) | ((with_reducible apply u_split); exact rfl; exact rfl; all_goals first | intro hp | skip))
    | ((with_reducible apply gx_id); first | (with_reducible apply v_nil) | ((with_reducible apply v_q); (iterate 3 exact rfl)) | ((with_reducible apply v_skip); (iterate 3 exact rfl)) | ((with_reducible apply v_splitD); exact rfl; exact rfl; all_goals first | (intro hp; try (exfalso; omega)) | skip) | ((with_reducible apply v_splitN); exact rfl; exact rfl; all_goals first | (intro hp; try (exfalso; omega)) | skip) | ((with_reducible apply v_split); exact rfl; exact rfl; all_goals first | intro hp | skip))
    | ((with_reducible apply os_id); first | ((with_reducible apply os_x); exact rfl) | ((with_reducible apply os_store); (iterate 4 exact rfl)) | ((with_reducible apply os_storeAgg); (iterate 5 exact rfl)) | ((with_reducible apply os_append (hk := app_ok188)); exact rfl; exact rfl; (repeat (first | exact P0 | apply P1))) | ((with_reducible apply os_appendNil (hk := app_ok188)); exact rfl; exact rfl))
    | ((with_reducible apply ox_id); first | ((with_reducible apply ox_alloc); exact rfl; intro _) | ((with_reducible apply ox_box); exact rfl; exact rfl; intro _) | ((with_reducible apply ox_boxAgg); exact rfl; intro _) | ((with_reducible apply ox_buildSlice1); (iterate 6 exact rfl); intro _) | ((with_reducible apply ox_buildSlice2); (iterate 6 exact rfl); intro _) | ((with_reducible apply ox_buildSlice); (iterate 4 exact rfl)))
    | ((with_reducible apply rd_id); first | (apply Rd.own; (repeat (first | exact P0 | apply P1)); exact rfl; done) | (apply Rd.old; (first | (with_reducible assumption) | exact c0 | exact c1 | exact c2 | exact c3 | exact c4 | exact c5 | exact c6 | exact c7 | exact c8 | exact d0 | exact d1 | exact d2 | exact d3 | exact d4 | exact d5); first | exact List.not_mem_nil | exact m0 | exact m1 | exact m2 | exact m3 | exact m4 | exact m5 | exact m6 | exact m7 | exact m8 | exact m9))
    | ((with_reducible apply t_id); first | (with_reducible apply t_seq) | (apply t_region; kernel_rfl) | (apply t_drawn; kernel_rfl; decide +kernel; try simp only [List.append_eq, List.cons_append, List.nil_append]) | ((with_reducible apply t_condT); exact rfl) | ((with_reducible apply t_condF); exact rfl) | ((with_reducible apply t_condD); exact rfl; all_goals first | (intro hp; try (exfalso; omega)) | skip) | ((with_reducible apply t_condN); exact rfl; all_goals first | (intro hp; try (exfalso; omega)) | skip) | ((with_reducible apply t_cond); exact rfl; all_goals first | intro hp | skip) | (with_reducible apply t_ret) | (with_reducible apply t_skip) | (with_reducible apply t_exit) | (with_reducible apply t_block))
    | with_reducible apply q_thenN
    | with_reducible apply q_thenR
    | with_reducible apply q_blockR
    | with_reducible apply q_blockN
    | with_reducible apply q_thenE
    | ((with_reducible apply q_blockE); exact rfl)
    | ((with_reducible apply q_blockO); exact rfl)
    | exact P0
    | (with_reducible apply P1)
    | exact Rdn.zero
    | apply Rdn.succ
    | ((with_reducible apply Norm.nil); exact rfl)
    | ((with_reducible apply Norm.cons); exact rfl)
    | (with_reducible apply end_ret)
    | (with_reducible apply end_normal)
    | exact rvs_nil
    | (with_reducible apply rvs_cons)
    | ((with_reducible apply rv_tmp); exact rfl)
    | ((with_reducible apply rv_cell); exact rfl; exact rfl)
    | ((with_reducible apply rv_cellAgg); exact rfl; exact rfl)
    | exact Nat.le_of_ble_eq_true rfl
    | exact (rfl : (_ : Bool) = true)
    | omega
    | (intro _ _; with_reducible apply tl_id)
    | (intro _; with_reducible apply tl_id)
    | (intro _ _; with_reducible apply al_id)
    | (intro _; with_reducible apply al_id))
  all_goals rfl
theorem frontSwap_W (db n cap i j : Nat) (l : List Rc) (x y : Rc) (w : World) (hH : Has w ⟨[db], []⟩ [(db, rcs l, some (186, 3, cap))] w) (hn : l.length = n) (hn1 : n ≤ 1000000) (hx : l[i]? = some x) (hy : l[j]? = some y) :
    Calls Try.prog 243 #[.slice (some ⟨db, 0, none⟩) n cap, .int .i64 ((i : Nat) : Int), .int .i64 ((j : Nat) : Int)] w fun e w' => ∃ v H1, e = .returned v ∧ (v = .tuple #[] ∧ H1 = [(db, rcs (swp l i j), some (186, 3, cap))]) ∧ Has w ⟨[db], []⟩ H1 w' := by
  have hi := (List.getElem?_eq_some_iff.1 hx).1
  have hj := (List.getElem?_eq_some_iff.1 hy).1
  obtain ⟨q0, q1, q2⟩ := rc_at hx
  obtain ⟨r0, r1, r2⟩ := rc_at hy
  have hs : (l.set i y).set j x = swp l i j := (swp_of hx hy).symm
  have hy2 : ∃ y2, (l.set i y)[j]? = some y2 := ⟨_, List.getElem?_eq_getElem (by simpa using hj)⟩
  obtain ⟨y2, hy2⟩ := hy2
  refine enterM (c := cxM [db] w 20) Try.func243 rfl rfl rfl hH ?_
  repeat' (first
    | ((with_reducible apply oq_id); first | (focus ((with_reducible apply oq_indexAddrN); (iterate 4 exact rfl); omega)) | (apply oq_fn; exact rfl; try first | exact trivial | (and_intros <;> omega)) | ((with_reducible apply oq_load); exact rfl; exact rfl) | ((with_reducible apply oq_loadAgg); exact rfl; exact rfl) | ((with_reducible apply oq_build); (iterate 3 exact rfl)) | ((with_reducible apply oq_buildA); (iterate 4 exact rfl)) | ((with_reducible apply oq_fieldAgg); (iterate 3 exact rfl)) | ((with_reducible apply oq_indexAgg); (iterate 4 exact rfl)))
    | ((with_reducible apply tl_id); first | (with_reducible apply tl_nil) | ((with_reducible apply u_q); (iterate 4 exact rfl)) | ((with_reducible apply u_s0); exact rfl; exact rfl) | ((with_reducible apply u_s); (iterate 3 exact rfl)) | ((with_reducible apply u_skip); (iterate 3 exact rfl)) | ((with_reducible apply u_splitD); exact rfl; exact rfl; all_goals first | (intro hp; try (exfalso; omega)) | skip) | ((with_reducible apply u_splitN); exact rfl; exact rfl; all_goals first | (intro hp; try (exfalso; omega)) | skip) | ((with_reducible apply u_split); exact rfl; exact rfl; all_goals first | intro hp | skip))
    | ((with_reducible apply gx_id); first | (with_reducible apply v_nil) | ((with_reducible apply v_q); (iterate 3 exact rfl)) | ((with_reducible apply v_skip); (iterate 3 exact rfl)) | ((with_reducible apply v_splitD); exact rfl; exact rfl; all_goals first | (intro hp; try (exfalso; omega)) | skip) | ((with_reducible apply v_splitN); exact rfl; exact rfl; all_goals first | (intro hp; try (exfalso; omega)) | skip) | ((with_reducible apply v_split); exact rfl; exact rfl; all_goals first | intro hp | skip))
    | ((with_reducible apply os_id); first | ((with_reducible apply (os_storeRc y hx rfl)); (iterate 3 exact rfl); (repeat (first | exact P0 | apply P1))) | ((with_reducible apply (os_storeRc x hy2 hs)); (iterate 3 exact rfl); (repeat (first | exact P0 | apply P1))) | ((with_reducible apply os_x); exact rfl) | ((with_reducible apply os_store); (iterate 4 exact rfl)) | ((with_reducible apply os_storeAgg); (iterate 5 exact rfl)) | ((with_reducible apply os_append (hk := app_ok188)); exact rfl; exact rfl; (repeat (first | exact P0 | apply P1))) | ((with_reducible apply os_appendNil (hk := app_ok188)); exact rfl; exact rfl))
    | ((with_reducible apply ox_id); first | ((with_reducible apply ox_alloc); exact rfl; intro _) | ((with_reducible apply ox_box); exact rfl; exact rfl; intro _) | ((with_reducible apply ox_boxAgg); exact rfl; intro _) | ((with_reducible apply ox_buildSlice1); (iterate 6 exact rfl); intro _) | ((with_reducible apply ox_buildSlice2); (iterate 6 exact rfl); intro _) | ((with_reducible apply ox_buildSlice); (iterate 4 exact rfl)))
    | ((with_reducible apply ai_id); first | ((with_reducible apply ai_q); (iterate 5 exact rfl)) | ((with_reducible apply ai_x); (iterate 5 exact rfl)) | ((with_reducible apply ai_s0); (iterate 4 exact rfl)) | ((with_reducible apply ai_n0); (iterate 3 exact rfl)) | ((with_reducible apply ai_s); (iterate 5 exact rfl)) | ((with_reducible apply ai_n); (iterate 4 exact rfl)) | ((with_reducible apply ai_skip); (iterate 4 exact rfl)) | ((with_reducible apply ai_splitD); (iterate 3 exact rfl); all_goals first | (intro hp; try (exfalso; omega)) | skip) | ((with_reducible apply ai_splitN); (iterate 3 exact rfl); all_goals first | (intro hp; try (exfalso; omega)) | skip) | ((with_reducible apply ai_split); (iterate 3 exact rfl); all_goals first | intro hp | skip))
    | ((with_reducible apply al_keep); focus (repeat (first | exact HpSub.refl _ | (apply HpSub.cons; (repeat (first | exact P0 | apply P1))) | apply HpSub.skipX | exact HpSub.nil)))
    | ((with_reducible apply rd_id); first | (apply Rd.own; (repeat (first | exact P0 | apply P1)); with_reducible (first | exact q0 | exact q1 | exact q2 | exact r0 | exact r1 | exact r2); done) | (apply Rd.own; (repeat (first | exact P0 | apply P1)); exact rfl; done) | (apply Rd.old; (first | (with_reducible assumption) | exact c0 | exact c1 | exact c2 | exact c3 | exact c4 | exact c5 | exact c6 | exact c7 | exact c8 | exact d0 | exact d1 | exact d2 | exact d3 | exact d4 | exact d5); first | exact List.not_mem_nil | exact m0 | exact m1 | exact m2 | exact m3 | exact m4 | exact m5 | exact m6 | exact m7 | exact m8 | exact m9))
    | ((with_reducible apply t_id); first | (apply t_mixZ (id := 0) [0, 1, 2, 3, 4, 5, 6, 8, 9, 10] 6; kernel_rfl; kernel_rfl; exact rfl) | (with_reducible apply t_seq) | (apply t_region; kernel_rfl) | (apply t_drawn; kernel_rfl; decide +kernel; try simp only [List.append_eq, List.cons_append, List.nil_append]) | ((with_reducible apply t_condT); exact rfl) | ((with_reducible apply t_condF); exact rfl) | ((with_reducible apply t_condD); exact rfl; all_goals first | (intro hp; try (exfalso; omega)) | skip) | ((with_reducible apply t_condN); exact rfl; all_goals first | (intro hp; try (exfalso; omega)) | skip) | ((with_reducible apply t_cond); exact rfl; all_goals first | intro hp | skip) | (with_reducible apply t_ret) | (with_reducible apply t_skip) | (with_reducible apply t_exit) | (with_reducible apply t_block))
    | with_reducible apply q_thenN
    | with_reducible apply q_thenR
    | with_reducible apply q_blockR
    | with_reducible apply q_blockN
    | with_reducible apply q_thenE
    | ((with_reducible apply q_blockE); exact rfl)
    | ((with_reducible apply q_blockO); exact rfl)
    | exact P0
    | (with_reducible apply P1)
    | exact Rdn.zero
    | apply Rdn.succ
    | ((with_reducible apply Norm.nil); exact rfl)
    | ((with_reducible apply Norm.cons); exact rfl)
    | (with_reducible apply end_ret)
    | (with_reducible apply end_normal)
    | exact rvs_nil
    | (with_reducible apply rvs_cons)
    | ((with_reducible apply rv_tmp); exact rfl)
    | ((with_reducible apply rv_cell); exact rfl; exact rfl)
    | ((with_reducible apply rv_cellAgg); exact rfl; exact rfl)
    | ((with_reducible apply cut_in0) <;> (repeat' (first | exact FrSub.nil | (apply FrSub.cons; exact rfl) | exact HpSub.refl _ | (apply HpSub.consE; (repeat (first | exact P0 | apply P1)); exact rfl) | apply HpSub.skipX | exact HpSub.nil)))
    | ((with_reducible apply cut_in1) <;> (repeat' (first | exact FrSub.nil | (apply FrSub.cons; exact rfl) | exact HpSub.refl _ | (apply HpSub.consE; (repeat (first | exact P0 | apply P1)); exact rfl) | apply HpSub.skipX | exact HpSub.nil)))
    | ((with_reducible apply cut_in2) <;> (repeat' (first | exact FrSub.nil | (apply FrSub.cons; exact rfl) | exact HpSub.refl _ | (apply HpSub.consE; (repeat (first | exact P0 | apply P1)); exact rfl) | apply HpSub.skipX | exact HpSub.nil)))
    | ((with_reducible apply cut_in3) <;> (repeat' (first | exact FrSub.nil | (apply FrSub.cons; exact rfl) | exact HpSub.refl _ | (apply HpSub.consE; (repeat (first | exact P0 | apply P1)); exact rfl) | apply HpSub.skipX | exact HpSub.nil)))
    | (apply t_mixZ (id := 0) [0, 1, 2, 3, 4, 5, 6, 8, 9, 10] 6; kernel_rfl; kernel_rfl; exact rfl)
    | ((with_reducible apply al_id); first | (apply al_done; decide +kernel) | (apply al_one 7; decide +kernel) | (apply al_one 11; decide +kernel) | (apply al_one 12; decide +kernel) | (apply al_one 13; decide +kernel) | (apply al_one 14; decide +kernel) | (apply al_one 15; decide +kernel) | (apply al_two 7 11; decide +kernel))
    | exact Nat.le_of_ble_eq_true rfl
    | exact (rfl : (_ : Bool) = true)
    | omega
    | (intro _ _; with_reducible apply tl_id)
    | (intro _; with_reducible apply tl_id)
    | (intro _ _; with_reducible apply al_id)
    | (intro _; with_reducible apply al_id))
  all_goals exact ⟨_, ⟨rfl, rfl⟩, HpSub.w (by (repeat (first | exact HpSub.refl _ | (apply HpSub.consE; (repeat (first | exact P0 | apply P1)); exact rfl) | apply HpSub.skipX | exact HpSub.nil)))⟩
end Go.Proofs.Ytcjkndjjbjoehaa
namespace Go.Proofs.Ytcjkndjjbjoehaa
open Go.RowKit
section
variable {c : Cx} {F : Fr} {H H' : Hp} {K : Value → Hp → Prop} {d : Option Tmp} {ty : TypeId} {pos : String} {af : Array Edge} {gd : Option (Nat × Bool)} {t t' : TypeId} {x y : Operand} {a0 a1 : Bool} {s0 s1 : Nat} {z0 z1 : List Value} {k1 : TyK} {g : Nat} {tg : Tg} {C : List Value}
theorem oq_sliceH {e b o len cap h : Nat} {k : IntKind} {hi : Int} (ht : tyAt c.tys t = some ⟨a0, s0, z0, .slice e⟩) (he : tyAt c.tys e = some ⟨a1, s1, z1, k1⟩)
    (hx : ev F x = some (.slice (some ⟨b, o, none⟩) len cap)) (hy : ev F y = some (.int k hi)) (hl : hi = h) (h1 : h ≤ cap) :
    OQ c ⟨d, .slice t x none (some y) none, ty, pos, af, gd⟩ F H (.slice (some ⟨b, o, none⟩) h cap) := .of fun D a w ha _ => by
  subst hl
  have hk := (c.ty ht).kind w
  have hs := (c.ty he).size w
  simp only [execOp, Option.map, ha.ev hx, ha.ev hy]
  by_cases h2 : cap = 0
  · subst h2
    simp [Instr.sliceAt, Instr.slice, Instr.sliceBounds, Instr.sliceBound, asIntOf, Sem.run_bind, hk, hs, h1, Result.andThen, go_sem, add_eq]
  · simp [Instr.sliceAt, Instr.slice, Instr.sliceBounds, Instr.sliceBound, asIntOf, Sem.run_bind, hk, hs, h1, h2, Result.andThen, go_sem, add_eq]
theorem Rds.own {b : Nat} (hp : Pick H b C tg H') : ∀ (vs : List Value) (o : Nat), (∀ j v, vs[j]? = some v → C[o + j]? = some v) → Rds c H b o vs
  | [], _, _ => trivial
  | v :: vs, o, h => ⟨Rd.own hp (h 0 v rfl), Rds.own hp vs (o + 1) fun j u hj => by have := h (j + 1) u (by simpa using hj); rw [← this]; congr 1; omega⟩
end
end Go.Proofs.Ytcjkndjjbjoehaa
namespace Go.Proofs.Ytcjkndjjbjoehaa
open Go.RowKit
attribute [local irreducible] OQ OS OX Rd T TL GX GL AL AI RV wpG SAny Calls
theorem rcs_snoc (l : List Rc) (x : Rc) : rcs l ++ [.int .i64 x.1, .int .i64 0, .int .i64 (x.2 : Nat)] = rcs (l ++ [x]) := by simp [rcs]
theorem rcs_app (a b : List Rc) : rcs (a ++ b) = rcs a ++ rcs b := by simp [rcs]
theorem frH_n {pb db cap n : Nat} {l : List Rc} (hn : l.length = n) : frH pb db cap l = [(pb, [.slice (some ⟨db, 0, none⟩) n cap], some (188, 1, 1)), (db, rcs l, some (186, 3, cap))] := by rw [frH, hn]
theorem frontPush_W (pb db n cap : Nat) (l : List Rc) (x : Rc) (w : World) (hH : Has w ⟨[pb, db], []⟩ [(pb, [.slice (some ⟨db, 0, none⟩) n cap], some (188, 1, 1)), (db, rcs l, some (186, 3, cap))] w) (hn : l.length = n) (hn1 : n ≤ 1000000) :
    Calls Try.prog 242 #[.pointer (some ⟨pb, 0, none⟩), .iface 186 (.agg #[.int .i64 x.1, .int .i64 0, .int .i64 (x.2 : Nat)])] w fun e w' => ∃ v H1, e = .returned v ∧ (v = .tuple #[] ∧ ∃ db' cap', H1 = frH pb db' cap' (l ++ [x])) ∧ Has w ⟨[pb, db], []⟩ H1 w' := by
  have hlen := rcs_len l
  rw [hn] at hlen
  refine enterM (c := cxM [pb, db] w 13) Try.func242 rfl rfl rfl hH ?_
  repeat' (first
    | ((with_reducible apply oq_id); first | ((with_reducible apply oq_assert); exact Try.runUnderlying186; (intro _ h; cases h); exact rfl) | (apply oq_fn; exact rfl; try first | exact trivial | (and_intros <;> omega)) | ((with_reducible apply oq_load); exact rfl; exact rfl) | ((with_reducible apply oq_loadAgg); exact rfl; exact rfl) | ((with_reducible apply oq_build); (iterate 3 exact rfl)) | ((with_reducible apply oq_buildA); (iterate 4 exact rfl)) | ((with_reducible apply oq_fieldAgg); (iterate 3 exact rfl)) | ((with_reducible apply oq_indexAgg); (iterate 4 exact rfl)))
    | ((with_reducible apply tl_id); first | (with_reducible apply tl_nil) | ((with_reducible apply u_q); (iterate 4 exact rfl)) | ((with_reducible apply u_s0); exact rfl; exact rfl) | ((with_reducible apply u_s); (iterate 3 exact rfl)) | ((with_reducible apply u_skip); (iterate 3 exact rfl)) | ((with_reducible apply u_splitD); exact rfl; exact rfl; all_goals first | (intro hp; try (exfalso; omega)) | skip) | ((with_reducible apply u_splitN); exact rfl; exact rfl; all_goals first | (intro hp; try (exfalso; omega)) | skip) | ((with_reducible apply u_split); exact rfl; exact rfl; all_goals first | intro hp | skip))
    | ((with_reducible apply gx_id); first | (with_reducible apply v_nil) | ((with_reducible apply v_q); (iterate 3 exact rfl)) | ((with_reducible apply v_skip); (iterate 3 exact rfl)) | ((with_reducible apply v_splitD); exact rfl; exact rfl; all_goals first | (intro hp; try (exfalso; omega)) | skip) | ((with_reducible apply v_splitN); exact rfl; exact rfl; all_goals first | (intro hp; try (exfalso; omega)) | skip) | ((with_reducible apply v_split); exact rfl; exact rfl; all_goals first | intro hp | skip))
    | ((with_reducible apply os_id); first | ((with_reducible apply os_x); exact rfl) | ((with_reducible apply os_store); (iterate 4 exact rfl)) | ((with_reducible apply os_storeAgg); (iterate 5 exact rfl)) | ((with_reducible apply os_append (hk := app_ok188)); exact rfl; exact rfl; (repeat (first | exact P0 | apply P1))) | ((with_reducible apply os_appendNil (hk := app_ok188)); exact rfl; exact rfl))
    | ((with_reducible apply ox_id); first | ((with_reducible apply ox_alloc); exact rfl; intro _) | ((with_reducible apply ox_box); exact rfl; exact rfl; intro _) | ((with_reducible apply ox_boxAgg); exact rfl; intro _) | ((with_reducible apply ox_buildSlice1); (iterate 6 exact rfl); intro _) | ((with_reducible apply ox_buildSlice2); (iterate 6 exact rfl); intro _) | ((with_reducible apply ox_buildSlice); (iterate 4 exact rfl)))
    | ((with_reducible apply ai_id); first | ((with_reducible apply ai_q); (iterate 5 exact rfl)) | ((with_reducible apply ai_x); (iterate 5 exact rfl)) | ((with_reducible apply ai_s0); (iterate 4 exact rfl)) | ((with_reducible apply ai_n0); (iterate 3 exact rfl)) | ((with_reducible apply ai_s); (iterate 5 exact rfl)) | ((with_reducible apply ai_n); (iterate 4 exact rfl)) | ((with_reducible apply ai_skip); (iterate 4 exact rfl)) | ((with_reducible apply ai_splitD); (iterate 3 exact rfl); all_goals first | (intro hp; try (exfalso; omega)) | skip) | ((with_reducible apply ai_splitN); (iterate 3 exact rfl); all_goals first | (intro hp; try (exfalso; omega)) | skip) | ((with_reducible apply ai_split); (iterate 3 exact rfl); all_goals first | intro hp | skip))
    | ((with_reducible apply al_keep); focus (repeat (first | exact HpSub.refl _ | (apply HpSub.cons; (repeat (first | exact P0 | apply P1))) | apply HpSub.skipX | exact HpSub.nil)))
    | ((with_reducible apply rd_id); first | (apply Rd.own; (repeat (first | exact P0 | apply P1)); exact rfl; done) | (apply Rd.old; (first | (with_reducible assumption) | exact c0 | exact c1 | exact c2 | exact c3 | exact c4 | exact c5 | exact c6 | exact c7 | exact c8 | exact d0 | exact d1 | exact d2 | exact d3 | exact d4 | exact d5); first | exact List.not_mem_nil | exact m0 | exact m1 | exact m2 | exact m3 | exact m4 | exact m5 | exact m6 | exact m7 | exact m8 | exact m9))
    | ((with_reducible apply t_id); first | (apply t_mix (id := 0) [1, 2, 3, 4, 5] 5 #[false, false, false, false, false, false, false, true, false, true]; kernel_rfl; kernel_rfl; exact rfl) | (with_reducible apply t_seq) | (apply t_region; kernel_rfl) | (apply t_drawn; kernel_rfl; decide +kernel; try simp only [List.append_eq, List.cons_append, List.nil_append]) | ((with_reducible apply t_condT); exact rfl) | ((with_reducible apply t_condF); exact rfl) | ((with_reducible apply t_condD); exact rfl; all_goals first | (intro hp; try (exfalso; omega)) | skip) | ((with_reducible apply t_condN); exact rfl; all_goals first | (intro hp; try (exfalso; omega)) | skip) | ((with_reducible apply t_cond); exact rfl; all_goals first | intro hp | skip) | (with_reducible apply t_ret) | (with_reducible apply t_skip) | (with_reducible apply t_exit) | (with_reducible apply t_block))
    | with_reducible apply q_thenN
    | with_reducible apply q_thenR
    | with_reducible apply q_blockR
    | with_reducible apply q_blockN
    | with_reducible apply q_thenE
    | ((with_reducible apply q_blockE); exact rfl)
    | ((with_reducible apply q_blockO); exact rfl)
    | exact P0
    | (with_reducible apply P1)
    | exact Rdn.zero
    | apply Rdn.succ
    | ((with_reducible apply Norm.nil); exact rfl)
    | ((with_reducible apply Norm.cons); exact rfl)
    | (with_reducible apply end_ret)
    | (with_reducible apply end_normal)
    | exact rvs_nil
    | (with_reducible apply rvs_cons)
    | ((with_reducible apply rv_tmp); exact rfl)
    | ((with_reducible apply rv_cell); exact rfl; exact rfl)
    | ((with_reducible apply rv_cellAgg); exact rfl; exact rfl)
    | ((with_reducible apply cut_in0) <;> (repeat' (first | exact FrSub.nil | (apply FrSub.cons; exact rfl) | exact HpSub.refl _ | (apply HpSub.consE; (repeat (first | exact P0 | apply P1)); exact rfl) | apply HpSub.skipX | exact HpSub.nil)))
    | ((with_reducible apply cut_in1) <;> (repeat' (first | exact FrSub.nil | (apply FrSub.cons; exact rfl) | exact HpSub.refl _ | (apply HpSub.consE; (repeat (first | exact P0 | apply P1)); exact rfl) | apply HpSub.skipX | exact HpSub.nil)))
    | ((with_reducible apply cut_in2) <;> (repeat' (first | exact FrSub.nil | (apply FrSub.cons; exact rfl) | exact HpSub.refl _ | (apply HpSub.consE; (repeat (first | exact P0 | apply P1)); exact rfl) | apply HpSub.skipX | exact HpSub.nil)))
    | ((with_reducible apply cut_in3) <;> (repeat' (first | exact FrSub.nil | (apply FrSub.cons; exact rfl) | exact HpSub.refl _ | (apply HpSub.consE; (repeat (first | exact P0 | apply P1)); exact rfl) | apply HpSub.skipX | exact HpSub.nil)))
    | (apply t_mix (id := 0) [1, 2, 3, 4, 5] 5 #[false, false, false, false, false, false, false, true, false, true]; kernel_rfl; kernel_rfl; exact rfl)
    | ((with_reducible apply al_id); first | (apply al_done; decide +kernel) | (apply al_one 0; decide +kernel) | (apply al_one 6; decide +kernel) | (apply al_one 7; decide +kernel) | (apply al_one 8; decide +kernel) | (apply al_one 9; decide +kernel) | (apply al_two 0 6; decide +kernel) | (apply al_two 0 7; decide +kernel))
    | exact Nat.le_of_ble_eq_true rfl
    | exact (rfl : (_ : Bool) = true)
    | omega
    | (intro _ _; with_reducible apply tl_id)
    | (intro _; with_reducible apply tl_id)
    | (intro _ _; with_reducible apply al_id)
    | (intro _; with_reducible apply al_id))
  all_goals (rename_i bA bB cpB; refine ⟨_, ⟨rfl, bB, cpB, (frH_n (l := l ++ [x]) (n := n + 1) (by simp [hn])).symm⟩, HpSub.w ?_⟩; (try simp only [List.cons_append, List.nil_append]); rw [← rcs_snoc]; (repeat (first | exact HpSub.refl _ | (apply HpSub.consE; (repeat (first | exact P0 | apply P1)); exact rfl) | apply HpSub.skipX | exact HpSub.nil)))
theorem frontPop_W (pb db n cap : Nat) (l : List Rc) (x : Rc) (w : World) (hH : Has w ⟨[pb, db], []⟩ [(pb, [.slice (some ⟨db, 0, none⟩) (n + 1) cap], some (188, 1, 1)), (db, rcs l, some (186, 3, cap))] w) (hn : l.length = n + 1) (hn1 : n ≤ 1000000) (hc : n + 1 ≤ cap) (hx : l[n]? = some x) :
    Calls Try.prog 241 #[.pointer (some ⟨pb, 0, none⟩)] w fun e w' => ∃ v H1, e = .returned v ∧ (v = .iface 186 (.agg #[.int .i64 x.1, .int .i64 0, .int .i64 (x.2 : Nat)]) ∧ H1 = frH pb db cap (l.take n)) ∧ Has w ⟨[pb, db], []⟩ H1 w' := by
  have hlen := rcs_len l
  rw [hn] at hlen
  have hl : l = l.take n ++ l.drop n := (List.take_append_drop _ _).symm
  obtain ⟨q0, q1, q2⟩ := rc_at hx
  rw [frH_n (n := n) (by rw [List.length_take, hn]; omega)]
  refine enterM (c := cxM [pb, db] w 27) Try.func241 rfl rfl rfl hH ?_
  repeat' (first
    | ((with_reducible apply oq_id); first | ((with_reducible apply oq_makeIface); exact Try.runUnderlying186; (intro _ h; cases h); exact rfl) | ((with_reducible apply oq_subE (k := ((n : Nat) : Int))); exact rfl; exact rfl; omega) | ((with_reducible apply (oq_sliceH (h := n))); (iterate 4 exact rfl); omega; omega) | (focus ((with_reducible apply oq_indexAddrN); (iterate 4 exact rfl); omega)) | (apply oq_fn; exact rfl; try first | exact trivial | (and_intros <;> omega)) | ((with_reducible apply oq_load); exact rfl; exact rfl) | ((with_reducible apply oq_loadAgg); exact rfl; exact rfl) | ((with_reducible apply oq_build); (iterate 3 exact rfl)) | ((with_reducible apply oq_buildA); (iterate 4 exact rfl)) | ((with_reducible apply oq_fieldAgg); (iterate 3 exact rfl)) | ((with_reducible apply oq_indexAgg); (iterate 4 exact rfl)))
    | ((with_reducible apply tl_id); first | (with_reducible apply tl_nil) | ((with_reducible apply u_q); (iterate 4 exact rfl)) | ((with_reducible apply u_s0); exact rfl; exact rfl) | ((with_reducible apply u_s); (iterate 3 exact rfl)) | ((with_reducible apply u_skip); (iterate 3 exact rfl)) | ((with_reducible apply u_splitD); exact rfl; exact rfl; all_goals first | (intro hp; try (exfalso; omega)) | skip) | ((with_reducible apply u_splitN); exact rfl; exact rfl; all_goals first | (intro hp; try (exfalso; omega)) | skip) | ((with_reducible apply u_split); exact rfl; exact rfl; all_goals first | intro hp | skip))
    | ((with_reducible apply gx_id); first | (with_reducible apply v_nil) | ((with_reducible apply v_q); (iterate 3 exact rfl)) | ((with_reducible apply v_skip); (iterate 3 exact rfl)) | ((with_reducible apply v_splitD); exact rfl; exact rfl; all_goals first | (intro hp; try (exfalso; omega)) | skip) | ((with_reducible apply v_splitN); exact rfl; exact rfl; all_goals first | (intro hp; try (exfalso; omega)) | skip) | ((with_reducible apply v_split); exact rfl; exact rfl; all_goals first | intro hp | skip))
    | ((with_reducible apply os_id); first | ((with_reducible apply os_x); exact rfl) | ((with_reducible apply os_store); (iterate 4 exact rfl)) | ((with_reducible apply os_storeAgg); (iterate 5 exact rfl)) | ((with_reducible apply os_append (hk := app_ok188)); exact rfl; exact rfl; (repeat (first | exact P0 | apply P1))) | ((with_reducible apply os_appendNil (hk := app_ok188)); exact rfl; exact rfl))
    | ((with_reducible apply ox_id); first | ((with_reducible apply ox_alloc); exact rfl; intro _) | ((with_reducible apply ox_box); exact rfl; exact rfl; intro _) | ((with_reducible apply ox_boxAgg); exact rfl; intro _) | ((with_reducible apply ox_buildSlice1); (iterate 6 exact rfl); intro _) | ((with_reducible apply ox_buildSlice2); (iterate 6 exact rfl); intro _) | ((with_reducible apply ox_buildSlice); (iterate 4 exact rfl)))
    | ((with_reducible apply ai_id); first | ((with_reducible apply ai_q); (iterate 5 exact rfl)) | ((with_reducible apply ai_x); (iterate 5 exact rfl)) | ((with_reducible apply ai_s0); (iterate 4 exact rfl)) | ((with_reducible apply ai_n0); (iterate 3 exact rfl)) | ((with_reducible apply ai_s); (iterate 5 exact rfl)) | ((with_reducible apply ai_n); (iterate 4 exact rfl)) | ((with_reducible apply ai_skip); (iterate 4 exact rfl)) | ((with_reducible apply ai_splitD); (iterate 3 exact rfl); all_goals first | (intro hp; try (exfalso; omega)) | skip) | ((with_reducible apply ai_splitN); (iterate 3 exact rfl); all_goals first | (intro hp; try (exfalso; omega)) | skip) | ((with_reducible apply ai_split); (iterate 3 exact rfl); all_goals first | intro hp | skip))
    | ((with_reducible apply al_keep); focus (repeat (first | exact HpSub.refl _ | (apply HpSub.cons; (repeat (first | exact P0 | apply P1))) | apply HpSub.skipX | exact HpSub.nil)))
    | ((with_reducible apply rd_id); first | (apply Rd.own; (repeat (first | exact P0 | apply P1)); with_reducible (first | exact q0 | exact q1 | exact q2); done) | (apply Rd.own; (repeat (first | exact P0 | apply P1)); exact rfl; done) | (apply Rd.old; (first | (with_reducible assumption) | exact c0 | exact c1 | exact c2 | exact c3 | exact c4 | exact c5 | exact c6 | exact c7 | exact c8 | exact d0 | exact d1 | exact d2 | exact d3 | exact d4 | exact d5); first | exact List.not_mem_nil | exact m0 | exact m1 | exact m2 | exact m3 | exact m4 | exact m5 | exact m6 | exact m7 | exact m8 | exact m9))
    | ((with_reducible apply t_id); first | (apply t_mix (id := 1) [0, 1, 2, 3, 4, 5, 6, 7, 8, 9] 2 #[false, false, false, false, false, false, false, false, false, false, false, false]; kernel_rfl; kernel_rfl; exact rfl) | (apply t_mix (id := 2) [0, 1, 2, 3, 4, 5, 6, 7, 8, 9, 10] 1 #[false, false, false, false, false, false, false, false, false, false, false, true]; kernel_rfl; kernel_rfl; exact rfl) | (with_reducible apply t_seq) | (apply t_region; kernel_rfl) | (apply t_drawn; kernel_rfl; decide +kernel; try simp only [List.append_eq, List.cons_append, List.nil_append]) | ((with_reducible apply t_condT); exact rfl) | ((with_reducible apply t_condF); exact rfl) | ((with_reducible apply t_condD); exact rfl; all_goals first | (intro hp; try (exfalso; omega)) | skip) | ((with_reducible apply t_condN); exact rfl; all_goals first | (intro hp; try (exfalso; omega)) | skip) | ((with_reducible apply t_cond); exact rfl; all_goals first | intro hp | skip) | (with_reducible apply t_ret) | (with_reducible apply t_skip) | (with_reducible apply t_exit) | (with_reducible apply t_block))
    | with_reducible apply q_thenN
    | with_reducible apply q_thenR
    | with_reducible apply q_blockR
    | with_reducible apply q_blockN
    | with_reducible apply q_thenE
    | ((with_reducible apply q_blockE); exact rfl)
    | ((with_reducible apply q_blockO); exact rfl)
    | exact P0
    | (with_reducible apply P1)
    | exact Rdn.zero
    | apply Rdn.succ
    | ((with_reducible apply Norm.nil); exact rfl)
    | ((with_reducible apply Norm.cons); exact rfl)
    | (with_reducible apply end_ret)
    | (with_reducible apply end_normal)
    | exact rvs_nil
    | (with_reducible apply rvs_cons)
    | ((with_reducible apply rv_tmp); exact rfl)
    | ((with_reducible apply rv_cell); exact rfl; exact rfl)
    | ((with_reducible apply rv_cellAgg); exact rfl; exact rfl)
    | ((with_reducible apply cut_in0) <;> (repeat' (first | exact FrSub.nil | (apply FrSub.cons; exact rfl) | exact HpSub.refl _ | (apply HpSub.consE; (repeat (first | exact P0 | apply P1)); exact rfl) | apply HpSub.skipX | exact HpSub.nil)))
    | ((with_reducible apply cut_in1) <;> (repeat' (first | exact FrSub.nil | (apply FrSub.cons; exact rfl) | exact HpSub.refl _ | (apply HpSub.consE; (repeat (first | exact P0 | apply P1)); exact rfl) | apply HpSub.skipX | exact HpSub.nil)))
    | ((with_reducible apply cut_in2) <;> (repeat' (first | exact FrSub.nil | (apply FrSub.cons; exact rfl) | exact HpSub.refl _ | (apply HpSub.consE; (repeat (first | exact P0 | apply P1)); exact rfl) | apply HpSub.skipX | exact HpSub.nil)))
    | ((with_reducible apply cut_in3) <;> (repeat' (first | exact FrSub.nil | (apply FrSub.cons; exact rfl) | exact HpSub.refl _ | (apply HpSub.consE; (repeat (first | exact P0 | apply P1)); exact rfl) | apply HpSub.skipX | exact HpSub.nil)))
    | (apply t_mix (id := 1) [0, 1, 2, 3, 4, 5, 6, 7, 8, 9] 2 #[false, false, false, false, false, false, false, false, false, false, false, false]; kernel_rfl; kernel_rfl; exact rfl)
    | ((with_reducible apply al_id); first | (apply al_done; decide +kernel) | (apply al_one 10; decide +kernel) | (apply al_one 11; decide +kernel))
    | (apply t_mix (id := 2) [0, 1, 2, 3, 4, 5, 6, 7, 8, 9, 10] 1 #[false, false, false, false, false, false, false, false, false, false, false, true]; kernel_rfl; kernel_rfl; exact rfl)
    | ((with_reducible apply al_id); first | (apply al_done; decide +kernel) | (apply al_one 11; decide +kernel))
    | exact Nat.le_of_ble_eq_true rfl
    | exact (rfl : (_ : Bool) = true)
    | omega
    | (intro _ _; with_reducible apply tl_id)
    | (intro _; with_reducible apply tl_id)
    | (intro _ _; with_reducible apply al_id)
    | (intro _; with_reducible apply al_id))
  all_goals (refine ⟨_, ⟨rfl, rfl⟩, (HpSub.w (G := (db, rcs (l.take n) ++ rcs (l.drop n), some (186, 3, cap)) :: [(pb, [.slice (some ⟨db, 0, none⟩) n cap], some (188, 1, 1))]) ?_).trans (HpW.pre.trans (HpSub.w (by (repeat (first | exact HpSub.refl _ | (apply HpSub.consE; (repeat (first | exact P0 | apply P1)); exact rfl) | apply HpSub.skipX | exact HpSub.nil)))))⟩)
  all_goals (rw [← rcs_app, ← hl]; (repeat (first | exact HpSub.refl _ | (apply HpSub.consE; (repeat (first | exact P0 | apply P1)); exact rfl) | apply HpSub.skipX | exact HpSub.nil)))
end Go.Proofs.Ytcjkndjjbjoehaa
