/- A part of the proof: rules for walks, and contracts of functions (9). -/
import Derived.Test.YtcjkndjjbjoehaaX3H
set_option linter.unusedVariables false
set_option linter.unusedSimpArgs false
set_option maxRecDepth 100000
set_option maxHeartbeats 2000000
namespace Go.Proofs.Ytcjkndjjbjoehaa
open Go.RowKit
attribute [local irreducible] OQ OS OX Rd T TL GX GL AL AI RV wpG SAny Calls
theorem index49_calls (bL bl b14 b3 b6 bA oA bo co n cp at_ c m : Nat) (aa bs L : List Nat) (g : List Int) (h : Int) (ha : at_ < n) (hn : n ≤ 576) (hLb : ∀ q, L.getD q 0 ≤ n + 1) (hla : 1 < L.getD at_ 0) (hlow : ∀ z, z < n → 0 < L.getD z 0 → gr g z ≤ h) (hlt : ∀ z ∈ aa ++ c :: bs, z < n) (hc : L.getD c 0 + 1 = L.getD at_ 0) (has : ∀ z ∈ aa, L.getD z 0 + 1 ≠ L.getD at_ 0) (hm : (cI (aa ++ c :: bs)).length = m) (hm2 : m ≤ 576) (w : World)
    (c0 : w.cell? ⟨bL, 0, none⟩ = some (.slice (some ⟨bl, 0, none⟩) n n)) (cl : ∀ z, z < n → w.cell? ⟨bl, 0 + z * 1, none⟩ = some (.int .i64 ((L.getD z 0 : Nat) : Int))) (c2 : w.cell? ⟨b14, 0, none⟩ = some (.int .i64 (at_ : Nat)))
    (c4 : w.cell? ⟨b3, 2, none⟩ = some (.slice (some ⟨bA, oA, none⟩) n cp)) (cg : ∀ z, z < n → w.cell? ⟨bA, oA + z * 1, none⟩ = some (.int .i64 (gr g z))) (c6 : w.cell? ⟨b6, 0, none⟩ = some (.int .i64 h)) (hr : RdS w 1 (some ⟨bo, 0, none⟩) m ((cI (aa ++ c :: bs)).map inCells)) :
    Calls Try.prog 48 #[.slice (some ⟨bo, 0, none⟩) m co, .func (.func 49) #[] ⟨[.pointer (some ⟨bL, 0, none⟩), .pointer (some ⟨b14, 0, none⟩), .pointer (some ⟨b3, 0, none⟩), .pointer (some ⟨b6, 0, none⟩)]⟩] w fun e w' => e = .returned (.int .i64 (aa.length : Nat)) ∧ Ext w w' := by
  have hidx : idxV (fun z : Int => decide (L.getD z.toNat 0 + 1 = L.getD at_ 0)) (cI (aa ++ c :: bs)) = (aa.length : Nat) := by
    refine idxV_some (x := (c : Int)) (by unfold cI; rw [List.getElem?_map, List.getElem?_append_right (Nat.le_refl _)]; simp) (by simpa using hc) (fun z hz => ?_)
    have e : (cI (aa ++ c :: bs)).take aa.length = cI aa := by unfold cI; simp
    rw [e] at hz
    unfold cI at hz
    obtain ⟨z0, hz0, rfl⟩ := List.mem_map.1 hz
    simpa using has z0 hz0
  have := indexInt_calls 49 [.pointer (some ⟨bL, 0, none⟩), .pointer (some ⟨b14, 0, none⟩), .pointer (some ⟨b3, 0, none⟩), .pointer (some ⟨b6, 0, none⟩)] (fun z : Int => decide (L.getD z.toNat 0 + 1 = L.getD at_ 0)) (some ⟨bo, 0, none⟩) m co (cI (aa ++ c :: bs)) w hr (by omega) Try.call49 (fun z hz w1 hx => by
    unfold cI at hz
    obtain ⟨z0, hz0, rfl⟩ := List.mem_map.1 hz
    have hzn := hlt z0 hz0
    exact pass1_calls bL bl b14 b3 b6 bA oA n cp z0 at_ (L.getD z0 0) (L.getD at_ 0) (gr g z0) h _ hzn ha hn (by have := hLb z0; omega) hla (by have := hLb at_; omega) (by simp) (fun e => hlow z0 hzn (by omega)) w1 (hx.cell c0) (hx.cell (cl z0 hzn)) (hx.cell c2) (hx.cell (cl at_ ha)) (hx.cell c4) (hx.cell (cg z0 hzn)) (hx.cell c6))
  rw [hidx] at this
  exact this
theorem cI_cell {l : List Nat} {c : Nat} (h : c < l.length) : ((cI l).map iv)[0 + c * 1]? = some (.int .i64 ((l.getD c 0 : Nat) : Int)) := by
  rw [Nat.zero_add, Nat.mul_one, List.getElem?_map, cI_at h]; rfl
theorem pass_calls (A : Option Addr) (n cp : Nat) (W Hh a b e h : Int) (g : List Int) (P : List Nat) (w : World) (hP : IsP W Hh g a b e h P) (hr : RdS w 1 A n (g.map inCells)) (hn : n ≤ 1000000) :
    Calls Try.prog 8 #[.agg #[.int .i64 W, .int .i64 Hh, .slice A n cp], .int .i64 a, .int .i64 b] w fun e' w' => ∃ v H', e' = .returned v ∧ PasV e h P v H' ∧ Has w ⟨[], []⟩ H' w' := by
  have hl : g.length = n := by simpa using hr.len
  have HC := fun w1 h => checkTerrain_calls A n cp W Hh g w1 h hn
  have HR := fun (b1 : Nat) (w1 : World) (h : RdS w1 1 (some ⟨b1, 0, none⟩) 2 ([a, b].map inCells)) => rfrom_calls 0 ((n : Int) - 1) (some ⟨b1, 0, none⟩) 2 2 [a, b] w1 h (by omega)
  cases hP with
  | ground hT =>
    rw [hT] at HC
    simp only [Bool.false_eq_true, if_false] at HC
    refine enterF (c := cx w 109) Try.func8 rfl rfl rfl rfl ?_
    repeat' (first
      | ((with_reducible apply oq_id); first | ((with_reducible apply oq_neqT); exact rfl; exact rfl; omega) | ((with_reducible apply oq_neqF); exact rfl; exact rfl; omega) | (apply oq_fn; exact rfl; try first | exact trivial | (and_intros <;> omega)) | ((with_reducible apply oq_load); exact rfl; exact rfl) | ((with_reducible apply oq_loadAgg); exact rfl; exact rfl) | ((with_reducible apply oq_call (k := 10) (hc := Try.call10)); exact rfl; exact rfl; exact fun D w1 hw1 => HC w1 (hr.ext hw1.ext.ext)) | ((with_reducible apply oq_build); (iterate 3 exact rfl)) | ((with_reducible apply oq_buildA); (iterate 4 exact rfl)) | ((with_reducible apply oq_fieldAgg); (iterate 3 exact rfl)) | ((with_reducible apply oq_indexAgg); (iterate 4 exact rfl)))
      | ((with_reducible apply tl_id); first | (with_reducible apply tl_nil) | ((with_reducible apply u_q); (iterate 4 exact rfl)) | ((with_reducible apply u_s0); exact rfl; exact rfl) | ((with_reducible apply u_s); (iterate 3 exact rfl)) | ((with_reducible apply u_skip); (iterate 3 exact rfl)) | ((with_reducible apply u_splitD); exact rfl; exact rfl; all_goals first | (intro hp; try (exfalso; omega)) | skip) | ((with_reducible apply u_splitN); exact rfl; exact rfl; all_goals first | (intro hp; try (exfalso; omega)) | skip) | ((with_reducible apply u_split); exact rfl; exact rfl; all_goals first | intro hp | skip))
      | ((with_reducible apply gx_id); first | (with_reducible apply v_nil) | ((with_reducible apply v_q); (iterate 3 exact rfl)) | ((with_reducible apply v_skip); (iterate 3 exact rfl)) | ((with_reducible apply v_splitD); exact rfl; exact rfl; all_goals first | (intro hp; try (exfalso; omega)) | skip) | ((with_reducible apply v_splitN); exact rfl; exact rfl; all_goals first | (intro hp; try (exfalso; omega)) | skip) | ((with_reducible apply v_split); exact rfl; exact rfl; all_goals first | intro hp | skip))
      | ((with_reducible apply os_id); first | ((with_reducible apply os_x); exact rfl) | ((with_reducible apply os_store); (iterate 4 exact rfl)) | ((with_reducible apply os_storeAgg); (iterate 5 exact rfl)) | ((with_reducible apply os_append (hk := app_ok22)); exact rfl; exact rfl; (repeat (first | exact P0 | apply P1))) | ((with_reducible apply os_appendNil (hk := app_ok22)); exact rfl; exact rfl))
      | ((with_reducible apply ox_id); first | ((with_reducible apply ox_alloc); exact rfl; intro _) | ((with_reducible apply ox_box); exact rfl; exact rfl; intro _) | ((with_reducible apply ox_boxAgg); exact rfl; intro _) | ((with_reducible apply ox_buildSlice1); (iterate 6 exact rfl); intro _) | ((with_reducible apply ox_buildSlice2); (iterate 6 exact rfl); intro _) | ((with_reducible apply ox_buildSlice); (iterate 4 exact rfl)))
      | ((with_reducible apply rd_id); first | (apply Rd.own; (repeat (first | exact P0 | apply P1)); exact rfl; done) | (apply Rd.old; (first | (with_reducible assumption) | exact c0 | exact c1 | exact c2 | exact c3 | exact c4 | exact c5 | exact c6 | exact c7 | exact c8 | exact d0 | exact d1 | exact d2 | exact d3 | exact d4 | exact d5); first | exact List.not_mem_nil | exact m0 | exact m1 | exact m2 | exact m3 | exact m4 | exact m5 | exact m6 | exact m7 | exact m8 | exact m9))
      | ((with_reducible apply t_id); first | (with_reducible apply t_seq) | (apply t_region; kernel_rfl) | (apply t_drawn; kernel_rfl; decide +kernel; try simp only [List.append_eq, List.cons_append, List.nil_append]) | ((with_reducible apply t_condT); exact rfl) | ((with_reducible apply t_condF); exact rfl) | ((with_reducible apply t_condD); exact rfl; all_goals first | (intro hp; try (exfalso; omega)) | skip) | ((with_reducible apply t_condN); exact rfl; all_goals first | (intro hp; try (exfalso; omega)) | skip) | ((with_reducible apply t_cond); exact rfl; all_goals first | intro hp | skip) | (with_reducible apply t_ret) | (with_reducible apply t_skip) | (with_reducible apply t_exit) | (with_reducible apply t_block))
      | with_reducible apply q_thenN
      | with_reducible apply q_thenR
      | with_reducible apply q_blockR
      | with_reducible apply q_blockN
      | with_reducible apply q_thenE
      | ((with_reducible apply q_blockE); exact rfl)
      | ((with_reducible apply q_blockO); exact rfl)
      | exact P0
      | (with_reducible apply P1)
      | exact Rdn.zero
      | apply Rdn.succ
      | ((with_reducible apply Norm.nil); exact rfl)
      | ((with_reducible apply Norm.cons); exact rfl)
      | (with_reducible apply end_ret)
      | (with_reducible apply end_normal)
      | exact rvs_nil
      | (with_reducible apply rvs_cons)
      | ((with_reducible apply rv_tmp); exact rfl)
      | ((with_reducible apply rv_cell); exact rfl; exact rfl)
      | ((with_reducible apply rv_cellAgg); exact rfl; exact rfl)
      | exact Nat.le_of_ble_eq_true rfl
      | exact (rfl : (_ : Bool) = true)
      | omega
      | (intro _ _; with_reducible apply tl_id)
      | (intro _; with_reducible apply tl_id)
      | (intro _ _; with_reducible apply al_id)
      | (intro _; with_reducible apply al_id))
    all_goals exact ⟨_, ⟨none, fun _ => rfl, rfl, rfl⟩, (by (repeat (first | exact HpSub.refl _ | (apply HpSub.consE; (repeat (first | exact P0 | apply P1)); exact rfl) | apply HpSub.skipX | exact HpSub.nil)))⟩
  | arg hT ha =>
    rw [hT] at HC
    simp only [if_true] at HC
    rw [hl] at ha
    have hf : allFrom 0 ((n : Int) - 1) [a, b] = false := by
      cases hq : allFrom 0 ((n : Int) - 1) [a, b] with
      | false => rfl
      | true => exact absurd (allFrom_two.1 hq) (by omega)
    rw [hf] at HR
    refine enterF (c := cx w 109) Try.func8 rfl rfl rfl rfl ?_
    repeat' (first
      | ((with_reducible apply oq_id); first | ((with_reducible apply oq_neqT); exact rfl; exact rfl; omega) | ((with_reducible apply oq_neqF); exact rfl; exact rfl; omega) | (apply oq_fn; exact rfl; try first | exact trivial | (and_intros <;> omega)) | ((with_reducible apply oq_load); exact rfl; exact rfl) | ((with_reducible apply oq_loadAgg); exact rfl; exact rfl) | ((with_reducible apply oq_call (k := 10) (hc := Try.call10)); exact rfl; exact rfl; exact fun D w1 hw1 => HC w1 (hr.ext hw1.ext.ext)) | ((with_reducible apply oq_call (k := 45) (hc := Try.call45)); exact rfl; exact rfl; exact fun D w1 hw1 => HR _ w1 (int_rows (l := [a, b]) rfl hw1 (by (repeat (first | exact P0 | apply P1))))) | ((with_reducible apply oq_build); (iterate 3 exact rfl)) | ((with_reducible apply oq_buildA); (iterate 4 exact rfl)) | ((with_reducible apply oq_fieldAgg); (iterate 3 exact rfl)) | ((with_reducible apply oq_indexAgg); (iterate 4 exact rfl)))
      | ((with_reducible apply tl_id); first | (with_reducible apply tl_nil) | ((with_reducible apply u_q); (iterate 4 exact rfl)) | ((with_reducible apply u_s0); exact rfl; exact rfl) | ((with_reducible apply u_s); (iterate 3 exact rfl)) | ((with_reducible apply u_skip); (iterate 3 exact rfl)) | ((with_reducible apply u_splitD); exact rfl; exact rfl; all_goals first | (intro hp; try (exfalso; omega)) | skip) | ((with_reducible apply u_splitN); exact rfl; exact rfl; all_goals first | (intro hp; try (exfalso; omega)) | skip) | ((with_reducible apply u_split); exact rfl; exact rfl; all_goals first | intro hp | skip))
      | ((with_reducible apply gx_id); first | (with_reducible apply v_nil) | ((with_reducible apply v_q); (iterate 3 exact rfl)) | ((with_reducible apply v_skip); (iterate 3 exact rfl)) | ((with_reducible apply v_splitD); exact rfl; exact rfl; all_goals first | (intro hp; try (exfalso; omega)) | skip) | ((with_reducible apply v_splitN); exact rfl; exact rfl; all_goals first | (intro hp; try (exfalso; omega)) | skip) | ((with_reducible apply v_split); exact rfl; exact rfl; all_goals first | intro hp | skip))
      | ((with_reducible apply os_id); first | ((with_reducible apply os_x); exact rfl) | ((with_reducible apply os_store); (iterate 4 exact rfl)) | ((with_reducible apply os_storeAgg); (iterate 5 exact rfl)) | ((with_reducible apply os_append (hk := app_ok22)); exact rfl; exact rfl; (repeat (first | exact P0 | apply P1))) | ((with_reducible apply os_appendNil (hk := app_ok22)); exact rfl; exact rfl))
      | ((with_reducible apply ox_id); first | ((with_reducible apply ox_alloc); exact rfl; intro _) | ((with_reducible apply ox_box); exact rfl; exact rfl; intro _) | ((with_reducible apply ox_boxAgg); exact rfl; intro _) | ((with_reducible apply ox_buildSlice1); (iterate 6 exact rfl); intro _) | ((with_reducible apply ox_buildSlice2); (iterate 6 exact rfl); intro _) | ((with_reducible apply ox_buildSlice); (iterate 4 exact rfl)))
      | ((with_reducible apply rd_id); first | (apply Rd.own; (repeat (first | exact P0 | apply P1)); exact rfl; done) | (apply Rd.old; (first | (with_reducible assumption) | exact c0 | exact c1 | exact c2 | exact c3 | exact c4 | exact c5 | exact c6 | exact c7 | exact c8 | exact d0 | exact d1 | exact d2 | exact d3 | exact d4 | exact d5); first | exact List.not_mem_nil | exact m0 | exact m1 | exact m2 | exact m3 | exact m4 | exact m5 | exact m6 | exact m7 | exact m8 | exact m9))
      | ((with_reducible apply t_id); first | (with_reducible apply t_seq) | (apply t_region; kernel_rfl) | (apply t_drawn; kernel_rfl; decide +kernel; try simp only [List.append_eq, List.cons_append, List.nil_append]) | ((with_reducible apply t_condT); exact rfl) | ((with_reducible apply t_condF); exact rfl) | ((with_reducible apply t_condD); exact rfl; all_goals first | (intro hp; try (exfalso; omega)) | skip) | ((with_reducible apply t_condN); exact rfl; all_goals first | (intro hp; try (exfalso; omega)) | skip) | ((with_reducible apply t_cond); exact rfl; all_goals first | intro hp | skip) | (with_reducible apply t_ret) | (with_reducible apply t_skip) | (with_reducible apply t_exit) | (with_reducible apply t_block))
      | with_reducible apply q_thenN
      | with_reducible apply q_thenR
      | with_reducible apply q_blockR
      | with_reducible apply q_blockN
      | with_reducible apply q_thenE
      | ((with_reducible apply q_blockE); exact rfl)
      | ((with_reducible apply q_blockO); exact rfl)
      | exact P0
      | (with_reducible apply P1)
      | exact Rdn.zero
      | apply Rdn.succ
      | ((with_reducible apply Norm.nil); exact rfl)
      | ((with_reducible apply Norm.cons); exact rfl)
      | (with_reducible apply end_ret)
      | (with_reducible apply end_normal)
      | exact rvs_nil
      | (with_reducible apply rvs_cons)
      | ((with_reducible apply rv_tmp); exact rfl)
      | ((with_reducible apply rv_cell); exact rfl; exact rfl)
      | ((with_reducible apply rv_cellAgg); exact rfl; exact rfl)
      | exact Nat.le_of_ble_eq_true rfl
      | exact (rfl : (_ : Bool) = true)
      | omega
      | (intro _ _; with_reducible apply tl_id)
      | (intro _; with_reducible apply tl_id)
      | (intro _ _; with_reducible apply al_id)
      | (intro _; with_reducible apply al_id))
    all_goals exact ⟨_, ⟨none, fun _ => rfl, rfl, rfl⟩, (by (repeat (first | exact HpSub.refl _ | (apply HpSub.consE; (repeat (first | exact P0 | apply P1)); exact rfl) | apply HpSub.skipX | exact HpSub.nil)))⟩
  | @ok w0 n0 x y k h L P hT hw0 hn0 hx0 hy0 xn yn hh hB hD hPt =>
  obtain ⟨W, Hh, rfl, rfl, t, hg⟩ := ter_of hT
  obtain rfl : W = w0 := by omega
  obtain rfl : n = n0 := by omega
  subst hx0 hy0
  rw [hl] at t hg
  rw [hT] at HC
  simp only [if_true] at HC
  have hf : allFrom 0 ((n : Int) - 1) [(x : Int), (y : Int)] = true := allFrom_two.2 (by omega)
  rw [hf] at HR
  have n576 := t.n576
  obtain ⟨bA, oA, _, rfl, _⟩ := in_read hr xn
  have hgy : gr g y ≤ h := hh.is.dst
  have hgl : ∀ i, i < n → w.cell? ⟨bA, oA + i * 1, none⟩ = some (.int .i64 (gr g i)) := fun i hi => by
    obtain ⟨b', o', y, hA, _, hy, hc⟩ := in_read hr hi
    obtain ⟨rfl, rfl⟩ : bA = b' ∧ oA = o' := by simpa using hA
    rw [gr_of hy]; exact hc
  have hxpos : 0 < L.getD x 0 := hD.reach t yn (hh.is.symm t xn)
  refine enterF (c := cx w 109) Try.func8 rfl rfl rfl rfl ?_
  refine t_cut (ι := Nat × Nat) (fun z => [(1, .int .i64 ((x : Nat) : Int)), (2, .int .i64 ((y : Nat) : Int)), (3, .pointer (some ⟨z.1, 0, none⟩)), (6, .pointer (some ⟨z.2, 0, none⟩))]) (fun z => [(z.1, [.int .i64 ((W : Nat) : Int), .int .i64 ((Hh : Nat) : Int), .slice (some ⟨bA, oA, none⟩) n cp], some (24, 3, 1)), (z.2, [.int .i64 0], some (3, 1, 1))]) (fun _ => True) ?_ ?_
  · repeat' (first
      | ((with_reducible apply oq_id); first | (apply oq_fn; exact rfl; try first | exact trivial | (and_intros <;> omega)) | ((with_reducible apply oq_load); exact rfl; exact rfl) | ((with_reducible apply oq_loadAgg); exact rfl; exact rfl) | ((with_reducible apply oq_build); (iterate 3 exact rfl)) | ((with_reducible apply oq_buildA); (iterate 4 exact rfl)) | ((with_reducible apply oq_fieldAgg); (iterate 3 exact rfl)) | ((with_reducible apply oq_indexAgg); (iterate 4 exact rfl)))
      | ((with_reducible apply tl_id); first | (with_reducible apply tl_nil) | ((with_reducible apply u_q); (iterate 4 exact rfl)) | ((with_reducible apply u_s0); exact rfl; exact rfl) | ((with_reducible apply u_s); (iterate 3 exact rfl)) | ((with_reducible apply u_skip); (iterate 3 exact rfl)) | ((with_reducible apply u_splitD); exact rfl; exact rfl; all_goals first | (intro hp; try (exfalso; omega)) | skip) | ((with_reducible apply u_splitN); exact rfl; exact rfl; all_goals first | (intro hp; try (exfalso; omega)) | skip) | ((with_reducible apply u_split); exact rfl; exact rfl; all_goals first | intro hp | skip))
      | ((with_reducible apply gx_id); first | (with_reducible apply v_nil) | ((with_reducible apply v_q); (iterate 3 exact rfl)) | ((with_reducible apply v_skip); (iterate 3 exact rfl)) | ((with_reducible apply v_splitD); exact rfl; exact rfl; all_goals first | (intro hp; try (exfalso; omega)) | skip) | ((with_reducible apply v_splitN); exact rfl; exact rfl; all_goals first | (intro hp; try (exfalso; omega)) | skip) | ((with_reducible apply v_split); exact rfl; exact rfl; all_goals first | intro hp | skip))
      | ((with_reducible apply os_id); first | ((with_reducible apply os_x); exact rfl) | ((with_reducible apply os_store); (iterate 4 exact rfl)) | ((with_reducible apply os_storeAgg); (iterate 5 exact rfl)) | ((with_reducible apply os_append (hk := app_ok22)); exact rfl; exact rfl; (repeat (first | exact P0 | apply P1))) | ((with_reducible apply os_appendNil (hk := app_ok22)); exact rfl; exact rfl))
      | ((with_reducible apply ox_id); first | ((with_reducible apply ox_alloc); exact rfl; intro _) | ((with_reducible apply ox_box); exact rfl; exact rfl; intro _) | ((with_reducible apply ox_boxAgg); exact rfl; intro _) | ((with_reducible apply ox_buildSlice1); (iterate 6 exact rfl); intro _) | ((with_reducible apply ox_buildSlice2); (iterate 6 exact rfl); intro _) | ((with_reducible apply ox_buildSlice); (iterate 4 exact rfl)))
      | ((with_reducible apply rd_id); first | (apply Rd.own; (repeat (first | exact P0 | apply P1)); exact rfl; done) | (apply Rd.old; (first | (with_reducible assumption) | exact c0 | exact c1 | exact c2 | exact c3 | exact c4 | exact c5 | exact c6 | exact c7 | exact c8 | exact d0 | exact d1 | exact d2 | exact d3 | exact d4 | exact d5); first | exact List.not_mem_nil | exact m0 | exact m1 | exact m2 | exact m3 | exact m4 | exact m5 | exact m6 | exact m7 | exact m8 | exact m9))
      | ((with_reducible apply t_id); first | (with_reducible apply t_seq) | (apply t_region; kernel_rfl) | (apply t_drawn; kernel_rfl; decide +kernel; try simp only [List.append_eq, List.cons_append, List.nil_append]) | ((with_reducible apply t_condT); exact rfl) | ((with_reducible apply t_condF); exact rfl) | ((with_reducible apply t_condD); exact rfl; all_goals first | (intro hp; try (exfalso; omega)) | skip) | ((with_reducible apply t_condN); exact rfl; all_goals first | (intro hp; try (exfalso; omega)) | skip) | ((with_reducible apply t_cond); exact rfl; all_goals first | intro hp | skip) | (with_reducible apply t_ret) | (with_reducible apply t_skip) | (with_reducible apply t_exit) | (with_reducible apply t_block))
      | with_reducible apply q_thenN
      | with_reducible apply q_thenR
      | with_reducible apply q_blockR
      | with_reducible apply q_blockN
      | with_reducible apply q_thenE
      | ((with_reducible apply q_blockE); exact rfl)
      | ((with_reducible apply q_blockO); exact rfl)
      | exact P0
      | (with_reducible apply P1)
      | exact Rdn.zero
      | apply Rdn.succ
      | ((with_reducible apply Norm.nil); exact rfl)
      | ((with_reducible apply Norm.cons); exact rfl)
      | (with_reducible apply end_ret)
      | (with_reducible apply end_normal)
      | exact rvs_nil
      | (with_reducible apply rvs_cons)
      | ((with_reducible apply rv_tmp); exact rfl)
      | ((with_reducible apply rv_cell); exact rfl; exact rfl)
      | ((with_reducible apply rv_cellAgg); exact rfl; exact rfl)
      | exact Nat.le_of_ble_eq_true rfl
      | exact (rfl : (_ : Bool) = true)
      | omega
      | (intro _ _; with_reducible apply tl_id)
      | (intro _; with_reducible apply tl_id)
      | (intro _ _; with_reducible apply al_id)
      | (intro _; with_reducible apply al_id))
    all_goals (rename_i bX bY; exact ⟨rfl, (bX, bY), trivial, by (repeat (first | exact FrSub.nil | (apply FrSub.cons; exact rfl))), by (repeat (first | exact HpSub.refl _ | (apply HpSub.consE; (repeat (first | exact P0 | apply P1)); exact rfl) | exact HpSub.nil))⟩)
  rintro ⟨b3, b6⟩ -
  try dsimp only
  refine t_cut (ι := Unit) (fun _ => [(1, .int .i64 ((x : Nat) : Int)), (2, .int .i64 ((y : Nat) : Int)), (3, .pointer (some ⟨b3, 0, none⟩)), (6, .pointer (some ⟨b6, 0, none⟩))]) (fun _ => [(b3, [.int .i64 ((W : Nat) : Int), .int .i64 ((Hh : Nat) : Int), .slice (some ⟨bA, oA, none⟩) n cp], some (24, 3, 1)), (b6, [.int .i64 0], some (3, 1, 1))]) (fun _ => True) ?_ ?_
  · repeat' (first
      | ((with_reducible apply oq_id); first | ((with_reducible apply oq_neqT); exact rfl; exact rfl; omega) | ((with_reducible apply oq_neqF); exact rfl; exact rfl; omega) | (apply oq_fn; exact rfl; try first | exact trivial | (and_intros <;> omega)) | ((with_reducible apply oq_load); exact rfl; exact rfl) | ((with_reducible apply oq_loadAgg); exact rfl; exact rfl) | ((with_reducible apply oq_call (k := 10) (hc := Try.call10)); exact rfl; exact rfl; exact fun D w1 hw1 => HC w1 (hr.ext hw1.ext.ext)) | ((with_reducible apply oq_build); (iterate 3 exact rfl)) | ((with_reducible apply oq_buildA); (iterate 4 exact rfl)) | ((with_reducible apply oq_fieldAgg); (iterate 3 exact rfl)) | ((with_reducible apply oq_indexAgg); (iterate 4 exact rfl)))
      | ((with_reducible apply tl_id); first | (with_reducible apply tl_nil) | ((with_reducible apply u_q); (iterate 4 exact rfl)) | ((with_reducible apply u_s0); exact rfl; exact rfl) | ((with_reducible apply u_s); (iterate 3 exact rfl)) | ((with_reducible apply u_skip); (iterate 3 exact rfl)) | ((with_reducible apply u_splitD); exact rfl; exact rfl; all_goals first | (intro hp; try (exfalso; omega)) | skip) | ((with_reducible apply u_splitN); exact rfl; exact rfl; all_goals first | (intro hp; try (exfalso; omega)) | skip) | ((with_reducible apply u_split); exact rfl; exact rfl; all_goals first | intro hp | skip))
      | ((with_reducible apply gx_id); first | (with_reducible apply v_nil) | ((with_reducible apply v_q); (iterate 3 exact rfl)) | ((with_reducible apply v_skip); (iterate 3 exact rfl)) | ((with_reducible apply v_splitD); exact rfl; exact rfl; all_goals first | (intro hp; try (exfalso; omega)) | skip) | ((with_reducible apply v_splitN); exact rfl; exact rfl; all_goals first | (intro hp; try (exfalso; omega)) | skip) | ((with_reducible apply v_split); exact rfl; exact rfl; all_goals first | intro hp | skip))
      | ((with_reducible apply os_id); first | ((with_reducible apply os_x); exact rfl) | ((with_reducible apply os_store); (iterate 4 exact rfl)) | ((with_reducible apply os_storeAgg); (iterate 5 exact rfl)) | ((with_reducible apply os_append (hk := app_ok22)); exact rfl; exact rfl; (repeat (first | exact P0 | apply P1))) | ((with_reducible apply os_appendNil (hk := app_ok22)); exact rfl; exact rfl))
      | ((with_reducible apply ox_id); first | ((with_reducible apply ox_alloc); exact rfl; intro _) | ((with_reducible apply ox_box); exact rfl; exact rfl; intro _) | ((with_reducible apply ox_boxAgg); exact rfl; intro _) | ((with_reducible apply ox_buildSlice1); (iterate 6 exact rfl); intro _) | ((with_reducible apply ox_buildSlice2); (iterate 6 exact rfl); intro _) | ((with_reducible apply ox_buildSlice); (iterate 4 exact rfl)))
      | ((with_reducible apply rd_id); first | (apply Rd.own; (repeat (first | exact P0 | apply P1)); exact rfl; done) | (apply Rd.old; (first | (with_reducible assumption) | exact c0 | exact c1 | exact c2 | exact c3 | exact c4 | exact c5 | exact c6 | exact c7 | exact c8 | exact d0 | exact d1 | exact d2 | exact d3 | exact d4 | exact d5); first | exact List.not_mem_nil | exact m0 | exact m1 | exact m2 | exact m3 | exact m4 | exact m5 | exact m6 | exact m7 | exact m8 | exact m9))
      | ((with_reducible apply t_id); first | (with_reducible apply t_seq) | (apply t_region; kernel_rfl) | (apply t_drawn; kernel_rfl; decide +kernel; try simp only [List.append_eq, List.cons_append, List.nil_append]) | ((with_reducible apply t_condT); exact rfl) | ((with_reducible apply t_condF); exact rfl) | ((with_reducible apply t_condD); exact rfl; all_goals first | (intro hp; try (exfalso; omega)) | skip) | ((with_reducible apply t_condN); exact rfl; all_goals first | (intro hp; try (exfalso; omega)) | skip) | ((with_reducible apply t_cond); exact rfl; all_goals first | intro hp | skip) | (with_reducible apply t_ret) | (with_reducible apply t_skip) | (with_reducible apply t_exit) | (with_reducible apply t_block))
      | with_reducible apply q_thenN
      | with_reducible apply q_thenR
      | with_reducible apply q_blockR
      | with_reducible apply q_blockN
      | with_reducible apply q_thenE
      | ((with_reducible apply q_blockE); exact rfl)
      | ((with_reducible apply q_blockO); exact rfl)
      | exact P0
      | (with_reducible apply P1)
      | exact Rdn.zero
      | apply Rdn.succ
      | ((with_reducible apply Norm.nil); exact rfl)
      | ((with_reducible apply Norm.cons); exact rfl)
      | (with_reducible apply end_ret)
      | (with_reducible apply end_normal)
      | exact rvs_nil
      | (with_reducible apply rvs_cons)
      | ((with_reducible apply rv_tmp); exact rfl)
      | ((with_reducible apply rv_cell); exact rfl; exact rfl)
      | ((with_reducible apply rv_cellAgg); exact rfl; exact rfl)
      | exact Nat.le_of_ble_eq_true rfl
      | exact (rfl : (_ : Bool) = true)
      | omega
      | (intro _ _; with_reducible apply tl_id)
      | (intro _; with_reducible apply tl_id)
      | (intro _ _; with_reducible apply al_id)
      | (intro _; with_reducible apply al_id))
    all_goals exact ⟨(by first | rfl | trivial), (), trivial, by (repeat' (first | exact FrSub.nil | (apply FrSub.cons; exact rfl) | (apply FrSub.consE; exact rfl; first | (focus (simp [sI, cI, qS]; done)) | skip) | exact HpSub.refl _ | (apply HpSub.consE; (repeat (first | exact P0 | apply P1)); first | exact rfl | (focus (simp [iv, cI]; done))) | apply HpSub.skipX | exact HpSub.nil)), by (repeat' (first | exact FrSub.nil | (apply FrSub.cons; exact rfl) | (apply FrSub.consE; exact rfl; first | (focus (simp [sI, cI, qS]; done)) | skip) | exact HpSub.refl _ | (apply HpSub.consE; (repeat (first | exact P0 | apply P1)); first | exact rfl | (focus (simp [iv, cI]; done))) | apply HpSub.skipX | exact HpSub.nil))⟩
  rintro ⟨⟩ -
  try dsimp only
  refine t_cut (ι := Unit) (fun _ => [(1, .int .i64 ((x : Nat) : Int)), (2, .int .i64 ((y : Nat) : Int)), (3, .pointer (some ⟨b3, 0, none⟩)), (6, .pointer (some ⟨b6, 0, none⟩))]) (fun _ => [(b3, [.int .i64 ((W : Nat) : Int), .int .i64 ((Hh : Nat) : Int), .slice (some ⟨bA, oA, none⟩) n cp], some (24, 3, 1)), (b6, [.int .i64 0], some (3, 1, 1))]) (fun _ => True) ?_ ?_
  · repeat' (first
      | ((with_reducible apply oq_id); first | (apply oq_fn; exact rfl; try first | exact trivial | (and_intros <;> omega)) | ((with_reducible apply oq_load); exact rfl; exact rfl) | ((with_reducible apply oq_loadAgg); exact rfl; exact rfl) | ((with_reducible apply oq_call (k := 45) (hc := Try.call45)); exact rfl; exact rfl; exact fun D w1 hw1 => HR _ w1 (int_rows (l := [(x : Int), (y : Int)]) rfl hw1 (by (repeat (first | exact P0 | apply P1))))) | ((with_reducible apply oq_build); (iterate 3 exact rfl)) | ((with_reducible apply oq_buildA); (iterate 4 exact rfl)) | ((with_reducible apply oq_fieldAgg); (iterate 3 exact rfl)) | ((with_reducible apply oq_indexAgg); (iterate 4 exact rfl)))
      | ((with_reducible apply tl_id); first | (with_reducible apply tl_nil) | ((with_reducible apply u_q); (iterate 4 exact rfl)) | ((with_reducible apply u_s0); exact rfl; exact rfl) | ((with_reducible apply u_s); (iterate 3 exact rfl)) | ((with_reducible apply u_skip); (iterate 3 exact rfl)) | ((with_reducible apply u_splitD); exact rfl; exact rfl; all_goals first | (intro hp; try (exfalso; omega)) | skip) | ((with_reducible apply u_splitN); exact rfl; exact rfl; all_goals first | (intro hp; try (exfalso; omega)) | skip) | ((with_reducible apply u_split); exact rfl; exact rfl; all_goals first | intro hp | skip))
      | ((with_reducible apply gx_id); first | (with_reducible apply v_nil) | ((with_reducible apply v_q); (iterate 3 exact rfl)) | ((with_reducible apply v_skip); (iterate 3 exact rfl)) | ((with_reducible apply v_splitD); exact rfl; exact rfl; all_goals first | (intro hp; try (exfalso; omega)) | skip) | ((with_reducible apply v_splitN); exact rfl; exact rfl; all_goals first | (intro hp; try (exfalso; omega)) | skip) | ((with_reducible apply v_split); exact rfl; exact rfl; all_goals first | intro hp | skip))
      | ((with_reducible apply os_id); first | ((with_reducible apply os_x); exact rfl) | ((with_reducible apply os_store); (iterate 4 exact rfl)) | ((with_reducible apply os_storeAgg); (iterate 5 exact rfl)) | ((with_reducible apply os_append (hk := app_ok22)); exact rfl; exact rfl; (repeat (first | exact P0 | apply P1))) | ((with_reducible apply os_appendNil (hk := app_ok22)); exact rfl; exact rfl))
      | ((with_reducible apply ox_id); first | ((with_reducible apply ox_alloc); exact rfl; intro _) | ((with_reducible apply ox_box); exact rfl; exact rfl; intro _) | ((with_reducible apply ox_boxAgg); exact rfl; intro _) | ((with_reducible apply ox_buildSlice1); (iterate 6 exact rfl); intro _) | ((with_reducible apply ox_buildSlice2); (iterate 6 exact rfl); intro _) | ((with_reducible apply ox_buildSlice); (iterate 4 exact rfl)))
      | ((with_reducible apply rd_id); first | (apply Rd.own; (repeat (first | exact P0 | apply P1)); exact rfl; done) | (apply Rd.old; (first | (with_reducible assumption) | exact c0 | exact c1 | exact c2 | exact c3 | exact c4 | exact c5 | exact c6 | exact c7 | exact c8 | exact d0 | exact d1 | exact d2 | exact d3 | exact d4 | exact d5); first | exact List.not_mem_nil | exact m0 | exact m1 | exact m2 | exact m3 | exact m4 | exact m5 | exact m6 | exact m7 | exact m8 | exact m9))
      | ((with_reducible apply t_id); first | (with_reducible apply t_seq) | (apply t_region; kernel_rfl) | (apply t_drawn; kernel_rfl; decide +kernel; try simp only [List.append_eq, List.cons_append, List.nil_append]) | ((with_reducible apply t_condT); exact rfl) | ((with_reducible apply t_condF); exact rfl) | ((with_reducible apply t_condD); exact rfl; all_goals first | (intro hp; try (exfalso; omega)) | skip) | ((with_reducible apply t_condN); exact rfl; all_goals first | (intro hp; try (exfalso; omega)) | skip) | ((with_reducible apply t_cond); exact rfl; all_goals first | intro hp | skip) | (with_reducible apply t_ret) | (with_reducible apply t_skip) | (with_reducible apply t_exit) | (with_reducible apply t_block))
      | with_reducible apply q_thenN
      | with_reducible apply q_thenR
      | with_reducible apply q_blockR
      | with_reducible apply q_blockN
      | with_reducible apply q_thenE
      | ((with_reducible apply q_blockE); exact rfl)
      | ((with_reducible apply q_blockO); exact rfl)
      | exact P0
      | (with_reducible apply P1)
      | exact Rdn.zero
      | apply Rdn.succ
      | ((with_reducible apply Norm.nil); exact rfl)
      | ((with_reducible apply Norm.cons); exact rfl)
      | (with_reducible apply end_ret)
      | (with_reducible apply end_normal)
      | exact rvs_nil
      | (with_reducible apply rvs_cons)
      | ((with_reducible apply rv_tmp); exact rfl)
      | ((with_reducible apply rv_cell); exact rfl; exact rfl)
      | ((with_reducible apply rv_cellAgg); exact rfl; exact rfl)
      | exact Nat.le_of_ble_eq_true rfl
      | exact (rfl : (_ : Bool) = true)
      | omega
      | (intro _ _; with_reducible apply tl_id)
      | (intro _; with_reducible apply tl_id)
      | (intro _ _; with_reducible apply al_id)
      | (intro _; with_reducible apply al_id))
    all_goals exact ⟨(by first | rfl | trivial), (), trivial, by (repeat' (first | exact FrSub.nil | (apply FrSub.cons; exact rfl) | (apply FrSub.consE; exact rfl; first | (focus (simp [sI, cI, qS]; done)) | skip) | exact HpSub.refl _ | (apply HpSub.consE; (repeat (first | exact P0 | apply P1)); first | exact rfl | (focus (simp [iv, cI]; done))) | apply HpSub.skipX | exact HpSub.nil)), by (repeat' (first | exact FrSub.nil | (apply FrSub.cons; exact rfl) | (apply FrSub.consE; exact rfl; first | (focus (simp [sI, cI, qS]; done)) | skip) | exact HpSub.refl _ | (apply HpSub.consE; (repeat (first | exact P0 | apply P1)); first | exact rfl | (focus (simp [iv, cI]; done))) | apply HpSub.skipX | exact HpSub.nil))⟩
  rintro ⟨⟩ -
  try dsimp only
  refine t_cut (ι := Unit) (fun _ => [(1, .int .i64 ((x : Nat) : Int)), (2, .int .i64 ((y : Nat) : Int)), (3, .pointer (some ⟨b3, 0, none⟩)), (6, .pointer (some ⟨b6, 0, none⟩))]) (fun _ => [(b3, [.int .i64 ((W : Nat) : Int), .int .i64 ((Hh : Nat) : Int), .slice (some ⟨bA, oA, none⟩) n cp], some (24, 3, 1)), (b6, [.int .i64 h], some (3, 1, 1))]) (fun _ => True) ?_ ?_
  · repeat' (first
      | ((with_reducible apply oq_id); first | (apply oq_fn; exact rfl; try first | exact trivial | (and_intros <;> omega)) | ((with_reducible apply oq_load); exact rfl; exact rfl) | ((with_reducible apply oq_loadAgg); exact rfl; exact rfl) | ((with_reducible apply oq_call (k := 46) (hc := Try.call46)); exact rfl; exact rfl; exact fun D w1 hw1 => lowest_calls bA oA cp W Hh n x y g h t xn yn hh w1 (hr.ext hw1.ext.ext)) | ((with_reducible apply oq_build); (iterate 3 exact rfl)) | ((with_reducible apply oq_buildA); (iterate 4 exact rfl)) | ((with_reducible apply oq_fieldAgg); (iterate 3 exact rfl)) | ((with_reducible apply oq_indexAgg); (iterate 4 exact rfl)))
      | ((with_reducible apply tl_id); first | (with_reducible apply tl_nil) | ((with_reducible apply u_q); (iterate 4 exact rfl)) | ((with_reducible apply u_s0); exact rfl; exact rfl) | ((with_reducible apply u_s); (iterate 3 exact rfl)) | ((with_reducible apply u_skip); (iterate 3 exact rfl)) | ((with_reducible apply u_splitD); exact rfl; exact rfl; all_goals first | (intro hp; try (exfalso; omega)) | skip) | ((with_reducible apply u_splitN); exact rfl; exact rfl; all_goals first | (intro hp; try (exfalso; omega)) | skip) | ((with_reducible apply u_split); exact rfl; exact rfl; all_goals first | intro hp | skip))
      | ((with_reducible apply gx_id); first | (with_reducible apply v_nil) | ((with_reducible apply v_q); (iterate 3 exact rfl)) | ((with_reducible apply v_skip); (iterate 3 exact rfl)) | ((with_reducible apply v_splitD); exact rfl; exact rfl; all_goals first | (intro hp; try (exfalso; omega)) | skip) | ((with_reducible apply v_splitN); exact rfl; exact rfl; all_goals first | (intro hp; try (exfalso; omega)) | skip) | ((with_reducible apply v_split); exact rfl; exact rfl; all_goals first | intro hp | skip))
      | ((with_reducible apply os_id); first | ((with_reducible apply os_x); exact rfl) | ((with_reducible apply os_store); (iterate 4 exact rfl)) | ((with_reducible apply os_storeAgg); (iterate 5 exact rfl)) | ((with_reducible apply os_append (hk := app_ok22)); exact rfl; exact rfl; (repeat (first | exact P0 | apply P1))) | ((with_reducible apply os_appendNil (hk := app_ok22)); exact rfl; exact rfl))
      | ((with_reducible apply ox_id); first | ((with_reducible apply ox_alloc); exact rfl; intro _) | ((with_reducible apply ox_box); exact rfl; exact rfl; intro _) | ((with_reducible apply ox_boxAgg); exact rfl; intro _) | ((with_reducible apply ox_buildSlice1); (iterate 6 exact rfl); intro _) | ((with_reducible apply ox_buildSlice2); (iterate 6 exact rfl); intro _) | ((with_reducible apply ox_buildSlice); (iterate 4 exact rfl)))
      | ((with_reducible apply rd_id); first | (apply Rd.own; (repeat (first | exact P0 | apply P1)); exact rfl; done) | (apply Rd.old; (first | (with_reducible assumption) | exact c0 | exact c1 | exact c2 | exact c3 | exact c4 | exact c5 | exact c6 | exact c7 | exact c8 | exact d0 | exact d1 | exact d2 | exact d3 | exact d4 | exact d5); first | exact List.not_mem_nil | exact m0 | exact m1 | exact m2 | exact m3 | exact m4 | exact m5 | exact m6 | exact m7 | exact m8 | exact m9))
      | ((with_reducible apply t_id); first | (with_reducible apply t_seq) | (apply t_region; kernel_rfl) | (apply t_drawn; kernel_rfl; decide +kernel; try simp only [List.append_eq, List.cons_append, List.nil_append]) | ((with_reducible apply t_condT); exact rfl) | ((with_reducible apply t_condF); exact rfl) | ((with_reducible apply t_condD); exact rfl; all_goals first | (intro hp; try (exfalso; omega)) | skip) | ((with_reducible apply t_condN); exact rfl; all_goals first | (intro hp; try (exfalso; omega)) | skip) | ((with_reducible apply t_cond); exact rfl; all_goals first | intro hp | skip) | (with_reducible apply t_ret) | (with_reducible apply t_skip) | (with_reducible apply t_exit) | (with_reducible apply t_block))
      | with_reducible apply q_thenN
      | with_reducible apply q_thenR
      | with_reducible apply q_blockR
      | with_reducible apply q_blockN
      | with_reducible apply q_thenE
      | ((with_reducible apply q_blockE); exact rfl)
      | ((with_reducible apply q_blockO); exact rfl)
      | exact P0
      | (with_reducible apply P1)
      | exact Rdn.zero
      | apply Rdn.succ
      | ((with_reducible apply Norm.nil); exact rfl)
      | ((with_reducible apply Norm.cons); exact rfl)
      | (with_reducible apply end_ret)
      | (with_reducible apply end_normal)
      | exact rvs_nil
      | (with_reducible apply rvs_cons)
      | ((with_reducible apply rv_tmp); exact rfl)
      | ((with_reducible apply rv_cell); exact rfl; exact rfl)
      | ((with_reducible apply rv_cellAgg); exact rfl; exact rfl)
      | exact Nat.le_of_ble_eq_true rfl
      | exact (rfl : (_ : Bool) = true)
      | omega
      | (intro _ _; with_reducible apply tl_id)
      | (intro _; with_reducible apply tl_id)
      | (intro _ _; with_reducible apply al_id)
      | (intro _; with_reducible apply al_id))
    all_goals exact ⟨(by first | rfl | trivial), (), trivial, by (repeat' (first | exact FrSub.nil | (apply FrSub.cons; exact rfl) | (apply FrSub.consE; exact rfl; first | (focus (simp [sI, cI, qS]; done)) | skip) | exact HpSub.refl _ | (apply HpSub.consE; (repeat (first | exact P0 | apply P1)); first | exact rfl | (focus (simp [iv, cI]; done))) | apply HpSub.skipX | exact HpSub.nil)), by (repeat' (first | exact FrSub.nil | (apply FrSub.cons; exact rfl) | (apply FrSub.consE; exact rfl; first | (focus (simp [sI, cI, qS]; done)) | skip) | exact HpSub.refl _ | (apply HpSub.consE; (repeat (first | exact P0 | apply P1)); first | exact rfl | (focus (simp [iv, cI]; done))) | apply HpSub.skipX | exact HpSub.nil))⟩
  rintro ⟨⟩ -
  try dsimp only
  refine t_cut (ι := Nat × Nat) (fun z => [(1, .int .i64 ((x : Nat) : Int)), (2, .int .i64 ((y : Nat) : Int)), (3, .pointer (some ⟨b3, 0, none⟩)), (6, .pointer (some ⟨b6, 0, none⟩)), (10, .pointer (some ⟨z.1, 0, none⟩))]) (fun z => [(b3, [.int .i64 ((W : Nat) : Int), .int .i64 ((Hh : Nat) : Int), .slice (some ⟨bA, oA, none⟩) n cp], some (24, 3, 1)), (b6, [.int .i64 h], some (3, 1, 1)), (z.1, [.slice (some ⟨z.2, 0, none⟩) n n], some (22, 1, 1)), (z.2, (cI (List.replicate n 0)).map iv, some (3, 1, n))]) (fun _ => True) ?_ ?_
  · repeat' (first
      | ((with_reducible apply oq_id); first | (apply oq_fn; exact rfl; try first | exact trivial | (and_intros <;> omega)) | ((with_reducible apply oq_load); exact rfl; exact rfl) | ((with_reducible apply oq_loadAgg); exact rfl; exact rfl) | ((with_reducible apply oq_build); (iterate 3 exact rfl)) | ((with_reducible apply oq_buildA); (iterate 4 exact rfl)) | ((with_reducible apply oq_fieldAgg); (iterate 3 exact rfl)) | ((with_reducible apply oq_indexAgg); (iterate 4 exact rfl)))
      | ((with_reducible apply tl_id); first | (with_reducible apply tl_nil) | ((with_reducible apply u_q); (iterate 4 exact rfl)) | ((with_reducible apply u_s0); exact rfl; exact rfl) | ((with_reducible apply u_s); (iterate 3 exact rfl)) | ((with_reducible apply u_skip); (iterate 3 exact rfl)) | ((with_reducible apply u_splitD); exact rfl; exact rfl; all_goals first | (intro hp; try (exfalso; omega)) | skip) | ((with_reducible apply u_splitN); exact rfl; exact rfl; all_goals first | (intro hp; try (exfalso; omega)) | skip) | ((with_reducible apply u_split); exact rfl; exact rfl; all_goals first | intro hp | skip))
      | ((with_reducible apply gx_id); first | (with_reducible apply v_nil) | ((with_reducible apply v_q); (iterate 3 exact rfl)) | ((with_reducible apply v_skip); (iterate 3 exact rfl)) | ((with_reducible apply v_splitD); exact rfl; exact rfl; all_goals first | (intro hp; try (exfalso; omega)) | skip) | ((with_reducible apply v_splitN); exact rfl; exact rfl; all_goals first | (intro hp; try (exfalso; omega)) | skip) | ((with_reducible apply v_split); exact rfl; exact rfl; all_goals first | intro hp | skip))
      | ((with_reducible apply os_id); first | ((with_reducible apply os_makeI (hk := app_ok22) (hz := zero3)); exact rfl; exact rfl; omega; (unfold maxLen; omega); intro _) | ((with_reducible apply os_x); exact rfl) | ((with_reducible apply os_store); (iterate 4 exact rfl)) | ((with_reducible apply os_storeAgg); (iterate 5 exact rfl)) | ((with_reducible apply os_append (hk := app_ok22)); exact rfl; exact rfl; (repeat (first | exact P0 | apply P1))) | ((with_reducible apply os_appendNil (hk := app_ok22)); exact rfl; exact rfl))
      | ((with_reducible apply ox_id); first | ((with_reducible apply ox_alloc); exact rfl; intro _) | ((with_reducible apply ox_box); exact rfl; exact rfl; intro _) | ((with_reducible apply ox_boxAgg); exact rfl; intro _) | ((with_reducible apply ox_buildSlice1); (iterate 6 exact rfl); intro _) | ((with_reducible apply ox_buildSlice2); (iterate 6 exact rfl); intro _) | ((with_reducible apply ox_buildSlice); (iterate 4 exact rfl)))
      | ((with_reducible apply rd_id); first | (apply Rd.own; (repeat (first | exact P0 | apply P1)); exact rfl; done) | (apply Rd.old; (first | (with_reducible assumption) | exact c0 | exact c1 | exact c2 | exact c3 | exact c4 | exact c5 | exact c6 | exact c7 | exact c8 | exact d0 | exact d1 | exact d2 | exact d3 | exact d4 | exact d5); first | exact List.not_mem_nil | exact m0 | exact m1 | exact m2 | exact m3 | exact m4 | exact m5 | exact m6 | exact m7 | exact m8 | exact m9))
      | ((with_reducible apply t_id); first | (with_reducible apply t_seq) | (apply t_region; kernel_rfl) | (apply t_drawn; kernel_rfl; decide +kernel; try simp only [List.append_eq, List.cons_append, List.nil_append]) | ((with_reducible apply t_condT); exact rfl) | ((with_reducible apply t_condF); exact rfl) | ((with_reducible apply t_condD); exact rfl; all_goals first | (intro hp; try (exfalso; omega)) | skip) | ((with_reducible apply t_condN); exact rfl; all_goals first | (intro hp; try (exfalso; omega)) | skip) | ((with_reducible apply t_cond); exact rfl; all_goals first | intro hp | skip) | (with_reducible apply t_ret) | (with_reducible apply t_skip) | (with_reducible apply t_exit) | (with_reducible apply t_block))
      | with_reducible apply q_thenN
      | with_reducible apply q_thenR
      | with_reducible apply q_blockR
      | with_reducible apply q_blockN
      | with_reducible apply q_thenE
      | ((with_reducible apply q_blockE); exact rfl)
      | ((with_reducible apply q_blockO); exact rfl)
      | exact P0
      | (with_reducible apply P1)
      | exact Rdn.zero
      | apply Rdn.succ
      | ((with_reducible apply Norm.nil); exact rfl)
      | ((with_reducible apply Norm.cons); exact rfl)
      | (with_reducible apply end_ret)
      | (with_reducible apply end_normal)
      | exact rvs_nil
      | (with_reducible apply rvs_cons)
      | ((with_reducible apply rv_tmp); exact rfl)
      | ((with_reducible apply rv_cell); exact rfl; exact rfl)
      | ((with_reducible apply rv_cellAgg); exact rfl; exact rfl)
      | exact Nat.le_of_ble_eq_true rfl
      | exact (rfl : (_ : Bool) = true)
      | omega
      | (intro _ _; with_reducible apply tl_id)
      | (intro _; with_reducible apply tl_id)
      | (intro _ _; with_reducible apply al_id)
      | (intro _; with_reducible apply al_id))
    all_goals (rename_i bX bY; exact ⟨rfl, (bY, bX), trivial, by (repeat (first | exact FrSub.nil | (apply FrSub.cons; exact rfl))), by (repeat (first | exact HpSub.refl _ | (apply HpSub.consE; (repeat (first | exact P0 | apply P1)); first | exact rfl | ((simp [cI, iv]))) | exact HpSub.nil))⟩)
  rintro ⟨bL, bl⟩ -
  try dsimp only
  have hyl : y < (cI (List.replicate n 0)).length := by rw [cI_len]; simpa using yn
  have hst : (cI (List.replicate n 0)).set y 1 = cI ((List.replicate n 0).set y 1) := cI_set _ y 1
  refine t_cut (ι := Unit) (fun _ => [(1, .int .i64 ((x : Nat) : Int)), (2, .int .i64 ((y : Nat) : Int)), (3, .pointer (some ⟨b3, 0, none⟩)), (6, .pointer (some ⟨b6, 0, none⟩)), (10, .pointer (some ⟨bL, 0, none⟩))]) (fun _ => [(b3, [.int .i64 ((W : Nat) : Int), .int .i64 ((Hh : Nat) : Int), .slice (some ⟨bA, oA, none⟩) n cp], some (24, 3, 1)), (b6, [.int .i64 h], some (3, 1, 1)), (bL, [.slice (some ⟨bl, 0, none⟩) n n], some (22, 1, 1)), (bl, (cI ((List.replicate n 0).set y 1)).map iv, some (3, 1, n))]) (fun _ => True) ?_ ?_
  · repeat' (first
      | ((with_reducible apply oq_id); first | (focus ((with_reducible apply oq_indexAddrN); (iterate 4 exact rfl); omega)) | (apply oq_fn; exact rfl; try first | exact trivial | (and_intros <;> omega)) | ((with_reducible apply oq_load); exact rfl; exact rfl) | ((with_reducible apply oq_loadAgg); exact rfl; exact rfl) | ((with_reducible apply oq_build); (iterate 3 exact rfl)) | ((with_reducible apply oq_buildA); (iterate 4 exact rfl)) | ((with_reducible apply oq_fieldAgg); (iterate 3 exact rfl)) | ((with_reducible apply oq_indexAgg); (iterate 4 exact rfl)))
      | ((with_reducible apply tl_id); first | (with_reducible apply tl_nil) | ((with_reducible apply u_q); (iterate 4 exact rfl)) | ((with_reducible apply u_s0); exact rfl; exact rfl) | ((with_reducible apply u_s); (iterate 3 exact rfl)) | ((with_reducible apply u_skip); (iterate 3 exact rfl)) | ((with_reducible apply u_splitD); exact rfl; exact rfl; all_goals first | (intro hp; try (exfalso; omega)) | skip) | ((with_reducible apply u_splitN); exact rfl; exact rfl; all_goals first | (intro hp; try (exfalso; omega)) | skip) | ((with_reducible apply u_split); exact rfl; exact rfl; all_goals first | intro hp | skip))
      | ((with_reducible apply gx_id); first | (with_reducible apply v_nil) | ((with_reducible apply v_q); (iterate 3 exact rfl)) | ((with_reducible apply v_skip); (iterate 3 exact rfl)) | ((with_reducible apply v_splitD); exact rfl; exact rfl; all_goals first | (intro hp; try (exfalso; omega)) | skip) | ((with_reducible apply v_splitN); exact rfl; exact rfl; all_goals first | (intro hp; try (exfalso; omega)) | skip) | ((with_reducible apply v_split); exact rfl; exact rfl; all_goals first | intro hp | skip))
      | ((with_reducible apply os_id); first | ((with_reducible apply (os_storeI hyl)); (iterate 3 exact rfl); (repeat (first | exact P0 | apply P1)); rw [hst]) | ((with_reducible apply os_x); exact rfl) | ((with_reducible apply os_store); (iterate 4 exact rfl)) | ((with_reducible apply os_storeAgg); (iterate 5 exact rfl)) | ((with_reducible apply os_append (hk := app_ok22)); exact rfl; exact rfl; (repeat (first | exact P0 | apply P1))) | ((with_reducible apply os_appendNil (hk := app_ok22)); exact rfl; exact rfl))
      | ((with_reducible apply ox_id); first | ((with_reducible apply ox_alloc); exact rfl; intro _) | ((with_reducible apply ox_box); exact rfl; exact rfl; intro _) | ((with_reducible apply ox_boxAgg); exact rfl; intro _) | ((with_reducible apply ox_buildSlice1); (iterate 6 exact rfl); intro _) | ((with_reducible apply ox_buildSlice2); (iterate 6 exact rfl); intro _) | ((with_reducible apply ox_buildSlice); (iterate 4 exact rfl)))
      | ((with_reducible apply rd_id); first | (apply Rd.own; (repeat (first | exact P0 | apply P1)); exact rfl; done) | (apply Rd.old; (first | (with_reducible assumption) | exact c0 | exact c1 | exact c2 | exact c3 | exact c4 | exact c5 | exact c6 | exact c7 | exact c8 | exact d0 | exact d1 | exact d2 | exact d3 | exact d4 | exact d5); first | exact List.not_mem_nil | exact m0 | exact m1 | exact m2 | exact m3 | exact m4 | exact m5 | exact m6 | exact m7 | exact m8 | exact m9))
      | ((with_reducible apply t_id); first | (with_reducible apply t_seq) | (apply t_region; kernel_rfl) | (apply t_drawn; kernel_rfl; decide +kernel; try simp only [List.append_eq, List.cons_append, List.nil_append]) | ((with_reducible apply t_condT); exact rfl) | ((with_reducible apply t_condF); exact rfl) | ((with_reducible apply t_condD); exact rfl; all_goals first | (intro hp; try (exfalso; omega)) | skip) | ((with_reducible apply t_condN); exact rfl; all_goals first | (intro hp; try (exfalso; omega)) | skip) | ((with_reducible apply t_cond); exact rfl; all_goals first | intro hp | skip) | (with_reducible apply t_ret) | (with_reducible apply t_skip) | (with_reducible apply t_exit) | (with_reducible apply t_block))
      | with_reducible apply q_thenN
      | with_reducible apply q_thenR
      | with_reducible apply q_blockR
      | with_reducible apply q_blockN
      | with_reducible apply q_thenE
      | ((with_reducible apply q_blockE); exact rfl)
      | ((with_reducible apply q_blockO); exact rfl)
      | exact P0
      | (with_reducible apply P1)
      | exact Rdn.zero
      | apply Rdn.succ
      | ((with_reducible apply Norm.nil); exact rfl)
      | ((with_reducible apply Norm.cons); exact rfl)
      | (with_reducible apply end_ret)
      | (with_reducible apply end_normal)
      | exact rvs_nil
      | (with_reducible apply rvs_cons)
      | ((with_reducible apply rv_tmp); exact rfl)
      | ((with_reducible apply rv_cell); exact rfl; exact rfl)
      | ((with_reducible apply rv_cellAgg); exact rfl; exact rfl)
      | exact Nat.le_of_ble_eq_true rfl
      | exact (rfl : (_ : Bool) = true)
      | omega
      | (intro _ _; with_reducible apply tl_id)
      | (intro _; with_reducible apply tl_id)
      | (intro _ _; with_reducible apply al_id)
      | (intro _; with_reducible apply al_id))
    all_goals exact ⟨(by first | rfl | trivial), (), trivial, by (repeat' (first | exact FrSub.nil | (apply FrSub.cons; exact rfl) | (apply FrSub.consE; exact rfl; first | (focus (simp [sI, cI, qS]; done)) | skip) | exact HpSub.refl _ | (apply HpSub.consE; (repeat (first | exact P0 | apply P1)); first | exact rfl | (focus (simp [iv, cI]; done))) | apply HpSub.skipX | exact HpSub.nil)), by (repeat' (first | exact FrSub.nil | (apply FrSub.cons; exact rfl) | (apply FrSub.consE; exact rfl; first | (focus (simp [sI, cI, qS]; done)) | skip) | exact HpSub.refl _ | (apply HpSub.consE; (repeat (first | exact P0 | apply P1)); first | exact rfl | (focus (simp [iv, cI]; done))) | apply HpSub.skipX | exact HpSub.nil))⟩
  rintro ⟨⟩ -
  try dsimp only
  have hwi := bfs_start (g := g) (h := h) t yn hgy
  refine t_cut (ι := Unit) (fun _ => [(1, .int .i64 ((x : Nat) : Int)), (2, .int .i64 ((y : Nat) : Int)), (3, .pointer (some ⟨b3, 0, none⟩)), (6, .pointer (some ⟨b6, 0, none⟩)), (10, .pointer (some ⟨bL, 0, none⟩))]) (fun _ => [(b3, [.int .i64 ((W : Nat) : Int), .int .i64 ((Hh : Nat) : Int), .slice (some ⟨bA, oA, none⟩) n cp], some (24, 3, 1)), (b6, [.int .i64 h], some (3, 1, 1)), (bL, [.slice (some ⟨bl, 0, none⟩) n n], some (22, 1, 1)), (bl, (cI (L)).map iv, some (3, 1, n))]) (fun _ => True) ?_ ?_
  · refine t_cut (ι := Nat × Nat) (fun z => [(1, .int .i64 ((x : Nat) : Int)), (2, .int .i64 ((y : Nat) : Int)), (3, .pointer (some ⟨b3, 0, none⟩)), (6, .pointer (some ⟨b6, 0, none⟩)), (10, .pointer (some ⟨bL, 0, none⟩)), (11, .slice (some ⟨z.1, 0, none⟩) 1 z.2)]) (fun z => [(b3, [.int .i64 ((W : Nat) : Int), .int .i64 ((Hh : Nat) : Int), .slice (some ⟨bA, oA, none⟩) n cp], some (24, 3, 1)), (b6, [.int .i64 h], some (3, 1, 1)), (bL, [.slice (some ⟨bl, 0, none⟩) n n], some (22, 1, 1)), (bl, (cI ((List.replicate n 0).set y 1)).map iv, some (3, 1, n)), (z.1, [.int .i64 (y : Nat)], some (3, 1, z.2))]) (fun z => z.2 = 1) ?_ ?_
    · repeat' (first
        | ((with_reducible apply oq_id); first | (apply oq_fn; exact rfl; try first | exact trivial | (and_intros <;> omega)) | ((with_reducible apply oq_load); exact rfl; exact rfl) | ((with_reducible apply oq_loadAgg); exact rfl; exact rfl) | ((with_reducible apply oq_build); (iterate 3 exact rfl)) | ((with_reducible apply oq_buildA); (iterate 4 exact rfl)) | ((with_reducible apply oq_fieldAgg); (iterate 3 exact rfl)) | ((with_reducible apply oq_indexAgg); (iterate 4 exact rfl)))
        | ((with_reducible apply tl_id); first | (with_reducible apply tl_nil) | ((with_reducible apply u_q); (iterate 4 exact rfl)) | ((with_reducible apply u_s0); exact rfl; exact rfl) | ((with_reducible apply u_s); (iterate 3 exact rfl)) | ((with_reducible apply u_skip); (iterate 3 exact rfl)) | ((with_reducible apply u_splitD); exact rfl; exact rfl; all_goals first | (intro hp; try (exfalso; omega)) | skip) | ((with_reducible apply u_splitN); exact rfl; exact rfl; all_goals first | (intro hp; try (exfalso; omega)) | skip) | ((with_reducible apply u_split); exact rfl; exact rfl; all_goals first | intro hp | skip))
        | ((with_reducible apply gx_id); first | (with_reducible apply v_nil) | ((with_reducible apply v_q); (iterate 3 exact rfl)) | ((with_reducible apply v_skip); (iterate 3 exact rfl)) | ((with_reducible apply v_splitD); exact rfl; exact rfl; all_goals first | (intro hp; try (exfalso; omega)) | skip) | ((with_reducible apply v_splitN); exact rfl; exact rfl; all_goals first | (intro hp; try (exfalso; omega)) | skip) | ((with_reducible apply v_split); exact rfl; exact rfl; all_goals first | intro hp | skip))
        | ((with_reducible apply os_id); first | ((with_reducible apply os_x); exact rfl) | ((with_reducible apply os_store); (iterate 4 exact rfl)) | ((with_reducible apply os_storeAgg); (iterate 5 exact rfl)) | ((with_reducible apply os_append (hk := app_ok22)); exact rfl; exact rfl; (repeat (first | exact P0 | apply P1))) | ((with_reducible apply os_appendNil (hk := app_ok22)); exact rfl; exact rfl))
        | ((with_reducible apply ox_id); first | ((with_reducible apply ox_alloc); exact rfl; intro _) | ((with_reducible apply ox_box); exact rfl; exact rfl; intro _) | ((with_reducible apply ox_boxAgg); exact rfl; intro _) | ((with_reducible apply ox_buildSlice1); (iterate 6 exact rfl); intro _) | ((with_reducible apply ox_buildSlice2); (iterate 6 exact rfl); intro _) | ((with_reducible apply ox_buildSlice); (iterate 4 exact rfl)))
        | ((with_reducible apply rd_id); first | (apply Rd.own; (repeat (first | exact P0 | apply P1)); exact rfl; done) | (apply Rd.old; (first | (with_reducible assumption) | exact c0 | exact c1 | exact c2 | exact c3 | exact c4 | exact c5 | exact c6 | exact c7 | exact c8 | exact d0 | exact d1 | exact d2 | exact d3 | exact d4 | exact d5); first | exact List.not_mem_nil | exact m0 | exact m1 | exact m2 | exact m3 | exact m4 | exact m5 | exact m6 | exact m7 | exact m8 | exact m9))
        | ((with_reducible apply t_id); first | (with_reducible apply t_seq) | (apply t_region; kernel_rfl) | (apply t_drawn; kernel_rfl; decide +kernel; try simp only [List.append_eq, List.cons_append, List.nil_append]) | ((with_reducible apply t_condT); exact rfl) | ((with_reducible apply t_condF); exact rfl) | ((with_reducible apply t_condD); exact rfl; all_goals first | (intro hp; try (exfalso; omega)) | skip) | ((with_reducible apply t_condN); exact rfl; all_goals first | (intro hp; try (exfalso; omega)) | skip) | ((with_reducible apply t_cond); exact rfl; all_goals first | intro hp | skip) | (with_reducible apply t_ret) | (with_reducible apply t_skip) | (with_reducible apply t_exit) | (with_reducible apply t_block))
        | with_reducible apply q_thenN
        | with_reducible apply q_thenR
        | with_reducible apply q_blockR
        | with_reducible apply q_blockN
        | with_reducible apply q_thenE
        | ((with_reducible apply q_blockE); exact rfl)
        | ((with_reducible apply q_blockO); exact rfl)
        | exact P0
        | (with_reducible apply P1)
        | exact Rdn.zero
        | apply Rdn.succ
        | ((with_reducible apply Norm.nil); exact rfl)
        | ((with_reducible apply Norm.cons); exact rfl)
        | (with_reducible apply end_ret)
        | (with_reducible apply end_normal)
        | exact rvs_nil
        | (with_reducible apply rvs_cons)
        | ((with_reducible apply rv_tmp); exact rfl)
        | ((with_reducible apply rv_cell); exact rfl; exact rfl)
        | ((with_reducible apply rv_cellAgg); exact rfl; exact rfl)
        | exact Nat.le_of_ble_eq_true rfl
        | exact (rfl : (_ : Bool) = true)
        | omega
        | (intro _ _; with_reducible apply tl_id)
        | (intro _; with_reducible apply tl_id)
        | (intro _ _; with_reducible apply al_id)
        | (intro _; with_reducible apply al_id))
      all_goals (rename_i bN; exact ⟨rfl, (bN, 1), rfl, by (repeat (first | exact FrSub.nil | (apply FrSub.cons; exact rfl))), by (repeat (first | exact HpSub.refl _ | (apply HpSub.consE; (repeat (first | exact P0 | apply P1)); exact rfl) | exact HpSub.nil))⟩)
    rintro ⟨bq, cq⟩ hcq
    simp only at hcq
    try dsimp only
    repeat' (first
      | ((with_reducible apply oq_id); first | (apply oq_fn; exact rfl; try first | exact trivial | (and_intros <;> omega)) | ((with_reducible apply oq_load); exact rfl; exact rfl) | ((with_reducible apply oq_loadAgg); exact rfl; exact rfl) | ((with_reducible apply oq_build); (iterate 3 exact rfl)) | ((with_reducible apply oq_buildA); (iterate 4 exact rfl)) | ((with_reducible apply oq_fieldAgg); (iterate 3 exact rfl)) | ((with_reducible apply oq_indexAgg); (iterate 4 exact rfl)))
      | ((with_reducible apply tl_id); first | (with_reducible apply tl_nil) | ((with_reducible apply u_q); (iterate 4 exact rfl)) | ((with_reducible apply u_s0); exact rfl; exact rfl) | ((with_reducible apply u_s); (iterate 3 exact rfl)) | ((with_reducible apply u_skip); (iterate 3 exact rfl)) | ((with_reducible apply u_splitD); exact rfl; exact rfl; all_goals first | (intro hp; try (exfalso; omega)) | skip) | ((with_reducible apply u_splitN); exact rfl; exact rfl; all_goals first | (intro hp; try (exfalso; omega)) | skip) | ((with_reducible apply u_split); exact rfl; exact rfl; all_goals first | intro hp | skip))
      | ((with_reducible apply gx_id); first | (with_reducible apply v_nil) | ((with_reducible apply v_q); (iterate 3 exact rfl)) | ((with_reducible apply v_skip); (iterate 3 exact rfl)) | ((with_reducible apply v_splitD); exact rfl; exact rfl; all_goals first | (intro hp; try (exfalso; omega)) | skip) | ((with_reducible apply v_splitN); exact rfl; exact rfl; all_goals first | (intro hp; try (exfalso; omega)) | skip) | ((with_reducible apply v_split); exact rfl; exact rfl; all_goals first | intro hp | skip))
      | ((with_reducible apply os_id); first | ((with_reducible apply os_x); exact rfl) | ((with_reducible apply os_store); (iterate 4 exact rfl)) | ((with_reducible apply os_storeAgg); (iterate 5 exact rfl)) | ((with_reducible apply os_append (hk := app_ok22)); exact rfl; exact rfl; (repeat (first | exact P0 | apply P1))) | ((with_reducible apply os_appendNil (hk := app_ok22)); exact rfl; exact rfl))
      | ((with_reducible apply ox_id); first | ((with_reducible apply ox_alloc); exact rfl; intro _) | ((with_reducible apply ox_box); exact rfl; exact rfl; intro _) | ((with_reducible apply ox_boxAgg); exact rfl; intro _) | ((with_reducible apply ox_buildSlice1); (iterate 6 exact rfl); intro _) | ((with_reducible apply ox_buildSlice2); (iterate 6 exact rfl); intro _) | ((with_reducible apply ox_buildSlice); (iterate 4 exact rfl)))
      | ((with_reducible apply rd_id); first | (apply Rd.own; (repeat (first | exact P0 | apply P1)); exact rfl; done) | (apply Rd.old; (first | (with_reducible assumption) | exact c0 | exact c1 | exact c2 | exact c3 | exact c4 | exact c5 | exact c6 | exact c7 | exact c8 | exact d0 | exact d1 | exact d2 | exact d3 | exact d4 | exact d5); first | exact List.not_mem_nil | exact m0 | exact m1 | exact m2 | exact m3 | exact m4 | exact m5 | exact m6 | exact m7 | exact m8 | exact m9))
      | ((with_reducible apply t_id); first | (with_reducible apply t_seq) | (apply t_region; kernel_rfl) | (apply t_drawn; kernel_rfl; decide +kernel; try simp only [List.append_eq, List.cons_append, List.nil_append]) | ((with_reducible apply t_condT); exact rfl) | ((with_reducible apply t_condF); exact rfl) | ((with_reducible apply t_condD); exact rfl; all_goals first | (intro hp; try (exfalso; omega)) | skip) | ((with_reducible apply t_condN); exact rfl; all_goals first | (intro hp; try (exfalso; omega)) | skip) | ((with_reducible apply t_cond); exact rfl; all_goals first | intro hp | skip) | (with_reducible apply t_ret) | (with_reducible apply t_skip) | (with_reducible apply t_exit) | (with_reducible apply t_block))
      | with_reducible apply q_thenN
      | with_reducible apply q_thenR
      | with_reducible apply q_blockR
      | with_reducible apply q_blockN
      | with_reducible apply q_thenE
      | ((with_reducible apply q_blockE); exact rfl)
      | ((with_reducible apply q_blockO); exact rfl)
      | exact P0
      | (with_reducible apply P1)
      | exact Rdn.zero
      | apply Rdn.succ
      | ((with_reducible apply Norm.nil); exact rfl)
      | ((with_reducible apply Norm.cons); exact rfl)
      | (with_reducible apply end_ret)
      | (with_reducible apply end_normal)
      | exact rvs_nil
      | (with_reducible apply rvs_cons)
      | ((with_reducible apply rv_tmp); exact rfl)
      | ((with_reducible apply rv_cell); exact rfl; exact rfl)
      | ((with_reducible apply rv_cellAgg); exact rfl; exact rfl)
      | exact Nat.le_of_ble_eq_true rfl
      | exact (rfl : (_ : Bool) = true)
      | omega
      | (intro _ _; with_reducible apply tl_id)
      | (intro _; with_reducible apply tl_id)
      | (intro _ _; with_reducible apply al_id)
      | (intro _; with_reducible apply al_id))
    apply t_loopK (ι := Nat × List Nat × List Nat × Qm) [1, 2, 3, 6, 10] (fun z => [(11, qS (cI z.2.2.1) z.2.2.2)]) (fun z => [(b3, [.int .i64 ((W : Nat) : Int), .int .i64 ((Hh : Nat) : Int), .slice (some ⟨bA, oA, none⟩) n cp], some (24, 3, 1)), (b6, [.int .i64 h], some (3, 1, 1)), (bL, [.slice (some ⟨bl, 0, none⟩) n n], some (22, 1, 1)), (bl, (cI (z.2.1)).map iv, some (3, 1, n)), (z.2.2.2.b, z.2.2.2.C, some (3, 1, z.2.2.2.c0))]) (fun z => Bfs W n g h L z.1 z.2.1 z.2.2.1 ∧ BI W n g h y z.2.1 z.2.2.1 ∧ Qok (cI z.2.2.1) z.2.2.2) (fun z => z.1) ((k, (List.replicate n 0).set y 1, [y], ⟨bq, 0, cq, cq, [.int .i64 (y : Nat)]⟩))
    (repeat (first | exact KeepF.nil | (apply KeepF.cons; exact rfl) | apply KeepF.skip))
    (repeat (first | exact FrSub.nil | (apply FrSub.cons; exact rfl)))
    (repeat (first | exact HpSub.refl _ | (apply HpSub.consE; (repeat (first | exact P0 | apply P1)); exact rfl) | exact HpSub.nil))
    · exact ⟨hB, hwi, .inr ⟨[], rfl, rfl, by simp only []; omega, by simp only []; omega⟩⟩
    rintro ⟨k, lev, q, mq⟩ ⟨hbf, hw, hq⟩
    simp only at hbf hw hq
    try simp only [List.cons_append, List.nil_append]
    have hqcnt := hw.cnt
    have hqln := cI_len q
    cases hbf with
    | done =>
      repeat' (first
        | ((with_reducible apply oq_id); first | ((with_reducible apply oq_gtrT); exact rfl; exact rfl; omega) | ((with_reducible apply oq_gtrF); exact rfl; exact rfl; omega) | (apply oq_fn; exact rfl; try first | exact trivial | (and_intros <;> omega)) | ((with_reducible apply oq_load); exact rfl; exact rfl) | ((with_reducible apply oq_loadAgg); exact rfl; exact rfl) | ((with_reducible apply oq_build); (iterate 3 exact rfl)) | ((with_reducible apply oq_buildA); (iterate 4 exact rfl)) | ((with_reducible apply oq_fieldAgg); (iterate 3 exact rfl)) | ((with_reducible apply oq_indexAgg); (iterate 4 exact rfl)))
        | ((with_reducible apply tl_id); first | (with_reducible apply tl_nil) | ((with_reducible apply u_q); (iterate 4 exact rfl)) | ((with_reducible apply u_s0); exact rfl; exact rfl) | ((with_reducible apply u_s); (iterate 3 exact rfl)) | ((with_reducible apply u_skip); (iterate 3 exact rfl)) | ((with_reducible apply u_splitD); exact rfl; exact rfl; all_goals first | (intro hp; try (exfalso; omega)) | skip) | ((with_reducible apply u_splitN); exact rfl; exact rfl; all_goals first | (intro hp; try (exfalso; omega)) | skip) | ((with_reducible apply u_split); exact rfl; exact rfl; all_goals first | intro hp | skip))
        | ((with_reducible apply gx_id); first | (with_reducible apply v_nil) | ((with_reducible apply v_q); (iterate 3 exact rfl)) | ((with_reducible apply v_skip); (iterate 3 exact rfl)) | ((with_reducible apply v_splitD); exact rfl; exact rfl; all_goals first | (intro hp; try (exfalso; omega)) | skip) | ((with_reducible apply v_splitN); exact rfl; exact rfl; all_goals first | (intro hp; try (exfalso; omega)) | skip) | ((with_reducible apply v_split); exact rfl; exact rfl; all_goals first | intro hp | skip))
        | ((with_reducible apply os_id); first | ((with_reducible apply os_x); exact rfl) | ((with_reducible apply os_store); (iterate 4 exact rfl)) | ((with_reducible apply os_storeAgg); (iterate 5 exact rfl)) | ((with_reducible apply os_append (hk := app_ok22)); exact rfl; exact rfl; (repeat (first | exact P0 | apply P1))) | ((with_reducible apply os_appendNil (hk := app_ok22)); exact rfl; exact rfl))
        | ((with_reducible apply ox_id); first | ((with_reducible apply ox_alloc); exact rfl; intro _) | ((with_reducible apply ox_box); exact rfl; exact rfl; intro _) | ((with_reducible apply ox_boxAgg); exact rfl; intro _) | ((with_reducible apply ox_buildSlice1); (iterate 6 exact rfl); intro _) | ((with_reducible apply ox_buildSlice2); (iterate 6 exact rfl); intro _) | ((with_reducible apply ox_buildSlice); (iterate 4 exact rfl)))
        | ((with_reducible apply rd_id); first | (apply Rd.own; (repeat (first | exact P0 | apply P1)); exact rfl; done) | (apply Rd.old; (first | (with_reducible assumption) | exact c0 | exact c1 | exact c2 | exact c3 | exact c4 | exact c5 | exact c6 | exact c7 | exact c8 | exact d0 | exact d1 | exact d2 | exact d3 | exact d4 | exact d5); first | exact List.not_mem_nil | exact m0 | exact m1 | exact m2 | exact m3 | exact m4 | exact m5 | exact m6 | exact m7 | exact m8 | exact m9))
        | ((with_reducible apply t_id); first | (with_reducible apply t_seq) | (apply t_region; kernel_rfl) | (apply t_drawn; kernel_rfl; decide +kernel; try simp only [List.append_eq, List.cons_append, List.nil_append]) | ((with_reducible apply t_condT); exact rfl) | ((with_reducible apply t_condF); exact rfl) | ((with_reducible apply t_condD); exact rfl; all_goals first | (intro hp; try (exfalso; omega)) | skip) | ((with_reducible apply t_condN); exact rfl; all_goals first | (intro hp; try (exfalso; omega)) | skip) | ((with_reducible apply t_cond); exact rfl; all_goals first | intro hp | skip) | (with_reducible apply t_ret) | (with_reducible apply t_skip) | (with_reducible apply t_exit) | (with_reducible apply t_block))
        | with_reducible apply q_thenN
        | with_reducible apply q_thenR
        | with_reducible apply q_blockR
        | with_reducible apply q_blockN
        | with_reducible apply q_thenE
        | ((with_reducible apply q_blockE); exact rfl)
        | ((with_reducible apply q_blockO); exact rfl)
        | exact P0
        | (with_reducible apply P1)
        | exact Rdn.zero
        | apply Rdn.succ
        | ((with_reducible apply Norm.nil); exact rfl)
        | ((with_reducible apply Norm.cons); exact rfl)
        | (with_reducible apply end_ret)
        | (with_reducible apply end_normal)
        | exact rvs_nil
        | (with_reducible apply rvs_cons)
        | ((with_reducible apply rv_tmp); exact rfl)
        | ((with_reducible apply rv_cell); exact rfl; exact rfl)
        | ((with_reducible apply rv_cellAgg); exact rfl; exact rfl)
        | exact Nat.le_of_ble_eq_true rfl
        | exact (rfl : (_ : Bool) = true)
        | omega
        | (intro _ _; with_reducible apply tl_id)
        | (intro _; with_reducible apply tl_id)
        | (intro _ _; with_reducible apply al_id)
        | (intro _; with_reducible apply al_id))
      all_goals exact ⟨rfl, (), trivial, by (repeat (first | exact FrSub.nil | (apply FrSub.cons; exact rfl))), by (repeat (first | exact HpSub.refl _ | (apply HpSub.consE; (repeat (first | exact P0 | apply P1)); exact rfl) | apply HpSub.skipX | exact HpSub.nil))⟩
    | @next k2 a _ q hbf =>
    have han := hw.lt a (List.mem_cons_self ..)
    have hq0 := hq.at_ (i := 0) (z := (a : Int)) rfl
    simp only [List.length_cons] at hqcnt hqln
    have hla0 : 0 < lev.getD a 0 := hw.set_ a (List.mem_cons_self ..)
    have hnl := nb_len W n a
    have hrd := hw.round t
    refine t_cut (ι := Unit) (fun _ => [(1, .int .i64 ((x : Nat) : Int)), (2, .int .i64 ((y : Nat) : Int)), (3, .pointer (some ⟨b3, 0, none⟩)), (6, .pointer (some ⟨b6, 0, none⟩)), (10, .pointer (some ⟨bL, 0, none⟩)), (11, qS (cI (a :: q)) mq)]) (fun _ => [(b3, [.int .i64 ((W : Nat) : Int), .int .i64 ((Hh : Nat) : Int), .slice (some ⟨bA, oA, none⟩) n cp], some (24, 3, 1)), (b6, [.int .i64 h], some (3, 1, 1)), (bL, [.slice (some ⟨bl, 0, none⟩) n n], some (22, 1, 1)), (bl, (cI (lev)).map iv, some (3, 1, n)), (mq.b, mq.C, some (3, 1, mq.c0))]) (fun _ => True) ?_ ?_
    · repeat' (first
        | ((with_reducible apply oq_id); first | ((with_reducible apply oq_gtrT); exact rfl; exact rfl; omega) | ((with_reducible apply oq_gtrF); exact rfl; exact rfl; omega) | (apply oq_fn; exact rfl; try first | exact trivial | (and_intros <;> omega)) | ((with_reducible apply oq_load); exact rfl; exact rfl) | ((with_reducible apply oq_loadAgg); exact rfl; exact rfl) | ((with_reducible apply oq_build); (iterate 3 exact rfl)) | ((with_reducible apply oq_buildA); (iterate 4 exact rfl)) | ((with_reducible apply oq_fieldAgg); (iterate 3 exact rfl)) | ((with_reducible apply oq_indexAgg); (iterate 4 exact rfl)))
        | ((with_reducible apply tl_id); first | (with_reducible apply tl_nil) | ((with_reducible apply u_q); (iterate 4 exact rfl)) | ((with_reducible apply u_s0); exact rfl; exact rfl) | ((with_reducible apply u_s); (iterate 3 exact rfl)) | ((with_reducible apply u_skip); (iterate 3 exact rfl)) | ((with_reducible apply u_splitD); exact rfl; exact rfl; all_goals first | (intro hp; try (exfalso; omega)) | skip) | ((with_reducible apply u_splitN); exact rfl; exact rfl; all_goals first | (intro hp; try (exfalso; omega)) | skip) | ((with_reducible apply u_split); exact rfl; exact rfl; all_goals first | intro hp | skip))
        | ((with_reducible apply gx_id); first | (with_reducible apply v_nil) | ((with_reducible apply v_q); (iterate 3 exact rfl)) | ((with_reducible apply v_skip); (iterate 3 exact rfl)) | ((with_reducible apply v_splitD); exact rfl; exact rfl; all_goals first | (intro hp; try (exfalso; omega)) | skip) | ((with_reducible apply v_splitN); exact rfl; exact rfl; all_goals first | (intro hp; try (exfalso; omega)) | skip) | ((with_reducible apply v_split); exact rfl; exact rfl; all_goals first | intro hp | skip))
        | ((with_reducible apply os_id); first | ((with_reducible apply os_x); exact rfl) | ((with_reducible apply os_store); (iterate 4 exact rfl)) | ((with_reducible apply os_storeAgg); (iterate 5 exact rfl)) | ((with_reducible apply os_append (hk := app_ok22)); exact rfl; exact rfl; (repeat (first | exact P0 | apply P1))) | ((with_reducible apply os_appendNil (hk := app_ok22)); exact rfl; exact rfl))
        | ((with_reducible apply ox_id); first | ((with_reducible apply ox_alloc); exact rfl; intro _) | ((with_reducible apply ox_box); exact rfl; exact rfl; intro _) | ((with_reducible apply ox_boxAgg); exact rfl; intro _) | ((with_reducible apply ox_buildSlice1); (iterate 6 exact rfl); intro _) | ((with_reducible apply ox_buildSlice2); (iterate 6 exact rfl); intro _) | ((with_reducible apply ox_buildSlice); (iterate 4 exact rfl)))
        | ((with_reducible apply rd_id); first | (apply Rd.own; (repeat (first | exact P0 | apply P1)); exact rfl; done) | (apply Rd.old; (first | (with_reducible assumption) | exact c0 | exact c1 | exact c2 | exact c3 | exact c4 | exact c5 | exact c6 | exact c7 | exact c8 | exact d0 | exact d1 | exact d2 | exact d3 | exact d4 | exact d5); first | exact List.not_mem_nil | exact m0 | exact m1 | exact m2 | exact m3 | exact m4 | exact m5 | exact m6 | exact m7 | exact m8 | exact m9))
        | ((with_reducible apply t_id); first | (with_reducible apply t_seq) | (apply t_region; kernel_rfl) | (apply t_drawn; kernel_rfl; decide +kernel; try simp only [List.append_eq, List.cons_append, List.nil_append]) | ((with_reducible apply t_condT); exact rfl) | ((with_reducible apply t_condF); exact rfl) | ((with_reducible apply t_condD); exact rfl; all_goals first | (intro hp; try (exfalso; omega)) | skip) | ((with_reducible apply t_condN); exact rfl; all_goals first | (intro hp; try (exfalso; omega)) | skip) | ((with_reducible apply t_cond); exact rfl; all_goals first | intro hp | skip) | (with_reducible apply t_ret) | (with_reducible apply t_skip) | (with_reducible apply t_exit) | (with_reducible apply t_block))
        | with_reducible apply q_thenN
        | with_reducible apply q_thenR
        | with_reducible apply q_blockR
        | with_reducible apply q_blockN
        | with_reducible apply q_thenE
        | ((with_reducible apply q_blockE); exact rfl)
        | ((with_reducible apply q_blockO); exact rfl)
        | exact P0
        | (with_reducible apply P1)
        | exact Rdn.zero
        | apply Rdn.succ
        | ((with_reducible apply Norm.nil); exact rfl)
        | ((with_reducible apply Norm.cons); exact rfl)
        | (with_reducible apply end_ret)
        | (with_reducible apply end_normal)
        | exact rvs_nil
        | (with_reducible apply rvs_cons)
        | ((with_reducible apply rv_tmp); exact rfl)
        | ((with_reducible apply rv_cell); exact rfl; exact rfl)
        | ((with_reducible apply rv_cellAgg); exact rfl; exact rfl)
        | exact Nat.le_of_ble_eq_true rfl
        | exact (rfl : (_ : Bool) = true)
        | omega
        | (intro _ _; with_reducible apply tl_id)
        | (intro _; with_reducible apply tl_id)
        | (intro _ _; with_reducible apply al_id)
        | (intro _; with_reducible apply al_id))
      all_goals exact ⟨(by first | rfl | trivial), (), trivial, by (repeat' (first | exact FrSub.nil | (apply FrSub.cons; exact rfl) | (apply FrSub.consE; exact rfl; first | (focus (simp [sI, cI, qS]; done)) | skip) | exact HpSub.refl _ | (apply HpSub.consE; (repeat (first | exact P0 | apply P1)); first | exact rfl | (focus (simp [iv, cI]; done))) | apply HpSub.skipX | exact HpSub.nil)), by (repeat' (first | exact FrSub.nil | (apply FrSub.cons; exact rfl) | (apply FrSub.consE; exact rfl; first | (focus (simp [sI, cI, qS]; done)) | skip) | exact HpSub.refl _ | (apply HpSub.consE; (repeat (first | exact P0 | apply P1)); first | exact rfl | (focus (simp [iv, cI]; done))) | apply HpSub.skipX | exact HpSub.nil))⟩
    rintro ⟨⟩ -
    try dsimp only
    refine t_cut (ι := List Nat × List Nat × Qm) (fun z => [(1, .int .i64 ((x : Nat) : Int)), (2, .int .i64 ((y : Nat) : Int)), (3, .pointer (some ⟨b3, 0, none⟩)), (6, .pointer (some ⟨b6, 0, none⟩)), (10, .pointer (some ⟨bL, 0, none⟩)), (11, qS (cI (a :: z.2.1)) z.2.2)]) (fun z => [(b3, [.int .i64 ((W : Nat) : Int), .int .i64 ((Hh : Nat) : Int), .slice (some ⟨bA, oA, none⟩) n cp], some (24, 3, 1)), (b6, [.int .i64 h], some (3, 1, 1)), (bL, [.slice (some ⟨bl, 0, none⟩) n n], some (22, 1, 1)), (bl, (cI (z.1)).map iv, some (3, 1, n)), (z.2.2.b, z.2.2.C, some (3, 1, z.2.2.c0))]) (fun z => Bfs W n g h L k2 z.1 z.2.1 ∧ BI W n g h y z.1 z.2.1 ∧ Qok (cI (a :: z.2.1)) z.2.2) ?_ ?_
    · refine t_block ?_
      refine t_cut (ι := Option (Nat × Nat)) (fun o => [(1, .int .i64 ((x : Nat) : Int)), (2, .int .i64 ((y : Nat) : Int)), (3, .pointer (some ⟨b3, 0, none⟩)), (6, .pointer (some ⟨b6, 0, none⟩)), (10, .pointer (some ⟨bL, 0, none⟩)), (11, qS (cI (a :: q)) mq), (52, sI (cI (nb W n a)) o), (53, .int .i64 (((nb W n a).length : Nat) : Int)), (54, .int .i64 0)]) (fun o => [(b3, [.int .i64 ((W : Nat) : Int), .int .i64 ((Hh : Nat) : Int), .slice (some ⟨bA, oA, none⟩) n cp], some (24, 3, 1)), (b6, [.int .i64 h], some (3, 1, 1)), (bL, [.slice (some ⟨bl, 0, none⟩) n n], some (22, 1, 1)), (bl, (cI (lev)).map iv, some (3, 1, n)), (mq.b, mq.C, some (3, 1, mq.c0))] ++ hI (cI (nb W n a)) o) (fun o => o = none → nb W n a = []) ?_ ?_
      · repeat' (first
          | ((with_reducible apply oq_id); first | (focus ((with_reducible apply oq_indexAddrN); (iterate 4 exact rfl); omega)) | (apply oq_fn; exact rfl; try first | exact trivial | (and_intros <;> omega)) | ((with_reducible apply oq_load); exact rfl; exact rfl) | ((with_reducible apply oq_loadAgg); exact rfl; exact rfl) | ((with_reducible apply oq_build); (iterate 3 exact rfl)) | ((with_reducible apply oq_buildA); (iterate 4 exact rfl)) | ((with_reducible apply oq_fieldAgg); (iterate 3 exact rfl)) | ((with_reducible apply oq_indexAgg); (iterate 4 exact rfl)))
          | ((with_reducible apply tl_id); first | (with_reducible apply tl_nil) | ((with_reducible apply u_s); (iterate 3 exact rfl); (with_reducible apply os_callF (PV := LsI (cI (nb W n a))) (k := 47) (hc := Try.call47)); exact rfl; exact rfl; exact fun D w1 hw1 => around_calls (some ⟨bA, oA, none⟩) cp W Hh n a t han w1; rintro _ _ ⟨_ | ⟨bo, co⟩, ho, rfl, rfl⟩; simp only [List.cons_append, List.nil_append]) | ((with_reducible apply u_q); (iterate 4 exact rfl)) | ((with_reducible apply u_s0); exact rfl; exact rfl) | ((with_reducible apply u_s); (iterate 3 exact rfl)) | ((with_reducible apply u_skip); (iterate 3 exact rfl)) | ((with_reducible apply u_splitD); exact rfl; exact rfl; all_goals first | (intro hp; try (exfalso; omega)) | skip) | ((with_reducible apply u_splitN); exact rfl; exact rfl; all_goals first | (intro hp; try (exfalso; omega)) | skip) | ((with_reducible apply u_split); exact rfl; exact rfl; all_goals first | intro hp | skip))
          | ((with_reducible apply gx_id); first | (with_reducible apply v_nil) | ((with_reducible apply v_q); (iterate 3 exact rfl)) | ((with_reducible apply v_skip); (iterate 3 exact rfl)) | ((with_reducible apply v_splitD); exact rfl; exact rfl; all_goals first | (intro hp; try (exfalso; omega)) | skip) | ((with_reducible apply v_splitN); exact rfl; exact rfl; all_goals first | (intro hp; try (exfalso; omega)) | skip) | ((with_reducible apply v_split); exact rfl; exact rfl; all_goals first | intro hp | skip))
          | ((with_reducible apply os_id); first | ((with_reducible apply os_x); exact rfl) | ((with_reducible apply os_store); (iterate 4 exact rfl)) | ((with_reducible apply os_storeAgg); (iterate 5 exact rfl)) | ((with_reducible apply os_append (hk := app_ok22)); exact rfl; exact rfl; (repeat (first | exact P0 | apply P1))) | ((with_reducible apply os_appendNil (hk := app_ok22)); exact rfl; exact rfl))
          | ((with_reducible apply ox_id); first | ((with_reducible apply ox_alloc); exact rfl; intro _) | ((with_reducible apply ox_box); exact rfl; exact rfl; intro _) | ((with_reducible apply ox_boxAgg); exact rfl; intro _) | ((with_reducible apply ox_buildSlice1); (iterate 6 exact rfl); intro _) | ((with_reducible apply ox_buildSlice2); (iterate 6 exact rfl); intro _) | ((with_reducible apply ox_buildSlice); (iterate 4 exact rfl)))
          | ((with_reducible apply ai_id); first | ((with_reducible apply ai_s); (iterate 5 exact rfl); (with_reducible apply os_callF (PV := LsI (cI (nb W n a))) (k := 47) (hc := Try.call47)); exact rfl; exact rfl; exact fun D w1 hw1 => around_calls (some ⟨bA, oA, none⟩) cp W Hh n a t han w1; rintro _ _ ⟨_ | ⟨bo, co⟩, ho, rfl, rfl⟩; simp only [List.cons_append, List.nil_append]) | ((with_reducible apply ai_n); (iterate 4 exact rfl); (with_reducible apply os_callF (PV := LsI (cI (nb W n a))) (k := 47) (hc := Try.call47)); exact rfl; exact rfl; exact fun D w1 hw1 => around_calls (some ⟨bA, oA, none⟩) cp W Hh n a t han w1; rintro _ _ ⟨_ | ⟨bo, co⟩, ho, rfl, rfl⟩; simp only [List.cons_append, List.nil_append]) | ((with_reducible apply ai_q); (iterate 5 exact rfl)) | ((with_reducible apply ai_x); (iterate 5 exact rfl)) | ((with_reducible apply ai_s0); (iterate 4 exact rfl)) | ((with_reducible apply ai_n0); (iterate 3 exact rfl)) | ((with_reducible apply ai_s); (iterate 5 exact rfl)) | ((with_reducible apply ai_n); (iterate 4 exact rfl)) | ((with_reducible apply ai_skip); (iterate 4 exact rfl)) | ((with_reducible apply ai_splitD); (iterate 3 exact rfl); all_goals first | (intro hp; try (exfalso; omega)) | skip) | ((with_reducible apply ai_splitN); (iterate 3 exact rfl); all_goals first | (intro hp; try (exfalso; omega)) | skip) | ((with_reducible apply ai_split); (iterate 3 exact rfl); all_goals first | intro hp | skip))
          | ((with_reducible apply al_keep); focus (repeat (first | exact HpSub.refl _ | (apply HpSub.cons; (repeat (first | exact P0 | apply P1))) | apply HpSub.skipX | exact HpSub.nil)))
          | ((with_reducible apply rd_id); first | (apply Rd.own; (repeat (first | exact P0 | apply P1)); exact hq0; done) | (apply Rd.own; (repeat (first | exact P0 | apply P1)); exact rfl; done) | (apply Rd.old; (first | (with_reducible assumption) | exact c0 | exact c1 | exact c2 | exact c3 | exact c4 | exact c5 | exact c6 | exact c7 | exact c8 | exact d0 | exact d1 | exact d2 | exact d3 | exact d4 | exact d5); first | exact List.not_mem_nil | exact m0 | exact m1 | exact m2 | exact m3 | exact m4 | exact m5 | exact m6 | exact m7 | exact m8 | exact m9))
          | ((with_reducible apply t_id); first | (apply t_mix (id := 12) [0, 1, 2, 3, 6] 2 #[false, false, false, false, false, false, false]; kernel_rfl; kernel_rfl; exact rfl) | (with_reducible apply t_seq) | (apply t_region; kernel_rfl) | (apply t_drawn; kernel_rfl; decide +kernel; try simp only [List.append_eq, List.cons_append, List.nil_append]) | ((with_reducible apply t_condT); exact rfl) | ((with_reducible apply t_condF); exact rfl) | ((with_reducible apply t_condD); exact rfl; all_goals first | (intro hp; try (exfalso; omega)) | skip) | ((with_reducible apply t_condN); exact rfl; all_goals first | (intro hp; try (exfalso; omega)) | skip) | ((with_reducible apply t_cond); exact rfl; all_goals first | intro hp | skip) | (with_reducible apply t_ret) | (with_reducible apply t_skip) | (with_reducible apply t_exit) | (with_reducible apply t_block))
          | with_reducible apply q_thenN
          | with_reducible apply q_thenR
          | with_reducible apply q_blockR
          | with_reducible apply q_blockN
          | with_reducible apply q_thenE
          | ((with_reducible apply q_blockE); exact rfl)
          | ((with_reducible apply q_blockO); exact rfl)
          | exact P0
          | (with_reducible apply P1)
          | exact Rdn.zero
          | apply Rdn.succ
          | ((with_reducible apply Norm.nil); exact rfl)
          | ((with_reducible apply Norm.cons); exact rfl)
          | (with_reducible apply end_ret)
          | (with_reducible apply end_normal)
          | exact rvs_nil
          | (with_reducible apply rvs_cons)
          | ((with_reducible apply rv_tmp); exact rfl)
          | ((with_reducible apply rv_cell); exact rfl; exact rfl)
          | ((with_reducible apply rv_cellAgg); exact rfl; exact rfl)
          | ((with_reducible apply cut_in0) <;> (repeat' (first | exact FrSub.nil | (apply FrSub.cons; exact rfl) | exact HpSub.refl _ | (apply HpSub.consE; (repeat (first | exact P0 | apply P1)); exact rfl) | apply HpSub.skipX | exact HpSub.nil)))
          | ((with_reducible apply cut_in1) <;> (repeat' (first | exact FrSub.nil | (apply FrSub.cons; exact rfl) | exact HpSub.refl _ | (apply HpSub.consE; (repeat (first | exact P0 | apply P1)); exact rfl) | apply HpSub.skipX | exact HpSub.nil)))
          | ((with_reducible apply cut_in2) <;> (repeat' (first | exact FrSub.nil | (apply FrSub.cons; exact rfl) | exact HpSub.refl _ | (apply HpSub.consE; (repeat (first | exact P0 | apply P1)); exact rfl) | apply HpSub.skipX | exact HpSub.nil)))
          | ((with_reducible apply cut_in3) <;> (repeat' (first | exact FrSub.nil | (apply FrSub.cons; exact rfl) | exact HpSub.refl _ | (apply HpSub.consE; (repeat (first | exact P0 | apply P1)); exact rfl) | apply HpSub.skipX | exact HpSub.nil)))
          | (apply t_mix (id := 12) [0, 1, 2, 3, 6] 2 #[false, false, false, false, false, false, false]; kernel_rfl; kernel_rfl; exact rfl)
          | ((with_reducible apply al_id); first | (apply al_done; decide +kernel) | (apply al_one 4; decide +kernel) | (apply al_one 5; decide +kernel))
          | exact Nat.le_of_ble_eq_true rfl
          | exact (rfl : (_ : Bool) = true)
          | omega
          | (intro _ _; with_reducible apply tl_id)
          | (intro _; with_reducible apply tl_id)
          | (intro _ _; with_reducible apply al_id)
          | (intro _; with_reducible apply al_id))
        all_goals skip
        all_goals first
          | (have hc0 : cI (nb W n a) = [] := ho rfl
             have hn0 : nb W n a = [] := by simpa [cI] using hc0
             rw [hn0]
             exact ⟨(by first | rfl | trivial), none, fun _ => rfl, by (repeat' (first | exact FrSub.nil | (apply FrSub.cons; exact rfl) | (apply FrSub.consE; exact rfl; first | (focus (simp [sI, cI, qS]; done)) | skip) | exact HpSub.refl _ | (apply HpSub.consE; (repeat (first | exact P0 | apply P1)); first | exact rfl | (focus (simp [iv, cI]; done))) | apply HpSub.skipX | exact HpSub.nil)), by (repeat' (first | exact FrSub.nil | (apply FrSub.cons; exact rfl) | (apply FrSub.consE; exact rfl; first | (focus (simp [sI, cI, qS]; done)) | skip) | exact HpSub.refl _ | (apply HpSub.consE; (repeat (first | exact P0 | apply P1)); first | exact rfl | (focus (simp [iv, cI]; done))) | apply HpSub.skipX | exact HpSub.nil))⟩)
          | (have hcl := cI_len (nb W n a)
             exact ⟨(by first | rfl | trivial), some (bo, co), (fun hh => by cases hh), by (repeat (first | exact FrSub.nil | (apply FrSub.cons; exact rfl) | (apply FrSub.consE; exact rfl; (rw [← hcl])))), by (repeat' (first | exact FrSub.nil | (apply FrSub.cons; exact rfl) | (apply FrSub.consE; exact rfl; first | (focus (simp [sI, cI, qS]; done)) | skip) | exact HpSub.refl _ | (apply HpSub.consE; (repeat (first | exact P0 | apply P1)); first | exact rfl | (focus (simp [iv, cI]; done))) | apply HpSub.skipX | exact HpSub.nil))⟩)
      rintro o ho
      try dsimp only
      obtain ⟨l, hl2⟩ : ∃ l, l = nb W n a := ⟨_, rfl⟩
      rw [← hl2] at ho hbf hnl hrd ⊢
      have hlw : ∀ c ∈ l, c < n := fun c hc => nb_lt t han (hl2 ▸ hc)
      repeat' (first
        | ((with_reducible apply oq_id); first | (apply oq_fn; exact rfl; try first | exact trivial | (and_intros <;> omega)) | ((with_reducible apply oq_load); exact rfl; exact rfl) | ((with_reducible apply oq_loadAgg); exact rfl; exact rfl) | ((with_reducible apply oq_build); (iterate 3 exact rfl)) | ((with_reducible apply oq_buildA); (iterate 4 exact rfl)) | ((with_reducible apply oq_fieldAgg); (iterate 3 exact rfl)) | ((with_reducible apply oq_indexAgg); (iterate 4 exact rfl)))
        | ((with_reducible apply tl_id); first | (with_reducible apply tl_nil) | ((with_reducible apply u_q); (iterate 4 exact rfl)) | ((with_reducible apply u_s0); exact rfl; exact rfl) | ((with_reducible apply u_s); (iterate 3 exact rfl)) | ((with_reducible apply u_skip); (iterate 3 exact rfl)) | ((with_reducible apply u_splitD); exact rfl; exact rfl; all_goals first | (intro hp; try (exfalso; omega)) | skip) | ((with_reducible apply u_splitN); exact rfl; exact rfl; all_goals first | (intro hp; try (exfalso; omega)) | skip) | ((with_reducible apply u_split); exact rfl; exact rfl; all_goals first | intro hp | skip))
        | ((with_reducible apply gx_id); first | (with_reducible apply v_nil) | ((with_reducible apply v_q); (iterate 3 exact rfl)) | ((with_reducible apply v_skip); (iterate 3 exact rfl)) | ((with_reducible apply v_splitD); exact rfl; exact rfl; all_goals first | (intro hp; try (exfalso; omega)) | skip) | ((with_reducible apply v_splitN); exact rfl; exact rfl; all_goals first | (intro hp; try (exfalso; omega)) | skip) | ((with_reducible apply v_split); exact rfl; exact rfl; all_goals first | intro hp | skip))
        | ((with_reducible apply os_id); first | ((with_reducible apply os_x); exact rfl) | ((with_reducible apply os_store); (iterate 4 exact rfl)) | ((with_reducible apply os_storeAgg); (iterate 5 exact rfl)) | ((with_reducible apply os_append (hk := app_ok22)); exact rfl; exact rfl; (repeat (first | exact P0 | apply P1))) | ((with_reducible apply os_appendNil (hk := app_ok22)); exact rfl; exact rfl))
        | ((with_reducible apply ox_id); first | ((with_reducible apply ox_alloc); exact rfl; intro _) | ((with_reducible apply ox_box); exact rfl; exact rfl; intro _) | ((with_reducible apply ox_boxAgg); exact rfl; intro _) | ((with_reducible apply ox_buildSlice1); (iterate 6 exact rfl); intro _) | ((with_reducible apply ox_buildSlice2); (iterate 6 exact rfl); intro _) | ((with_reducible apply ox_buildSlice); (iterate 4 exact rfl)))
        | ((with_reducible apply rd_id); first | (apply Rd.own; (repeat (first | exact P0 | apply P1)); exact rfl; done) | (apply Rd.old; (first | (with_reducible assumption) | exact c0 | exact c1 | exact c2 | exact c3 | exact c4 | exact c5 | exact c6 | exact c7 | exact c8 | exact d0 | exact d1 | exact d2 | exact d3 | exact d4 | exact d5); first | exact List.not_mem_nil | exact m0 | exact m1 | exact m2 | exact m3 | exact m4 | exact m5 | exact m6 | exact m7 | exact m8 | exact m9))
        | ((with_reducible apply t_id); first | (with_reducible apply t_seq) | (apply t_region; kernel_rfl) | (apply t_drawn; kernel_rfl; decide +kernel; try simp only [List.append_eq, List.cons_append, List.nil_append]) | ((with_reducible apply t_condT); exact rfl) | ((with_reducible apply t_condF); exact rfl) | ((with_reducible apply t_condD); exact rfl; all_goals first | (intro hp; try (exfalso; omega)) | skip) | ((with_reducible apply t_condN); exact rfl; all_goals first | (intro hp; try (exfalso; omega)) | skip) | ((with_reducible apply t_cond); exact rfl; all_goals first | intro hp | skip) | (with_reducible apply t_ret) | (with_reducible apply t_skip) | (with_reducible apply t_exit) | (with_reducible apply t_block))
        | with_reducible apply q_thenN
        | with_reducible apply q_thenR
        | with_reducible apply q_blockR
        | with_reducible apply q_blockN
        | with_reducible apply q_thenE
        | ((with_reducible apply q_blockE); exact rfl)
        | ((with_reducible apply q_blockO); exact rfl)
        | exact P0
        | (with_reducible apply P1)
        | exact Rdn.zero
        | apply Rdn.succ
        | ((with_reducible apply Norm.nil); exact rfl)
        | ((with_reducible apply Norm.cons); exact rfl)
        | (with_reducible apply end_ret)
        | (with_reducible apply end_normal)
        | exact rvs_nil
        | (with_reducible apply rvs_cons)
        | ((with_reducible apply rv_tmp); exact rfl)
        | ((with_reducible apply rv_cell); exact rfl; exact rfl)
        | ((with_reducible apply rv_cellAgg); exact rfl; exact rfl)
        | exact Nat.le_of_ble_eq_true rfl
        | exact (rfl : (_ : Bool) = true)
        | omega
        | (intro _ _; with_reducible apply tl_id)
        | (intro _; with_reducible apply tl_id)
        | (intro _ _; with_reducible apply al_id)
        | (intro _; with_reducible apply al_id))
      apply t_loopK (GH := []) (ι := Nat × List Nat × List Nat × Qm) [1, 2, 3, 6, 10, 52, 53] (fun z => [(54, .int .i64 ((z.1 : Nat) : Int)), (11, qS (cI (a :: z.2.2.1)) z.2.2.2)]) (fun z => [(b3, [.int .i64 ((W : Nat) : Int), .int .i64 ((Hh : Nat) : Int), .slice (some ⟨bA, oA, none⟩) n cp], some (24, 3, 1)), (b6, [.int .i64 h], some (3, 1, 1)), (bL, [.slice (some ⟨bl, 0, none⟩) n n], some (22, 1, 1)), (bl, (cI (z.2.1)).map iv, some (3, 1, n)), (z.2.2.2.b, z.2.2.2.C, some (3, 1, z.2.2.2.c0))] ++ hI (cI l) o) (fun z => z.1 ≤ l.length ∧ bfsRow g h (lev.getD a 0 + 1) (l.take z.1) (lev, q) = (z.2.1, z.2.2.1) ∧ Qok (cI (a :: z.2.2.1)) z.2.2.2 ∧ WI n z.2.1 z.2.2.1 ∧ z.2.1.getD a 0 = lev.getD a 0) (fun z => l.length - z.1) ((0, lev, q, mq))
      (repeat (first | exact KeepF.nil | (apply KeepF.cons; exact rfl) | apply KeepF.skip))
      (repeat (first | exact FrSub.nil | (apply FrSub.cons; exact rfl)))
      (simp only [List.append_nil]; exact HpSub.refl _)
      · exact ⟨Nat.zero_le _, rfl, hq, hw.toWI.pop, rfl⟩
      rintro ⟨i, lv2, q2, m2⟩ ⟨hi, hbr, hq2, hw2, hla⟩
      simp only at hi hbr hq2 hw2 hla
      try dsimp only
      simp only [List.append_nil, List.cons_append, List.nil_append]
      have hq2n := hw2.cnt
      have hq2l := cI_len (a :: q2)
      simp only [List.length_cons] at hq2l
      have hq00 := hq2.at_ (i := 0) (z := (a : Int)) rfl
      by_cases hil : i < l.length
      · rcases o with _ | ⟨bo, co⟩
        · rw [ho rfl] at hil; simp at hil
        have hc : l[i]? = some l[i] := List.getElem?_eq_getElem hil
        generalize l[i] = c at hc
        have hcn := hlw c (List.mem_of_getElem? hc)
        have hck : (cI l)[i]? = some (c : Int) := by simp [cI, hc]
        have hcl := cI_len l
        have hgc := hgl c hcn
        have hlc := cI_at (l := lv2) (c := c) (by rw [hw2.len]; exact hcn)
        have hlaa := cI_at (l := lv2) (c := a) (by rw [hw2.len]; exact han)
        rw [hla] at hlaa
        have hbn := hw2.bnd a
        rw [hla] at hbn
        have hsn := bfsRow_snoc (g := g) (h := h) (d := lev.getD a 0 + 1) (c := c) (l.take i) (lev, q)
        have htk : l.take (i + 1) = l.take i ++ [c] := by rw [List.take_add_one, hc]; rfl
        rw [← htk, hbr] at hsn
        simp only at hsn
        by_cases hcc : lv2.getD c 0 = 0 ∧ gr g c ≤ h
        · rw [if_pos hcc] at hsn
          have hcl2 : c < (cI lv2).length := by rw [cI_len, hw2.len]; exact hcn
          have hset := cI_set lv2 c (lev.getD a 0 + 1)
          have hc0 := hcc.1
          have hc1 := hcc.2
          have hwn : WI n (lv2.set c (lev.getD a 0 + 1)) (q2 ++ [c]) := hw2.one hcn hc0 (by omega) (by omega)
          have hca : c ≠ a := fun e => by rw [e, hla] at hc0; omega
          have hcsn : cI (a :: (q2 ++ [c])) = cI (a :: q2) ++ [(c : Int)] := cI_snoc (a :: q2) c
          repeat' (first
            | ((with_reducible apply oq_id); first | (focus ((with_reducible apply oq_indexAddrN); (iterate 4 exact rfl); omega)) | ((with_reducible apply (oq_addE (k := ((lev.getD a 0 + 1 : Nat) : Int)))); exact rfl; exact rfl; omega) | ((with_reducible apply oq_eqlT); exact rfl; exact rfl; omega) | ((with_reducible apply oq_eqlF); exact rfl; exact rfl; omega) | ((with_reducible apply oq_leqT); exact rfl; exact rfl; omega) | ((with_reducible apply oq_leqF); exact rfl; exact rfl; omega) | (apply oq_fn; exact rfl; try first | exact trivial | (and_intros <;> omega)) | ((with_reducible apply oq_load); exact rfl; exact rfl) | ((with_reducible apply oq_loadAgg); exact rfl; exact rfl) | ((with_reducible apply oq_build); (iterate 3 exact rfl)) | ((with_reducible apply oq_buildA); (iterate 4 exact rfl)) | ((with_reducible apply oq_fieldAgg); (iterate 3 exact rfl)) | ((with_reducible apply oq_indexAgg); (iterate 4 exact rfl)))
            | ((with_reducible apply tl_id); first | (with_reducible apply tl_nil) | ((with_reducible apply u_s); (iterate 3 exact rfl); ((with_reducible apply (os_appQ (hk := app_ok22) (m := m2) (q := cI (a :: q2)) (z := (c : Int)))); exact rfl; exact rfl; exact hq2; omega; (repeat (first | exact P0 | apply P1)); (apply Rd.own; (repeat (first | exact P0 | apply P1)); exact rfl); intro m3 hq3)) | ((with_reducible apply u_q); (iterate 4 exact rfl)) | ((with_reducible apply u_s0); exact rfl; exact rfl) | ((with_reducible apply u_s); (iterate 3 exact rfl)) | ((with_reducible apply u_skip); (iterate 3 exact rfl)) | ((with_reducible apply u_splitD); exact rfl; exact rfl; all_goals first | (intro hp; try (exfalso; omega)) | skip) | ((with_reducible apply u_splitN); exact rfl; exact rfl; all_goals first | (intro hp; try (exfalso; omega)) | skip) | ((with_reducible apply u_split); exact rfl; exact rfl; all_goals first | intro hp | skip))
            | ((with_reducible apply gx_id); first | (with_reducible apply v_nil) | ((with_reducible apply v_q); (iterate 3 exact rfl)) | ((with_reducible apply v_skip); (iterate 3 exact rfl)) | ((with_reducible apply v_splitD); exact rfl; exact rfl; all_goals first | (intro hp; try (exfalso; omega)) | skip) | ((with_reducible apply v_splitN); exact rfl; exact rfl; all_goals first | (intro hp; try (exfalso; omega)) | skip) | ((with_reducible apply v_split); exact rfl; exact rfl; all_goals first | intro hp | skip))
            | ((with_reducible apply os_id); first | ((with_reducible apply (os_storeI hcl2)); (iterate 3 exact rfl); (repeat (first | exact P0 | apply P1)); rw [hset]) | ((with_reducible apply os_x); exact rfl) | ((with_reducible apply os_store); (iterate 4 exact rfl)) | ((with_reducible apply os_storeAgg); (iterate 5 exact rfl)) | ((with_reducible apply os_append (hk := app_ok22)); exact rfl; exact rfl; (repeat (first | exact P0 | apply P1))) | ((with_reducible apply os_appendNil (hk := app_ok22)); exact rfl; exact rfl))
            | ((with_reducible apply ox_id); first | ((with_reducible apply ox_alloc); exact rfl; intro _) | ((with_reducible apply ox_box); exact rfl; exact rfl; intro _) | ((with_reducible apply ox_boxAgg); exact rfl; intro _) | ((with_reducible apply ox_buildSlice1); (iterate 6 exact rfl); intro _) | ((with_reducible apply ox_buildSlice2); (iterate 6 exact rfl); intro _) | ((with_reducible apply ox_buildSlice); (iterate 4 exact rfl)))
            | ((with_reducible apply ai_id); first | ((with_reducible apply ai_s); (iterate 5 exact rfl); ((with_reducible apply (os_appQ (hk := app_ok22) (m := m2) (q := cI (a :: q2)) (z := (c : Int)))); exact rfl; exact rfl; exact hq2; omega; (repeat (first | exact P0 | apply P1)); (apply Rd.own; (repeat (first | exact P0 | apply P1)); exact rfl); intro m3 hq3)) | ((with_reducible apply ai_n); (iterate 4 exact rfl); ((with_reducible apply (os_appQ (hk := app_ok22) (m := m2) (q := cI (a :: q2)) (z := (c : Int)))); exact rfl; exact rfl; exact hq2; omega; (repeat (first | exact P0 | apply P1)); (apply Rd.own; (repeat (first | exact P0 | apply P1)); exact rfl); intro m3 hq3)) | ((with_reducible apply ai_q); (iterate 5 exact rfl)) | ((with_reducible apply ai_x); (iterate 5 exact rfl)) | ((with_reducible apply ai_s0); (iterate 4 exact rfl)) | ((with_reducible apply ai_n0); (iterate 3 exact rfl)) | ((with_reducible apply ai_s); (iterate 5 exact rfl)) | ((with_reducible apply ai_n); (iterate 4 exact rfl)) | ((with_reducible apply ai_skip); (iterate 4 exact rfl)) | ((with_reducible apply ai_splitD); (iterate 3 exact rfl); all_goals first | (intro hp; try (exfalso; omega)) | skip) | ((with_reducible apply ai_splitN); (iterate 3 exact rfl); all_goals first | (intro hp; try (exfalso; omega)) | skip) | ((with_reducible apply ai_split); (iterate 3 exact rfl); all_goals first | intro hp | skip))
            | ((with_reducible apply al_keep); focus (repeat (first | exact HpSub.refl _ | (apply HpSub.cons; (repeat (first | exact P0 | apply P1))) | apply HpSub.skipX | exact HpSub.nil)))
            | ((with_reducible apply rd_id); first | (apply rdI hck; (repeat (first | exact P0 | apply P1)); done) | (apply rdI hlc; (repeat (first | exact P0 | apply P1)); done) | (apply rdI hlaa; (repeat (first | exact P0 | apply P1)); done) | (apply Rd.old; exact hgc; exact List.not_mem_nil) | (apply Rd.own; (repeat (first | exact P0 | apply P1)); exact hq00; done) | (apply Rd.own; (repeat (first | exact P0 | apply P1)); exact rfl; done) | (apply Rd.old; (first | (with_reducible assumption) | exact c0 | exact c1 | exact c2 | exact c3 | exact c4 | exact c5 | exact c6 | exact c7 | exact c8 | exact d0 | exact d1 | exact d2 | exact d3 | exact d4 | exact d5); first | exact List.not_mem_nil | exact m0 | exact m1 | exact m2 | exact m3 | exact m4 | exact m5 | exact m6 | exact m7 | exact m8 | exact m9))
            | ((with_reducible apply t_id); first | (apply t_mix (id := 16) [0, 1, 2, 3, 4, 5, 6, 7, 8, 9] 1 #[false, false, false, false, false, false, false, false, false, false, true]; kernel_rfl; kernel_rfl; exact rfl) | (with_reducible apply t_seq) | (apply t_region; kernel_rfl) | (apply t_drawn; kernel_rfl; decide +kernel; try simp only [List.append_eq, List.cons_append, List.nil_append]) | ((with_reducible apply t_condT); exact rfl) | ((with_reducible apply t_condF); exact rfl) | ((with_reducible apply t_condD); exact rfl; all_goals first | (intro hp; try (exfalso; omega)) | skip) | ((with_reducible apply t_condN); exact rfl; all_goals first | (intro hp; try (exfalso; omega)) | skip) | ((with_reducible apply t_cond); exact rfl; all_goals first | intro hp | skip) | (with_reducible apply t_ret) | (with_reducible apply t_skip) | (with_reducible apply t_exit) | (with_reducible apply t_block))
            | with_reducible apply q_thenN
            | with_reducible apply q_thenR
            | with_reducible apply q_blockR
            | with_reducible apply q_blockN
            | with_reducible apply q_thenE
            | ((with_reducible apply q_blockE); exact rfl)
            | ((with_reducible apply q_blockO); exact rfl)
            | exact P0
            | (with_reducible apply P1)
            | exact Rdn.zero
            | apply Rdn.succ
            | ((with_reducible apply Norm.nil); exact rfl)
            | ((with_reducible apply Norm.cons); exact rfl)
            | (with_reducible apply end_ret)
            | (with_reducible apply end_normal)
            | exact rvs_nil
            | (with_reducible apply rvs_cons)
            | ((with_reducible apply rv_tmp); exact rfl)
            | ((with_reducible apply rv_cell); exact rfl; exact rfl)
            | ((with_reducible apply rv_cellAgg); exact rfl; exact rfl)
            | ((with_reducible apply cut_in0) <;> (repeat' (first | exact FrSub.nil | (apply FrSub.cons; exact rfl) | exact HpSub.refl _ | (apply HpSub.consE; (repeat (first | exact P0 | apply P1)); exact rfl) | apply HpSub.skipX | exact HpSub.nil)))
            | ((with_reducible apply cut_in1) <;> (repeat' (first | exact FrSub.nil | (apply FrSub.cons; exact rfl) | exact HpSub.refl _ | (apply HpSub.consE; (repeat (first | exact P0 | apply P1)); exact rfl) | apply HpSub.skipX | exact HpSub.nil)))
            | ((with_reducible apply cut_in2) <;> (repeat' (first | exact FrSub.nil | (apply FrSub.cons; exact rfl) | exact HpSub.refl _ | (apply HpSub.consE; (repeat (first | exact P0 | apply P1)); exact rfl) | apply HpSub.skipX | exact HpSub.nil)))
            | ((with_reducible apply cut_in3) <;> (repeat' (first | exact FrSub.nil | (apply FrSub.cons; exact rfl) | exact HpSub.refl _ | (apply HpSub.consE; (repeat (first | exact P0 | apply P1)); exact rfl) | apply HpSub.skipX | exact HpSub.nil)))
            | (apply t_mix (id := 16) [0, 1, 2, 3, 4, 5, 6, 7, 8, 9] 1 #[false, false, false, false, false, false, false, false, false, false, true]; kernel_rfl; kernel_rfl; exact rfl)
            | ((with_reducible apply al_id); first | (apply al_done; decide +kernel) | (apply al_one 10; decide +kernel))
            | exact Nat.le_of_ble_eq_true rfl
            | exact (rfl : (_ : Bool) = true)
            | omega
            | (intro _ _; with_reducible apply tl_id)
            | (intro _; with_reducible apply tl_id)
            | (intro _ _; with_reducible apply al_id)
            | (intro _; with_reducible apply al_id))
          all_goals (refine ⟨(i + 1, lv2.set c (lev.getD a 0 + 1), q2 ++ [c], m3), ⟨(by simp only; omega), hsn, (by simp only; rw [hcsn]; exact hq3), hwn, (by simp only; rw [getD_set, if_neg (by omega)]; exact hla)⟩, (by simp only; omega), ?_, ?_⟩)
          all_goals ((try simp only [List.cons_append, List.nil_append, List.append_nil, hcsn]); (repeat' (first | exact FrSub.nil | (apply FrSub.cons; exact rfl) | (apply FrSub.consE; exact rfl; first | (focus (simp [sI, cI, qS]; done)) | skip) | exact HpSub.refl _ | (apply HpSub.consE; (repeat (first | exact P0 | apply P1)); first | exact rfl | (focus (simp [iv, cI]; done))) | apply HpSub.skipX | exact HpSub.nil)))
        · rw [if_neg hcc] at hsn
          by_cases hc0 : lv2.getD c 0 = 0
          · have hc1 : ¬ gr g c ≤ h := fun e => hcc ⟨hc0, e⟩
            repeat' (first
              | ((with_reducible apply oq_id); first | (focus ((with_reducible apply oq_indexAddrN); (iterate 4 exact rfl); omega)) | ((with_reducible apply oq_eqlT); exact rfl; exact rfl; omega) | ((with_reducible apply oq_eqlF); exact rfl; exact rfl; omega) | ((with_reducible apply oq_leqT); exact rfl; exact rfl; omega) | ((with_reducible apply oq_leqF); exact rfl; exact rfl; omega) | (apply oq_fn; exact rfl; try first | exact trivial | (and_intros <;> omega)) | ((with_reducible apply oq_load); exact rfl; exact rfl) | ((with_reducible apply oq_loadAgg); exact rfl; exact rfl) | ((with_reducible apply oq_build); (iterate 3 exact rfl)) | ((with_reducible apply oq_buildA); (iterate 4 exact rfl)) | ((with_reducible apply oq_fieldAgg); (iterate 3 exact rfl)) | ((with_reducible apply oq_indexAgg); (iterate 4 exact rfl)))
              | ((with_reducible apply tl_id); first | (with_reducible apply tl_nil) | ((with_reducible apply u_q); (iterate 4 exact rfl)) | ((with_reducible apply u_s0); exact rfl; exact rfl) | ((with_reducible apply u_s); (iterate 3 exact rfl)) | ((with_reducible apply u_skip); (iterate 3 exact rfl)) | ((with_reducible apply u_splitD); exact rfl; exact rfl; all_goals first | (intro hp; try (exfalso; omega)) | skip) | ((with_reducible apply u_splitN); exact rfl; exact rfl; all_goals first | (intro hp; try (exfalso; omega)) | skip) | ((with_reducible apply u_split); exact rfl; exact rfl; all_goals first | intro hp | skip))
              | ((with_reducible apply gx_id); first | (with_reducible apply v_nil) | ((with_reducible apply v_q); (iterate 3 exact rfl)) | ((with_reducible apply v_skip); (iterate 3 exact rfl)) | ((with_reducible apply v_splitD); exact rfl; exact rfl; all_goals first | (intro hp; try (exfalso; omega)) | skip) | ((with_reducible apply v_splitN); exact rfl; exact rfl; all_goals first | (intro hp; try (exfalso; omega)) | skip) | ((with_reducible apply v_split); exact rfl; exact rfl; all_goals first | intro hp | skip))
              | ((with_reducible apply os_id); first | ((with_reducible apply os_x); exact rfl) | ((with_reducible apply os_store); (iterate 4 exact rfl)) | ((with_reducible apply os_storeAgg); (iterate 5 exact rfl)) | ((with_reducible apply os_append (hk := app_ok22)); exact rfl; exact rfl; (repeat (first | exact P0 | apply P1))) | ((with_reducible apply os_appendNil (hk := app_ok22)); exact rfl; exact rfl))
              | ((with_reducible apply ox_id); first | ((with_reducible apply ox_alloc); exact rfl; intro _) | ((with_reducible apply ox_box); exact rfl; exact rfl; intro _) | ((with_reducible apply ox_boxAgg); exact rfl; intro _) | ((with_reducible apply ox_buildSlice1); (iterate 6 exact rfl); intro _) | ((with_reducible apply ox_buildSlice2); (iterate 6 exact rfl); intro _) | ((with_reducible apply ox_buildSlice); (iterate 4 exact rfl)))
              | ((with_reducible apply rd_id); first | (apply rdI hck; (repeat (first | exact P0 | apply P1)); done) | (apply rdI hlc; (repeat (first | exact P0 | apply P1)); done) | (apply rdI hlaa; (repeat (first | exact P0 | apply P1)); done) | (apply Rd.old; exact hgc; exact List.not_mem_nil) | (apply Rd.own; (repeat (first | exact P0 | apply P1)); exact hq00; done) | (apply Rd.own; (repeat (first | exact P0 | apply P1)); exact rfl; done) | (apply Rd.old; (first | (with_reducible assumption) | exact c0 | exact c1 | exact c2 | exact c3 | exact c4 | exact c5 | exact c6 | exact c7 | exact c8 | exact d0 | exact d1 | exact d2 | exact d3 | exact d4 | exact d5); first | exact List.not_mem_nil | exact m0 | exact m1 | exact m2 | exact m3 | exact m4 | exact m5 | exact m6 | exact m7 | exact m8 | exact m9))
              | ((with_reducible apply t_id); first | (with_reducible apply t_seq) | (apply t_region; kernel_rfl) | (apply t_drawn; kernel_rfl; decide +kernel; try simp only [List.append_eq, List.cons_append, List.nil_append]) | ((with_reducible apply t_condT); exact rfl) | ((with_reducible apply t_condF); exact rfl) | ((with_reducible apply t_condD); exact rfl; all_goals first | (intro hp; try (exfalso; omega)) | skip) | ((with_reducible apply t_condN); exact rfl; all_goals first | (intro hp; try (exfalso; omega)) | skip) | ((with_reducible apply t_cond); exact rfl; all_goals first | intro hp | skip) | (with_reducible apply t_ret) | (with_reducible apply t_skip) | (with_reducible apply t_exit) | (with_reducible apply t_block))
              | with_reducible apply q_thenN
              | with_reducible apply q_thenR
              | with_reducible apply q_blockR
              | with_reducible apply q_blockN
              | with_reducible apply q_thenE
              | ((with_reducible apply q_blockE); exact rfl)
              | ((with_reducible apply q_blockO); exact rfl)
              | exact P0
              | (with_reducible apply P1)
              | exact Rdn.zero
              | apply Rdn.succ
              | ((with_reducible apply Norm.nil); exact rfl)
              | ((with_reducible apply Norm.cons); exact rfl)
              | (with_reducible apply end_ret)
              | (with_reducible apply end_normal)
              | exact rvs_nil
              | (with_reducible apply rvs_cons)
              | ((with_reducible apply rv_tmp); exact rfl)
              | ((with_reducible apply rv_cell); exact rfl; exact rfl)
              | ((with_reducible apply rv_cellAgg); exact rfl; exact rfl)
              | exact Nat.le_of_ble_eq_true rfl
              | exact (rfl : (_ : Bool) = true)
              | omega
              | (intro _ _; with_reducible apply tl_id)
              | (intro _; with_reducible apply tl_id)
              | (intro _ _; with_reducible apply al_id)
              | (intro _; with_reducible apply al_id))
            all_goals (refine ⟨(i + 1, lv2, q2, m2), ⟨(by simp only; omega), hsn, hq2, hw2, hla⟩, (by simp only; omega), ?_, ?_⟩)
            all_goals ((try simp only [List.cons_append, List.nil_append, List.append_nil]); (repeat' (first | exact FrSub.nil | (apply FrSub.cons; exact rfl) | (apply FrSub.consE; exact rfl; first | (focus (simp [sI, cI, qS]; done)) | skip) | exact HpSub.refl _ | (apply HpSub.consE; (repeat (first | exact P0 | apply P1)); first | exact rfl | (focus (simp [iv, cI]; done))) | apply HpSub.skipX | exact HpSub.nil)))
          · repeat' (first
              | ((with_reducible apply oq_id); first | (focus ((with_reducible apply oq_indexAddrN); (iterate 4 exact rfl); omega)) | ((with_reducible apply oq_eqlT); exact rfl; exact rfl; omega) | ((with_reducible apply oq_eqlF); exact rfl; exact rfl; omega) | ((with_reducible apply oq_leqT); exact rfl; exact rfl; omega) | ((with_reducible apply oq_leqF); exact rfl; exact rfl; omega) | (apply oq_fn; exact rfl; try first | exact trivial | (and_intros <;> omega)) | ((with_reducible apply oq_load); exact rfl; exact rfl) | ((with_reducible apply oq_loadAgg); exact rfl; exact rfl) | ((with_reducible apply oq_build); (iterate 3 exact rfl)) | ((with_reducible apply oq_buildA); (iterate 4 exact rfl)) | ((with_reducible apply oq_fieldAgg); (iterate 3 exact rfl)) | ((with_reducible apply oq_indexAgg); (iterate 4 exact rfl)))
              | ((with_reducible apply tl_id); first | (with_reducible apply tl_nil) | ((with_reducible apply u_q); (iterate 4 exact rfl)) | ((with_reducible apply u_s0); exact rfl; exact rfl) | ((with_reducible apply u_s); (iterate 3 exact rfl)) | ((with_reducible apply u_skip); (iterate 3 exact rfl)) | ((with_reducible apply u_splitD); exact rfl; exact rfl; all_goals first | (intro hp; try (exfalso; omega)) | skip) | ((with_reducible apply u_splitN); exact rfl; exact rfl; all_goals first | (intro hp; try (exfalso; omega)) | skip) | ((with_reducible apply u_split); exact rfl; exact rfl; all_goals first | intro hp | skip))
              | ((with_reducible apply gx_id); first | (with_reducible apply v_nil) | ((with_reducible apply v_q); (iterate 3 exact rfl)) | ((with_reducible apply v_skip); (iterate 3 exact rfl)) | ((with_reducible apply v_splitD); exact rfl; exact rfl; all_goals first | (intro hp; try (exfalso; omega)) | skip) | ((with_reducible apply v_splitN); exact rfl; exact rfl; all_goals first | (intro hp; try (exfalso; omega)) | skip) | ((with_reducible apply v_split); exact rfl; exact rfl; all_goals first | intro hp | skip))
              | ((with_reducible apply os_id); first | ((with_reducible apply os_x); exact rfl) | ((with_reducible apply os_store); (iterate 4 exact rfl)) | ((with_reducible apply os_storeAgg); (iterate 5 exact rfl)) | ((with_reducible apply os_append (hk := app_ok22)); exact rfl; exact rfl; (repeat (first | exact P0 | apply P1))) | ((with_reducible apply os_appendNil (hk := app_ok22)); exact rfl; exact rfl))
              | ((with_reducible apply ox_id); first | ((with_reducible apply ox_alloc); exact rfl; intro _) | ((with_reducible apply ox_box); exact rfl; exact rfl; intro _) | ((with_reducible apply ox_boxAgg); exact rfl; intro _) | ((with_reducible apply ox_buildSlice1); (iterate 6 exact rfl); intro _) | ((with_reducible apply ox_buildSlice2); (iterate 6 exact rfl); intro _) | ((with_reducible apply ox_buildSlice); (iterate 4 exact rfl)))
              | ((with_reducible apply rd_id); first | (apply rdI hck; (repeat (first | exact P0 | apply P1)); done) | (apply rdI hlc; (repeat (first | exact P0 | apply P1)); done) | (apply rdI hlaa; (repeat (first | exact P0 | apply P1)); done) | (apply Rd.old; exact hgc; exact List.not_mem_nil) | (apply Rd.own; (repeat (first | exact P0 | apply P1)); exact hq00; done) | (apply Rd.own; (repeat (first | exact P0 | apply P1)); exact rfl; done) | (apply Rd.old; (first | (with_reducible assumption) | exact c0 | exact c1 | exact c2 | exact c3 | exact c4 | exact c5 | exact c6 | exact c7 | exact c8 | exact d0 | exact d1 | exact d2 | exact d3 | exact d4 | exact d5); first | exact List.not_mem_nil | exact m0 | exact m1 | exact m2 | exact m3 | exact m4 | exact m5 | exact m6 | exact m7 | exact m8 | exact m9))
              | ((with_reducible apply t_id); first | (with_reducible apply t_seq) | (apply t_region; kernel_rfl) | (apply t_drawn; kernel_rfl; decide +kernel; try simp only [List.append_eq, List.cons_append, List.nil_append]) | ((with_reducible apply t_condT); exact rfl) | ((with_reducible apply t_condF); exact rfl) | ((with_reducible apply t_condD); exact rfl; all_goals first | (intro hp; try (exfalso; omega)) | skip) | ((with_reducible apply t_condN); exact rfl; all_goals first | (intro hp; try (exfalso; omega)) | skip) | ((with_reducible apply t_cond); exact rfl; all_goals first | intro hp | skip) | (with_reducible apply t_ret) | (with_reducible apply t_skip) | (with_reducible apply t_exit) | (with_reducible apply t_block))
              | with_reducible apply q_thenN
              | with_reducible apply q_thenR
              | with_reducible apply q_blockR
              | with_reducible apply q_blockN
              | with_reducible apply q_thenE
              | ((with_reducible apply q_blockE); exact rfl)
              | ((with_reducible apply q_blockO); exact rfl)
              | exact P0
              | (with_reducible apply P1)
              | exact Rdn.zero
              | apply Rdn.succ
              | ((with_reducible apply Norm.nil); exact rfl)
              | ((with_reducible apply Norm.cons); exact rfl)
              | (with_reducible apply end_ret)
              | (with_reducible apply end_normal)
              | exact rvs_nil
              | (with_reducible apply rvs_cons)
              | ((with_reducible apply rv_tmp); exact rfl)
              | ((with_reducible apply rv_cell); exact rfl; exact rfl)
              | ((with_reducible apply rv_cellAgg); exact rfl; exact rfl)
              | exact Nat.le_of_ble_eq_true rfl
              | exact (rfl : (_ : Bool) = true)
              | omega
              | (intro _ _; with_reducible apply tl_id)
              | (intro _; with_reducible apply tl_id)
              | (intro _ _; with_reducible apply al_id)
              | (intro _; with_reducible apply al_id))
            all_goals (refine ⟨(i + 1, lv2, q2, m2), ⟨(by simp only; omega), hsn, hq2, hw2, hla⟩, (by simp only; omega), ?_, ?_⟩)
            all_goals ((try simp only [List.cons_append, List.nil_append, List.append_nil]); (repeat' (first | exact FrSub.nil | (apply FrSub.cons; exact rfl) | (apply FrSub.consE; exact rfl; first | (focus (simp [sI, cI, qS]; done)) | skip) | exact HpSub.refl _ | (apply HpSub.consE; (repeat (first | exact P0 | apply P1)); first | exact rfl | (focus (simp [iv, cI]; done))) | apply HpSub.skipX | exact HpSub.nil)))
      · obtain rfl : i = l.length := by omega
        rw [List.take_length] at hbr
        rw [hbr] at hbf hrd
        simp only at hbf hrd
        repeat' (first
          | ((with_reducible apply oq_id); first | ((with_reducible apply oq_lssT); exact rfl; exact rfl; omega) | ((with_reducible apply oq_lssF); exact rfl; exact rfl; omega) | (apply oq_fn; exact rfl; try first | exact trivial | (and_intros <;> omega)) | ((with_reducible apply oq_load); exact rfl; exact rfl) | ((with_reducible apply oq_loadAgg); exact rfl; exact rfl) | ((with_reducible apply oq_build); (iterate 3 exact rfl)) | ((with_reducible apply oq_buildA); (iterate 4 exact rfl)) | ((with_reducible apply oq_fieldAgg); (iterate 3 exact rfl)) | ((with_reducible apply oq_indexAgg); (iterate 4 exact rfl)))
          | ((with_reducible apply tl_id); first | (with_reducible apply tl_nil) | ((with_reducible apply u_q); (iterate 4 exact rfl)) | ((with_reducible apply u_s0); exact rfl; exact rfl) | ((with_reducible apply u_s); (iterate 3 exact rfl)) | ((with_reducible apply u_skip); (iterate 3 exact rfl)) | ((with_reducible apply u_splitD); exact rfl; exact rfl; all_goals first | (intro hp; try (exfalso; omega)) | skip) | ((with_reducible apply u_splitN); exact rfl; exact rfl; all_goals first | (intro hp; try (exfalso; omega)) | skip) | ((with_reducible apply u_split); exact rfl; exact rfl; all_goals first | intro hp | skip))
          | ((with_reducible apply gx_id); first | (with_reducible apply v_nil) | ((with_reducible apply v_q); (iterate 3 exact rfl)) | ((with_reducible apply v_skip); (iterate 3 exact rfl)) | ((with_reducible apply v_splitD); exact rfl; exact rfl; all_goals first | (intro hp; try (exfalso; omega)) | skip) | ((with_reducible apply v_splitN); exact rfl; exact rfl; all_goals first | (intro hp; try (exfalso; omega)) | skip) | ((with_reducible apply v_split); exact rfl; exact rfl; all_goals first | intro hp | skip))
          | ((with_reducible apply os_id); first | ((with_reducible apply os_x); exact rfl) | ((with_reducible apply os_store); (iterate 4 exact rfl)) | ((with_reducible apply os_storeAgg); (iterate 5 exact rfl)) | ((with_reducible apply os_append (hk := app_ok22)); exact rfl; exact rfl; (repeat (first | exact P0 | apply P1))) | ((with_reducible apply os_appendNil (hk := app_ok22)); exact rfl; exact rfl))
          | ((with_reducible apply ox_id); first | ((with_reducible apply ox_alloc); exact rfl; intro _) | ((with_reducible apply ox_box); exact rfl; exact rfl; intro _) | ((with_reducible apply ox_boxAgg); exact rfl; intro _) | ((with_reducible apply ox_buildSlice1); (iterate 6 exact rfl); intro _) | ((with_reducible apply ox_buildSlice2); (iterate 6 exact rfl); intro _) | ((with_reducible apply ox_buildSlice); (iterate 4 exact rfl)))
          | ((with_reducible apply rd_id); first | (apply Rd.own; (repeat (first | exact P0 | apply P1)); exact rfl; done) | (apply Rd.old; (first | (with_reducible assumption) | exact c0 | exact c1 | exact c2 | exact c3 | exact c4 | exact c5 | exact c6 | exact c7 | exact c8 | exact d0 | exact d1 | exact d2 | exact d3 | exact d4 | exact d5); first | exact List.not_mem_nil | exact m0 | exact m1 | exact m2 | exact m3 | exact m4 | exact m5 | exact m6 | exact m7 | exact m8 | exact m9))
          | ((with_reducible apply t_id); first | (with_reducible apply t_seq) | (apply t_region; kernel_rfl) | (apply t_drawn; kernel_rfl; decide +kernel; try simp only [List.append_eq, List.cons_append, List.nil_append]) | ((with_reducible apply t_condT); exact rfl) | ((with_reducible apply t_condF); exact rfl) | ((with_reducible apply t_condD); exact rfl; all_goals first | (intro hp; try (exfalso; omega)) | skip) | ((with_reducible apply t_condN); exact rfl; all_goals first | (intro hp; try (exfalso; omega)) | skip) | ((with_reducible apply t_cond); exact rfl; all_goals first | intro hp | skip) | (with_reducible apply t_ret) | (with_reducible apply t_skip) | (with_reducible apply t_exit) | (with_reducible apply t_block))
          | with_reducible apply q_thenN
          | with_reducible apply q_thenR
          | with_reducible apply q_blockR
          | with_reducible apply q_blockN
          | with_reducible apply q_thenE
          | ((with_reducible apply q_blockE); exact rfl)
          | ((with_reducible apply q_blockO); exact rfl)
          | exact P0
          | (with_reducible apply P1)
          | exact Rdn.zero
          | apply Rdn.succ
          | ((with_reducible apply Norm.nil); exact rfl)
          | ((with_reducible apply Norm.cons); exact rfl)
          | (with_reducible apply end_ret)
          | (with_reducible apply end_normal)
          | exact rvs_nil
          | (with_reducible apply rvs_cons)
          | ((with_reducible apply rv_tmp); exact rfl)
          | ((with_reducible apply rv_cell); exact rfl; exact rfl)
          | ((with_reducible apply rv_cellAgg); exact rfl; exact rfl)
          | exact Nat.le_of_ble_eq_true rfl
          | exact (rfl : (_ : Bool) = true)
          | omega
          | (intro _ _; with_reducible apply tl_id)
          | (intro _; with_reducible apply tl_id)
          | (intro _ _; with_reducible apply al_id)
          | (intro _; with_reducible apply al_id))
        all_goals exact ⟨rfl, (lv2, q2, m2), ⟨hbf, hrd, hq2⟩, by (repeat' (first | exact FrSub.nil | (apply FrSub.cons; exact rfl) | (apply FrSub.consE; exact rfl; first | (focus (simp [sI, cI, qS]; done)) | skip) | exact HpSub.refl _ | (apply HpSub.consE; (repeat (first | exact P0 | apply P1)); first | exact rfl | (focus (simp [iv, cI]; done))) | apply HpSub.skipX | exact HpSub.nil)), by (repeat' (first | exact FrSub.nil | (apply FrSub.cons; exact rfl) | (apply FrSub.consE; exact rfl; first | (focus (simp [sI, cI, qS]; done)) | skip) | exact HpSub.refl _ | (apply HpSub.consE; (repeat (first | exact P0 | apply P1)); first | exact rfl | (focus (simp [iv, cI]; done))) | apply HpSub.skipX | exact HpSub.nil))⟩
    rintro ⟨lv2, q2, m2⟩ ⟨hbf2, hrd2, hq2⟩
    simp only at hbf2 hrd2 hq2
    try dsimp only
    have hq2n := hrd2.cnt
    have hq2l := cI_len (a :: q2)
    simp only [List.length_cons] at hq2l
    refine t_fact (P := (cI (a :: q2)).length ≤ m2.cap) (fun M w2 hw2 => hq2.room (hw2.blkP (by (repeat (first | exact P0 | apply P1))))) fun hroom => ?_
    have hqt : Qok (cI q2) m2.tail := hq2.tail hroom
    obtain ⟨tb1, tb2, tb3, tb4⟩ := m2.tail_b
    repeat' (first
      | ((with_reducible apply oq_id); first | ((with_reducible apply (oq_sliceQ (q := cI q2) (m := m2) (z := (a : Int)))); (iterate 4 exact rfl)) | (apply oq_fn; exact rfl; try first | exact trivial | (and_intros <;> omega)) | ((with_reducible apply oq_load); exact rfl; exact rfl) | ((with_reducible apply oq_loadAgg); exact rfl; exact rfl) | ((with_reducible apply oq_build); (iterate 3 exact rfl)) | ((with_reducible apply oq_buildA); (iterate 4 exact rfl)) | ((with_reducible apply oq_fieldAgg); (iterate 3 exact rfl)) | ((with_reducible apply oq_indexAgg); (iterate 4 exact rfl)))
      | ((with_reducible apply tl_id); first | (with_reducible apply tl_nil) | ((with_reducible apply u_q); (iterate 4 exact rfl)) | ((with_reducible apply u_s0); exact rfl; exact rfl) | ((with_reducible apply u_s); (iterate 3 exact rfl)) | ((with_reducible apply u_skip); (iterate 3 exact rfl)) | ((with_reducible apply u_splitD); exact rfl; exact rfl; all_goals first | (intro hp; try (exfalso; omega)) | skip) | ((with_reducible apply u_splitN); exact rfl; exact rfl; all_goals first | (intro hp; try (exfalso; omega)) | skip) | ((with_reducible apply u_split); exact rfl; exact rfl; all_goals first | intro hp | skip))
      | ((with_reducible apply gx_id); first | (with_reducible apply v_nil) | ((with_reducible apply v_q); (iterate 3 exact rfl)) | ((with_reducible apply v_skip); (iterate 3 exact rfl)) | ((with_reducible apply v_splitD); exact rfl; exact rfl; all_goals first | (intro hp; try (exfalso; omega)) | skip) | ((with_reducible apply v_splitN); exact rfl; exact rfl; all_goals first | (intro hp; try (exfalso; omega)) | skip) | ((with_reducible apply v_split); exact rfl; exact rfl; all_goals first | intro hp | skip))
      | ((with_reducible apply os_id); first | ((with_reducible apply os_x); exact rfl) | ((with_reducible apply os_store); (iterate 4 exact rfl)) | ((with_reducible apply os_storeAgg); (iterate 5 exact rfl)) | ((with_reducible apply os_append (hk := app_ok22)); exact rfl; exact rfl; (repeat (first | exact P0 | apply P1))) | ((with_reducible apply os_appendNil (hk := app_ok22)); exact rfl; exact rfl))
      | ((with_reducible apply ox_id); first | ((with_reducible apply ox_alloc); exact rfl; intro _) | ((with_reducible apply ox_box); exact rfl; exact rfl; intro _) | ((with_reducible apply ox_boxAgg); exact rfl; intro _) | ((with_reducible apply ox_buildSlice1); (iterate 6 exact rfl); intro _) | ((with_reducible apply ox_buildSlice2); (iterate 6 exact rfl); intro _) | ((with_reducible apply ox_buildSlice); (iterate 4 exact rfl)))
      | ((with_reducible apply rd_id); first | (apply Rd.own; (repeat (first | exact P0 | apply P1)); exact rfl; done) | (apply Rd.old; (first | (with_reducible assumption) | exact c0 | exact c1 | exact c2 | exact c3 | exact c4 | exact c5 | exact c6 | exact c7 | exact c8 | exact d0 | exact d1 | exact d2 | exact d3 | exact d4 | exact d5); first | exact List.not_mem_nil | exact m0 | exact m1 | exact m2 | exact m3 | exact m4 | exact m5 | exact m6 | exact m7 | exact m8 | exact m9))
      | ((with_reducible apply t_id); first | (with_reducible apply t_seq) | (apply t_region; kernel_rfl) | (apply t_drawn; kernel_rfl; decide +kernel; try simp only [List.append_eq, List.cons_append, List.nil_append]) | ((with_reducible apply t_condT); exact rfl) | ((with_reducible apply t_condF); exact rfl) | ((with_reducible apply t_condD); exact rfl; all_goals first | (intro hp; try (exfalso; omega)) | skip) | ((with_reducible apply t_condN); exact rfl; all_goals first | (intro hp; try (exfalso; omega)) | skip) | ((with_reducible apply t_cond); exact rfl; all_goals first | intro hp | skip) | (with_reducible apply t_ret) | (with_reducible apply t_skip) | (with_reducible apply t_exit) | (with_reducible apply t_block))
      | with_reducible apply q_thenN
      | with_reducible apply q_thenR
      | with_reducible apply q_blockR
      | with_reducible apply q_blockN
      | with_reducible apply q_thenE
      | ((with_reducible apply q_blockE); exact rfl)
      | ((with_reducible apply q_blockO); exact rfl)
      | exact P0
      | (with_reducible apply P1)
      | exact Rdn.zero
      | apply Rdn.succ
      | ((with_reducible apply Norm.nil); exact rfl)
      | ((with_reducible apply Norm.cons); exact rfl)
      | (with_reducible apply end_ret)
      | (with_reducible apply end_normal)
      | exact rvs_nil
      | (with_reducible apply rvs_cons)
      | ((with_reducible apply rv_tmp); exact rfl)
      | ((with_reducible apply rv_cell); exact rfl; exact rfl)
      | ((with_reducible apply rv_cellAgg); exact rfl; exact rfl)
      | exact Nat.le_of_ble_eq_true rfl
      | exact (rfl : (_ : Bool) = true)
      | omega
      | (intro _ _; with_reducible apply tl_id)
      | (intro _; with_reducible apply tl_id)
      | (intro _ _; with_reducible apply al_id)
      | (intro _; with_reducible apply al_id))
    all_goals (refine ⟨(k2, lv2, q2, m2.tail), ⟨hbf2, hrd2, hqt⟩, (by simp only; omega), ?_, ?_⟩)
    all_goals ((try simp only [List.cons_append, List.nil_append, List.append_nil, tb1, tb2, tb3]); (repeat' (first | exact FrSub.nil | (apply FrSub.cons; exact rfl) | (apply FrSub.consE; exact rfl; first | (focus (simp [sI, cI, qS]; done)) | skip) | exact HpSub.refl _ | (apply HpSub.consE; (repeat (first | exact P0 | apply P1)); first | exact rfl | (focus (simp [iv, cI]; done))) | apply HpSub.skipX | exact HpSub.nil)))
  rintro ⟨⟩ -
  try dsimp only
  refine t_cut (ι := Nat × Nat) (fun z => [(1, .int .i64 ((x : Nat) : Int)), (2, .int .i64 ((y : Nat) : Int)), (3, .pointer (some ⟨b3, 0, none⟩)), (6, .pointer (some ⟨b6, 0, none⟩)), (10, .pointer (some ⟨bL, 0, none⟩)), (7, sI (cI [x]) (some z))]) (fun z => [(b3, [.int .i64 ((W : Nat) : Int), .int .i64 ((Hh : Nat) : Int), .slice (some ⟨bA, oA, none⟩) n cp], some (24, 3, 1)), (b6, [.int .i64 h], some (3, 1, 1)), (bL, [.slice (some ⟨bl, 0, none⟩) n n], some (22, 1, 1)), (bl, (cI (L)).map iv, some (3, 1, n))] ++ hI (cI [x]) (some z)) (fun _ => True) ?_ ?_
  · repeat' (first
      | ((with_reducible apply oq_id); first | (apply oq_fn; exact rfl; try first | exact trivial | (and_intros <;> omega)) | ((with_reducible apply oq_load); exact rfl; exact rfl) | ((with_reducible apply oq_loadAgg); exact rfl; exact rfl) | ((with_reducible apply oq_build); (iterate 3 exact rfl)) | ((with_reducible apply oq_buildA); (iterate 4 exact rfl)) | ((with_reducible apply oq_fieldAgg); (iterate 3 exact rfl)) | ((with_reducible apply oq_indexAgg); (iterate 4 exact rfl)))
      | ((with_reducible apply tl_id); first | (with_reducible apply tl_nil) | ((with_reducible apply u_q); (iterate 4 exact rfl)) | ((with_reducible apply u_s0); exact rfl; exact rfl) | ((with_reducible apply u_s); (iterate 3 exact rfl)) | ((with_reducible apply u_skip); (iterate 3 exact rfl)) | ((with_reducible apply u_splitD); exact rfl; exact rfl; all_goals first | (intro hp; try (exfalso; omega)) | skip) | ((with_reducible apply u_splitN); exact rfl; exact rfl; all_goals first | (intro hp; try (exfalso; omega)) | skip) | ((with_reducible apply u_split); exact rfl; exact rfl; all_goals first | intro hp | skip))
      | ((with_reducible apply gx_id); first | (with_reducible apply v_nil) | ((with_reducible apply v_q); (iterate 3 exact rfl)) | ((with_reducible apply v_skip); (iterate 3 exact rfl)) | ((with_reducible apply v_splitD); exact rfl; exact rfl; all_goals first | (intro hp; try (exfalso; omega)) | skip) | ((with_reducible apply v_splitN); exact rfl; exact rfl; all_goals first | (intro hp; try (exfalso; omega)) | skip) | ((with_reducible apply v_split); exact rfl; exact rfl; all_goals first | intro hp | skip))
      | ((with_reducible apply os_id); first | ((with_reducible apply os_x); exact rfl) | ((with_reducible apply os_store); (iterate 4 exact rfl)) | ((with_reducible apply os_storeAgg); (iterate 5 exact rfl)) | ((with_reducible apply os_append (hk := app_ok22)); exact rfl; exact rfl; (repeat (first | exact P0 | apply P1))) | ((with_reducible apply os_appendNil (hk := app_ok22)); exact rfl; exact rfl))
      | ((with_reducible apply ox_id); first | ((with_reducible apply ox_alloc); exact rfl; intro _) | ((with_reducible apply ox_box); exact rfl; exact rfl; intro _) | ((with_reducible apply ox_boxAgg); exact rfl; intro _) | ((with_reducible apply ox_buildSlice1); (iterate 6 exact rfl); intro _) | ((with_reducible apply ox_buildSlice2); (iterate 6 exact rfl); intro _) | ((with_reducible apply ox_buildSlice); (iterate 4 exact rfl)))
      | ((with_reducible apply rd_id); first | (apply Rd.own; (repeat (first | exact P0 | apply P1)); exact rfl; done) | (apply Rd.old; (first | (with_reducible assumption) | exact c0 | exact c1 | exact c2 | exact c3 | exact c4 | exact c5 | exact c6 | exact c7 | exact c8 | exact d0 | exact d1 | exact d2 | exact d3 | exact d4 | exact d5); first | exact List.not_mem_nil | exact m0 | exact m1 | exact m2 | exact m3 | exact m4 | exact m5 | exact m6 | exact m7 | exact m8 | exact m9))
      | ((with_reducible apply t_id); first | (with_reducible apply t_seq) | (apply t_region; kernel_rfl) | (apply t_drawn; kernel_rfl; decide +kernel; try simp only [List.append_eq, List.cons_append, List.nil_append]) | ((with_reducible apply t_condT); exact rfl) | ((with_reducible apply t_condF); exact rfl) | ((with_reducible apply t_condD); exact rfl; all_goals first | (intro hp; try (exfalso; omega)) | skip) | ((with_reducible apply t_condN); exact rfl; all_goals first | (intro hp; try (exfalso; omega)) | skip) | ((with_reducible apply t_cond); exact rfl; all_goals first | intro hp | skip) | (with_reducible apply t_ret) | (with_reducible apply t_skip) | (with_reducible apply t_exit) | (with_reducible apply t_block))
      | with_reducible apply q_thenN
      | with_reducible apply q_thenR
      | with_reducible apply q_blockR
      | with_reducible apply q_blockN
      | with_reducible apply q_thenE
      | ((with_reducible apply q_blockE); exact rfl)
      | ((with_reducible apply q_blockO); exact rfl)
      | exact P0
      | (with_reducible apply P1)
      | exact Rdn.zero
      | apply Rdn.succ
      | ((with_reducible apply Norm.nil); exact rfl)
      | ((with_reducible apply Norm.cons); exact rfl)
      | (with_reducible apply end_ret)
      | (with_reducible apply end_normal)
      | exact rvs_nil
      | (with_reducible apply rvs_cons)
      | ((with_reducible apply rv_tmp); exact rfl)
      | ((with_reducible apply rv_cell); exact rfl; exact rfl)
      | ((with_reducible apply rv_cellAgg); exact rfl; exact rfl)
      | exact Nat.le_of_ble_eq_true rfl
      | exact (rfl : (_ : Bool) = true)
      | omega
      | (intro _ _; with_reducible apply tl_id)
      | (intro _; with_reducible apply tl_id)
      | (intro _ _; with_reducible apply al_id)
      | (intro _; with_reducible apply al_id))
    all_goals (rename_i bN; exact ⟨rfl, (bN, 1), trivial, by (repeat' (first | exact FrSub.nil | (apply FrSub.cons; exact rfl) | (apply FrSub.consE; exact rfl; first | (focus (simp [sI, cI, qS]; done)) | skip) | exact HpSub.refl _ | (apply HpSub.consE; (repeat (first | exact P0 | apply P1)); first | exact rfl | (focus (simp [iv, cI]; done))) | apply HpSub.skipX | exact HpSub.nil)), by (repeat' (first | exact FrSub.nil | (apply FrSub.cons; exact rfl) | (apply FrSub.consE; exact rfl; first | (focus (simp [sI, cI, qS]; done)) | skip) | exact HpSub.refl _ | (apply HpSub.consE; (repeat (first | exact P0 | apply P1)); first | exact rfl | (focus (simp [iv, cI]; done))) | apply HpSub.skipX | exact HpSub.nil))⟩)
  rintro ⟨bp, cq⟩ -
  try dsimp only
  have hLb := hD.bnd
  refine t_cut (ι := Nat × Nat) (fun z => [(6, .pointer (some ⟨b6, 0, none⟩)), (7, sI (cI P) (some z))]) (fun z => (b6, [.int .i64 h], some (3, 1, 1)) :: hI (cI P) (some z)) (fun _ => True) ?_ ?_
  · refine t_cut (ι := Nat) (fun b14 => [(2, .int .i64 ((y : Nat) : Int)), (3, .pointer (some ⟨b3, 0, none⟩)), (6, .pointer (some ⟨b6, 0, none⟩)), (10, .pointer (some ⟨bL, 0, none⟩)), (14, .pointer (some ⟨b14, 0, none⟩)), (7, sI (cI [x]) (some (bp, cq)))]) (fun b14 => [(b3, [.int .i64 ((W : Nat) : Int), .int .i64 ((Hh : Nat) : Int), .slice (some ⟨bA, oA, none⟩) n cp], some (24, 3, 1)), (b6, [.int .i64 h], some (3, 1, 1)), (bL, [.slice (some ⟨bl, 0, none⟩) n n], some (22, 1, 1)), (bl, (cI (L)).map iv, some (3, 1, n)), (b14, [.int .i64 ((x : Nat) : Int)], some (3, 1, 1))] ++ hI (cI [x]) (some (bp, cq))) (fun _ => True) ?_ ?_
    · repeat' (first
        | ((with_reducible apply oq_id); first | (apply oq_fn; exact rfl; try first | exact trivial | (and_intros <;> omega)) | ((with_reducible apply oq_load); exact rfl; exact rfl) | ((with_reducible apply oq_loadAgg); exact rfl; exact rfl) | ((with_reducible apply oq_build); (iterate 3 exact rfl)) | ((with_reducible apply oq_buildA); (iterate 4 exact rfl)) | ((with_reducible apply oq_fieldAgg); (iterate 3 exact rfl)) | ((with_reducible apply oq_indexAgg); (iterate 4 exact rfl)))
        | ((with_reducible apply tl_id); first | (with_reducible apply tl_nil) | ((with_reducible apply u_q); (iterate 4 exact rfl)) | ((with_reducible apply u_s0); exact rfl; exact rfl) | ((with_reducible apply u_s); (iterate 3 exact rfl)) | ((with_reducible apply u_skip); (iterate 3 exact rfl)) | ((with_reducible apply u_splitD); exact rfl; exact rfl; all_goals first | (intro hp; try (exfalso; omega)) | skip) | ((with_reducible apply u_splitN); exact rfl; exact rfl; all_goals first | (intro hp; try (exfalso; omega)) | skip) | ((with_reducible apply u_split); exact rfl; exact rfl; all_goals first | intro hp | skip))
        | ((with_reducible apply gx_id); first | (with_reducible apply v_nil) | ((with_reducible apply v_q); (iterate 3 exact rfl)) | ((with_reducible apply v_skip); (iterate 3 exact rfl)) | ((with_reducible apply v_splitD); exact rfl; exact rfl; all_goals first | (intro hp; try (exfalso; omega)) | skip) | ((with_reducible apply v_splitN); exact rfl; exact rfl; all_goals first | (intro hp; try (exfalso; omega)) | skip) | ((with_reducible apply v_split); exact rfl; exact rfl; all_goals first | intro hp | skip))
        | ((with_reducible apply os_id); first | ((with_reducible apply os_x); exact rfl) | ((with_reducible apply os_store); (iterate 4 exact rfl)) | ((with_reducible apply os_storeAgg); (iterate 5 exact rfl)) | ((with_reducible apply os_append (hk := app_ok22)); exact rfl; exact rfl; (repeat (first | exact P0 | apply P1))) | ((with_reducible apply os_appendNil (hk := app_ok22)); exact rfl; exact rfl))
        | ((with_reducible apply ox_id); first | ((with_reducible apply ox_alloc); exact rfl; intro _) | ((with_reducible apply ox_box); exact rfl; exact rfl; intro _) | ((with_reducible apply ox_boxAgg); exact rfl; intro _) | ((with_reducible apply ox_buildSlice1); (iterate 6 exact rfl); intro _) | ((with_reducible apply ox_buildSlice2); (iterate 6 exact rfl); intro _) | ((with_reducible apply ox_buildSlice); (iterate 4 exact rfl)))
        | ((with_reducible apply rd_id); first | (apply Rd.own; (repeat (first | exact P0 | apply P1)); exact rfl; done) | (apply Rd.old; (first | (with_reducible assumption) | exact c0 | exact c1 | exact c2 | exact c3 | exact c4 | exact c5 | exact c6 | exact c7 | exact c8 | exact d0 | exact d1 | exact d2 | exact d3 | exact d4 | exact d5); first | exact List.not_mem_nil | exact m0 | exact m1 | exact m2 | exact m3 | exact m4 | exact m5 | exact m6 | exact m7 | exact m8 | exact m9))
        | ((with_reducible apply t_id); first | (with_reducible apply t_seq) | (apply t_region; kernel_rfl) | (apply t_drawn; kernel_rfl; decide +kernel; try simp only [List.append_eq, List.cons_append, List.nil_append]) | ((with_reducible apply t_condT); exact rfl) | ((with_reducible apply t_condF); exact rfl) | ((with_reducible apply t_condD); exact rfl; all_goals first | (intro hp; try (exfalso; omega)) | skip) | ((with_reducible apply t_condN); exact rfl; all_goals first | (intro hp; try (exfalso; omega)) | skip) | ((with_reducible apply t_cond); exact rfl; all_goals first | intro hp | skip) | (with_reducible apply t_ret) | (with_reducible apply t_skip) | (with_reducible apply t_exit) | (with_reducible apply t_block))
        | with_reducible apply q_thenN
        | with_reducible apply q_thenR
        | with_reducible apply q_blockR
        | with_reducible apply q_blockN
        | with_reducible apply q_thenE
        | ((with_reducible apply q_blockE); exact rfl)
        | ((with_reducible apply q_blockO); exact rfl)
        | exact P0
        | (with_reducible apply P1)
        | exact Rdn.zero
        | apply Rdn.succ
        | ((with_reducible apply Norm.nil); exact rfl)
        | ((with_reducible apply Norm.cons); exact rfl)
        | (with_reducible apply end_ret)
        | (with_reducible apply end_normal)
        | exact rvs_nil
        | (with_reducible apply rvs_cons)
        | ((with_reducible apply rv_tmp); exact rfl)
        | ((with_reducible apply rv_cell); exact rfl; exact rfl)
        | ((with_reducible apply rv_cellAgg); exact rfl; exact rfl)
        | exact Nat.le_of_ble_eq_true rfl
        | exact (rfl : (_ : Bool) = true)
        | omega
        | (intro _ _; with_reducible apply tl_id)
        | (intro _; with_reducible apply tl_id)
        | (intro _ _; with_reducible apply al_id)
        | (intro _; with_reducible apply al_id))
      all_goals (rename_i bN; exact ⟨rfl, bN, trivial, by (repeat' (first | exact FrSub.nil | (apply FrSub.cons; exact rfl) | (apply FrSub.consE; exact rfl; first | (focus (simp [sI, cI, qS]; done)) | skip) | exact HpSub.refl _ | (apply HpSub.consE; (repeat (first | exact P0 | apply P1)); first | exact rfl | (focus (simp [iv, cI]; done))) | apply HpSub.skipX | exact HpSub.nil)), by (repeat' (first | exact FrSub.nil | (apply FrSub.cons; exact rfl) | (apply FrSub.consE; exact rfl; first | (focus (simp [sI, cI, qS]; done)) | skip) | exact HpSub.refl _ | (apply HpSub.consE; (repeat (first | exact P0 | apply P1)); first | exact rfl | (focus (simp [iv, cI]; done))) | apply HpSub.skipX | exact HpSub.nil))⟩)
    rintro b14 -
    try dsimp only
    repeat' (first
      | ((with_reducible apply oq_id); first | (apply oq_fn; exact rfl; try first | exact trivial | (and_intros <;> omega)) | ((with_reducible apply oq_load); exact rfl; exact rfl) | ((with_reducible apply oq_loadAgg); exact rfl; exact rfl) | ((with_reducible apply oq_build); (iterate 3 exact rfl)) | ((with_reducible apply oq_buildA); (iterate 4 exact rfl)) | ((with_reducible apply oq_fieldAgg); (iterate 3 exact rfl)) | ((with_reducible apply oq_indexAgg); (iterate 4 exact rfl)))
      | ((with_reducible apply tl_id); first | (with_reducible apply tl_nil) | ((with_reducible apply u_q); (iterate 4 exact rfl)) | ((with_reducible apply u_s0); exact rfl; exact rfl) | ((with_reducible apply u_s); (iterate 3 exact rfl)) | ((with_reducible apply u_skip); (iterate 3 exact rfl)) | ((with_reducible apply u_splitD); exact rfl; exact rfl; all_goals first | (intro hp; try (exfalso; omega)) | skip) | ((with_reducible apply u_splitN); exact rfl; exact rfl; all_goals first | (intro hp; try (exfalso; omega)) | skip) | ((with_reducible apply u_split); exact rfl; exact rfl; all_goals first | intro hp | skip))
      | ((with_reducible apply gx_id); first | (with_reducible apply v_nil) | ((with_reducible apply v_q); (iterate 3 exact rfl)) | ((with_reducible apply v_skip); (iterate 3 exact rfl)) | ((with_reducible apply v_splitD); exact rfl; exact rfl; all_goals first | (intro hp; try (exfalso; omega)) | skip) | ((with_reducible apply v_splitN); exact rfl; exact rfl; all_goals first | (intro hp; try (exfalso; omega)) | skip) | ((with_reducible apply v_split); exact rfl; exact rfl; all_goals first | intro hp | skip))
      | ((with_reducible apply os_id); first | ((with_reducible apply os_x); exact rfl) | ((with_reducible apply os_store); (iterate 4 exact rfl)) | ((with_reducible apply os_storeAgg); (iterate 5 exact rfl)) | ((with_reducible apply os_append (hk := app_ok22)); exact rfl; exact rfl; (repeat (first | exact P0 | apply P1))) | ((with_reducible apply os_appendNil (hk := app_ok22)); exact rfl; exact rfl))
      | ((with_reducible apply ox_id); first | ((with_reducible apply ox_alloc); exact rfl; intro _) | ((with_reducible apply ox_box); exact rfl; exact rfl; intro _) | ((with_reducible apply ox_boxAgg); exact rfl; intro _) | ((with_reducible apply ox_buildSlice1); (iterate 6 exact rfl); intro _) | ((with_reducible apply ox_buildSlice2); (iterate 6 exact rfl); intro _) | ((with_reducible apply ox_buildSlice); (iterate 4 exact rfl)))
      | ((with_reducible apply rd_id); first | (apply Rd.own; (repeat (first | exact P0 | apply P1)); exact rfl; done) | (apply Rd.old; (first | (with_reducible assumption) | exact c0 | exact c1 | exact c2 | exact c3 | exact c4 | exact c5 | exact c6 | exact c7 | exact c8 | exact d0 | exact d1 | exact d2 | exact d3 | exact d4 | exact d5); first | exact List.not_mem_nil | exact m0 | exact m1 | exact m2 | exact m3 | exact m4 | exact m5 | exact m6 | exact m7 | exact m8 | exact m9))
      | ((with_reducible apply t_id); first | (with_reducible apply t_seq) | (apply t_region; kernel_rfl) | (apply t_drawn; kernel_rfl; decide +kernel; try simp only [List.append_eq, List.cons_append, List.nil_append]) | ((with_reducible apply t_condT); exact rfl) | ((with_reducible apply t_condF); exact rfl) | ((with_reducible apply t_condD); exact rfl; all_goals first | (intro hp; try (exfalso; omega)) | skip) | ((with_reducible apply t_condN); exact rfl; all_goals first | (intro hp; try (exfalso; omega)) | skip) | ((with_reducible apply t_cond); exact rfl; all_goals first | intro hp | skip) | (with_reducible apply t_ret) | (with_reducible apply t_skip) | (with_reducible apply t_exit) | (with_reducible apply t_block))
      | with_reducible apply q_thenN
      | with_reducible apply q_thenR
      | with_reducible apply q_blockR
      | with_reducible apply q_blockN
      | with_reducible apply q_thenE
      | ((with_reducible apply q_blockE); exact rfl)
      | ((with_reducible apply q_blockO); exact rfl)
      | exact P0
      | (with_reducible apply P1)
      | exact Rdn.zero
      | apply Rdn.succ
      | ((with_reducible apply Norm.nil); exact rfl)
      | ((with_reducible apply Norm.cons); exact rfl)
      | (with_reducible apply end_ret)
      | (with_reducible apply end_normal)
      | exact rvs_nil
      | (with_reducible apply rvs_cons)
      | ((with_reducible apply rv_tmp); exact rfl)
      | ((with_reducible apply rv_cell); exact rfl; exact rfl)
      | ((with_reducible apply rv_cellAgg); exact rfl; exact rfl)
      | exact Nat.le_of_ble_eq_true rfl
      | exact (rfl : (_ : Bool) = true)
      | omega
      | (intro _ _; with_reducible apply tl_id)
      | (intro _; with_reducible apply tl_id)
      | (intro _ _; with_reducible apply al_id)
      | (intro _; with_reducible apply al_id))
    apply t_loopK (GH := []) (ι := Nat × List Nat × Nat × Nat × Nat) [2, 3, 6, 10] (fun z => [(14, .pointer (some ⟨z.2.2.2.2, 0, none⟩)), (7, sI (cI (z.2.1 ++ [z.1])) (some (z.2.2.1, z.2.2.2.1)))]) (fun z => [(b3, [.int .i64 ((W : Nat) : Int), .int .i64 ((Hh : Nat) : Int), .slice (some ⟨bA, oA, none⟩) n cp], some (24, 3, 1)), (b6, [.int .i64 h], some (3, 1, 1)), (bL, [.slice (some ⟨bl, 0, none⟩) n n], some (22, 1, 1)), (bl, (cI (L)).map iv, some (3, 1, n)), (z.2.2.2.2, [.int .i64 ((z.1 : Nat) : Int)], some (3, 1, 1))] ++ hI (cI (z.2.1 ++ [z.1])) (some (z.2.2.1, z.2.2.2.1))) (fun z => ∃ P2, P = z.2.1 ++ P2 ∧ Pth W n L y z.1 P2 ∧ z.1 < n ∧ 0 < L.getD z.1 0 ∧ z.2.1.length + L.getD z.1 0 = L.getD x 0) (fun z => L.getD z.1 0) ((x, [], bp, cq, b14))
    (repeat (first | exact KeepF.nil | (apply KeepF.cons; exact rfl) | apply KeepF.skip))
    (repeat (first | exact FrSub.nil | (apply FrSub.cons; exact rfl)))
    (simp only [List.append_nil]; exact HpSub.refl _)
    · exact ⟨P, rfl, hPt, xn, hxpos, by simp⟩
    rintro ⟨at_, pre, bp, cq, b14⟩ ⟨P2, hPp, hP2, han, hla, hlen⟩
    simp only at hPp hP2 han hla hlen
    try dsimp only
    simp only [List.append_nil, List.cons_append, List.nil_append]
    have hbx := hLb x
    cases hP2 with
    | done =>
      repeat' (first
        | ((with_reducible apply oq_id); first | ((with_reducible apply oq_neqT); exact rfl; exact rfl; omega) | ((with_reducible apply oq_neqF); exact rfl; exact rfl; omega) | (apply oq_fn; exact rfl; try first | exact trivial | (and_intros <;> omega)) | ((with_reducible apply oq_load); exact rfl; exact rfl) | ((with_reducible apply oq_loadAgg); exact rfl; exact rfl) | ((with_reducible apply oq_build); (iterate 3 exact rfl)) | ((with_reducible apply oq_buildA); (iterate 4 exact rfl)) | ((with_reducible apply oq_fieldAgg); (iterate 3 exact rfl)) | ((with_reducible apply oq_indexAgg); (iterate 4 exact rfl)))
        | ((with_reducible apply tl_id); first | (with_reducible apply tl_nil) | ((with_reducible apply u_q); (iterate 4 exact rfl)) | ((with_reducible apply u_s0); exact rfl; exact rfl) | ((with_reducible apply u_s); (iterate 3 exact rfl)) | ((with_reducible apply u_skip); (iterate 3 exact rfl)) | ((with_reducible apply u_splitD); exact rfl; exact rfl; all_goals first | (intro hp; try (exfalso; omega)) | skip) | ((with_reducible apply u_splitN); exact rfl; exact rfl; all_goals first | (intro hp; try (exfalso; omega)) | skip) | ((with_reducible apply u_split); exact rfl; exact rfl; all_goals first | intro hp | skip))
        | ((with_reducible apply gx_id); first | (with_reducible apply v_nil) | ((with_reducible apply v_q); (iterate 3 exact rfl)) | ((with_reducible apply v_skip); (iterate 3 exact rfl)) | ((with_reducible apply v_splitD); exact rfl; exact rfl; all_goals first | (intro hp; try (exfalso; omega)) | skip) | ((with_reducible apply v_splitN); exact rfl; exact rfl; all_goals first | (intro hp; try (exfalso; omega)) | skip) | ((with_reducible apply v_split); exact rfl; exact rfl; all_goals first | intro hp | skip))
        | ((with_reducible apply os_id); first | ((with_reducible apply os_x); exact rfl) | ((with_reducible apply os_store); (iterate 4 exact rfl)) | ((with_reducible apply os_storeAgg); (iterate 5 exact rfl)) | ((with_reducible apply os_append (hk := app_ok22)); exact rfl; exact rfl; (repeat (first | exact P0 | apply P1))) | ((with_reducible apply os_appendNil (hk := app_ok22)); exact rfl; exact rfl))
        | ((with_reducible apply ox_id); first | ((with_reducible apply ox_alloc); exact rfl; intro _) | ((with_reducible apply ox_box); exact rfl; exact rfl; intro _) | ((with_reducible apply ox_boxAgg); exact rfl; intro _) | ((with_reducible apply ox_buildSlice1); (iterate 6 exact rfl); intro _) | ((with_reducible apply ox_buildSlice2); (iterate 6 exact rfl); intro _) | ((with_reducible apply ox_buildSlice); (iterate 4 exact rfl)))
        | ((with_reducible apply rd_id); first | (apply Rd.own; (repeat (first | exact P0 | apply P1)); exact rfl; done) | (apply Rd.old; (first | (with_reducible assumption) | exact c0 | exact c1 | exact c2 | exact c3 | exact c4 | exact c5 | exact c6 | exact c7 | exact c8 | exact d0 | exact d1 | exact d2 | exact d3 | exact d4 | exact d5); first | exact List.not_mem_nil | exact m0 | exact m1 | exact m2 | exact m3 | exact m4 | exact m5 | exact m6 | exact m7 | exact m8 | exact m9))
        | ((with_reducible apply t_id); first | (with_reducible apply t_seq) | (apply t_region; kernel_rfl) | (apply t_drawn; kernel_rfl; decide +kernel; try simp only [List.append_eq, List.cons_append, List.nil_append]) | ((with_reducible apply t_condT); exact rfl) | ((with_reducible apply t_condF); exact rfl) | ((with_reducible apply t_condD); exact rfl; all_goals first | (intro hp; try (exfalso; omega)) | skip) | ((with_reducible apply t_condN); exact rfl; all_goals first | (intro hp; try (exfalso; omega)) | skip) | ((with_reducible apply t_cond); exact rfl; all_goals first | intro hp | skip) | (with_reducible apply t_ret) | (with_reducible apply t_skip) | (with_reducible apply t_exit) | (with_reducible apply t_block))
        | with_reducible apply q_thenN
        | with_reducible apply q_thenR
        | with_reducible apply q_blockR
        | with_reducible apply q_blockN
        | with_reducible apply q_thenE
        | ((with_reducible apply q_blockE); exact rfl)
        | ((with_reducible apply q_blockO); exact rfl)
        | exact P0
        | (with_reducible apply P1)
        | exact Rdn.zero
        | apply Rdn.succ
        | ((with_reducible apply Norm.nil); exact rfl)
        | ((with_reducible apply Norm.cons); exact rfl)
        | (with_reducible apply end_ret)
        | (with_reducible apply end_normal)
        | exact rvs_nil
        | (with_reducible apply rvs_cons)
        | ((with_reducible apply rv_tmp); exact rfl)
        | ((with_reducible apply rv_cell); exact rfl; exact rfl)
        | ((with_reducible apply rv_cellAgg); exact rfl; exact rfl)
        | exact Nat.le_of_ble_eq_true rfl
        | exact (rfl : (_ : Bool) = true)
        | omega
        | (intro _ _; with_reducible apply tl_id)
        | (intro _; with_reducible apply tl_id)
        | (intro _ _; with_reducible apply al_id)
        | (intro _; with_reducible apply al_id))
      all_goals (rw [hPp]; exact ⟨rfl, (bp, cq), trivial, by (repeat' (first | exact FrSub.nil | (apply FrSub.cons; exact rfl) | (apply FrSub.consE; exact rfl; first | (focus (simp [sI, cI, qS]; done)) | skip) | exact HpSub.refl _ | (apply HpSub.consE; (repeat (first | exact P0 | apply P1)); first | exact rfl | (focus (simp [iv, cI]; done))) | apply HpSub.skipX | exact HpSub.nil)), by (repeat' (first | exact FrSub.nil | (apply FrSub.cons; exact rfl) | (apply FrSub.consE; exact rfl; first | (focus (simp [sI, cI, qS]; done)) | skip) | exact HpSub.refl _ | (apply HpSub.consE; (repeat (first | exact P0 | apply P1)); first | exact rfl | (focus (simp [iv, cI]; done))) | apply HpSub.skipX | exact HpSub.nil))⟩)
    | @next _ c l2 hne hnx hk =>
    obtain ⟨hnx1, hnx2⟩ : c ∈ nb W n at_ ∧ L.getD c 0 + 1 = L.getD at_ 0 := by
      obtain ⟨c', h1, h2, h3⟩ := hD.nxt han hla hne
      rw [hnx] at h1
      obtain rfl := Option.some.inj h1
      exact ⟨h2, h3⟩
    have hcn := nb_lt t han hnx1
    have hc1 : 0 < L.getD c 0 := by
      have : L.getD at_ 0 ≠ 1 := fun e => hne ((hD.one at_ han).1 e)
      omega
    have hla1 : 1 < L.getD at_ 0 := by omega
    obtain ⟨aa, bs, hsp, has⟩ : ∃ aa bs, nb W n at_ = aa ++ c :: bs ∧ ∀ z ∈ aa, L.getD z 0 + 1 ≠ L.getD at_ 0 := by
      unfold nxt at hnx
      rw [List.find?_eq_some_iff_append] at hnx
      obtain ⟨_, aa, bs, h1, h2⟩ := hnx
      exact ⟨aa, bs, h1, fun z hz => by have := h2 z hz; simpa using this⟩
    have hnl := nb_len W n at_
    have hnlt : ∀ z ∈ nb W n at_, z < n := fun z hz => nb_lt t han hz
    rw [hsp] at hnl hnlt
    simp only [List.length_append, List.length_cons] at hnl
    have hcl : (cI (aa ++ c :: bs)).length = aa.length + (bs.length + 1) := by rw [cI_len]; simp
    have hcl5 : (cI (aa ++ c :: bs)).length ≤ 576 := by omega
    have hzk : (cI (aa ++ c :: bs))[aa.length]? = some (c : Int) := by
      unfold cI
      rw [List.getElem?_map, List.getElem?_append_right (Nat.le_refl _)]; simp
    have hpl := cI_len (pre ++ [at_])
    simp only [List.length_append, List.length_singleton] at hpl
    refine t_cut (ι := Unit) (fun _ => [(2, .int .i64 ((y : Nat) : Int)), (3, .pointer (some ⟨b3, 0, none⟩)), (6, .pointer (some ⟨b6, 0, none⟩)), (10, .pointer (some ⟨bL, 0, none⟩)), (14, .pointer (some ⟨b14, 0, none⟩)), (7, sI (cI (pre ++ [at_])) (some (bp, cq)))]) (fun _ => [(b3, [.int .i64 ((W : Nat) : Int), .int .i64 ((Hh : Nat) : Int), .slice (some ⟨bA, oA, none⟩) n cp], some (24, 3, 1)), (b6, [.int .i64 h], some (3, 1, 1)), (bL, [.slice (some ⟨bl, 0, none⟩) n n], some (22, 1, 1)), (bl, (cI (L)).map iv, some (3, 1, n)), (b14, [.int .i64 ((at_ : Nat) : Int)], some (3, 1, 1)), (bp, (cI (pre ++ [at_])).map iv, some (3, 1, cq))]) (fun _ => True) ?_ ?_
    · repeat' (first
        | ((with_reducible apply oq_id); first | ((with_reducible apply oq_neqT); exact rfl; exact rfl; omega) | ((with_reducible apply oq_neqF); exact rfl; exact rfl; omega) | (apply oq_fn; exact rfl; try first | exact trivial | (and_intros <;> omega)) | ((with_reducible apply oq_load); exact rfl; exact rfl) | ((with_reducible apply oq_loadAgg); exact rfl; exact rfl) | ((with_reducible apply oq_build); (iterate 3 exact rfl)) | ((with_reducible apply oq_buildA); (iterate 4 exact rfl)) | ((with_reducible apply oq_fieldAgg); (iterate 3 exact rfl)) | ((with_reducible apply oq_indexAgg); (iterate 4 exact rfl)))
        | ((with_reducible apply tl_id); first | (with_reducible apply tl_nil) | ((with_reducible apply u_q); (iterate 4 exact rfl)) | ((with_reducible apply u_s0); exact rfl; exact rfl) | ((with_reducible apply u_s); (iterate 3 exact rfl)) | ((with_reducible apply u_skip); (iterate 3 exact rfl)) | ((with_reducible apply u_splitD); exact rfl; exact rfl; all_goals first | (intro hp; try (exfalso; omega)) | skip) | ((with_reducible apply u_splitN); exact rfl; exact rfl; all_goals first | (intro hp; try (exfalso; omega)) | skip) | ((with_reducible apply u_split); exact rfl; exact rfl; all_goals first | intro hp | skip))
        | ((with_reducible apply gx_id); first | (with_reducible apply v_nil) | ((with_reducible apply v_q); (iterate 3 exact rfl)) | ((with_reducible apply v_skip); (iterate 3 exact rfl)) | ((with_reducible apply v_splitD); exact rfl; exact rfl; all_goals first | (intro hp; try (exfalso; omega)) | skip) | ((with_reducible apply v_splitN); exact rfl; exact rfl; all_goals first | (intro hp; try (exfalso; omega)) | skip) | ((with_reducible apply v_split); exact rfl; exact rfl; all_goals first | intro hp | skip))
        | ((with_reducible apply os_id); first | ((with_reducible apply os_x); exact rfl) | ((with_reducible apply os_store); (iterate 4 exact rfl)) | ((with_reducible apply os_storeAgg); (iterate 5 exact rfl)) | ((with_reducible apply os_append (hk := app_ok22)); exact rfl; exact rfl; (repeat (first | exact P0 | apply P1))) | ((with_reducible apply os_appendNil (hk := app_ok22)); exact rfl; exact rfl))
        | ((with_reducible apply ox_id); first | ((with_reducible apply ox_alloc); exact rfl; intro _) | ((with_reducible apply ox_box); exact rfl; exact rfl; intro _) | ((with_reducible apply ox_boxAgg); exact rfl; intro _) | ((with_reducible apply ox_buildSlice1); (iterate 6 exact rfl); intro _) | ((with_reducible apply ox_buildSlice2); (iterate 6 exact rfl); intro _) | ((with_reducible apply ox_buildSlice); (iterate 4 exact rfl)))
        | ((with_reducible apply rd_id); first | (apply Rd.own; (repeat (first | exact P0 | apply P1)); exact rfl; done) | (apply Rd.old; (first | (with_reducible assumption) | exact c0 | exact c1 | exact c2 | exact c3 | exact c4 | exact c5 | exact c6 | exact c7 | exact c8 | exact d0 | exact d1 | exact d2 | exact d3 | exact d4 | exact d5); first | exact List.not_mem_nil | exact m0 | exact m1 | exact m2 | exact m3 | exact m4 | exact m5 | exact m6 | exact m7 | exact m8 | exact m9))
        | ((with_reducible apply t_id); first | (with_reducible apply t_seq) | (apply t_region; kernel_rfl) | (apply t_drawn; kernel_rfl; decide +kernel; try simp only [List.append_eq, List.cons_append, List.nil_append]) | ((with_reducible apply t_condT); exact rfl) | ((with_reducible apply t_condF); exact rfl) | ((with_reducible apply t_condD); exact rfl; all_goals first | (intro hp; try (exfalso; omega)) | skip) | ((with_reducible apply t_condN); exact rfl; all_goals first | (intro hp; try (exfalso; omega)) | skip) | ((with_reducible apply t_cond); exact rfl; all_goals first | intro hp | skip) | (with_reducible apply t_ret) | (with_reducible apply t_skip) | (with_reducible apply t_exit) | (with_reducible apply t_block))
        | with_reducible apply q_thenN
        | with_reducible apply q_thenR
        | with_reducible apply q_blockR
        | with_reducible apply q_blockN
        | with_reducible apply q_thenE
        | ((with_reducible apply q_blockE); exact rfl)
        | ((with_reducible apply q_blockO); exact rfl)
        | exact P0
        | (with_reducible apply P1)
        | exact Rdn.zero
        | apply Rdn.succ
        | ((with_reducible apply Norm.nil); exact rfl)
        | ((with_reducible apply Norm.cons); exact rfl)
        | (with_reducible apply end_ret)
        | (with_reducible apply end_normal)
        | exact rvs_nil
        | (with_reducible apply rvs_cons)
        | ((with_reducible apply rv_tmp); exact rfl)
        | ((with_reducible apply rv_cell); exact rfl; exact rfl)
        | ((with_reducible apply rv_cellAgg); exact rfl; exact rfl)
        | exact Nat.le_of_ble_eq_true rfl
        | exact (rfl : (_ : Bool) = true)
        | omega
        | (intro _ _; with_reducible apply tl_id)
        | (intro _; with_reducible apply tl_id)
        | (intro _ _; with_reducible apply al_id)
        | (intro _; with_reducible apply al_id))
      all_goals exact ⟨(by first | rfl | trivial), (), trivial, by (repeat' (first | exact FrSub.nil | (apply FrSub.cons; exact rfl) | (apply FrSub.consE; exact rfl; first | (focus (simp [sI, cI, qS]; done)) | skip) | exact HpSub.refl _ | (apply HpSub.consE; (repeat (first | exact P0 | apply P1)); first | exact rfl | (focus (simp [iv, cI]; done))) | apply HpSub.skipX | exact HpSub.nil)), by (repeat' (first | exact FrSub.nil | (apply FrSub.cons; exact rfl) | (apply FrSub.consE; exact rfl; first | (focus (simp [sI, cI, qS]; done)) | skip) | exact HpSub.refl _ | (apply HpSub.consE; (repeat (first | exact P0 | apply P1)); first | exact rfl | (focus (simp [iv, cI]; done))) | apply HpSub.skipX | exact HpSub.nil))⟩
    rintro ⟨⟩ -
    try dsimp only
    refine t_cut (ι := Unit) (fun _ => [(2, .int .i64 ((y : Nat) : Int)), (3, .pointer (some ⟨b3, 0, none⟩)), (6, .pointer (some ⟨b6, 0, none⟩)), (10, .pointer (some ⟨bL, 0, none⟩)), (14, .pointer (some ⟨b14, 0, none⟩)), (7, sI (cI (pre ++ [at_])) (some (bp, cq)))]) (fun _ => [(b3, [.int .i64 ((W : Nat) : Int), .int .i64 ((Hh : Nat) : Int), .slice (some ⟨bA, oA, none⟩) n cp], some (24, 3, 1)), (b6, [.int .i64 h], some (3, 1, 1)), (bL, [.slice (some ⟨bl, 0, none⟩) n n], some (22, 1, 1)), (bl, (cI (L)).map iv, some (3, 1, n)), (b14, [.int .i64 ((c : Nat) : Int)], some (3, 1, 1)), (bp, (cI (pre ++ [at_])).map iv, some (3, 1, cq))]) (fun _ => True) ?_ ?_
    · refine t_block ?_
      refine t_cut (ι := Nat × Nat) (fun z => [(2, .int .i64 ((y : Nat) : Int)), (3, .pointer (some ⟨b3, 0, none⟩)), (6, .pointer (some ⟨b6, 0, none⟩)), (10, .pointer (some ⟨bL, 0, none⟩)), (14, .pointer (some ⟨b14, 0, none⟩)), (7, sI (cI (pre ++ [at_])) (some (bp, cq))), (15, sI (cI (aa ++ c :: bs)) (some z))]) (fun z => [(b3, [.int .i64 ((W : Nat) : Int), .int .i64 ((Hh : Nat) : Int), .slice (some ⟨bA, oA, none⟩) n cp], some (24, 3, 1)), (b6, [.int .i64 h], some (3, 1, 1)), (bL, [.slice (some ⟨bl, 0, none⟩) n n], some (22, 1, 1)), (bl, (cI (L)).map iv, some (3, 1, n)), (b14, [.int .i64 ((at_ : Nat) : Int)], some (3, 1, 1)), (bp, (cI (pre ++ [at_])).map iv, some (3, 1, cq)), (z.1, (cI (aa ++ c :: bs)).map iv, some (3, 1, z.2))]) (fun _ => True) ?_ ?_
      · repeat' (first
          | ((with_reducible apply oq_id); first | (apply oq_fn; exact rfl; try first | exact trivial | (and_intros <;> omega)) | ((with_reducible apply oq_load); exact rfl; exact rfl) | ((with_reducible apply oq_loadAgg); exact rfl; exact rfl) | ((with_reducible apply oq_build); (iterate 3 exact rfl)) | ((with_reducible apply oq_buildA); (iterate 4 exact rfl)) | ((with_reducible apply oq_fieldAgg); (iterate 3 exact rfl)) | ((with_reducible apply oq_indexAgg); (iterate 4 exact rfl)))
          | ((with_reducible apply tl_id); first | (with_reducible apply tl_nil) | ((with_reducible apply u_s); (iterate 3 exact rfl); (with_reducible apply os_callF (PV := LsI (cI (aa ++ c :: bs))) (k := 47) (hc := Try.call47)); exact rfl; exact rfl; exact fun D w1 hw1 => (hsp ▸ around_calls (some ⟨bA, oA, none⟩) cp W Hh n at_ t han w1); rintro _ _ ⟨_ | ⟨bo, co⟩, ho, rfl, rfl⟩; (focus (have hee := ho rfl; simp [cI] at hee)); simp only [List.cons_append, List.nil_append]) | ((with_reducible apply u_q); (iterate 4 exact rfl)) | ((with_reducible apply u_s0); exact rfl; exact rfl) | ((with_reducible apply u_s); (iterate 3 exact rfl)) | ((with_reducible apply u_skip); (iterate 3 exact rfl)) | ((with_reducible apply u_splitD); exact rfl; exact rfl; all_goals first | (intro hp; try (exfalso; omega)) | skip) | ((with_reducible apply u_splitN); exact rfl; exact rfl; all_goals first | (intro hp; try (exfalso; omega)) | skip) | ((with_reducible apply u_split); exact rfl; exact rfl; all_goals first | intro hp | skip))
          | ((with_reducible apply gx_id); first | (with_reducible apply v_nil) | ((with_reducible apply v_q); (iterate 3 exact rfl)) | ((with_reducible apply v_skip); (iterate 3 exact rfl)) | ((with_reducible apply v_splitD); exact rfl; exact rfl; all_goals first | (intro hp; try (exfalso; omega)) | skip) | ((with_reducible apply v_splitN); exact rfl; exact rfl; all_goals first | (intro hp; try (exfalso; omega)) | skip) | ((with_reducible apply v_split); exact rfl; exact rfl; all_goals first | intro hp | skip))
          | ((with_reducible apply os_id); first | ((with_reducible apply os_x); exact rfl) | ((with_reducible apply os_store); (iterate 4 exact rfl)) | ((with_reducible apply os_storeAgg); (iterate 5 exact rfl)) | ((with_reducible apply os_append (hk := app_ok22)); exact rfl; exact rfl; (repeat (first | exact P0 | apply P1))) | ((with_reducible apply os_appendNil (hk := app_ok22)); exact rfl; exact rfl))
          | ((with_reducible apply ox_id); first | ((with_reducible apply ox_alloc); exact rfl; intro _) | ((with_reducible apply ox_box); exact rfl; exact rfl; intro _) | ((with_reducible apply ox_boxAgg); exact rfl; intro _) | ((with_reducible apply ox_buildSlice1); (iterate 6 exact rfl); intro _) | ((with_reducible apply ox_buildSlice2); (iterate 6 exact rfl); intro _) | ((with_reducible apply ox_buildSlice); (iterate 4 exact rfl)))
          | ((with_reducible apply rd_id); first | (apply Rd.own; (repeat (first | exact P0 | apply P1)); exact rfl; done) | (apply Rd.old; (first | (with_reducible assumption) | exact c0 | exact c1 | exact c2 | exact c3 | exact c4 | exact c5 | exact c6 | exact c7 | exact c8 | exact d0 | exact d1 | exact d2 | exact d3 | exact d4 | exact d5); first | exact List.not_mem_nil | exact m0 | exact m1 | exact m2 | exact m3 | exact m4 | exact m5 | exact m6 | exact m7 | exact m8 | exact m9))
          | ((with_reducible apply t_id); first | (with_reducible apply t_seq) | (apply t_region; kernel_rfl) | (apply t_drawn; kernel_rfl; decide +kernel; try simp only [List.append_eq, List.cons_append, List.nil_append]) | ((with_reducible apply t_condT); exact rfl) | ((with_reducible apply t_condF); exact rfl) | ((with_reducible apply t_condD); exact rfl; all_goals first | (intro hp; try (exfalso; omega)) | skip) | ((with_reducible apply t_condN); exact rfl; all_goals first | (intro hp; try (exfalso; omega)) | skip) | ((with_reducible apply t_cond); exact rfl; all_goals first | intro hp | skip) | (with_reducible apply t_ret) | (with_reducible apply t_skip) | (with_reducible apply t_exit) | (with_reducible apply t_block))
          | with_reducible apply q_thenN
          | with_reducible apply q_thenR
          | with_reducible apply q_blockR
          | with_reducible apply q_blockN
          | with_reducible apply q_thenE
          | ((with_reducible apply q_blockE); exact rfl)
          | ((with_reducible apply q_blockO); exact rfl)
          | exact P0
          | (with_reducible apply P1)
          | exact Rdn.zero
          | apply Rdn.succ
          | ((with_reducible apply Norm.nil); exact rfl)
          | ((with_reducible apply Norm.cons); exact rfl)
          | (with_reducible apply end_ret)
          | (with_reducible apply end_normal)
          | exact rvs_nil
          | (with_reducible apply rvs_cons)
          | ((with_reducible apply rv_tmp); exact rfl)
          | ((with_reducible apply rv_cell); exact rfl; exact rfl)
          | ((with_reducible apply rv_cellAgg); exact rfl; exact rfl)
          | exact Nat.le_of_ble_eq_true rfl
          | exact (rfl : (_ : Bool) = true)
          | omega
          | (intro _ _; with_reducible apply tl_id)
          | (intro _; with_reducible apply tl_id)
          | (intro _ _; with_reducible apply al_id)
          | (intro _; with_reducible apply al_id))
        all_goals exact ⟨(by first | rfl | trivial), (bo, co), trivial, by (repeat (first | exact FrSub.nil | (apply FrSub.cons; exact rfl))), by (repeat (first | exact HpSub.refl _ | (apply HpSub.consE; (repeat (first | exact P0 | apply P1)); exact rfl) | apply HpSub.skipX | exact HpSub.nil))⟩
      rintro ⟨bo, co⟩ -
      try dsimp only
      repeat' (first
        | ((with_reducible apply oq_id); first | (focus ((with_reducible apply oq_indexAddrN); (iterate 4 exact rfl); omega)) | (apply oq_fn; exact rfl; try first | exact trivial | (and_intros <;> omega)) | ((with_reducible apply oq_load); exact rfl; exact rfl) | ((with_reducible apply oq_loadAgg); exact rfl; exact rfl) | ((with_reducible apply oq_call (k := 48) (hc := Try.call48)); exact rfl; exact rfl; exact fun D w1 hw1 => index49_calls bL bl b14 b3 b6 bA oA bo co n cp at_ c _ aa bs L g h han n576 hD.bnd hla1 hD.low hnlt hnx2 has rfl hcl5 w1 (hw1.cellAt (C := [.slice (some ⟨bl, 0, none⟩) n n]) (by (repeat (first | exact P0 | apply P1))) rfl) (fun z hz => hw1.cellAt (C := (cI L).map iv) (by (repeat (first | exact P0 | apply P1))) (cI_cell (by rw [hD.len]; exact hz))) (hw1.cellAt (C := [.int .i64 ((at_ : Nat) : Int)]) (by (repeat (first | exact P0 | apply P1))) rfl) (hw1.cellAt (C := [.int .i64 ((W : Nat) : Int), .int .i64 ((Hh : Nat) : Int), .slice (some ⟨bA, oA, none⟩) n cp]) (by (repeat (first | exact P0 | apply P1))) rfl) (fun z hz => hw1.oldc (hgl z hz) List.not_mem_nil) (hw1.cellAt (C := [.int .i64 h]) (by (repeat (first | exact P0 | apply P1))) rfl) (int_rows rfl hw1 (by (repeat (first | exact P0 | apply P1))))) | ((with_reducible apply oq_build); (iterate 3 exact rfl)) | ((with_reducible apply oq_buildA); (iterate 4 exact rfl)) | ((with_reducible apply oq_fieldAgg); (iterate 3 exact rfl)) | ((with_reducible apply oq_indexAgg); (iterate 4 exact rfl)))
        | ((with_reducible apply tl_id); first | (with_reducible apply tl_nil) | ((with_reducible apply u_q); (iterate 4 exact rfl)) | ((with_reducible apply u_s0); exact rfl; exact rfl) | ((with_reducible apply u_s); (iterate 3 exact rfl)) | ((with_reducible apply u_skip); (iterate 3 exact rfl)) | ((with_reducible apply u_splitD); exact rfl; exact rfl; all_goals first | (intro hp; try (exfalso; omega)) | skip) | ((with_reducible apply u_splitN); exact rfl; exact rfl; all_goals first | (intro hp; try (exfalso; omega)) | skip) | ((with_reducible apply u_split); exact rfl; exact rfl; all_goals first | intro hp | skip))
        | ((with_reducible apply gx_id); first | (with_reducible apply v_nil) | ((with_reducible apply v_q); (iterate 3 exact rfl)) | ((with_reducible apply v_skip); (iterate 3 exact rfl)) | ((with_reducible apply v_splitD); exact rfl; exact rfl; all_goals first | (intro hp; try (exfalso; omega)) | skip) | ((with_reducible apply v_splitN); exact rfl; exact rfl; all_goals first | (intro hp; try (exfalso; omega)) | skip) | ((with_reducible apply v_split); exact rfl; exact rfl; all_goals first | intro hp | skip))
        | ((with_reducible apply os_id); first | ((with_reducible apply os_x); exact rfl) | ((with_reducible apply os_store); (iterate 4 exact rfl)) | ((with_reducible apply os_storeAgg); (iterate 5 exact rfl)) | ((with_reducible apply os_append (hk := app_ok22)); exact rfl; exact rfl; (repeat (first | exact P0 | apply P1))) | ((with_reducible apply os_appendNil (hk := app_ok22)); exact rfl; exact rfl))
        | ((with_reducible apply ox_id); first | ((with_reducible apply ox_alloc); exact rfl; intro _) | ((with_reducible apply ox_box); exact rfl; exact rfl; intro _) | ((with_reducible apply ox_boxAgg); exact rfl; intro _) | ((with_reducible apply ox_buildSlice1); (iterate 6 exact rfl); intro _) | ((with_reducible apply ox_buildSlice2); (iterate 6 exact rfl); intro _) | ((with_reducible apply ox_buildSlice); (iterate 4 exact rfl)))
        | ((with_reducible apply rd_id); first | (apply rdI hzk; (repeat (first | exact P0 | apply P1)); done) | (apply Rd.own; (repeat (first | exact P0 | apply P1)); exact rfl; done) | (apply Rd.old; (first | (with_reducible assumption) | exact c0 | exact c1 | exact c2 | exact c3 | exact c4 | exact c5 | exact c6 | exact c7 | exact c8 | exact d0 | exact d1 | exact d2 | exact d3 | exact d4 | exact d5); first | exact List.not_mem_nil | exact m0 | exact m1 | exact m2 | exact m3 | exact m4 | exact m5 | exact m6 | exact m7 | exact m8 | exact m9))
        | ((with_reducible apply t_id); first | (with_reducible apply t_seq) | (apply t_region; kernel_rfl) | (apply t_drawn; kernel_rfl; decide +kernel; try simp only [List.append_eq, List.cons_append, List.nil_append]) | ((with_reducible apply t_condT); exact rfl) | ((with_reducible apply t_condF); exact rfl) | ((with_reducible apply t_condD); exact rfl; all_goals first | (intro hp; try (exfalso; omega)) | skip) | ((with_reducible apply t_condN); exact rfl; all_goals first | (intro hp; try (exfalso; omega)) | skip) | ((with_reducible apply t_cond); exact rfl; all_goals first | intro hp | skip) | (with_reducible apply t_ret) | (with_reducible apply t_skip) | (with_reducible apply t_exit) | (with_reducible apply t_block))
        | with_reducible apply q_thenN
        | with_reducible apply q_thenR
        | with_reducible apply q_blockR
        | with_reducible apply q_blockN
        | with_reducible apply q_thenE
        | ((with_reducible apply q_blockE); exact rfl)
        | ((with_reducible apply q_blockO); exact rfl)
        | exact P0
        | (with_reducible apply P1)
        | exact Rdn.zero
        | apply Rdn.succ
        | ((with_reducible apply Norm.nil); exact rfl)
        | ((with_reducible apply Norm.cons); exact rfl)
        | (with_reducible apply end_ret)
        | (with_reducible apply end_normal)
        | exact rvs_nil
        | (with_reducible apply rvs_cons)
        | ((with_reducible apply rv_tmp); exact rfl)
        | ((with_reducible apply rv_cell); exact rfl; exact rfl)
        | ((with_reducible apply rv_cellAgg); exact rfl; exact rfl)
        | exact Nat.le_of_ble_eq_true rfl
        | exact (rfl : (_ : Bool) = true)
        | omega
        | (intro _ _; with_reducible apply tl_id)
        | (intro _; with_reducible apply tl_id)
        | (intro _ _; with_reducible apply al_id)
        | (intro _; with_reducible apply al_id))
      all_goals exact ⟨rfl, (), trivial, by (repeat' (first | exact FrSub.nil | (apply FrSub.cons; exact rfl) | (apply FrSub.consE; exact rfl; first | (focus (simp [sI, cI, qS]; done)) | skip) | exact HpSub.refl _ | (apply HpSub.consE; (repeat (first | exact P0 | apply P1)); first | exact rfl | (focus (simp [iv, cI]; done))) | apply HpSub.skipX | exact HpSub.nil)), by (repeat' (first | exact FrSub.nil | (apply FrSub.cons; exact rfl) | (apply FrSub.consE; exact rfl; first | (focus (simp [sI, cI, qS]; done)) | skip) | exact HpSub.refl _ | (apply HpSub.consE; (repeat (first | exact P0 | apply P1)); first | exact rfl | (focus (simp [iv, cI]; done))) | apply HpSub.skipX | exact HpSub.nil))⟩
    rintro ⟨⟩ -
    try dsimp only
    refine t_cut (ι := Nat) (fun b15 => [(2, .int .i64 ((y : Nat) : Int)), (3, .pointer (some ⟨b3, 0, none⟩)), (6, .pointer (some ⟨b6, 0, none⟩)), (10, .pointer (some ⟨bL, 0, none⟩)), (14, .pointer (some ⟨b15, 0, none⟩)), (7, sI (cI (pre ++ [at_])) (some (bp, cq)))]) (fun b15 => [(b3, [.int .i64 ((W : Nat) : Int), .int .i64 ((Hh : Nat) : Int), .slice (some ⟨bA, oA, none⟩) n cp], some (24, 3, 1)), (b6, [.int .i64 h], some (3, 1, 1)), (bL, [.slice (some ⟨bl, 0, none⟩) n n], some (22, 1, 1)), (bl, (cI (L)).map iv, some (3, 1, n)), (b15, [.int .i64 ((c : Nat) : Int)], some (3, 1, 1)), (bp, (cI (pre ++ [at_])).map iv, some (3, 1, cq))]) (fun _ => True) ?_ ?_
    · repeat' (first
        | ((with_reducible apply oq_id); first | (apply oq_fn; exact rfl; try first | exact trivial | (and_intros <;> omega)) | ((with_reducible apply oq_load); exact rfl; exact rfl) | ((with_reducible apply oq_loadAgg); exact rfl; exact rfl) | ((with_reducible apply oq_build); (iterate 3 exact rfl)) | ((with_reducible apply oq_buildA); (iterate 4 exact rfl)) | ((with_reducible apply oq_fieldAgg); (iterate 3 exact rfl)) | ((with_reducible apply oq_indexAgg); (iterate 4 exact rfl)))
        | ((with_reducible apply tl_id); first | (with_reducible apply tl_nil) | ((with_reducible apply u_q); (iterate 4 exact rfl)) | ((with_reducible apply u_s0); exact rfl; exact rfl) | ((with_reducible apply u_s); (iterate 3 exact rfl)) | ((with_reducible apply u_skip); (iterate 3 exact rfl)) | ((with_reducible apply u_splitD); exact rfl; exact rfl; all_goals first | (intro hp; try (exfalso; omega)) | skip) | ((with_reducible apply u_splitN); exact rfl; exact rfl; all_goals first | (intro hp; try (exfalso; omega)) | skip) | ((with_reducible apply u_split); exact rfl; exact rfl; all_goals first | intro hp | skip))
        | ((with_reducible apply gx_id); first | (with_reducible apply v_nil) | ((with_reducible apply v_q); (iterate 3 exact rfl)) | ((with_reducible apply v_skip); (iterate 3 exact rfl)) | ((with_reducible apply v_splitD); exact rfl; exact rfl; all_goals first | (intro hp; try (exfalso; omega)) | skip) | ((with_reducible apply v_splitN); exact rfl; exact rfl; all_goals first | (intro hp; try (exfalso; omega)) | skip) | ((with_reducible apply v_split); exact rfl; exact rfl; all_goals first | intro hp | skip))
        | ((with_reducible apply os_id); first | ((with_reducible apply os_x); exact rfl) | ((with_reducible apply os_store); (iterate 4 exact rfl)) | ((with_reducible apply os_storeAgg); (iterate 5 exact rfl)) | ((with_reducible apply os_append (hk := app_ok22)); exact rfl; exact rfl; (repeat (first | exact P0 | apply P1))) | ((with_reducible apply os_appendNil (hk := app_ok22)); exact rfl; exact rfl))
        | ((with_reducible apply ox_id); first | ((with_reducible apply ox_alloc); exact rfl; intro _) | ((with_reducible apply ox_box); exact rfl; exact rfl; intro _) | ((with_reducible apply ox_boxAgg); exact rfl; intro _) | ((with_reducible apply ox_buildSlice1); (iterate 6 exact rfl); intro _) | ((with_reducible apply ox_buildSlice2); (iterate 6 exact rfl); intro _) | ((with_reducible apply ox_buildSlice); (iterate 4 exact rfl)))
        | ((with_reducible apply rd_id); first | (apply Rd.own; (repeat (first | exact P0 | apply P1)); exact rfl; done) | (apply Rd.old; (first | (with_reducible assumption) | exact c0 | exact c1 | exact c2 | exact c3 | exact c4 | exact c5 | exact c6 | exact c7 | exact c8 | exact d0 | exact d1 | exact d2 | exact d3 | exact d4 | exact d5); first | exact List.not_mem_nil | exact m0 | exact m1 | exact m2 | exact m3 | exact m4 | exact m5 | exact m6 | exact m7 | exact m8 | exact m9))
        | ((with_reducible apply t_id); first | (with_reducible apply t_seq) | (apply t_region; kernel_rfl) | (apply t_drawn; kernel_rfl; decide +kernel; try simp only [List.append_eq, List.cons_append, List.nil_append]) | ((with_reducible apply t_condT); exact rfl) | ((with_reducible apply t_condF); exact rfl) | ((with_reducible apply t_condD); exact rfl; all_goals first | (intro hp; try (exfalso; omega)) | skip) | ((with_reducible apply t_condN); exact rfl; all_goals first | (intro hp; try (exfalso; omega)) | skip) | ((with_reducible apply t_cond); exact rfl; all_goals first | intro hp | skip) | (with_reducible apply t_ret) | (with_reducible apply t_skip) | (with_reducible apply t_exit) | (with_reducible apply t_block))
        | with_reducible apply q_thenN
        | with_reducible apply q_thenR
        | with_reducible apply q_blockR
        | with_reducible apply q_blockN
        | with_reducible apply q_thenE
        | ((with_reducible apply q_blockE); exact rfl)
        | ((with_reducible apply q_blockO); exact rfl)
        | exact P0
        | (with_reducible apply P1)
        | exact Rdn.zero
        | apply Rdn.succ
        | ((with_reducible apply Norm.nil); exact rfl)
        | ((with_reducible apply Norm.cons); exact rfl)
        | (with_reducible apply end_ret)
        | (with_reducible apply end_normal)
        | exact rvs_nil
        | (with_reducible apply rvs_cons)
        | ((with_reducible apply rv_tmp); exact rfl)
        | ((with_reducible apply rv_cell); exact rfl; exact rfl)
        | ((with_reducible apply rv_cellAgg); exact rfl; exact rfl)
        | exact Nat.le_of_ble_eq_true rfl
        | exact (rfl : (_ : Bool) = true)
        | omega
        | (intro _ _; with_reducible apply tl_id)
        | (intro _; with_reducible apply tl_id)
        | (intro _ _; with_reducible apply al_id)
        | (intro _; with_reducible apply al_id))
      all_goals (rename_i bN; exact ⟨rfl, bN, trivial, by (repeat' (first | exact FrSub.nil | (apply FrSub.cons; exact rfl) | (apply FrSub.consE; exact rfl; first | (focus (simp [sI, cI, qS]; done)) | skip) | exact HpSub.refl _ | (apply HpSub.consE; (repeat (first | exact P0 | apply P1)); first | exact rfl | (focus (simp [iv, cI]; done))) | apply HpSub.skipX | exact HpSub.nil)), by (repeat' (first | exact FrSub.nil | (apply FrSub.cons; exact rfl) | (apply FrSub.consE; exact rfl; first | (focus (simp [sI, cI, qS]; done)) | skip) | exact HpSub.refl _ | (apply HpSub.consE; (repeat (first | exact P0 | apply P1)); first | exact rfl | (focus (simp [iv, cI]; done))) | apply HpSub.skipX | exact HpSub.nil))⟩)
    rintro b15 -
    try dsimp only
    repeat' (first
      | ((with_reducible apply oq_id); first | (apply oq_fn; exact rfl; try first | exact trivial | (and_intros <;> omega)) | ((with_reducible apply oq_load); exact rfl; exact rfl) | ((with_reducible apply oq_loadAgg); exact rfl; exact rfl) | ((with_reducible apply oq_build); (iterate 3 exact rfl)) | ((with_reducible apply oq_buildA); (iterate 4 exact rfl)) | ((with_reducible apply oq_fieldAgg); (iterate 3 exact rfl)) | ((with_reducible apply oq_indexAgg); (iterate 4 exact rfl)))
      | ((with_reducible apply tl_id); first | (with_reducible apply tl_nil) | ((with_reducible apply u_q); (iterate 4 exact rfl)) | ((with_reducible apply u_s0); exact rfl; exact rfl) | ((with_reducible apply u_s); (iterate 3 exact rfl)) | ((with_reducible apply u_skip); (iterate 3 exact rfl)) | ((with_reducible apply u_splitD); exact rfl; exact rfl; all_goals first | (intro hp; try (exfalso; omega)) | skip) | ((with_reducible apply u_splitN); exact rfl; exact rfl; all_goals first | (intro hp; try (exfalso; omega)) | skip) | ((with_reducible apply u_split); exact rfl; exact rfl; all_goals first | intro hp | skip))
      | ((with_reducible apply gx_id); first | (with_reducible apply v_nil) | ((with_reducible apply v_q); (iterate 3 exact rfl)) | ((with_reducible apply v_skip); (iterate 3 exact rfl)) | ((with_reducible apply v_splitD); exact rfl; exact rfl; all_goals first | (intro hp; try (exfalso; omega)) | skip) | ((with_reducible apply v_splitN); exact rfl; exact rfl; all_goals first | (intro hp; try (exfalso; omega)) | skip) | ((with_reducible apply v_split); exact rfl; exact rfl; all_goals first | intro hp | skip))
      | ((with_reducible apply os_id); first | ((with_reducible apply os_x); exact rfl) | ((with_reducible apply os_store); (iterate 4 exact rfl)) | ((with_reducible apply os_storeAgg); (iterate 5 exact rfl)) | ((with_reducible apply os_append (hk := app_ok22)); exact rfl; exact rfl; (repeat (first | exact P0 | apply P1))) | ((with_reducible apply os_appendNil (hk := app_ok22)); exact rfl; exact rfl))
      | ((with_reducible apply ox_id); first | ((with_reducible apply ox_alloc); exact rfl; intro _) | ((with_reducible apply ox_box); exact rfl; exact rfl; intro _) | ((with_reducible apply ox_boxAgg); exact rfl; intro _) | ((with_reducible apply ox_buildSlice1); (iterate 6 exact rfl); intro _) | ((with_reducible apply ox_buildSlice2); (iterate 6 exact rfl); intro _) | ((with_reducible apply ox_buildSlice); (iterate 4 exact rfl)))
      | ((with_reducible apply rd_id); first | (apply Rd.own; (repeat (first | exact P0 | apply P1)); exact rfl; done) | (apply Rd.old; (first | (with_reducible assumption) | exact c0 | exact c1 | exact c2 | exact c3 | exact c4 | exact c5 | exact c6 | exact c7 | exact c8 | exact d0 | exact d1 | exact d2 | exact d3 | exact d4 | exact d5); first | exact List.not_mem_nil | exact m0 | exact m1 | exact m2 | exact m3 | exact m4 | exact m5 | exact m6 | exact m7 | exact m8 | exact m9))
      | ((with_reducible apply t_id); first | (with_reducible apply t_seq) | (apply t_region; kernel_rfl) | (apply t_drawn; kernel_rfl; decide +kernel; try simp only [List.append_eq, List.cons_append, List.nil_append]) | ((with_reducible apply t_condT); exact rfl) | ((with_reducible apply t_condF); exact rfl) | ((with_reducible apply t_condD); exact rfl; all_goals first | (intro hp; try (exfalso; omega)) | skip) | ((with_reducible apply t_condN); exact rfl; all_goals first | (intro hp; try (exfalso; omega)) | skip) | ((with_reducible apply t_cond); exact rfl; all_goals first | intro hp | skip) | (with_reducible apply t_ret) | (with_reducible apply t_skip) | (with_reducible apply t_exit) | (with_reducible apply t_block))
      | with_reducible apply q_thenN
      | with_reducible apply q_thenR
      | with_reducible apply q_blockR
      | with_reducible apply q_blockN
      | with_reducible apply q_thenE
      | ((with_reducible apply q_blockE); exact rfl)
      | ((with_reducible apply q_blockO); exact rfl)
      | exact P0
      | (with_reducible apply P1)
      | exact Rdn.zero
      | apply Rdn.succ
      | ((with_reducible apply Norm.nil); exact rfl)
      | ((with_reducible apply Norm.cons); exact rfl)
      | (with_reducible apply end_ret)
      | (with_reducible apply end_normal)
      | exact rvs_nil
      | (with_reducible apply rvs_cons)
      | ((with_reducible apply rv_tmp); exact rfl)
      | ((with_reducible apply rv_cell); exact rfl; exact rfl)
      | ((with_reducible apply rv_cellAgg); exact rfl; exact rfl)
      | exact iv_len _
      | exact Nat.le_of_ble_eq_true rfl
      | exact (rfl : (_ : Bool) = true)
      | omega
      | (intro _ _; with_reducible apply tl_id)
      | (intro _; with_reducible apply tl_id)
      | (intro _ _; with_reducible apply al_id)
      | (intro _; with_reducible apply al_id))
    all_goals (rename_i bN cN; refine ⟨(c, pre ++ [at_], bN, cN, b15), ⟨l2, (by rw [hPp, List.append_assoc]; rfl), hk, hcn, hc1, (by simp only [List.length_append, List.length_singleton]; omega)⟩, (by simp only; omega), ?_, ?_⟩)
    all_goals ((try simp only [List.cons_append, List.nil_append, List.append_nil, sI_snoc, hI_snoc]); (repeat' (first | exact FrSub.nil | (apply FrSub.cons; exact rfl) | (apply FrSub.consE; exact rfl; first | (focus (simp [sI, cI, qS]; done)) | skip) | exact HpSub.refl _ | (apply HpSub.consE; (repeat (first | exact P0 | apply P1)); first | exact rfl | (focus (simp [iv, cI]; done))) | apply HpSub.skipX | exact HpSub.nil)))
  rintro ⟨bp, cq⟩ -
  try dsimp only
  repeat' (first
    | ((with_reducible apply oq_id); first | (apply oq_fn; exact rfl; try first | exact trivial | (and_intros <;> omega)) | ((with_reducible apply oq_load); exact rfl; exact rfl) | ((with_reducible apply oq_loadAgg); exact rfl; exact rfl) | ((with_reducible apply oq_build); (iterate 3 exact rfl)) | ((with_reducible apply oq_buildA); (iterate 4 exact rfl)) | ((with_reducible apply oq_fieldAgg); (iterate 3 exact rfl)) | ((with_reducible apply oq_indexAgg); (iterate 4 exact rfl)))
    | ((with_reducible apply tl_id); first | (with_reducible apply tl_nil) | ((with_reducible apply u_q); (iterate 4 exact rfl)) | ((with_reducible apply u_s0); exact rfl; exact rfl) | ((with_reducible apply u_s); (iterate 3 exact rfl)) | ((with_reducible apply u_skip); (iterate 3 exact rfl)) | ((with_reducible apply u_splitD); exact rfl; exact rfl; all_goals first | (intro hp; try (exfalso; omega)) | skip) | ((with_reducible apply u_splitN); exact rfl; exact rfl; all_goals first | (intro hp; try (exfalso; omega)) | skip) | ((with_reducible apply u_split); exact rfl; exact rfl; all_goals first | intro hp | skip))
    | ((with_reducible apply gx_id); first | (with_reducible apply v_nil) | ((with_reducible apply v_q); (iterate 3 exact rfl)) | ((with_reducible apply v_skip); (iterate 3 exact rfl)) | ((with_reducible apply v_splitD); exact rfl; exact rfl; all_goals first | (intro hp; try (exfalso; omega)) | skip) | ((with_reducible apply v_splitN); exact rfl; exact rfl; all_goals first | (intro hp; try (exfalso; omega)) | skip) | ((with_reducible apply v_split); exact rfl; exact rfl; all_goals first | intro hp | skip))
    | ((with_reducible apply os_id); first | ((with_reducible apply os_x); exact rfl) | ((with_reducible apply os_store); (iterate 4 exact rfl)) | ((with_reducible apply os_storeAgg); (iterate 5 exact rfl)) | ((with_reducible apply os_append (hk := app_ok22)); exact rfl; exact rfl; (repeat (first | exact P0 | apply P1))) | ((with_reducible apply os_appendNil (hk := app_ok22)); exact rfl; exact rfl))
    | ((with_reducible apply ox_id); first | ((with_reducible apply ox_alloc); exact rfl; intro _) | ((with_reducible apply ox_box); exact rfl; exact rfl; intro _) | ((with_reducible apply ox_boxAgg); exact rfl; intro _) | ((with_reducible apply ox_buildSlice1); (iterate 6 exact rfl); intro _) | ((with_reducible apply ox_buildSlice2); (iterate 6 exact rfl); intro _) | ((with_reducible apply ox_buildSlice); (iterate 4 exact rfl)))
    | ((with_reducible apply rd_id); first | (apply Rd.own; (repeat (first | exact P0 | apply P1)); exact rfl; done) | (apply Rd.old; (first | (with_reducible assumption) | exact c0 | exact c1 | exact c2 | exact c3 | exact c4 | exact c5 | exact c6 | exact c7 | exact c8 | exact d0 | exact d1 | exact d2 | exact d3 | exact d4 | exact d5); first | exact List.not_mem_nil | exact m0 | exact m1 | exact m2 | exact m3 | exact m4 | exact m5 | exact m6 | exact m7 | exact m8 | exact m9))
    | ((with_reducible apply t_id); first | (with_reducible apply t_seq) | (apply t_region; kernel_rfl) | (apply t_drawn; kernel_rfl; decide +kernel; try simp only [List.append_eq, List.cons_append, List.nil_append]) | ((with_reducible apply t_condT); exact rfl) | ((with_reducible apply t_condF); exact rfl) | ((with_reducible apply t_condD); exact rfl; all_goals first | (intro hp; try (exfalso; omega)) | skip) | ((with_reducible apply t_condN); exact rfl; all_goals first | (intro hp; try (exfalso; omega)) | skip) | ((with_reducible apply t_cond); exact rfl; all_goals first | intro hp | skip) | (with_reducible apply t_ret) | (with_reducible apply t_skip) | (with_reducible apply t_exit) | (with_reducible apply t_block))
    | with_reducible apply q_thenN
    | with_reducible apply q_thenR
    | with_reducible apply q_blockR
    | with_reducible apply q_blockN
    | with_reducible apply q_thenE
    | ((with_reducible apply q_blockE); exact rfl)
    | ((with_reducible apply q_blockO); exact rfl)
    | exact P0
    | (with_reducible apply P1)
    | exact Rdn.zero
    | apply Rdn.succ
    | ((with_reducible apply Norm.nil); exact rfl)
    | ((with_reducible apply Norm.cons); exact rfl)
    | (with_reducible apply end_ret)
    | (with_reducible apply end_normal)
    | exact rvs_nil
    | (with_reducible apply rvs_cons)
    | ((with_reducible apply rv_tmp); exact rfl)
    | ((with_reducible apply rv_cell); exact rfl; exact rfl)
    | ((with_reducible apply rv_cellAgg); exact rfl; exact rfl)
    | exact Nat.le_of_ble_eq_true rfl
    | exact (rfl : (_ : Bool) = true)
    | omega
    | (intro _ _; with_reducible apply tl_id)
    | (intro _; with_reducible apply tl_id)
    | (intro _ _; with_reducible apply al_id)
    | (intro _; with_reducible apply al_id))
  all_goals exact ⟨_, ⟨some (bp, cq), (fun h => by cases h), rfl, rfl⟩, by (repeat (first | exact HpSub.refl _ | (apply HpSub.consE; (repeat (first | exact P0 | apply P1)); exact rfl) | apply HpSub.skipX | exact HpSub.nil))⟩
end Go.Proofs.Ytcjkndjjbjoehaa
