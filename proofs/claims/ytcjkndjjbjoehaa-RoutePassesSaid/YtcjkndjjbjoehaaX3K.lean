/- A part of the proof: rules for walks, and contracts of functions (11). -/
import Derived.Test.YtcjkndjjbjoehaaX3I
import Derived.Test.YtcjkndjjbjoehaaX3J
import Derived.Test.YtcjkndjjbjoehaaX3B
import Derived.ProofKit
import Derived.Lib.SmallJoins
import Derived.Test.YtcjkndjjbjoehaaX3A
import Derived.Test.YtcjkndjjbjoehaaChecked
import Derived.Test.YtcjkndjjbjoehaaRows
import Derived.Carry
set_option linter.unusedVariables false
set_option linter.unusedSimpArgs false
set_option maxRecDepth 100000
set_option maxHeartbeats 2000000
namespace Go.Proofs.Ytcjkndjjbjoehaa
open Go.RowKit
attribute [local irreducible] OQ OS OX Rd T TL GX GL AL AI RV wpG SAny Calls
theorem Pth.len {W n b : Nat} {g : List Int} {h : Int} {L : List Nat} {a : Nat} {l : List Nat} (d : Dist W n g h b L) (hb : b < n) (k : Pth W n L b a l) (ha : a < n) (h0 : 0 < L.getD a 0) (hlt : ∀ a c, a < n → c ∈ nb W n a → c < n) : l.length = L.getD a 0 := by
  induction k with
  | done => rw [(d.one b hb).2 rfl]; rfl
  | next hne hn k ih =>
    obtain ⟨c', h1, h2, h3⟩ := d.nxt ha h0 hne
    rw [hn] at h1
    obtain rfl := Option.some.inj h1
    have h4 := hlt _ _ ha h2
    have : L.getD _ 0 ≠ 1 := fun e => hne ((d.one _ ha).1 e)
    rw [List.length_cons, ih h4 (by omega)]; omega
theorem isP_len {W Hh a b e h : Int} {g : List Int} {P : List Nat} (hP : IsP W Hh g a b e h P) : P.length ≤ g.length + 1 := by
  cases hP with
  | ground _ => simp
  | arg _ _ => simp
  | @ok w n x y k h L P hT hw hn hx hy xn yn hh hB hD hPt =>
    obtain ⟨W, Hh, rfl, rfl, t, hg⟩ := ter_of hT
    obtain rfl : W = w := by omega
    subst hn
    have := hPt.len hD yn xn (hD.reach t yn (hh.is.symm t xn)) (fun a c ha hc => nb_lt t ha hc)
    have := hD.bnd x
    omega
theorem rds_none (w : World) : RdS w 1 none 0 (([] : List Int).map inCells) := ⟨rfl, fun h => absurd h (by omega)⟩
theorem same_calls (A A' : Option Addr) (n c n' c' : Nat) (l m : List Int) (q : Bool) (hq : q = true ↔ l = m) (w : World) (hr : RdS w 1 A n (l.map inCells)) (hr' : RdS w 1 A' n' (m.map inCells)) (hn : n ≤ 1000000) (hn' : n' ≤ 1000000) :
    Calls Try.prog 12 #[.slice A n c, .slice A' n' c'] w fun e w' => e = .returned (.bool q) ∧ Ext w w' := by
  refine enterQ (c := cx w 8) Try.func12 rfl rfl rfl rfl ?_
  repeat' (first
    | ((with_reducible apply oq_id); first | (apply oq_fn; exact rfl; try first | exact trivial | (and_intros <;> omega)) | ((with_reducible apply oq_load); exact rfl; exact rfl) | ((with_reducible apply oq_loadAgg); exact rfl; exact rfl) | ((with_reducible apply oq_call (k := 54) (hc := Try.call54)); exact rfl; exact rfl; exact fun D w1 hw1 => sameInts_calls A A' n c n' c' l m q hq w1 (hr.ext hw1.ext.ext) (hr'.ext hw1.ext.ext) hn hn') | ((with_reducible apply oq_build); (iterate 3 exact rfl)) | ((with_reducible apply oq_buildA); (iterate 4 exact rfl)) | ((with_reducible apply oq_fieldAgg); (iterate 3 exact rfl)) | ((with_reducible apply oq_indexAgg); (iterate 4 exact rfl)))
    | ((with_reducible apply tl_id); first | (with_reducible apply tl_nil) | ((with_reducible apply u_q); (iterate 4 exact rfl)) | ((with_reducible apply u_s0); exact rfl; exact rfl) | ((with_reducible apply u_s); (iterate 3 exact rfl)) | ((with_reducible apply u_skip); (iterate 3 exact rfl)) | ((with_reducible apply u_splitD); exact rfl; exact rfl; all_goals first | (intro hp; try (exfalso; omega)) | skip) | ((with_reducible apply u_splitN); exact rfl; exact rfl; all_goals first | (intro hp; try (exfalso; omega)) | skip) | ((with_reducible apply u_split); exact rfl; exact rfl; all_goals first | intro hp | skip))
    | ((with_reducible apply gx_id); first | (with_reducible apply v_nil) | ((with_reducible apply v_q); (iterate 3 exact rfl)) | ((with_reducible apply v_skip); (iterate 3 exact rfl)) | ((with_reducible apply v_splitD); exact rfl; exact rfl; all_goals first | (intro hp; try (exfalso; omega)) | skip) | ((with_reducible apply v_splitN); exact rfl; exact rfl; all_goals first | (intro hp; try (exfalso; omega)) | skip) | ((with_reducible apply v_split); exact rfl; exact rfl; all_goals first | intro hp | skip))
    | ((with_reducible apply os_id); first | ((with_reducible apply os_x); exact rfl) | ((with_reducible apply os_store); (iterate 4 exact rfl)) | ((with_reducible apply os_storeAgg); (iterate 5 exact rfl)))
    | ((with_reducible apply ox_id); first | ((with_reducible apply ox_alloc); exact rfl; intro _) | ((with_reducible apply ox_box); exact rfl; exact rfl; intro _) | ((with_reducible apply ox_boxAgg); exact rfl; intro _) | ((with_reducible apply ox_buildSlice1); (iterate 6 exact rfl); intro _) | ((with_reducible apply ox_buildSlice2); (iterate 6 exact rfl); intro _) | ((with_reducible apply ox_buildSlice); (iterate 4 exact rfl)))
    | ((with_reducible apply rd_id); first | (apply Rd.own; (repeat (first | exact P0 | apply P1)); exact rfl; done) | (apply Rd.old; (first | (with_reducible assumption) | exact c0 | exact c1 | exact c2 | exact c3 | exact c4 | exact c5 | exact c6 | exact c7 | exact c8 | exact d0 | exact d1 | exact d2 | exact d3 | exact d4 | exact d5); first | exact List.not_mem_nil | exact m0 | exact m1 | exact m2 | exact m3 | exact m4 | exact m5 | exact m6 | exact m7 | exact m8 | exact m9))
    | ((with_reducible apply t_id); first | (with_reducible apply t_seq) | (apply t_region; kernel_rfl) | (apply t_drawn; kernel_rfl; decide +kernel; try simp only [List.append_eq, List.cons_append, List.nil_append]) | ((with_reducible apply t_condT); exact rfl) | ((with_reducible apply t_condF); exact rfl) | ((with_reducible apply t_condD); exact rfl; all_goals first | (intro hp; try (exfalso; omega)) | skip) | ((with_reducible apply t_condN); exact rfl; all_goals first | (intro hp; try (exfalso; omega)) | skip) | ((with_reducible apply t_cond); exact rfl; all_goals first | intro hp | skip) | (with_reducible apply t_ret) | (with_reducible apply t_skip) | (with_reducible apply t_exit) | (with_reducible apply t_block))
    | with_reducible apply q_thenN
    | with_reducible apply q_thenR
    | with_reducible apply q_blockR
    | with_reducible apply q_blockN
    | with_reducible apply q_thenE
    | ((with_reducible apply q_blockE); exact rfl)
    | ((with_reducible apply q_blockO); exact rfl)
    | exact P0
    | (with_reducible apply P1)
    | exact Rdn.zero
    | apply Rdn.succ
    | ((with_reducible apply Norm.nil); exact rfl)
    | ((with_reducible apply Norm.cons); exact rfl)
    | (with_reducible apply end_ret)
    | (with_reducible apply end_normal)
    | exact rvs_nil
    | (with_reducible apply rvs_cons)
    | ((with_reducible apply rv_tmp); exact rfl)
    | ((with_reducible apply rv_cell); exact rfl; exact rfl)
    | ((with_reducible apply rv_cellAgg); exact rfl; exact rfl)
    | exact Nat.le_of_ble_eq_true rfl
    | exact (rfl : (_ : Bool) = true)
    | omega
    | (intro _ _; with_reducible apply tl_id)
    | (intro _; with_reducible apply tl_id)
    | (intro _ _; with_reducible apply al_id)
    | (intro _; with_reducible apply al_id))
  all_goals rfl
theorem routePasses_T (A : Option Addr) (n cp : Nat) (W Hh a b : Int) (g : List Int) (w : World) (hr : RdS w 1 A n (g.map inCells)) :
    Calls Try.prog 3 #[.agg #[.int .i64 W, .int .i64 Hh, .slice A n cp], .int .i64 a, .int .i64 b] w fun e w' => e = .returned (.bool true) ∧ Ext w w' := by
  have hl : g.length = n := by simpa using hr.len
  by_cases h7 : 700 < n
  · refine enterQ (c := cx w 67) Try.func3 rfl rfl rfl rfl ?_
    repeat' (first
      | ((with_reducible apply oq_id); first | ((with_reducible apply oq_gtrT); exact rfl; exact rfl; omega) | ((with_reducible apply oq_gtrF); exact rfl; exact rfl; omega) | (apply oq_fn; exact rfl; try first | exact trivial | (and_intros <;> omega)) | ((with_reducible apply oq_load); exact rfl; exact rfl) | ((with_reducible apply oq_loadAgg); exact rfl; exact rfl) | ((with_reducible apply oq_build); (iterate 3 exact rfl)) | ((with_reducible apply oq_buildA); (iterate 4 exact rfl)) | ((with_reducible apply oq_fieldAgg); (iterate 3 exact rfl)) | ((with_reducible apply oq_indexAgg); (iterate 4 exact rfl)))
      | ((with_reducible apply tl_id); first | (with_reducible apply tl_nil) | ((with_reducible apply u_q); (iterate 4 exact rfl)) | ((with_reducible apply u_s0); exact rfl; exact rfl) | ((with_reducible apply u_s); (iterate 3 exact rfl)) | ((with_reducible apply u_skip); (iterate 3 exact rfl)) | ((with_reducible apply u_splitD); exact rfl; exact rfl; all_goals first | (intro hp; try (exfalso; omega)) | skip) | ((with_reducible apply u_splitN); exact rfl; exact rfl; all_goals first | (intro hp; try (exfalso; omega)) | skip) | ((with_reducible apply u_split); exact rfl; exact rfl; all_goals first | intro hp | skip))
      | ((with_reducible apply gx_id); first | (with_reducible apply v_nil) | ((with_reducible apply v_q); (iterate 3 exact rfl)) | ((with_reducible apply v_skip); (iterate 3 exact rfl)) | ((with_reducible apply v_splitD); exact rfl; exact rfl; all_goals first | (intro hp; try (exfalso; omega)) | skip) | ((with_reducible apply v_splitN); exact rfl; exact rfl; all_goals first | (intro hp; try (exfalso; omega)) | skip) | ((with_reducible apply v_split); exact rfl; exact rfl; all_goals first | intro hp | skip))
      | ((with_reducible apply os_id); first | ((with_reducible apply os_x); exact rfl) | ((with_reducible apply os_store); (iterate 4 exact rfl)) | ((with_reducible apply os_storeAgg); (iterate 5 exact rfl)))
      | ((with_reducible apply ox_id); first | ((with_reducible apply ox_alloc); exact rfl; intro _) | ((with_reducible apply ox_box); exact rfl; exact rfl; intro _) | ((with_reducible apply ox_boxAgg); exact rfl; intro _) | ((with_reducible apply ox_buildSlice1); (iterate 6 exact rfl); intro _) | ((with_reducible apply ox_buildSlice2); (iterate 6 exact rfl); intro _) | ((with_reducible apply ox_buildSlice); (iterate 4 exact rfl)))
      | ((with_reducible apply rd_id); first | (apply Rd.own; (repeat (first | exact P0 | apply P1)); exact rfl; done) | (apply Rd.old; (first | (with_reducible assumption) | exact c0 | exact c1 | exact c2 | exact c3 | exact c4 | exact c5 | exact c6 | exact c7 | exact c8 | exact d0 | exact d1 | exact d2 | exact d3 | exact d4 | exact d5); first | exact List.not_mem_nil | exact m0 | exact m1 | exact m2 | exact m3 | exact m4 | exact m5 | exact m6 | exact m7 | exact m8 | exact m9))
      | ((with_reducible apply t_id); first | (with_reducible apply t_seq) | (apply t_region; kernel_rfl) | (apply t_drawn; kernel_rfl; decide +kernel; try simp only [List.append_eq, List.cons_append, List.nil_append]) | ((with_reducible apply t_condT); exact rfl) | ((with_reducible apply t_condF); exact rfl) | ((with_reducible apply t_condD); exact rfl; all_goals first | (intro hp; try (exfalso; omega)) | skip) | ((with_reducible apply t_condN); exact rfl; all_goals first | (intro hp; try (exfalso; omega)) | skip) | ((with_reducible apply t_cond); exact rfl; all_goals first | intro hp | skip) | (with_reducible apply t_ret) | (with_reducible apply t_skip) | (with_reducible apply t_exit) | (with_reducible apply t_block))
      | with_reducible apply q_thenN
      | with_reducible apply q_thenR
      | with_reducible apply q_blockR
      | with_reducible apply q_blockN
      | with_reducible apply q_thenE
      | ((with_reducible apply q_blockE); exact rfl)
      | ((with_reducible apply q_blockO); exact rfl)
      | exact P0
      | (with_reducible apply P1)
      | exact Rdn.zero
      | apply Rdn.succ
      | ((with_reducible apply Norm.nil); exact rfl)
      | ((with_reducible apply Norm.cons); exact rfl)
      | (with_reducible apply end_ret)
      | (with_reducible apply end_normal)
      | exact rvs_nil
      | (with_reducible apply rvs_cons)
      | ((with_reducible apply rv_tmp); exact rfl)
      | ((with_reducible apply rv_cell); exact rfl; exact rfl)
      | ((with_reducible apply rv_cellAgg); exact rfl; exact rfl)
      | exact Nat.le_of_ble_eq_true rfl
      | exact (rfl : (_ : Bool) = true)
      | omega
      | (intro _ _; with_reducible apply tl_id)
      | (intro _; with_reducible apply tl_id)
      | (intro _ _; with_reducible apply al_id)
      | (intro _; with_reducible apply al_id))
    all_goals rfl
  have hn : n ≤ 1000000 := by omega
  obtain ⟨e, h, P, hP⟩ := isP_ex W Hh g a b
  have hPl : (cI P).length ≤ 1000000 := by rw [cI_len]; have := isP_len hP; omega
  refine enterQ (c := cx w 67) Try.func3 rfl rfl rfl rfl ?_
  refine t_cut (ι := Nat) (fun b3 => [(1, .int .i64 a), (2, .int .i64 b), (3, .pointer (some ⟨b3, 0, none⟩))]) (fun b3 => [(b3, [.int .i64 W, .int .i64 Hh, .slice A n cp], some (24, 3, 1))]) (fun _ => True) ?_ ?_
  · repeat' (first
      | ((with_reducible apply oq_id); first | (apply oq_fn; exact rfl; try first | exact trivial | (and_intros <;> omega)) | ((with_reducible apply oq_load); exact rfl; exact rfl) | ((with_reducible apply oq_loadAgg); exact rfl; exact rfl) | ((with_reducible apply oq_build); (iterate 3 exact rfl)) | ((with_reducible apply oq_buildA); (iterate 4 exact rfl)) | ((with_reducible apply oq_fieldAgg); (iterate 3 exact rfl)) | ((with_reducible apply oq_indexAgg); (iterate 4 exact rfl)))
      | ((with_reducible apply tl_id); first | (with_reducible apply tl_nil) | ((with_reducible apply u_q); (iterate 4 exact rfl)) | ((with_reducible apply u_s0); exact rfl; exact rfl) | ((with_reducible apply u_s); (iterate 3 exact rfl)) | ((with_reducible apply u_skip); (iterate 3 exact rfl)) | ((with_reducible apply u_splitD); exact rfl; exact rfl; all_goals first | (intro hp; try (exfalso; omega)) | skip) | ((with_reducible apply u_splitN); exact rfl; exact rfl; all_goals first | (intro hp; try (exfalso; omega)) | skip) | ((with_reducible apply u_split); exact rfl; exact rfl; all_goals first | intro hp | skip))
      | ((with_reducible apply gx_id); first | (with_reducible apply v_nil) | ((with_reducible apply v_q); (iterate 3 exact rfl)) | ((with_reducible apply v_skip); (iterate 3 exact rfl)) | ((with_reducible apply v_splitD); exact rfl; exact rfl; all_goals first | (intro hp; try (exfalso; omega)) | skip) | ((with_reducible apply v_splitN); exact rfl; exact rfl; all_goals first | (intro hp; try (exfalso; omega)) | skip) | ((with_reducible apply v_split); exact rfl; exact rfl; all_goals first | intro hp | skip))
      | ((with_reducible apply os_id); first | ((with_reducible apply os_x); exact rfl) | ((with_reducible apply os_store); (iterate 4 exact rfl)) | ((with_reducible apply os_storeAgg); (iterate 5 exact rfl)))
      | ((with_reducible apply ox_id); first | ((with_reducible apply ox_alloc); exact rfl; intro _) | ((with_reducible apply ox_box); exact rfl; exact rfl; intro _) | ((with_reducible apply ox_boxAgg); exact rfl; intro _) | ((with_reducible apply ox_buildSlice1); (iterate 6 exact rfl); intro _) | ((with_reducible apply ox_buildSlice2); (iterate 6 exact rfl); intro _) | ((with_reducible apply ox_buildSlice); (iterate 4 exact rfl)))
      | ((with_reducible apply rd_id); first | (apply Rd.own; (repeat (first | exact P0 | apply P1)); exact rfl; done) | (apply Rd.old; (first | (with_reducible assumption) | exact c0 | exact c1 | exact c2 | exact c3 | exact c4 | exact c5 | exact c6 | exact c7 | exact c8 | exact d0 | exact d1 | exact d2 | exact d3 | exact d4 | exact d5); first | exact List.not_mem_nil | exact m0 | exact m1 | exact m2 | exact m3 | exact m4 | exact m5 | exact m6 | exact m7 | exact m8 | exact m9))
      | ((with_reducible apply t_id); first | (with_reducible apply t_seq) | (apply t_region; kernel_rfl) | (apply t_drawn; kernel_rfl; decide +kernel; try simp only [List.append_eq, List.cons_append, List.nil_append]) | ((with_reducible apply t_condT); exact rfl) | ((with_reducible apply t_condF); exact rfl) | ((with_reducible apply t_condD); exact rfl; all_goals first | (intro hp; try (exfalso; omega)) | skip) | ((with_reducible apply t_condN); exact rfl; all_goals first | (intro hp; try (exfalso; omega)) | skip) | ((with_reducible apply t_cond); exact rfl; all_goals first | intro hp | skip) | (with_reducible apply t_ret) | (with_reducible apply t_skip) | (with_reducible apply t_exit) | (with_reducible apply t_block))
      | with_reducible apply q_thenN
      | with_reducible apply q_thenR
      | with_reducible apply q_blockR
      | with_reducible apply q_blockN
      | with_reducible apply q_thenE
      | ((with_reducible apply q_blockE); exact rfl)
      | ((with_reducible apply q_blockO); exact rfl)
      | exact P0
      | (with_reducible apply P1)
      | exact Rdn.zero
      | apply Rdn.succ
      | ((with_reducible apply Norm.nil); exact rfl)
      | ((with_reducible apply Norm.cons); exact rfl)
      | (with_reducible apply end_ret)
      | (with_reducible apply end_normal)
      | exact rvs_nil
      | (with_reducible apply rvs_cons)
      | ((with_reducible apply rv_tmp); exact rfl)
      | ((with_reducible apply rv_cell); exact rfl; exact rfl)
      | ((with_reducible apply rv_cellAgg); exact rfl; exact rfl)
      | exact Nat.le_of_ble_eq_true rfl
      | exact (rfl : (_ : Bool) = true)
      | omega
      | (intro _ _; with_reducible apply tl_id)
      | (intro _; with_reducible apply tl_id)
      | (intro _ _; with_reducible apply al_id)
      | (intro _; with_reducible apply al_id))
    all_goals exact ⟨rfl, _, trivial, by (repeat (first | exact FrSub.nil | (apply FrSub.cons; exact rfl))), by (repeat (first | exact HpSub.refl _ | (apply HpSub.consE; (repeat (first | exact P0 | apply P1)); exact rfl) | exact HpSub.nil))⟩
  rintro b3 -
  try dsimp only
  refine t_cut (ι := Unit) (fun _ => [(1, .int .i64 a), (2, .int .i64 b), (3, .pointer (some ⟨b3, 0, none⟩))]) (fun _ => [(b3, [.int .i64 W, .int .i64 Hh, .slice A n cp], some (24, 3, 1))]) (fun _ => True) ?_ ?_
  · repeat' (first
      | ((with_reducible apply oq_id); first | ((with_reducible apply oq_gtrT); exact rfl; exact rfl; omega) | ((with_reducible apply oq_gtrF); exact rfl; exact rfl; omega) | (apply oq_fn; exact rfl; try first | exact trivial | (and_intros <;> omega)) | ((with_reducible apply oq_load); exact rfl; exact rfl) | ((with_reducible apply oq_loadAgg); exact rfl; exact rfl) | ((with_reducible apply oq_build); (iterate 3 exact rfl)) | ((with_reducible apply oq_buildA); (iterate 4 exact rfl)) | ((with_reducible apply oq_fieldAgg); (iterate 3 exact rfl)) | ((with_reducible apply oq_indexAgg); (iterate 4 exact rfl)))
      | ((with_reducible apply tl_id); first | (with_reducible apply tl_nil) | ((with_reducible apply u_q); (iterate 4 exact rfl)) | ((with_reducible apply u_s0); exact rfl; exact rfl) | ((with_reducible apply u_s); (iterate 3 exact rfl)) | ((with_reducible apply u_skip); (iterate 3 exact rfl)) | ((with_reducible apply u_splitD); exact rfl; exact rfl; all_goals first | (intro hp; try (exfalso; omega)) | skip) | ((with_reducible apply u_splitN); exact rfl; exact rfl; all_goals first | (intro hp; try (exfalso; omega)) | skip) | ((with_reducible apply u_split); exact rfl; exact rfl; all_goals first | intro hp | skip))
      | ((with_reducible apply gx_id); first | (with_reducible apply v_nil) | ((with_reducible apply v_q); (iterate 3 exact rfl)) | ((with_reducible apply v_skip); (iterate 3 exact rfl)) | ((with_reducible apply v_splitD); exact rfl; exact rfl; all_goals first | (intro hp; try (exfalso; omega)) | skip) | ((with_reducible apply v_splitN); exact rfl; exact rfl; all_goals first | (intro hp; try (exfalso; omega)) | skip) | ((with_reducible apply v_split); exact rfl; exact rfl; all_goals first | intro hp | skip))
      | ((with_reducible apply os_id); first | ((with_reducible apply os_x); exact rfl) | ((with_reducible apply os_store); (iterate 4 exact rfl)) | ((with_reducible apply os_storeAgg); (iterate 5 exact rfl)))
      | ((with_reducible apply ox_id); first | ((with_reducible apply ox_alloc); exact rfl; intro _) | ((with_reducible apply ox_box); exact rfl; exact rfl; intro _) | ((with_reducible apply ox_boxAgg); exact rfl; intro _) | ((with_reducible apply ox_buildSlice1); (iterate 6 exact rfl); intro _) | ((with_reducible apply ox_buildSlice2); (iterate 6 exact rfl); intro _) | ((with_reducible apply ox_buildSlice); (iterate 4 exact rfl)))
      | ((with_reducible apply rd_id); first | (apply Rd.own; (repeat (first | exact P0 | apply P1)); exact rfl; done) | (apply Rd.old; (first | (with_reducible assumption) | exact c0 | exact c1 | exact c2 | exact c3 | exact c4 | exact c5 | exact c6 | exact c7 | exact c8 | exact d0 | exact d1 | exact d2 | exact d3 | exact d4 | exact d5); first | exact List.not_mem_nil | exact m0 | exact m1 | exact m2 | exact m3 | exact m4 | exact m5 | exact m6 | exact m7 | exact m8 | exact m9))
      | ((with_reducible apply t_id); first | (with_reducible apply t_seq) | (apply t_region; kernel_rfl) | (apply t_drawn; kernel_rfl; decide +kernel; try simp only [List.append_eq, List.cons_append, List.nil_append]) | ((with_reducible apply t_condT); exact rfl) | ((with_reducible apply t_condF); exact rfl) | ((with_reducible apply t_condD); exact rfl; all_goals first | (intro hp; try (exfalso; omega)) | skip) | ((with_reducible apply t_condN); exact rfl; all_goals first | (intro hp; try (exfalso; omega)) | skip) | ((with_reducible apply t_cond); exact rfl; all_goals first | intro hp | skip) | (with_reducible apply t_ret) | (with_reducible apply t_skip) | (with_reducible apply t_exit) | (with_reducible apply t_block))
      | with_reducible apply q_thenN
      | with_reducible apply q_thenR
      | with_reducible apply q_blockR
      | with_reducible apply q_blockN
      | with_reducible apply q_thenE
      | ((with_reducible apply q_blockE); exact rfl)
      | ((with_reducible apply q_blockO); exact rfl)
      | exact P0
      | (with_reducible apply P1)
      | exact Rdn.zero
      | apply Rdn.succ
      | ((with_reducible apply Norm.nil); exact rfl)
      | ((with_reducible apply Norm.cons); exact rfl)
      | (with_reducible apply end_ret)
      | (with_reducible apply end_normal)
      | exact rvs_nil
      | (with_reducible apply rvs_cons)
      | ((with_reducible apply rv_tmp); exact rfl)
      | ((with_reducible apply rv_cell); exact rfl; exact rfl)
      | ((with_reducible apply rv_cellAgg); exact rfl; exact rfl)
      | exact Nat.le_of_ble_eq_true rfl
      | exact (rfl : (_ : Bool) = true)
      | omega
      | (intro _ _; with_reducible apply tl_id)
      | (intro _; with_reducible apply tl_id)
      | (intro _ _; with_reducible apply al_id)
      | (intro _; with_reducible apply al_id))
    all_goals exact ⟨rfl, (), trivial, by (repeat (first | exact FrSub.nil | (apply FrSub.cons; exact rfl))), by (repeat (first | exact HpSub.refl _ | (apply HpSub.consE; (repeat (first | exact P0 | apply P1)); exact rfl) | exact HpSub.nil))⟩
  rintro ⟨⟩ -
  try dsimp only
  refine t_cut (ι := Nat) (fun b7 => [(1, .int .i64 a), (2, .int .i64 b), (3, .pointer (some ⟨b3, 0, none⟩)), (7, .pointer (some ⟨b7, 0, none⟩))]) (fun b7 => [(b3, [.int .i64 W, .int .i64 Hh, .slice A n cp], some (24, 3, 1)), (b7, [.int .i64 W, .int .i64 Hh, .slice A n cp], some (24, 3, 1))]) (fun _ => True) ?_ ?_
  · repeat' (first
      | ((with_reducible apply oq_id); first | (apply oq_fn; exact rfl; try first | exact trivial | (and_intros <;> omega)) | ((with_reducible apply oq_load); exact rfl; exact rfl) | ((with_reducible apply oq_loadAgg); exact rfl; exact rfl) | ((with_reducible apply oq_build); (iterate 3 exact rfl)) | ((with_reducible apply oq_buildA); (iterate 4 exact rfl)) | ((with_reducible apply oq_fieldAgg); (iterate 3 exact rfl)) | ((with_reducible apply oq_indexAgg); (iterate 4 exact rfl)))
      | ((with_reducible apply tl_id); first | (with_reducible apply tl_nil) | ((with_reducible apply u_q); (iterate 4 exact rfl)) | ((with_reducible apply u_s0); exact rfl; exact rfl) | ((with_reducible apply u_s); (iterate 3 exact rfl)) | ((with_reducible apply u_skip); (iterate 3 exact rfl)) | ((with_reducible apply u_splitD); exact rfl; exact rfl; all_goals first | (intro hp; try (exfalso; omega)) | skip) | ((with_reducible apply u_splitN); exact rfl; exact rfl; all_goals first | (intro hp; try (exfalso; omega)) | skip) | ((with_reducible apply u_split); exact rfl; exact rfl; all_goals first | intro hp | skip))
      | ((with_reducible apply gx_id); first | (with_reducible apply v_nil) | ((with_reducible apply v_q); (iterate 3 exact rfl)) | ((with_reducible apply v_skip); (iterate 3 exact rfl)) | ((with_reducible apply v_splitD); exact rfl; exact rfl; all_goals first | (intro hp; try (exfalso; omega)) | skip) | ((with_reducible apply v_splitN); exact rfl; exact rfl; all_goals first | (intro hp; try (exfalso; omega)) | skip) | ((with_reducible apply v_split); exact rfl; exact rfl; all_goals first | intro hp | skip))
      | ((with_reducible apply os_id); first | ((with_reducible apply os_x); exact rfl) | ((with_reducible apply os_store); (iterate 4 exact rfl)) | ((with_reducible apply os_storeAgg); (iterate 5 exact rfl)))
      | ((with_reducible apply ox_id); first | ((with_reducible apply ox_alloc); exact rfl; intro _) | ((with_reducible apply ox_box); exact rfl; exact rfl; intro _) | ((with_reducible apply ox_boxAgg); exact rfl; intro _) | ((with_reducible apply ox_buildSlice1); (iterate 6 exact rfl); intro _) | ((with_reducible apply ox_buildSlice2); (iterate 6 exact rfl); intro _) | ((with_reducible apply ox_buildSlice); (iterate 4 exact rfl)))
      | ((with_reducible apply rd_id); first | (apply Rd.own; (repeat (first | exact P0 | apply P1)); exact rfl; done) | (apply Rd.old; (first | (with_reducible assumption) | exact c0 | exact c1 | exact c2 | exact c3 | exact c4 | exact c5 | exact c6 | exact c7 | exact c8 | exact d0 | exact d1 | exact d2 | exact d3 | exact d4 | exact d5); first | exact List.not_mem_nil | exact m0 | exact m1 | exact m2 | exact m3 | exact m4 | exact m5 | exact m6 | exact m7 | exact m8 | exact m9))
      | ((with_reducible apply t_id); first | (with_reducible apply t_seq) | (apply t_region; kernel_rfl) | (apply t_drawn; kernel_rfl; decide +kernel; try simp only [List.append_eq, List.cons_append, List.nil_append]) | ((with_reducible apply t_condT); exact rfl) | ((with_reducible apply t_condF); exact rfl) | ((with_reducible apply t_condD); exact rfl; all_goals first | (intro hp; try (exfalso; omega)) | skip) | ((with_reducible apply t_condN); exact rfl; all_goals first | (intro hp; try (exfalso; omega)) | skip) | ((with_reducible apply t_cond); exact rfl; all_goals first | intro hp | skip) | (with_reducible apply t_ret) | (with_reducible apply t_skip) | (with_reducible apply t_exit) | (with_reducible apply t_block))
      | with_reducible apply q_thenN
      | with_reducible apply q_thenR
      | with_reducible apply q_blockR
      | with_reducible apply q_blockN
      | with_reducible apply q_thenE
      | ((with_reducible apply q_blockE); exact rfl)
      | ((with_reducible apply q_blockO); exact rfl)
      | exact P0
      | (with_reducible apply P1)
      | exact Rdn.zero
      | apply Rdn.succ
      | ((with_reducible apply Norm.nil); exact rfl)
      | ((with_reducible apply Norm.cons); exact rfl)
      | (with_reducible apply end_ret)
      | (with_reducible apply end_normal)
      | exact rvs_nil
      | (with_reducible apply rvs_cons)
      | ((with_reducible apply rv_tmp); exact rfl)
      | ((with_reducible apply rv_cell); exact rfl; exact rfl)
      | ((with_reducible apply rv_cellAgg); exact rfl; exact rfl)
      | exact Nat.le_of_ble_eq_true rfl
      | exact (rfl : (_ : Bool) = true)
      | omega
      | (intro _ _; with_reducible apply tl_id)
      | (intro _; with_reducible apply tl_id)
      | (intro _ _; with_reducible apply al_id)
      | (intro _; with_reducible apply al_id))
    all_goals exact ⟨rfl, _, trivial, by (repeat (first | exact FrSub.nil | (apply FrSub.cons; exact rfl))), by (repeat (first | exact HpSub.refl _ | (apply HpSub.consE; (repeat (first | exact P0 | apply P1)); exact rfl) | exact HpSub.nil))⟩
  rintro b7 -
  try dsimp only
  refine t_cut (ι := Nat × Nat) (fun _ => [(1, .int .i64 a), (2, .int .i64 b), (3, .pointer (some ⟨b3, 0, none⟩)), (7, .pointer (some ⟨b7, 0, none⟩))]) (fun z => [(b3, [.int .i64 W, .int .i64 Hh, .slice A n cp], some (24, 3, 1)), (b7, [.int .i64 W, .int .i64 Hh, .slice (some ⟨z.1, 0, none⟩) n z.2], some (24, 3, 1)), (z.1, (g.map inCells).flatten, some (3, 1, z.2))]) (fun _ => True) ?_ ?_
  · repeat' (first
      | ((with_reducible apply oq_id); first | (apply oq_fn; exact rfl; try first | exact trivial | (and_intros <;> omega)) | ((with_reducible apply oq_load); exact rfl; exact rfl) | ((with_reducible apply oq_loadAgg); exact rfl; exact rfl) | ((with_reducible apply oq_build); (iterate 3 exact rfl)) | ((with_reducible apply oq_buildA); (iterate 4 exact rfl)) | ((with_reducible apply oq_fieldAgg); (iterate 3 exact rfl)) | ((with_reducible apply oq_indexAgg); (iterate 4 exact rfl)))
      | ((with_reducible apply tl_id); first | (with_reducible apply tl_nil) | ((with_reducible apply u_s); (iterate 3 exact rfl); (with_reducible apply os_appendRows (hk := app_ok22) (rows := g.map inCells) (hr := fun D w1 hw1 => hr.ext hw1.ext.ext)); exact rfl; exact rfl; (repeat (first | exact P0 | apply P1)); exact in_len g; exact rfl; exact in_one g; exact Nat.le_refl _; omega; omega; intro gN cN; (simp only [Nat.zero_add, List.nil_append])) | ((with_reducible apply u_q); (iterate 4 exact rfl)) | ((with_reducible apply u_s0); exact rfl; exact rfl) | ((with_reducible apply u_s); (iterate 3 exact rfl)) | ((with_reducible apply u_skip); (iterate 3 exact rfl)) | ((with_reducible apply u_splitD); exact rfl; exact rfl; all_goals first | (intro hp; try (exfalso; omega)) | skip) | ((with_reducible apply u_splitN); exact rfl; exact rfl; all_goals first | (intro hp; try (exfalso; omega)) | skip) | ((with_reducible apply u_split); exact rfl; exact rfl; all_goals first | intro hp | skip))
      | ((with_reducible apply gx_id); first | (with_reducible apply v_nil) | ((with_reducible apply v_q); (iterate 3 exact rfl)) | ((with_reducible apply v_skip); (iterate 3 exact rfl)) | ((with_reducible apply v_splitD); exact rfl; exact rfl; all_goals first | (intro hp; try (exfalso; omega)) | skip) | ((with_reducible apply v_splitN); exact rfl; exact rfl; all_goals first | (intro hp; try (exfalso; omega)) | skip) | ((with_reducible apply v_split); exact rfl; exact rfl; all_goals first | intro hp | skip))
      | ((with_reducible apply os_id); first | ((with_reducible apply os_x); exact rfl) | ((with_reducible apply os_store); (iterate 4 exact rfl)) | ((with_reducible apply os_storeAgg); (iterate 5 exact rfl)))
      | ((with_reducible apply ox_id); first | ((with_reducible apply ox_alloc); exact rfl; intro _) | ((with_reducible apply ox_box); exact rfl; exact rfl; intro _) | ((with_reducible apply ox_boxAgg); exact rfl; intro _) | ((with_reducible apply ox_buildSlice1); (iterate 6 exact rfl); intro _) | ((with_reducible apply ox_buildSlice2); (iterate 6 exact rfl); intro _) | ((with_reducible apply ox_buildSlice); (iterate 4 exact rfl)))
      | ((with_reducible apply rd_id); first | (apply Rd.own; (repeat (first | exact P0 | apply P1)); exact rfl; done) | (apply Rd.old; (first | (with_reducible assumption) | exact c0 | exact c1 | exact c2 | exact c3 | exact c4 | exact c5 | exact c6 | exact c7 | exact c8 | exact d0 | exact d1 | exact d2 | exact d3 | exact d4 | exact d5); first | exact List.not_mem_nil | exact m0 | exact m1 | exact m2 | exact m3 | exact m4 | exact m5 | exact m6 | exact m7 | exact m8 | exact m9))
      | ((with_reducible apply t_id); first | (with_reducible apply t_seq) | (apply t_region; kernel_rfl) | (apply t_drawn; kernel_rfl; decide +kernel; try simp only [List.append_eq, List.cons_append, List.nil_append]) | ((with_reducible apply t_condT); exact rfl) | ((with_reducible apply t_condF); exact rfl) | ((with_reducible apply t_condD); exact rfl; all_goals first | (intro hp; try (exfalso; omega)) | skip) | ((with_reducible apply t_condN); exact rfl; all_goals first | (intro hp; try (exfalso; omega)) | skip) | ((with_reducible apply t_cond); exact rfl; all_goals first | intro hp | skip) | (with_reducible apply t_ret) | (with_reducible apply t_skip) | (with_reducible apply t_exit) | (with_reducible apply t_block))
      | with_reducible apply q_thenN
      | with_reducible apply q_thenR
      | with_reducible apply q_blockR
      | with_reducible apply q_blockN
      | with_reducible apply q_thenE
      | ((with_reducible apply q_blockE); exact rfl)
      | ((with_reducible apply q_blockO); exact rfl)
      | exact P0
      | (with_reducible apply P1)
      | exact Rdn.zero
      | apply Rdn.succ
      | ((with_reducible apply Norm.nil); exact rfl)
      | ((with_reducible apply Norm.cons); exact rfl)
      | (with_reducible apply end_ret)
      | (with_reducible apply end_normal)
      | exact rvs_nil
      | (with_reducible apply rvs_cons)
      | ((with_reducible apply rv_tmp); exact rfl)
      | ((with_reducible apply rv_cell); exact rfl; exact rfl)
      | ((with_reducible apply rv_cellAgg); exact rfl; exact rfl)
      | exact Nat.le_of_ble_eq_true rfl
      | exact (rfl : (_ : Bool) = true)
      | omega
      | (intro _ _; with_reducible apply tl_id)
      | (intro _; with_reducible apply tl_id)
      | (intro _ _; with_reducible apply al_id)
      | (intro _; with_reducible apply al_id))
    all_goals exact ⟨(by first | rfl | trivial), (gN, cN), trivial, by (repeat (first | exact FrSub.nil | (apply FrSub.cons; exact rfl))), by (repeat (first | exact HpSub.refl _ | (apply HpSub.consE; (repeat (first | exact P0 | apply P1)); exact rfl) | exact HpSub.nil))⟩
  rintro ⟨bg, cg⟩ -
  try dsimp only
  refine t_cut (ι := Option (Nat × Nat)) (fun o => [(1, .int .i64 a), (2, .int .i64 b), (3, .pointer (some ⟨b3, 0, none⟩)), (7, .pointer (some ⟨b7, 0, none⟩)), (8, .int .i64 h), (9, sI (cI P) o), (10, .int .i64 e)]) (fun o => [(b3, [.int .i64 W, .int .i64 Hh, .slice A n cp], some (24, 3, 1)), (b7, [.int .i64 W, .int .i64 Hh, .slice (some ⟨bg, 0, none⟩) n cg], some (24, 3, 1)), (bg, (g.map inCells).flatten, some (3, 1, cg))] ++ hI (cI P) o) (fun o => o = none → P = []) ?_ ?_
  · repeat' (first
      | ((with_reducible apply oq_id); first | (apply oq_fn; exact rfl; try first | exact trivial | (and_intros <;> omega)) | ((with_reducible apply oq_load); exact rfl; exact rfl) | ((with_reducible apply oq_loadAgg); exact rfl; exact rfl) | ((with_reducible apply oq_build); (iterate 3 exact rfl)) | ((with_reducible apply oq_buildA); (iterate 4 exact rfl)) | ((with_reducible apply oq_fieldAgg); (iterate 3 exact rfl)) | ((with_reducible apply oq_indexAgg); (iterate 4 exact rfl)))
      | ((with_reducible apply tl_id); first | (with_reducible apply tl_nil) | ((with_reducible apply u_s); (iterate 3 exact rfl); (with_reducible apply os_callF (PV := PasV e h P) (k := 8) (hc := Try.call8)); exact rfl; exact rfl; exact fun D w1 hw1 => pass_calls (some ⟨bg, 0, none⟩) n cg W Hh a b e h g P w1 hP (in_own hl hw1 (by (repeat (first | exact P0 | apply P1)))) hn; rintro _ _ ⟨o, ho, rfl, rfl⟩; simp only [List.cons_append, List.nil_append]) | ((with_reducible apply u_q); (iterate 4 exact rfl)) | ((with_reducible apply u_s0); exact rfl; exact rfl) | ((with_reducible apply u_s); (iterate 3 exact rfl)) | ((with_reducible apply u_skip); (iterate 3 exact rfl)) | ((with_reducible apply u_splitD); exact rfl; exact rfl; all_goals first | (intro hp; try (exfalso; omega)) | skip) | ((with_reducible apply u_splitN); exact rfl; exact rfl; all_goals first | (intro hp; try (exfalso; omega)) | skip) | ((with_reducible apply u_split); exact rfl; exact rfl; all_goals first | intro hp | skip))
      | ((with_reducible apply gx_id); first | (with_reducible apply v_nil) | ((with_reducible apply v_q); (iterate 3 exact rfl)) | ((with_reducible apply v_skip); (iterate 3 exact rfl)) | ((with_reducible apply v_splitD); exact rfl; exact rfl; all_goals first | (intro hp; try (exfalso; omega)) | skip) | ((with_reducible apply v_splitN); exact rfl; exact rfl; all_goals first | (intro hp; try (exfalso; omega)) | skip) | ((with_reducible apply v_split); exact rfl; exact rfl; all_goals first | intro hp | skip))
      | ((with_reducible apply os_id); first | ((with_reducible apply os_x); exact rfl) | ((with_reducible apply os_store); (iterate 4 exact rfl)) | ((with_reducible apply os_storeAgg); (iterate 5 exact rfl)))
      | ((with_reducible apply ox_id); first | ((with_reducible apply ox_alloc); exact rfl; intro _) | ((with_reducible apply ox_box); exact rfl; exact rfl; intro _) | ((with_reducible apply ox_boxAgg); exact rfl; intro _) | ((with_reducible apply ox_buildSlice1); (iterate 6 exact rfl); intro _) | ((with_reducible apply ox_buildSlice2); (iterate 6 exact rfl); intro _) | ((with_reducible apply ox_buildSlice); (iterate 4 exact rfl)))
      | ((with_reducible apply rd_id); first | (apply Rd.own; (repeat (first | exact P0 | apply P1)); exact rfl; done) | (apply Rd.old; (first | (with_reducible assumption) | exact c0 | exact c1 | exact c2 | exact c3 | exact c4 | exact c5 | exact c6 | exact c7 | exact c8 | exact d0 | exact d1 | exact d2 | exact d3 | exact d4 | exact d5); first | exact List.not_mem_nil | exact m0 | exact m1 | exact m2 | exact m3 | exact m4 | exact m5 | exact m6 | exact m7 | exact m8 | exact m9))
      | ((with_reducible apply t_id); first | (with_reducible apply t_seq) | (apply t_region; kernel_rfl) | (apply t_drawn; kernel_rfl; decide +kernel; try simp only [List.append_eq, List.cons_append, List.nil_append]) | ((with_reducible apply t_condT); exact rfl) | ((with_reducible apply t_condF); exact rfl) | ((with_reducible apply t_condD); exact rfl; all_goals first | (intro hp; try (exfalso; omega)) | skip) | ((with_reducible apply t_condN); exact rfl; all_goals first | (intro hp; try (exfalso; omega)) | skip) | ((with_reducible apply t_cond); exact rfl; all_goals first | intro hp | skip) | (with_reducible apply t_ret) | (with_reducible apply t_skip) | (with_reducible apply t_exit) | (with_reducible apply t_block))
      | with_reducible apply q_thenN
      | with_reducible apply q_thenR
      | with_reducible apply q_blockR
      | with_reducible apply q_blockN
      | with_reducible apply q_thenE
      | ((with_reducible apply q_blockE); exact rfl)
      | ((with_reducible apply q_blockO); exact rfl)
      | exact P0
      | (with_reducible apply P1)
      | exact Rdn.zero
      | apply Rdn.succ
      | ((with_reducible apply Norm.nil); exact rfl)
      | ((with_reducible apply Norm.cons); exact rfl)
      | (with_reducible apply end_ret)
      | (with_reducible apply end_normal)
      | exact rvs_nil
      | (with_reducible apply rvs_cons)
      | ((with_reducible apply rv_tmp); exact rfl)
      | ((with_reducible apply rv_cell); exact rfl; exact rfl)
      | ((with_reducible apply rv_cellAgg); exact rfl; exact rfl)
      | exact Nat.le_of_ble_eq_true rfl
      | exact (rfl : (_ : Bool) = true)
      | omega
      | (intro _ _; with_reducible apply tl_id)
      | (intro _; with_reducible apply tl_id)
      | (intro _ _; with_reducible apply al_id)
      | (intro _; with_reducible apply al_id))
    all_goals exact ⟨(by first | rfl | trivial), o, ho, by (repeat (first | exact FrSub.nil | (apply FrSub.cons; exact rfl))), hp_comm _ [_, _, _]⟩
  rintro o ho
  try dsimp only
  refine t_cut (ι := Option (Nat × Nat)) (fun o2 => [(1, .int .i64 a), (2, .int .i64 b), (3, .pointer (some ⟨b3, 0, none⟩)), (7, .pointer (some ⟨b7, 0, none⟩)), (8, .int .i64 h), (9, sI (cI P) o), (10, .int .i64 e), (11, .int .i64 h), (12, sI (cI P) o2), (13, .int .i64 e)]) (fun o2 => hI (cI P) o2 ++ ([(b3, [.int .i64 W, .int .i64 Hh, .slice A n cp], some (24, 3, 1)), (b7, [.int .i64 W, .int .i64 Hh, .slice (some ⟨bg, 0, none⟩) n cg], some (24, 3, 1)), (bg, (g.map inCells).flatten, some (3, 1, cg))] ++ hI (cI P) o)) (fun o2 => o2 = none → P = []) ?_ ?_
  · repeat' (first
      | ((with_reducible apply oq_id); first | (apply oq_fn; exact rfl; try first | exact trivial | (and_intros <;> omega)) | ((with_reducible apply oq_load); exact rfl; exact rfl) | ((with_reducible apply oq_loadAgg); exact rfl; exact rfl) | ((with_reducible apply oq_build); (iterate 3 exact rfl)) | ((with_reducible apply oq_buildA); (iterate 4 exact rfl)) | ((with_reducible apply oq_fieldAgg); (iterate 3 exact rfl)) | ((with_reducible apply oq_indexAgg); (iterate 4 exact rfl)))
      | ((with_reducible apply tl_id); first | (with_reducible apply tl_nil) | ((with_reducible apply u_s); (iterate 3 exact rfl); (with_reducible apply os_callF (PV := PasV e h P) (k := 9) (hc := Try.call9)); exact rfl; exact rfl; exact fun D w1 hw1 => refPass_calls A n cp W Hh a b e h g P w1 hP (hr.ext hw1.ext.ext) hn; rintro _ _ ⟨o2, ho2, rfl, rfl⟩; simp only [List.cons_append, List.nil_append]) | ((with_reducible apply u_q); (iterate 4 exact rfl)) | ((with_reducible apply u_s0); exact rfl; exact rfl) | ((with_reducible apply u_s); (iterate 3 exact rfl)) | ((with_reducible apply u_skip); (iterate 3 exact rfl)) | ((with_reducible apply u_splitD); exact rfl; exact rfl; all_goals first | (intro hp; try (exfalso; omega)) | skip) | ((with_reducible apply u_splitN); exact rfl; exact rfl; all_goals first | (intro hp; try (exfalso; omega)) | skip) | ((with_reducible apply u_split); exact rfl; exact rfl; all_goals first | intro hp | skip))
      | ((with_reducible apply gx_id); first | (with_reducible apply v_nil) | ((with_reducible apply v_q); (iterate 3 exact rfl)) | ((with_reducible apply v_skip); (iterate 3 exact rfl)) | ((with_reducible apply v_splitD); exact rfl; exact rfl; all_goals first | (intro hp; try (exfalso; omega)) | skip) | ((with_reducible apply v_splitN); exact rfl; exact rfl; all_goals first | (intro hp; try (exfalso; omega)) | skip) | ((with_reducible apply v_split); exact rfl; exact rfl; all_goals first | intro hp | skip))
      | ((with_reducible apply os_id); first | ((with_reducible apply os_x); exact rfl) | ((with_reducible apply os_store); (iterate 4 exact rfl)) | ((with_reducible apply os_storeAgg); (iterate 5 exact rfl)))
      | ((with_reducible apply ox_id); first | ((with_reducible apply ox_alloc); exact rfl; intro _) | ((with_reducible apply ox_box); exact rfl; exact rfl; intro _) | ((with_reducible apply ox_boxAgg); exact rfl; intro _) | ((with_reducible apply ox_buildSlice1); (iterate 6 exact rfl); intro _) | ((with_reducible apply ox_buildSlice2); (iterate 6 exact rfl); intro _) | ((with_reducible apply ox_buildSlice); (iterate 4 exact rfl)))
      | ((with_reducible apply rd_id); first | (apply Rd.own; (repeat (first | exact P0 | apply P1)); exact rfl; done) | (apply Rd.old; (first | (with_reducible assumption) | exact c0 | exact c1 | exact c2 | exact c3 | exact c4 | exact c5 | exact c6 | exact c7 | exact c8 | exact d0 | exact d1 | exact d2 | exact d3 | exact d4 | exact d5); first | exact List.not_mem_nil | exact m0 | exact m1 | exact m2 | exact m3 | exact m4 | exact m5 | exact m6 | exact m7 | exact m8 | exact m9))
      | ((with_reducible apply t_id); first | (with_reducible apply t_seq) | (apply t_region; kernel_rfl) | (apply t_drawn; kernel_rfl; decide +kernel; try simp only [List.append_eq, List.cons_append, List.nil_append]) | ((with_reducible apply t_condT); exact rfl) | ((with_reducible apply t_condF); exact rfl) | ((with_reducible apply t_condD); exact rfl; all_goals first | (intro hp; try (exfalso; omega)) | skip) | ((with_reducible apply t_condN); exact rfl; all_goals first | (intro hp; try (exfalso; omega)) | skip) | ((with_reducible apply t_cond); exact rfl; all_goals first | intro hp | skip) | (with_reducible apply t_ret) | (with_reducible apply t_skip) | (with_reducible apply t_exit) | (with_reducible apply t_block))
      | with_reducible apply q_thenN
      | with_reducible apply q_thenR
      | with_reducible apply q_blockR
      | with_reducible apply q_blockN
      | with_reducible apply q_thenE
      | ((with_reducible apply q_blockE); exact rfl)
      | ((with_reducible apply q_blockO); exact rfl)
      | exact P0
      | (with_reducible apply P1)
      | exact Rdn.zero
      | apply Rdn.succ
      | ((with_reducible apply Norm.nil); exact rfl)
      | ((with_reducible apply Norm.cons); exact rfl)
      | (with_reducible apply end_ret)
      | (with_reducible apply end_normal)
      | exact rvs_nil
      | (with_reducible apply rvs_cons)
      | ((with_reducible apply rv_tmp); exact rfl)
      | ((with_reducible apply rv_cell); exact rfl; exact rfl)
      | ((with_reducible apply rv_cellAgg); exact rfl; exact rfl)
      | exact Nat.le_of_ble_eq_true rfl
      | exact (rfl : (_ : Bool) = true)
      | omega
      | (intro _ _; with_reducible apply tl_id)
      | (intro _; with_reducible apply tl_id)
      | (intro _ _; with_reducible apply al_id)
      | (intro _; with_reducible apply al_id))
    all_goals exact ⟨(by first | rfl | trivial), o2, ho2, by (repeat (first | exact FrSub.nil | (apply FrSub.cons; exact rfl))), HpSub.refl _⟩
  rintro o2 ho2
  try dsimp only
  rcases o with _ | ⟨bo, co⟩
  · have hc0 : cI P = [] := by rw [ho rfl]; rfl
    rcases o2 with _ | ⟨bo2, co2⟩
    · (try simp only [hI, sI, List.cons_append, List.nil_append, List.append_nil])
      repeat' (first
        | ((with_reducible apply oq_id); first | ((with_reducible apply oq_eqlT); exact rfl; exact rfl; omega) | ((with_reducible apply oq_eqlF); exact rfl; exact rfl; omega) | (apply oq_fn; exact rfl; try first | exact trivial | (and_intros <;> omega)) | ((with_reducible apply oq_load); exact rfl; exact rfl) | ((with_reducible apply oq_loadAgg); exact rfl; exact rfl) | ((with_reducible apply oq_call (k := 10) (hc := Try.call10)); exact rfl; exact rfl; exact fun D w1 hw1 => checkTerrain_calls (some ⟨bg, 0, none⟩) n cg W Hh g w1 (in_own hl hw1 (by (repeat (first | exact P0 | apply P1)))) hn) | ((with_reducible apply oq_call (k := 11) (hc := Try.call11)); exact rfl; exact rfl; exact fun D w1 hw1 => refCheckTerrain_calls A n cp W Hh g w1 (hr.ext hw1.ext.ext) hn) | ((with_reducible apply oq_call (k := 12) (hc := Try.call12)); exact rfl; exact rfl; exact fun D w1 hw1 => same_calls _ _ _ _ _ _ g g true (by simp) w1 (in_own hl hw1 (by (repeat (first | exact P0 | apply P1)))) (hr.ext hw1.ext.ext) hn hn) | ((with_reducible apply oq_call (k := 12) (hc := Try.call12)); exact rfl; exact rfl; exact fun D w1 hw1 => same_calls _ _ _ _ _ _ [] [] true (by simp) w1 (rds_none w1) (rds_none w1) (Nat.zero_le _) (Nat.zero_le _)) | ((with_reducible apply oq_build); (iterate 3 exact rfl)) | ((with_reducible apply oq_buildA); (iterate 4 exact rfl)) | ((with_reducible apply oq_fieldAgg); (iterate 3 exact rfl)) | ((with_reducible apply oq_indexAgg); (iterate 4 exact rfl)))
        | ((with_reducible apply tl_id); first | (with_reducible apply tl_nil) | ((with_reducible apply u_q); (iterate 4 exact rfl)) | ((with_reducible apply u_s0); exact rfl; exact rfl) | ((with_reducible apply u_s); (iterate 3 exact rfl)) | ((with_reducible apply u_skip); (iterate 3 exact rfl)) | ((with_reducible apply u_splitD); exact rfl; exact rfl; all_goals first | (intro hp; try (exfalso; omega)) | skip) | ((with_reducible apply u_splitN); exact rfl; exact rfl; all_goals first | (intro hp; try (exfalso; omega)) | skip) | ((with_reducible apply u_split); exact rfl; exact rfl; all_goals first | intro hp | skip))
        | ((with_reducible apply gx_id); first | (with_reducible apply v_nil) | ((with_reducible apply v_q); (iterate 3 exact rfl)) | ((with_reducible apply v_skip); (iterate 3 exact rfl)) | ((with_reducible apply v_splitD); exact rfl; exact rfl; all_goals first | (intro hp; try (exfalso; omega)) | skip) | ((with_reducible apply v_splitN); exact rfl; exact rfl; all_goals first | (intro hp; try (exfalso; omega)) | skip) | ((with_reducible apply v_split); exact rfl; exact rfl; all_goals first | intro hp | skip))
        | ((with_reducible apply os_id); first | ((with_reducible apply os_x); exact rfl) | ((with_reducible apply os_store); (iterate 4 exact rfl)) | ((with_reducible apply os_storeAgg); (iterate 5 exact rfl)))
        | ((with_reducible apply ox_id); first | ((with_reducible apply ox_alloc); exact rfl; intro _) | ((with_reducible apply ox_box); exact rfl; exact rfl; intro _) | ((with_reducible apply ox_boxAgg); exact rfl; intro _) | ((with_reducible apply ox_buildSlice1); (iterate 6 exact rfl); intro _) | ((with_reducible apply ox_buildSlice2); (iterate 6 exact rfl); intro _) | ((with_reducible apply ox_buildSlice); (iterate 4 exact rfl)))
        | ((with_reducible apply rd_id); first | (apply Rd.own; (repeat (first | exact P0 | apply P1)); exact rfl; done) | (apply Rd.old; (first | (with_reducible assumption) | exact c0 | exact c1 | exact c2 | exact c3 | exact c4 | exact c5 | exact c6 | exact c7 | exact c8 | exact d0 | exact d1 | exact d2 | exact d3 | exact d4 | exact d5); first | exact List.not_mem_nil | exact m0 | exact m1 | exact m2 | exact m3 | exact m4 | exact m5 | exact m6 | exact m7 | exact m8 | exact m9))
        | ((with_reducible apply t_id); first | (with_reducible apply t_seq) | (apply t_region; kernel_rfl) | (apply t_drawn; kernel_rfl; decide +kernel; try simp only [List.append_eq, List.cons_append, List.nil_append]) | ((with_reducible apply t_condT); exact rfl) | ((with_reducible apply t_condF); exact rfl) | ((with_reducible apply t_condD); exact rfl; all_goals first | (intro hp; try (exfalso; omega)) | skip) | ((with_reducible apply t_condN); exact rfl; all_goals first | (intro hp; try (exfalso; omega)) | skip) | ((with_reducible apply t_cond); exact rfl; all_goals first | intro hp | skip) | (with_reducible apply t_ret) | (with_reducible apply t_skip) | (with_reducible apply t_exit) | (with_reducible apply t_block))
        | with_reducible apply q_thenN
        | with_reducible apply q_thenR
        | with_reducible apply q_blockR
        | with_reducible apply q_blockN
        | with_reducible apply q_thenE
        | ((with_reducible apply q_blockE); exact rfl)
        | ((with_reducible apply q_blockO); exact rfl)
        | exact P0
        | (with_reducible apply P1)
        | exact Rdn.zero
        | apply Rdn.succ
        | ((with_reducible apply Norm.nil); exact rfl)
        | ((with_reducible apply Norm.cons); exact rfl)
        | (with_reducible apply end_ret)
        | (with_reducible apply end_normal)
        | exact rvs_nil
        | (with_reducible apply rvs_cons)
        | ((with_reducible apply rv_tmp); exact rfl)
        | ((with_reducible apply rv_cell); exact rfl; exact rfl)
        | ((with_reducible apply rv_cellAgg); exact rfl; exact rfl)
        | exact Nat.le_of_ble_eq_true rfl
        | exact (rfl : (_ : Bool) = true)
        | omega
        | (intro _ _; with_reducible apply tl_id)
        | (intro _; with_reducible apply tl_id)
        | (intro _ _; with_reducible apply al_id)
        | (intro _; with_reducible apply al_id))
      all_goals rfl
    · (try simp only [hI, sI, List.cons_append, List.nil_append, List.append_nil])
      repeat' (first
        | ((with_reducible apply oq_id); first | ((with_reducible apply oq_eqlT); exact rfl; exact rfl; omega) | ((with_reducible apply oq_eqlF); exact rfl; exact rfl; omega) | (apply oq_fn; exact rfl; try first | exact trivial | (and_intros <;> omega)) | ((with_reducible apply oq_load); exact rfl; exact rfl) | ((with_reducible apply oq_loadAgg); exact rfl; exact rfl) | ((with_reducible apply oq_call (k := 10) (hc := Try.call10)); exact rfl; exact rfl; exact fun D w1 hw1 => checkTerrain_calls (some ⟨bg, 0, none⟩) n cg W Hh g w1 (in_own hl hw1 (by (repeat (first | exact P0 | apply P1)))) hn) | ((with_reducible apply oq_call (k := 11) (hc := Try.call11)); exact rfl; exact rfl; exact fun D w1 hw1 => refCheckTerrain_calls A n cp W Hh g w1 (hr.ext hw1.ext.ext) hn) | ((with_reducible apply oq_call (k := 12) (hc := Try.call12)); exact rfl; exact rfl; exact fun D w1 hw1 => same_calls _ _ _ _ _ _ g g true (by simp) w1 (in_own hl hw1 (by (repeat (first | exact P0 | apply P1)))) (hr.ext hw1.ext.ext) hn hn) | ((with_reducible apply oq_call (k := 12) (hc := Try.call12)); exact rfl; exact rfl; exact fun D w1 hw1 => same_calls _ _ _ _ _ _ [] (cI P) true (by simp [hc0]) w1 (rds_none w1) (int_rows rfl hw1 (by (repeat (first | exact P0 | apply P1)))) (Nat.zero_le _) hPl) | ((with_reducible apply oq_build); (iterate 3 exact rfl)) | ((with_reducible apply oq_buildA); (iterate 4 exact rfl)) | ((with_reducible apply oq_fieldAgg); (iterate 3 exact rfl)) | ((with_reducible apply oq_indexAgg); (iterate 4 exact rfl)))
        | ((with_reducible apply tl_id); first | (with_reducible apply tl_nil) | ((with_reducible apply u_q); (iterate 4 exact rfl)) | ((with_reducible apply u_s0); exact rfl; exact rfl) | ((with_reducible apply u_s); (iterate 3 exact rfl)) | ((with_reducible apply u_skip); (iterate 3 exact rfl)) | ((with_reducible apply u_splitD); exact rfl; exact rfl; all_goals first | (intro hp; try (exfalso; omega)) | skip) | ((with_reducible apply u_splitN); exact rfl; exact rfl; all_goals first | (intro hp; try (exfalso; omega)) | skip) | ((with_reducible apply u_split); exact rfl; exact rfl; all_goals first | intro hp | skip))
        | ((with_reducible apply gx_id); first | (with_reducible apply v_nil) | ((with_reducible apply v_q); (iterate 3 exact rfl)) | ((with_reducible apply v_skip); (iterate 3 exact rfl)) | ((with_reducible apply v_splitD); exact rfl; exact rfl; all_goals first | (intro hp; try (exfalso; omega)) | skip) | ((with_reducible apply v_splitN); exact rfl; exact rfl; all_goals first | (intro hp; try (exfalso; omega)) | skip) | ((with_reducible apply v_split); exact rfl; exact rfl; all_goals first | intro hp | skip))
        | ((with_reducible apply os_id); first | ((with_reducible apply os_x); exact rfl) | ((with_reducible apply os_store); (iterate 4 exact rfl)) | ((with_reducible apply os_storeAgg); (iterate 5 exact rfl)))
        | ((with_reducible apply ox_id); first | ((with_reducible apply ox_alloc); exact rfl; intro _) | ((with_reducible apply ox_box); exact rfl; exact rfl; intro _) | ((with_reducible apply ox_boxAgg); exact rfl; intro _) | ((with_reducible apply ox_buildSlice1); (iterate 6 exact rfl); intro _) | ((with_reducible apply ox_buildSlice2); (iterate 6 exact rfl); intro _) | ((with_reducible apply ox_buildSlice); (iterate 4 exact rfl)))
        | ((with_reducible apply rd_id); first | (apply Rd.own; (repeat (first | exact P0 | apply P1)); exact rfl; done) | (apply Rd.old; (first | (with_reducible assumption) | exact c0 | exact c1 | exact c2 | exact c3 | exact c4 | exact c5 | exact c6 | exact c7 | exact c8 | exact d0 | exact d1 | exact d2 | exact d3 | exact d4 | exact d5); first | exact List.not_mem_nil | exact m0 | exact m1 | exact m2 | exact m3 | exact m4 | exact m5 | exact m6 | exact m7 | exact m8 | exact m9))
        | ((with_reducible apply t_id); first | (with_reducible apply t_seq) | (apply t_region; kernel_rfl) | (apply t_drawn; kernel_rfl; decide +kernel; try simp only [List.append_eq, List.cons_append, List.nil_append]) | ((with_reducible apply t_condT); exact rfl) | ((with_reducible apply t_condF); exact rfl) | ((with_reducible apply t_condD); exact rfl; all_goals first | (intro hp; try (exfalso; omega)) | skip) | ((with_reducible apply t_condN); exact rfl; all_goals first | (intro hp; try (exfalso; omega)) | skip) | ((with_reducible apply t_cond); exact rfl; all_goals first | intro hp | skip) | (with_reducible apply t_ret) | (with_reducible apply t_skip) | (with_reducible apply t_exit) | (with_reducible apply t_block))
        | with_reducible apply q_thenN
        | with_reducible apply q_thenR
        | with_reducible apply q_blockR
        | with_reducible apply q_blockN
        | with_reducible apply q_thenE
        | ((with_reducible apply q_blockE); exact rfl)
        | ((with_reducible apply q_blockO); exact rfl)
        | exact P0
        | (with_reducible apply P1)
        | exact Rdn.zero
        | apply Rdn.succ
        | ((with_reducible apply Norm.nil); exact rfl)
        | ((with_reducible apply Norm.cons); exact rfl)
        | (with_reducible apply end_ret)
        | (with_reducible apply end_normal)
        | exact rvs_nil
        | (with_reducible apply rvs_cons)
        | ((with_reducible apply rv_tmp); exact rfl)
        | ((with_reducible apply rv_cell); exact rfl; exact rfl)
        | ((with_reducible apply rv_cellAgg); exact rfl; exact rfl)
        | exact Nat.le_of_ble_eq_true rfl
        | exact (rfl : (_ : Bool) = true)
        | omega
        | (intro _ _; with_reducible apply tl_id)
        | (intro _; with_reducible apply tl_id)
        | (intro _ _; with_reducible apply al_id)
        | (intro _; with_reducible apply al_id))
      all_goals rfl
  · rcases o2 with _ | ⟨bo2, co2⟩
    · have hc0 : cI P = [] := by rw [ho2 rfl]; rfl
      (try simp only [hI, sI, List.cons_append, List.nil_append, List.append_nil])
      repeat' (first
        | ((with_reducible apply oq_id); first | ((with_reducible apply oq_eqlT); exact rfl; exact rfl; omega) | ((with_reducible apply oq_eqlF); exact rfl; exact rfl; omega) | (apply oq_fn; exact rfl; try first | exact trivial | (and_intros <;> omega)) | ((with_reducible apply oq_load); exact rfl; exact rfl) | ((with_reducible apply oq_loadAgg); exact rfl; exact rfl) | ((with_reducible apply oq_call (k := 10) (hc := Try.call10)); exact rfl; exact rfl; exact fun D w1 hw1 => checkTerrain_calls (some ⟨bg, 0, none⟩) n cg W Hh g w1 (in_own hl hw1 (by (repeat (first | exact P0 | apply P1)))) hn) | ((with_reducible apply oq_call (k := 11) (hc := Try.call11)); exact rfl; exact rfl; exact fun D w1 hw1 => refCheckTerrain_calls A n cp W Hh g w1 (hr.ext hw1.ext.ext) hn) | ((with_reducible apply oq_call (k := 12) (hc := Try.call12)); exact rfl; exact rfl; exact fun D w1 hw1 => same_calls _ _ _ _ _ _ g g true (by simp) w1 (in_own hl hw1 (by (repeat (first | exact P0 | apply P1)))) (hr.ext hw1.ext.ext) hn hn) | ((with_reducible apply oq_call (k := 12) (hc := Try.call12)); exact rfl; exact rfl; exact fun D w1 hw1 => same_calls _ _ _ _ _ _ (cI P) [] true (by simp [hc0]) w1 (int_rows rfl hw1 (by (repeat (first | exact P0 | apply P1)))) (rds_none w1) hPl (Nat.zero_le _)) | ((with_reducible apply oq_build); (iterate 3 exact rfl)) | ((with_reducible apply oq_buildA); (iterate 4 exact rfl)) | ((with_reducible apply oq_fieldAgg); (iterate 3 exact rfl)) | ((with_reducible apply oq_indexAgg); (iterate 4 exact rfl)))
        | ((with_reducible apply tl_id); first | (with_reducible apply tl_nil) | ((with_reducible apply u_q); (iterate 4 exact rfl)) | ((with_reducible apply u_s0); exact rfl; exact rfl) | ((with_reducible apply u_s); (iterate 3 exact rfl)) | ((with_reducible apply u_skip); (iterate 3 exact rfl)) | ((with_reducible apply u_splitD); exact rfl; exact rfl; all_goals first | (intro hp; try (exfalso; omega)) | skip) | ((with_reducible apply u_splitN); exact rfl; exact rfl; all_goals first | (intro hp; try (exfalso; omega)) | skip) | ((with_reducible apply u_split); exact rfl; exact rfl; all_goals first | intro hp | skip))
        | ((with_reducible apply gx_id); first | (with_reducible apply v_nil) | ((with_reducible apply v_q); (iterate 3 exact rfl)) | ((with_reducible apply v_skip); (iterate 3 exact rfl)) | ((with_reducible apply v_splitD); exact rfl; exact rfl; all_goals first | (intro hp; try (exfalso; omega)) | skip) | ((with_reducible apply v_splitN); exact rfl; exact rfl; all_goals first | (intro hp; try (exfalso; omega)) | skip) | ((with_reducible apply v_split); exact rfl; exact rfl; all_goals first | intro hp | skip))
        | ((with_reducible apply os_id); first | ((with_reducible apply os_x); exact rfl) | ((with_reducible apply os_store); (iterate 4 exact rfl)) | ((with_reducible apply os_storeAgg); (iterate 5 exact rfl)))
        | ((with_reducible apply ox_id); first | ((with_reducible apply ox_alloc); exact rfl; intro _) | ((with_reducible apply ox_box); exact rfl; exact rfl; intro _) | ((with_reducible apply ox_boxAgg); exact rfl; intro _) | ((with_reducible apply ox_buildSlice1); (iterate 6 exact rfl); intro _) | ((with_reducible apply ox_buildSlice2); (iterate 6 exact rfl); intro _) | ((with_reducible apply ox_buildSlice); (iterate 4 exact rfl)))
        | ((with_reducible apply rd_id); first | (apply Rd.own; (repeat (first | exact P0 | apply P1)); exact rfl; done) | (apply Rd.old; (first | (with_reducible assumption) | exact c0 | exact c1 | exact c2 | exact c3 | exact c4 | exact c5 | exact c6 | exact c7 | exact c8 | exact d0 | exact d1 | exact d2 | exact d3 | exact d4 | exact d5); first | exact List.not_mem_nil | exact m0 | exact m1 | exact m2 | exact m3 | exact m4 | exact m5 | exact m6 | exact m7 | exact m8 | exact m9))
        | ((with_reducible apply t_id); first | (with_reducible apply t_seq) | (apply t_region; kernel_rfl) | (apply t_drawn; kernel_rfl; decide +kernel; try simp only [List.append_eq, List.cons_append, List.nil_append]) | ((with_reducible apply t_condT); exact rfl) | ((with_reducible apply t_condF); exact rfl) | ((with_reducible apply t_condD); exact rfl; all_goals first | (intro hp; try (exfalso; omega)) | skip) | ((with_reducible apply t_condN); exact rfl; all_goals first | (intro hp; try (exfalso; omega)) | skip) | ((with_reducible apply t_cond); exact rfl; all_goals first | intro hp | skip) | (with_reducible apply t_ret) | (with_reducible apply t_skip) | (with_reducible apply t_exit) | (with_reducible apply t_block))
        | with_reducible apply q_thenN
        | with_reducible apply q_thenR
        | with_reducible apply q_blockR
        | with_reducible apply q_blockN
        | with_reducible apply q_thenE
        | ((with_reducible apply q_blockE); exact rfl)
        | ((with_reducible apply q_blockO); exact rfl)
        | exact P0
        | (with_reducible apply P1)
        | exact Rdn.zero
        | apply Rdn.succ
        | ((with_reducible apply Norm.nil); exact rfl)
        | ((with_reducible apply Norm.cons); exact rfl)
        | (with_reducible apply end_ret)
        | (with_reducible apply end_normal)
        | exact rvs_nil
        | (with_reducible apply rvs_cons)
        | ((with_reducible apply rv_tmp); exact rfl)
        | ((with_reducible apply rv_cell); exact rfl; exact rfl)
        | ((with_reducible apply rv_cellAgg); exact rfl; exact rfl)
        | exact Nat.le_of_ble_eq_true rfl
        | exact (rfl : (_ : Bool) = true)
        | omega
        | (intro _ _; with_reducible apply tl_id)
        | (intro _; with_reducible apply tl_id)
        | (intro _ _; with_reducible apply al_id)
        | (intro _; with_reducible apply al_id))
      all_goals rfl
    · (try simp only [hI, sI, List.cons_append, List.nil_append, List.append_nil])
      repeat' (first
        | ((with_reducible apply oq_id); first | ((with_reducible apply oq_eqlT); exact rfl; exact rfl; omega) | ((with_reducible apply oq_eqlF); exact rfl; exact rfl; omega) | (apply oq_fn; exact rfl; try first | exact trivial | (and_intros <;> omega)) | ((with_reducible apply oq_load); exact rfl; exact rfl) | ((with_reducible apply oq_loadAgg); exact rfl; exact rfl) | ((with_reducible apply oq_call (k := 10) (hc := Try.call10)); exact rfl; exact rfl; exact fun D w1 hw1 => checkTerrain_calls (some ⟨bg, 0, none⟩) n cg W Hh g w1 (in_own hl hw1 (by (repeat (first | exact P0 | apply P1)))) hn) | ((with_reducible apply oq_call (k := 11) (hc := Try.call11)); exact rfl; exact rfl; exact fun D w1 hw1 => refCheckTerrain_calls A n cp W Hh g w1 (hr.ext hw1.ext.ext) hn) | ((with_reducible apply oq_call (k := 12) (hc := Try.call12)); exact rfl; exact rfl; exact fun D w1 hw1 => same_calls _ _ _ _ _ _ g g true (by simp) w1 (in_own hl hw1 (by (repeat (first | exact P0 | apply P1)))) (hr.ext hw1.ext.ext) hn hn) | ((with_reducible apply oq_call (k := 12) (hc := Try.call12)); exact rfl; exact rfl; exact fun D w1 hw1 => same_calls _ _ _ _ _ _ (cI P) (cI P) true (by simp) w1 (int_rows rfl hw1 (by (repeat (first | exact P0 | apply P1)))) (int_rows rfl hw1 (by (repeat (first | exact P0 | apply P1)))) hPl hPl) | ((with_reducible apply oq_build); (iterate 3 exact rfl)) | ((with_reducible apply oq_buildA); (iterate 4 exact rfl)) | ((with_reducible apply oq_fieldAgg); (iterate 3 exact rfl)) | ((with_reducible apply oq_indexAgg); (iterate 4 exact rfl)))
        | ((with_reducible apply tl_id); first | (with_reducible apply tl_nil) | ((with_reducible apply u_q); (iterate 4 exact rfl)) | ((with_reducible apply u_s0); exact rfl; exact rfl) | ((with_reducible apply u_s); (iterate 3 exact rfl)) | ((with_reducible apply u_skip); (iterate 3 exact rfl)) | ((with_reducible apply u_splitD); exact rfl; exact rfl; all_goals first | (intro hp; try (exfalso; omega)) | skip) | ((with_reducible apply u_splitN); exact rfl; exact rfl; all_goals first | (intro hp; try (exfalso; omega)) | skip) | ((with_reducible apply u_split); exact rfl; exact rfl; all_goals first | intro hp | skip))
        | ((with_reducible apply gx_id); first | (with_reducible apply v_nil) | ((with_reducible apply v_q); (iterate 3 exact rfl)) | ((with_reducible apply v_skip); (iterate 3 exact rfl)) | ((with_reducible apply v_splitD); exact rfl; exact rfl; all_goals first | (intro hp; try (exfalso; omega)) | skip) | ((with_reducible apply v_splitN); exact rfl; exact rfl; all_goals first | (intro hp; try (exfalso; omega)) | skip) | ((with_reducible apply v_split); exact rfl; exact rfl; all_goals first | intro hp | skip))
        | ((with_reducible apply os_id); first | ((with_reducible apply os_x); exact rfl) | ((with_reducible apply os_store); (iterate 4 exact rfl)) | ((with_reducible apply os_storeAgg); (iterate 5 exact rfl)))
        | ((with_reducible apply ox_id); first | ((with_reducible apply ox_alloc); exact rfl; intro _) | ((with_reducible apply ox_box); exact rfl; exact rfl; intro _) | ((with_reducible apply ox_boxAgg); exact rfl; intro _) | ((with_reducible apply ox_buildSlice1); (iterate 6 exact rfl); intro _) | ((with_reducible apply ox_buildSlice2); (iterate 6 exact rfl); intro _) | ((with_reducible apply ox_buildSlice); (iterate 4 exact rfl)))
        | ((with_reducible apply rd_id); first | (apply Rd.own; (repeat (first | exact P0 | apply P1)); exact rfl; done) | (apply Rd.old; (first | (with_reducible assumption) | exact c0 | exact c1 | exact c2 | exact c3 | exact c4 | exact c5 | exact c6 | exact c7 | exact c8 | exact d0 | exact d1 | exact d2 | exact d3 | exact d4 | exact d5); first | exact List.not_mem_nil | exact m0 | exact m1 | exact m2 | exact m3 | exact m4 | exact m5 | exact m6 | exact m7 | exact m8 | exact m9))
        | ((with_reducible apply t_id); first | (with_reducible apply t_seq) | (apply t_region; kernel_rfl) | (apply t_drawn; kernel_rfl; decide +kernel; try simp only [List.append_eq, List.cons_append, List.nil_append]) | ((with_reducible apply t_condT); exact rfl) | ((with_reducible apply t_condF); exact rfl) | ((with_reducible apply t_condD); exact rfl; all_goals first | (intro hp; try (exfalso; omega)) | skip) | ((with_reducible apply t_condN); exact rfl; all_goals first | (intro hp; try (exfalso; omega)) | skip) | ((with_reducible apply t_cond); exact rfl; all_goals first | intro hp | skip) | (with_reducible apply t_ret) | (with_reducible apply t_skip) | (with_reducible apply t_exit) | (with_reducible apply t_block))
        | with_reducible apply q_thenN
        | with_reducible apply q_thenR
        | with_reducible apply q_blockR
        | with_reducible apply q_blockN
        | with_reducible apply q_thenE
        | ((with_reducible apply q_blockE); exact rfl)
        | ((with_reducible apply q_blockO); exact rfl)
        | exact P0
        | (with_reducible apply P1)
        | exact Rdn.zero
        | apply Rdn.succ
        | ((with_reducible apply Norm.nil); exact rfl)
        | ((with_reducible apply Norm.cons); exact rfl)
        | (with_reducible apply end_ret)
        | (with_reducible apply end_normal)
        | exact rvs_nil
        | (with_reducible apply rvs_cons)
        | ((with_reducible apply rv_tmp); exact rfl)
        | ((with_reducible apply rv_cell); exact rfl; exact rfl)
        | ((with_reducible apply rv_cellAgg); exact rfl; exact rfl)
        | exact Nat.le_of_ble_eq_true rfl
        | exact (rfl : (_ : Bool) = true)
        | omega
        | (intro _ _; with_reducible apply tl_id)
        | (intro _; with_reducible apply tl_id)
        | (intro _ _; with_reducible apply al_id)
        | (intro _; with_reducible apply al_id))
      all_goals rfl
end Go.Proofs.Ytcjkndjjbjoehaa
namespace Go.Proofs.Ytcjkndjjbjoehaa
open Go.ChangeShapes Go.WideShapes Go.ChangeAt Go.RowKit
inductive Lf where
  | int (k : IntKind)
  | bool
def LfOk : Lf → Value → Prop
  | .int k, v => ∃ z, v = .int k z ∧ (Lit.int k z).wf = true
  | .bool, v => ∃ b, v = .bool b
def LfsOk : List Lf → List Value → Prop
  | [], [] => True
  | k :: ks, v :: vs => LfOk k v ∧ LfsOk ks vs
  | _, _ => False
theorem LfsOk.len : ∀ {ks : List Lf} {vs : List Value}, LfsOk ks vs → vs.length = ks.length
  | [], [], _ => rfl
  | k :: ks, v :: vs, h => by simp [LfsOk.len h.2]
  | [], _ :: _, h => h.elim
  | _ :: _, [], h => h.elim
theorem LfsOk.nil {vs : List Value} (h : LfsOk [] vs) : vs = [] := by cases vs with | nil => rfl | cons _ _ => exact h.elim
theorem LfsOk.int {k : IntKind} {ks : List Lf} {vs : List Value} (h : LfsOk (.int k :: ks) vs) : ∃ z us, vs = .int k z :: us ∧ (Lit.int k z).wf = true ∧ LfsOk ks us := by
  cases vs with
  | nil => exact h.elim
  | cons v vs => obtain ⟨⟨z, rfl, hw⟩, h2⟩ := h; exact ⟨z, vs, rfl, hw, h2⟩
theorem LfsOk.bool {ks : List Lf} {vs : List Value} (h : LfsOk (.bool :: ks) vs) : ∃ b us, vs = .bool b :: us ∧ LfsOk ks us := by
  cases vs with
  | nil => exact h.elim
  | cons v vs => obtain ⟨⟨z, rfl⟩, h2⟩ := h; exact ⟨z, vs, rfl, h2⟩
theorem LfsOk.append : ∀ {ks ls : List Lf} {vs us : List Value}, LfsOk ks vs → LfsOk ls us → LfsOk (ks ++ ls) (vs ++ us)
  | [], _, [], _, _, h => h
  | _ :: _, _, _ :: _, _, h, k => ⟨h.1, LfsOk.append h.2 k⟩
  | [], _, _ :: _, _, h, _ => h.elim
  | _ :: _, _, [], _, h, _ => h.elim
def ksFs (P : Program) (rec_ : TypeId → Option (List Lf)) : List Field → Nat → Option (List Lf)
  | [], _ => some []
  | f :: fs, o => match Nat.beq f.offset o, rec_ f.type, ksFs P rec_ fs (o + P.cellsOf f.type) with
    | true, some ks, some ls => match Nat.beq (P.cellsOf f.type) ks.length with
      | true => some (ks ++ ls)
      | false => none
    | _, _, _ => none
def ksOf (P : Program) : Nat → TypeId → Option (List Lf)
  | 0, _ => none
  | n + 1, t => match P.underlying t with
    | some (.int k) => some [.int k]
    | some .bool => some [.bool]
    | some (.struct fs) => match ksFs P (ksOf P n) fs.toList 0 with
      | some ks => match Nat.beq (P.cellsOf t) ks.length with
        | true => some ks
        | false => none
      | none => none
    | _ => none
section
variable {H : Type} {enc : TypeId × Value → H} {P : Program} {W : World} {base : Nat} {spare : Nat → Bool} {held : Bool}
theorem ksFs_ok {rec_ : TypeId → Option (List Lf)} {m : Nat} (hr : ∀ {t : TypeId} {ks : List Lf} {cs : List Value} {x : DataW H × List MemPlace}, rec_ t = some ks → DataW.trod enc P W base spare held m t cs = some x → LfsOk ks cs) {cs : List Value} :
    ∀ {fs : List Field} {o : Nat} {ks : List Lf}, ksFs P rec_ fs o = some ks → (∀ f ∈ fs, ∃ y, DataW.trod enc P W base spare held m f.type ((cs.drop f.offset).take (P.cellsOf f.type)) = some y) → o + ks.length ≤ cs.length → LfsOk ks ((cs.drop o).take ks.length)
  | [], o, ks, h, _, _ => by
    obtain rfl := Option.some.inj h
    simp [LfsOk]
  | f :: fs, o, ks, h, hy, hl => by
    unfold ksFs at h
    split at h
    · rename_i k1 l1 h1 h2 h3
      split at h
      · rename_i h4
        obtain rfl := Option.some.inj h
        have ho := Nat.eq_of_beq_eq_true h1
        have hc := Nat.eq_of_beq_eq_true h4
        obtain ⟨y, hy0⟩ := hy f (List.mem_cons_self ..)
        rw [ho, hc] at hy0
        have a1 := hr h2 hy0
        rw [hc] at h3
        simp only [List.length_append] at hl
        have a2 := ksFs_ok hr h3 (fun g hg => hy g (List.mem_cons_of_mem _ hg)) (by omega)
        have e : (cs.drop o).take (k1 ++ l1).length = (cs.drop o).take k1.length ++ (cs.drop (o + k1.length)).take l1.length := by
          rw [List.length_append, List.take_add, List.drop_drop]
        rw [e]
        exact a1.append a2
      · cases h
    · cases h
theorem ksOf_ok : ∀ {n : Nat} {t : TypeId} {ks : List Lf} {m : Nat} {cs : List Value} {x : DataW H × List MemPlace}, ksOf P n t = some ks → DataW.trod enc P W base spare held m t cs = some x → LfsOk ks cs
  | 0, _, _, _, _, _, h, _ => by cases h
  | n + 1, t, ks, m, cs, x, h, hx => by
    unfold ksOf at h
    split at h
    · rename_i k hu
      obtain rfl := Option.some.inj h
      obtain ⟨z, rfl, _, hw⟩ := DataW.trod_int hu hx
      exact ⟨⟨z, rfl, hw⟩, trivial⟩
    · rename_i hu
      obtain rfl := Option.some.inj h
      obtain ⟨b, rfl, _⟩ := DataW.trod_bool hu hx
      exact ⟨⟨b, rfl⟩, trivial⟩
    · rename_i fs hu
      split at h
      · rename_i ks' hk
        split at h
        · rename_i hc
          obtain rfl := Option.some.inj h
          have hc := Nat.eq_of_beq_eq_true hc
          obtain ⟨xs, k, _, _, hl, hlen, hf⟩ := DataW.trod_struct hu hx
          have := ksFs_ok (m := k) (cs := cs) (fun h1 h2 => ksOf_ok h1 h2) hk (fun f hfm => by
            obtain ⟨i, hi, hif⟩ := List.getElem_of_mem hfm
            have hi' : i < fs.size := by simpa using hi
            have e := hf i f (by rw [Array.getElem?_eq_getElem hi']; simpa using hif)
            rw [List.getElem?_eq_getElem (by omega)] at e
            exact ⟨_, e⟩) (by omega)
          rw [List.drop_zero, List.take_of_length_le (by omega)] at this
          exact this
        · cases h
      · cases h
    · cases h
end
theorem rows_ofP {α : Type} {f : α → List Value} {p : α → Prop} : ∀ {rows : List (List Value)}, (∀ x ∈ rows, ∃ y, x = f y ∧ p y) → ∃ l : List α, rows = l.map f ∧ ∀ y ∈ l, p y
  | [], _ => ⟨[], rfl, fun y hy => (List.not_mem_nil hy).elim⟩
  | x :: rows, h => by
    obtain ⟨y, rfl, hy⟩ := h x (List.mem_cons_self ..)
    obtain ⟨l, rfl, hl⟩ := rows_ofP (fun z hz => h z (List.mem_cons_of_mem _ hz))
    exact ⟨y :: l, rfl, fun z hz => by rcases List.mem_cons.1 hz with rfl | hz; exact hy; exact hl z hz⟩
section
variable {H : Type} {enc : TypeId × Value → H} {P : Program} {W : World} {held : Bool}
theorem open_rowsT {t e : TypeId} {n fuel : Nat} {ks : List Lf} {cs : List Value} {x : DataW H × List MemPlace} (hs : P.underlying t = some (.slice e)) (hk : ksOf P n e = some ks) (hc : P.cellsOf e = ks.length) (hpos : 0 < ks.length)
    (hf : DataW.trod enc P W 0 (fun _ => true) held fuel t cs = some x) :
    ∃ (A : Option Addr) (m c : Nat) (rows : List (List Value)), cs = [.slice A m c] ∧ RdS W ks.length A m rows ∧ (A = none → m = 0 ∧ c = 0) ∧ ∀ x ∈ rows, LfsOk ks x := by
  rcases Go.Deep.open_slice hs hf with ⟨h1, _⟩ | ⟨a, m, c, m', k, D, Pl, h1, _, hlc, _, hm, _, hi⟩
  · exact ⟨none, 0, 0, [], h1, RdS.nil _ _ _, fun _ => ⟨rfl, rfl⟩, fun x hx => (List.not_mem_nil hx).elim⟩
  · simp only [if_true] at hm
    subst hm
    rw [hc] at hi
    have key : ∀ i, i < m → ∃ y : List Value, LfsOk ks y ∧ ∀ j u, y[j]? = some u → W.cell? ((a.add (i * ks.length)).add j) = some u := fun i hin => by
      obtain ⟨cs, hc, ht⟩ := hi i (by omega)
      obtain ⟨_, hlc, hat⟩ := World.cells?_some hc
      exact ⟨cs, ksOf_ok hk ht, fun j u hu => by rw [hat j (by rw [← hlc]; exact (List.getElem?_eq_some_iff.1 hu).1)]; exact hu⟩
    let f : Nat → List Value := fun i => if h : i < m then Classical.choose (key i h) else []
    have hfk : ∀ i, i < m → LfsOk ks (f i) ∧ ∀ j u, (f i)[j]? = some u → W.cell? ((a.add (i * ks.length)).add j) = some u := fun i hin => by
      simp only [f, dif_pos hin]
      exact Classical.choose_spec (key i hin)
    have hmem : ∀ x ∈ (List.range m).map f, LfsOk ks x := fun x hx => by
      obtain ⟨i, hi, rfl⟩ := List.mem_map.1 hx
      exact (hfk i (List.mem_range.1 hi)).1
    refine ⟨some a, m, _, (List.range m).map f, h1, ⟨by simp, fun h0 => ?_⟩, fun h => (by cases h), hmem⟩
    have l0 := (hfk 0 h0).1.len
    have c0 := (hfk 0 h0).2 0 _ (List.getElem?_eq_getElem (by omega))
    obtain ⟨b, o, sp⟩ := a
    have hsp : sp = none := by simpa [Addr.add] using World.cell?_spot c0
    subst hsp
    refine ⟨b, o, rfl, by simpa [Addr.add] using cell_lt c0, fun i x hx => ⟨(hmem x (List.mem_of_getElem? hx)).len, fun j u hu => ?_⟩⟩
    rw [List.getElem?_map, Option.map_eq_some_iff] at hx
    obtain ⟨i', h2, rfl⟩ := hx
    obtain ⟨h3, h4⟩ := List.getElem?_eq_some_iff.1 h2
    simp only [List.getElem_range, List.length_range] at h3 h4
    subst h4
    have := (hfk i h3).2 j u hu
    rw [add_eq, add_eq] at this
    exact this
theorem sing {a b : Value} (h : [a] = [b]) : a = b := by simpa using h
theorem list3 {l : List Value} (h : l.length = 3) : ∃ a b c, l = [a, b, c] := by
  match l, h with
  | [a, b, c], _ => exact ⟨a, b, c, rfl⟩
theorem in_openO {x : List Value} (h : LfsOk [.int .i64] x) : ∃ y : Int, x = inCells y ∧ True := by
  obtain ⟨z0, u0, rfl, _, h⟩ := h.int
  obtain rfl := h.nil
  exact ⟨z0, rfl, trivial⟩
theorem open_ter {r : Reach} {b0 : Nat} {v : Value} {d : DataW H} {p : List MemPlace} (hv : Value.okWide Try.prog W r b0 24 v) (h : DataW.Trod enc Try.prog W 0 (fun _ => true) held 24 v d p) :
    ∃ (w hh : Int) (g : List Int) (A : Option Addr) (n cp : Nat), v = .agg ⟨[.int .i64 w, .int .i64 hh, .slice A n cp]⟩ ∧ RdS W 1 A n (g.map inCells) := by
  obtain ⟨cs, rfl, _⟩ := okWide_struct Try.underlying24 hv
  obtain ⟨fuel, hf⟩ := h
  obtain ⟨cs⟩ := cs
  have hf' : DataW.trod enc Try.prog W 0 (fun _ => true) held fuel 24 cs = some (d, p) := hf
  obtain ⟨xs, k, _, _, hl, hlen, hx⟩ := DataW.trod_struct Try.underlying24 hf'
  have c24 : Try.prog.cellsOf 24 = 3 := by kernel_rfl
  have c3 : Try.prog.cellsOf 3 = 1 := by kernel_rfl
  have c22 : Try.prog.cellsOf 22 = 1 := by kernel_rfl
  rw [c24] at hl
  obtain ⟨v0, v1, v2, rfl⟩ := list3 hl
  have h3 : xs.length = 3 := hlen
  have u3 : Try.prog.underlying 3 = some (.int .i64) := Try.underlying3
  have g0 := hx 0 _ rfl
  have g1 := hx 1 _ rfl
  have g2 := hx 2 _ rfl
  rw [List.getElem?_eq_getElem (by omega)] at g0 g1 g2
  obtain ⟨z0, e0, _, _⟩ := DataW.trod_int u3 g0
  obtain ⟨z1, e1, _, _⟩ := DataW.trod_int u3 g1
  obtain ⟨A, n1, cf, rows1, e2, hr1, hn1, hm1⟩ := open_rowsT Try.underlying22 (show ksOf Try.prog 6 3 = some [.int .i64] by kernel_rfl) (by kernel_rfl) (by decide) g2
  obtain ⟨l1, rfl, hp1⟩ := rows_ofP (f := inCells) (p := fun _ => True) (fun x hx => in_openO (hm1 x hx))
  have e0' : [v0] = [.int .i64 z0] := e0
  have e1' : [v1] = [.int .i64 z1] := e1
  have e2' : [v2] = [.slice A n1 cf] := e2
  clear e0 e1 e2 g0 g1 g2
  obtain rfl := sing e0'
  obtain rfl := sing e1'
  obtain rfl := sing e2'
  exact ⟨z0, z1, l1, A, n1, cf, rfl, hr1⟩
end
theorem Try.own : ownKnob Try.prog.godebug = none := by kernel_rfl
theorem Try.laidOut : laidOutB Try.prog = true := by kernel_rfl
section
variable {H : Type} {enc : TypeId × Value → H} {P : Program}
theorem trodAll_ext (hl : laidOutB P = true) {W W' : World} (hb : Ext W W') : ∀ {ts : List TypeId} {vs : List Value} {ds : List (DataW H)} {p : List MemPlace}, (ts.all fun t => P.readableRec t && decide (t < P.types.size)) = true →
    DataW.TrodAll enc P W 0 (fun _ => true) true ts vs ds p → (∀ x ∈ p, x.block < W.heap.size) → DataW.TrodAll enc P W' 0 (fun b => decide (b < W.heap.size)) true ts vs ds p
  | [], vs, ds, p, _, h, _ => by
    obtain ⟨rfl, rfl, rfl⟩ := trodAll_nil h
    exact trodAll_mk0
  | t :: ts, vs, ds, p, ht, h, hlt => by
    obtain ⟨v, vs', d, ds', p0, q0, rfl, rfl, rfl, h1, h2⟩ := trodAll_cons h
    simp only [List.all_cons, Bool.and_eq_true, decide_eq_true_eq] at ht
    exact ⟨p0, q0, Below.trod hl ht.1.1 ht.1.2 h1 hb (fun x hx => hlt x (List.mem_append_left _ hx)), trodAll_ext hl hb ht.2 h2 (fun x hx => hlt x (List.mem_append_right _ hx)), rfl⟩
end
end Go.Proofs.Ytcjkndjjbjoehaa
