/- Law 4: late flights and plans are the specification's. -/
import Derived.Test.YtmlmgipngbndgaaIns2
import Derived.Test.YtmlmgipngbndgaaCare3
import Derived.Test.YtmlmgipngbndgaaRead
import Derived.Test.YtmlmgipngbndgaaSl7
namespace Go.Proofs.Ytmlmgipngbndgaa
open Go.RowKit
attribute [local irreducible] OQ OS OX Rd T TL GX GL AL AI RV wpG SAny Calls
set_option maxRecDepth 100000
set_option maxHeartbeats 2000000
set_option linter.unusedVariables false
set_option linter.unusedSimpArgs false


theorem sameInts_calls (A A' : Option Addr) (n c n' c' : Nat) (l m : List Int) (q : Bool) (hq : q = true ↔ l = m) (w : World) (hr : RdS w 1 A n (l.map inCells)) (hr' : RdS w 1 A' n' (m.map inCells)) (hn : n ≤ 1000000) (hn' : n' ≤ 1000000) :
    Calls Try.prog 32 #[.slice A n c, .slice A' n' c'] w fun e w' => e = .returned (.bool q) ∧ Ext w w' := by
  have hl := hr.len
  have hl' := hr'.len
  simp only [List.length_map] at hl hl'
  by_cases hnn : n = n'
  · subst hnn
    refine enterQ (c := cx w 26) Try.func32 rfl rfl rfl rfl ?_
    repeat' (first
      | ((with_reducible apply oq_id); first | (apply oq_fn; exact rfl; first | exact trivial | (refine ⟨?_, ?_⟩ <;> omega) | (refine ⟨?_, ?_, ?_⟩ <;> omega) | omega | skip) | ((with_reducible apply oq_load); exact rfl; exact rfl) | ((with_reducible apply oq_loadAgg); exact rfl; exact rfl) | ((with_reducible apply oq_build); exact rfl; exact rfl; exact rfl) | ((with_reducible apply oq_buildA); exact rfl; exact rfl; exact rfl; exact rfl) | ((with_reducible apply oq_fieldAgg); exact rfl; exact rfl; exact rfl) | ((with_reducible apply oq_indexAgg); exact rfl; exact rfl; exact rfl; exact rfl))
      | ((with_reducible apply tl_id); first | ((with_reducible apply tl_nil)) | ((with_reducible apply u_q); exact rfl; exact rfl; exact rfl; exact rfl) | ((with_reducible apply u_s0); exact rfl; exact rfl) | ((with_reducible apply u_s); exact rfl; exact rfl; exact rfl) | ((with_reducible apply u_skip); exact rfl; exact rfl; exact rfl) | ((with_reducible apply u_splitD); exact rfl; exact rfl; all_goals first | (intro hp; try (exfalso; omega)) | skip) | ((with_reducible apply u_splitN); exact rfl; exact rfl; all_goals first | (intro hp; try (exfalso; omega)) | skip) | ((with_reducible apply u_split); exact rfl; exact rfl; all_goals first | intro hp | skip))
      | ((with_reducible apply gx_id); first | ((with_reducible apply v_nil)) | ((with_reducible apply v_q); exact rfl; exact rfl; exact rfl) | ((with_reducible apply v_skip); exact rfl; exact rfl; exact rfl) | ((with_reducible apply v_splitD); exact rfl; exact rfl; all_goals first | (intro hp; try (exfalso; omega)) | skip) | ((with_reducible apply v_splitN); exact rfl; exact rfl; all_goals first | (intro hp; try (exfalso; omega)) | skip) | ((with_reducible apply v_split); exact rfl; exact rfl; all_goals first | intro hp | skip))
      | ((with_reducible apply os_id); first | ((with_reducible apply os_x); exact rfl) | ((with_reducible apply os_store); exact rfl; exact rfl; exact rfl; exact rfl) | ((with_reducible apply os_storeAgg); exact rfl; exact rfl; exact rfl; exact rfl; exact rfl))
      | ((with_reducible apply ox_id); first | ((with_reducible apply ox_alloc); exact rfl; intro _) | ((with_reducible apply ox_box); exact rfl; exact rfl; intro _) | ((with_reducible apply ox_boxAgg); exact rfl; intro _) | ((with_reducible apply ox_buildSlice1); exact rfl; exact rfl; exact rfl; exact rfl; exact rfl; exact rfl; intro _) | ((with_reducible apply ox_buildSlice2); exact rfl; exact rfl; exact rfl; exact rfl; exact rfl; exact rfl; intro _) | ((with_reducible apply ox_buildSlice); exact rfl; exact rfl; exact rfl; exact rfl))
      | ((with_reducible apply rd_id); first | (apply Rd.own; (repeat (first | exact P0 | apply P1)); exact rfl; done) | (apply Rd.old; (first | (with_reducible assumption) | exact c0 | exact c1 | exact c2 | exact c3 | exact c4 | exact c5 | exact c6 | exact c7 | exact c8 | exact d0 | exact d1 | exact d2 | exact d3 | exact d4 | exact d5); first | exact List.not_mem_nil | exact m0 | exact m1 | exact m2 | exact m3 | exact m4 | exact m5 | exact m6 | exact m7 | exact m8 | exact m9))
      | ((with_reducible apply t_id); first | ((with_reducible apply t_seq)) | (apply t_region; kernel_rfl) | (apply t_drawn; kernel_rfl; decide +kernel; try simp only [List.append_eq, List.cons_append, List.nil_append]) | ((with_reducible apply t_condT); exact rfl) | ((with_reducible apply t_condF); exact rfl) | ((with_reducible apply t_condD); exact rfl; all_goals first | (intro hp; try (exfalso; omega)) | skip) | ((with_reducible apply t_condN); exact rfl; all_goals first | (intro hp; try (exfalso; omega)) | skip) | ((with_reducible apply t_cond); exact rfl; all_goals first | intro hp | skip) | ((with_reducible apply t_ret)) | ((with_reducible apply t_skip)) | ((with_reducible apply t_exit)) | ((with_reducible apply t_block)))
      | with_reducible apply q_thenN
      | with_reducible apply q_thenR
      | with_reducible apply q_blockR
      | with_reducible apply q_blockN
      | with_reducible apply q_thenE
      | ((with_reducible apply q_blockE); exact rfl)
      | ((with_reducible apply q_blockO); exact rfl)
      | exact P0
      | ((with_reducible apply P1))
      | exact Rdn.zero
      | apply Rdn.succ
      | ((with_reducible apply Norm.nil); exact rfl)
      | ((with_reducible apply Norm.cons); exact rfl)
      | ((with_reducible apply end_ret))
      | ((with_reducible apply end_normal))
      | exact rvs_nil
      | ((with_reducible apply rvs_cons))
      | ((with_reducible apply rv_tmp); exact rfl)
      | ((with_reducible apply rv_cell); exact rfl; exact rfl)
      | ((with_reducible apply rv_cellAgg); exact rfl; exact rfl)
      | exact Nat.le_of_ble_eq_true rfl
      | exact (rfl : (_ : Bool) = true)
      | omega
      | (intro _ _; with_reducible apply tl_id)
      | (intro _; with_reducible apply tl_id)
      | (intro _ _; with_reducible apply al_id)
      | (intro _; with_reducible apply al_id))
    apply t_loopK (ι := Nat) [0, 1] (fun k => [(5, .int .i64 (k : Nat))]) (fun _ => []) (fun k => k ≤ n ∧ ∀ j, j < k → l[j]? = m[j]?) (fun k => n - k) (0)
    (repeat (first | exact KeepF.nil | (apply KeepF.cons; exact rfl) | apply KeepF.skip))
    (repeat (first | exact FrSub.nil | (apply FrSub.cons; exact rfl)))
    (repeat (first | exact HpSub.refl _ | (apply HpSub.consE; (repeat (first | exact P0 | apply P1)); exact rfl) | exact HpSub.nil))
    · exact ⟨by omega, fun j hj => by omega⟩
    rintro k ⟨hk, hkp⟩
    try simp only [List.cons_append, List.nil_append]
    by_cases hlt : k < n
    · obtain ⟨b, o, x, rfl, _, hx, c0⟩ := in_read hr hlt
      obtain ⟨b', o', y, rfl, _, hy, d0⟩ := in_read hr' hlt
      by_cases hxy : x = y
      · subst hxy
        repeat' (first
          | ((with_reducible apply oq_id); first | (focus ((with_reducible apply oq_indexAddrN); exact rfl; exact rfl; exact rfl; exact rfl; omega)) | (apply oq_fn; exact rfl; first | exact trivial | (refine ⟨?_, ?_⟩ <;> omega) | (refine ⟨?_, ?_, ?_⟩ <;> omega) | omega | skip) | ((with_reducible apply oq_load); exact rfl; exact rfl) | ((with_reducible apply oq_loadAgg); exact rfl; exact rfl) | ((with_reducible apply oq_build); exact rfl; exact rfl; exact rfl) | ((with_reducible apply oq_buildA); exact rfl; exact rfl; exact rfl; exact rfl) | ((with_reducible apply oq_fieldAgg); exact rfl; exact rfl; exact rfl) | ((with_reducible apply oq_indexAgg); exact rfl; exact rfl; exact rfl; exact rfl))
          | ((with_reducible apply tl_id); first | ((with_reducible apply tl_nil)) | ((with_reducible apply u_q); exact rfl; exact rfl; exact rfl; exact rfl) | ((with_reducible apply u_s0); exact rfl; exact rfl) | ((with_reducible apply u_s); exact rfl; exact rfl; exact rfl) | ((with_reducible apply u_skip); exact rfl; exact rfl; exact rfl) | ((with_reducible apply u_splitD); exact rfl; exact rfl; all_goals first | (intro hp; try (exfalso; omega)) | skip) | ((with_reducible apply u_splitN); exact rfl; exact rfl; all_goals first | (intro hp; try (exfalso; omega)) | skip) | ((with_reducible apply u_split); exact rfl; exact rfl; all_goals first | intro hp | skip))
          | ((with_reducible apply gx_id); first | ((with_reducible apply v_nil)) | ((with_reducible apply v_q); exact rfl; exact rfl; exact rfl) | ((with_reducible apply v_skip); exact rfl; exact rfl; exact rfl) | ((with_reducible apply v_splitD); exact rfl; exact rfl; all_goals first | (intro hp; try (exfalso; omega)) | skip) | ((with_reducible apply v_splitN); exact rfl; exact rfl; all_goals first | (intro hp; try (exfalso; omega)) | skip) | ((with_reducible apply v_split); exact rfl; exact rfl; all_goals first | intro hp | skip))
          | ((with_reducible apply os_id); first | ((with_reducible apply os_x); exact rfl) | ((with_reducible apply os_store); exact rfl; exact rfl; exact rfl; exact rfl) | ((with_reducible apply os_storeAgg); exact rfl; exact rfl; exact rfl; exact rfl; exact rfl))
          | ((with_reducible apply ox_id); first | ((with_reducible apply ox_alloc); exact rfl; intro _) | ((with_reducible apply ox_box); exact rfl; exact rfl; intro _) | ((with_reducible apply ox_boxAgg); exact rfl; intro _) | ((with_reducible apply ox_buildSlice1); exact rfl; exact rfl; exact rfl; exact rfl; exact rfl; exact rfl; intro _) | ((with_reducible apply ox_buildSlice2); exact rfl; exact rfl; exact rfl; exact rfl; exact rfl; exact rfl; intro _) | ((with_reducible apply ox_buildSlice); exact rfl; exact rfl; exact rfl; exact rfl))
          | ((with_reducible apply rd_id); first | (apply Rd.own; (repeat (first | exact P0 | apply P1)); exact rfl; done) | (apply Rd.old; (first | (with_reducible assumption) | exact c0 | exact c1 | exact c2 | exact c3 | exact c4 | exact c5 | exact c6 | exact c7 | exact c8 | exact d0 | exact d1 | exact d2 | exact d3 | exact d4 | exact d5); first | exact List.not_mem_nil | exact m0 | exact m1 | exact m2 | exact m3 | exact m4 | exact m5 | exact m6 | exact m7 | exact m8 | exact m9))
          | ((with_reducible apply t_id); first | ((with_reducible apply t_seq)) | (apply t_region; kernel_rfl) | (apply t_drawn; kernel_rfl; decide +kernel; try simp only [List.append_eq, List.cons_append, List.nil_append]) | ((with_reducible apply t_condT); exact rfl) | ((with_reducible apply t_condF); exact rfl) | ((with_reducible apply t_condD); exact rfl; all_goals first | (intro hp; try (exfalso; omega)) | skip) | ((with_reducible apply t_condN); exact rfl; all_goals first | (intro hp; try (exfalso; omega)) | skip) | ((with_reducible apply t_cond); exact rfl; all_goals first | intro hp | skip) | ((with_reducible apply t_ret)) | ((with_reducible apply t_skip)) | ((with_reducible apply t_exit)) | ((with_reducible apply t_block)))
          | with_reducible apply q_thenN
          | with_reducible apply q_thenR
          | with_reducible apply q_blockR
          | with_reducible apply q_blockN
          | with_reducible apply q_thenE
          | ((with_reducible apply q_blockE); exact rfl)
          | ((with_reducible apply q_blockO); exact rfl)
          | exact P0
          | ((with_reducible apply P1))
          | exact Rdn.zero
          | apply Rdn.succ
          | ((with_reducible apply Norm.nil); exact rfl)
          | ((with_reducible apply Norm.cons); exact rfl)
          | ((with_reducible apply end_ret))
          | ((with_reducible apply end_normal))
          | exact rvs_nil
          | ((with_reducible apply rvs_cons))
          | ((with_reducible apply rv_tmp); exact rfl)
          | ((with_reducible apply rv_cell); exact rfl; exact rfl)
          | ((with_reducible apply rv_cellAgg); exact rfl; exact rfl)
          | exact Nat.le_of_ble_eq_true rfl
          | exact (rfl : (_ : Bool) = true)
          | omega
          | (intro _ _; with_reducible apply tl_id)
          | (intro _; with_reducible apply tl_id)
          | (intro _ _; with_reducible apply al_id)
          | (intro _; with_reducible apply al_id))
        refine ⟨k + 1, ⟨by omega, fun j hj => ?_⟩, by omega, ?_, ?_⟩
        · rcases Nat.lt_or_ge j k with h | h
          · exact hkp j h
          · obtain rfl : j = k := by omega
            rw [hx, hy]
        · try simp only [List.cons_append, List.nil_append]
          (repeat' (first | exact FrSub.nil | (apply FrSub.cons; exact rfl) | exact HpSub.refl _ | (apply HpSub.consE; (repeat (first | exact P0 | apply P1)); exact rfl) | exact HpSub.nil))
        · try simp only [List.cons_append, List.nil_append]
          (repeat' (first | exact FrSub.nil | (apply FrSub.cons; exact rfl) | exact HpSub.refl _ | (apply HpSub.consE; (repeat (first | exact P0 | apply P1)); exact rfl) | exact HpSub.nil))
      · repeat' (first
          | ((with_reducible apply oq_id); first | (focus ((with_reducible apply oq_indexAddrN); exact rfl; exact rfl; exact rfl; exact rfl; omega)) | (apply oq_fn; exact rfl; first | exact trivial | (refine ⟨?_, ?_⟩ <;> omega) | (refine ⟨?_, ?_, ?_⟩ <;> omega) | omega | skip) | ((with_reducible apply oq_load); exact rfl; exact rfl) | ((with_reducible apply oq_loadAgg); exact rfl; exact rfl) | ((with_reducible apply oq_build); exact rfl; exact rfl; exact rfl) | ((with_reducible apply oq_buildA); exact rfl; exact rfl; exact rfl; exact rfl) | ((with_reducible apply oq_fieldAgg); exact rfl; exact rfl; exact rfl) | ((with_reducible apply oq_indexAgg); exact rfl; exact rfl; exact rfl; exact rfl))
          | ((with_reducible apply tl_id); first | ((with_reducible apply tl_nil)) | ((with_reducible apply u_q); exact rfl; exact rfl; exact rfl; exact rfl) | ((with_reducible apply u_s0); exact rfl; exact rfl) | ((with_reducible apply u_s); exact rfl; exact rfl; exact rfl) | ((with_reducible apply u_skip); exact rfl; exact rfl; exact rfl) | ((with_reducible apply u_splitD); exact rfl; exact rfl; all_goals first | (intro hp; try (exfalso; omega)) | skip) | ((with_reducible apply u_splitN); exact rfl; exact rfl; all_goals first | (intro hp; try (exfalso; omega)) | skip) | ((with_reducible apply u_split); exact rfl; exact rfl; all_goals first | intro hp | skip))
          | ((with_reducible apply gx_id); first | ((with_reducible apply v_nil)) | ((with_reducible apply v_q); exact rfl; exact rfl; exact rfl) | ((with_reducible apply v_skip); exact rfl; exact rfl; exact rfl) | ((with_reducible apply v_splitD); exact rfl; exact rfl; all_goals first | (intro hp; try (exfalso; omega)) | skip) | ((with_reducible apply v_splitN); exact rfl; exact rfl; all_goals first | (intro hp; try (exfalso; omega)) | skip) | ((with_reducible apply v_split); exact rfl; exact rfl; all_goals first | intro hp | skip))
          | ((with_reducible apply os_id); first | ((with_reducible apply os_x); exact rfl) | ((with_reducible apply os_store); exact rfl; exact rfl; exact rfl; exact rfl) | ((with_reducible apply os_storeAgg); exact rfl; exact rfl; exact rfl; exact rfl; exact rfl))
          | ((with_reducible apply ox_id); first | ((with_reducible apply ox_alloc); exact rfl; intro _) | ((with_reducible apply ox_box); exact rfl; exact rfl; intro _) | ((with_reducible apply ox_boxAgg); exact rfl; intro _) | ((with_reducible apply ox_buildSlice1); exact rfl; exact rfl; exact rfl; exact rfl; exact rfl; exact rfl; intro _) | ((with_reducible apply ox_buildSlice2); exact rfl; exact rfl; exact rfl; exact rfl; exact rfl; exact rfl; intro _) | ((with_reducible apply ox_buildSlice); exact rfl; exact rfl; exact rfl; exact rfl))
          | ((with_reducible apply rd_id); first | (apply Rd.own; (repeat (first | exact P0 | apply P1)); exact rfl; done) | (apply Rd.old; (first | (with_reducible assumption) | exact c0 | exact c1 | exact c2 | exact c3 | exact c4 | exact c5 | exact c6 | exact c7 | exact c8 | exact d0 | exact d1 | exact d2 | exact d3 | exact d4 | exact d5); first | exact List.not_mem_nil | exact m0 | exact m1 | exact m2 | exact m3 | exact m4 | exact m5 | exact m6 | exact m7 | exact m8 | exact m9))
          | ((with_reducible apply t_id); first | ((with_reducible apply t_seq)) | (apply t_region; kernel_rfl) | (apply t_drawn; kernel_rfl; decide +kernel; try simp only [List.append_eq, List.cons_append, List.nil_append]) | ((with_reducible apply t_condT); exact rfl) | ((with_reducible apply t_condF); exact rfl) | ((with_reducible apply t_condD); exact rfl; all_goals first | (intro hp; try (exfalso; omega)) | skip) | ((with_reducible apply t_condN); exact rfl; all_goals first | (intro hp; try (exfalso; omega)) | skip) | ((with_reducible apply t_cond); exact rfl; all_goals first | intro hp | skip) | ((with_reducible apply t_ret)) | ((with_reducible apply t_skip)) | ((with_reducible apply t_exit)) | ((with_reducible apply t_block)))
          | with_reducible apply q_thenN
          | with_reducible apply q_thenR
          | with_reducible apply q_blockR
          | with_reducible apply q_blockN
          | with_reducible apply q_thenE
          | ((with_reducible apply q_blockE); exact rfl)
          | ((with_reducible apply q_blockO); exact rfl)
          | exact P0
          | ((with_reducible apply P1))
          | exact Rdn.zero
          | apply Rdn.succ
          | ((with_reducible apply Norm.nil); exact rfl)
          | ((with_reducible apply Norm.cons); exact rfl)
          | ((with_reducible apply end_ret))
          | ((with_reducible apply end_normal))
          | exact rvs_nil
          | ((with_reducible apply rvs_cons))
          | ((with_reducible apply rv_tmp); exact rfl)
          | ((with_reducible apply rv_cell); exact rfl; exact rfl)
          | ((with_reducible apply rv_cellAgg); exact rfl; exact rfl)
          | exact Nat.le_of_ble_eq_true rfl
          | exact (rfl : (_ : Bool) = true)
          | omega
          | (intro _ _; with_reducible apply tl_id)
          | (intro _; with_reducible apply tl_id)
          | (intro _ _; with_reducible apply al_id)
          | (intro _; with_reducible apply al_id))
        have hf : q = false := by
          cases q with
          | false => rfl
          | true =>
            have e := hq.1 rfl
            rw [e, hy] at hx
            exact absurd (Option.some.inj hx).symm hxy
        rw [hf]; rfl
    · repeat' (first
        | ((with_reducible apply oq_id); first | (apply oq_fn; exact rfl; first | exact trivial | (refine ⟨?_, ?_⟩ <;> omega) | (refine ⟨?_, ?_, ?_⟩ <;> omega) | omega | skip) | ((with_reducible apply oq_load); exact rfl; exact rfl) | ((with_reducible apply oq_loadAgg); exact rfl; exact rfl) | ((with_reducible apply oq_build); exact rfl; exact rfl; exact rfl) | ((with_reducible apply oq_buildA); exact rfl; exact rfl; exact rfl; exact rfl) | ((with_reducible apply oq_fieldAgg); exact rfl; exact rfl; exact rfl) | ((with_reducible apply oq_indexAgg); exact rfl; exact rfl; exact rfl; exact rfl))
        | ((with_reducible apply tl_id); first | ((with_reducible apply tl_nil)) | ((with_reducible apply u_q); exact rfl; exact rfl; exact rfl; exact rfl) | ((with_reducible apply u_s0); exact rfl; exact rfl) | ((with_reducible apply u_s); exact rfl; exact rfl; exact rfl) | ((with_reducible apply u_skip); exact rfl; exact rfl; exact rfl) | ((with_reducible apply u_splitD); exact rfl; exact rfl; all_goals first | (intro hp; try (exfalso; omega)) | skip) | ((with_reducible apply u_splitN); exact rfl; exact rfl; all_goals first | (intro hp; try (exfalso; omega)) | skip) | ((with_reducible apply u_split); exact rfl; exact rfl; all_goals first | intro hp | skip))
        | ((with_reducible apply gx_id); first | ((with_reducible apply v_nil)) | ((with_reducible apply v_q); exact rfl; exact rfl; exact rfl) | ((with_reducible apply v_skip); exact rfl; exact rfl; exact rfl) | ((with_reducible apply v_splitD); exact rfl; exact rfl; all_goals first | (intro hp; try (exfalso; omega)) | skip) | ((with_reducible apply v_splitN); exact rfl; exact rfl; all_goals first | (intro hp; try (exfalso; omega)) | skip) | ((with_reducible apply v_split); exact rfl; exact rfl; all_goals first | intro hp | skip))
        | ((with_reducible apply os_id); first | ((with_reducible apply os_x); exact rfl) | ((with_reducible apply os_store); exact rfl; exact rfl; exact rfl; exact rfl) | ((with_reducible apply os_storeAgg); exact rfl; exact rfl; exact rfl; exact rfl; exact rfl))
        | ((with_reducible apply ox_id); first | ((with_reducible apply ox_alloc); exact rfl; intro _) | ((with_reducible apply ox_box); exact rfl; exact rfl; intro _) | ((with_reducible apply ox_boxAgg); exact rfl; intro _) | ((with_reducible apply ox_buildSlice1); exact rfl; exact rfl; exact rfl; exact rfl; exact rfl; exact rfl; intro _) | ((with_reducible apply ox_buildSlice2); exact rfl; exact rfl; exact rfl; exact rfl; exact rfl; exact rfl; intro _) | ((with_reducible apply ox_buildSlice); exact rfl; exact rfl; exact rfl; exact rfl))
        | ((with_reducible apply rd_id); first | (apply Rd.own; (repeat (first | exact P0 | apply P1)); exact rfl; done) | (apply Rd.old; (first | (with_reducible assumption) | exact c0 | exact c1 | exact c2 | exact c3 | exact c4 | exact c5 | exact c6 | exact c7 | exact c8 | exact d0 | exact d1 | exact d2 | exact d3 | exact d4 | exact d5); first | exact List.not_mem_nil | exact m0 | exact m1 | exact m2 | exact m3 | exact m4 | exact m5 | exact m6 | exact m7 | exact m8 | exact m9))
        | ((with_reducible apply t_id); first | ((with_reducible apply t_seq)) | (apply t_region; kernel_rfl) | (apply t_drawn; kernel_rfl; decide +kernel; try simp only [List.append_eq, List.cons_append, List.nil_append]) | ((with_reducible apply t_condT); exact rfl) | ((with_reducible apply t_condF); exact rfl) | ((with_reducible apply t_condD); exact rfl; all_goals first | (intro hp; try (exfalso; omega)) | skip) | ((with_reducible apply t_condN); exact rfl; all_goals first | (intro hp; try (exfalso; omega)) | skip) | ((with_reducible apply t_cond); exact rfl; all_goals first | intro hp | skip) | ((with_reducible apply t_ret)) | ((with_reducible apply t_skip)) | ((with_reducible apply t_exit)) | ((with_reducible apply t_block)))
        | with_reducible apply q_thenN
        | with_reducible apply q_thenR
        | with_reducible apply q_blockR
        | with_reducible apply q_blockN
        | with_reducible apply q_thenE
        | ((with_reducible apply q_blockE); exact rfl)
        | ((with_reducible apply q_blockO); exact rfl)
        | exact P0
        | ((with_reducible apply P1))
        | exact Rdn.zero
        | apply Rdn.succ
        | ((with_reducible apply Norm.nil); exact rfl)
        | ((with_reducible apply Norm.cons); exact rfl)
        | ((with_reducible apply end_ret))
        | ((with_reducible apply end_normal))
        | exact rvs_nil
        | ((with_reducible apply rvs_cons))
        | ((with_reducible apply rv_tmp); exact rfl)
        | ((with_reducible apply rv_cell); exact rfl; exact rfl)
        | ((with_reducible apply rv_cellAgg); exact rfl; exact rfl)
        | exact Nat.le_of_ble_eq_true rfl
        | exact (rfl : (_ : Bool) = true)
        | omega
        | (intro _ _; with_reducible apply tl_id)
        | (intro _; with_reducible apply tl_id)
        | (intro _ _; with_reducible apply al_id)
        | (intro _; with_reducible apply al_id))
      have : q = true := hq.2 (List.ext_getElem? fun j => by
        rcases Nat.lt_or_ge j n with h | h
        · exact hkp j (by omega)
        · rw [List.getElem?_eq_none (by omega), List.getElem?_eq_none (by omega)])
      rw [this]; rfl
  · have : q = false := by
      cases q with
      | false => rfl
      | true => exact absurd (by rw [← hl, ← hl', hq.1 rfl]) hnn
    refine enterQ (c := cx w 26) Try.func32 rfl rfl rfl rfl ?_
    repeat' (first
      | ((with_reducible apply oq_id); first | (apply oq_fn; exact rfl; first | exact trivial | (refine ⟨?_, ?_⟩ <;> omega) | (refine ⟨?_, ?_, ?_⟩ <;> omega) | omega | skip) | ((with_reducible apply oq_load); exact rfl; exact rfl) | ((with_reducible apply oq_loadAgg); exact rfl; exact rfl) | ((with_reducible apply oq_build); exact rfl; exact rfl; exact rfl) | ((with_reducible apply oq_buildA); exact rfl; exact rfl; exact rfl; exact rfl) | ((with_reducible apply oq_fieldAgg); exact rfl; exact rfl; exact rfl) | ((with_reducible apply oq_indexAgg); exact rfl; exact rfl; exact rfl; exact rfl))
      | ((with_reducible apply tl_id); first | ((with_reducible apply tl_nil)) | ((with_reducible apply u_q); exact rfl; exact rfl; exact rfl; exact rfl) | ((with_reducible apply u_s0); exact rfl; exact rfl) | ((with_reducible apply u_s); exact rfl; exact rfl; exact rfl) | ((with_reducible apply u_skip); exact rfl; exact rfl; exact rfl) | ((with_reducible apply u_splitD); exact rfl; exact rfl; all_goals first | (intro hp; try (exfalso; omega)) | skip) | ((with_reducible apply u_splitN); exact rfl; exact rfl; all_goals first | (intro hp; try (exfalso; omega)) | skip) | ((with_reducible apply u_split); exact rfl; exact rfl; all_goals first | intro hp | skip))
      | ((with_reducible apply gx_id); first | ((with_reducible apply v_nil)) | ((with_reducible apply v_q); exact rfl; exact rfl; exact rfl) | ((with_reducible apply v_skip); exact rfl; exact rfl; exact rfl) | ((with_reducible apply v_splitD); exact rfl; exact rfl; all_goals first | (intro hp; try (exfalso; omega)) | skip) | ((with_reducible apply v_splitN); exact rfl; exact rfl; all_goals first | (intro hp; try (exfalso; omega)) | skip) | ((with_reducible apply v_split); exact rfl; exact rfl; all_goals first | intro hp | skip))
      | ((with_reducible apply os_id); first | ((with_reducible apply os_x); exact rfl) | ((with_reducible apply os_store); exact rfl; exact rfl; exact rfl; exact rfl) | ((with_reducible apply os_storeAgg); exact rfl; exact rfl; exact rfl; exact rfl; exact rfl))
      | ((with_reducible apply ox_id); first | ((with_reducible apply ox_alloc); exact rfl; intro _) | ((with_reducible apply ox_box); exact rfl; exact rfl; intro _) | ((with_reducible apply ox_boxAgg); exact rfl; intro _) | ((with_reducible apply ox_buildSlice1); exact rfl; exact rfl; exact rfl; exact rfl; exact rfl; exact rfl; intro _) | ((with_reducible apply ox_buildSlice2); exact rfl; exact rfl; exact rfl; exact rfl; exact rfl; exact rfl; intro _) | ((with_reducible apply ox_buildSlice); exact rfl; exact rfl; exact rfl; exact rfl))
      | ((with_reducible apply rd_id); first | (apply Rd.own; (repeat (first | exact P0 | apply P1)); exact rfl; done) | (apply Rd.old; (first | (with_reducible assumption) | exact c0 | exact c1 | exact c2 | exact c3 | exact c4 | exact c5 | exact c6 | exact c7 | exact c8 | exact d0 | exact d1 | exact d2 | exact d3 | exact d4 | exact d5); first | exact List.not_mem_nil | exact m0 | exact m1 | exact m2 | exact m3 | exact m4 | exact m5 | exact m6 | exact m7 | exact m8 | exact m9))
      | ((with_reducible apply t_id); first | ((with_reducible apply t_seq)) | (apply t_region; kernel_rfl) | (apply t_drawn; kernel_rfl; decide +kernel; try simp only [List.append_eq, List.cons_append, List.nil_append]) | ((with_reducible apply t_condT); exact rfl) | ((with_reducible apply t_condF); exact rfl) | ((with_reducible apply t_condD); exact rfl; all_goals first | (intro hp; try (exfalso; omega)) | skip) | ((with_reducible apply t_condN); exact rfl; all_goals first | (intro hp; try (exfalso; omega)) | skip) | ((with_reducible apply t_cond); exact rfl; all_goals first | intro hp | skip) | ((with_reducible apply t_ret)) | ((with_reducible apply t_skip)) | ((with_reducible apply t_exit)) | ((with_reducible apply t_block)))
      | with_reducible apply q_thenN
      | with_reducible apply q_thenR
      | with_reducible apply q_blockR
      | with_reducible apply q_blockN
      | with_reducible apply q_thenE
      | ((with_reducible apply q_blockE); exact rfl)
      | ((with_reducible apply q_blockO); exact rfl)
      | exact P0
      | ((with_reducible apply P1))
      | exact Rdn.zero
      | apply Rdn.succ
      | ((with_reducible apply Norm.nil); exact rfl)
      | ((with_reducible apply Norm.cons); exact rfl)
      | ((with_reducible apply end_ret))
      | ((with_reducible apply end_normal))
      | exact rvs_nil
      | ((with_reducible apply rvs_cons))
      | ((with_reducible apply rv_tmp); exact rfl)
      | ((with_reducible apply rv_cell); exact rfl; exact rfl)
      | ((with_reducible apply rv_cellAgg); exact rfl; exact rfl)
      | exact Nat.le_of_ble_eq_true rfl
      | exact (rfl : (_ : Bool) = true)
      | omega
      | (intro _ _; with_reducible apply tl_id)
      | (intro _; with_reducible apply tl_id)
      | (intro _ _; with_reducible apply al_id)
      | (intro _; with_reducible apply al_id))
    rw [this]
    all_goals rfl
theorem in_len (l : List Int) : ∀ r ∈ l.map inCells, r.length = 1 := by simp only [List.mem_map]; rintro r ⟨x, _, rfl⟩; rfl
theorem in_one (l : List Int) : ∀ r ∈ l.map inCells, ∀ u ∈ r, u.oneCell' = true := by
  simp only [List.mem_map]
  rintro r ⟨x, _, rfl⟩ u hu
  obtain rfl : u = _ := by simpa [inCells] using hu
  rfl
theorem in_own {w0 : World} {M : Ms} {H H' : Hp} {w : World} {g n : Nat} {l : List Int} {tg : Tg} (hl : l.length = n) (h : Has w0 M H w) (q : Pick H g (l.map inCells).flatten tg H') : RdS w 1 (some ⟨g, 0, none⟩) n (l.map inCells) :=
  Blk.rows (h.blk _ q.mem).2 (by simpa using hl) (in_len l)
theorem in_open {x : List Value} (h : LfsOk [.int .i64] x) : ∃ y : Int, x = inCells y ∧ True := by
  obtain ⟨z0, u0, rfl, _, h⟩ := h.int
  obtain rfl := h.nil
  exact ⟨z0, rfl, trivial⟩
theorem open_cap {H : Type} {enc : TypeId × Value → H} {r : Reach} {P : Program} {W : World} {held : Bool} {t e : TypeId} {A : Option Addr} {m c : Nat} {d : DataW H} {p : List MemPlace} (hs : P.underlying t = some (.slice e))
    (h : DataW.Trod enc P W 0 (fun _ => true) held t (.slice A m c) d p) : m ≤ c := by
  obtain ⟨fuel, hf⟩ := h
  rcases Go.Deep.open_slice hs hf with ⟨h1, _⟩ | ⟨a, len, cap, m', k, D, Pl, h1, _, hlc, _⟩
  · simp only [Value.cells, List.cons.injEq, Value.slice.injEq, and_true] at h1
    omega
  · simp only [Value.cells, List.cons.injEq, Value.slice.injEq, and_true] at h1
    omega
def InsN (E : Int) (V : Value) (H : Hp) : Prop := V = .tuple #[.slice none 0 0, .int .i64 E] ∧ H = []
def InsY (pl : List Int) (V : Value) (H : Hp) : Prop := ∃ o, (o = none → pl = []) ∧ V = .tuple #[planS pl o, .int .i64 0] ∧ H = planH pl o
theorem insN {E : Int} {pl : List Int} {V : Value} {H : Hp} (he : E ≠ 0) (h : InsO E pl V H) : InsN E V H := by
  rcases h with ⟨_, h⟩ | ⟨h, _⟩
  · exact h
  · exact absurd h he
theorem insY {E : Int} {pl : List Int} {V : Value} {H : Hp} (he : E = 0) (h : InsO E pl V H) : InsY pl V H := by
  rcases h with ⟨h, _⟩ | ⟨_, h⟩
  · exact absurd he h
  · exact h
theorem insV_len {ev gr : Int} : ∀ {fs : List Int} {i k : Nat} {L : Int}, (insG ev gr fs i k L).length ≤ fs.length
  | [], _, _, _ => Nat.le_refl _
  | f :: t, i, k, L => by
    unfold insG
    split
    · have := insV_len (ev := ev) (gr := gr) (fs := t) (i := i + 1) (k := k) (L := L - f); simp; omega
    · have := insV_len (ev := ev) (gr := gr) (fs := t) (i := i + 1) (k := k - 1) (L := min L 0 + ev - f); simp; omega

theorem crewCares_T (ev gr du : Int) (A : Option Addr) (n c : Nat) (fs : List Int) (A2 : Option Addr) (m c2 : Nat) (pl : List Int) (w : World) (hr : RdS w 1 A n (fs.map inCells)) (hcap : n ≤ c) (hr2 : RdS w 1 A2 m (pl.map inCells)) :
    Calls Try.prog 4 #[.agg #[.int .i64 ev, .int .i64 gr, .int .i64 du], .slice A n c, .slice A2 m c2] w fun e w' => e = .returned (.bool true) ∧ Ext w w' := by
  have hl := hr.len
  simp only [List.length_map] at hl
  have hl2 := hr2.len
  simp only [List.length_map] at hl2
  by_cases hbig : n ≤ 80 ∧ m ≤ 80
  · have hilen : (insV ev gr du fs).length ≤ 80 := by have := insV_len (ev := ev) (gr := gr) (fs := fs) (i := 0) (k := (fewV ev gr du fs).toNat) (L := du); unfold insV; omega
    have HL := fun g1 p1 g2 p2 w1 h1 h2 => late_calls ev gr du (some ⟨g1, 0, none⟩) n p1 fs (some ⟨g2, 0, none⟩) m p2 pl w1 h1 (by omega) h2 (by omega)
    have HM := fun w1 (hx : Ext w w1) => refLate_calls ev gr du A n c fs A2 m c2 pl w1 (hr.ext hx) (by omega) (hr2.ext hx) (by omega)
    obtain ⟨⟨L1, L2, L3⟩, hL⟩ : ∃ k, lateS ev gr du fs pl = k := ⟨_, rfl⟩
    rw [hL] at HL HM
    dsimp only at HL HM
    have HC := fun w1 => checkCare_calls ev gr du w1
    have HD := fun w1 => refCheckCare_calls ev gr du w1
    obtain ⟨cE, hcE⟩ : ∃ k, careE ev gr du = k := ⟨_, rfl⟩
    rw [hcE] at HC HD
    have HI := fun g1 p1 w1 h1 => inspect_T ev gr du (some ⟨g1, 0, none⟩) n p1 fs w1 h1 (by omega)
    have HJ := fun w1 (hx : Ext w w1) => refInspect_T ev gr du A n c fs w1 (hr.ext hx) (by omega) hcap
    obtain ⟨E, hE⟩ : ∃ k, insE ev gr du fs = k := ⟨_, rfl⟩
    rw [hE] at HI HJ
    by_cases hE0 : E = 0
    · refine enterQ (c := cx w 103) Try.func4 rfl rfl rfl rfl ?_
      repeat' (first
        | ((with_reducible apply oq_id); first | (apply oq_fn; exact rfl; first | exact trivial | (refine ⟨?_, ?_⟩ <;> omega) | (refine ⟨?_, ?_, ?_⟩ <;> omega) | omega | skip) | ((with_reducible apply oq_load); exact rfl; exact rfl) | ((with_reducible apply oq_loadAgg); exact rfl; exact rfl) | ((with_reducible apply oq_call (k := 26) (hc := Try.call26)); exact rfl; exact rfl; exact fun D w1 hw1 => HL _ _ _ _ w1 (in_own hl hw1 (by (repeat (first | exact P0 | apply P1)))) (in_own hl2 hw1 (by (repeat (first | exact P0 | apply P1))))) | ((with_reducible apply oq_call (k := 27) (hc := Try.call27)); exact rfl; exact rfl; exact fun D w1 hw1 => HM w1 hw1.ext.ext) | ((with_reducible apply oq_call (k := 30) (hc := Try.call30)); exact rfl; exact rfl; exact fun D w1 hw1 => HC w1) | ((with_reducible apply oq_call (k := 31) (hc := Try.call31)); exact rfl; exact rfl; exact fun D w1 hw1 => HD w1) | ((with_reducible apply oq_call (k := 32) (hc := Try.call32)); exact rfl; exact rfl; exact fun D w1 hw1 => sameInts_calls _ _ _ _ _ _ fs fs true (by simp) w1 (in_own hl hw1 (by (repeat (first | exact P0 | apply P1)))) (hr.ext hw1.ext.ext) (by omega) (by omega)) | ((with_reducible apply oq_call (k := 32) (hc := Try.call32)); exact rfl; exact rfl; exact fun D w1 hw1 => sameInts_calls _ _ _ _ _ _ pl pl true (by simp) w1 (in_own hl2 hw1 (by (repeat (first | exact P0 | apply P1)))) (hr2.ext hw1.ext.ext) (by omega) (by omega)) | ((with_reducible apply oq_call (k := 32) (hc := Try.call32)); exact rfl; exact rfl; exact fun D w1 hw1 => sameInts_calls none none 0 0 0 0 [] [] true (by simp) w1 (RdS.nil _ _ _) (RdS.nil _ _ _) (by omega) (by omega)) | ((with_reducible apply oq_call (k := 32) (hc := Try.call32)); exact rfl; exact rfl; exact fun D w1 hw1 => sameInts_calls none _ 0 0 _ _ [] (insV ev gr du fs) true (by simp [hpl]) w1 (RdS.nil _ _ _) (int_rows rfl hw1 (by (repeat (first | exact P0 | apply P1)))) (by omega) (by omega)) | ((with_reducible apply oq_call (k := 32) (hc := Try.call32)); exact rfl; exact rfl; exact fun D w1 hw1 => sameInts_calls _ none _ _ 0 0 (insV ev gr du fs) [] true (by simp [hpl]) w1 (int_rows rfl hw1 (by (repeat (first | exact P0 | apply P1)))) (RdS.nil _ _ _) (by omega) (by omega)) | ((with_reducible apply oq_call (k := 32) (hc := Try.call32)); exact rfl; exact rfl; exact fun D w1 hw1 => sameInts_calls _ _ _ _ _ _ (insV ev gr du fs) (insV ev gr du fs) true (by simp) w1 (int_rows rfl hw1 (by (repeat (first | exact P0 | apply P1)))) (int_rows rfl hw1 (by (repeat (first | exact P0 | apply P1)))) (by omega) (by omega)) | ((with_reducible apply oq_build); exact rfl; exact rfl; exact rfl) | ((with_reducible apply oq_buildA); exact rfl; exact rfl; exact rfl; exact rfl) | ((with_reducible apply oq_fieldAgg); exact rfl; exact rfl; exact rfl) | ((with_reducible apply oq_indexAgg); exact rfl; exact rfl; exact rfl; exact rfl))
        | ((with_reducible apply tl_id); first | ((with_reducible apply tl_nil)) | ((with_reducible apply u_s); exact rfl; exact rfl; exact rfl; (with_reducible apply os_appendRows (hk := app_ok41) (rows := fs.map inCells) (hr := fun D w1 hw1 => hr.ext hw1.ext.ext)); exact rfl; exact rfl; exact P0; exact in_len fs; exact rfl; exact in_one fs; exact Nat.le_refl _; omega; omega; intro b cap'; simp only [Nat.zero_add, List.nil_append]) | ((with_reducible apply u_s); exact rfl; exact rfl; exact rfl; (with_reducible apply os_appendRows (hk := app_ok41) (rows := pl.map inCells) (hr := fun D w1 hw1 => hr2.ext hw1.ext.ext)); exact rfl; exact rfl; exact P0; exact in_len pl; exact rfl; exact in_one pl; exact Nat.le_refl _; omega; omega; intro b cap'; simp only [Nat.zero_add, List.nil_append]) | ((with_reducible apply u_s); exact rfl; exact rfl; exact rfl; (with_reducible apply os_callF (PV := InsY (insV ev gr du fs)) (k := 28) (hc := Try.call28)); exact rfl; exact rfl; exact fun D w1 hw1 => (HI _ _ w1 (in_own hl hw1 (by (repeat (first | exact P0 | apply P1))))).mono fun e w' ⟨V, H', h1, h2, h3⟩ => ⟨V, H', h1, insY hE0 h2, h3⟩; rintro V' H' ⟨o, ho, rfl, rfl⟩; rcases o with _ | ⟨g, cap⟩ <;> (first | (have hpl := ho rfl) | skip) <;> simp only [planS_none, planS_some, planH_none, planH_some, List.cons_append, List.nil_append]) | ((with_reducible apply u_s); exact rfl; exact rfl; exact rfl; (with_reducible apply os_callF (PV := InsY (insV ev gr du fs)) (k := 29) (hc := Try.call29)); exact rfl; exact rfl; exact fun D w1 hw1 => (HJ w1 hw1.ext.ext).mono fun e w' ⟨V, H', h1, h2, h3⟩ => ⟨V, H', h1, insY hE0 h2, h3⟩; rintro V' H' ⟨o, ho, rfl, rfl⟩; rcases o with _ | ⟨g, cap⟩ <;> (first | (have hpl := ho rfl) | skip) <;> simp only [planS_none, planS_some, planH_none, planH_some, List.cons_append, List.nil_append]) | ((with_reducible apply u_q); exact rfl; exact rfl; exact rfl; exact rfl) | ((with_reducible apply u_s0); exact rfl; exact rfl) | ((with_reducible apply u_s); exact rfl; exact rfl; exact rfl) | ((with_reducible apply u_skip); exact rfl; exact rfl; exact rfl) | ((with_reducible apply u_splitD); exact rfl; exact rfl; all_goals first | (intro hp; try (exfalso; omega)) | skip) | ((with_reducible apply u_splitN); exact rfl; exact rfl; all_goals first | (intro hp; try (exfalso; omega)) | skip) | ((with_reducible apply u_split); exact rfl; exact rfl; all_goals first | intro hp | skip))
        | ((with_reducible apply gx_id); first | ((with_reducible apply v_nil)) | ((with_reducible apply v_q); exact rfl; exact rfl; exact rfl) | ((with_reducible apply v_skip); exact rfl; exact rfl; exact rfl) | ((with_reducible apply v_splitD); exact rfl; exact rfl; all_goals first | (intro hp; try (exfalso; omega)) | skip) | ((with_reducible apply v_splitN); exact rfl; exact rfl; all_goals first | (intro hp; try (exfalso; omega)) | skip) | ((with_reducible apply v_split); exact rfl; exact rfl; all_goals first | intro hp | skip))
        | ((with_reducible apply os_id); first | ((with_reducible apply os_x); exact rfl) | ((with_reducible apply os_store); exact rfl; exact rfl; exact rfl; exact rfl) | ((with_reducible apply os_storeAgg); exact rfl; exact rfl; exact rfl; exact rfl; exact rfl))
        | ((with_reducible apply ox_id); first | ((with_reducible apply ox_alloc); exact rfl; intro _) | ((with_reducible apply ox_box); exact rfl; exact rfl; intro _) | ((with_reducible apply ox_boxAgg); exact rfl; intro _) | ((with_reducible apply ox_buildSlice1); exact rfl; exact rfl; exact rfl; exact rfl; exact rfl; exact rfl; intro _) | ((with_reducible apply ox_buildSlice2); exact rfl; exact rfl; exact rfl; exact rfl; exact rfl; exact rfl; intro _) | ((with_reducible apply ox_buildSlice); exact rfl; exact rfl; exact rfl; exact rfl))
        | ((with_reducible apply rd_id); first | (apply Rd.own; (repeat (first | exact P0 | apply P1)); exact rfl; done) | (apply Rd.old; (first | (with_reducible assumption) | exact c0 | exact c1 | exact c2 | exact c3 | exact c4 | exact c5 | exact c6 | exact c7 | exact c8 | exact d0 | exact d1 | exact d2 | exact d3 | exact d4 | exact d5); first | exact List.not_mem_nil | exact m0 | exact m1 | exact m2 | exact m3 | exact m4 | exact m5 | exact m6 | exact m7 | exact m8 | exact m9))
        | ((with_reducible apply t_id); first | ((with_reducible apply t_seq)) | (apply t_region; kernel_rfl) | (apply t_drawn; kernel_rfl; decide +kernel; try simp only [List.append_eq, List.cons_append, List.nil_append]) | ((with_reducible apply t_condT); exact rfl) | ((with_reducible apply t_condF); exact rfl) | ((with_reducible apply t_condD); exact rfl; all_goals first | (intro hp; try (exfalso; omega)) | skip) | ((with_reducible apply t_condN); exact rfl; all_goals first | (intro hp; try (exfalso; omega)) | skip) | ((with_reducible apply t_cond); exact rfl; all_goals first | intro hp | skip) | ((with_reducible apply t_ret)) | ((with_reducible apply t_skip)) | ((with_reducible apply t_exit)) | ((with_reducible apply t_block)))
        | with_reducible apply q_thenN
        | with_reducible apply q_thenR
        | with_reducible apply q_blockR
        | with_reducible apply q_blockN
        | with_reducible apply q_thenE
        | ((with_reducible apply q_blockE); exact rfl)
        | ((with_reducible apply q_blockO); exact rfl)
        | exact P0
        | ((with_reducible apply P1))
        | exact Rdn.zero
        | apply Rdn.succ
        | ((with_reducible apply Norm.nil); exact rfl)
        | ((with_reducible apply Norm.cons); exact rfl)
        | ((with_reducible apply end_ret))
        | ((with_reducible apply end_normal))
        | exact rvs_nil
        | ((with_reducible apply rvs_cons))
        | ((with_reducible apply rv_tmp); exact rfl)
        | ((with_reducible apply rv_cell); exact rfl; exact rfl)
        | ((with_reducible apply rv_cellAgg); exact rfl; exact rfl)
        | exact Nat.le_of_ble_eq_true rfl
        | exact (rfl : (_ : Bool) = true)
        | omega
        | (intro _ _; with_reducible apply tl_id)
        | (intro _; with_reducible apply tl_id)
        | (intro _ _; with_reducible apply al_id)
        | (intro _; with_reducible apply al_id))
      all_goals rfl
    · refine enterQ (c := cx w 103) Try.func4 rfl rfl rfl rfl ?_
      repeat' (first
        | ((with_reducible apply oq_id); first | (apply oq_fn; exact rfl; first | exact trivial | (refine ⟨?_, ?_⟩ <;> omega) | (refine ⟨?_, ?_, ?_⟩ <;> omega) | omega | skip) | ((with_reducible apply oq_load); exact rfl; exact rfl) | ((with_reducible apply oq_loadAgg); exact rfl; exact rfl) | ((with_reducible apply oq_call (k := 26) (hc := Try.call26)); exact rfl; exact rfl; exact fun D w1 hw1 => HL _ _ _ _ w1 (in_own hl hw1 (by (repeat (first | exact P0 | apply P1)))) (in_own hl2 hw1 (by (repeat (first | exact P0 | apply P1))))) | ((with_reducible apply oq_call (k := 27) (hc := Try.call27)); exact rfl; exact rfl; exact fun D w1 hw1 => HM w1 hw1.ext.ext) | ((with_reducible apply oq_call (k := 30) (hc := Try.call30)); exact rfl; exact rfl; exact fun D w1 hw1 => HC w1) | ((with_reducible apply oq_call (k := 31) (hc := Try.call31)); exact rfl; exact rfl; exact fun D w1 hw1 => HD w1) | ((with_reducible apply oq_call (k := 32) (hc := Try.call32)); exact rfl; exact rfl; exact fun D w1 hw1 => sameInts_calls _ _ _ _ _ _ fs fs true (by simp) w1 (in_own hl hw1 (by (repeat (first | exact P0 | apply P1)))) (hr.ext hw1.ext.ext) (by omega) (by omega)) | ((with_reducible apply oq_call (k := 32) (hc := Try.call32)); exact rfl; exact rfl; exact fun D w1 hw1 => sameInts_calls _ _ _ _ _ _ pl pl true (by simp) w1 (in_own hl2 hw1 (by (repeat (first | exact P0 | apply P1)))) (hr2.ext hw1.ext.ext) (by omega) (by omega)) | ((with_reducible apply oq_call (k := 32) (hc := Try.call32)); exact rfl; exact rfl; exact fun D w1 hw1 => sameInts_calls none none 0 0 0 0 [] [] true (by simp) w1 (RdS.nil _ _ _) (RdS.nil _ _ _) (by omega) (by omega)) | ((with_reducible apply oq_build); exact rfl; exact rfl; exact rfl) | ((with_reducible apply oq_buildA); exact rfl; exact rfl; exact rfl; exact rfl) | ((with_reducible apply oq_fieldAgg); exact rfl; exact rfl; exact rfl) | ((with_reducible apply oq_indexAgg); exact rfl; exact rfl; exact rfl; exact rfl))
        | ((with_reducible apply tl_id); first | ((with_reducible apply tl_nil)) | ((with_reducible apply u_s); exact rfl; exact rfl; exact rfl; (with_reducible apply os_appendRows (hk := app_ok41) (rows := fs.map inCells) (hr := fun D w1 hw1 => hr.ext hw1.ext.ext)); exact rfl; exact rfl; exact P0; exact in_len fs; exact rfl; exact in_one fs; exact Nat.le_refl _; omega; omega; intro b cap'; simp only [Nat.zero_add, List.nil_append]) | ((with_reducible apply u_s); exact rfl; exact rfl; exact rfl; (with_reducible apply os_appendRows (hk := app_ok41) (rows := pl.map inCells) (hr := fun D w1 hw1 => hr2.ext hw1.ext.ext)); exact rfl; exact rfl; exact P0; exact in_len pl; exact rfl; exact in_one pl; exact Nat.le_refl _; omega; omega; intro b cap'; simp only [Nat.zero_add, List.nil_append]) | ((with_reducible apply u_s); exact rfl; exact rfl; exact rfl; (with_reducible apply os_callF (PV := InsN E) (k := 28) (hc := Try.call28)); exact rfl; exact rfl; exact fun D w1 hw1 => (HI _ _ w1 (in_own hl hw1 (by (repeat (first | exact P0 | apply P1))))).mono fun e w' ⟨V, H', h1, h2, h3⟩ => ⟨V, H', h1, insN hE0 h2, h3⟩; rintro V' H' ⟨rfl, rfl⟩; simp only [List.cons_append, List.nil_append]) | ((with_reducible apply u_s); exact rfl; exact rfl; exact rfl; (with_reducible apply os_callF (PV := InsN E) (k := 29) (hc := Try.call29)); exact rfl; exact rfl; exact fun D w1 hw1 => (HJ w1 hw1.ext.ext).mono fun e w' ⟨V, H', h1, h2, h3⟩ => ⟨V, H', h1, insN hE0 h2, h3⟩; rintro V' H' ⟨rfl, rfl⟩; simp only [List.cons_append, List.nil_append]) | ((with_reducible apply u_q); exact rfl; exact rfl; exact rfl; exact rfl) | ((with_reducible apply u_s0); exact rfl; exact rfl) | ((with_reducible apply u_s); exact rfl; exact rfl; exact rfl) | ((with_reducible apply u_skip); exact rfl; exact rfl; exact rfl) | ((with_reducible apply u_splitD); exact rfl; exact rfl; all_goals first | (intro hp; try (exfalso; omega)) | skip) | ((with_reducible apply u_splitN); exact rfl; exact rfl; all_goals first | (intro hp; try (exfalso; omega)) | skip) | ((with_reducible apply u_split); exact rfl; exact rfl; all_goals first | intro hp | skip))
        | ((with_reducible apply gx_id); first | ((with_reducible apply v_nil)) | ((with_reducible apply v_q); exact rfl; exact rfl; exact rfl) | ((with_reducible apply v_skip); exact rfl; exact rfl; exact rfl) | ((with_reducible apply v_splitD); exact rfl; exact rfl; all_goals first | (intro hp; try (exfalso; omega)) | skip) | ((with_reducible apply v_splitN); exact rfl; exact rfl; all_goals first | (intro hp; try (exfalso; omega)) | skip) | ((with_reducible apply v_split); exact rfl; exact rfl; all_goals first | intro hp | skip))
        | ((with_reducible apply os_id); first | ((with_reducible apply os_x); exact rfl) | ((with_reducible apply os_store); exact rfl; exact rfl; exact rfl; exact rfl) | ((with_reducible apply os_storeAgg); exact rfl; exact rfl; exact rfl; exact rfl; exact rfl))
        | ((with_reducible apply ox_id); first | ((with_reducible apply ox_alloc); exact rfl; intro _) | ((with_reducible apply ox_box); exact rfl; exact rfl; intro _) | ((with_reducible apply ox_boxAgg); exact rfl; intro _) | ((with_reducible apply ox_buildSlice1); exact rfl; exact rfl; exact rfl; exact rfl; exact rfl; exact rfl; intro _) | ((with_reducible apply ox_buildSlice2); exact rfl; exact rfl; exact rfl; exact rfl; exact rfl; exact rfl; intro _) | ((with_reducible apply ox_buildSlice); exact rfl; exact rfl; exact rfl; exact rfl))
        | ((with_reducible apply rd_id); first | (apply Rd.own; (repeat (first | exact P0 | apply P1)); exact rfl; done) | (apply Rd.old; (first | (with_reducible assumption) | exact c0 | exact c1 | exact c2 | exact c3 | exact c4 | exact c5 | exact c6 | exact c7 | exact c8 | exact d0 | exact d1 | exact d2 | exact d3 | exact d4 | exact d5); first | exact List.not_mem_nil | exact m0 | exact m1 | exact m2 | exact m3 | exact m4 | exact m5 | exact m6 | exact m7 | exact m8 | exact m9))
        | ((with_reducible apply t_id); first | ((with_reducible apply t_seq)) | (apply t_region; kernel_rfl) | (apply t_drawn; kernel_rfl; decide +kernel; try simp only [List.append_eq, List.cons_append, List.nil_append]) | ((with_reducible apply t_condT); exact rfl) | ((with_reducible apply t_condF); exact rfl) | ((with_reducible apply t_condD); exact rfl; all_goals first | (intro hp; try (exfalso; omega)) | skip) | ((with_reducible apply t_condN); exact rfl; all_goals first | (intro hp; try (exfalso; omega)) | skip) | ((with_reducible apply t_cond); exact rfl; all_goals first | intro hp | skip) | ((with_reducible apply t_ret)) | ((with_reducible apply t_skip)) | ((with_reducible apply t_exit)) | ((with_reducible apply t_block)))
        | with_reducible apply q_thenN
        | with_reducible apply q_thenR
        | with_reducible apply q_blockR
        | with_reducible apply q_blockN
        | with_reducible apply q_thenE
        | ((with_reducible apply q_blockE); exact rfl)
        | ((with_reducible apply q_blockO); exact rfl)
        | exact P0
        | ((with_reducible apply P1))
        | exact Rdn.zero
        | apply Rdn.succ
        | ((with_reducible apply Norm.nil); exact rfl)
        | ((with_reducible apply Norm.cons); exact rfl)
        | ((with_reducible apply end_ret))
        | ((with_reducible apply end_normal))
        | exact rvs_nil
        | ((with_reducible apply rvs_cons))
        | ((with_reducible apply rv_tmp); exact rfl)
        | ((with_reducible apply rv_cell); exact rfl; exact rfl)
        | ((with_reducible apply rv_cellAgg); exact rfl; exact rfl)
        | exact Nat.le_of_ble_eq_true rfl
        | exact (rfl : (_ : Bool) = true)
        | omega
        | (intro _ _; with_reducible apply tl_id)
        | (intro _; with_reducible apply tl_id)
        | (intro _ _; with_reducible apply al_id)
        | (intro _; with_reducible apply al_id))
      all_goals rfl
  · refine enterQ (c := cx w 103) Try.func4 rfl rfl rfl rfl ?_
    repeat' (first
      | ((with_reducible apply oq_id); first | (apply oq_fn; exact rfl; first | exact trivial | (refine ⟨?_, ?_⟩ <;> omega) | (refine ⟨?_, ?_, ?_⟩ <;> omega) | omega | skip) | ((with_reducible apply oq_load); exact rfl; exact rfl) | ((with_reducible apply oq_loadAgg); exact rfl; exact rfl) | ((with_reducible apply oq_build); exact rfl; exact rfl; exact rfl) | ((with_reducible apply oq_buildA); exact rfl; exact rfl; exact rfl; exact rfl) | ((with_reducible apply oq_fieldAgg); exact rfl; exact rfl; exact rfl) | ((with_reducible apply oq_indexAgg); exact rfl; exact rfl; exact rfl; exact rfl))
      | ((with_reducible apply tl_id); first | ((with_reducible apply tl_nil)) | ((with_reducible apply u_q); exact rfl; exact rfl; exact rfl; exact rfl) | ((with_reducible apply u_s0); exact rfl; exact rfl) | ((with_reducible apply u_s); exact rfl; exact rfl; exact rfl) | ((with_reducible apply u_skip); exact rfl; exact rfl; exact rfl) | ((with_reducible apply u_splitD); exact rfl; exact rfl; all_goals first | (intro hp; try (exfalso; omega)) | skip) | ((with_reducible apply u_splitN); exact rfl; exact rfl; all_goals first | (intro hp; try (exfalso; omega)) | skip) | ((with_reducible apply u_split); exact rfl; exact rfl; all_goals first | intro hp | skip))
      | ((with_reducible apply gx_id); first | ((with_reducible apply v_nil)) | ((with_reducible apply v_q); exact rfl; exact rfl; exact rfl) | ((with_reducible apply v_skip); exact rfl; exact rfl; exact rfl) | ((with_reducible apply v_splitD); exact rfl; exact rfl; all_goals first | (intro hp; try (exfalso; omega)) | skip) | ((with_reducible apply v_splitN); exact rfl; exact rfl; all_goals first | (intro hp; try (exfalso; omega)) | skip) | ((with_reducible apply v_split); exact rfl; exact rfl; all_goals first | intro hp | skip))
      | ((with_reducible apply os_id); first | ((with_reducible apply os_x); exact rfl) | ((with_reducible apply os_store); exact rfl; exact rfl; exact rfl; exact rfl) | ((with_reducible apply os_storeAgg); exact rfl; exact rfl; exact rfl; exact rfl; exact rfl))
      | ((with_reducible apply ox_id); first | ((with_reducible apply ox_alloc); exact rfl; intro _) | ((with_reducible apply ox_box); exact rfl; exact rfl; intro _) | ((with_reducible apply ox_boxAgg); exact rfl; intro _) | ((with_reducible apply ox_buildSlice1); exact rfl; exact rfl; exact rfl; exact rfl; exact rfl; exact rfl; intro _) | ((with_reducible apply ox_buildSlice2); exact rfl; exact rfl; exact rfl; exact rfl; exact rfl; exact rfl; intro _) | ((with_reducible apply ox_buildSlice); exact rfl; exact rfl; exact rfl; exact rfl))
      | ((with_reducible apply rd_id); first | (apply Rd.own; (repeat (first | exact P0 | apply P1)); exact rfl; done) | (apply Rd.old; (first | (with_reducible assumption) | exact c0 | exact c1 | exact c2 | exact c3 | exact c4 | exact c5 | exact c6 | exact c7 | exact c8 | exact d0 | exact d1 | exact d2 | exact d3 | exact d4 | exact d5); first | exact List.not_mem_nil | exact m0 | exact m1 | exact m2 | exact m3 | exact m4 | exact m5 | exact m6 | exact m7 | exact m8 | exact m9))
      | ((with_reducible apply t_id); first | ((with_reducible apply t_seq)) | (apply t_region; kernel_rfl) | (apply t_drawn; kernel_rfl; decide +kernel; try simp only [List.append_eq, List.cons_append, List.nil_append]) | ((with_reducible apply t_condT); exact rfl) | ((with_reducible apply t_condF); exact rfl) | ((with_reducible apply t_condD); exact rfl; all_goals first | (intro hp; try (exfalso; omega)) | skip) | ((with_reducible apply t_condN); exact rfl; all_goals first | (intro hp; try (exfalso; omega)) | skip) | ((with_reducible apply t_cond); exact rfl; all_goals first | intro hp | skip) | ((with_reducible apply t_ret)) | ((with_reducible apply t_skip)) | ((with_reducible apply t_exit)) | ((with_reducible apply t_block)))
      | with_reducible apply q_thenN
      | with_reducible apply q_thenR
      | with_reducible apply q_blockR
      | with_reducible apply q_blockN
      | with_reducible apply q_thenE
      | ((with_reducible apply q_blockE); exact rfl)
      | ((with_reducible apply q_blockO); exact rfl)
      | exact P0
      | ((with_reducible apply P1))
      | exact Rdn.zero
      | apply Rdn.succ
      | ((with_reducible apply Norm.nil); exact rfl)
      | ((with_reducible apply Norm.cons); exact rfl)
      | ((with_reducible apply end_ret))
      | ((with_reducible apply end_normal))
      | exact rvs_nil
      | ((with_reducible apply rvs_cons))
      | ((with_reducible apply rv_tmp); exact rfl)
      | ((with_reducible apply rv_cell); exact rfl; exact rfl)
      | ((with_reducible apply rv_cellAgg); exact rfl; exact rfl)
      | exact Nat.le_of_ble_eq_true rfl
      | exact (rfl : (_ : Bool) = true)
      | omega
      | (intro _ _; with_reducible apply tl_id)
      | (intro _; with_reducible apply tl_id)
      | (intro _ _; with_reducible apply al_id)
      | (intro _; with_reducible apply al_id))
    all_goals rfl

end Go.Proofs.Ytmlmgipngbndgaa
