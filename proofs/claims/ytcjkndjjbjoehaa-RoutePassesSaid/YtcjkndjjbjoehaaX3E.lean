/- A part of the proof: rules for walks, and contracts of functions (5). -/
import Derived.Test.YtcjkndjjbjoehaaX3D
set_option linter.unusedVariables false
set_option linter.unusedSimpArgs false
set_option maxRecDepth 100000
set_option maxHeartbeats 2000000
namespace Go.Proofs.Ytcjkndjjbjoehaa
open Go.RowKit
attribute [local irreducible] OQ OS OX Rd T TL GX GL AL AI RV wpG SAny Calls Meth
theorem blk_cap {w : World} {b e s cap : Nat} {C : List Value} (h : Blk w b C (some (e, s, cap))) (hs : 0 < s) : C.length ≤ cap * s := by
  rcases h with ⟨c, t, h1, h2, _, h4, _⟩ | ⟨rfl, _⟩
  · rw [← h4]
    rcases Nat.lt_or_ge c.size C.length with h5 | h5
    · have := h2 c.size C[c.size] (List.getElem?_eq_getElem h5)
      have := (Array.getElem?_eq_some_iff.1 this).1
      omega
    · exact h5
  · simp
section
variable {c : Cx} {F : Fr} {H : Hp} {d : Option Tmp} {ty t t' : TypeId} {pos : String} {af : Array Edge} {g : Option (Nat × Bool)} {x y : Operand} {m n k : Int}
theorem oq_quoE (hx : ev F x = some (.int .i64 m)) (hy : ev F y = some (.int .i64 n)) (e : m.tdiv n = k ∧ n ≠ 0 ∧ -9223372036854775808 ≤ k ∧ k ≤ 9223372036854775807) : OQ c ⟨d, .binOp .quo t x y t', ty, pos, af, g⟩ F H (.int .i64 k) :=
  (oq_quo hx hy e.2.1 (by rw [e.1]; exact ⟨e.2.2.1, e.2.2.2⟩)).as (by rw [e.1])
theorem tdiv_nat {m : Int} {a b r : Nat} {n : Int} (e : m = (a : Int)) (e2 : n = (b : Int)) (hr : a / b = r) : m.tdiv n = (r : Int) := by
  rw [e, e2, ← hr, Int.ofNat_tdiv]
end
theorem heapUp_W (pb db cap n j : Nat) (l : List Rc) (w : World) (hH : Has w ⟨[pb, db], []⟩ [(pb, [.slice (some ⟨db, 0, none⟩) (n) cap], some (188, 1, 1)), (db, rcs (l), some (186, 3, cap))] w) (hn : l.length = n) (hn1 : n ≤ 1000000) (hj : j < n) (hu : UpOk l n j) :
    Calls Try.prog 147 #[.iface 184 (.pointer (some ⟨pb, 0, none⟩)), .int .i64 ((j : Nat) : Int)] w fun e w' => ∃ v H1, e = .returned v ∧ (v = .tuple #[] ∧ ∃ l', H1 = frH pb db cap l' ∧ l'.Perm l ∧ Hord l' n) ∧ Has w ⟨[pb, db], []⟩ H1 w' := by
  refine enterM (c := cxM [pb, db] w 23) Try.func147 rfl rfl rfl hH ?_
  repeat' (first
    | ((with_reducible apply oq_id); first | (apply oq_fn; exact rfl; try first | exact trivial | (and_intros <;> omega)) | ((with_reducible apply oq_load); exact rfl; exact rfl) | ((with_reducible apply oq_loadAgg); exact rfl; exact rfl) | ((with_reducible apply oq_build); (iterate 3 exact rfl)) | ((with_reducible apply oq_buildA); (iterate 4 exact rfl)) | ((with_reducible apply oq_fieldAgg); (iterate 3 exact rfl)) | ((with_reducible apply oq_indexAgg); (iterate 4 exact rfl)))
    | ((with_reducible apply tl_id); first | (with_reducible apply tl_nil) | ((with_reducible apply u_q); (iterate 4 exact rfl)) | ((with_reducible apply u_s0); exact rfl; exact rfl) | ((with_reducible apply u_s); (iterate 3 exact rfl)) | ((with_reducible apply u_skip); (iterate 3 exact rfl)) | ((with_reducible apply u_splitD); exact rfl; exact rfl; all_goals first | (intro hp; try (exfalso; omega)) | skip) | ((with_reducible apply u_splitN); exact rfl; exact rfl; all_goals first | (intro hp; try (exfalso; omega)) | skip) | ((with_reducible apply u_split); exact rfl; exact rfl; all_goals first | intro hp | skip))
    | ((with_reducible apply gx_id); first | (with_reducible apply v_nil) | ((with_reducible apply v_q); (iterate 3 exact rfl)) | ((with_reducible apply v_skip); (iterate 3 exact rfl)) | ((with_reducible apply v_splitD); exact rfl; exact rfl; all_goals first | (intro hp; try (exfalso; omega)) | skip) | ((with_reducible apply v_splitN); exact rfl; exact rfl; all_goals first | (intro hp; try (exfalso; omega)) | skip) | ((with_reducible apply v_split); exact rfl; exact rfl; all_goals first | intro hp | skip))
    | ((with_reducible apply os_id); first | ((with_reducible apply os_x); exact rfl) | ((with_reducible apply os_store); (iterate 4 exact rfl)) | ((with_reducible apply os_storeAgg); (iterate 5 exact rfl)) | ((with_reducible apply os_append (hk := app_ok188)); exact rfl; exact rfl; (repeat (first | exact P0 | apply P1))) | ((with_reducible apply os_appendNil (hk := app_ok188)); exact rfl; exact rfl))
    | ((with_reducible apply ox_id); first | ((with_reducible apply ox_alloc); exact rfl; intro _) | ((with_reducible apply ox_box); exact rfl; exact rfl; intro _) | ((with_reducible apply ox_boxAgg); exact rfl; intro _) | ((with_reducible apply ox_buildSlice1); (iterate 6 exact rfl); intro _) | ((with_reducible apply ox_buildSlice2); (iterate 6 exact rfl); intro _) | ((with_reducible apply ox_buildSlice); (iterate 4 exact rfl)))
    | ((with_reducible apply rd_id); first | (apply Rd.own; (repeat (first | exact P0 | apply P1)); exact rfl; done) | (apply Rd.old; (first | (with_reducible assumption) | exact c0 | exact c1 | exact c2 | exact c3 | exact c4 | exact c5 | exact c6 | exact c7 | exact c8 | exact d0 | exact d1 | exact d2 | exact d3 | exact d4 | exact d5); first | exact List.not_mem_nil | exact m0 | exact m1 | exact m2 | exact m3 | exact m4 | exact m5 | exact m6 | exact m7 | exact m8 | exact m9))
    | ((with_reducible apply t_id); first | (with_reducible apply t_seq) | (apply t_region; kernel_rfl) | (apply t_drawn; kernel_rfl; decide +kernel; try simp only [List.append_eq, List.cons_append, List.nil_append]) | ((with_reducible apply t_condT); exact rfl) | ((with_reducible apply t_condF); exact rfl) | ((with_reducible apply t_condD); exact rfl; all_goals first | (intro hp; try (exfalso; omega)) | skip) | ((with_reducible apply t_condN); exact rfl; all_goals first | (intro hp; try (exfalso; omega)) | skip) | ((with_reducible apply t_cond); exact rfl; all_goals first | intro hp | skip) | (with_reducible apply t_ret) | (with_reducible apply t_skip) | (with_reducible apply t_exit) | (with_reducible apply t_block))
    | with_reducible apply q_thenN
    | with_reducible apply q_thenR
    | with_reducible apply q_blockR
    | with_reducible apply q_blockN
    | with_reducible apply q_thenE
    | ((with_reducible apply q_blockE); exact rfl)
    | ((with_reducible apply q_blockO); exact rfl)
    | exact P0
    | (with_reducible apply P1)
    | exact Rdn.zero
    | apply Rdn.succ
    | ((with_reducible apply Norm.nil); exact rfl)
    | ((with_reducible apply Norm.cons); exact rfl)
    | (with_reducible apply end_ret)
    | (with_reducible apply end_normal)
    | exact rvs_nil
    | (with_reducible apply rvs_cons)
    | ((with_reducible apply rv_tmp); exact rfl)
    | ((with_reducible apply rv_cell); exact rfl; exact rfl)
    | ((with_reducible apply rv_cellAgg); exact rfl; exact rfl)
    | exact Nat.le_of_ble_eq_true rfl
    | exact (rfl : (_ : Bool) = true)
    | omega
    | (intro _ _; with_reducible apply tl_id)
    | (intro _; with_reducible apply tl_id)
    | (intro _ _; with_reducible apply al_id)
    | (intro _; with_reducible apply al_id))
  apply t_loopK (ι := List Rc × Nat) [0] (fun z => [(1, .int .i64 ((z.2 : Nat) : Int))]) (fun z => [(pb, [.slice (some ⟨db, 0, none⟩) (n) cap], some (188, 1, 1)), (db, rcs (z.1), some (186, 3, cap))]) (fun z => z.1.length = n ∧ z.2 < n ∧ UpOk z.1 n z.2 ∧ z.1.Perm l) (fun z => z.2) ((l, j))
  (repeat (first | exact KeepF.nil | (apply KeepF.cons; exact rfl) | apply KeepF.skip))
  (repeat (first | exact FrSub.nil | (apply FrSub.cons; exact rfl)))
  (repeat (first | exact HpSub.refl _ | (apply HpSub.consE; (repeat (first | exact P0 | apply P1)); exact rfl) | exact HpSub.nil))
  · exact ⟨hn, hj, hu, List.Perm.refl _⟩
  rintro ⟨l1, k⟩ ⟨hl, hk, hu1, hpp⟩
  simp only at hl hk hu1 hpp
  try simp only [List.cons_append, List.nil_append]
  rcases Nat.eq_zero_or_pos k with rfl | hk0
  · repeat' (first
      | ((with_reducible apply oq_id); first | ((with_reducible apply (oq_quoE (k := 0))); exact rfl; exact rfl; (refine ⟨by decide, by decide, by decide, by decide⟩)) | ((with_reducible apply oq_eqlT); exact rfl; exact rfl; omega) | ((with_reducible apply oq_eqlF); exact rfl; exact rfl; omega) | (apply oq_fn; exact rfl; try first | exact trivial | (and_intros <;> omega)) | ((with_reducible apply oq_load); exact rfl; exact rfl) | ((with_reducible apply oq_loadAgg); exact rfl; exact rfl) | ((with_reducible apply oq_build); (iterate 3 exact rfl)) | ((with_reducible apply oq_buildA); (iterate 4 exact rfl)) | ((with_reducible apply oq_fieldAgg); (iterate 3 exact rfl)) | ((with_reducible apply oq_indexAgg); (iterate 4 exact rfl)))
      | ((with_reducible apply tl_id); first | (with_reducible apply tl_nil) | ((with_reducible apply u_q); (iterate 4 exact rfl)) | ((with_reducible apply u_s0); exact rfl; exact rfl) | ((with_reducible apply u_s); (iterate 3 exact rfl)) | ((with_reducible apply u_skip); (iterate 3 exact rfl)) | ((with_reducible apply u_splitD); exact rfl; exact rfl; all_goals first | (intro hp; try (exfalso; omega)) | skip) | ((with_reducible apply u_splitN); exact rfl; exact rfl; all_goals first | (intro hp; try (exfalso; omega)) | skip) | ((with_reducible apply u_split); exact rfl; exact rfl; all_goals first | intro hp | skip))
      | ((with_reducible apply gx_id); first | (with_reducible apply v_nil) | ((with_reducible apply v_q); (iterate 3 exact rfl)) | ((with_reducible apply v_skip); (iterate 3 exact rfl)) | ((with_reducible apply v_splitD); exact rfl; exact rfl; all_goals first | (intro hp; try (exfalso; omega)) | skip) | ((with_reducible apply v_splitN); exact rfl; exact rfl; all_goals first | (intro hp; try (exfalso; omega)) | skip) | ((with_reducible apply v_split); exact rfl; exact rfl; all_goals first | intro hp | skip))
      | ((with_reducible apply os_id); first | ((with_reducible apply os_x); exact rfl) | ((with_reducible apply os_store); (iterate 4 exact rfl)) | ((with_reducible apply os_storeAgg); (iterate 5 exact rfl)) | ((with_reducible apply os_append (hk := app_ok188)); exact rfl; exact rfl; (repeat (first | exact P0 | apply P1))) | ((with_reducible apply os_appendNil (hk := app_ok188)); exact rfl; exact rfl))
      | ((with_reducible apply ox_id); first | ((with_reducible apply ox_alloc); exact rfl; intro _) | ((with_reducible apply ox_box); exact rfl; exact rfl; intro _) | ((with_reducible apply ox_boxAgg); exact rfl; intro _) | ((with_reducible apply ox_buildSlice1); (iterate 6 exact rfl); intro _) | ((with_reducible apply ox_buildSlice2); (iterate 6 exact rfl); intro _) | ((with_reducible apply ox_buildSlice); (iterate 4 exact rfl)))
      | ((with_reducible apply rd_id); first | (apply Rd.own; (repeat (first | exact P0 | apply P1)); exact rfl; done) | (apply Rd.old; (first | (with_reducible assumption) | exact c0 | exact c1 | exact c2 | exact c3 | exact c4 | exact c5 | exact c6 | exact c7 | exact c8 | exact d0 | exact d1 | exact d2 | exact d3 | exact d4 | exact d5); first | exact List.not_mem_nil | exact m0 | exact m1 | exact m2 | exact m3 | exact m4 | exact m5 | exact m6 | exact m7 | exact m8 | exact m9))
      | ((with_reducible apply t_id); first | (with_reducible apply t_seq) | (apply t_region; kernel_rfl) | (apply t_drawn; kernel_rfl; decide +kernel; try simp only [List.append_eq, List.cons_append, List.nil_append]) | ((with_reducible apply t_condT); exact rfl) | ((with_reducible apply t_condF); exact rfl) | ((with_reducible apply t_condD); exact rfl; all_goals first | (intro hp; try (exfalso; omega)) | skip) | ((with_reducible apply t_condN); exact rfl; all_goals first | (intro hp; try (exfalso; omega)) | skip) | ((with_reducible apply t_cond); exact rfl; all_goals first | intro hp | skip) | (with_reducible apply t_ret) | (with_reducible apply t_skip) | (with_reducible apply t_exit) | (with_reducible apply t_block))
      | with_reducible apply q_thenN
      | with_reducible apply q_thenR
      | with_reducible apply q_blockR
      | with_reducible apply q_blockN
      | with_reducible apply q_thenE
      | ((with_reducible apply q_blockE); exact rfl)
      | ((with_reducible apply q_blockO); exact rfl)
      | exact P0
      | (with_reducible apply P1)
      | exact Rdn.zero
      | apply Rdn.succ
      | ((with_reducible apply Norm.nil); exact rfl)
      | ((with_reducible apply Norm.cons); exact rfl)
      | (with_reducible apply end_ret)
      | (with_reducible apply end_normal)
      | exact rvs_nil
      | (with_reducible apply rvs_cons)
      | ((with_reducible apply rv_tmp); exact rfl)
      | ((with_reducible apply rv_cell); exact rfl; exact rfl)
      | ((with_reducible apply rv_cellAgg); exact rfl; exact rfl)
      | exact Nat.le_of_ble_eq_true rfl
      | exact (rfl : (_ : Bool) = true)
      | omega
      | (intro _ _; with_reducible apply tl_id)
      | (intro _; with_reducible apply tl_id)
      | (intro _ _; with_reducible apply al_id)
      | (intro _; with_reducible apply al_id))
    all_goals exact ⟨_, ⟨rfl, _, (frH_n hl).symm, hpp, hu1.done (.inl rfl)⟩, HpSub.w (by (repeat (first | exact HpSub.refl _ | (apply HpSub.consE; (repeat (first | exact P0 | apply P1)); exact rfl) | apply HpSub.skipX | exact HpSub.nil)))⟩
  · obtain ⟨i, hi⟩ : ∃ i, (k - 1) / 2 = i := ⟨_, rfl⟩
    have hx : l1[k]? = some l1[k] := List.getElem?_eq_getElem (by omega)
    have hy : l1[i]? = some l1[i] := List.getElem?_eq_getElem (by omega)
    generalize l1[k] = x at hx
    generalize l1[i] = y at hy
    by_cases hlt : x.1 < y.1
    · repeat' (first
        | ((with_reducible apply oq_id); first | ((with_reducible apply oq_subE (k := ((k - 1 : Nat) : Int))); exact rfl; exact rfl; omega) | ((with_reducible apply (oq_quoE (k := ((i : Nat) : Int)))); exact rfl; exact rfl; (refine ⟨tdiv_nat (a := k - 1) (b := 2) (by omega) rfl (by omega), by omega, by omega, by omega⟩)) | ((with_reducible apply oq_invoke (name := "Less") (k := 240) (rv := .slice (some ⟨db, 0, none⟩) (n) cap) (hc := Try.call240)); exact rfl; exact fun D w1 hw1 => m_less (hw1.cellAt (C := [.slice (some ⟨db, 0, none⟩) (n) cap]) (by (repeat (first | exact P0 | apply P1))) rfl); exact rfl; exact fun D w1 hw1 => frontLess_calls db (n) cap k i l1 x y _ w1 (hw1.blkP (by (repeat (first | exact P0 | apply P1)))) hl hn1 hx hy) | ((with_reducible apply oq_eqlT); exact rfl; exact rfl; omega) | ((with_reducible apply oq_eqlF); exact rfl; exact rfl; omega) | (apply oq_fn; exact rfl; try first | exact trivial | (and_intros <;> omega)) | ((with_reducible apply oq_load); exact rfl; exact rfl) | ((with_reducible apply oq_loadAgg); exact rfl; exact rfl) | ((with_reducible apply oq_build); (iterate 3 exact rfl)) | ((with_reducible apply oq_buildA); (iterate 4 exact rfl)) | ((with_reducible apply oq_fieldAgg); (iterate 3 exact rfl)) | ((with_reducible apply oq_indexAgg); (iterate 4 exact rfl)))
        | ((with_reducible apply tl_id); first | (with_reducible apply tl_nil) | ((with_reducible apply u_s); (iterate 3 exact rfl); (with_reducible apply os_invokeM (name := "Swap") (PV := fun v H1 => v = .tuple #[] ∧ H1 = [(db, rcs (swp l1 i k), some (186, 3, cap))]) (G := [(db, rcs l1, some (186, 3, cap))]) (R := [(pb, [.slice (some ⟨db, 0, none⟩) (n) cap], some (188, 1, 1))]) (k := 243) (rv := .slice (some ⟨db, 0, none⟩) (n) cap) (hc := Try.call243)); exact rfl; (repeat (first | exact HpSub.refl _ | (apply HpSub.consE; (repeat (first | exact P0 | apply P1)); exact rfl) | apply HpSub.skipX | apply HpSub.skipX | exact HpSub.nil)); exact fun D w1 hw1 => m_swap (hw1.cellAt (C := [.slice (some ⟨db, 0, none⟩) (n) cap]) (by (repeat (first | exact P0 | apply P1))) rfl); exact rfl; exact fun D w1 hw1 hg1 => frontSwap_W db (n) cap i k l1 y x w1 hg1 hl hn1 hy hx; rintro _ _ ⟨rfl, rfl⟩; (try simp only [List.cons_append, List.nil_append, List.append_nil])) | ((with_reducible apply u_q); (iterate 4 exact rfl)) | ((with_reducible apply u_s0); exact rfl; exact rfl) | ((with_reducible apply u_s); (iterate 3 exact rfl)) | ((with_reducible apply u_skip); (iterate 3 exact rfl)) | ((with_reducible apply u_splitD); exact rfl; exact rfl; all_goals first | (intro hp; try (exfalso; omega)) | skip) | ((with_reducible apply u_splitN); exact rfl; exact rfl; all_goals first | (intro hp; try (exfalso; omega)) | skip) | ((with_reducible apply u_split); exact rfl; exact rfl; all_goals first | intro hp | skip))
        | ((with_reducible apply gx_id); first | (with_reducible apply v_nil) | ((with_reducible apply v_q); (iterate 3 exact rfl)) | ((with_reducible apply v_skip); (iterate 3 exact rfl)) | ((with_reducible apply v_splitD); exact rfl; exact rfl; all_goals first | (intro hp; try (exfalso; omega)) | skip) | ((with_reducible apply v_splitN); exact rfl; exact rfl; all_goals first | (intro hp; try (exfalso; omega)) | skip) | ((with_reducible apply v_split); exact rfl; exact rfl; all_goals first | intro hp | skip))
        | ((with_reducible apply os_id); first | ((with_reducible apply os_x); exact rfl) | ((with_reducible apply os_store); (iterate 4 exact rfl)) | ((with_reducible apply os_storeAgg); (iterate 5 exact rfl)) | ((with_reducible apply os_append (hk := app_ok188)); exact rfl; exact rfl; (repeat (first | exact P0 | apply P1))) | ((with_reducible apply os_appendNil (hk := app_ok188)); exact rfl; exact rfl))
        | ((with_reducible apply ox_id); first | ((with_reducible apply ox_alloc); exact rfl; intro _) | ((with_reducible apply ox_box); exact rfl; exact rfl; intro _) | ((with_reducible apply ox_boxAgg); exact rfl; intro _) | ((with_reducible apply ox_buildSlice1); (iterate 6 exact rfl); intro _) | ((with_reducible apply ox_buildSlice2); (iterate 6 exact rfl); intro _) | ((with_reducible apply ox_buildSlice); (iterate 4 exact rfl)))
        | ((with_reducible apply rd_id); first | (apply Rd.own; (repeat (first | exact P0 | apply P1)); exact rfl; done) | (apply Rd.old; (first | (with_reducible assumption) | exact c0 | exact c1 | exact c2 | exact c3 | exact c4 | exact c5 | exact c6 | exact c7 | exact c8 | exact d0 | exact d1 | exact d2 | exact d3 | exact d4 | exact d5); first | exact List.not_mem_nil | exact m0 | exact m1 | exact m2 | exact m3 | exact m4 | exact m5 | exact m6 | exact m7 | exact m8 | exact m9))
        | ((with_reducible apply t_id); first | (with_reducible apply t_seq) | (apply t_region; kernel_rfl) | (apply t_drawn; kernel_rfl; decide +kernel; try simp only [List.append_eq, List.cons_append, List.nil_append]) | ((with_reducible apply t_condT); exact rfl) | ((with_reducible apply t_condF); exact rfl) | ((with_reducible apply t_condD); exact rfl; all_goals first | (intro hp; try (exfalso; omega)) | skip) | ((with_reducible apply t_condN); exact rfl; all_goals first | (intro hp; try (exfalso; omega)) | skip) | ((with_reducible apply t_cond); exact rfl; all_goals first | intro hp | skip) | (with_reducible apply t_ret) | (with_reducible apply t_skip) | (with_reducible apply t_exit) | (with_reducible apply t_block))
        | with_reducible apply q_thenN
        | with_reducible apply q_thenR
        | with_reducible apply q_blockR
        | with_reducible apply q_blockN
        | with_reducible apply q_thenE
        | ((with_reducible apply q_blockE); exact rfl)
        | ((with_reducible apply q_blockO); exact rfl)
        | exact P0
        | (with_reducible apply P1)
        | exact Rdn.zero
        | apply Rdn.succ
        | ((with_reducible apply Norm.nil); exact rfl)
        | ((with_reducible apply Norm.cons); exact rfl)
        | (with_reducible apply end_ret)
        | (with_reducible apply end_normal)
        | exact rvs_nil
        | (with_reducible apply rvs_cons)
        | ((with_reducible apply rv_tmp); exact rfl)
        | ((with_reducible apply rv_cell); exact rfl; exact rfl)
        | ((with_reducible apply rv_cellAgg); exact rfl; exact rfl)
        | exact Nat.le_of_ble_eq_true rfl
        | exact (rfl : (_ : Bool) = true)
        | omega
        | (intro _ _; with_reducible apply tl_id)
        | (intro _; with_reducible apply tl_id)
        | (intro _ _; with_reducible apply al_id)
        | (intro _; with_reducible apply al_id))
      all_goals (refine ⟨(swp l1 i k, i), ⟨by rw [swp_len]; exact hl, (by simp only; omega), (by have := hu1.step hl.symm hk hk0 (by rw [hi, key_of hx, key_of hy]; exact hlt); rw [hi] at this; exact this), (swp_perm _ _ _).trans hpp⟩, (by simp only; omega), ?_, ?_⟩ <;> (try simp only [List.cons_append, List.nil_append]) <;> (repeat' (first | exact FrSub.nil | (apply FrSub.cons; exact rfl) | exact HpSub.refl _ | (apply HpSub.consE; (repeat (first | exact P0 | apply P1)); exact rfl) | exact HpSub.nil)))
    · repeat' (first
        | ((with_reducible apply oq_id); first | ((with_reducible apply oq_subE (k := ((k - 1 : Nat) : Int))); exact rfl; exact rfl; omega) | ((with_reducible apply (oq_quoE (k := ((i : Nat) : Int)))); exact rfl; exact rfl; (refine ⟨tdiv_nat (a := k - 1) (b := 2) (by omega) rfl (by omega), by omega, by omega, by omega⟩)) | ((with_reducible apply oq_invoke (name := "Less") (k := 240) (rv := .slice (some ⟨db, 0, none⟩) (n) cap) (hc := Try.call240)); exact rfl; exact fun D w1 hw1 => m_less (hw1.cellAt (C := [.slice (some ⟨db, 0, none⟩) (n) cap]) (by (repeat (first | exact P0 | apply P1))) rfl); exact rfl; exact fun D w1 hw1 => frontLess_calls db (n) cap k i l1 x y _ w1 (hw1.blkP (by (repeat (first | exact P0 | apply P1)))) hl hn1 hx hy) | ((with_reducible apply oq_eqlT); exact rfl; exact rfl; omega) | ((with_reducible apply oq_eqlF); exact rfl; exact rfl; omega) | (apply oq_fn; exact rfl; try first | exact trivial | (and_intros <;> omega)) | ((with_reducible apply oq_load); exact rfl; exact rfl) | ((with_reducible apply oq_loadAgg); exact rfl; exact rfl) | ((with_reducible apply oq_build); (iterate 3 exact rfl)) | ((with_reducible apply oq_buildA); (iterate 4 exact rfl)) | ((with_reducible apply oq_fieldAgg); (iterate 3 exact rfl)) | ((with_reducible apply oq_indexAgg); (iterate 4 exact rfl)))
        | ((with_reducible apply tl_id); first | (with_reducible apply tl_nil) | ((with_reducible apply u_q); (iterate 4 exact rfl)) | ((with_reducible apply u_s0); exact rfl; exact rfl) | ((with_reducible apply u_s); (iterate 3 exact rfl)) | ((with_reducible apply u_skip); (iterate 3 exact rfl)) | ((with_reducible apply u_splitD); exact rfl; exact rfl; all_goals first | (intro hp; try (exfalso; omega)) | skip) | ((with_reducible apply u_splitN); exact rfl; exact rfl; all_goals first | (intro hp; try (exfalso; omega)) | skip) | ((with_reducible apply u_split); exact rfl; exact rfl; all_goals first | intro hp | skip))
        | ((with_reducible apply gx_id); first | (with_reducible apply v_nil) | ((with_reducible apply v_q); (iterate 3 exact rfl)) | ((with_reducible apply v_skip); (iterate 3 exact rfl)) | ((with_reducible apply v_splitD); exact rfl; exact rfl; all_goals first | (intro hp; try (exfalso; omega)) | skip) | ((with_reducible apply v_splitN); exact rfl; exact rfl; all_goals first | (intro hp; try (exfalso; omega)) | skip) | ((with_reducible apply v_split); exact rfl; exact rfl; all_goals first | intro hp | skip))
        | ((with_reducible apply os_id); first | ((with_reducible apply os_x); exact rfl) | ((with_reducible apply os_store); (iterate 4 exact rfl)) | ((with_reducible apply os_storeAgg); (iterate 5 exact rfl)) | ((with_reducible apply os_append (hk := app_ok188)); exact rfl; exact rfl; (repeat (first | exact P0 | apply P1))) | ((with_reducible apply os_appendNil (hk := app_ok188)); exact rfl; exact rfl))
        | ((with_reducible apply ox_id); first | ((with_reducible apply ox_alloc); exact rfl; intro _) | ((with_reducible apply ox_box); exact rfl; exact rfl; intro _) | ((with_reducible apply ox_boxAgg); exact rfl; intro _) | ((with_reducible apply ox_buildSlice1); (iterate 6 exact rfl); intro _) | ((with_reducible apply ox_buildSlice2); (iterate 6 exact rfl); intro _) | ((with_reducible apply ox_buildSlice); (iterate 4 exact rfl)))
        | ((with_reducible apply rd_id); first | (apply Rd.own; (repeat (first | exact P0 | apply P1)); exact rfl; done) | (apply Rd.old; (first | (with_reducible assumption) | exact c0 | exact c1 | exact c2 | exact c3 | exact c4 | exact c5 | exact c6 | exact c7 | exact c8 | exact d0 | exact d1 | exact d2 | exact d3 | exact d4 | exact d5); first | exact List.not_mem_nil | exact m0 | exact m1 | exact m2 | exact m3 | exact m4 | exact m5 | exact m6 | exact m7 | exact m8 | exact m9))
        | ((with_reducible apply t_id); first | (with_reducible apply t_seq) | (apply t_region; kernel_rfl) | (apply t_drawn; kernel_rfl; decide +kernel; try simp only [List.append_eq, List.cons_append, List.nil_append]) | ((with_reducible apply t_condT); exact rfl) | ((with_reducible apply t_condF); exact rfl) | ((with_reducible apply t_condD); exact rfl; all_goals first | (intro hp; try (exfalso; omega)) | skip) | ((with_reducible apply t_condN); exact rfl; all_goals first | (intro hp; try (exfalso; omega)) | skip) | ((with_reducible apply t_cond); exact rfl; all_goals first | intro hp | skip) | (with_reducible apply t_ret) | (with_reducible apply t_skip) | (with_reducible apply t_exit) | (with_reducible apply t_block))
        | with_reducible apply q_thenN
        | with_reducible apply q_thenR
        | with_reducible apply q_blockR
        | with_reducible apply q_blockN
        | with_reducible apply q_thenE
        | ((with_reducible apply q_blockE); exact rfl)
        | ((with_reducible apply q_blockO); exact rfl)
        | exact P0
        | (with_reducible apply P1)
        | exact Rdn.zero
        | apply Rdn.succ
        | ((with_reducible apply Norm.nil); exact rfl)
        | ((with_reducible apply Norm.cons); exact rfl)
        | (with_reducible apply end_ret)
        | (with_reducible apply end_normal)
        | exact rvs_nil
        | (with_reducible apply rvs_cons)
        | ((with_reducible apply rv_tmp); exact rfl)
        | ((with_reducible apply rv_cell); exact rfl; exact rfl)
        | ((with_reducible apply rv_cellAgg); exact rfl; exact rfl)
        | exact Nat.le_of_ble_eq_true rfl
        | exact (rfl : (_ : Bool) = true)
        | omega
        | (intro _ _; with_reducible apply tl_id)
        | (intro _; with_reducible apply tl_id)
        | (intro _ _; with_reducible apply al_id)
        | (intro _; with_reducible apply al_id))
      all_goals exact ⟨_, ⟨rfl, _, (frH_n hl).symm, hpp, hu1.done (.inr (by rw [hi, key_of hx, key_of hy]; omega))⟩, HpSub.w (by (repeat (first | exact HpSub.refl _ | (apply HpSub.consE; (repeat (first | exact P0 | apply P1)); exact rfl) | apply HpSub.skipX | exact HpSub.nil)))⟩
theorem heapDown_W (pb db cap n : Nat) (l : List Rc) (w : World) (hH : Has w ⟨[pb, db], []⟩ [(pb, [.slice (some ⟨db, 0, none⟩) (n + 1) cap], some (188, 1, 1)), (db, rcs (l), some (186, 3, cap))] w) (hn : l.length = n + 1) (hn1 : n ≤ 900000) (hu : DnOk l n 0) :
    Calls Try.prog 146 #[.iface 184 (.pointer (some ⟨pb, 0, none⟩)), .int .i64 0, .int .i64 ((n : Nat) : Int)] w fun e w' => ∃ v H1, e = .returned v ∧ ((∃ b, v = .bool b) ∧ ∃ l', H1 = frH pb db cap l' ∧ l'.Perm l ∧ Hord l' n ∧ l'[n]? = l[n]?) ∧ Has w ⟨[pb, db], []⟩ H1 w' := by
  refine enterM (c := cxM [pb, db] w 48) Try.func146 rfl rfl rfl hH ?_
  repeat' (first
    | ((with_reducible apply oq_id); first | (apply oq_fn; exact rfl; try first | exact trivial | (and_intros <;> omega)) | ((with_reducible apply oq_load); exact rfl; exact rfl) | ((with_reducible apply oq_loadAgg); exact rfl; exact rfl) | ((with_reducible apply oq_build); (iterate 3 exact rfl)) | ((with_reducible apply oq_buildA); (iterate 4 exact rfl)) | ((with_reducible apply oq_fieldAgg); (iterate 3 exact rfl)) | ((with_reducible apply oq_indexAgg); (iterate 4 exact rfl)))
    | ((with_reducible apply tl_id); first | (with_reducible apply tl_nil) | ((with_reducible apply u_q); (iterate 4 exact rfl)) | ((with_reducible apply u_s0); exact rfl; exact rfl) | ((with_reducible apply u_s); (iterate 3 exact rfl)) | ((with_reducible apply u_skip); (iterate 3 exact rfl)) | ((with_reducible apply u_splitD); exact rfl; exact rfl; all_goals first | (intro hp; try (exfalso; omega)) | skip) | ((with_reducible apply u_splitN); exact rfl; exact rfl; all_goals first | (intro hp; try (exfalso; omega)) | skip) | ((with_reducible apply u_split); exact rfl; exact rfl; all_goals first | intro hp | skip))
    | ((with_reducible apply gx_id); first | (with_reducible apply v_nil) | ((with_reducible apply v_q); (iterate 3 exact rfl)) | ((with_reducible apply v_skip); (iterate 3 exact rfl)) | ((with_reducible apply v_splitD); exact rfl; exact rfl; all_goals first | (intro hp; try (exfalso; omega)) | skip) | ((with_reducible apply v_splitN); exact rfl; exact rfl; all_goals first | (intro hp; try (exfalso; omega)) | skip) | ((with_reducible apply v_split); exact rfl; exact rfl; all_goals first | intro hp | skip))
    | ((with_reducible apply os_id); first | ((with_reducible apply os_x); exact rfl) | ((with_reducible apply os_store); (iterate 4 exact rfl)) | ((with_reducible apply os_storeAgg); (iterate 5 exact rfl)) | ((with_reducible apply os_append (hk := app_ok188)); exact rfl; exact rfl; (repeat (first | exact P0 | apply P1))) | ((with_reducible apply os_appendNil (hk := app_ok188)); exact rfl; exact rfl))
    | ((with_reducible apply ox_id); first | ((with_reducible apply ox_alloc); exact rfl; intro _) | ((with_reducible apply ox_box); exact rfl; exact rfl; intro _) | ((with_reducible apply ox_boxAgg); exact rfl; intro _) | ((with_reducible apply ox_buildSlice1); (iterate 6 exact rfl); intro _) | ((with_reducible apply ox_buildSlice2); (iterate 6 exact rfl); intro _) | ((with_reducible apply ox_buildSlice); (iterate 4 exact rfl)))
    | ((with_reducible apply rd_id); first | (apply Rd.own; (repeat (first | exact P0 | apply P1)); exact rfl; done) | (apply Rd.old; (first | (with_reducible assumption) | exact c0 | exact c1 | exact c2 | exact c3 | exact c4 | exact c5 | exact c6 | exact c7 | exact c8 | exact d0 | exact d1 | exact d2 | exact d3 | exact d4 | exact d5); first | exact List.not_mem_nil | exact m0 | exact m1 | exact m2 | exact m3 | exact m4 | exact m5 | exact m6 | exact m7 | exact m8 | exact m9))
    | ((with_reducible apply t_id); first | (with_reducible apply t_seq) | (apply t_region; kernel_rfl) | (apply t_drawn; kernel_rfl; decide +kernel; try simp only [List.append_eq, List.cons_append, List.nil_append]) | ((with_reducible apply t_condT); exact rfl) | ((with_reducible apply t_condF); exact rfl) | ((with_reducible apply t_condD); exact rfl; all_goals first | (intro hp; try (exfalso; omega)) | skip) | ((with_reducible apply t_condN); exact rfl; all_goals first | (intro hp; try (exfalso; omega)) | skip) | ((with_reducible apply t_cond); exact rfl; all_goals first | intro hp | skip) | (with_reducible apply t_ret) | (with_reducible apply t_skip) | (with_reducible apply t_exit) | (with_reducible apply t_block))
    | with_reducible apply q_thenN
    | with_reducible apply q_thenR
    | with_reducible apply q_blockR
    | with_reducible apply q_blockN
    | with_reducible apply q_thenE
    | ((with_reducible apply q_blockE); exact rfl)
    | ((with_reducible apply q_blockO); exact rfl)
    | exact P0
    | (with_reducible apply P1)
    | exact Rdn.zero
    | apply Rdn.succ
    | ((with_reducible apply Norm.nil); exact rfl)
    | ((with_reducible apply Norm.cons); exact rfl)
    | (with_reducible apply end_ret)
    | (with_reducible apply end_normal)
    | exact rvs_nil
    | (with_reducible apply rvs_cons)
    | ((with_reducible apply rv_tmp); exact rfl)
    | ((with_reducible apply rv_cell); exact rfl; exact rfl)
    | ((with_reducible apply rv_cellAgg); exact rfl; exact rfl)
    | exact Nat.le_of_ble_eq_true rfl
    | exact (rfl : (_ : Bool) = true)
    | omega
    | (intro _ _; with_reducible apply tl_id)
    | (intro _; with_reducible apply tl_id)
    | (intro _ _; with_reducible apply al_id)
    | (intro _; with_reducible apply al_id))
  apply t_loopK (ι := List Rc × Nat) [0, 1, 2, 6, 45, 46, 47] (fun z => [(7, .int .i64 ((z.2 : Nat) : Int))]) (fun z => [(pb, [.slice (some ⟨db, 0, none⟩) (n + 1) cap], some (188, 1, 1)), (db, rcs (z.1), some (186, 3, cap))]) (fun z => z.1.length = n + 1 ∧ z.2 ≤ n ∧ DnOk z.1 n z.2 ∧ z.1.Perm l ∧ z.1[n]? = l[n]?) (fun z => n - z.2) ((l, 0))
  (repeat (first | exact KeepF.nil | (apply KeepF.cons; exact rfl) | apply KeepF.skip))
  (repeat (first | exact FrSub.nil | (apply FrSub.cons; exact rfl)))
  (repeat (first | exact HpSub.refl _ | (apply HpSub.consE; (repeat (first | exact P0 | apply P1)); exact rfl) | exact HpSub.nil))
  · exact ⟨hn, Nat.zero_le _, hu, List.Perm.refl _, rfl⟩
  rintro ⟨l1, i⟩ ⟨hl, hi, hd, hpp, hlast⟩
  simp only at hl hi hd hpp hlast
  try simp only [List.cons_append, List.nil_append]
  have hsl : ∀ j, j < n → i < n → (swp l1 i j)[n]? = l[n]? := fun j hj hin => by
    rw [← hlast]
    rcases Nat.lt_or_ge i l1.length with h1 | h1
    · rw [swp_of (List.getElem?_eq_getElem h1) (List.getElem?_eq_getElem (show j < l1.length by omega)), List.getElem?_set_ne (by omega)]
      rw [List.getElem?_set_ne (by omega)]
    · omega
  by_cases h1 : 2 * i + 1 < n
  rotate_left
  · repeat' (first
      | ((with_reducible apply oq_id); first | ((with_reducible apply (oq_mulE (k := ((2 * i : Nat) : Int)))); exact rfl; exact rfl; omega) | (focus ((with_reducible apply (oq_addE (k := ((2 * i + 1 : Nat) : Int)))); exact rfl; exact rfl; omega; omega)) | ((with_reducible apply oq_lssT); exact rfl; exact rfl; omega) | ((with_reducible apply oq_lssF); exact rfl; exact rfl; omega) | ((with_reducible apply oq_geqT); exact rfl; exact rfl; omega) | ((with_reducible apply oq_geqF); exact rfl; exact rfl; omega) | (apply oq_fn; exact rfl; try first | exact trivial | (and_intros <;> omega)) | ((with_reducible apply oq_load); exact rfl; exact rfl) | ((with_reducible apply oq_loadAgg); exact rfl; exact rfl) | ((with_reducible apply oq_build); (iterate 3 exact rfl)) | ((with_reducible apply oq_buildA); (iterate 4 exact rfl)) | ((with_reducible apply oq_fieldAgg); (iterate 3 exact rfl)) | ((with_reducible apply oq_indexAgg); (iterate 4 exact rfl)))
      | ((with_reducible apply tl_id); first | (with_reducible apply tl_nil) | ((with_reducible apply u_q); (iterate 4 exact rfl)) | ((with_reducible apply u_s0); exact rfl; exact rfl) | ((with_reducible apply u_s); (iterate 3 exact rfl)) | ((with_reducible apply u_skip); (iterate 3 exact rfl)) | ((with_reducible apply u_splitD); exact rfl; exact rfl; all_goals first | (intro hp; try (exfalso; omega)) | skip) | ((with_reducible apply u_splitN); exact rfl; exact rfl; all_goals first | (intro hp; try (exfalso; omega)) | skip) | ((with_reducible apply u_split); exact rfl; exact rfl; all_goals first | intro hp | skip))
      | ((with_reducible apply gx_id); first | (with_reducible apply v_nil) | ((with_reducible apply v_q); (iterate 3 exact rfl)) | ((with_reducible apply v_skip); (iterate 3 exact rfl)) | ((with_reducible apply v_splitD); exact rfl; exact rfl; all_goals first | (intro hp; try (exfalso; omega)) | skip) | ((with_reducible apply v_splitN); exact rfl; exact rfl; all_goals first | (intro hp; try (exfalso; omega)) | skip) | ((with_reducible apply v_split); exact rfl; exact rfl; all_goals first | intro hp | skip))
      | ((with_reducible apply os_id); first | ((with_reducible apply os_x); exact rfl) | ((with_reducible apply os_store); (iterate 4 exact rfl)) | ((with_reducible apply os_storeAgg); (iterate 5 exact rfl)) | ((with_reducible apply os_append (hk := app_ok188)); exact rfl; exact rfl; (repeat (first | exact P0 | apply P1))) | ((with_reducible apply os_appendNil (hk := app_ok188)); exact rfl; exact rfl))
      | ((with_reducible apply ox_id); first | ((with_reducible apply ox_alloc); exact rfl; intro _) | ((with_reducible apply ox_box); exact rfl; exact rfl; intro _) | ((with_reducible apply ox_boxAgg); exact rfl; intro _) | ((with_reducible apply ox_buildSlice1); (iterate 6 exact rfl); intro _) | ((with_reducible apply ox_buildSlice2); (iterate 6 exact rfl); intro _) | ((with_reducible apply ox_buildSlice); (iterate 4 exact rfl)))
      | ((with_reducible apply rd_id); first | (apply Rd.own; (repeat (first | exact P0 | apply P1)); exact rfl; done) | (apply Rd.old; (first | (with_reducible assumption) | exact c0 | exact c1 | exact c2 | exact c3 | exact c4 | exact c5 | exact c6 | exact c7 | exact c8 | exact d0 | exact d1 | exact d2 | exact d3 | exact d4 | exact d5); first | exact List.not_mem_nil | exact m0 | exact m1 | exact m2 | exact m3 | exact m4 | exact m5 | exact m6 | exact m7 | exact m8 | exact m9))
      | ((with_reducible apply t_id); first | (with_reducible apply t_seq) | (apply t_region; kernel_rfl) | (apply t_drawn; kernel_rfl; decide +kernel; try simp only [List.append_eq, List.cons_append, List.nil_append]) | ((with_reducible apply t_condT); exact rfl) | ((with_reducible apply t_condF); exact rfl) | ((with_reducible apply t_condD); exact rfl; all_goals first | (intro hp; try (exfalso; omega)) | skip) | ((with_reducible apply t_condN); exact rfl; all_goals first | (intro hp; try (exfalso; omega)) | skip) | ((with_reducible apply t_cond); exact rfl; all_goals first | intro hp | skip) | (with_reducible apply t_ret) | (with_reducible apply t_skip) | (with_reducible apply t_exit) | (with_reducible apply t_block))
      | with_reducible apply q_thenN
      | with_reducible apply q_thenR
      | with_reducible apply q_blockR
      | with_reducible apply q_blockN
      | with_reducible apply q_thenE
      | ((with_reducible apply q_blockE); exact rfl)
      | ((with_reducible apply q_blockO); exact rfl)
      | exact P0
      | (with_reducible apply P1)
      | exact Rdn.zero
      | apply Rdn.succ
      | ((with_reducible apply Norm.nil); exact rfl)
      | ((with_reducible apply Norm.cons); exact rfl)
      | (with_reducible apply end_ret)
      | (with_reducible apply end_normal)
      | exact rvs_nil
      | (with_reducible apply rvs_cons)
      | ((with_reducible apply rv_tmp); exact rfl)
      | ((with_reducible apply rv_cell); exact rfl; exact rfl)
      | ((with_reducible apply rv_cellAgg); exact rfl; exact rfl)
      | exact Nat.le_of_ble_eq_true rfl
      | exact (rfl : (_ : Bool) = true)
      | omega
      | (intro _ _; with_reducible apply tl_id)
      | (intro _; with_reducible apply tl_id)
      | (intro _ _; with_reducible apply al_id)
      | (intro _; with_reducible apply al_id))
    all_goals exact ⟨_, ⟨⟨_, rfl⟩, _, (frH_n hl).symm, hpp, (hd.done fun k k0 kn kp => by omega), hlast⟩, HpSub.w (by (repeat (first | exact HpSub.refl _ | (apply HpSub.consE; (repeat (first | exact P0 | apply P1)); exact rfl) | apply HpSub.skipX | exact HpSub.nil)))⟩
  have hx : l1[2 * i + 1]? = some l1[2 * i + 1] := List.getElem?_eq_getElem (by omega)
  have hy : l1[i]? = some l1[i] := List.getElem?_eq_getElem (by omega)
  generalize l1[2 * i + 1] = x at hx
  generalize l1[i] = y at hy
  by_cases h2 : 2 * i + 1 + 1 < n
  · have hz : l1[2 * i + 1 + 1]? = some l1[2 * i + 1 + 1] := List.getElem?_eq_getElem (by omega)
    generalize l1[2 * i + 1 + 1] = z at hz
    by_cases hlt : z.1 < x.1
    · have hm : ∀ k, 0 < k → k < n → (k - 1) / 2 = i → key l1 (2 * i + 1 + 1) ≤ key l1 k := fun k k0 kn kp => by
        obtain rfl | rfl : k = 2 * i + 1 ∨ k = 2 * i + 1 + 1 := by omega
        · rw [key_of hx, key_of hz]; omega
        · exact Int.le_refl _
      by_cases hlt2 : z.1 < y.1
      · repeat' (first
          | ((with_reducible apply oq_id); first | ((with_reducible apply (oq_mulE (k := ((2 * i : Nat) : Int)))); exact rfl; exact rfl; omega) | (focus ((with_reducible apply (oq_addE (k := ((2 * i + 1 : Nat) : Int)))); exact rfl; exact rfl; omega; omega)) | (focus ((with_reducible apply (oq_addE (k := ((2 * i + 1 + 1 : Nat) : Int)))); exact rfl; exact rfl; omega; omega)) | ((with_reducible apply oq_invoke (name := "Less") (k := 240) (rv := .slice (some ⟨db, 0, none⟩) (n + 1) cap) (hc := Try.call240)); exact rfl; exact fun D w1 hw1 => m_less (hw1.cellAt (C := [.slice (some ⟨db, 0, none⟩) (n + 1) cap]) (by (repeat (first | exact P0 | apply P1))) rfl); exact rfl; exact fun D w1 hw1 => frontLess_calls db (n + 1) cap (2 * i + 1 + 1) (2 * i + 1) l1 z x _ w1 (hw1.blkP (by (repeat (first | exact P0 | apply P1)))) hl (by omega) hz hx) | ((with_reducible apply oq_invoke (name := "Less") (k := 240) (rv := .slice (some ⟨db, 0, none⟩) (n + 1) cap) (hc := Try.call240)); exact rfl; exact fun D w1 hw1 => m_less (hw1.cellAt (C := [.slice (some ⟨db, 0, none⟩) (n + 1) cap]) (by (repeat (first | exact P0 | apply P1))) rfl); exact rfl; exact fun D w1 hw1 => frontLess_calls db (n + 1) cap (2 * i + 1 + 1) i l1 z y _ w1 (hw1.blkP (by (repeat (first | exact P0 | apply P1)))) hl (by omega) hz hy) | ((with_reducible apply oq_lssT); exact rfl; exact rfl; omega) | ((with_reducible apply oq_lssF); exact rfl; exact rfl; omega) | ((with_reducible apply oq_geqT); exact rfl; exact rfl; omega) | ((with_reducible apply oq_geqF); exact rfl; exact rfl; omega) | (apply oq_fn; exact rfl; try first | exact trivial | (and_intros <;> omega)) | ((with_reducible apply oq_load); exact rfl; exact rfl) | ((with_reducible apply oq_loadAgg); exact rfl; exact rfl) | ((with_reducible apply oq_build); (iterate 3 exact rfl)) | ((with_reducible apply oq_buildA); (iterate 4 exact rfl)) | ((with_reducible apply oq_fieldAgg); (iterate 3 exact rfl)) | ((with_reducible apply oq_indexAgg); (iterate 4 exact rfl)))
          | ((with_reducible apply tl_id); first | (with_reducible apply tl_nil) | ((with_reducible apply u_s); (iterate 3 exact rfl); (with_reducible apply os_invokeM (name := "Swap") (PV := fun v H1 => v = .tuple #[] ∧ H1 = [(db, rcs (swp l1 i (2 * i + 1 + 1)), some (186, 3, cap))]) (G := [(db, rcs l1, some (186, 3, cap))]) (R := [(pb, [.slice (some ⟨db, 0, none⟩) (n + 1) cap], some (188, 1, 1))]) (k := 243) (rv := .slice (some ⟨db, 0, none⟩) (n + 1) cap) (hc := Try.call243)); exact rfl; (repeat (first | exact HpSub.refl _ | (apply HpSub.consE; (repeat (first | exact P0 | apply P1)); exact rfl) | apply HpSub.skipX | apply HpSub.skipX | exact HpSub.nil)); exact fun D w1 hw1 => m_swap (hw1.cellAt (C := [.slice (some ⟨db, 0, none⟩) (n + 1) cap]) (by (repeat (first | exact P0 | apply P1))) rfl); exact rfl; exact fun D w1 hw1 hg1 => frontSwap_W db (n + 1) cap i (2 * i + 1 + 1) l1 y z w1 hg1 hl (by omega) hy hz; rintro _ _ ⟨rfl, rfl⟩; (try simp only [List.cons_append, List.nil_append, List.append_nil])) | ((with_reducible apply u_q); (iterate 4 exact rfl)) | ((with_reducible apply u_s0); exact rfl; exact rfl) | ((with_reducible apply u_s); (iterate 3 exact rfl)) | ((with_reducible apply u_skip); (iterate 3 exact rfl)) | ((with_reducible apply u_splitD); exact rfl; exact rfl; all_goals first | (intro hp; try (exfalso; omega)) | skip) | ((with_reducible apply u_splitN); exact rfl; exact rfl; all_goals first | (intro hp; try (exfalso; omega)) | skip) | ((with_reducible apply u_split); exact rfl; exact rfl; all_goals first | intro hp | skip))
          | ((with_reducible apply gx_id); first | (with_reducible apply v_nil) | ((with_reducible apply v_q); (iterate 3 exact rfl)) | ((with_reducible apply v_skip); (iterate 3 exact rfl)) | ((with_reducible apply v_splitD); exact rfl; exact rfl; all_goals first | (intro hp; try (exfalso; omega)) | skip) | ((with_reducible apply v_splitN); exact rfl; exact rfl; all_goals first | (intro hp; try (exfalso; omega)) | skip) | ((with_reducible apply v_split); exact rfl; exact rfl; all_goals first | intro hp | skip))
          | ((with_reducible apply os_id); first | ((with_reducible apply os_x); exact rfl) | ((with_reducible apply os_store); (iterate 4 exact rfl)) | ((with_reducible apply os_storeAgg); (iterate 5 exact rfl)) | ((with_reducible apply os_append (hk := app_ok188)); exact rfl; exact rfl; (repeat (first | exact P0 | apply P1))) | ((with_reducible apply os_appendNil (hk := app_ok188)); exact rfl; exact rfl))
          | ((with_reducible apply ox_id); first | ((with_reducible apply ox_alloc); exact rfl; intro _) | ((with_reducible apply ox_box); exact rfl; exact rfl; intro _) | ((with_reducible apply ox_boxAgg); exact rfl; intro _) | ((with_reducible apply ox_buildSlice1); (iterate 6 exact rfl); intro _) | ((with_reducible apply ox_buildSlice2); (iterate 6 exact rfl); intro _) | ((with_reducible apply ox_buildSlice); (iterate 4 exact rfl)))
          | ((with_reducible apply rd_id); first | (apply Rd.own; (repeat (first | exact P0 | apply P1)); exact rfl; done) | (apply Rd.old; (first | (with_reducible assumption) | exact c0 | exact c1 | exact c2 | exact c3 | exact c4 | exact c5 | exact c6 | exact c7 | exact c8 | exact d0 | exact d1 | exact d2 | exact d3 | exact d4 | exact d5); first | exact List.not_mem_nil | exact m0 | exact m1 | exact m2 | exact m3 | exact m4 | exact m5 | exact m6 | exact m7 | exact m8 | exact m9))
          | ((with_reducible apply t_id); first | (with_reducible apply t_seq) | (apply t_region; kernel_rfl) | (apply t_drawn; kernel_rfl; decide +kernel; try simp only [List.append_eq, List.cons_append, List.nil_append]) | ((with_reducible apply t_condT); exact rfl) | ((with_reducible apply t_condF); exact rfl) | ((with_reducible apply t_condD); exact rfl; all_goals first | (intro hp; try (exfalso; omega)) | skip) | ((with_reducible apply t_condN); exact rfl; all_goals first | (intro hp; try (exfalso; omega)) | skip) | ((with_reducible apply t_cond); exact rfl; all_goals first | intro hp | skip) | (with_reducible apply t_ret) | (with_reducible apply t_skip) | (with_reducible apply t_exit) | (with_reducible apply t_block))
          | with_reducible apply q_thenN
          | with_reducible apply q_thenR
          | with_reducible apply q_blockR
          | with_reducible apply q_blockN
          | with_reducible apply q_thenE
          | ((with_reducible apply q_blockE); exact rfl)
          | ((with_reducible apply q_blockO); exact rfl)
          | exact P0
          | (with_reducible apply P1)
          | exact Rdn.zero
          | apply Rdn.succ
          | ((with_reducible apply Norm.nil); exact rfl)
          | ((with_reducible apply Norm.cons); exact rfl)
          | (with_reducible apply end_ret)
          | (with_reducible apply end_normal)
          | exact rvs_nil
          | (with_reducible apply rvs_cons)
          | ((with_reducible apply rv_tmp); exact rfl)
          | ((with_reducible apply rv_cell); exact rfl; exact rfl)
          | ((with_reducible apply rv_cellAgg); exact rfl; exact rfl)
          | exact Nat.le_of_ble_eq_true rfl
          | exact (rfl : (_ : Bool) = true)
          | omega
          | (intro _ _; with_reducible apply tl_id)
          | (intro _; with_reducible apply tl_id)
          | (intro _ _; with_reducible apply al_id)
          | (intro _; with_reducible apply al_id))
        all_goals (refine ⟨(swp l1 i ((2 * i + 1 + 1)), (2 * i + 1 + 1)), ⟨by rw [swp_len]; exact hl, (by simp only; omega), hd.step (by omega) (by omega) (by omega) (by omega) hm (by rw [key_of hz, key_of hy]; exact hlt2), (swp_perm _ _ _).trans hpp, hsl _ (by omega) (by omega)⟩, (by simp only; omega), ?_, ?_⟩ <;> (try simp only [List.cons_append, List.nil_append]) <;> (repeat' (first | exact FrSub.nil | (apply FrSub.cons; exact rfl) | exact HpSub.refl _ | (apply HpSub.consE; (repeat (first | exact P0 | apply P1)); exact rfl) | exact HpSub.nil)))
      · repeat' (first
          | ((with_reducible apply oq_id); first | ((with_reducible apply (oq_mulE (k := ((2 * i : Nat) : Int)))); exact rfl; exact rfl; omega) | (focus ((with_reducible apply (oq_addE (k := ((2 * i + 1 : Nat) : Int)))); exact rfl; exact rfl; omega; omega)) | (focus ((with_reducible apply (oq_addE (k := ((2 * i + 1 + 1 : Nat) : Int)))); exact rfl; exact rfl; omega; omega)) | ((with_reducible apply oq_invoke (name := "Less") (k := 240) (rv := .slice (some ⟨db, 0, none⟩) (n + 1) cap) (hc := Try.call240)); exact rfl; exact fun D w1 hw1 => m_less (hw1.cellAt (C := [.slice (some ⟨db, 0, none⟩) (n + 1) cap]) (by (repeat (first | exact P0 | apply P1))) rfl); exact rfl; exact fun D w1 hw1 => frontLess_calls db (n + 1) cap (2 * i + 1 + 1) (2 * i + 1) l1 z x _ w1 (hw1.blkP (by (repeat (first | exact P0 | apply P1)))) hl (by omega) hz hx) | ((with_reducible apply oq_invoke (name := "Less") (k := 240) (rv := .slice (some ⟨db, 0, none⟩) (n + 1) cap) (hc := Try.call240)); exact rfl; exact fun D w1 hw1 => m_less (hw1.cellAt (C := [.slice (some ⟨db, 0, none⟩) (n + 1) cap]) (by (repeat (first | exact P0 | apply P1))) rfl); exact rfl; exact fun D w1 hw1 => frontLess_calls db (n + 1) cap (2 * i + 1 + 1) i l1 z y _ w1 (hw1.blkP (by (repeat (first | exact P0 | apply P1)))) hl (by omega) hz hy) | ((with_reducible apply oq_lssT); exact rfl; exact rfl; omega) | ((with_reducible apply oq_lssF); exact rfl; exact rfl; omega) | ((with_reducible apply oq_geqT); exact rfl; exact rfl; omega) | ((with_reducible apply oq_geqF); exact rfl; exact rfl; omega) | (apply oq_fn; exact rfl; try first | exact trivial | (and_intros <;> omega)) | ((with_reducible apply oq_load); exact rfl; exact rfl) | ((with_reducible apply oq_loadAgg); exact rfl; exact rfl) | ((with_reducible apply oq_build); (iterate 3 exact rfl)) | ((with_reducible apply oq_buildA); (iterate 4 exact rfl)) | ((with_reducible apply oq_fieldAgg); (iterate 3 exact rfl)) | ((with_reducible apply oq_indexAgg); (iterate 4 exact rfl)))
          | ((with_reducible apply tl_id); first | (with_reducible apply tl_nil) | ((with_reducible apply u_q); (iterate 4 exact rfl)) | ((with_reducible apply u_s0); exact rfl; exact rfl) | ((with_reducible apply u_s); (iterate 3 exact rfl)) | ((with_reducible apply u_skip); (iterate 3 exact rfl)) | ((with_reducible apply u_splitD); exact rfl; exact rfl; all_goals first | (intro hp; try (exfalso; omega)) | skip) | ((with_reducible apply u_splitN); exact rfl; exact rfl; all_goals first | (intro hp; try (exfalso; omega)) | skip) | ((with_reducible apply u_split); exact rfl; exact rfl; all_goals first | intro hp | skip))
          | ((with_reducible apply gx_id); first | (with_reducible apply v_nil) | ((with_reducible apply v_q); (iterate 3 exact rfl)) | ((with_reducible apply v_skip); (iterate 3 exact rfl)) | ((with_reducible apply v_splitD); exact rfl; exact rfl; all_goals first | (intro hp; try (exfalso; omega)) | skip) | ((with_reducible apply v_splitN); exact rfl; exact rfl; all_goals first | (intro hp; try (exfalso; omega)) | skip) | ((with_reducible apply v_split); exact rfl; exact rfl; all_goals first | intro hp | skip))
          | ((with_reducible apply os_id); first | ((with_reducible apply os_x); exact rfl) | ((with_reducible apply os_store); (iterate 4 exact rfl)) | ((with_reducible apply os_storeAgg); (iterate 5 exact rfl)) | ((with_reducible apply os_append (hk := app_ok188)); exact rfl; exact rfl; (repeat (first | exact P0 | apply P1))) | ((with_reducible apply os_appendNil (hk := app_ok188)); exact rfl; exact rfl))
          | ((with_reducible apply ox_id); first | ((with_reducible apply ox_alloc); exact rfl; intro _) | ((with_reducible apply ox_box); exact rfl; exact rfl; intro _) | ((with_reducible apply ox_boxAgg); exact rfl; intro _) | ((with_reducible apply ox_buildSlice1); (iterate 6 exact rfl); intro _) | ((with_reducible apply ox_buildSlice2); (iterate 6 exact rfl); intro _) | ((with_reducible apply ox_buildSlice); (iterate 4 exact rfl)))
          | ((with_reducible apply rd_id); first | (apply Rd.own; (repeat (first | exact P0 | apply P1)); exact rfl; done) | (apply Rd.old; (first | (with_reducible assumption) | exact c0 | exact c1 | exact c2 | exact c3 | exact c4 | exact c5 | exact c6 | exact c7 | exact c8 | exact d0 | exact d1 | exact d2 | exact d3 | exact d4 | exact d5); first | exact List.not_mem_nil | exact m0 | exact m1 | exact m2 | exact m3 | exact m4 | exact m5 | exact m6 | exact m7 | exact m8 | exact m9))
          | ((with_reducible apply t_id); first | (with_reducible apply t_seq) | (apply t_region; kernel_rfl) | (apply t_drawn; kernel_rfl; decide +kernel; try simp only [List.append_eq, List.cons_append, List.nil_append]) | ((with_reducible apply t_condT); exact rfl) | ((with_reducible apply t_condF); exact rfl) | ((with_reducible apply t_condD); exact rfl; all_goals first | (intro hp; try (exfalso; omega)) | skip) | ((with_reducible apply t_condN); exact rfl; all_goals first | (intro hp; try (exfalso; omega)) | skip) | ((with_reducible apply t_cond); exact rfl; all_goals first | intro hp | skip) | (with_reducible apply t_ret) | (with_reducible apply t_skip) | (with_reducible apply t_exit) | (with_reducible apply t_block))
          | with_reducible apply q_thenN
          | with_reducible apply q_thenR
          | with_reducible apply q_blockR
          | with_reducible apply q_blockN
          | with_reducible apply q_thenE
          | ((with_reducible apply q_blockE); exact rfl)
          | ((with_reducible apply q_blockO); exact rfl)
          | exact P0
          | (with_reducible apply P1)
          | exact Rdn.zero
          | apply Rdn.succ
          | ((with_reducible apply Norm.nil); exact rfl)
          | ((with_reducible apply Norm.cons); exact rfl)
          | (with_reducible apply end_ret)
          | (with_reducible apply end_normal)
          | exact rvs_nil
          | (with_reducible apply rvs_cons)
          | ((with_reducible apply rv_tmp); exact rfl)
          | ((with_reducible apply rv_cell); exact rfl; exact rfl)
          | ((with_reducible apply rv_cellAgg); exact rfl; exact rfl)
          | exact Nat.le_of_ble_eq_true rfl
          | exact (rfl : (_ : Bool) = true)
          | omega
          | (intro _ _; with_reducible apply tl_id)
          | (intro _; with_reducible apply tl_id)
          | (intro _ _; with_reducible apply al_id)
          | (intro _; with_reducible apply al_id))
        all_goals exact ⟨_, ⟨⟨_, rfl⟩, _, (frH_n hl).symm, hpp, (hd.done fun k k0 kn kp => Int.le_trans (by rw [key_of hz, key_of hy]; omega) (hm k k0 kn kp)), hlast⟩, HpSub.w (by (repeat (first | exact HpSub.refl _ | (apply HpSub.consE; (repeat (first | exact P0 | apply P1)); exact rfl) | apply HpSub.skipX | exact HpSub.nil)))⟩
    · have hm : ∀ k, 0 < k → k < n → (k - 1) / 2 = i → key l1 (2 * i + 1) ≤ key l1 k := fun k k0 kn kp => by
        obtain rfl | rfl : k = 2 * i + 1 ∨ k = 2 * i + 1 + 1 := by omega
        · exact Int.le_refl _
        · rw [key_of hx, key_of hz]; omega
      by_cases hlt2 : x.1 < y.1
      · repeat' (first
          | ((with_reducible apply oq_id); first | ((with_reducible apply (oq_mulE (k := ((2 * i : Nat) : Int)))); exact rfl; exact rfl; omega) | (focus ((with_reducible apply (oq_addE (k := ((2 * i + 1 : Nat) : Int)))); exact rfl; exact rfl; omega; omega)) | (focus ((with_reducible apply (oq_addE (k := ((2 * i + 1 + 1 : Nat) : Int)))); exact rfl; exact rfl; omega; omega)) | ((with_reducible apply oq_invoke (name := "Less") (k := 240) (rv := .slice (some ⟨db, 0, none⟩) (n + 1) cap) (hc := Try.call240)); exact rfl; exact fun D w1 hw1 => m_less (hw1.cellAt (C := [.slice (some ⟨db, 0, none⟩) (n + 1) cap]) (by (repeat (first | exact P0 | apply P1))) rfl); exact rfl; exact fun D w1 hw1 => frontLess_calls db (n + 1) cap (2 * i + 1 + 1) (2 * i + 1) l1 z x _ w1 (hw1.blkP (by (repeat (first | exact P0 | apply P1)))) hl (by omega) hz hx) | ((with_reducible apply oq_invoke (name := "Less") (k := 240) (rv := .slice (some ⟨db, 0, none⟩) (n + 1) cap) (hc := Try.call240)); exact rfl; exact fun D w1 hw1 => m_less (hw1.cellAt (C := [.slice (some ⟨db, 0, none⟩) (n + 1) cap]) (by (repeat (first | exact P0 | apply P1))) rfl); exact rfl; exact fun D w1 hw1 => frontLess_calls db (n + 1) cap (2 * i + 1) i l1 x y _ w1 (hw1.blkP (by (repeat (first | exact P0 | apply P1)))) hl (by omega) hx hy) | ((with_reducible apply oq_lssT); exact rfl; exact rfl; omega) | ((with_reducible apply oq_lssF); exact rfl; exact rfl; omega) | ((with_reducible apply oq_geqT); exact rfl; exact rfl; omega) | ((with_reducible apply oq_geqF); exact rfl; exact rfl; omega) | (apply oq_fn; exact rfl; try first | exact trivial | (and_intros <;> omega)) | ((with_reducible apply oq_load); exact rfl; exact rfl) | ((with_reducible apply oq_loadAgg); exact rfl; exact rfl) | ((with_reducible apply oq_build); (iterate 3 exact rfl)) | ((with_reducible apply oq_buildA); (iterate 4 exact rfl)) | ((with_reducible apply oq_fieldAgg); (iterate 3 exact rfl)) | ((with_reducible apply oq_indexAgg); (iterate 4 exact rfl)))
          | ((with_reducible apply tl_id); first | (with_reducible apply tl_nil) | ((with_reducible apply u_s); (iterate 3 exact rfl); (with_reducible apply os_invokeM (name := "Swap") (PV := fun v H1 => v = .tuple #[] ∧ H1 = [(db, rcs (swp l1 i (2 * i + 1)), some (186, 3, cap))]) (G := [(db, rcs l1, some (186, 3, cap))]) (R := [(pb, [.slice (some ⟨db, 0, none⟩) (n + 1) cap], some (188, 1, 1))]) (k := 243) (rv := .slice (some ⟨db, 0, none⟩) (n + 1) cap) (hc := Try.call243)); exact rfl; (repeat (first | exact HpSub.refl _ | (apply HpSub.consE; (repeat (first | exact P0 | apply P1)); exact rfl) | apply HpSub.skipX | apply HpSub.skipX | exact HpSub.nil)); exact fun D w1 hw1 => m_swap (hw1.cellAt (C := [.slice (some ⟨db, 0, none⟩) (n + 1) cap]) (by (repeat (first | exact P0 | apply P1))) rfl); exact rfl; exact fun D w1 hw1 hg1 => frontSwap_W db (n + 1) cap i (2 * i + 1) l1 y x w1 hg1 hl (by omega) hy hx; rintro _ _ ⟨rfl, rfl⟩; (try simp only [List.cons_append, List.nil_append, List.append_nil])) | ((with_reducible apply u_q); (iterate 4 exact rfl)) | ((with_reducible apply u_s0); exact rfl; exact rfl) | ((with_reducible apply u_s); (iterate 3 exact rfl)) | ((with_reducible apply u_skip); (iterate 3 exact rfl)) | ((with_reducible apply u_splitD); exact rfl; exact rfl; all_goals first | (intro hp; try (exfalso; omega)) | skip) | ((with_reducible apply u_splitN); exact rfl; exact rfl; all_goals first | (intro hp; try (exfalso; omega)) | skip) | ((with_reducible apply u_split); exact rfl; exact rfl; all_goals first | intro hp | skip))
          | ((with_reducible apply gx_id); first | (with_reducible apply v_nil) | ((with_reducible apply v_q); (iterate 3 exact rfl)) | ((with_reducible apply v_skip); (iterate 3 exact rfl)) | ((with_reducible apply v_splitD); exact rfl; exact rfl; all_goals first | (intro hp; try (exfalso; omega)) | skip) | ((with_reducible apply v_splitN); exact rfl; exact rfl; all_goals first | (intro hp; try (exfalso; omega)) | skip) | ((with_reducible apply v_split); exact rfl; exact rfl; all_goals first | intro hp | skip))
          | ((with_reducible apply os_id); first | ((with_reducible apply os_x); exact rfl) | ((with_reducible apply os_store); (iterate 4 exact rfl)) | ((with_reducible apply os_storeAgg); (iterate 5 exact rfl)) | ((with_reducible apply os_append (hk := app_ok188)); exact rfl; exact rfl; (repeat (first | exact P0 | apply P1))) | ((with_reducible apply os_appendNil (hk := app_ok188)); exact rfl; exact rfl))
          | ((with_reducible apply ox_id); first | ((with_reducible apply ox_alloc); exact rfl; intro _) | ((with_reducible apply ox_box); exact rfl; exact rfl; intro _) | ((with_reducible apply ox_boxAgg); exact rfl; intro _) | ((with_reducible apply ox_buildSlice1); (iterate 6 exact rfl); intro _) | ((with_reducible apply ox_buildSlice2); (iterate 6 exact rfl); intro _) | ((with_reducible apply ox_buildSlice); (iterate 4 exact rfl)))
          | ((with_reducible apply rd_id); first | (apply Rd.own; (repeat (first | exact P0 | apply P1)); exact rfl; done) | (apply Rd.old; (first | (with_reducible assumption) | exact c0 | exact c1 | exact c2 | exact c3 | exact c4 | exact c5 | exact c6 | exact c7 | exact c8 | exact d0 | exact d1 | exact d2 | exact d3 | exact d4 | exact d5); first | exact List.not_mem_nil | exact m0 | exact m1 | exact m2 | exact m3 | exact m4 | exact m5 | exact m6 | exact m7 | exact m8 | exact m9))
          | ((with_reducible apply t_id); first | (with_reducible apply t_seq) | (apply t_region; kernel_rfl) | (apply t_drawn; kernel_rfl; decide +kernel; try simp only [List.append_eq, List.cons_append, List.nil_append]) | ((with_reducible apply t_condT); exact rfl) | ((with_reducible apply t_condF); exact rfl) | ((with_reducible apply t_condD); exact rfl; all_goals first | (intro hp; try (exfalso; omega)) | skip) | ((with_reducible apply t_condN); exact rfl; all_goals first | (intro hp; try (exfalso; omega)) | skip) | ((with_reducible apply t_cond); exact rfl; all_goals first | intro hp | skip) | (with_reducible apply t_ret) | (with_reducible apply t_skip) | (with_reducible apply t_exit) | (with_reducible apply t_block))
          | with_reducible apply q_thenN
          | with_reducible apply q_thenR
          | with_reducible apply q_blockR
          | with_reducible apply q_blockN
          | with_reducible apply q_thenE
          | ((with_reducible apply q_blockE); exact rfl)
          | ((with_reducible apply q_blockO); exact rfl)
          | exact P0
          | (with_reducible apply P1)
          | exact Rdn.zero
          | apply Rdn.succ
          | ((with_reducible apply Norm.nil); exact rfl)
          | ((with_reducible apply Norm.cons); exact rfl)
          | (with_reducible apply end_ret)
          | (with_reducible apply end_normal)
          | exact rvs_nil
          | (with_reducible apply rvs_cons)
          | ((with_reducible apply rv_tmp); exact rfl)
          | ((with_reducible apply rv_cell); exact rfl; exact rfl)
          | ((with_reducible apply rv_cellAgg); exact rfl; exact rfl)
          | exact Nat.le_of_ble_eq_true rfl
          | exact (rfl : (_ : Bool) = true)
          | omega
          | (intro _ _; with_reducible apply tl_id)
          | (intro _; with_reducible apply tl_id)
          | (intro _ _; with_reducible apply al_id)
          | (intro _; with_reducible apply al_id))
        all_goals (refine ⟨(swp l1 i ((2 * i + 1)), (2 * i + 1)), ⟨by rw [swp_len]; exact hl, (by simp only; omega), hd.step (by omega) (by omega) (by omega) (by omega) hm (by rw [key_of hx, key_of hy]; exact hlt2), (swp_perm _ _ _).trans hpp, hsl _ (by omega) (by omega)⟩, (by simp only; omega), ?_, ?_⟩ <;> (try simp only [List.cons_append, List.nil_append]) <;> (repeat' (first | exact FrSub.nil | (apply FrSub.cons; exact rfl) | exact HpSub.refl _ | (apply HpSub.consE; (repeat (first | exact P0 | apply P1)); exact rfl) | exact HpSub.nil)))
      · repeat' (first
          | ((with_reducible apply oq_id); first | ((with_reducible apply (oq_mulE (k := ((2 * i : Nat) : Int)))); exact rfl; exact rfl; omega) | (focus ((with_reducible apply (oq_addE (k := ((2 * i + 1 : Nat) : Int)))); exact rfl; exact rfl; omega; omega)) | (focus ((with_reducible apply (oq_addE (k := ((2 * i + 1 + 1 : Nat) : Int)))); exact rfl; exact rfl; omega; omega)) | ((with_reducible apply oq_invoke (name := "Less") (k := 240) (rv := .slice (some ⟨db, 0, none⟩) (n + 1) cap) (hc := Try.call240)); exact rfl; exact fun D w1 hw1 => m_less (hw1.cellAt (C := [.slice (some ⟨db, 0, none⟩) (n + 1) cap]) (by (repeat (first | exact P0 | apply P1))) rfl); exact rfl; exact fun D w1 hw1 => frontLess_calls db (n + 1) cap (2 * i + 1 + 1) (2 * i + 1) l1 z x _ w1 (hw1.blkP (by (repeat (first | exact P0 | apply P1)))) hl (by omega) hz hx) | ((with_reducible apply oq_invoke (name := "Less") (k := 240) (rv := .slice (some ⟨db, 0, none⟩) (n + 1) cap) (hc := Try.call240)); exact rfl; exact fun D w1 hw1 => m_less (hw1.cellAt (C := [.slice (some ⟨db, 0, none⟩) (n + 1) cap]) (by (repeat (first | exact P0 | apply P1))) rfl); exact rfl; exact fun D w1 hw1 => frontLess_calls db (n + 1) cap (2 * i + 1) i l1 x y _ w1 (hw1.blkP (by (repeat (first | exact P0 | apply P1)))) hl (by omega) hx hy) | ((with_reducible apply oq_lssT); exact rfl; exact rfl; omega) | ((with_reducible apply oq_lssF); exact rfl; exact rfl; omega) | ((with_reducible apply oq_geqT); exact rfl; exact rfl; omega) | ((with_reducible apply oq_geqF); exact rfl; exact rfl; omega) | (apply oq_fn; exact rfl; try first | exact trivial | (and_intros <;> omega)) | ((with_reducible apply oq_load); exact rfl; exact rfl) | ((with_reducible apply oq_loadAgg); exact rfl; exact rfl) | ((with_reducible apply oq_build); (iterate 3 exact rfl)) | ((with_reducible apply oq_buildA); (iterate 4 exact rfl)) | ((with_reducible apply oq_fieldAgg); (iterate 3 exact rfl)) | ((with_reducible apply oq_indexAgg); (iterate 4 exact rfl)))
          | ((with_reducible apply tl_id); first | (with_reducible apply tl_nil) | ((with_reducible apply u_q); (iterate 4 exact rfl)) | ((with_reducible apply u_s0); exact rfl; exact rfl) | ((with_reducible apply u_s); (iterate 3 exact rfl)) | ((with_reducible apply u_skip); (iterate 3 exact rfl)) | ((with_reducible apply u_splitD); exact rfl; exact rfl; all_goals first | (intro hp; try (exfalso; omega)) | skip) | ((with_reducible apply u_splitN); exact rfl; exact rfl; all_goals first | (intro hp; try (exfalso; omega)) | skip) | ((with_reducible apply u_split); exact rfl; exact rfl; all_goals first | intro hp | skip))
          | ((with_reducible apply gx_id); first | (with_reducible apply v_nil) | ((with_reducible apply v_q); (iterate 3 exact rfl)) | ((with_reducible apply v_skip); (iterate 3 exact rfl)) | ((with_reducible apply v_splitD); exact rfl; exact rfl; all_goals first | (intro hp; try (exfalso; omega)) | skip) | ((with_reducible apply v_splitN); exact rfl; exact rfl; all_goals first | (intro hp; try (exfalso; omega)) | skip) | ((with_reducible apply v_split); exact rfl; exact rfl; all_goals first | intro hp | skip))
          | ((with_reducible apply os_id); first | ((with_reducible apply os_x); exact rfl) | ((with_reducible apply os_store); (iterate 4 exact rfl)) | ((with_reducible apply os_storeAgg); (iterate 5 exact rfl)) | ((with_reducible apply os_append (hk := app_ok188)); exact rfl; exact rfl; (repeat (first | exact P0 | apply P1))) | ((with_reducible apply os_appendNil (hk := app_ok188)); exact rfl; exact rfl))
          | ((with_reducible apply ox_id); first | ((with_reducible apply ox_alloc); exact rfl; intro _) | ((with_reducible apply ox_box); exact rfl; exact rfl; intro _) | ((with_reducible apply ox_boxAgg); exact rfl; intro _) | ((with_reducible apply ox_buildSlice1); (iterate 6 exact rfl); intro _) | ((with_reducible apply ox_buildSlice2); (iterate 6 exact rfl); intro _) | ((with_reducible apply ox_buildSlice); (iterate 4 exact rfl)))
          | ((with_reducible apply rd_id); first | (apply Rd.own; (repeat (first | exact P0 | apply P1)); exact rfl; done) | (apply Rd.old; (first | (with_reducible assumption) | exact c0 | exact c1 | exact c2 | exact c3 | exact c4 | exact c5 | exact c6 | exact c7 | exact c8 | exact d0 | exact d1 | exact d2 | exact d3 | exact d4 | exact d5); first | exact List.not_mem_nil | exact m0 | exact m1 | exact m2 | exact m3 | exact m4 | exact m5 | exact m6 | exact m7 | exact m8 | exact m9))
          | ((with_reducible apply t_id); first | (with_reducible apply t_seq) | (apply t_region; kernel_rfl) | (apply t_drawn; kernel_rfl; decide +kernel; try simp only [List.append_eq, List.cons_append, List.nil_append]) | ((with_reducible apply t_condT); exact rfl) | ((with_reducible apply t_condF); exact rfl) | ((with_reducible apply t_condD); exact rfl; all_goals first | (intro hp; try (exfalso; omega)) | skip) | ((with_reducible apply t_condN); exact rfl; all_goals first | (intro hp; try (exfalso; omega)) | skip) | ((with_reducible apply t_cond); exact rfl; all_goals first | intro hp | skip) | (with_reducible apply t_ret) | (with_reducible apply t_skip) | (with_reducible apply t_exit) | (with_reducible apply t_block))
          | with_reducible apply q_thenN
          | with_reducible apply q_thenR
          | with_reducible apply q_blockR
          | with_reducible apply q_blockN
          | with_reducible apply q_thenE
          | ((with_reducible apply q_blockE); exact rfl)
          | ((with_reducible apply q_blockO); exact rfl)
          | exact P0
          | (with_reducible apply P1)
          | exact Rdn.zero
          | apply Rdn.succ
          | ((with_reducible apply Norm.nil); exact rfl)
          | ((with_reducible apply Norm.cons); exact rfl)
          | (with_reducible apply end_ret)
          | (with_reducible apply end_normal)
          | exact rvs_nil
          | (with_reducible apply rvs_cons)
          | ((with_reducible apply rv_tmp); exact rfl)
          | ((with_reducible apply rv_cell); exact rfl; exact rfl)
          | ((with_reducible apply rv_cellAgg); exact rfl; exact rfl)
          | exact Nat.le_of_ble_eq_true rfl
          | exact (rfl : (_ : Bool) = true)
          | omega
          | (intro _ _; with_reducible apply tl_id)
          | (intro _; with_reducible apply tl_id)
          | (intro _ _; with_reducible apply al_id)
          | (intro _; with_reducible apply al_id))
        all_goals exact ⟨_, ⟨⟨_, rfl⟩, _, (frH_n hl).symm, hpp, (hd.done fun k k0 kn kp => Int.le_trans (by rw [key_of hx, key_of hy]; omega) (hm k k0 kn kp)), hlast⟩, HpSub.w (by (repeat (first | exact HpSub.refl _ | (apply HpSub.consE; (repeat (first | exact P0 | apply P1)); exact rfl) | apply HpSub.skipX | exact HpSub.nil)))⟩
  · have hm : ∀ k, 0 < k → k < n → (k - 1) / 2 = i → key l1 (2 * i + 1) ≤ key l1 k := fun k k0 kn kp => by
      obtain rfl : k = 2 * i + 1 := by omega
      exact Int.le_refl _
    by_cases hlt2 : x.1 < y.1
    · repeat' (first
        | ((with_reducible apply oq_id); first | ((with_reducible apply (oq_mulE (k := ((2 * i : Nat) : Int)))); exact rfl; exact rfl; omega) | (focus ((with_reducible apply (oq_addE (k := ((2 * i + 1 : Nat) : Int)))); exact rfl; exact rfl; omega; omega)) | (focus ((with_reducible apply (oq_addE (k := ((2 * i + 1 + 1 : Nat) : Int)))); exact rfl; exact rfl; omega; omega)) | ((with_reducible apply oq_invoke (name := "Less") (k := 240) (rv := .slice (some ⟨db, 0, none⟩) (n + 1) cap) (hc := Try.call240)); exact rfl; exact fun D w1 hw1 => m_less (hw1.cellAt (C := [.slice (some ⟨db, 0, none⟩) (n + 1) cap]) (by (repeat (first | exact P0 | apply P1))) rfl); exact rfl; exact fun D w1 hw1 => frontLess_calls db (n + 1) cap (2 * i + 1) i l1 x y _ w1 (hw1.blkP (by (repeat (first | exact P0 | apply P1)))) hl (by omega) hx hy) | ((with_reducible apply oq_lssT); exact rfl; exact rfl; omega) | ((with_reducible apply oq_lssF); exact rfl; exact rfl; omega) | ((with_reducible apply oq_geqT); exact rfl; exact rfl; omega) | ((with_reducible apply oq_geqF); exact rfl; exact rfl; omega) | (apply oq_fn; exact rfl; try first | exact trivial | (and_intros <;> omega)) | ((with_reducible apply oq_load); exact rfl; exact rfl) | ((with_reducible apply oq_loadAgg); exact rfl; exact rfl) | ((with_reducible apply oq_build); (iterate 3 exact rfl)) | ((with_reducible apply oq_buildA); (iterate 4 exact rfl)) | ((with_reducible apply oq_fieldAgg); (iterate 3 exact rfl)) | ((with_reducible apply oq_indexAgg); (iterate 4 exact rfl)))
        | ((with_reducible apply tl_id); first | (with_reducible apply tl_nil) | ((with_reducible apply u_s); (iterate 3 exact rfl); (with_reducible apply os_invokeM (name := "Swap") (PV := fun v H1 => v = .tuple #[] ∧ H1 = [(db, rcs (swp l1 i (2 * i + 1)), some (186, 3, cap))]) (G := [(db, rcs l1, some (186, 3, cap))]) (R := [(pb, [.slice (some ⟨db, 0, none⟩) (n + 1) cap], some (188, 1, 1))]) (k := 243) (rv := .slice (some ⟨db, 0, none⟩) (n + 1) cap) (hc := Try.call243)); exact rfl; (repeat (first | exact HpSub.refl _ | (apply HpSub.consE; (repeat (first | exact P0 | apply P1)); exact rfl) | apply HpSub.skipX | apply HpSub.skipX | exact HpSub.nil)); exact fun D w1 hw1 => m_swap (hw1.cellAt (C := [.slice (some ⟨db, 0, none⟩) (n + 1) cap]) (by (repeat (first | exact P0 | apply P1))) rfl); exact rfl; exact fun D w1 hw1 hg1 => frontSwap_W db (n + 1) cap i (2 * i + 1) l1 y x w1 hg1 hl (by omega) hy hx; rintro _ _ ⟨rfl, rfl⟩; (try simp only [List.cons_append, List.nil_append, List.append_nil])) | ((with_reducible apply u_q); (iterate 4 exact rfl)) | ((with_reducible apply u_s0); exact rfl; exact rfl) | ((with_reducible apply u_s); (iterate 3 exact rfl)) | ((with_reducible apply u_skip); (iterate 3 exact rfl)) | ((with_reducible apply u_splitD); exact rfl; exact rfl; all_goals first | (intro hp; try (exfalso; omega)) | skip) | ((with_reducible apply u_splitN); exact rfl; exact rfl; all_goals first | (intro hp; try (exfalso; omega)) | skip) | ((with_reducible apply u_split); exact rfl; exact rfl; all_goals first | intro hp | skip))
        | ((with_reducible apply gx_id); first | (with_reducible apply v_nil) | ((with_reducible apply v_q); (iterate 3 exact rfl)) | ((with_reducible apply v_skip); (iterate 3 exact rfl)) | ((with_reducible apply v_splitD); exact rfl; exact rfl; all_goals first | (intro hp; try (exfalso; omega)) | skip) | ((with_reducible apply v_splitN); exact rfl; exact rfl; all_goals first | (intro hp; try (exfalso; omega)) | skip) | ((with_reducible apply v_split); exact rfl; exact rfl; all_goals first | intro hp | skip))
        | ((with_reducible apply os_id); first | ((with_reducible apply os_x); exact rfl) | ((with_reducible apply os_store); (iterate 4 exact rfl)) | ((with_reducible apply os_storeAgg); (iterate 5 exact rfl)) | ((with_reducible apply os_append (hk := app_ok188)); exact rfl; exact rfl; (repeat (first | exact P0 | apply P1))) | ((with_reducible apply os_appendNil (hk := app_ok188)); exact rfl; exact rfl))
        | ((with_reducible apply ox_id); first | ((with_reducible apply ox_alloc); exact rfl; intro _) | ((with_reducible apply ox_box); exact rfl; exact rfl; intro _) | ((with_reducible apply ox_boxAgg); exact rfl; intro _) | ((with_reducible apply ox_buildSlice1); (iterate 6 exact rfl); intro _) | ((with_reducible apply ox_buildSlice2); (iterate 6 exact rfl); intro _) | ((with_reducible apply ox_buildSlice); (iterate 4 exact rfl)))
        | ((with_reducible apply rd_id); first | (apply Rd.own; (repeat (first | exact P0 | apply P1)); exact rfl; done) | (apply Rd.old; (first | (with_reducible assumption) | exact c0 | exact c1 | exact c2 | exact c3 | exact c4 | exact c5 | exact c6 | exact c7 | exact c8 | exact d0 | exact d1 | exact d2 | exact d3 | exact d4 | exact d5); first | exact List.not_mem_nil | exact m0 | exact m1 | exact m2 | exact m3 | exact m4 | exact m5 | exact m6 | exact m7 | exact m8 | exact m9))
        | ((with_reducible apply t_id); first | (with_reducible apply t_seq) | (apply t_region; kernel_rfl) | (apply t_drawn; kernel_rfl; decide +kernel; try simp only [List.append_eq, List.cons_append, List.nil_append]) | ((with_reducible apply t_condT); exact rfl) | ((with_reducible apply t_condF); exact rfl) | ((with_reducible apply t_condD); exact rfl; all_goals first | (intro hp; try (exfalso; omega)) | skip) | ((with_reducible apply t_condN); exact rfl; all_goals first | (intro hp; try (exfalso; omega)) | skip) | ((with_reducible apply t_cond); exact rfl; all_goals first | intro hp | skip) | (with_reducible apply t_ret) | (with_reducible apply t_skip) | (with_reducible apply t_exit) | (with_reducible apply t_block))
        | with_reducible apply q_thenN
        | with_reducible apply q_thenR
        | with_reducible apply q_blockR
        | with_reducible apply q_blockN
        | with_reducible apply q_thenE
        | ((with_reducible apply q_blockE); exact rfl)
        | ((with_reducible apply q_blockO); exact rfl)
        | exact P0
        | (with_reducible apply P1)
        | exact Rdn.zero
        | apply Rdn.succ
        | ((with_reducible apply Norm.nil); exact rfl)
        | ((with_reducible apply Norm.cons); exact rfl)
        | (with_reducible apply end_ret)
        | (with_reducible apply end_normal)
        | exact rvs_nil
        | (with_reducible apply rvs_cons)
        | ((with_reducible apply rv_tmp); exact rfl)
        | ((with_reducible apply rv_cell); exact rfl; exact rfl)
        | ((with_reducible apply rv_cellAgg); exact rfl; exact rfl)
        | exact Nat.le_of_ble_eq_true rfl
        | exact (rfl : (_ : Bool) = true)
        | omega
        | (intro _ _; with_reducible apply tl_id)
        | (intro _; with_reducible apply tl_id)
        | (intro _ _; with_reducible apply al_id)
        | (intro _; with_reducible apply al_id))
      all_goals (refine ⟨(swp l1 i ((2 * i + 1)), (2 * i + 1)), ⟨by rw [swp_len]; exact hl, (by simp only; omega), hd.step (by omega) (by omega) (by omega) (by omega) hm (by rw [key_of hx, key_of hy]; exact hlt2), (swp_perm _ _ _).trans hpp, hsl _ (by omega) (by omega)⟩, (by simp only; omega), ?_, ?_⟩ <;> (try simp only [List.cons_append, List.nil_append]) <;> (repeat' (first | exact FrSub.nil | (apply FrSub.cons; exact rfl) | exact HpSub.refl _ | (apply HpSub.consE; (repeat (first | exact P0 | apply P1)); exact rfl) | exact HpSub.nil)))
    · repeat' (first
        | ((with_reducible apply oq_id); first | ((with_reducible apply (oq_mulE (k := ((2 * i : Nat) : Int)))); exact rfl; exact rfl; omega) | (focus ((with_reducible apply (oq_addE (k := ((2 * i + 1 : Nat) : Int)))); exact rfl; exact rfl; omega; omega)) | (focus ((with_reducible apply (oq_addE (k := ((2 * i + 1 + 1 : Nat) : Int)))); exact rfl; exact rfl; omega; omega)) | ((with_reducible apply oq_invoke (name := "Less") (k := 240) (rv := .slice (some ⟨db, 0, none⟩) (n + 1) cap) (hc := Try.call240)); exact rfl; exact fun D w1 hw1 => m_less (hw1.cellAt (C := [.slice (some ⟨db, 0, none⟩) (n + 1) cap]) (by (repeat (first | exact P0 | apply P1))) rfl); exact rfl; exact fun D w1 hw1 => frontLess_calls db (n + 1) cap (2 * i + 1) i l1 x y _ w1 (hw1.blkP (by (repeat (first | exact P0 | apply P1)))) hl (by omega) hx hy) | ((with_reducible apply oq_lssT); exact rfl; exact rfl; omega) | ((with_reducible apply oq_lssF); exact rfl; exact rfl; omega) | ((with_reducible apply oq_geqT); exact rfl; exact rfl; omega) | ((with_reducible apply oq_geqF); exact rfl; exact rfl; omega) | (apply oq_fn; exact rfl; try first | exact trivial | (and_intros <;> omega)) | ((with_reducible apply oq_load); exact rfl; exact rfl) | ((with_reducible apply oq_loadAgg); exact rfl; exact rfl) | ((with_reducible apply oq_build); (iterate 3 exact rfl)) | ((with_reducible apply oq_buildA); (iterate 4 exact rfl)) | ((with_reducible apply oq_fieldAgg); (iterate 3 exact rfl)) | ((with_reducible apply oq_indexAgg); (iterate 4 exact rfl)))
        | ((with_reducible apply tl_id); first | (with_reducible apply tl_nil) | ((with_reducible apply u_q); (iterate 4 exact rfl)) | ((with_reducible apply u_s0); exact rfl; exact rfl) | ((with_reducible apply u_s); (iterate 3 exact rfl)) | ((with_reducible apply u_skip); (iterate 3 exact rfl)) | ((with_reducible apply u_splitD); exact rfl; exact rfl; all_goals first | (intro hp; try (exfalso; omega)) | skip) | ((with_reducible apply u_splitN); exact rfl; exact rfl; all_goals first | (intro hp; try (exfalso; omega)) | skip) | ((with_reducible apply u_split); exact rfl; exact rfl; all_goals first | intro hp | skip))
        | ((with_reducible apply gx_id); first | (with_reducible apply v_nil) | ((with_reducible apply v_q); (iterate 3 exact rfl)) | ((with_reducible apply v_skip); (iterate 3 exact rfl)) | ((with_reducible apply v_splitD); exact rfl; exact rfl; all_goals first | (intro hp; try (exfalso; omega)) | skip) | ((with_reducible apply v_splitN); exact rfl; exact rfl; all_goals first | (intro hp; try (exfalso; omega)) | skip) | ((with_reducible apply v_split); exact rfl; exact rfl; all_goals first | intro hp | skip))
        | ((with_reducible apply os_id); first | ((with_reducible apply os_x); exact rfl) | ((with_reducible apply os_store); (iterate 4 exact rfl)) | ((with_reducible apply os_storeAgg); (iterate 5 exact rfl)) | ((with_reducible apply os_append (hk := app_ok188)); exact rfl; exact rfl; (repeat (first | exact P0 | apply P1))) | ((with_reducible apply os_appendNil (hk := app_ok188)); exact rfl; exact rfl))
        | ((with_reducible apply ox_id); first | ((with_reducible apply ox_alloc); exact rfl; intro _) | ((with_reducible apply ox_box); exact rfl; exact rfl; intro _) | ((with_reducible apply ox_boxAgg); exact rfl; intro _) | ((with_reducible apply ox_buildSlice1); (iterate 6 exact rfl); intro _) | ((with_reducible apply ox_buildSlice2); (iterate 6 exact rfl); intro _) | ((with_reducible apply ox_buildSlice); (iterate 4 exact rfl)))
        | ((with_reducible apply rd_id); first | (apply Rd.own; (repeat (first | exact P0 | apply P1)); exact rfl; done) | (apply Rd.old; (first | (with_reducible assumption) | exact c0 | exact c1 | exact c2 | exact c3 | exact c4 | exact c5 | exact c6 | exact c7 | exact c8 | exact d0 | exact d1 | exact d2 | exact d3 | exact d4 | exact d5); first | exact List.not_mem_nil | exact m0 | exact m1 | exact m2 | exact m3 | exact m4 | exact m5 | exact m6 | exact m7 | exact m8 | exact m9))
        | ((with_reducible apply t_id); first | (with_reducible apply t_seq) | (apply t_region; kernel_rfl) | (apply t_drawn; kernel_rfl; decide +kernel; try simp only [List.append_eq, List.cons_append, List.nil_append]) | ((with_reducible apply t_condT); exact rfl) | ((with_reducible apply t_condF); exact rfl) | ((with_reducible apply t_condD); exact rfl; all_goals first | (intro hp; try (exfalso; omega)) | skip) | ((with_reducible apply t_condN); exact rfl; all_goals first | (intro hp; try (exfalso; omega)) | skip) | ((with_reducible apply t_cond); exact rfl; all_goals first | intro hp | skip) | (with_reducible apply t_ret) | (with_reducible apply t_skip) | (with_reducible apply t_exit) | (with_reducible apply t_block))
        | with_reducible apply q_thenN
        | with_reducible apply q_thenR
        | with_reducible apply q_blockR
        | with_reducible apply q_blockN
        | with_reducible apply q_thenE
        | ((with_reducible apply q_blockE); exact rfl)
        | ((with_reducible apply q_blockO); exact rfl)
        | exact P0
        | (with_reducible apply P1)
        | exact Rdn.zero
        | apply Rdn.succ
        | ((with_reducible apply Norm.nil); exact rfl)
        | ((with_reducible apply Norm.cons); exact rfl)
        | (with_reducible apply end_ret)
        | (with_reducible apply end_normal)
        | exact rvs_nil
        | (with_reducible apply rvs_cons)
        | ((with_reducible apply rv_tmp); exact rfl)
        | ((with_reducible apply rv_cell); exact rfl; exact rfl)
        | ((with_reducible apply rv_cellAgg); exact rfl; exact rfl)
        | exact Nat.le_of_ble_eq_true rfl
        | exact (rfl : (_ : Bool) = true)
        | omega
        | (intro _ _; with_reducible apply tl_id)
        | (intro _; with_reducible apply tl_id)
        | (intro _ _; with_reducible apply al_id)
        | (intro _; with_reducible apply al_id))
      all_goals exact ⟨_, ⟨⟨_, rfl⟩, _, (frH_n hl).symm, hpp, (hd.done fun k k0 kn kp => Int.le_trans (by rw [key_of hx, key_of hy]; omega) (hm k k0 kn kp)), hlast⟩, HpSub.w (by (repeat (first | exact HpSub.refl _ | (apply HpSub.consE; (repeat (first | exact P0 | apply P1)); exact rfl) | apply HpSub.skipX | exact HpSub.nil)))⟩
theorem heapPush_W (pb db cap n : Nat) (l : List Rc) (x : Rc) (w : World) (hH : Has w ⟨[pb, db], []⟩ (frH pb db cap l) w) (hn : l.length = n) (hn1 : n ≤ 900000) (ho : Hord l n) :
    Calls Try.prog 113 #[.iface 184 (.pointer (some ⟨pb, 0, none⟩)), .iface 186 (.agg #[.int .i64 x.1, .int .i64 0, .int .i64 (x.2 : Nat)])] w fun e w' => ∃ v H1, e = .returned v ∧ (v = .tuple #[] ∧ ∃ l' db' cap', H1 = frH pb db' cap' l' ∧ l'.Perm (x :: l) ∧ Hord l' (n + 1)) ∧ Has w ⟨[pb, db], []⟩ H1 w' := by
  rw [frH_n hn] at hH
  have hl1 : (l ++ [x]).length = n + 1 := by simp [hn]
  have hu : UpOk (l ++ [x]) (n + 1) n := by
    have := Hord.push (x := x) (hn ▸ ho)
    rw [hn] at this; exact this
  refine enterM (c := cxM [pb, db] w 12) Try.func113 rfl rfl rfl hH ?_
  refine t_cutW (ι := Nat × Nat) (fun _ => [(0, .iface 184 (.pointer (some ⟨pb, 0, none⟩)))]) (fun z => [(pb, [.slice (some ⟨z.1, 0, none⟩) (n + 1) z.2], some (188, 1, 1)), (z.1, rcs (l ++ [x]), some (186, 3, z.2))]) (fun _ => True) ?_ ?_
  · repeat' (first
      | ((with_reducible apply oq_id); first | (apply oq_fn; exact rfl; try first | exact trivial | (and_intros <;> omega)) | ((with_reducible apply oq_load); exact rfl; exact rfl) | ((with_reducible apply oq_loadAgg); exact rfl; exact rfl) | ((with_reducible apply oq_build); (iterate 3 exact rfl)) | ((with_reducible apply oq_buildA); (iterate 4 exact rfl)) | ((with_reducible apply oq_fieldAgg); (iterate 3 exact rfl)) | ((with_reducible apply oq_indexAgg); (iterate 4 exact rfl)))
      | ((with_reducible apply tl_id); first | (with_reducible apply tl_nil) | ((with_reducible apply u_s); (iterate 3 exact rfl); (with_reducible apply os_invokeM (name := "Push") (PV := fun v H1 => v = .tuple #[] ∧ ∃ db' cap', H1 = frH pb db' cap' (l ++ [x])) (G := [(pb, [.slice (some ⟨db, 0, none⟩) (n) cap], some (188, 1, 1)), (db, rcs (l), some (186, 3, cap))]) (R := []) (k := 242) (rv := .pointer (some ⟨pb, 0, none⟩)) (hc := Try.call242)); exact rfl; (repeat (first | exact HpSub.refl _ | (apply HpSub.consE; (repeat (first | exact P0 | apply P1)); exact rfl) | apply HpSub.skipX | apply HpSub.skipX | exact HpSub.nil)); exact fun D w1 hw1 => m_push; exact rfl; exact fun D w1 hw1 hg1 => frontPush_W pb db n cap l x w1 hg1 hn (by omega); rintro _ _ ⟨rfl, db', cap', rfl⟩; (rw [frH_n hl1]); (try simp only [List.cons_append, List.nil_append, List.append_nil])) | ((with_reducible apply u_q); (iterate 4 exact rfl)) | ((with_reducible apply u_s0); exact rfl; exact rfl) | ((with_reducible apply u_s); (iterate 3 exact rfl)) | ((with_reducible apply u_skip); (iterate 3 exact rfl)) | ((with_reducible apply u_splitD); exact rfl; exact rfl; all_goals first | (intro hp; try (exfalso; omega)) | skip) | ((with_reducible apply u_splitN); exact rfl; exact rfl; all_goals first | (intro hp; try (exfalso; omega)) | skip) | ((with_reducible apply u_split); exact rfl; exact rfl; all_goals first | intro hp | skip))
      | ((with_reducible apply gx_id); first | (with_reducible apply v_nil) | ((with_reducible apply v_q); (iterate 3 exact rfl)) | ((with_reducible apply v_skip); (iterate 3 exact rfl)) | ((with_reducible apply v_splitD); exact rfl; exact rfl; all_goals first | (intro hp; try (exfalso; omega)) | skip) | ((with_reducible apply v_splitN); exact rfl; exact rfl; all_goals first | (intro hp; try (exfalso; omega)) | skip) | ((with_reducible apply v_split); exact rfl; exact rfl; all_goals first | intro hp | skip))
      | ((with_reducible apply os_id); first | ((with_reducible apply os_x); exact rfl) | ((with_reducible apply os_store); (iterate 4 exact rfl)) | ((with_reducible apply os_storeAgg); (iterate 5 exact rfl)) | ((with_reducible apply os_append (hk := app_ok188)); exact rfl; exact rfl; (repeat (first | exact P0 | apply P1))) | ((with_reducible apply os_appendNil (hk := app_ok188)); exact rfl; exact rfl))
      | ((with_reducible apply ox_id); first | ((with_reducible apply ox_alloc); exact rfl; intro _) | ((with_reducible apply ox_box); exact rfl; exact rfl; intro _) | ((with_reducible apply ox_boxAgg); exact rfl; intro _) | ((with_reducible apply ox_buildSlice1); (iterate 6 exact rfl); intro _) | ((with_reducible apply ox_buildSlice2); (iterate 6 exact rfl); intro _) | ((with_reducible apply ox_buildSlice); (iterate 4 exact rfl)))
      | ((with_reducible apply rd_id); first | (apply Rd.own; (repeat (first | exact P0 | apply P1)); exact rfl; done) | (apply Rd.old; (first | (with_reducible assumption) | exact c0 | exact c1 | exact c2 | exact c3 | exact c4 | exact c5 | exact c6 | exact c7 | exact c8 | exact d0 | exact d1 | exact d2 | exact d3 | exact d4 | exact d5); first | exact List.not_mem_nil | exact m0 | exact m1 | exact m2 | exact m3 | exact m4 | exact m5 | exact m6 | exact m7 | exact m8 | exact m9))
      | ((with_reducible apply t_id); first | (with_reducible apply t_seq) | (apply t_region; kernel_rfl) | (apply t_drawn; kernel_rfl; decide +kernel; try simp only [List.append_eq, List.cons_append, List.nil_append]) | ((with_reducible apply t_condT); exact rfl) | ((with_reducible apply t_condF); exact rfl) | ((with_reducible apply t_condD); exact rfl; all_goals first | (intro hp; try (exfalso; omega)) | skip) | ((with_reducible apply t_condN); exact rfl; all_goals first | (intro hp; try (exfalso; omega)) | skip) | ((with_reducible apply t_cond); exact rfl; all_goals first | intro hp | skip) | (with_reducible apply t_ret) | (with_reducible apply t_skip) | (with_reducible apply t_exit) | (with_reducible apply t_block))
      | with_reducible apply q_thenN
      | with_reducible apply q_thenR
      | with_reducible apply q_blockR
      | with_reducible apply q_blockN
      | with_reducible apply q_thenE
      | ((with_reducible apply q_blockE); exact rfl)
      | ((with_reducible apply q_blockO); exact rfl)
      | exact P0
      | (with_reducible apply P1)
      | exact Rdn.zero
      | apply Rdn.succ
      | ((with_reducible apply Norm.nil); exact rfl)
      | ((with_reducible apply Norm.cons); exact rfl)
      | (with_reducible apply end_ret)
      | (with_reducible apply end_normal)
      | exact rvs_nil
      | (with_reducible apply rvs_cons)
      | ((with_reducible apply rv_tmp); exact rfl)
      | ((with_reducible apply rv_cell); exact rfl; exact rfl)
      | ((with_reducible apply rv_cellAgg); exact rfl; exact rfl)
      | exact Nat.le_of_ble_eq_true rfl
      | exact (rfl : (_ : Bool) = true)
      | omega
      | (intro _ _; with_reducible apply tl_id)
      | (intro _; with_reducible apply tl_id)
      | (intro _ _; with_reducible apply al_id)
      | (intro _; with_reducible apply al_id))
    all_goals exact ⟨(by first | rfl | trivial), (db', cap'), trivial, by (repeat (first | exact FrSub.nil | (apply FrSub.cons; exact rfl))), HpSub.w (by (repeat (first | exact HpSub.refl _ | (apply HpSub.consE; (repeat (first | exact P0 | apply P1)); exact rfl) | apply HpSub.skipX | exact HpSub.nil)))⟩
  rintro ⟨db2, cap2⟩ -
  try simp only [List.cons_append, List.nil_append]
  repeat' (first
    | ((with_reducible apply oq_id); first | ((with_reducible apply oq_invoke (name := "Len") (k := 239) (rv := .slice (some ⟨db2, 0, none⟩) (n + 1) cap2) (hc := Try.call239)); exact rfl; exact fun D w1 hw1 => m_len (hw1.cellAt (C := [.slice (some ⟨db2, 0, none⟩) (n + 1) cap2]) (by (repeat (first | exact P0 | apply P1))) rfl); exact rfl; exact fun D w1 hw1 => frontLen_calls db2 (n + 1) cap2 w1) | ((with_reducible apply oq_subE (k := ((n : Nat) : Int))); exact rfl; exact rfl; omega) | (apply oq_fn; exact rfl; try first | exact trivial | (and_intros <;> omega)) | ((with_reducible apply oq_load); exact rfl; exact rfl) | ((with_reducible apply oq_loadAgg); exact rfl; exact rfl) | ((with_reducible apply oq_build); (iterate 3 exact rfl)) | ((with_reducible apply oq_buildA); (iterate 4 exact rfl)) | ((with_reducible apply oq_fieldAgg); (iterate 3 exact rfl)) | ((with_reducible apply oq_indexAgg); (iterate 4 exact rfl)))
    | ((with_reducible apply tl_id); first | (with_reducible apply tl_nil) | ((with_reducible apply u_s); (iterate 3 exact rfl); (with_reducible apply os_callM (PV := fun v H1 => v = .tuple #[] ∧ ∃ l', H1 = frH pb db2 cap2 l' ∧ l'.Perm (l ++ [x]) ∧ Hord l' (n + 1)) (G := [(pb, [.slice (some ⟨db2, 0, none⟩) (n + 1) cap2], some (188, 1, 1)), (db2, rcs (l ++ [x]), some (186, 3, cap2))]) (R := []) (k := 147) (hc := Try.call147)); exact rfl; exact rfl; (repeat (first | exact HpSub.refl _ | (apply HpSub.consE; (repeat (first | exact P0 | apply P1)); exact rfl) | apply HpSub.skipX | apply HpSub.skipX | exact HpSub.nil)); exact fun D w1 hw1 hg1 => heapUp_W pb db2 cap2 (n + 1) n (l ++ [x]) w1 hg1 hl1 (by omega) (by omega) hu; rintro _ _ ⟨rfl, l', rfl, hp1, ho1⟩; (try simp only [List.cons_append, List.nil_append, List.append_nil])) | ((with_reducible apply u_q); (iterate 4 exact rfl)) | ((with_reducible apply u_s0); exact rfl; exact rfl) | ((with_reducible apply u_s); (iterate 3 exact rfl)) | ((with_reducible apply u_skip); (iterate 3 exact rfl)) | ((with_reducible apply u_splitD); exact rfl; exact rfl; all_goals first | (intro hp; try (exfalso; omega)) | skip) | ((with_reducible apply u_splitN); exact rfl; exact rfl; all_goals first | (intro hp; try (exfalso; omega)) | skip) | ((with_reducible apply u_split); exact rfl; exact rfl; all_goals first | intro hp | skip))
    | ((with_reducible apply gx_id); first | (with_reducible apply v_nil) | ((with_reducible apply v_q); (iterate 3 exact rfl)) | ((with_reducible apply v_skip); (iterate 3 exact rfl)) | ((with_reducible apply v_splitD); exact rfl; exact rfl; all_goals first | (intro hp; try (exfalso; omega)) | skip) | ((with_reducible apply v_splitN); exact rfl; exact rfl; all_goals first | (intro hp; try (exfalso; omega)) | skip) | ((with_reducible apply v_split); exact rfl; exact rfl; all_goals first | intro hp | skip))
    | ((with_reducible apply os_id); first | ((with_reducible apply os_x); exact rfl) | ((with_reducible apply os_store); (iterate 4 exact rfl)) | ((with_reducible apply os_storeAgg); (iterate 5 exact rfl)) | ((with_reducible apply os_append (hk := app_ok188)); exact rfl; exact rfl; (repeat (first | exact P0 | apply P1))) | ((with_reducible apply os_appendNil (hk := app_ok188)); exact rfl; exact rfl))
    | ((with_reducible apply ox_id); first | ((with_reducible apply ox_alloc); exact rfl; intro _) | ((with_reducible apply ox_box); exact rfl; exact rfl; intro _) | ((with_reducible apply ox_boxAgg); exact rfl; intro _) | ((with_reducible apply ox_buildSlice1); (iterate 6 exact rfl); intro _) | ((with_reducible apply ox_buildSlice2); (iterate 6 exact rfl); intro _) | ((with_reducible apply ox_buildSlice); (iterate 4 exact rfl)))
    | ((with_reducible apply rd_id); first | (apply Rd.own; (repeat (first | exact P0 | apply P1)); exact rfl; done) | (apply Rd.old; (first | (with_reducible assumption) | exact c0 | exact c1 | exact c2 | exact c3 | exact c4 | exact c5 | exact c6 | exact c7 | exact c8 | exact d0 | exact d1 | exact d2 | exact d3 | exact d4 | exact d5); first | exact List.not_mem_nil | exact m0 | exact m1 | exact m2 | exact m3 | exact m4 | exact m5 | exact m6 | exact m7 | exact m8 | exact m9))
    | ((with_reducible apply t_id); first | (with_reducible apply t_seq) | (apply t_region; kernel_rfl) | (apply t_drawn; kernel_rfl; decide +kernel; try simp only [List.append_eq, List.cons_append, List.nil_append]) | ((with_reducible apply t_condT); exact rfl) | ((with_reducible apply t_condF); exact rfl) | ((with_reducible apply t_condD); exact rfl; all_goals first | (intro hp; try (exfalso; omega)) | skip) | ((with_reducible apply t_condN); exact rfl; all_goals first | (intro hp; try (exfalso; omega)) | skip) | ((with_reducible apply t_cond); exact rfl; all_goals first | intro hp | skip) | (with_reducible apply t_ret) | (with_reducible apply t_skip) | (with_reducible apply t_exit) | (with_reducible apply t_block))
    | with_reducible apply q_thenN
    | with_reducible apply q_thenR
    | with_reducible apply q_blockR
    | with_reducible apply q_blockN
    | with_reducible apply q_thenE
    | ((with_reducible apply q_blockE); exact rfl)
    | ((with_reducible apply q_blockO); exact rfl)
    | exact P0
    | (with_reducible apply P1)
    | exact Rdn.zero
    | apply Rdn.succ
    | ((with_reducible apply Norm.nil); exact rfl)
    | ((with_reducible apply Norm.cons); exact rfl)
    | (with_reducible apply end_ret)
    | (with_reducible apply end_normal)
    | exact rvs_nil
    | (with_reducible apply rvs_cons)
    | ((with_reducible apply rv_tmp); exact rfl)
    | ((with_reducible apply rv_cell); exact rfl; exact rfl)
    | ((with_reducible apply rv_cellAgg); exact rfl; exact rfl)
    | exact Nat.le_of_ble_eq_true rfl
    | exact (rfl : (_ : Bool) = true)
    | omega
    | (intro _ _; with_reducible apply tl_id)
    | (intro _; with_reducible apply tl_id)
    | (intro _ _; with_reducible apply al_id)
    | (intro _; with_reducible apply al_id))
  all_goals exact ⟨_, ⟨rfl, l', db2, cap2, rfl, hp1.trans List.perm_append_comm, ho1⟩, (by first | exact HpW.refl _ | (rw [List.append_nil]; exact HpW.refl _))⟩
theorem heapPop_W (pb db cap n : Nat) (l : List Rc) (w : World) (hH : Has w ⟨[pb, db], []⟩ (frH pb db cap l) w) (hn : l.length = n + 1) (hn1 : n ≤ 900000) (ho : Hord l (n + 1)) :
    Calls Try.prog 112 #[.iface 184 (.pointer (some ⟨pb, 0, none⟩))] w fun e w' => ∃ v H1, e = .returned v ∧ (∃ (x : Rc) (l' : List Rc), v = .iface 186 (.agg #[.int .i64 x.1, .int .i64 0, .int .i64 (x.2 : Nat)]) ∧ H1 = frH pb db cap l' ∧ l.Perm (x :: l') ∧ l'.length = n ∧ Hord l' n ∧ ∀ y ∈ l, x.1 ≤ y.1) ∧ Has w ⟨[pb, db], []⟩ H1 w' := by
  rw [frH_n hn] at hH
  have hx : l[0]? = some l[0] := List.getElem?_eq_getElem (by omega)
  have hz : l[n]? = some l[n] := List.getElem?_eq_getElem (by omega)
  generalize l[0] = x at hx
  generalize l[n] = z at hz
  have hu := ho.pop hn
  have hsn : (swp l 0 n)[n]? = some x := by
    rw [swp_of hx hz, List.getElem?_set, if_pos rfl, if_pos (by simp [hn])]
  have hmin : ∀ y ∈ l, x.1 ≤ y.1 := fun y hy => by
    obtain ⟨k, hk⟩ := List.mem_iff_getElem?.1 hy
    have := ho.min k (by have := (List.getElem?_eq_some_iff.1 hk).1; omega)
    rw [key_of hx, key_of hk] at this
    exact this
  refine enterM (c := cxM [pb, db] w 15) Try.func112 rfl rfl rfl hH ?_
  repeat' (first
    | ((with_reducible apply oq_id); first | ((with_reducible apply oq_invoke (name := "Len") (k := 239) (rv := .slice (some ⟨db, 0, none⟩) (n + 1) cap) (hc := Try.call239)); exact rfl; exact fun D w1 hw1 => m_len (hw1.cellAt (C := [.slice (some ⟨db, 0, none⟩) (n + 1) cap]) (by (repeat (first | exact P0 | apply P1))) rfl); exact rfl; exact fun D w1 hw1 => frontLen_calls db (n + 1) cap w1) | ((with_reducible apply oq_subE (k := ((n : Nat) : Int))); exact rfl; exact rfl; omega) | (apply oq_fn; exact rfl; try first | exact trivial | (and_intros <;> omega)) | ((with_reducible apply oq_load); exact rfl; exact rfl) | ((with_reducible apply oq_loadAgg); exact rfl; exact rfl) | ((with_reducible apply oq_build); (iterate 3 exact rfl)) | ((with_reducible apply oq_buildA); (iterate 4 exact rfl)) | ((with_reducible apply oq_fieldAgg); (iterate 3 exact rfl)) | ((with_reducible apply oq_indexAgg); (iterate 4 exact rfl)))
    | ((with_reducible apply tl_id); first | (with_reducible apply tl_nil) | ((with_reducible apply u_s); (iterate 3 exact rfl); (with_reducible apply os_invokeM (name := "Swap") (PV := fun v H1 => v = .tuple #[] ∧ H1 = [(db, rcs (swp l 0 n), some (186, 3, cap))]) (G := [(db, rcs l, some (186, 3, cap))]) (R := [(pb, [.slice (some ⟨db, 0, none⟩) (n + 1) cap], some (188, 1, 1))]) (k := 243) (rv := .slice (some ⟨db, 0, none⟩) (n + 1) cap) (hc := Try.call243)); exact rfl; (repeat (first | exact HpSub.refl _ | (apply HpSub.consE; (repeat (first | exact P0 | apply P1)); exact rfl) | apply HpSub.skipX | apply HpSub.skipX | exact HpSub.nil)); exact fun D w1 hw1 => m_swap (hw1.cellAt (C := [.slice (some ⟨db, 0, none⟩) (n + 1) cap]) (by (repeat (first | exact P0 | apply P1))) rfl); exact rfl; exact fun D w1 hw1 hg1 => frontSwap_W db (n + 1) cap 0 n l x z w1 hg1 hn (by omega) hx hz; rintro _ _ ⟨rfl, rfl⟩; (try simp only [List.cons_append, List.nil_append, List.append_nil])) | ((with_reducible apply u_s); (iterate 3 exact rfl); (with_reducible apply os_callM (PV := fun v H1 => (∃ b, v = .bool b) ∧ ∃ l', H1 = frH pb db cap l' ∧ l'.Perm (swp l 0 n) ∧ Hord l' n ∧ l'[n]? = (swp l 0 n)[n]?) (G := [(pb, [.slice (some ⟨db, 0, none⟩) (n + 1) cap], some (188, 1, 1)), (db, rcs (swp l 0 n), some (186, 3, cap))]) (R := []) (k := 146) (hc := Try.call146)); exact rfl; exact rfl; (repeat (first | exact HpSub.refl _ | (apply HpSub.consE; (repeat (first | exact P0 | apply P1)); exact rfl) | apply HpSub.skipX | apply HpSub.skipX | exact HpSub.nil)); exact fun D w1 hw1 hg1 => heapDown_W pb db cap n (swp l 0 n) w1 hg1 (by rw [swp_len]; exact hn) hn1 hu; rintro _ _ ⟨⟨b, rfl⟩, l1, rfl, hp1, ho1, hl1⟩; (have hln : l1.length = n + 1 := hp1.length_eq.trans ((swp_len l 0 n).trans hn)); (have hlx : l1[n]? = some x := hl1.trans hsn); (rw [frH_n hln]); (try simp only [List.cons_append, List.nil_append, List.append_nil])) | ((with_reducible apply u_s); (iterate 3 exact rfl); (with_reducible apply os_invokeM (name := "Pop") (PV := fun v H1 => v = .iface 186 (.agg #[.int .i64 x.1, .int .i64 0, .int .i64 (x.2 : Nat)]) ∧ H1 = frH pb db cap (l1.take n)) (G := [(pb, [.slice (some ⟨db, 0, none⟩) (n + 1) cap], some (188, 1, 1)), (db, rcs (l1), some (186, 3, cap))]) (R := []) (k := 241) (rv := .pointer (some ⟨pb, 0, none⟩)) (hc := Try.call241)); exact rfl; (repeat (first | exact HpSub.refl _ | (apply HpSub.consE; (repeat (first | exact P0 | apply P1)); exact rfl) | apply HpSub.skipX | apply HpSub.skipX | exact HpSub.nil)); exact fun D w1 hw1 => m_pop; exact rfl; exact fun D w1 hw1 hg1 => frontPop_W pb db n cap l1 x w1 hg1 hln (by omega) (by have := blk_cap (hg1.blk _ (List.mem_cons_of_mem _ (List.mem_cons_self ..))).2 (by omega); rw [rcs_len, hln] at this; omega) hlx; rintro _ _ ⟨rfl, rfl⟩; (try simp only [List.cons_append, List.nil_append, List.append_nil])) | ((with_reducible apply u_q); (iterate 4 exact rfl)) | ((with_reducible apply u_s0); exact rfl; exact rfl) | ((with_reducible apply u_s); (iterate 3 exact rfl)) | ((with_reducible apply u_skip); (iterate 3 exact rfl)) | ((with_reducible apply u_splitD); exact rfl; exact rfl; all_goals first | (intro hp; try (exfalso; omega)) | skip) | ((with_reducible apply u_splitN); exact rfl; exact rfl; all_goals first | (intro hp; try (exfalso; omega)) | skip) | ((with_reducible apply u_split); exact rfl; exact rfl; all_goals first | intro hp | skip))
    | ((with_reducible apply gx_id); first | (with_reducible apply v_nil) | ((with_reducible apply v_q); (iterate 3 exact rfl)) | ((with_reducible apply v_skip); (iterate 3 exact rfl)) | ((with_reducible apply v_splitD); exact rfl; exact rfl; all_goals first | (intro hp; try (exfalso; omega)) | skip) | ((with_reducible apply v_splitN); exact rfl; exact rfl; all_goals first | (intro hp; try (exfalso; omega)) | skip) | ((with_reducible apply v_split); exact rfl; exact rfl; all_goals first | intro hp | skip))
    | ((with_reducible apply os_id); first | ((with_reducible apply os_x); exact rfl) | ((with_reducible apply os_store); (iterate 4 exact rfl)) | ((with_reducible apply os_storeAgg); (iterate 5 exact rfl)) | ((with_reducible apply os_append (hk := app_ok188)); exact rfl; exact rfl; (repeat (first | exact P0 | apply P1))) | ((with_reducible apply os_appendNil (hk := app_ok188)); exact rfl; exact rfl))
    | ((with_reducible apply ox_id); first | ((with_reducible apply ox_alloc); exact rfl; intro _) | ((with_reducible apply ox_box); exact rfl; exact rfl; intro _) | ((with_reducible apply ox_boxAgg); exact rfl; intro _) | ((with_reducible apply ox_buildSlice1); (iterate 6 exact rfl); intro _) | ((with_reducible apply ox_buildSlice2); (iterate 6 exact rfl); intro _) | ((with_reducible apply ox_buildSlice); (iterate 4 exact rfl)))
    | ((with_reducible apply rd_id); first | (apply Rd.own; (repeat (first | exact P0 | apply P1)); exact rfl; done) | (apply Rd.old; (first | (with_reducible assumption) | exact c0 | exact c1 | exact c2 | exact c3 | exact c4 | exact c5 | exact c6 | exact c7 | exact c8 | exact d0 | exact d1 | exact d2 | exact d3 | exact d4 | exact d5); first | exact List.not_mem_nil | exact m0 | exact m1 | exact m2 | exact m3 | exact m4 | exact m5 | exact m6 | exact m7 | exact m8 | exact m9))
    | ((with_reducible apply t_id); first | (with_reducible apply t_seq) | (apply t_region; kernel_rfl) | (apply t_drawn; kernel_rfl; decide +kernel; try simp only [List.append_eq, List.cons_append, List.nil_append]) | ((with_reducible apply t_condT); exact rfl) | ((with_reducible apply t_condF); exact rfl) | ((with_reducible apply t_condD); exact rfl; all_goals first | (intro hp; try (exfalso; omega)) | skip) | ((with_reducible apply t_condN); exact rfl; all_goals first | (intro hp; try (exfalso; omega)) | skip) | ((with_reducible apply t_cond); exact rfl; all_goals first | intro hp | skip) | (with_reducible apply t_ret) | (with_reducible apply t_skip) | (with_reducible apply t_exit) | (with_reducible apply t_block))
    | with_reducible apply q_thenN
    | with_reducible apply q_thenR
    | with_reducible apply q_blockR
    | with_reducible apply q_blockN
    | with_reducible apply q_thenE
    | ((with_reducible apply q_blockE); exact rfl)
    | ((with_reducible apply q_blockO); exact rfl)
    | exact P0
    | (with_reducible apply P1)
    | exact Rdn.zero
    | apply Rdn.succ
    | ((with_reducible apply Norm.nil); exact rfl)
    | ((with_reducible apply Norm.cons); exact rfl)
    | (with_reducible apply end_ret)
    | (with_reducible apply end_normal)
    | exact rvs_nil
    | (with_reducible apply rvs_cons)
    | ((with_reducible apply rv_tmp); exact rfl)
    | ((with_reducible apply rv_cell); exact rfl; exact rfl)
    | ((with_reducible apply rv_cellAgg); exact rfl; exact rfl)
    | exact Nat.le_of_ble_eq_true rfl
    | exact (rfl : (_ : Bool) = true)
    | omega
    | (intro _ _; with_reducible apply tl_id)
    | (intro _; with_reducible apply tl_id)
    | (intro _ _; with_reducible apply al_id)
    | (intro _; with_reducible apply al_id))
  all_goals (
    have hl1t : l1 = l1.take n ++ [x] := by
      have h1 : l1.take (n + 1) = l1.take n ++ [x] := by rw [List.take_add_one, hlx]; rfl
      rw [← h1, List.take_of_length_le (by omega)]
    have hperm : l.Perm (x :: l1.take n) := by
      refine ((swp_perm l 0 n).symm.trans hp1.symm).trans ?_
      rw [hl1t]
      simp only [List.take_append_of_le_length (show n ≤ (l1.take n).length by rw [List.length_take]; omega), List.take_take, Nat.min_self]
      exact List.perm_append_comm
    exact ⟨_, ⟨x, l1.take n, rfl, rfl, hperm, by rw [List.length_take]; omega, ho1.take (by omega), hmin⟩, HpW.refl _⟩)
end Go.Proofs.Ytcjkndjjbjoehaa
