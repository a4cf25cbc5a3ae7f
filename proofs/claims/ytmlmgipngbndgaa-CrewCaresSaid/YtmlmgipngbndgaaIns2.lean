/- Inspect. -/
import Derived.Test.YtmlmgipngbndgaaIns1
namespace Go.Proofs.Ytmlmgipngbndgaa
open Go.RowKit
attribute [local irreducible] OQ OS OX Rd T TL GX GL AL AI RV wpG SAny Calls
set_option maxRecDepth 100000
set_option maxHeartbeats 2000000
set_option linter.unusedVariables false
set_option linter.unusedSimpArgs false

theorem info41 : (Try.prog.info? 41).map (fun i => i.zero) = some (some (.slice none 0 0)) := by kernel_rfl
theorem os_makeS {w : World} {N n : Nat} {F : Fr} {H : Hp} {M : List Nat} {K : Value → Hp → Prop} {d : Option Tmp} {ty : TypeId} {pos : String} {af : Array Edge} {gd : Option (Nat × Bool)} {x y : Operand}
    (hx : ev F x = some (.int .i64 ((n + 1 : Nat) : Int))) (hy : ev F y = some (.int .i64 ((n + 1 : Nat) : Int))) (hn : n ≤ 1000) (k : ∀ b, K (.slice (some ⟨b, 0, none⟩) (n + 1) (n + 1)) ((b, List.replicate n (Value.slice none 0 0) ++ Value.slice none 0 0 :: [], some (41, 1, n + 1)) :: H)) : OS (cxM M w N) ⟨d, .makeSlice 90 x y, ty, pos, af, gd⟩ F H K := by
  refine .ofX (ox_make (zs := [.slice none 0 0]) app_ok90 info41 rfl rfl hx hy (by omega) (by unfold maxLen; omega) fun b => ?_)
  have e : (List.replicate (n + 1) [Value.slice none 0 0]).flatten = List.replicate n (Value.slice none 0 0) ++ Value.slice none 0 0 :: [] := by
    rw [show (List.replicate n (Value.slice none 0 0) ++ Value.slice none 0 0 :: []) = List.replicate (n + 1) (Value.slice none 0 0) from List.replicate_succ'.symm]
    simp
  rw [e]
  exact k b
theorem row0_eq {ev gr : Int} {fs : List Int} {n : Nat} (hl : fs.length = n) : ((List.replicate (n + 1) (1099511627776 : Int)).set 0 (-1099511627776)).map iv = rowV ev gr fs 0 := by
  unfold rowV
  rw [hl, List.drop_of_length_le (by omega)]
  congr 1
  refine List.ext_getElem (by simp) fun i h1 h2 => ?_
  simp only [List.length_set, List.length_replicate] at h1
  simp only [List.getElem_set, List.getElem_replicate, List.getElem_map, List.getElem_range, nd_nil]
  unfold never
  by_cases hi : i = 0
  · subst hi; simp
  · rw [if_neg (fun h => hi h.symm), if_neg hi]
theorem few_spec {ev gr du : Int} {fs : List Int} {k : Nat} (h : fewV ev gr du fs = (k : Int)) : k ≤ fs.length ∧ ndL ev gr fs k ≤ du := by
  unfold fewV idxV at h
  cases hq : ((List.range (fs.length + 1)).map (ndL ev gr fs)).findIdx? (fun x => decide (x ≤ du)) with
  | none => rw [hq] at h; simp only at h; omega
  | some i =>
    rw [hq] at h
    simp only at h
    obtain rfl : i = k := by omega
    obtain ⟨hi, hp, _⟩ := List.findIdx?_eq_some_iff_getElem.1 hq
    simp only [List.length_map, List.length_range] at hi
    simp only [List.getElem_map, List.getElem_range, decide_eq_true_eq] at hp
    exact ⟨by omega, hp⟩
theorem row_top {w0 : World} {M : Ms} {H H' : Hp} {w : World} {g n : Nat} {ev gr : Int} {fs : List Int} {tg : Tg} (hl : fs.length = n) (h : Has w0 M H w) (q : Pick H g (rowV ev gr fs n) tg H') : RdS w 1 (some ⟨g, 0, none⟩) (n + 1) (((List.range (n + 1)).map (ndL ev gr fs)).map inCells) := by
  have e : rowV ev gr fs n = ((List.range (n + 1)).map (ndL ev gr fs)).map iv := by unfold rowV; rw [hl, Nat.sub_self, List.drop_zero]
  rw [e] at q
  exact int_rows (by simp) h q
theorem few_calls (ev gr du : Int) (fs : List Int) (n g b2 : Nat) (w1 : World) (hl : fs.length = n) (hn : n ≤ 1000) (hr : RdS w1 1 (some ⟨g, 0, none⟩) (n + 1) (((List.range (n + 1)).map (ndL ev gr fs)).map inCells)) (c0 : w1.cell? ⟨b2, 0 + 2, none⟩ = some (.int .i64 du)) :
    Calls Try.prog 76 #[.slice (some ⟨g, 0, none⟩) (n + 1) (n + 1), .func (.func 77) #[] ⟨[.pointer (some ⟨b2, 0, none⟩)]⟩] w1 fun e w' => e = .returned (.int .i64 (fewV ev gr du fs)) ∧ Ext w1 w' := by
  have := indexInt_calls 77 [.pointer (some ⟨b2, 0, none⟩)] (fun z => decide (z ≤ du)) (some ⟨g, 0, none⟩) (n + 1) (n + 1) ((List.range (n + 1)).map (ndL ev gr fs)) w1 hr (by omega) Try.call77 (fun z _ w2 h2 => most_calls b2 du z w2 (h2.cell c0))
  unfold fewV
  rw [hl]
  exact this
theorem bef_row {w0 : World} {M : Ms} {w1 : World} {bN b8 b2 b3 n c i k : Nat} {gs : Nat → Nat} {A : Option Addr} {ev gr du x : Int} {fs : List Int} (hl : fs.length = n)
    (h : Has w0 M ((bN, tailV n gs (n + 1), some (41, 1, n + 1)) :: (b8, [.slice (some ⟨bN, 0, none⟩) (n + 1) (n + 1)], some (90, 1, 1)) :: (b2, [.int .i64 ev, .int .i64 gr, .int .i64 du], some (40, 3, 1)) :: (b3, [.slice A n c], some (41, 1, 1)) :: rowsH n ev gr fs gs (n + 1)) w1)
    (hr : RdS w1 1 A n (fs.map inCells)) (hx : fs[i]? = some x) (hi : i < n) (hk : k ≤ n) (hn : n ≤ 60) (he : 1 ≤ ev ∧ ev ≤ 100000) (hg : 0 ≤ gr ∧ gr ≤ 100000) (hf : FsOk fs) :
    Calls Try.prog 75 #[.int .i64 (i : Int), .int .i64 (k : Int), .pointer (some ⟨b3, 0, none⟩), .pointer (some ⟨b2, 0, none⟩), .pointer (some ⟨b8, 0, none⟩)] w1 fun e w' => e = .returned (.int .i64 (befV gr x (ndL ev gr (fs.drop (i + 1)) k))) ∧ Ext w1 w' := by
  have hm := rowsH_mem (n := n) (ev := ev) (gr := gr) (fs := fs) (gs := gs) (show n - (i + 1) < n + 1 by omega)
  have hb := (h.blk _ (List.mem_cons_of_mem _ (List.mem_cons_of_mem _ (List.mem_cons_of_mem _ (List.mem_cons_of_mem _ hm))))).2
  have k4 := hb.cell (rowV_at (ev := ev) (gr := gr) (m := n - (i + 1)) (k := k) (show k ≤ fs.length by omega))
  rw [show fs.length - (n - (i + 1)) = i + 1 by omega] at k4
  have k3 := (h.blk _ (List.mem_cons_self ..)).2.cell (o := 0 + (i + 1) * 1) (v := .slice (some ⟨gs (n - (i + 1)), 0, none⟩) (n + 1) (n + 1)) (by
    have := tailV_at (n := n) (gs := gs) (show n - (i + 1) < n + 1 by omega)
    rw [← this]
    congr 1
    omega)
  have hnd := nd_in he hg (hf.drop (i + 1)) k
  have h2 : (fs.drop (i + 1)).length ≤ 60 := by rw [List.length_drop]; omega
  have hnv : never = 1099511627776 := rfl
  exact bef_calls b3 b2 b8 bN _ i k n A c (n + 1) (n + 1) fs gr x _ w1 hr hx
    ((h.blk _ (List.mem_cons_of_mem _ (List.mem_cons_of_mem _ (List.mem_cons_of_mem _ (List.mem_cons_self ..))))).2.cell rfl)
    ((h.blk _ (List.mem_cons_of_mem _ (List.mem_cons_of_mem _ (List.mem_cons_self ..)))).2.cell rfl)
    ((h.blk _ (List.mem_cons_of_mem _ (List.mem_cons_self ..))).2.cell rfl) k3 k4 hk (by omega) (hf x (List.mem_of_getElem? hx)) hg (by omega)
theorem need_nx {q : Nat} {a b : Value} {T : List Value} : (List.replicate q (Value.slice none 0 0) ++ a :: b :: T)[0 + (q + 1) * 1]? = some b := by
  rw [Nat.zero_add, Nat.mul_one, List.getElem?_append_right (by simp)]
  simp
theorem rep_open {q : Nat} {T : List Value} : List.replicate (q + 1) (Value.slice none 0 0) ++ T = List.replicate q (Value.slice none 0 0) ++ Value.slice none 0 0 :: T := by
  rw [List.replicate_succ']
  simp

theorem inspect_T (ev gr du : Int) (A : Option Addr) (n c : Nat) (fs : List Int) (w : World) (hr : RdS w 1 A n (fs.map inCells)) (hn : n ≤ 1000) :
    Calls Try.prog 28 #[.agg #[.int .i64 ev, .int .i64 gr, .int .i64 du], .slice A n c] w fun e w' => ∃ V H', e = .returned V ∧ InsO (insE ev gr du fs) (insV ev gr du fs) V H' ∧ Has w ⟨[], []⟩ H' w' := by
  have hl := hr.len
  simp only [List.length_map] at hl
  have HC := fun w1 (hx : Ext w w1) => checkFlights_calls ev gr du A n c fs w1 (hr.ext hx) (by omega)
  by_cases hce : caredE ev gr du fs = 0
  · rw [hce] at HC
    have hE : insE ev gr du fs = if fewV ev gr du fs < 0 then 6 else 0 := by unfold insE; rw [if_pos hce]
    obtain ⟨e1, e2, g1, g2, d1, d2, hn60, hfs⟩ := cared_ok hce
    have he : 1 ≤ ev ∧ ev ≤ 100000 := ⟨e1, e2⟩
    have hg : 0 ≤ gr ∧ gr ≤ 100000 := ⟨g1, g2⟩
    have hf : FsOk fs := hfs
    have hnv : never = 1099511627776 := rfl
    have hA : (List.replicate n (Value.slice none 0 0)).length = n := by simp
    refine enterF (c := cx w 144) Try.func28 rfl rfl rfl rfl ?_
    repeat' (first
      | ((with_reducible apply oq_id); first | (focus ((with_reducible apply oq_indexAddrN); exact rfl; exact rfl; exact rfl; exact rfl; omega)) | (focus ((with_reducible apply oq_indexAddrN (i := 0)); exact rfl; exact rfl; exact rfl; exact rfl; omega)) | ((with_reducible apply oq_addE (k := ((n + 1 : Nat) : Int))); exact rfl; exact rfl; omega) | (apply oq_fn; exact rfl; first | exact trivial | (refine ⟨?_, ?_⟩ <;> omega) | (refine ⟨?_, ?_, ?_⟩ <;> omega) | omega | skip) | ((with_reducible apply oq_load); exact rfl; exact rfl) | ((with_reducible apply oq_loadAgg); exact rfl; exact rfl) | ((with_reducible apply oq_call (k := 71) (hc := Try.call71)); exact rfl; exact rfl; exact fun D w1 hw1 => HC w1 hw1.ext.ext) | ((with_reducible apply oq_build); exact rfl; exact rfl; exact rfl) | ((with_reducible apply oq_buildA); exact rfl; exact rfl; exact rfl; exact rfl) | ((with_reducible apply oq_fieldAgg); exact rfl; exact rfl; exact rfl) | ((with_reducible apply oq_indexAgg); exact rfl; exact rfl; exact rfl; exact rfl))
      | ((with_reducible apply tl_id); first | ((with_reducible apply tl_nil)) | ((with_reducible apply u_s); exact rfl; exact rfl; exact rfl; (with_reducible apply os_callF (PV := (fun V H' => RepV 1099511627776 (n + 1) V H')) (k := 74) (hc := Try.call74)); exact rfl; exact rfl; exact fun D w1 hw1 => repeat_T 1099511627776 _ (n + 1) _ w1 (one_rows hw1 (by (repeat (first | exact P0 | apply P1)))) (by omega) (by omega); rintro V' H' ⟨g, rfl, rfl⟩; simp only [List.cons_append, List.nil_append]) | ((with_reducible apply u_q); exact rfl; exact rfl; exact rfl; exact rfl) | ((with_reducible apply u_s0); exact rfl; exact rfl) | ((with_reducible apply u_s); exact rfl; exact rfl; exact rfl) | ((with_reducible apply u_skip); exact rfl; exact rfl; exact rfl) | ((with_reducible apply u_splitD); exact rfl; exact rfl; all_goals first | (intro hp; try (exfalso; omega)) | skip) | ((with_reducible apply u_splitN); exact rfl; exact rfl; all_goals first | (intro hp; try (exfalso; omega)) | skip) | ((with_reducible apply u_split); exact rfl; exact rfl; all_goals first | intro hp | skip))
      | ((with_reducible apply gx_id); first | ((with_reducible apply v_nil)) | ((with_reducible apply v_q); exact rfl; exact rfl; exact rfl) | ((with_reducible apply v_skip); exact rfl; exact rfl; exact rfl) | ((with_reducible apply v_splitD); exact rfl; exact rfl; all_goals first | (intro hp; try (exfalso; omega)) | skip) | ((with_reducible apply v_splitN); exact rfl; exact rfl; all_goals first | (intro hp; try (exfalso; omega)) | skip) | ((with_reducible apply v_split); exact rfl; exact rfl; all_goals first | intro hp | skip))
      | ((with_reducible apply os_id); first | ((with_reducible apply os_storeG hA); exact rfl; exact rfl; exact rfl; exact rfl; (repeat (first | exact P0 | apply P1))) | ((with_reducible apply os_storeM hA2); exact rfl; exact rfl; exact rfl; (repeat (first | exact P0 | apply P1))) | ((with_reducible apply os_storeI (k := 0) (row := List.replicate (n + 1) (1099511627776 : Int))); (focus (simp only [List.length_replicate]; omega)); exact rfl; exact rfl; exact rfl; (repeat (first | exact P0 | apply P1))) | ((with_reducible apply os_x); exact rfl) | ((with_reducible apply os_store); exact rfl; exact rfl; exact rfl; exact rfl) | ((with_reducible apply os_storeAgg); exact rfl; exact rfl; exact rfl; exact rfl; exact rfl) | ((with_reducible apply os_append (hk := app_ok41)); exact rfl; exact rfl; (repeat (first | exact P0 | apply P1))) | ((with_reducible apply os_appendNil (hk := app_ok41)); exact rfl; exact rfl))
      | ((with_reducible apply ox_id); first | ((with_reducible apply ox_alloc); exact rfl; intro _) | ((with_reducible apply ox_box); exact rfl; exact rfl; intro _) | ((with_reducible apply ox_boxAgg); exact rfl; intro _) | ((with_reducible apply ox_buildSlice1); exact rfl; exact rfl; exact rfl; exact rfl; exact rfl; exact rfl; intro _) | ((with_reducible apply ox_buildSlice2); exact rfl; exact rfl; exact rfl; exact rfl; exact rfl; exact rfl; intro _) | ((with_reducible apply ox_buildSlice); exact rfl; exact rfl; exact rfl; exact rfl))
      | ((with_reducible apply ai_id); first | ((with_reducible apply ai_s); exact rfl; exact rfl; exact rfl; exact rfl; exact rfl; (with_reducible apply os_callF (PV := (fun V H' => RepV 1099511627776 (n + 1) V H')) (k := 74) (hc := Try.call74)); exact rfl; exact rfl; exact fun D w1 hw1 => repeat_T 1099511627776 _ (n + 1) _ w1 (one_rows hw1 (by (repeat (first | exact P0 | apply P1)))) (by omega) (by omega); rintro V' H' ⟨g, rfl, rfl⟩; simp only [List.cons_append, List.nil_append]) | ((with_reducible apply ai_n); exact rfl; exact rfl; exact rfl; exact rfl; (with_reducible apply os_callF (PV := (fun V H' => RepV 1099511627776 (n + 1) V H')) (k := 74) (hc := Try.call74)); exact rfl; exact rfl; exact fun D w1 hw1 => repeat_T 1099511627776 _ (n + 1) _ w1 (one_rows hw1 (by (repeat (first | exact P0 | apply P1)))) (by omega) (by omega); rintro V' H' ⟨g, rfl, rfl⟩; simp only [List.cons_append, List.nil_append]) | ((with_reducible apply ai_q); exact rfl; exact rfl; exact rfl; exact rfl; exact rfl) | ((with_reducible apply ai_x); exact rfl; exact rfl; exact rfl; exact rfl; exact rfl) | ((with_reducible apply ai_s0); exact rfl; exact rfl; exact rfl; exact rfl) | ((with_reducible apply ai_n0); exact rfl; exact rfl; exact rfl) | ((with_reducible apply ai_s); exact rfl; exact rfl; exact rfl; exact rfl; exact rfl) | ((with_reducible apply ai_n); exact rfl; exact rfl; exact rfl; exact rfl) | ((with_reducible apply ai_skip); exact rfl; exact rfl; exact rfl; exact rfl) | ((with_reducible apply ai_splitD); exact rfl; exact rfl; exact rfl; all_goals first | (intro hp; try (exfalso; omega)) | skip) | ((with_reducible apply ai_splitN); exact rfl; exact rfl; exact rfl; all_goals first | (intro hp; try (exfalso; omega)) | skip) | ((with_reducible apply ai_split); exact rfl; exact rfl; exact rfl; all_goals first | intro hp | skip))
      | ((with_reducible apply al_keep); focus (repeat (first | exact HpSub.refl _ | (apply HpSub.cons; (repeat (first | exact P0 | apply P1))) | apply HpSub.skip | exact HpSub.nil)))
      | ((with_reducible apply rd_id); first | (apply rdG hA; (repeat (first | exact P0 | apply P1)); done) | (apply rdM hA2; (repeat (first | exact P0 | apply P1)); done) | (apply Rd.own; (repeat (first | exact P0 | apply P1)); exact rfl; done) | (apply Rd.old; (first | (with_reducible assumption) | exact c0 | exact c1 | exact c2 | exact c3 | exact c4 | exact c5 | exact c6 | exact c7 | exact c8 | exact d0 | exact d1 | exact d2 | exact d3 | exact d4 | exact d5); first | exact List.not_mem_nil | exact m0 | exact m1 | exact m2 | exact m3 | exact m4 | exact m5 | exact m6 | exact m7 | exact m8 | exact m9))
      | ((with_reducible apply t_id); first | (apply t_mix (id := 6) [0, 1, 3, 4] 4 #[false, false, false, false, false, false, false, true]; kernel_rfl; kernel_rfl; exact rfl) | ((with_reducible apply t_seq)) | (apply t_region; kernel_rfl) | (apply t_drawn; kernel_rfl; decide +kernel; try simp only [List.append_eq, List.cons_append, List.nil_append]) | ((with_reducible apply t_condT); exact rfl) | ((with_reducible apply t_condF); exact rfl) | ((with_reducible apply t_condD); exact rfl; all_goals first | (intro hp; try (exfalso; omega)) | skip) | ((with_reducible apply t_condN); exact rfl; all_goals first | (intro hp; try (exfalso; omega)) | skip) | ((with_reducible apply t_cond); exact rfl; all_goals first | intro hp | skip) | ((with_reducible apply t_ret)) | ((with_reducible apply t_skip)) | ((with_reducible apply t_exit)) | ((with_reducible apply t_block)))
      | with_reducible apply q_thenN
      | with_reducible apply q_thenR
      | with_reducible apply q_blockR
      | with_reducible apply q_blockN
      | with_reducible apply q_thenE
      | ((with_reducible apply q_blockE); exact rfl)
      | ((with_reducible apply q_blockO); exact rfl)
      | exact P0
      | ((with_reducible apply P1))
      | exact Rdn.zero
      | apply Rdn.succ
      | ((with_reducible apply Norm.nil); exact rfl)
      | ((with_reducible apply Norm.cons); exact rfl)
      | ((with_reducible apply end_ret))
      | ((with_reducible apply end_normal))
      | exact rvs_nil
      | ((with_reducible apply rvs_cons))
      | ((with_reducible apply rv_tmp); exact rfl)
      | ((with_reducible apply rv_cell); exact rfl; exact rfl)
      | ((with_reducible apply rv_cellAgg); exact rfl; exact rfl)
      | ((with_reducible apply cut_in0) <;> (repeat' (first | exact FrSub.nil | (apply FrSub.cons; exact rfl) | exact HpSub.refl _ | (apply HpSub.consE; (repeat (first | exact P0 | apply P1)); exact rfl) | apply HpSub.skip | exact HpSub.nil)))
      | ((with_reducible apply cut_in1) <;> (repeat' (first | exact FrSub.nil | (apply FrSub.cons; exact rfl) | exact HpSub.refl _ | (apply HpSub.consE; (repeat (first | exact P0 | apply P1)); exact rfl) | apply HpSub.skip | exact HpSub.nil)))
      | ((with_reducible apply cut_in2) <;> (repeat' (first | exact FrSub.nil | (apply FrSub.cons; exact rfl) | exact HpSub.refl _ | (apply HpSub.consE; (repeat (first | exact P0 | apply P1)); exact rfl) | apply HpSub.skip | exact HpSub.nil)))
      | ((with_reducible apply cut_in3) <;> (repeat' (first | exact FrSub.nil | (apply FrSub.cons; exact rfl) | exact HpSub.refl _ | (apply HpSub.consE; (repeat (first | exact P0 | apply P1)); exact rfl) | apply HpSub.skip | exact HpSub.nil)))
      | (apply t_mix (id := 6) [0, 1, 3, 4] 4 #[false, false, false, false, false, false, false, true]; kernel_rfl; kernel_rfl; exact rfl)
      | ((with_reducible apply al_id); first | (apply al_done; decide +kernel) | (apply al_one 2; decide +kernel) | (apply al_one 5; decide +kernel) | (apply al_one 6; decide +kernel) | (apply al_one 7; decide +kernel))
      | ((with_reducible apply os_makeS (n := n)); exact rfl; exact rfl; omega; intro _)
      | exact Nat.le_of_ble_eq_true rfl
      | exact (rfl : (_ : Bool) = true)
      | omega
      | (intro _ _; with_reducible apply tl_id)
      | (intro _; with_reducible apply tl_id)
      | (intro _ _; with_reducible apply al_id)
      | (intro _; with_reducible apply al_id))
    rename_i b2 b3 bN b8 bS
    apply t_loopK (GH := []) (ι := Nat × (Nat → Nat)) [2, 3, 4, 5, 7, 8, 9, 12, 13, 14, 15, 16, 106, 107, 108, 109, 110, 111, 112, 113, 114, 115, 116, 117, 118, 119, 120, 121, 122, 123, 124, 125, 126, 127, 128, 129, 130, 131, 132, 133, 134, 135, 136, 137, 138, 139, 140, 141, 142, 143] (fun i => [(10, .int .i64 ((n : Int) - ((i.1 : Nat) + 1 : Int)))]) (fun i => [(bN, List.replicate (n - i.1) (Value.slice none 0 0) ++ .slice (some ⟨i.2 i.1, 0, none⟩) (n + 1) (n + 1) :: tailV n i.2 i.1, some (41, 1, n + 1)), (b8, [.slice (some ⟨bN, 0, none⟩) (n + 1) (n + 1)], some (90, 1, 1)), (b2, [.int .i64 ev, .int .i64 gr, .int .i64 du], some (40, 3, 1)), (b3, [.slice A n c], some (41, 1, 1))] ++ rowsH n ev gr fs i.2 (i.1 + 1)) (fun i => i.1 ≤ n) (fun i => n - i.1) ((0, fun _ => g))
    (repeat (first | exact KeepF.nil | (apply KeepF.cons; exact rfl) | apply KeepF.skip))
    (repeat (first | exact FrSub.nil | (apply FrSub.cons; exact rfl)))
    (repeat (first | exact HpSub.refl _ | (apply HpSub.consE; (repeat (first | exact P0 | apply P1)); first | exact rfl | (exact row0_eq hl)) | exact HpSub.nil))
    · exact Nat.zero_le _
    rintro ⟨j, gs⟩ hj
    simp only at hj
    try simp only [List.cons_append, List.nil_append]
    by_cases hlt : j < n
    · obtain ⟨q, hq⟩ : ∃ q, n - j = q + 1 := ⟨n - j - 1, by omega⟩
      have hA : (List.replicate q (Value.slice none 0 0)).length = q := by simp
      obtain ⟨b1, o1, x, hA1, _, hx, c0⟩ := in_read hr (show q < n by omega)
      have hfx := hf x (List.mem_of_getElem? hx)
      have hdrop : fs.drop (fs.length - (j + 1)) = x :: fs.drop (fs.length - j) := by
        have hil := List.getElem?_eq_some_iff.1 hx
        rw [show fs.length - (j + 1) = q by omega, show fs.length - j = q + 1 by omega, List.drop_eq_getElem_cons hil.1, hil.2]
      have hnd : ∀ k, -1099511627776 ≤ ndL ev gr (fs.drop (fs.length - j)) k ∧ ndL ev gr (fs.drop (fs.length - j)) k ≤ 2199023255552 := fun k => by
        have := nd_in he hg (hf.drop (fs.length - j)) k
        have h2 : (fs.drop (fs.length - j)).length ≤ 60 := by rw [List.length_drop]; omega
        omega
      have hbv : ∀ k, -1099511727776 ≤ befV gr x (ndL ev gr (fs.drop (fs.length - j)) k) ∧ befV gr x (ndL ev gr (fs.drop (fs.length - j)) k) ≤ 2199023355552 := fun k => by
        have := hnd k
        unfold befV
        omega
      rw [hq, show (n : Int) - ((j : Int) + 1) = (q : Int) by omega, rep_open]
      repeat' (first
        | ((with_reducible apply oq_id); first | (focus ((with_reducible apply oq_indexAddrN); exact rfl; exact rfl; exact rfl; exact rfl; omega)) | ((with_reducible apply oq_addE (k := ((n + 1 : Nat) : Int))); exact rfl; exact rfl; omega) | (apply oq_fn; exact rfl; first | exact trivial | (refine ⟨?_, ?_⟩ <;> omega) | (refine ⟨?_, ?_, ?_⟩ <;> omega) | omega | skip) | ((with_reducible apply oq_load); exact rfl; exact rfl) | ((with_reducible apply oq_loadAgg); exact rfl; exact rfl) | ((with_reducible apply oq_build); exact rfl; exact rfl; exact rfl) | ((with_reducible apply oq_buildA); exact rfl; exact rfl; exact rfl; exact rfl) | ((with_reducible apply oq_fieldAgg); exact rfl; exact rfl; exact rfl) | ((with_reducible apply oq_indexAgg); exact rfl; exact rfl; exact rfl; exact rfl))
        | ((with_reducible apply tl_id); first | ((with_reducible apply tl_nil)) | ((with_reducible apply u_q); exact rfl; exact rfl; exact rfl; exact rfl) | ((with_reducible apply u_s0); exact rfl; exact rfl) | ((with_reducible apply u_s); exact rfl; exact rfl; exact rfl) | ((with_reducible apply u_skip); exact rfl; exact rfl; exact rfl) | ((with_reducible apply u_splitD); exact rfl; exact rfl; all_goals first | (intro hp; try (exfalso; omega)) | skip) | ((with_reducible apply u_splitN); exact rfl; exact rfl; all_goals first | (intro hp; try (exfalso; omega)) | skip) | ((with_reducible apply u_split); exact rfl; exact rfl; all_goals first | intro hp | skip))
        | ((with_reducible apply gx_id); first | ((with_reducible apply v_nil)) | ((with_reducible apply v_q); exact rfl; exact rfl; exact rfl) | ((with_reducible apply v_skip); exact rfl; exact rfl; exact rfl) | ((with_reducible apply v_splitD); exact rfl; exact rfl; all_goals first | (intro hp; try (exfalso; omega)) | skip) | ((with_reducible apply v_splitN); exact rfl; exact rfl; all_goals first | (intro hp; try (exfalso; omega)) | skip) | ((with_reducible apply v_split); exact rfl; exact rfl; all_goals first | intro hp | skip))
        | ((with_reducible apply os_id); first | ((with_reducible apply os_storeG hA); exact rfl; exact rfl; exact rfl; exact rfl; (repeat (first | exact P0 | apply P1))) | ((with_reducible apply os_storeM hA2); exact rfl; exact rfl; exact rfl; (repeat (first | exact P0 | apply P1))) | ((with_reducible apply os_storeI (k := 0) (row := List.replicate (n + 1) (1099511627776 : Int))); (focus (simp only [List.length_replicate]; omega)); exact rfl; exact rfl; exact rfl; (repeat (first | exact P0 | apply P1))) | ((with_reducible apply os_x); exact rfl) | ((with_reducible apply os_store); exact rfl; exact rfl; exact rfl; exact rfl) | ((with_reducible apply os_storeAgg); exact rfl; exact rfl; exact rfl; exact rfl; exact rfl) | ((with_reducible apply os_append (hk := app_ok41)); exact rfl; exact rfl; (repeat (first | exact P0 | apply P1))) | ((with_reducible apply os_appendNil (hk := app_ok41)); exact rfl; exact rfl))
        | ((with_reducible apply ox_id); first | ((with_reducible apply ox_alloc); exact rfl; intro _) | ((with_reducible apply ox_box); exact rfl; exact rfl; intro _) | ((with_reducible apply ox_boxAgg); exact rfl; intro _) | ((with_reducible apply ox_buildSlice1); exact rfl; exact rfl; exact rfl; exact rfl; exact rfl; exact rfl; intro _) | ((with_reducible apply ox_buildSlice2); exact rfl; exact rfl; exact rfl; exact rfl; exact rfl; exact rfl; intro _) | ((with_reducible apply ox_buildSlice); exact rfl; exact rfl; exact rfl; exact rfl))
        | ((with_reducible apply ai_id); first | ((with_reducible apply ai_q); exact rfl; exact rfl; exact rfl; exact rfl; exact rfl) | ((with_reducible apply ai_x); exact rfl; exact rfl; exact rfl; exact rfl; exact rfl) | ((with_reducible apply ai_s0); exact rfl; exact rfl; exact rfl; exact rfl) | ((with_reducible apply ai_n0); exact rfl; exact rfl; exact rfl) | ((with_reducible apply ai_s); exact rfl; exact rfl; exact rfl; exact rfl; exact rfl) | ((with_reducible apply ai_n); exact rfl; exact rfl; exact rfl; exact rfl) | ((with_reducible apply ai_skip); exact rfl; exact rfl; exact rfl; exact rfl) | ((with_reducible apply ai_splitD); exact rfl; exact rfl; exact rfl; all_goals first | (intro hp; try (exfalso; omega)) | skip) | ((with_reducible apply ai_splitN); exact rfl; exact rfl; exact rfl; all_goals first | (intro hp; try (exfalso; omega)) | skip) | ((with_reducible apply ai_split); exact rfl; exact rfl; exact rfl; all_goals first | intro hp | skip))
        | ((with_reducible apply al_keep); focus (repeat (first | exact HpSub.refl _ | (apply HpSub.cons; (repeat (first | exact P0 | apply P1))) | apply HpSub.skip | exact HpSub.nil)))
        | ((with_reducible apply rd_id); first | (apply rdG hA; (repeat (first | exact P0 | apply P1)); done) | (apply rdM hA2; (repeat (first | exact P0 | apply P1)); done) | (apply Rd.own; (repeat (first | exact P0 | apply P1)); exact rfl; done) | (apply Rd.old; (first | (with_reducible assumption) | exact c0 | exact c1 | exact c2 | exact c3 | exact c4 | exact c5 | exact c6 | exact c7 | exact c8 | exact d0 | exact d1 | exact d2 | exact d3 | exact d4 | exact d5); first | exact List.not_mem_nil | exact m0 | exact m1 | exact m2 | exact m3 | exact m4 | exact m5 | exact m6 | exact m7 | exact m8 | exact m9))
        | ((with_reducible apply t_id); first | (apply t_mix (id := 12) [0, 1, 2, 3] 3 #[false, false, false, false, false, false, true]; kernel_rfl; kernel_rfl; exact rfl) | ((with_reducible apply t_seq)) | (apply t_region; kernel_rfl) | (apply t_drawn; kernel_rfl; decide +kernel; try simp only [List.append_eq, List.cons_append, List.nil_append]) | ((with_reducible apply t_condT); exact rfl) | ((with_reducible apply t_condF); exact rfl) | ((with_reducible apply t_condD); exact rfl; all_goals first | (intro hp; try (exfalso; omega)) | skip) | ((with_reducible apply t_condN); exact rfl; all_goals first | (intro hp; try (exfalso; omega)) | skip) | ((with_reducible apply t_cond); exact rfl; all_goals first | intro hp | skip) | ((with_reducible apply t_ret)) | ((with_reducible apply t_skip)) | ((with_reducible apply t_exit)) | ((with_reducible apply t_block)))
        | with_reducible apply q_thenN
        | with_reducible apply q_thenR
        | with_reducible apply q_blockR
        | with_reducible apply q_blockN
        | with_reducible apply q_thenE
        | ((with_reducible apply q_blockE); exact rfl)
        | ((with_reducible apply q_blockO); exact rfl)
        | exact P0
        | ((with_reducible apply P1))
        | exact Rdn.zero
        | apply Rdn.succ
        | ((with_reducible apply Norm.nil); exact rfl)
        | ((with_reducible apply Norm.cons); exact rfl)
        | ((with_reducible apply end_ret))
        | ((with_reducible apply end_normal))
        | exact rvs_nil
        | ((with_reducible apply rvs_cons))
        | ((with_reducible apply rv_tmp); exact rfl)
        | ((with_reducible apply rv_cell); exact rfl; exact rfl)
        | ((with_reducible apply rv_cellAgg); exact rfl; exact rfl)
        | ((with_reducible apply cut_in0) <;> (repeat' (first | exact FrSub.nil | (apply FrSub.cons; exact rfl) | exact HpSub.refl _ | (apply HpSub.consE; (repeat (first | exact P0 | apply P1)); exact rfl) | apply HpSub.skip | exact HpSub.nil)))
        | ((with_reducible apply cut_in1) <;> (repeat' (first | exact FrSub.nil | (apply FrSub.cons; exact rfl) | exact HpSub.refl _ | (apply HpSub.consE; (repeat (first | exact P0 | apply P1)); exact rfl) | apply HpSub.skip | exact HpSub.nil)))
        | ((with_reducible apply cut_in2) <;> (repeat' (first | exact FrSub.nil | (apply FrSub.cons; exact rfl) | exact HpSub.refl _ | (apply HpSub.consE; (repeat (first | exact P0 | apply P1)); exact rfl) | apply HpSub.skip | exact HpSub.nil)))
        | ((with_reducible apply cut_in3) <;> (repeat' (first | exact FrSub.nil | (apply FrSub.cons; exact rfl) | exact HpSub.refl _ | (apply HpSub.consE; (repeat (first | exact P0 | apply P1)); exact rfl) | apply HpSub.skip | exact HpSub.nil)))
        | (apply t_mix (id := 12) [0, 1, 2, 3] 3 #[false, false, false, false, false, false, true]; kernel_rfl; kernel_rfl; exact rfl)
        | ((with_reducible apply al_id); first | (apply al_done; decide +kernel) | (apply al_one 4; decide +kernel) | (apply al_one 5; decide +kernel) | (apply al_one 6; decide +kernel))
        | ((with_reducible apply ox_makeI (hk := app_ok41) (hz := info3)); exact rfl; exact rfl; omega; (unfold maxLen; omega); intro _)
        | ((with_reducible apply os_makeI (hk := app_ok41) (hz := info3)); exact rfl; exact rfl; omega; (unfold maxLen; omega); intro _)
        | exact Nat.le_of_ble_eq_true rfl
        | exact (rfl : (_ : Bool) = true)
        | omega
        | (intro _ _; with_reducible apply tl_id)
        | (intro _; with_reducible apply tl_id)
        | (intro _ _; with_reducible apply al_id)
        | (intro _; with_reducible apply al_id))
      rename_i gN
      apply t_loopK (ι := Nat) [2, 3, 4, 5, 7, 8, 9, 10, 12, 13, 14, 15, 16, 43, 44, 45, 46, 47, 48, 49, 50, 51, 52, 53, 54, 55, 56, 57, 106, 107, 108, 109, 110, 111, 112, 113, 114, 115, 116, 117, 118, 119, 120, 121, 122, 123, 124, 125, 126, 127, 128, 129, 130, 131, 132, 133, 134, 135, 136, 137, 138, 139, 140, 141, 142, 143] (fun k => [(58, .int .i64 (k : Nat))]) (fun k => [(gN, fillV (ndL ev gr (x :: fs.drop (fs.length - j))) (n + 1) k, some (3, 1, n + 1))]) (fun k => k ≤ n + 1) (fun k => n + 1 - k) (0)
      (repeat (first | exact KeepF.nil | (apply KeepF.cons; exact rfl) | apply KeepF.skip))
      (repeat (first | exact FrSub.nil | (apply FrSub.cons; exact rfl)))
      (repeat (first | exact HpSub.refl _ | (apply HpSub.consE; (repeat (first | exact P0 | apply P1)); exact rfl) | exact HpSub.nil))
      · exact Nat.zero_le _
      rintro k hk
      try simp only [List.cons_append, List.nil_append]
      by_cases hlt2 : k < n + 1
      · rw [fill_open hlt2]
        have hA2 : ((List.range k).map (ndL ev gr (x :: fs.drop (fs.length - j)))).length = k := by simp
        cases k with
        | zero =>
          have hnx : (ndL ev gr (x :: fs.drop (fs.length - j))) 0 = befV gr x (ndL ev gr (fs.drop (fs.length - j)) 0) := nd_zero ..
          repeat' (first
            | ((with_reducible apply oq_id); first | (focus ((with_reducible apply oq_indexAddrN); exact rfl; exact rfl; exact rfl; exact rfl; omega)) | ((with_reducible apply oq_subE (k := (k : Int))); exact rfl; exact rfl; omega) | (apply oq_fn; exact rfl; first | exact trivial | (refine ⟨?_, ?_⟩ <;> omega) | (refine ⟨?_, ?_, ?_⟩ <;> omega) | omega | skip) | ((with_reducible apply oq_load); exact rfl; exact rfl) | ((with_reducible apply oq_loadAgg); exact rfl; exact rfl) | ((with_reducible apply oq_call (k := 75) (hc := Try.call75)); exact rfl; exact rfl; exact fun D w1 hw1 => bef_calls _ _ _ _ _ q 0 n A c _ _ fs gr x (ndL ev gr (fs.drop (fs.length - j)) 0) w1 (hr.ext hw1.ext.ext) hx (hw1.cellAt (by (repeat (first | exact P0 | apply P1))) rfl) (hw1.cellAt (by (repeat (first | exact P0 | apply P1))) rfl) (hw1.cellAt (by (repeat (first | exact P0 | apply P1))) rfl) (hw1.cellAt (by (repeat (first | exact P0 | apply P1))) need_nx) (hw1.cellAt (by (repeat (first | exact P0 | apply P1))) (rowV_at (by omega))) (by omega) (by omega) hfx hg (hnd 0)) | ((with_reducible apply oq_build); exact rfl; exact rfl; exact rfl) | ((with_reducible apply oq_buildA); exact rfl; exact rfl; exact rfl; exact rfl) | ((with_reducible apply oq_fieldAgg); exact rfl; exact rfl; exact rfl) | ((with_reducible apply oq_indexAgg); exact rfl; exact rfl; exact rfl; exact rfl))
            | ((with_reducible apply tl_id); first | ((with_reducible apply tl_nil)) | ((with_reducible apply u_q); exact rfl; exact rfl; exact rfl; exact rfl) | ((with_reducible apply u_s0); exact rfl; exact rfl) | ((with_reducible apply u_s); exact rfl; exact rfl; exact rfl) | ((with_reducible apply u_skip); exact rfl; exact rfl; exact rfl) | ((with_reducible apply u_splitD); exact rfl; exact rfl; all_goals first | (intro hp; try (exfalso; omega)) | skip) | ((with_reducible apply u_splitN); exact rfl; exact rfl; all_goals first | (intro hp; try (exfalso; omega)) | skip) | ((with_reducible apply u_split); exact rfl; exact rfl; all_goals first | intro hp | skip))
            | ((with_reducible apply gx_id); first | ((with_reducible apply v_nil)) | ((with_reducible apply v_q); exact rfl; exact rfl; exact rfl) | ((with_reducible apply v_skip); exact rfl; exact rfl; exact rfl) | ((with_reducible apply v_splitD); exact rfl; exact rfl; all_goals first | (intro hp; try (exfalso; omega)) | skip) | ((with_reducible apply v_splitN); exact rfl; exact rfl; all_goals first | (intro hp; try (exfalso; omega)) | skip) | ((with_reducible apply v_split); exact rfl; exact rfl; all_goals first | intro hp | skip))
            | ((with_reducible apply os_id); first | ((with_reducible apply os_storeG hA); exact rfl; exact rfl; exact rfl; exact rfl; (repeat (first | exact P0 | apply P1))) | ((with_reducible apply os_storeM hA2); exact rfl; exact rfl; exact rfl; (repeat (first | exact P0 | apply P1))) | ((with_reducible apply os_storeI (k := 0) (row := List.replicate (n + 1) (1099511627776 : Int))); (focus (simp only [List.length_replicate]; omega)); exact rfl; exact rfl; exact rfl; (repeat (first | exact P0 | apply P1))) | ((with_reducible apply os_x); exact rfl) | ((with_reducible apply os_store); exact rfl; exact rfl; exact rfl; exact rfl) | ((with_reducible apply os_storeAgg); exact rfl; exact rfl; exact rfl; exact rfl; exact rfl) | ((with_reducible apply os_append (hk := app_ok41)); exact rfl; exact rfl; (repeat (first | exact P0 | apply P1))) | ((with_reducible apply os_appendNil (hk := app_ok41)); exact rfl; exact rfl))
            | ((with_reducible apply ox_id); first | ((with_reducible apply ox_alloc); exact rfl; intro _) | ((with_reducible apply ox_box); exact rfl; exact rfl; intro _) | ((with_reducible apply ox_boxAgg); exact rfl; intro _) | ((with_reducible apply ox_buildSlice1); exact rfl; exact rfl; exact rfl; exact rfl; exact rfl; exact rfl; intro _) | ((with_reducible apply ox_buildSlice2); exact rfl; exact rfl; exact rfl; exact rfl; exact rfl; exact rfl; intro _) | ((with_reducible apply ox_buildSlice); exact rfl; exact rfl; exact rfl; exact rfl))
            | ((with_reducible apply ai_id); first | ((with_reducible apply ai_q); exact rfl; exact rfl; exact rfl; exact rfl; exact rfl) | ((with_reducible apply ai_x); exact rfl; exact rfl; exact rfl; exact rfl; exact rfl) | ((with_reducible apply ai_s0); exact rfl; exact rfl; exact rfl; exact rfl) | ((with_reducible apply ai_n0); exact rfl; exact rfl; exact rfl) | ((with_reducible apply ai_s); exact rfl; exact rfl; exact rfl; exact rfl; exact rfl) | ((with_reducible apply ai_n); exact rfl; exact rfl; exact rfl; exact rfl) | ((with_reducible apply ai_skip); exact rfl; exact rfl; exact rfl; exact rfl) | ((with_reducible apply ai_splitD); exact rfl; exact rfl; exact rfl; all_goals first | (intro hp; try (exfalso; omega)) | skip) | ((with_reducible apply ai_splitN); exact rfl; exact rfl; exact rfl; all_goals first | (intro hp; try (exfalso; omega)) | skip) | ((with_reducible apply ai_split); exact rfl; exact rfl; exact rfl; all_goals first | intro hp | skip))
            | ((with_reducible apply al_keep); focus (repeat (first | exact HpSub.refl _ | (apply HpSub.cons; (repeat (first | exact P0 | apply P1))) | apply HpSub.skip | exact HpSub.nil)))
            | ((with_reducible apply rd_id); first | (apply rdG hA; (repeat (first | exact P0 | apply P1)); done) | (apply rdM hA2; (repeat (first | exact P0 | apply P1)); done) | (apply Rd.own; (repeat (first | exact P0 | apply P1)); exact rfl; done) | (apply Rd.old; (first | (with_reducible assumption) | exact c0 | exact c1 | exact c2 | exact c3 | exact c4 | exact c5 | exact c6 | exact c7 | exact c8 | exact d0 | exact d1 | exact d2 | exact d3 | exact d4 | exact d5); first | exact List.not_mem_nil | exact m0 | exact m1 | exact m2 | exact m3 | exact m4 | exact m5 | exact m6 | exact m7 | exact m8 | exact m9))
            | ((with_reducible apply t_id); first | (apply t_mix (id := 16) [0, 1, 2, 3, 4, 5, 6, 7, 8, 9] 1 #[false, false, false, false, false, false, false, false, false, false, true]; kernel_rfl; kernel_rfl; exact rfl) | (apply t_mix (id := 18) [0, 1, 2, 3, 4, 5, 6, 7, 8, 9, 10, 11, 12, 13, 14, 15, 16, 17, 18, 19, 20, 21] 1 #[false, false, false, false, false, false, false, false, false, false, false, false, false, false, false, false, false, false, false, false, false, false, true]; kernel_rfl; kernel_rfl; exact rfl) | ((with_reducible apply t_seq)) | (apply t_region; kernel_rfl) | (apply t_drawn; kernel_rfl; decide +kernel; try simp only [List.append_eq, List.cons_append, List.nil_append]) | ((with_reducible apply t_condT); exact rfl) | ((with_reducible apply t_condF); exact rfl) | ((with_reducible apply t_condD); exact rfl; all_goals first | (intro hp; try (exfalso; omega)) | skip) | ((with_reducible apply t_condN); exact rfl; all_goals first | (intro hp; try (exfalso; omega)) | skip) | ((with_reducible apply t_cond); exact rfl; all_goals first | intro hp | skip) | ((with_reducible apply t_ret)) | ((with_reducible apply t_skip)) | ((with_reducible apply t_exit)) | ((with_reducible apply t_block)))
            | with_reducible apply q_thenN
            | with_reducible apply q_thenR
            | with_reducible apply q_blockR
            | with_reducible apply q_blockN
            | with_reducible apply q_thenE
            | ((with_reducible apply q_blockE); exact rfl)
            | ((with_reducible apply q_blockO); exact rfl)
            | exact P0
            | ((with_reducible apply P1))
            | exact Rdn.zero
            | apply Rdn.succ
            | ((with_reducible apply Norm.nil); exact rfl)
            | ((with_reducible apply Norm.cons); exact rfl)
            | ((with_reducible apply end_ret))
            | ((with_reducible apply end_normal))
            | exact rvs_nil
            | ((with_reducible apply rvs_cons))
            | ((with_reducible apply rv_tmp); exact rfl)
            | ((with_reducible apply rv_cell); exact rfl; exact rfl)
            | ((with_reducible apply rv_cellAgg); exact rfl; exact rfl)
            | ((with_reducible apply cut_in0) <;> (repeat' (first | exact FrSub.nil | (apply FrSub.cons; exact rfl) | exact HpSub.refl _ | (apply HpSub.consE; (repeat (first | exact P0 | apply P1)); exact rfl) | apply HpSub.skip | exact HpSub.nil)))
            | ((with_reducible apply cut_in1) <;> (repeat' (first | exact FrSub.nil | (apply FrSub.cons; exact rfl) | exact HpSub.refl _ | (apply HpSub.consE; (repeat (first | exact P0 | apply P1)); exact rfl) | apply HpSub.skip | exact HpSub.nil)))
            | ((with_reducible apply cut_in2) <;> (repeat' (first | exact FrSub.nil | (apply FrSub.cons; exact rfl) | exact HpSub.refl _ | (apply HpSub.consE; (repeat (first | exact P0 | apply P1)); exact rfl) | apply HpSub.skip | exact HpSub.nil)))
            | ((with_reducible apply cut_in3) <;> (repeat' (first | exact FrSub.nil | (apply FrSub.cons; exact rfl) | exact HpSub.refl _ | (apply HpSub.consE; (repeat (first | exact P0 | apply P1)); exact rfl) | apply HpSub.skip | exact HpSub.nil)))
            | (apply t_mix (id := 16) [0, 1, 2, 3, 4, 5, 6, 7, 8, 9] 1 #[false, false, false, false, false, false, false, false, false, false, true]; kernel_rfl; kernel_rfl; exact rfl)
            | ((with_reducible apply al_id); first | (apply al_done; decide +kernel) | (apply al_one 10; decide +kernel))
            | (apply t_mix (id := 18) [0, 1, 2, 3, 4, 5, 6, 7, 8, 9, 10, 11, 12, 13, 14, 15, 16, 17, 18, 19, 20, 21] 1 #[false, false, false, false, false, false, false, false, false, false, false, false, false, false, false, false, false, false, false, false, false, false, true]; kernel_rfl; kernel_rfl; exact rfl)
            | ((with_reducible apply al_id); first | (apply al_done; decide +kernel) | (apply al_one 22; decide +kernel))
            | exact Nat.le_of_ble_eq_true rfl
            | exact (rfl : (_ : Bool) = true)
            | omega
            | (intro _ _; with_reducible apply tl_id)
            | (intro _; with_reducible apply tl_id)
            | (intro _ _; with_reducible apply al_id)
            | (intro _; with_reducible apply al_id))
          all_goals (refine ⟨0 + 1, by omega, by omega, ?_, ?_⟩)
          all_goals ((try simp only [List.cons_append, List.nil_append]); (repeat' (first | exact FrSub.nil | (apply FrSub.cons; exact rfl) | exact HpSub.refl _ | (apply HpSub.consE; (repeat (first | exact P0 | apply P1)); first | exact rfl | (exact fill_close hnx)) | apply HpSub.skip | exact HpSub.nil)))
        | succ k =>
          have hB1 := hbv k
          have hB2 := hbv (k + 1)
          by_cases hb : befV gr x (ndL ev gr (fs.drop (fs.length - j)) k) ≤ ev
          · have hnx : (ndL ev gr (x :: fs.drop (fs.length - j))) (k + 1) = min (befV gr x (ndL ev gr (fs.drop (fs.length - j)) (k + 1))) (befV gr x (ndL ev gr (fs.drop (fs.length - j)) k) - ev) := by rw [nd_succ, if_pos hb]
            repeat' (first
              | ((with_reducible apply oq_id); first | (focus ((with_reducible apply oq_indexAddrN); exact rfl; exact rfl; exact rfl; exact rfl; omega)) | ((with_reducible apply oq_subE (k := (k : Int))); exact rfl; exact rfl; omega) | (apply oq_fn; exact rfl; first | exact trivial | (refine ⟨?_, ?_⟩ <;> omega) | (refine ⟨?_, ?_, ?_⟩ <;> omega) | omega | skip) | ((with_reducible apply oq_load); exact rfl; exact rfl) | ((with_reducible apply oq_loadAgg); exact rfl; exact rfl) | ((with_reducible apply oq_call (k := 75) (hc := Try.call75)); exact rfl; exact rfl; exact fun D w1 hw1 => bef_calls _ _ _ _ _ q (k + 1) n A c _ _ fs gr x (ndL ev gr (fs.drop (fs.length - j)) (k + 1)) w1 (hr.ext hw1.ext.ext) hx (hw1.cellAt (by (repeat (first | exact P0 | apply P1))) rfl) (hw1.cellAt (by (repeat (first | exact P0 | apply P1))) rfl) (hw1.cellAt (by (repeat (first | exact P0 | apply P1))) rfl) (hw1.cellAt (by (repeat (first | exact P0 | apply P1))) need_nx) (hw1.cellAt (by (repeat (first | exact P0 | apply P1))) (rowV_at (by omega))) (by omega) (by omega) hfx hg (hnd (k + 1))) | ((with_reducible apply oq_call (k := 75) (hc := Try.call75)); exact rfl; exact rfl; exact fun D w1 hw1 => bef_calls _ _ _ _ _ q k n A c _ _ fs gr x (ndL ev gr (fs.drop (fs.length - j)) k) w1 (hr.ext hw1.ext.ext) hx (hw1.cellAt (by (repeat (first | exact P0 | apply P1))) rfl) (hw1.cellAt (by (repeat (first | exact P0 | apply P1))) rfl) (hw1.cellAt (by (repeat (first | exact P0 | apply P1))) rfl) (hw1.cellAt (by (repeat (first | exact P0 | apply P1))) need_nx) (hw1.cellAt (by (repeat (first | exact P0 | apply P1))) (rowV_at (by omega))) (by omega) (by omega) hfx hg (hnd k)) | ((with_reducible apply oq_build); exact rfl; exact rfl; exact rfl) | ((with_reducible apply oq_buildA); exact rfl; exact rfl; exact rfl; exact rfl) | ((with_reducible apply oq_fieldAgg); exact rfl; exact rfl; exact rfl) | ((with_reducible apply oq_indexAgg); exact rfl; exact rfl; exact rfl; exact rfl))
              | ((with_reducible apply tl_id); first | ((with_reducible apply tl_nil)) | ((with_reducible apply u_q); exact rfl; exact rfl; exact rfl; exact rfl) | ((with_reducible apply u_s0); exact rfl; exact rfl) | ((with_reducible apply u_s); exact rfl; exact rfl; exact rfl) | ((with_reducible apply u_skip); exact rfl; exact rfl; exact rfl) | ((with_reducible apply u_splitD); exact rfl; exact rfl; all_goals first | (intro hp; try (exfalso; omega)) | skip) | ((with_reducible apply u_splitN); exact rfl; exact rfl; all_goals first | (intro hp; try (exfalso; omega)) | skip) | ((with_reducible apply u_split); exact rfl; exact rfl; all_goals first | intro hp | skip))
              | ((with_reducible apply gx_id); first | ((with_reducible apply v_nil)) | ((with_reducible apply v_q); exact rfl; exact rfl; exact rfl) | ((with_reducible apply v_skip); exact rfl; exact rfl; exact rfl) | ((with_reducible apply v_splitD); exact rfl; exact rfl; all_goals first | (intro hp; try (exfalso; omega)) | skip) | ((with_reducible apply v_splitN); exact rfl; exact rfl; all_goals first | (intro hp; try (exfalso; omega)) | skip) | ((with_reducible apply v_split); exact rfl; exact rfl; all_goals first | intro hp | skip))
              | ((with_reducible apply os_id); first | ((with_reducible apply os_storeG hA); exact rfl; exact rfl; exact rfl; exact rfl; (repeat (first | exact P0 | apply P1))) | ((with_reducible apply os_storeM hA2); exact rfl; exact rfl; exact rfl; (repeat (first | exact P0 | apply P1))) | ((with_reducible apply os_storeI (k := 0) (row := List.replicate (n + 1) (1099511627776 : Int))); (focus (simp only [List.length_replicate]; omega)); exact rfl; exact rfl; exact rfl; (repeat (first | exact P0 | apply P1))) | ((with_reducible apply os_x); exact rfl) | ((with_reducible apply os_store); exact rfl; exact rfl; exact rfl; exact rfl) | ((with_reducible apply os_storeAgg); exact rfl; exact rfl; exact rfl; exact rfl; exact rfl) | ((with_reducible apply os_append (hk := app_ok41)); exact rfl; exact rfl; (repeat (first | exact P0 | apply P1))) | ((with_reducible apply os_appendNil (hk := app_ok41)); exact rfl; exact rfl))
              | ((with_reducible apply ox_id); first | ((with_reducible apply ox_alloc); exact rfl; intro _) | ((with_reducible apply ox_box); exact rfl; exact rfl; intro _) | ((with_reducible apply ox_boxAgg); exact rfl; intro _) | ((with_reducible apply ox_buildSlice1); exact rfl; exact rfl; exact rfl; exact rfl; exact rfl; exact rfl; intro _) | ((with_reducible apply ox_buildSlice2); exact rfl; exact rfl; exact rfl; exact rfl; exact rfl; exact rfl; intro _) | ((with_reducible apply ox_buildSlice); exact rfl; exact rfl; exact rfl; exact rfl))
              | ((with_reducible apply ai_id); first | ((with_reducible apply ai_q); exact rfl; exact rfl; exact rfl; exact rfl; exact rfl) | ((with_reducible apply ai_x); exact rfl; exact rfl; exact rfl; exact rfl; exact rfl) | ((with_reducible apply ai_s0); exact rfl; exact rfl; exact rfl; exact rfl) | ((with_reducible apply ai_n0); exact rfl; exact rfl; exact rfl) | ((with_reducible apply ai_s); exact rfl; exact rfl; exact rfl; exact rfl; exact rfl) | ((with_reducible apply ai_n); exact rfl; exact rfl; exact rfl; exact rfl) | ((with_reducible apply ai_skip); exact rfl; exact rfl; exact rfl; exact rfl) | ((with_reducible apply ai_splitD); exact rfl; exact rfl; exact rfl; all_goals first | (intro hp; try (exfalso; omega)) | skip) | ((with_reducible apply ai_splitN); exact rfl; exact rfl; exact rfl; all_goals first | (intro hp; try (exfalso; omega)) | skip) | ((with_reducible apply ai_split); exact rfl; exact rfl; exact rfl; all_goals first | intro hp | skip))
              | ((with_reducible apply al_keep); focus (repeat (first | exact HpSub.refl _ | (apply HpSub.cons; (repeat (first | exact P0 | apply P1))) | apply HpSub.skip | exact HpSub.nil)))
              | ((with_reducible apply rd_id); first | (apply rdG hA; (repeat (first | exact P0 | apply P1)); done) | (apply rdM hA2; (repeat (first | exact P0 | apply P1)); done) | (apply Rd.own; (repeat (first | exact P0 | apply P1)); exact rfl; done) | (apply Rd.old; (first | (with_reducible assumption) | exact c0 | exact c1 | exact c2 | exact c3 | exact c4 | exact c5 | exact c6 | exact c7 | exact c8 | exact d0 | exact d1 | exact d2 | exact d3 | exact d4 | exact d5); first | exact List.not_mem_nil | exact m0 | exact m1 | exact m2 | exact m3 | exact m4 | exact m5 | exact m6 | exact m7 | exact m8 | exact m9))
              | ((with_reducible apply t_id); first | (apply t_mix (id := 16) [0, 1, 2, 3, 4, 5, 6, 7, 8, 9] 1 #[false, false, false, false, false, false, false, false, false, false, true]; kernel_rfl; kernel_rfl; exact rfl) | (apply t_mix (id := 18) [0, 1, 2, 3, 4, 5, 6, 7, 8, 9, 10, 11, 12, 13, 14, 15, 16, 17, 18, 19, 20, 21] 1 #[false, false, false, false, false, false, false, false, false, false, false, false, false, false, false, false, false, false, false, false, false, false, true]; kernel_rfl; kernel_rfl; exact rfl) | ((with_reducible apply t_seq)) | (apply t_region; kernel_rfl) | (apply t_drawn; kernel_rfl; decide +kernel; try simp only [List.append_eq, List.cons_append, List.nil_append]) | ((with_reducible apply t_condT); exact rfl) | ((with_reducible apply t_condF); exact rfl) | ((with_reducible apply t_condD); exact rfl; all_goals first | (intro hp; try (exfalso; omega)) | skip) | ((with_reducible apply t_condN); exact rfl; all_goals first | (intro hp; try (exfalso; omega)) | skip) | ((with_reducible apply t_cond); exact rfl; all_goals first | intro hp | skip) | ((with_reducible apply t_ret)) | ((with_reducible apply t_skip)) | ((with_reducible apply t_exit)) | ((with_reducible apply t_block)))
              | with_reducible apply q_thenN
              | with_reducible apply q_thenR
              | with_reducible apply q_blockR
              | with_reducible apply q_blockN
              | with_reducible apply q_thenE
              | ((with_reducible apply q_blockE); exact rfl)
              | ((with_reducible apply q_blockO); exact rfl)
              | exact P0
              | ((with_reducible apply P1))
              | exact Rdn.zero
              | apply Rdn.succ
              | ((with_reducible apply Norm.nil); exact rfl)
              | ((with_reducible apply Norm.cons); exact rfl)
              | ((with_reducible apply end_ret))
              | ((with_reducible apply end_normal))
              | exact rvs_nil
              | ((with_reducible apply rvs_cons))
              | ((with_reducible apply rv_tmp); exact rfl)
              | ((with_reducible apply rv_cell); exact rfl; exact rfl)
              | ((with_reducible apply rv_cellAgg); exact rfl; exact rfl)
              | ((with_reducible apply cut_in0) <;> (repeat' (first | exact FrSub.nil | (apply FrSub.cons; exact rfl) | exact HpSub.refl _ | (apply HpSub.consE; (repeat (first | exact P0 | apply P1)); exact rfl) | apply HpSub.skip | exact HpSub.nil)))
              | ((with_reducible apply cut_in1) <;> (repeat' (first | exact FrSub.nil | (apply FrSub.cons; exact rfl) | exact HpSub.refl _ | (apply HpSub.consE; (repeat (first | exact P0 | apply P1)); exact rfl) | apply HpSub.skip | exact HpSub.nil)))
              | ((with_reducible apply cut_in2) <;> (repeat' (first | exact FrSub.nil | (apply FrSub.cons; exact rfl) | exact HpSub.refl _ | (apply HpSub.consE; (repeat (first | exact P0 | apply P1)); exact rfl) | apply HpSub.skip | exact HpSub.nil)))
              | ((with_reducible apply cut_in3) <;> (repeat' (first | exact FrSub.nil | (apply FrSub.cons; exact rfl) | exact HpSub.refl _ | (apply HpSub.consE; (repeat (first | exact P0 | apply P1)); exact rfl) | apply HpSub.skip | exact HpSub.nil)))
              | (apply t_mix (id := 16) [0, 1, 2, 3, 4, 5, 6, 7, 8, 9] 1 #[false, false, false, false, false, false, false, false, false, false, true]; kernel_rfl; kernel_rfl; exact rfl)
              | ((with_reducible apply al_id); first | (apply al_done; decide +kernel) | (apply al_one 10; decide +kernel))
              | (apply t_mix (id := 18) [0, 1, 2, 3, 4, 5, 6, 7, 8, 9, 10, 11, 12, 13, 14, 15, 16, 17, 18, 19, 20, 21] 1 #[false, false, false, false, false, false, false, false, false, false, false, false, false, false, false, false, false, false, false, false, false, false, true]; kernel_rfl; kernel_rfl; exact rfl)
              | ((with_reducible apply al_id); first | (apply al_done; decide +kernel) | (apply al_one 22; decide +kernel))
              | exact Nat.le_of_ble_eq_true rfl
              | exact (rfl : (_ : Bool) = true)
              | omega
              | (intro _ _; with_reducible apply tl_id)
              | (intro _; with_reducible apply tl_id)
              | (intro _ _; with_reducible apply al_id)
              | (intro _; with_reducible apply al_id))
            all_goals (refine ⟨(k + 1) + 1, by omega, by omega, ?_, ?_⟩)
            all_goals ((try simp only [List.cons_append, List.nil_append]); (repeat' (first | exact FrSub.nil | (apply FrSub.cons; exact rfl) | exact HpSub.refl _ | (apply HpSub.consE; (repeat (first | exact P0 | apply P1)); first | exact rfl | (exact fill_close hnx)) | apply HpSub.skip | exact HpSub.nil)))
          · have hnx : (ndL ev gr (x :: fs.drop (fs.length - j))) (k + 1) = befV gr x (ndL ev gr (fs.drop (fs.length - j)) (k + 1)) := by rw [nd_succ, if_neg hb]
            repeat' (first
              | ((with_reducible apply oq_id); first | (focus ((with_reducible apply oq_indexAddrN); exact rfl; exact rfl; exact rfl; exact rfl; omega)) | ((with_reducible apply oq_subE (k := (k : Int))); exact rfl; exact rfl; omega) | (apply oq_fn; exact rfl; first | exact trivial | (refine ⟨?_, ?_⟩ <;> omega) | (refine ⟨?_, ?_, ?_⟩ <;> omega) | omega | skip) | ((with_reducible apply oq_load); exact rfl; exact rfl) | ((with_reducible apply oq_loadAgg); exact rfl; exact rfl) | ((with_reducible apply oq_call (k := 75) (hc := Try.call75)); exact rfl; exact rfl; exact fun D w1 hw1 => bef_calls _ _ _ _ _ q (k + 1) n A c _ _ fs gr x (ndL ev gr (fs.drop (fs.length - j)) (k + 1)) w1 (hr.ext hw1.ext.ext) hx (hw1.cellAt (by (repeat (first | exact P0 | apply P1))) rfl) (hw1.cellAt (by (repeat (first | exact P0 | apply P1))) rfl) (hw1.cellAt (by (repeat (first | exact P0 | apply P1))) rfl) (hw1.cellAt (by (repeat (first | exact P0 | apply P1))) need_nx) (hw1.cellAt (by (repeat (first | exact P0 | apply P1))) (rowV_at (by omega))) (by omega) (by omega) hfx hg (hnd (k + 1))) | ((with_reducible apply oq_call (k := 75) (hc := Try.call75)); exact rfl; exact rfl; exact fun D w1 hw1 => bef_calls _ _ _ _ _ q k n A c _ _ fs gr x (ndL ev gr (fs.drop (fs.length - j)) k) w1 (hr.ext hw1.ext.ext) hx (hw1.cellAt (by (repeat (first | exact P0 | apply P1))) rfl) (hw1.cellAt (by (repeat (first | exact P0 | apply P1))) rfl) (hw1.cellAt (by (repeat (first | exact P0 | apply P1))) rfl) (hw1.cellAt (by (repeat (first | exact P0 | apply P1))) need_nx) (hw1.cellAt (by (repeat (first | exact P0 | apply P1))) (rowV_at (by omega))) (by omega) (by omega) hfx hg (hnd k)) | ((with_reducible apply oq_build); exact rfl; exact rfl; exact rfl) | ((with_reducible apply oq_buildA); exact rfl; exact rfl; exact rfl; exact rfl) | ((with_reducible apply oq_fieldAgg); exact rfl; exact rfl; exact rfl) | ((with_reducible apply oq_indexAgg); exact rfl; exact rfl; exact rfl; exact rfl))
              | ((with_reducible apply tl_id); first | ((with_reducible apply tl_nil)) | ((with_reducible apply u_q); exact rfl; exact rfl; exact rfl; exact rfl) | ((with_reducible apply u_s0); exact rfl; exact rfl) | ((with_reducible apply u_s); exact rfl; exact rfl; exact rfl) | ((with_reducible apply u_skip); exact rfl; exact rfl; exact rfl) | ((with_reducible apply u_splitD); exact rfl; exact rfl; all_goals first | (intro hp; try (exfalso; omega)) | skip) | ((with_reducible apply u_splitN); exact rfl; exact rfl; all_goals first | (intro hp; try (exfalso; omega)) | skip) | ((with_reducible apply u_split); exact rfl; exact rfl; all_goals first | intro hp | skip))
              | ((with_reducible apply gx_id); first | ((with_reducible apply v_nil)) | ((with_reducible apply v_q); exact rfl; exact rfl; exact rfl) | ((with_reducible apply v_skip); exact rfl; exact rfl; exact rfl) | ((with_reducible apply v_splitD); exact rfl; exact rfl; all_goals first | (intro hp; try (exfalso; omega)) | skip) | ((with_reducible apply v_splitN); exact rfl; exact rfl; all_goals first | (intro hp; try (exfalso; omega)) | skip) | ((with_reducible apply v_split); exact rfl; exact rfl; all_goals first | intro hp | skip))
              | ((with_reducible apply os_id); first | ((with_reducible apply os_storeG hA); exact rfl; exact rfl; exact rfl; exact rfl; (repeat (first | exact P0 | apply P1))) | ((with_reducible apply os_storeM hA2); exact rfl; exact rfl; exact rfl; (repeat (first | exact P0 | apply P1))) | ((with_reducible apply os_storeI (k := 0) (row := List.replicate (n + 1) (1099511627776 : Int))); (focus (simp only [List.length_replicate]; omega)); exact rfl; exact rfl; exact rfl; (repeat (first | exact P0 | apply P1))) | ((with_reducible apply os_x); exact rfl) | ((with_reducible apply os_store); exact rfl; exact rfl; exact rfl; exact rfl) | ((with_reducible apply os_storeAgg); exact rfl; exact rfl; exact rfl; exact rfl; exact rfl) | ((with_reducible apply os_append (hk := app_ok41)); exact rfl; exact rfl; (repeat (first | exact P0 | apply P1))) | ((with_reducible apply os_appendNil (hk := app_ok41)); exact rfl; exact rfl))
              | ((with_reducible apply ox_id); first | ((with_reducible apply ox_alloc); exact rfl; intro _) | ((with_reducible apply ox_box); exact rfl; exact rfl; intro _) | ((with_reducible apply ox_boxAgg); exact rfl; intro _) | ((with_reducible apply ox_buildSlice1); exact rfl; exact rfl; exact rfl; exact rfl; exact rfl; exact rfl; intro _) | ((with_reducible apply ox_buildSlice2); exact rfl; exact rfl; exact rfl; exact rfl; exact rfl; exact rfl; intro _) | ((with_reducible apply ox_buildSlice); exact rfl; exact rfl; exact rfl; exact rfl))
              | ((with_reducible apply ai_id); first | ((with_reducible apply ai_q); exact rfl; exact rfl; exact rfl; exact rfl; exact rfl) | ((with_reducible apply ai_x); exact rfl; exact rfl; exact rfl; exact rfl; exact rfl) | ((with_reducible apply ai_s0); exact rfl; exact rfl; exact rfl; exact rfl) | ((with_reducible apply ai_n0); exact rfl; exact rfl; exact rfl) | ((with_reducible apply ai_s); exact rfl; exact rfl; exact rfl; exact rfl; exact rfl) | ((with_reducible apply ai_n); exact rfl; exact rfl; exact rfl; exact rfl) | ((with_reducible apply ai_skip); exact rfl; exact rfl; exact rfl; exact rfl) | ((with_reducible apply ai_splitD); exact rfl; exact rfl; exact rfl; all_goals first | (intro hp; try (exfalso; omega)) | skip) | ((with_reducible apply ai_splitN); exact rfl; exact rfl; exact rfl; all_goals first | (intro hp; try (exfalso; omega)) | skip) | ((with_reducible apply ai_split); exact rfl; exact rfl; exact rfl; all_goals first | intro hp | skip))
              | ((with_reducible apply al_keep); focus (repeat (first | exact HpSub.refl _ | (apply HpSub.cons; (repeat (first | exact P0 | apply P1))) | apply HpSub.skip | exact HpSub.nil)))
              | ((with_reducible apply rd_id); first | (apply rdG hA; (repeat (first | exact P0 | apply P1)); done) | (apply rdM hA2; (repeat (first | exact P0 | apply P1)); done) | (apply Rd.own; (repeat (first | exact P0 | apply P1)); exact rfl; done) | (apply Rd.old; (first | (with_reducible assumption) | exact c0 | exact c1 | exact c2 | exact c3 | exact c4 | exact c5 | exact c6 | exact c7 | exact c8 | exact d0 | exact d1 | exact d2 | exact d3 | exact d4 | exact d5); first | exact List.not_mem_nil | exact m0 | exact m1 | exact m2 | exact m3 | exact m4 | exact m5 | exact m6 | exact m7 | exact m8 | exact m9))
              | ((with_reducible apply t_id); first | (apply t_mix (id := 16) [0, 1, 2, 3, 4, 5, 6, 7, 8, 9] 1 #[false, false, false, false, false, false, false, false, false, false, true]; kernel_rfl; kernel_rfl; exact rfl) | (apply t_mix (id := 18) [0, 1, 2, 3, 4, 5, 6, 7, 8, 9, 10, 11, 12, 13, 14, 15, 16, 17, 18, 19, 20, 21] 1 #[false, false, false, false, false, false, false, false, false, false, false, false, false, false, false, false, false, false, false, false, false, false, true]; kernel_rfl; kernel_rfl; exact rfl) | ((with_reducible apply t_seq)) | (apply t_region; kernel_rfl) | (apply t_drawn; kernel_rfl; decide +kernel; try simp only [List.append_eq, List.cons_append, List.nil_append]) | ((with_reducible apply t_condT); exact rfl) | ((with_reducible apply t_condF); exact rfl) | ((with_reducible apply t_condD); exact rfl; all_goals first | (intro hp; try (exfalso; omega)) | skip) | ((with_reducible apply t_condN); exact rfl; all_goals first | (intro hp; try (exfalso; omega)) | skip) | ((with_reducible apply t_cond); exact rfl; all_goals first | intro hp | skip) | ((with_reducible apply t_ret)) | ((with_reducible apply t_skip)) | ((with_reducible apply t_exit)) | ((with_reducible apply t_block)))
              | with_reducible apply q_thenN
              | with_reducible apply q_thenR
              | with_reducible apply q_blockR
              | with_reducible apply q_blockN
              | with_reducible apply q_thenE
              | ((with_reducible apply q_blockE); exact rfl)
              | ((with_reducible apply q_blockO); exact rfl)
              | exact P0
              | ((with_reducible apply P1))
              | exact Rdn.zero
              | apply Rdn.succ
              | ((with_reducible apply Norm.nil); exact rfl)
              | ((with_reducible apply Norm.cons); exact rfl)
              | ((with_reducible apply end_ret))
              | ((with_reducible apply end_normal))
              | exact rvs_nil
              | ((with_reducible apply rvs_cons))
              | ((with_reducible apply rv_tmp); exact rfl)
              | ((with_reducible apply rv_cell); exact rfl; exact rfl)
              | ((with_reducible apply rv_cellAgg); exact rfl; exact rfl)
              | ((with_reducible apply cut_in0) <;> (repeat' (first | exact FrSub.nil | (apply FrSub.cons; exact rfl) | exact HpSub.refl _ | (apply HpSub.consE; (repeat (first | exact P0 | apply P1)); exact rfl) | apply HpSub.skip | exact HpSub.nil)))
              | ((with_reducible apply cut_in1) <;> (repeat' (first | exact FrSub.nil | (apply FrSub.cons; exact rfl) | exact HpSub.refl _ | (apply HpSub.consE; (repeat (first | exact P0 | apply P1)); exact rfl) | apply HpSub.skip | exact HpSub.nil)))
              | ((with_reducible apply cut_in2) <;> (repeat' (first | exact FrSub.nil | (apply FrSub.cons; exact rfl) | exact HpSub.refl _ | (apply HpSub.consE; (repeat (first | exact P0 | apply P1)); exact rfl) | apply HpSub.skip | exact HpSub.nil)))
              | ((with_reducible apply cut_in3) <;> (repeat' (first | exact FrSub.nil | (apply FrSub.cons; exact rfl) | exact HpSub.refl _ | (apply HpSub.consE; (repeat (first | exact P0 | apply P1)); exact rfl) | apply HpSub.skip | exact HpSub.nil)))
              | (apply t_mix (id := 16) [0, 1, 2, 3, 4, 5, 6, 7, 8, 9] 1 #[false, false, false, false, false, false, false, false, false, false, true]; kernel_rfl; kernel_rfl; exact rfl)
              | ((with_reducible apply al_id); first | (apply al_done; decide +kernel) | (apply al_one 10; decide +kernel))
              | (apply t_mix (id := 18) [0, 1, 2, 3, 4, 5, 6, 7, 8, 9, 10, 11, 12, 13, 14, 15, 16, 17, 18, 19, 20, 21] 1 #[false, false, false, false, false, false, false, false, false, false, false, false, false, false, false, false, false, false, false, false, false, false, true]; kernel_rfl; kernel_rfl; exact rfl)
              | ((with_reducible apply al_id); first | (apply al_done; decide +kernel) | (apply al_one 22; decide +kernel))
              | exact Nat.le_of_ble_eq_true rfl
              | exact (rfl : (_ : Bool) = true)
              | omega
              | (intro _ _; with_reducible apply tl_id)
              | (intro _; with_reducible apply tl_id)
              | (intro _ _; with_reducible apply al_id)
              | (intro _; with_reducible apply al_id))
            all_goals (refine ⟨(k + 1) + 1, by omega, by omega, ?_, ?_⟩)
            all_goals ((try simp only [List.cons_append, List.nil_append]); (repeat' (first | exact FrSub.nil | (apply FrSub.cons; exact rfl) | exact HpSub.refl _ | (apply HpSub.consE; (repeat (first | exact P0 | apply P1)); first | exact rfl | (exact fill_close hnx)) | apply HpSub.skip | exact HpSub.nil)))
      · obtain rfl : k = n + 1 := by omega
        have hrow : ((List.range (n + 1)).map (ndL ev gr (x :: fs.drop (fs.length - j)))).map iv = rowV ev gr fs (j + 1) := by unfold rowV; rw [hdrop, hl]
        rw [fill_done, hrow]
        repeat' (first
          | ((with_reducible apply oq_id); first | (apply oq_fn; exact rfl; first | exact trivial | (refine ⟨?_, ?_⟩ <;> omega) | (refine ⟨?_, ?_, ?_⟩ <;> omega) | omega | skip) | ((with_reducible apply oq_load); exact rfl; exact rfl) | ((with_reducible apply oq_loadAgg); exact rfl; exact rfl) | ((with_reducible apply oq_build); exact rfl; exact rfl; exact rfl) | ((with_reducible apply oq_buildA); exact rfl; exact rfl; exact rfl; exact rfl) | ((with_reducible apply oq_fieldAgg); exact rfl; exact rfl; exact rfl) | ((with_reducible apply oq_indexAgg); exact rfl; exact rfl; exact rfl; exact rfl))
          | ((with_reducible apply tl_id); first | ((with_reducible apply tl_nil)) | ((with_reducible apply u_q); exact rfl; exact rfl; exact rfl; exact rfl) | ((with_reducible apply u_s0); exact rfl; exact rfl) | ((with_reducible apply u_s); exact rfl; exact rfl; exact rfl) | ((with_reducible apply u_skip); exact rfl; exact rfl; exact rfl) | ((with_reducible apply u_splitD); exact rfl; exact rfl; all_goals first | (intro hp; try (exfalso; omega)) | skip) | ((with_reducible apply u_splitN); exact rfl; exact rfl; all_goals first | (intro hp; try (exfalso; omega)) | skip) | ((with_reducible apply u_split); exact rfl; exact rfl; all_goals first | intro hp | skip))
          | ((with_reducible apply gx_id); first | ((with_reducible apply v_nil)) | ((with_reducible apply v_q); exact rfl; exact rfl; exact rfl) | ((with_reducible apply v_skip); exact rfl; exact rfl; exact rfl) | ((with_reducible apply v_splitD); exact rfl; exact rfl; all_goals first | (intro hp; try (exfalso; omega)) | skip) | ((with_reducible apply v_splitN); exact rfl; exact rfl; all_goals first | (intro hp; try (exfalso; omega)) | skip) | ((with_reducible apply v_split); exact rfl; exact rfl; all_goals first | intro hp | skip))
          | ((with_reducible apply os_id); first | ((with_reducible apply os_storeG hA); exact rfl; exact rfl; exact rfl; exact rfl; (repeat (first | exact P0 | apply P1))) | ((with_reducible apply os_storeM hA2); exact rfl; exact rfl; exact rfl; (repeat (first | exact P0 | apply P1))) | ((with_reducible apply os_storeI (k := 0) (row := List.replicate (n + 1) (1099511627776 : Int))); (focus (simp only [List.length_replicate]; omega)); exact rfl; exact rfl; exact rfl; (repeat (first | exact P0 | apply P1))) | ((with_reducible apply os_x); exact rfl) | ((with_reducible apply os_store); exact rfl; exact rfl; exact rfl; exact rfl) | ((with_reducible apply os_storeAgg); exact rfl; exact rfl; exact rfl; exact rfl; exact rfl) | ((with_reducible apply os_append (hk := app_ok41)); exact rfl; exact rfl; (repeat (first | exact P0 | apply P1))) | ((with_reducible apply os_appendNil (hk := app_ok41)); exact rfl; exact rfl))
          | ((with_reducible apply ox_id); first | ((with_reducible apply ox_alloc); exact rfl; intro _) | ((with_reducible apply ox_box); exact rfl; exact rfl; intro _) | ((with_reducible apply ox_boxAgg); exact rfl; intro _) | ((with_reducible apply ox_buildSlice1); exact rfl; exact rfl; exact rfl; exact rfl; exact rfl; exact rfl; intro _) | ((with_reducible apply ox_buildSlice2); exact rfl; exact rfl; exact rfl; exact rfl; exact rfl; exact rfl; intro _) | ((with_reducible apply ox_buildSlice); exact rfl; exact rfl; exact rfl; exact rfl))
          | ((with_reducible apply rd_id); first | (apply Rd.own; (repeat (first | exact P0 | apply P1)); exact rfl; done) | (apply Rd.old; (first | (with_reducible assumption) | exact c0 | exact c1 | exact c2 | exact c3 | exact c4 | exact c5 | exact c6 | exact c7 | exact c8 | exact d0 | exact d1 | exact d2 | exact d3 | exact d4 | exact d5); first | exact List.not_mem_nil | exact m0 | exact m1 | exact m2 | exact m3 | exact m4 | exact m5 | exact m6 | exact m7 | exact m8 | exact m9))
          | ((with_reducible apply t_id); first | ((with_reducible apply t_seq)) | (apply t_region; kernel_rfl) | (apply t_drawn; kernel_rfl; decide +kernel; try simp only [List.append_eq, List.cons_append, List.nil_append]) | ((with_reducible apply t_condT); exact rfl) | ((with_reducible apply t_condF); exact rfl) | ((with_reducible apply t_condD); exact rfl; all_goals first | (intro hp; try (exfalso; omega)) | skip) | ((with_reducible apply t_condN); exact rfl; all_goals first | (intro hp; try (exfalso; omega)) | skip) | ((with_reducible apply t_cond); exact rfl; all_goals first | intro hp | skip) | ((with_reducible apply t_ret)) | ((with_reducible apply t_skip)) | ((with_reducible apply t_exit)) | ((with_reducible apply t_block)))
          | with_reducible apply q_thenN
          | with_reducible apply q_thenR
          | with_reducible apply q_blockR
          | with_reducible apply q_blockN
          | with_reducible apply q_thenE
          | ((with_reducible apply q_blockE); exact rfl)
          | ((with_reducible apply q_blockO); exact rfl)
          | exact P0
          | ((with_reducible apply P1))
          | exact Rdn.zero
          | apply Rdn.succ
          | ((with_reducible apply Norm.nil); exact rfl)
          | ((with_reducible apply Norm.cons); exact rfl)
          | ((with_reducible apply end_ret))
          | ((with_reducible apply end_normal))
          | exact rvs_nil
          | ((with_reducible apply rvs_cons))
          | ((with_reducible apply rv_tmp); exact rfl)
          | ((with_reducible apply rv_cell); exact rfl; exact rfl)
          | ((with_reducible apply rv_cellAgg); exact rfl; exact rfl)
          | exact Nat.le_of_ble_eq_true rfl
          | exact (rfl : (_ : Bool) = true)
          | omega
          | (intro _ _; with_reducible apply tl_id)
          | (intro _; with_reducible apply tl_id)
          | (intro _ _; with_reducible apply al_id)
          | (intro _; with_reducible apply al_id))
        all_goals (refine ⟨(j + 1, fun m => if m = j + 1 then gN else gs m), by simp only; omega, by simp only; omega, ?_, ?_⟩)
        · try simp only [List.cons_append, List.nil_append]
          (repeat (first | exact FrSub.nil | (apply FrSub.cons; exact rfl) | (apply FrSub.consE; exact rfl; (congr 1; omega))))
        · have t1 : tailV n (fun m => if m = j + 1 then gN else gs m) (j + 1) = tailV n gs (j + 1) := tailV_congr fun i hi => if_neg (by omega)
          have t2 : rowsH n ev gr fs (fun m => if m = j + 1 then gN else gs m) (j + 1) = rowsH n ev gr fs gs (j + 1) := rowsH_congr fun i hi => if_neg (by omega)
          simp only [show rowsH n ev gr fs (fun m => if m = j + 1 then gN else gs m) (j + 1 + 1) = (gN, rowV ev gr fs (j + 1), some (3, 1, n + 1)) :: rowsH n ev gr fs gs (j + 1) by rw [← t2]; simp [rowsH], t1, if_true, show n - (j + 1) = q by omega]
          (repeat (first | exact HpSub.refl _ | (apply HpSub.consE; (repeat (first | exact P0 | apply P1)); exact rfl) | apply HpSub.skip | exact HpSub.nil))
    · obtain rfl : n = j := by omega
      have hneed : List.replicate (n - n) (Value.slice none 0 0) ++ Value.slice (some ⟨gs n, 0, none⟩) (n + 1) (n + 1) :: tailV n gs n = tailV n gs (n + 1) := by rw [Nat.sub_self]; rfl
      rw [hneed]
      simp only [List.append_nil]
      have HF := fun w1 => few_calls ev gr du fs n (gs n) b2 w1 hl hn
      by_cases hneg : fewV ev gr du fs < 0
      · rw [if_pos hneg] at hE
        rw [hE]
        obtain ⟨fv, hfv⟩ : ∃ fv, fewV ev gr du fs = fv := ⟨_, rfl⟩
        rw [hfv] at HF hneg
        repeat' (first
          | ((with_reducible apply oq_id); first | (focus ((with_reducible apply oq_indexAddrN); exact rfl; exact rfl; exact rfl; exact rfl; omega)) | (focus ((with_reducible apply oq_indexAddrN (i := 0)); exact rfl; exact rfl; exact rfl; exact rfl; omega)) | (apply oq_fn; exact rfl; first | exact trivial | (refine ⟨?_, ?_⟩ <;> omega) | (refine ⟨?_, ?_, ?_⟩ <;> omega) | omega | skip) | ((with_reducible apply oq_load); exact rfl; exact rfl) | ((with_reducible apply oq_loadAgg); exact rfl; exact rfl) | ((with_reducible apply oq_call (k := 76) (hc := Try.call76)); exact rfl; exact rfl; exact fun D w1 hw1 => HF w1 (row_top hl hw1 (by (repeat (first | exact P0 | apply P1)))) (hw1.cellAt (by (repeat (first | exact P0 | apply P1))) rfl)) | ((with_reducible apply oq_build); exact rfl; exact rfl; exact rfl) | ((with_reducible apply oq_buildA); exact rfl; exact rfl; exact rfl; exact rfl) | ((with_reducible apply oq_fieldAgg); exact rfl; exact rfl; exact rfl) | ((with_reducible apply oq_indexAgg); exact rfl; exact rfl; exact rfl; exact rfl))
          | ((with_reducible apply tl_id); first | ((with_reducible apply tl_nil)) | ((with_reducible apply u_q); exact rfl; exact rfl; exact rfl; exact rfl) | ((with_reducible apply u_s0); exact rfl; exact rfl) | ((with_reducible apply u_s); exact rfl; exact rfl; exact rfl) | ((with_reducible apply u_skip); exact rfl; exact rfl; exact rfl) | ((with_reducible apply u_splitD); exact rfl; exact rfl; all_goals first | (intro hp; try (exfalso; omega)) | skip) | ((with_reducible apply u_splitN); exact rfl; exact rfl; all_goals first | (intro hp; try (exfalso; omega)) | skip) | ((with_reducible apply u_split); exact rfl; exact rfl; all_goals first | intro hp | skip))
          | ((with_reducible apply gx_id); first | ((with_reducible apply v_nil)) | ((with_reducible apply v_q); exact rfl; exact rfl; exact rfl) | ((with_reducible apply v_skip); exact rfl; exact rfl; exact rfl) | ((with_reducible apply v_splitD); exact rfl; exact rfl; all_goals first | (intro hp; try (exfalso; omega)) | skip) | ((with_reducible apply v_splitN); exact rfl; exact rfl; all_goals first | (intro hp; try (exfalso; omega)) | skip) | ((with_reducible apply v_split); exact rfl; exact rfl; all_goals first | intro hp | skip))
          | ((with_reducible apply os_id); first | ((with_reducible apply os_x); exact rfl) | ((with_reducible apply os_store); exact rfl; exact rfl; exact rfl; exact rfl) | ((with_reducible apply os_storeAgg); exact rfl; exact rfl; exact rfl; exact rfl; exact rfl) | ((with_reducible apply os_append (hk := app_ok41)); exact rfl; exact rfl; (repeat (first | exact P0 | apply P1))) | ((with_reducible apply os_appendNil (hk := app_ok41)); exact rfl; exact rfl))
          | ((with_reducible apply ox_id); first | ((with_reducible apply ox_alloc); exact rfl; intro _) | ((with_reducible apply ox_box); exact rfl; exact rfl; intro _) | ((with_reducible apply ox_boxAgg); exact rfl; intro _) | ((with_reducible apply ox_buildSlice1); exact rfl; exact rfl; exact rfl; exact rfl; exact rfl; exact rfl; intro _) | ((with_reducible apply ox_buildSlice2); exact rfl; exact rfl; exact rfl; exact rfl; exact rfl; exact rfl; intro _) | ((with_reducible apply ox_buildSlice); exact rfl; exact rfl; exact rfl; exact rfl))
          | ((with_reducible apply rd_id); first | (apply Rd.own; (repeat (first | exact P0 | apply P1)); exact rfl; done) | (apply Rd.old; (first | (with_reducible assumption) | exact c0 | exact c1 | exact c2 | exact c3 | exact c4 | exact c5 | exact c6 | exact c7 | exact c8 | exact d0 | exact d1 | exact d2 | exact d3 | exact d4 | exact d5); first | exact List.not_mem_nil | exact m0 | exact m1 | exact m2 | exact m3 | exact m4 | exact m5 | exact m6 | exact m7 | exact m8 | exact m9))
          | ((with_reducible apply t_id); first | ((with_reducible apply t_seq)) | (apply t_region; kernel_rfl) | (apply t_drawn; kernel_rfl; decide +kernel; try simp only [List.append_eq, List.cons_append, List.nil_append]) | ((with_reducible apply t_condT); exact rfl) | ((with_reducible apply t_condF); exact rfl) | ((with_reducible apply t_condD); exact rfl; all_goals first | (intro hp; try (exfalso; omega)) | skip) | ((with_reducible apply t_condN); exact rfl; all_goals first | (intro hp; try (exfalso; omega)) | skip) | ((with_reducible apply t_cond); exact rfl; all_goals first | intro hp | skip) | ((with_reducible apply t_ret)) | ((with_reducible apply t_skip)) | ((with_reducible apply t_exit)) | ((with_reducible apply t_block)))
          | with_reducible apply q_thenN
          | with_reducible apply q_thenR
          | with_reducible apply q_blockR
          | with_reducible apply q_blockN
          | with_reducible apply q_thenE
          | ((with_reducible apply q_blockE); exact rfl)
          | ((with_reducible apply q_blockO); exact rfl)
          | exact P0
          | ((with_reducible apply P1))
          | exact Rdn.zero
          | apply Rdn.succ
          | ((with_reducible apply Norm.nil); exact rfl)
          | ((with_reducible apply Norm.cons); exact rfl)
          | ((with_reducible apply end_ret))
          | ((with_reducible apply end_normal))
          | exact rvs_nil
          | ((with_reducible apply rvs_cons))
          | ((with_reducible apply rv_tmp); exact rfl)
          | ((with_reducible apply rv_cell); exact rfl; exact rfl)
          | ((with_reducible apply rv_cellAgg); exact rfl; exact rfl)
          | exact Nat.le_of_ble_eq_true rfl
          | exact (rfl : (_ : Bool) = true)
          | omega
          | (intro _ _; with_reducible apply tl_id)
          | (intro _; with_reducible apply tl_id)
          | (intro _ _; with_reducible apply al_id)
          | (intro _; with_reducible apply al_id))
        all_goals exact ⟨_, .inl ⟨by decide, rfl, rfl⟩, HpSub.nil⟩
      · obtain ⟨k0, hk0⟩ : ∃ k0 : Nat, fewV ev gr du fs = (k0 : Int) := ⟨(fewV ev gr du fs).toNat, by omega⟩
        rw [if_neg hneg] at hE
        rw [hk0] at HF
        have hIV : insV ev gr du fs = insG ev gr fs 0 k0 du := by unfold insV; rw [hk0]; rfl
        have hfs := few_spec hk0
        clear HC
        repeat' (first
          | ((with_reducible apply oq_id); first | (focus ((with_reducible apply oq_indexAddrN); exact rfl; exact rfl; exact rfl; exact rfl; omega)) | (focus ((with_reducible apply oq_indexAddrN (i := 0)); exact rfl; exact rfl; exact rfl; exact rfl; omega)) | (apply oq_fn; exact rfl; first | exact trivial | (refine ⟨?_, ?_⟩ <;> omega) | (refine ⟨?_, ?_, ?_⟩ <;> omega) | omega | skip) | ((with_reducible apply oq_load); exact rfl; exact rfl) | ((with_reducible apply oq_loadAgg); exact rfl; exact rfl) | ((with_reducible apply oq_call (k := 76) (hc := Try.call76)); exact rfl; exact rfl; exact fun D w1 hw1 => HF w1 (row_top hl hw1 (by (repeat (first | exact P0 | apply P1)))) (hw1.cellAt (by (repeat (first | exact P0 | apply P1))) rfl)) | ((with_reducible apply oq_build); exact rfl; exact rfl; exact rfl) | ((with_reducible apply oq_buildA); exact rfl; exact rfl; exact rfl; exact rfl) | ((with_reducible apply oq_fieldAgg); exact rfl; exact rfl; exact rfl) | ((with_reducible apply oq_indexAgg); exact rfl; exact rfl; exact rfl; exact rfl))
          | ((with_reducible apply tl_id); first | ((with_reducible apply tl_nil)) | ((with_reducible apply u_q); exact rfl; exact rfl; exact rfl; exact rfl) | ((with_reducible apply u_s0); exact rfl; exact rfl) | ((with_reducible apply u_s); exact rfl; exact rfl; exact rfl) | ((with_reducible apply u_skip); exact rfl; exact rfl; exact rfl) | ((with_reducible apply u_splitD); exact rfl; exact rfl; all_goals first | (intro hp; try (exfalso; omega)) | skip) | ((with_reducible apply u_splitN); exact rfl; exact rfl; all_goals first | (intro hp; try (exfalso; omega)) | skip) | ((with_reducible apply u_split); exact rfl; exact rfl; all_goals first | intro hp | skip))
          | ((with_reducible apply gx_id); first | ((with_reducible apply v_nil)) | ((with_reducible apply v_q); exact rfl; exact rfl; exact rfl) | ((with_reducible apply v_skip); exact rfl; exact rfl; exact rfl) | ((with_reducible apply v_splitD); exact rfl; exact rfl; all_goals first | (intro hp; try (exfalso; omega)) | skip) | ((with_reducible apply v_splitN); exact rfl; exact rfl; all_goals first | (intro hp; try (exfalso; omega)) | skip) | ((with_reducible apply v_split); exact rfl; exact rfl; all_goals first | intro hp | skip))
          | ((with_reducible apply os_id); first | ((with_reducible apply os_x); exact rfl) | ((with_reducible apply os_store); exact rfl; exact rfl; exact rfl; exact rfl) | ((with_reducible apply os_storeAgg); exact rfl; exact rfl; exact rfl; exact rfl; exact rfl) | ((with_reducible apply os_append (hk := app_ok41)); exact rfl; exact rfl; (repeat (first | exact P0 | apply P1))) | ((with_reducible apply os_appendNil (hk := app_ok41)); exact rfl; exact rfl))
          | ((with_reducible apply ox_id); first | ((with_reducible apply ox_alloc); exact rfl; intro _) | ((with_reducible apply ox_box); exact rfl; exact rfl; intro _) | ((with_reducible apply ox_boxAgg); exact rfl; intro _) | ((with_reducible apply ox_buildSlice1); exact rfl; exact rfl; exact rfl; exact rfl; exact rfl; exact rfl; intro _) | ((with_reducible apply ox_buildSlice2); exact rfl; exact rfl; exact rfl; exact rfl; exact rfl; exact rfl; intro _) | ((with_reducible apply ox_buildSlice); exact rfl; exact rfl; exact rfl; exact rfl))
          | ((with_reducible apply rd_id); first | (apply Rd.own; (repeat (first | exact P0 | apply P1)); exact rfl; done) | (apply Rd.old; (first | (with_reducible assumption) | exact c0 | exact c1 | exact c2 | exact c3 | exact c4 | exact c5 | exact c6 | exact c7 | exact c8 | exact d0 | exact d1 | exact d2 | exact d3 | exact d4 | exact d5); first | exact List.not_mem_nil | exact m0 | exact m1 | exact m2 | exact m3 | exact m4 | exact m5 | exact m6 | exact m7 | exact m8 | exact m9))
          | ((with_reducible apply t_id); first | ((with_reducible apply t_seq)) | (apply t_region; kernel_rfl) | (apply t_drawn; kernel_rfl; decide +kernel; try simp only [List.append_eq, List.cons_append, List.nil_append]) | ((with_reducible apply t_condT); exact rfl) | ((with_reducible apply t_condF); exact rfl) | ((with_reducible apply t_condD); exact rfl; all_goals first | (intro hp; try (exfalso; omega)) | skip) | ((with_reducible apply t_condN); exact rfl; all_goals first | (intro hp; try (exfalso; omega)) | skip) | ((with_reducible apply t_cond); exact rfl; all_goals first | intro hp | skip) | ((with_reducible apply t_ret)) | ((with_reducible apply t_skip)) | ((with_reducible apply t_exit)) | ((with_reducible apply t_block)))
          | with_reducible apply q_thenN
          | with_reducible apply q_thenR
          | with_reducible apply q_blockR
          | with_reducible apply q_blockN
          | with_reducible apply q_thenE
          | ((with_reducible apply q_blockE); exact rfl)
          | ((with_reducible apply q_blockO); exact rfl)
          | exact P0
          | ((with_reducible apply P1))
          | exact Rdn.zero
          | apply Rdn.succ
          | ((with_reducible apply Norm.nil); exact rfl)
          | ((with_reducible apply Norm.cons); exact rfl)
          | ((with_reducible apply end_ret))
          | ((with_reducible apply end_normal))
          | exact rvs_nil
          | ((with_reducible apply rvs_cons))
          | ((with_reducible apply rv_tmp); exact rfl)
          | ((with_reducible apply rv_cell); exact rfl; exact rfl)
          | ((with_reducible apply rv_cellAgg); exact rfl; exact rfl)
          | exact Nat.le_of_ble_eq_true rfl
          | exact (rfl : (_ : Bool) = true)
          | omega
          | (intro _ _; with_reducible apply tl_id)
          | (intro _; with_reducible apply tl_id)
          | (intro _ _; with_reducible apply al_id)
          | (intro _; with_reducible apply al_id))
        apply t_loopK (ι := Nat × Nat × Int × List Int × Option (Nat × Nat)) [2, 4, 5, 9, 115, 116, 143] (fun j => [(117, .int .i64 (j.1 : Nat)), (12, .int .i64 (j.2.1 : Nat)), (14, .int .i64 j.2.2.1), (13, planS j.2.2.2.1 j.2.2.2.2)]) (fun j => planH j.2.2.2.1 j.2.2.2.2) (fun j => j.1 ≤ n ∧ insV ev gr du fs = j.2.2.2.1 ++ insG ev gr (fs.drop j.1) j.1 j.2.1 j.2.2.1 ∧ ndL ev gr (fs.drop j.1) j.2.1 ≤ j.2.2.1 ∧ -100000 ≤ j.2.2.1 ∧ j.2.2.1 ≤ 100000 ∧ j.2.1 ≤ n ∧ j.2.2.2.1.length ≤ j.1 ∧ (j.2.2.2.2 = none → j.2.2.2.1 = [])) (fun j => n - j.1) ((0, k0, du, [], none))
        (repeat (first | exact KeepF.nil | (apply KeepF.cons; exact rfl) | apply KeepF.skip))
        (repeat (first | exact FrSub.nil | (apply FrSub.cons; exact rfl)))
        (repeat (first | exact HpSub.refl _ | (apply HpSub.consE; (repeat (first | exact P0 | apply P1)); exact rfl) | exact HpSub.nil))
        · exact ⟨Nat.zero_le _, by simp only [List.drop_zero, List.nil_append]; exact hIV, by simp only [List.drop_zero]; exact hfs.2, by simp only; omega, by simp only; omega, by simp only; omega, by simp, fun _ => rfl⟩
        rintro ⟨i, k, L, pre, o⟩ ⟨hi, hpl, hnd, hL0, hL1, hkn, hprl, hpre⟩
        simp only at hi hpl hnd hL0 hL1 hkn hprl hpre
        by_cases hlt2 : i < n
        · obtain ⟨b1, o1, x, hA1, _, hx, c0⟩ := in_read hr hlt2
          have hfx := hf x (List.mem_of_getElem? hx)
          have hdrop : fs.drop i = x :: fs.drop (i + 1) := by
            have hil := (List.getElem?_eq_some_iff.1 hx)
            rw [List.drop_eq_getElem_cons hil.1, hil.2]
          obtain ⟨B, hBe⟩ : ∃ B, befV gr x (ndL ev gr (fs.drop (i + 1)) k) = B := ⟨_, rfl⟩
          have HB : ∀ {M : Ms} {w0 w1 : World}, Ext w w1 → Has w0 M ((bN, tailV n gs (n + 1), some (41, 1, n + 1)) :: (b8, [.slice (some ⟨bN, 0, none⟩) (n + 1) (n + 1)], some (90, 1, 1)) :: (b2, [.int .i64 ev, .int .i64 gr, .int .i64 du], some (40, 3, 1)) :: (b3, [.slice A n c], some (41, 1, 1)) :: rowsH n ev gr fs gs (n + 1)) w1 →
              Calls Try.prog 75 #[.int .i64 (i : Int), .int .i64 (k : Int), .pointer (some ⟨b3, 0, none⟩), .pointer (some ⟨b2, 0, none⟩), .pointer (some ⟨b8, 0, none⟩)] w1 fun e w' => e = .returned (.int .i64 B) ∧ Ext w1 w' :=
            fun hx1 hh => hBe ▸ bef_row hl hh (hr.ext hx1) hx hlt2 hkn (by omega) he hg hf
          subst hA1
          rcases o with _ | ⟨go, co⟩
          · obtain rfl := hpre rfl
            try simp only [planS_none, planS_some, planH_none, planH_some, List.cons_append, List.nil_append]
            by_cases hsk : B ≤ L
            · have hB := hsk
              rw [← hBe] at hB
              have hge : x - gr ≤ L := by unfold befV at hB; omega
              repeat' (first
                | ((with_reducible apply oq_id); first | (focus ((with_reducible apply oq_indexAddrN); exact rfl; exact rfl; exact rfl; exact rfl; omega)) | ((with_reducible apply oq_subE (k := ((k - 1 : Nat) : Int))); exact rfl; exact rfl; omega) | ((with_reducible apply oq_addE (k := ((i + 1 : Nat) : Int))); exact rfl; exact rfl; omega) | (apply oq_fn; exact rfl; first | exact trivial | (refine ⟨?_, ?_⟩ <;> omega) | (refine ⟨?_, ?_, ?_⟩ <;> omega) | omega | skip) | ((with_reducible apply oq_load); exact rfl; exact rfl) | ((with_reducible apply oq_loadAgg); exact rfl; exact rfl) | ((with_reducible apply oq_call (k := 75) (hc := Try.call75)); exact rfl; exact rfl; exact fun D w1 hw1 => HB hw1.ext.ext (Has.sub (by (repeat (first | exact HpSub.refl _ | apply HpSub.skip))) hw1)) | ((with_reducible apply oq_build); exact rfl; exact rfl; exact rfl) | ((with_reducible apply oq_buildA); exact rfl; exact rfl; exact rfl; exact rfl) | ((with_reducible apply oq_fieldAgg); exact rfl; exact rfl; exact rfl) | ((with_reducible apply oq_indexAgg); exact rfl; exact rfl; exact rfl; exact rfl))
                | ((with_reducible apply tl_id); first | ((with_reducible apply tl_nil)) | ((with_reducible apply u_q); exact rfl; exact rfl; exact rfl; exact rfl) | ((with_reducible apply u_s0); exact rfl; exact rfl) | ((with_reducible apply u_s); exact rfl; exact rfl; exact rfl) | ((with_reducible apply u_skip); exact rfl; exact rfl; exact rfl) | ((with_reducible apply u_splitD); exact rfl; exact rfl; all_goals first | (intro hp; try (exfalso; omega)) | skip) | ((with_reducible apply u_splitN); exact rfl; exact rfl; all_goals first | (intro hp; try (exfalso; omega)) | skip) | ((with_reducible apply u_split); exact rfl; exact rfl; all_goals first | intro hp | skip))
                | ((with_reducible apply gx_id); first | ((with_reducible apply v_nil)) | ((with_reducible apply v_q); exact rfl; exact rfl; exact rfl) | ((with_reducible apply v_skip); exact rfl; exact rfl; exact rfl) | ((with_reducible apply v_splitD); exact rfl; exact rfl; all_goals first | (intro hp; try (exfalso; omega)) | skip) | ((with_reducible apply v_splitN); exact rfl; exact rfl; all_goals first | (intro hp; try (exfalso; omega)) | skip) | ((with_reducible apply v_split); exact rfl; exact rfl; all_goals first | intro hp | skip))
                | ((with_reducible apply os_id); first | ((with_reducible apply os_x); exact rfl) | ((with_reducible apply os_store); exact rfl; exact rfl; exact rfl; exact rfl) | ((with_reducible apply os_storeAgg); exact rfl; exact rfl; exact rfl; exact rfl; exact rfl) | ((with_reducible apply os_append (hk := app_ok41)); exact rfl; exact rfl; (repeat (first | exact P0 | apply P1))) | ((with_reducible apply os_appendNil (hk := app_ok41)); exact rfl; exact rfl))
                | ((with_reducible apply ox_id); first | ((with_reducible apply ox_alloc); exact rfl; intro _) | ((with_reducible apply ox_box); exact rfl; exact rfl; intro _) | ((with_reducible apply ox_boxAgg); exact rfl; intro _) | ((with_reducible apply ox_buildSlice1); exact rfl; exact rfl; exact rfl; exact rfl; exact rfl; exact rfl; intro _) | ((with_reducible apply ox_buildSlice2); exact rfl; exact rfl; exact rfl; exact rfl; exact rfl; exact rfl; intro _) | ((with_reducible apply ox_buildSlice); exact rfl; exact rfl; exact rfl; exact rfl))
                | ((with_reducible apply rd_id); first | (apply Rd.own; (repeat (first | exact P0 | apply P1)); exact rfl; done) | (apply Rd.old; (first | (with_reducible assumption) | exact c0 | exact c1 | exact c2 | exact c3 | exact c4 | exact c5 | exact c6 | exact c7 | exact c8 | exact d0 | exact d1 | exact d2 | exact d3 | exact d4 | exact d5); first | exact List.not_mem_nil | exact m0 | exact m1 | exact m2 | exact m3 | exact m4 | exact m5 | exact m6 | exact m7 | exact m8 | exact m9))
                | ((with_reducible apply t_id); first | ((with_reducible apply t_seq)) | (apply t_region; kernel_rfl) | (apply t_drawn; kernel_rfl; decide +kernel; try simp only [List.append_eq, List.cons_append, List.nil_append]) | ((with_reducible apply t_condT); exact rfl) | ((with_reducible apply t_condF); exact rfl) | ((with_reducible apply t_condD); exact rfl; all_goals first | (intro hp; try (exfalso; omega)) | skip) | ((with_reducible apply t_condN); exact rfl; all_goals first | (intro hp; try (exfalso; omega)) | skip) | ((with_reducible apply t_cond); exact rfl; all_goals first | intro hp | skip) | ((with_reducible apply t_ret)) | ((with_reducible apply t_skip)) | ((with_reducible apply t_exit)) | ((with_reducible apply t_block)))
                | with_reducible apply q_thenN
                | with_reducible apply q_thenR
                | with_reducible apply q_blockR
                | with_reducible apply q_blockN
                | with_reducible apply q_thenE
                | ((with_reducible apply q_blockE); exact rfl)
                | ((with_reducible apply q_blockO); exact rfl)
                | exact P0
                | ((with_reducible apply P1))
                | exact Rdn.zero
                | apply Rdn.succ
                | ((with_reducible apply Norm.nil); exact rfl)
                | ((with_reducible apply Norm.cons); exact rfl)
                | ((with_reducible apply end_ret))
                | ((with_reducible apply end_normal))
                | exact rvs_nil
                | ((with_reducible apply rvs_cons))
                | ((with_reducible apply rv_tmp); exact rfl)
                | ((with_reducible apply rv_cell); exact rfl; exact rfl)
                | ((with_reducible apply rv_cellAgg); exact rfl; exact rfl)
                | (simp only [List.length_map, Nat.mul_one]; done)
                | exact Nat.le_of_ble_eq_true rfl
                | exact (rfl : (_ : Bool) = true)
                | omega
                | (intro _ _; with_reducible apply tl_id)
                | (intro _; with_reducible apply tl_id)
                | (intro _ _; with_reducible apply al_id)
                | (intro _; with_reducible apply al_id))
              all_goals (refine ⟨(i + 1, k, L - x, [], none), ⟨by simp only; omega, ?_, ?_, by simp only; omega, by simp only; omega, by simp only; omega, ?_, ?_⟩, by simp only; omega, ?_, ?_⟩)
              all_goals first
                | (simp only; rw [hpl, hdrop, insG_skip hB]; done)
                | (simp only; exact nd_skip hB)
                | (simp only; rw [hpl, hdrop, insG_ins hB]; simp; done)
                | (simp only; exact hnd2)
                | exact hpre
                | (simp only; omega)
                | (simp only [List.length_append, List.length_cons, List.length_nil]; omega)
                | (intro h; cases h; done)
                | ((try simp only [planS_none, planS_some, planH_none, planH_some, List.cons_append, List.nil_append]); (repeat (first | exact FrSub.nil | (apply FrSub.cons; exact rfl) | (apply FrSub.consE; exact rfl; (focus (simp; done))))); done)
                | ((try simp only [planS_none, planS_some, planH_none, planH_some, List.cons_append, List.nil_append]); (repeat (first | exact HpSub.refl _ | (apply HpSub.consE; (repeat (first | exact P0 | apply P1)); first | exact rfl | ((focus (simp [iv]; done)))) | apply HpSub.skip | exact HpSub.nil)); done)
            · have hB := hsk
              rw [← hBe] at hB
              obtain ⟨hk1, hnd2, hgx⟩ := nd_ins (by rw [← hdrop]; exact hnd) hB
              repeat' (first
                | ((with_reducible apply oq_id); first | (focus ((with_reducible apply oq_indexAddrN); exact rfl; exact rfl; exact rfl; exact rfl; omega)) | ((with_reducible apply oq_subE (k := ((k - 1 : Nat) : Int))); exact rfl; exact rfl; omega) | ((with_reducible apply oq_addE (k := ((i + 1 : Nat) : Int))); exact rfl; exact rfl; omega) | (apply oq_fn; exact rfl; first | exact trivial | (refine ⟨?_, ?_⟩ <;> omega) | (refine ⟨?_, ?_, ?_⟩ <;> omega) | omega | skip) | ((with_reducible apply oq_load); exact rfl; exact rfl) | ((with_reducible apply oq_loadAgg); exact rfl; exact rfl) | ((with_reducible apply oq_call (k := 75) (hc := Try.call75)); exact rfl; exact rfl; exact fun D w1 hw1 => HB hw1.ext.ext (Has.sub (by (repeat (first | exact HpSub.refl _ | apply HpSub.skip))) hw1)) | ((with_reducible apply oq_build); exact rfl; exact rfl; exact rfl) | ((with_reducible apply oq_buildA); exact rfl; exact rfl; exact rfl; exact rfl) | ((with_reducible apply oq_fieldAgg); exact rfl; exact rfl; exact rfl) | ((with_reducible apply oq_indexAgg); exact rfl; exact rfl; exact rfl; exact rfl))
                | ((with_reducible apply tl_id); first | ((with_reducible apply tl_nil)) | ((with_reducible apply u_q); exact rfl; exact rfl; exact rfl; exact rfl) | ((with_reducible apply u_s0); exact rfl; exact rfl) | ((with_reducible apply u_s); exact rfl; exact rfl; exact rfl) | ((with_reducible apply u_skip); exact rfl; exact rfl; exact rfl) | ((with_reducible apply u_splitD); exact rfl; exact rfl; all_goals first | (intro hp; try (exfalso; omega)) | skip) | ((with_reducible apply u_splitN); exact rfl; exact rfl; all_goals first | (intro hp; try (exfalso; omega)) | skip) | ((with_reducible apply u_split); exact rfl; exact rfl; all_goals first | intro hp | skip))
                | ((with_reducible apply gx_id); first | ((with_reducible apply v_nil)) | ((with_reducible apply v_q); exact rfl; exact rfl; exact rfl) | ((with_reducible apply v_skip); exact rfl; exact rfl; exact rfl) | ((with_reducible apply v_splitD); exact rfl; exact rfl; all_goals first | (intro hp; try (exfalso; omega)) | skip) | ((with_reducible apply v_splitN); exact rfl; exact rfl; all_goals first | (intro hp; try (exfalso; omega)) | skip) | ((with_reducible apply v_split); exact rfl; exact rfl; all_goals first | intro hp | skip))
                | ((with_reducible apply os_id); first | ((with_reducible apply os_x); exact rfl) | ((with_reducible apply os_store); exact rfl; exact rfl; exact rfl; exact rfl) | ((with_reducible apply os_storeAgg); exact rfl; exact rfl; exact rfl; exact rfl; exact rfl) | ((with_reducible apply os_append (hk := app_ok41)); exact rfl; exact rfl; (repeat (first | exact P0 | apply P1))) | ((with_reducible apply os_appendNil (hk := app_ok41)); exact rfl; exact rfl))
                | ((with_reducible apply ox_id); first | ((with_reducible apply ox_alloc); exact rfl; intro _) | ((with_reducible apply ox_box); exact rfl; exact rfl; intro _) | ((with_reducible apply ox_boxAgg); exact rfl; intro _) | ((with_reducible apply ox_buildSlice1); exact rfl; exact rfl; exact rfl; exact rfl; exact rfl; exact rfl; intro _) | ((with_reducible apply ox_buildSlice2); exact rfl; exact rfl; exact rfl; exact rfl; exact rfl; exact rfl; intro _) | ((with_reducible apply ox_buildSlice); exact rfl; exact rfl; exact rfl; exact rfl))
                | ((with_reducible apply rd_id); first | (apply Rd.own; (repeat (first | exact P0 | apply P1)); exact rfl; done) | (apply Rd.old; (first | (with_reducible assumption) | exact c0 | exact c1 | exact c2 | exact c3 | exact c4 | exact c5 | exact c6 | exact c7 | exact c8 | exact d0 | exact d1 | exact d2 | exact d3 | exact d4 | exact d5); first | exact List.not_mem_nil | exact m0 | exact m1 | exact m2 | exact m3 | exact m4 | exact m5 | exact m6 | exact m7 | exact m8 | exact m9))
                | ((with_reducible apply t_id); first | ((with_reducible apply t_seq)) | (apply t_region; kernel_rfl) | (apply t_drawn; kernel_rfl; decide +kernel; try simp only [List.append_eq, List.cons_append, List.nil_append]) | ((with_reducible apply t_condT); exact rfl) | ((with_reducible apply t_condF); exact rfl) | ((with_reducible apply t_condD); exact rfl; all_goals first | (intro hp; try (exfalso; omega)) | skip) | ((with_reducible apply t_condN); exact rfl; all_goals first | (intro hp; try (exfalso; omega)) | skip) | ((with_reducible apply t_cond); exact rfl; all_goals first | intro hp | skip) | ((with_reducible apply t_ret)) | ((with_reducible apply t_skip)) | ((with_reducible apply t_exit)) | ((with_reducible apply t_block)))
                | with_reducible apply q_thenN
                | with_reducible apply q_thenR
                | with_reducible apply q_blockR
                | with_reducible apply q_blockN
                | with_reducible apply q_thenE
                | ((with_reducible apply q_blockE); exact rfl)
                | ((with_reducible apply q_blockO); exact rfl)
                | exact P0
                | ((with_reducible apply P1))
                | exact Rdn.zero
                | apply Rdn.succ
                | ((with_reducible apply Norm.nil); exact rfl)
                | ((with_reducible apply Norm.cons); exact rfl)
                | ((with_reducible apply end_ret))
                | ((with_reducible apply end_normal))
                | exact rvs_nil
                | ((with_reducible apply rvs_cons))
                | ((with_reducible apply rv_tmp); exact rfl)
                | ((with_reducible apply rv_cell); exact rfl; exact rfl)
                | ((with_reducible apply rv_cellAgg); exact rfl; exact rfl)
                | (simp only [List.length_map, Nat.mul_one]; done)
                | exact Nat.le_of_ble_eq_true rfl
                | exact (rfl : (_ : Bool) = true)
                | omega
                | (intro _ _; with_reducible apply tl_id)
                | (intro _; with_reducible apply tl_id)
                | (intro _ _; with_reducible apply al_id)
                | (intro _; with_reducible apply al_id))
              all_goals (rename_i gN cN; refine ⟨(i + 1, k - 1, min L 0 + ev - x, [] ++ [(i : Int)], some (gN, cN)), ⟨by simp only; omega, ?_, ?_, by simp only; omega, by simp only; omega, by simp only; omega, ?_, ?_⟩, by simp only; omega, ?_, ?_⟩)
              all_goals first
                | (simp only; rw [hpl, hdrop, insG_skip hB]; done)
                | (simp only; exact nd_skip hB)
                | (simp only; rw [hpl, hdrop, insG_ins hB]; simp; done)
                | (simp only; exact hnd2)
                | exact hpre
                | (simp only; omega)
                | (simp only [List.length_append, List.length_cons, List.length_nil]; omega)
                | (intro h; cases h; done)
                | ((try simp only [planS_none, planS_some, planH_none, planH_some, List.cons_append, List.nil_append]); (repeat (first | exact FrSub.nil | (apply FrSub.cons; exact rfl) | (apply FrSub.consE; exact rfl; (focus (simp; done))))); done)
                | ((try simp only [planS_none, planS_some, planH_none, planH_some, List.cons_append, List.nil_append]); (repeat (first | exact HpSub.refl _ | (apply HpSub.consE; (repeat (first | exact P0 | apply P1)); first | exact rfl | ((focus (simp [iv]; done)))) | apply HpSub.skip | exact HpSub.nil)); done)
          · try simp only [planS_none, planS_some, planH_none, planH_some, List.cons_append, List.nil_append]
            by_cases hsk : B ≤ L
            · have hB := hsk
              rw [← hBe] at hB
              have hge : x - gr ≤ L := by unfold befV at hB; omega
              repeat' (first
                | ((with_reducible apply oq_id); first | (focus ((with_reducible apply oq_indexAddrN); exact rfl; exact rfl; exact rfl; exact rfl; omega)) | ((with_reducible apply oq_subE (k := ((k - 1 : Nat) : Int))); exact rfl; exact rfl; omega) | ((with_reducible apply oq_addE (k := ((i + 1 : Nat) : Int))); exact rfl; exact rfl; omega) | (apply oq_fn; exact rfl; first | exact trivial | (refine ⟨?_, ?_⟩ <;> omega) | (refine ⟨?_, ?_, ?_⟩ <;> omega) | omega | skip) | ((with_reducible apply oq_load); exact rfl; exact rfl) | ((with_reducible apply oq_loadAgg); exact rfl; exact rfl) | ((with_reducible apply oq_call (k := 75) (hc := Try.call75)); exact rfl; exact rfl; exact fun D w1 hw1 => HB hw1.ext.ext (Has.sub (by (repeat (first | exact HpSub.refl _ | apply HpSub.skip))) hw1)) | ((with_reducible apply oq_build); exact rfl; exact rfl; exact rfl) | ((with_reducible apply oq_buildA); exact rfl; exact rfl; exact rfl; exact rfl) | ((with_reducible apply oq_fieldAgg); exact rfl; exact rfl; exact rfl) | ((with_reducible apply oq_indexAgg); exact rfl; exact rfl; exact rfl; exact rfl))
                | ((with_reducible apply tl_id); first | ((with_reducible apply tl_nil)) | ((with_reducible apply u_q); exact rfl; exact rfl; exact rfl; exact rfl) | ((with_reducible apply u_s0); exact rfl; exact rfl) | ((with_reducible apply u_s); exact rfl; exact rfl; exact rfl) | ((with_reducible apply u_skip); exact rfl; exact rfl; exact rfl) | ((with_reducible apply u_splitD); exact rfl; exact rfl; all_goals first | (intro hp; try (exfalso; omega)) | skip) | ((with_reducible apply u_splitN); exact rfl; exact rfl; all_goals first | (intro hp; try (exfalso; omega)) | skip) | ((with_reducible apply u_split); exact rfl; exact rfl; all_goals first | intro hp | skip))
                | ((with_reducible apply gx_id); first | ((with_reducible apply v_nil)) | ((with_reducible apply v_q); exact rfl; exact rfl; exact rfl) | ((with_reducible apply v_skip); exact rfl; exact rfl; exact rfl) | ((with_reducible apply v_splitD); exact rfl; exact rfl; all_goals first | (intro hp; try (exfalso; omega)) | skip) | ((with_reducible apply v_splitN); exact rfl; exact rfl; all_goals first | (intro hp; try (exfalso; omega)) | skip) | ((with_reducible apply v_split); exact rfl; exact rfl; all_goals first | intro hp | skip))
                | ((with_reducible apply os_id); first | ((with_reducible apply os_x); exact rfl) | ((with_reducible apply os_store); exact rfl; exact rfl; exact rfl; exact rfl) | ((with_reducible apply os_storeAgg); exact rfl; exact rfl; exact rfl; exact rfl; exact rfl) | ((with_reducible apply os_append (hk := app_ok41)); exact rfl; exact rfl; (repeat (first | exact P0 | apply P1))) | ((with_reducible apply os_appendNil (hk := app_ok41)); exact rfl; exact rfl))
                | ((with_reducible apply ox_id); first | ((with_reducible apply ox_alloc); exact rfl; intro _) | ((with_reducible apply ox_box); exact rfl; exact rfl; intro _) | ((with_reducible apply ox_boxAgg); exact rfl; intro _) | ((with_reducible apply ox_buildSlice1); exact rfl; exact rfl; exact rfl; exact rfl; exact rfl; exact rfl; intro _) | ((with_reducible apply ox_buildSlice2); exact rfl; exact rfl; exact rfl; exact rfl; exact rfl; exact rfl; intro _) | ((with_reducible apply ox_buildSlice); exact rfl; exact rfl; exact rfl; exact rfl))
                | ((with_reducible apply rd_id); first | (apply Rd.own; (repeat (first | exact P0 | apply P1)); exact rfl; done) | (apply Rd.old; (first | (with_reducible assumption) | exact c0 | exact c1 | exact c2 | exact c3 | exact c4 | exact c5 | exact c6 | exact c7 | exact c8 | exact d0 | exact d1 | exact d2 | exact d3 | exact d4 | exact d5); first | exact List.not_mem_nil | exact m0 | exact m1 | exact m2 | exact m3 | exact m4 | exact m5 | exact m6 | exact m7 | exact m8 | exact m9))
                | ((with_reducible apply t_id); first | ((with_reducible apply t_seq)) | (apply t_region; kernel_rfl) | (apply t_drawn; kernel_rfl; decide +kernel; try simp only [List.append_eq, List.cons_append, List.nil_append]) | ((with_reducible apply t_condT); exact rfl) | ((with_reducible apply t_condF); exact rfl) | ((with_reducible apply t_condD); exact rfl; all_goals first | (intro hp; try (exfalso; omega)) | skip) | ((with_reducible apply t_condN); exact rfl; all_goals first | (intro hp; try (exfalso; omega)) | skip) | ((with_reducible apply t_cond); exact rfl; all_goals first | intro hp | skip) | ((with_reducible apply t_ret)) | ((with_reducible apply t_skip)) | ((with_reducible apply t_exit)) | ((with_reducible apply t_block)))
                | with_reducible apply q_thenN
                | with_reducible apply q_thenR
                | with_reducible apply q_blockR
                | with_reducible apply q_blockN
                | with_reducible apply q_thenE
                | ((with_reducible apply q_blockE); exact rfl)
                | ((with_reducible apply q_blockO); exact rfl)
                | exact P0
                | ((with_reducible apply P1))
                | exact Rdn.zero
                | apply Rdn.succ
                | ((with_reducible apply Norm.nil); exact rfl)
                | ((with_reducible apply Norm.cons); exact rfl)
                | ((with_reducible apply end_ret))
                | ((with_reducible apply end_normal))
                | exact rvs_nil
                | ((with_reducible apply rvs_cons))
                | ((with_reducible apply rv_tmp); exact rfl)
                | ((with_reducible apply rv_cell); exact rfl; exact rfl)
                | ((with_reducible apply rv_cellAgg); exact rfl; exact rfl)
                | (simp only [List.length_map, Nat.mul_one]; done)
                | exact Nat.le_of_ble_eq_true rfl
                | exact (rfl : (_ : Bool) = true)
                | omega
                | (intro _ _; with_reducible apply tl_id)
                | (intro _; with_reducible apply tl_id)
                | (intro _ _; with_reducible apply al_id)
                | (intro _; with_reducible apply al_id))
              all_goals (refine ⟨(i + 1, k, L - x, pre, some (go, co)), ⟨by simp only; omega, ?_, ?_, by simp only; omega, by simp only; omega, by simp only; omega, ?_, ?_⟩, by simp only; omega, ?_, ?_⟩)
              all_goals first
                | (simp only; rw [hpl, hdrop, insG_skip hB]; done)
                | (simp only; exact nd_skip hB)
                | (simp only; rw [hpl, hdrop, insG_ins hB]; simp; done)
                | (simp only; exact hnd2)
                | exact hpre
                | (simp only; omega)
                | (simp only [List.length_append, List.length_cons, List.length_nil]; omega)
                | (intro h; cases h; done)
                | ((try simp only [planS_none, planS_some, planH_none, planH_some, List.cons_append, List.nil_append]); (repeat (first | exact FrSub.nil | (apply FrSub.cons; exact rfl) | (apply FrSub.consE; exact rfl; (focus (simp; done))))); done)
                | ((try simp only [planS_none, planS_some, planH_none, planH_some, List.cons_append, List.nil_append]); (repeat (first | exact HpSub.refl _ | (apply HpSub.consE; (repeat (first | exact P0 | apply P1)); first | exact rfl | ((focus (simp [iv]; done)))) | apply HpSub.skip | exact HpSub.nil)); done)
            · have hB := hsk
              rw [← hBe] at hB
              obtain ⟨hk1, hnd2, hgx⟩ := nd_ins (by rw [← hdrop]; exact hnd) hB
              repeat' (first
                | ((with_reducible apply oq_id); first | (focus ((with_reducible apply oq_indexAddrN); exact rfl; exact rfl; exact rfl; exact rfl; omega)) | ((with_reducible apply oq_subE (k := ((k - 1 : Nat) : Int))); exact rfl; exact rfl; omega) | ((with_reducible apply oq_addE (k := ((i + 1 : Nat) : Int))); exact rfl; exact rfl; omega) | (apply oq_fn; exact rfl; first | exact trivial | (refine ⟨?_, ?_⟩ <;> omega) | (refine ⟨?_, ?_, ?_⟩ <;> omega) | omega | skip) | ((with_reducible apply oq_load); exact rfl; exact rfl) | ((with_reducible apply oq_loadAgg); exact rfl; exact rfl) | ((with_reducible apply oq_call (k := 75) (hc := Try.call75)); exact rfl; exact rfl; exact fun D w1 hw1 => HB hw1.ext.ext (Has.sub (by (repeat (first | exact HpSub.refl _ | apply HpSub.skip))) hw1)) | ((with_reducible apply oq_build); exact rfl; exact rfl; exact rfl) | ((with_reducible apply oq_buildA); exact rfl; exact rfl; exact rfl; exact rfl) | ((with_reducible apply oq_fieldAgg); exact rfl; exact rfl; exact rfl) | ((with_reducible apply oq_indexAgg); exact rfl; exact rfl; exact rfl; exact rfl))
                | ((with_reducible apply tl_id); first | ((with_reducible apply tl_nil)) | ((with_reducible apply u_q); exact rfl; exact rfl; exact rfl; exact rfl) | ((with_reducible apply u_s0); exact rfl; exact rfl) | ((with_reducible apply u_s); exact rfl; exact rfl; exact rfl) | ((with_reducible apply u_skip); exact rfl; exact rfl; exact rfl) | ((with_reducible apply u_splitD); exact rfl; exact rfl; all_goals first | (intro hp; try (exfalso; omega)) | skip) | ((with_reducible apply u_splitN); exact rfl; exact rfl; all_goals first | (intro hp; try (exfalso; omega)) | skip) | ((with_reducible apply u_split); exact rfl; exact rfl; all_goals first | intro hp | skip))
                | ((with_reducible apply gx_id); first | ((with_reducible apply v_nil)) | ((with_reducible apply v_q); exact rfl; exact rfl; exact rfl) | ((with_reducible apply v_skip); exact rfl; exact rfl; exact rfl) | ((with_reducible apply v_splitD); exact rfl; exact rfl; all_goals first | (intro hp; try (exfalso; omega)) | skip) | ((with_reducible apply v_splitN); exact rfl; exact rfl; all_goals first | (intro hp; try (exfalso; omega)) | skip) | ((with_reducible apply v_split); exact rfl; exact rfl; all_goals first | intro hp | skip))
                | ((with_reducible apply os_id); first | ((with_reducible apply os_x); exact rfl) | ((with_reducible apply os_store); exact rfl; exact rfl; exact rfl; exact rfl) | ((with_reducible apply os_storeAgg); exact rfl; exact rfl; exact rfl; exact rfl; exact rfl) | ((with_reducible apply os_append (hk := app_ok41)); exact rfl; exact rfl; (repeat (first | exact P0 | apply P1))) | ((with_reducible apply os_appendNil (hk := app_ok41)); exact rfl; exact rfl))
                | ((with_reducible apply ox_id); first | ((with_reducible apply ox_alloc); exact rfl; intro _) | ((with_reducible apply ox_box); exact rfl; exact rfl; intro _) | ((with_reducible apply ox_boxAgg); exact rfl; intro _) | ((with_reducible apply ox_buildSlice1); exact rfl; exact rfl; exact rfl; exact rfl; exact rfl; exact rfl; intro _) | ((with_reducible apply ox_buildSlice2); exact rfl; exact rfl; exact rfl; exact rfl; exact rfl; exact rfl; intro _) | ((with_reducible apply ox_buildSlice); exact rfl; exact rfl; exact rfl; exact rfl))
                | ((with_reducible apply rd_id); first | (apply Rd.own; (repeat (first | exact P0 | apply P1)); exact rfl; done) | (apply Rd.old; (first | (with_reducible assumption) | exact c0 | exact c1 | exact c2 | exact c3 | exact c4 | exact c5 | exact c6 | exact c7 | exact c8 | exact d0 | exact d1 | exact d2 | exact d3 | exact d4 | exact d5); first | exact List.not_mem_nil | exact m0 | exact m1 | exact m2 | exact m3 | exact m4 | exact m5 | exact m6 | exact m7 | exact m8 | exact m9))
                | ((with_reducible apply t_id); first | ((with_reducible apply t_seq)) | (apply t_region; kernel_rfl) | (apply t_drawn; kernel_rfl; decide +kernel; try simp only [List.append_eq, List.cons_append, List.nil_append]) | ((with_reducible apply t_condT); exact rfl) | ((with_reducible apply t_condF); exact rfl) | ((with_reducible apply t_condD); exact rfl; all_goals first | (intro hp; try (exfalso; omega)) | skip) | ((with_reducible apply t_condN); exact rfl; all_goals first | (intro hp; try (exfalso; omega)) | skip) | ((with_reducible apply t_cond); exact rfl; all_goals first | intro hp | skip) | ((with_reducible apply t_ret)) | ((with_reducible apply t_skip)) | ((with_reducible apply t_exit)) | ((with_reducible apply t_block)))
                | with_reducible apply q_thenN
                | with_reducible apply q_thenR
                | with_reducible apply q_blockR
                | with_reducible apply q_blockN
                | with_reducible apply q_thenE
                | ((with_reducible apply q_blockE); exact rfl)
                | ((with_reducible apply q_blockO); exact rfl)
                | exact P0
                | ((with_reducible apply P1))
                | exact Rdn.zero
                | apply Rdn.succ
                | ((with_reducible apply Norm.nil); exact rfl)
                | ((with_reducible apply Norm.cons); exact rfl)
                | ((with_reducible apply end_ret))
                | ((with_reducible apply end_normal))
                | exact rvs_nil
                | ((with_reducible apply rvs_cons))
                | ((with_reducible apply rv_tmp); exact rfl)
                | ((with_reducible apply rv_cell); exact rfl; exact rfl)
                | ((with_reducible apply rv_cellAgg); exact rfl; exact rfl)
                | (simp only [List.length_map, Nat.mul_one]; done)
                | exact Nat.le_of_ble_eq_true rfl
                | exact (rfl : (_ : Bool) = true)
                | omega
                | (intro _ _; with_reducible apply tl_id)
                | (intro _; with_reducible apply tl_id)
                | (intro _ _; with_reducible apply al_id)
                | (intro _; with_reducible apply al_id))
              all_goals (rename_i gN cN; refine ⟨(i + 1, k - 1, min L 0 + ev - x, pre ++ [(i : Int)], some (gN, cN)), ⟨by simp only; omega, ?_, ?_, by simp only; omega, by simp only; omega, by simp only; omega, ?_, ?_⟩, by simp only; omega, ?_, ?_⟩)
              all_goals first
                | (simp only; rw [hpl, hdrop, insG_skip hB]; done)
                | (simp only; exact nd_skip hB)
                | (simp only; rw [hpl, hdrop, insG_ins hB]; simp; done)
                | (simp only; exact hnd2)
                | exact hpre
                | (simp only; omega)
                | (simp only [List.length_append, List.length_cons, List.length_nil]; omega)
                | (intro h; cases h; done)
                | ((try simp only [planS_none, planS_some, planH_none, planH_some, List.cons_append, List.nil_append]); (repeat (first | exact FrSub.nil | (apply FrSub.cons; exact rfl) | (apply FrSub.consE; exact rfl; (focus (simp; done))))); done)
                | ((try simp only [planS_none, planS_some, planH_none, planH_some, List.cons_append, List.nil_append]); (repeat (first | exact HpSub.refl _ | (apply HpSub.consE; (repeat (first | exact P0 | apply P1)); first | exact rfl | ((focus (simp [iv]; done)))) | apply HpSub.skip | exact HpSub.nil)); done)
        · obtain rfl : n = i := by omega
          have hfin : insV ev gr du fs = pre := by rw [hpl, List.drop_of_length_le (by omega)]; simp [insG]
          rw [hE, hfin]
          rcases o with _ | ⟨go, co⟩
          · obtain rfl := hpre rfl
            try simp only [planS_none, planS_some, planH_none, planH_some, List.cons_append, List.nil_append]
            repeat' (first
              | ((with_reducible apply oq_id); first | (apply oq_fn; exact rfl; first | exact trivial | (refine ⟨?_, ?_⟩ <;> omega) | (refine ⟨?_, ?_, ?_⟩ <;> omega) | omega | skip) | ((with_reducible apply oq_load); exact rfl; exact rfl) | ((with_reducible apply oq_loadAgg); exact rfl; exact rfl) | ((with_reducible apply oq_build); exact rfl; exact rfl; exact rfl) | ((with_reducible apply oq_buildA); exact rfl; exact rfl; exact rfl; exact rfl) | ((with_reducible apply oq_fieldAgg); exact rfl; exact rfl; exact rfl) | ((with_reducible apply oq_indexAgg); exact rfl; exact rfl; exact rfl; exact rfl))
              | ((with_reducible apply tl_id); first | ((with_reducible apply tl_nil)) | ((with_reducible apply u_q); exact rfl; exact rfl; exact rfl; exact rfl) | ((with_reducible apply u_s0); exact rfl; exact rfl) | ((with_reducible apply u_s); exact rfl; exact rfl; exact rfl) | ((with_reducible apply u_skip); exact rfl; exact rfl; exact rfl) | ((with_reducible apply u_splitD); exact rfl; exact rfl; all_goals first | (intro hp; try (exfalso; omega)) | skip) | ((with_reducible apply u_splitN); exact rfl; exact rfl; all_goals first | (intro hp; try (exfalso; omega)) | skip) | ((with_reducible apply u_split); exact rfl; exact rfl; all_goals first | intro hp | skip))
              | ((with_reducible apply gx_id); first | ((with_reducible apply v_nil)) | ((with_reducible apply v_q); exact rfl; exact rfl; exact rfl) | ((with_reducible apply v_skip); exact rfl; exact rfl; exact rfl) | ((with_reducible apply v_splitD); exact rfl; exact rfl; all_goals first | (intro hp; try (exfalso; omega)) | skip) | ((with_reducible apply v_splitN); exact rfl; exact rfl; all_goals first | (intro hp; try (exfalso; omega)) | skip) | ((with_reducible apply v_split); exact rfl; exact rfl; all_goals first | intro hp | skip))
              | ((with_reducible apply os_id); first | ((with_reducible apply os_x); exact rfl) | ((with_reducible apply os_store); exact rfl; exact rfl; exact rfl; exact rfl) | ((with_reducible apply os_storeAgg); exact rfl; exact rfl; exact rfl; exact rfl; exact rfl) | ((with_reducible apply os_append (hk := app_ok41)); exact rfl; exact rfl; (repeat (first | exact P0 | apply P1))) | ((with_reducible apply os_appendNil (hk := app_ok41)); exact rfl; exact rfl))
              | ((with_reducible apply ox_id); first | ((with_reducible apply ox_alloc); exact rfl; intro _) | ((with_reducible apply ox_box); exact rfl; exact rfl; intro _) | ((with_reducible apply ox_boxAgg); exact rfl; intro _) | ((with_reducible apply ox_buildSlice1); exact rfl; exact rfl; exact rfl; exact rfl; exact rfl; exact rfl; intro _) | ((with_reducible apply ox_buildSlice2); exact rfl; exact rfl; exact rfl; exact rfl; exact rfl; exact rfl; intro _) | ((with_reducible apply ox_buildSlice); exact rfl; exact rfl; exact rfl; exact rfl))
              | ((with_reducible apply rd_id); first | (apply Rd.own; (repeat (first | exact P0 | apply P1)); exact rfl; done) | (apply Rd.old; (first | (with_reducible assumption) | exact c0 | exact c1 | exact c2 | exact c3 | exact c4 | exact c5 | exact c6 | exact c7 | exact c8 | exact d0 | exact d1 | exact d2 | exact d3 | exact d4 | exact d5); first | exact List.not_mem_nil | exact m0 | exact m1 | exact m2 | exact m3 | exact m4 | exact m5 | exact m6 | exact m7 | exact m8 | exact m9))
              | ((with_reducible apply t_id); first | ((with_reducible apply t_seq)) | (apply t_region; kernel_rfl) | (apply t_drawn; kernel_rfl; decide +kernel; try simp only [List.append_eq, List.cons_append, List.nil_append]) | ((with_reducible apply t_condT); exact rfl) | ((with_reducible apply t_condF); exact rfl) | ((with_reducible apply t_condD); exact rfl; all_goals first | (intro hp; try (exfalso; omega)) | skip) | ((with_reducible apply t_condN); exact rfl; all_goals first | (intro hp; try (exfalso; omega)) | skip) | ((with_reducible apply t_cond); exact rfl; all_goals first | intro hp | skip) | ((with_reducible apply t_ret)) | ((with_reducible apply t_skip)) | ((with_reducible apply t_exit)) | ((with_reducible apply t_block)))
              | with_reducible apply q_thenN
              | with_reducible apply q_thenR
              | with_reducible apply q_blockR
              | with_reducible apply q_blockN
              | with_reducible apply q_thenE
              | ((with_reducible apply q_blockE); exact rfl)
              | ((with_reducible apply q_blockO); exact rfl)
              | exact P0
              | ((with_reducible apply P1))
              | exact Rdn.zero
              | apply Rdn.succ
              | ((with_reducible apply Norm.nil); exact rfl)
              | ((with_reducible apply Norm.cons); exact rfl)
              | ((with_reducible apply end_ret))
              | ((with_reducible apply end_normal))
              | exact rvs_nil
              | ((with_reducible apply rvs_cons))
              | ((with_reducible apply rv_tmp); exact rfl)
              | ((with_reducible apply rv_cell); exact rfl; exact rfl)
              | ((with_reducible apply rv_cellAgg); exact rfl; exact rfl)
              | exact Nat.le_of_ble_eq_true rfl
              | exact (rfl : (_ : Bool) = true)
              | omega
              | (intro _ _; with_reducible apply tl_id)
              | (intro _; with_reducible apply tl_id)
              | (intro _ _; with_reducible apply al_id)
              | (intro _; with_reducible apply al_id))
            all_goals exact ⟨_, .inr ⟨rfl, none, fun _ => rfl, rfl, rfl⟩, HpSub.nil⟩
          · try simp only [planS_none, planS_some, planH_none, planH_some, List.cons_append, List.nil_append]
            repeat' (first
              | ((with_reducible apply oq_id); first | (apply oq_fn; exact rfl; first | exact trivial | (refine ⟨?_, ?_⟩ <;> omega) | (refine ⟨?_, ?_, ?_⟩ <;> omega) | omega | skip) | ((with_reducible apply oq_load); exact rfl; exact rfl) | ((with_reducible apply oq_loadAgg); exact rfl; exact rfl) | ((with_reducible apply oq_build); exact rfl; exact rfl; exact rfl) | ((with_reducible apply oq_buildA); exact rfl; exact rfl; exact rfl; exact rfl) | ((with_reducible apply oq_fieldAgg); exact rfl; exact rfl; exact rfl) | ((with_reducible apply oq_indexAgg); exact rfl; exact rfl; exact rfl; exact rfl))
              | ((with_reducible apply tl_id); first | ((with_reducible apply tl_nil)) | ((with_reducible apply u_q); exact rfl; exact rfl; exact rfl; exact rfl) | ((with_reducible apply u_s0); exact rfl; exact rfl) | ((with_reducible apply u_s); exact rfl; exact rfl; exact rfl) | ((with_reducible apply u_skip); exact rfl; exact rfl; exact rfl) | ((with_reducible apply u_splitD); exact rfl; exact rfl; all_goals first | (intro hp; try (exfalso; omega)) | skip) | ((with_reducible apply u_splitN); exact rfl; exact rfl; all_goals first | (intro hp; try (exfalso; omega)) | skip) | ((with_reducible apply u_split); exact rfl; exact rfl; all_goals first | intro hp | skip))
              | ((with_reducible apply gx_id); first | ((with_reducible apply v_nil)) | ((with_reducible apply v_q); exact rfl; exact rfl; exact rfl) | ((with_reducible apply v_skip); exact rfl; exact rfl; exact rfl) | ((with_reducible apply v_splitD); exact rfl; exact rfl; all_goals first | (intro hp; try (exfalso; omega)) | skip) | ((with_reducible apply v_splitN); exact rfl; exact rfl; all_goals first | (intro hp; try (exfalso; omega)) | skip) | ((with_reducible apply v_split); exact rfl; exact rfl; all_goals first | intro hp | skip))
              | ((with_reducible apply os_id); first | ((with_reducible apply os_x); exact rfl) | ((with_reducible apply os_store); exact rfl; exact rfl; exact rfl; exact rfl) | ((with_reducible apply os_storeAgg); exact rfl; exact rfl; exact rfl; exact rfl; exact rfl) | ((with_reducible apply os_append (hk := app_ok41)); exact rfl; exact rfl; (repeat (first | exact P0 | apply P1))) | ((with_reducible apply os_appendNil (hk := app_ok41)); exact rfl; exact rfl))
              | ((with_reducible apply ox_id); first | ((with_reducible apply ox_alloc); exact rfl; intro _) | ((with_reducible apply ox_box); exact rfl; exact rfl; intro _) | ((with_reducible apply ox_boxAgg); exact rfl; intro _) | ((with_reducible apply ox_buildSlice1); exact rfl; exact rfl; exact rfl; exact rfl; exact rfl; exact rfl; intro _) | ((with_reducible apply ox_buildSlice2); exact rfl; exact rfl; exact rfl; exact rfl; exact rfl; exact rfl; intro _) | ((with_reducible apply ox_buildSlice); exact rfl; exact rfl; exact rfl; exact rfl))
              | ((with_reducible apply rd_id); first | (apply Rd.own; (repeat (first | exact P0 | apply P1)); exact rfl; done) | (apply Rd.old; (first | (with_reducible assumption) | exact c0 | exact c1 | exact c2 | exact c3 | exact c4 | exact c5 | exact c6 | exact c7 | exact c8 | exact d0 | exact d1 | exact d2 | exact d3 | exact d4 | exact d5); first | exact List.not_mem_nil | exact m0 | exact m1 | exact m2 | exact m3 | exact m4 | exact m5 | exact m6 | exact m7 | exact m8 | exact m9))
              | ((with_reducible apply t_id); first | ((with_reducible apply t_seq)) | (apply t_region; kernel_rfl) | (apply t_drawn; kernel_rfl; decide +kernel; try simp only [List.append_eq, List.cons_append, List.nil_append]) | ((with_reducible apply t_condT); exact rfl) | ((with_reducible apply t_condF); exact rfl) | ((with_reducible apply t_condD); exact rfl; all_goals first | (intro hp; try (exfalso; omega)) | skip) | ((with_reducible apply t_condN); exact rfl; all_goals first | (intro hp; try (exfalso; omega)) | skip) | ((with_reducible apply t_cond); exact rfl; all_goals first | intro hp | skip) | ((with_reducible apply t_ret)) | ((with_reducible apply t_skip)) | ((with_reducible apply t_exit)) | ((with_reducible apply t_block)))
              | with_reducible apply q_thenN
              | with_reducible apply q_thenR
              | with_reducible apply q_blockR
              | with_reducible apply q_blockN
              | with_reducible apply q_thenE
              | ((with_reducible apply q_blockE); exact rfl)
              | ((with_reducible apply q_blockO); exact rfl)
              | exact P0
              | ((with_reducible apply P1))
              | exact Rdn.zero
              | apply Rdn.succ
              | ((with_reducible apply Norm.nil); exact rfl)
              | ((with_reducible apply Norm.cons); exact rfl)
              | ((with_reducible apply end_ret))
              | ((with_reducible apply end_normal))
              | exact rvs_nil
              | ((with_reducible apply rvs_cons))
              | ((with_reducible apply rv_tmp); exact rfl)
              | ((with_reducible apply rv_cell); exact rfl; exact rfl)
              | ((with_reducible apply rv_cellAgg); exact rfl; exact rfl)
              | exact Nat.le_of_ble_eq_true rfl
              | exact (rfl : (_ : Bool) = true)
              | omega
              | (intro _ _; with_reducible apply tl_id)
              | (intro _; with_reducible apply tl_id)
              | (intro _ _; with_reducible apply al_id)
              | (intro _; with_reducible apply al_id))
            all_goals exact ⟨_, .inr ⟨rfl, some (go, co), (fun h => by cases h), rfl, rfl⟩, by (repeat (first | exact HpSub.refl _ | (apply HpSub.consE; (repeat (first | exact P0 | apply P1)); exact rfl) | apply HpSub.skip | exact HpSub.nil))⟩
  · have hE : insE ev gr du fs = caredE ev gr du fs := by unfold insE; rw [if_neg hce]
    rw [hE]
    obtain ⟨E, hEE⟩ : ∃ E, caredE ev gr du fs = E := ⟨_, rfl⟩
    rw [hEE] at HC hce ⊢
    refine enterF (c := cx w 144) Try.func28 rfl rfl rfl rfl ?_
    repeat' (first
      | ((with_reducible apply oq_id); first | (apply oq_fn; exact rfl; first | exact trivial | (refine ⟨?_, ?_⟩ <;> omega) | (refine ⟨?_, ?_, ?_⟩ <;> omega) | omega | skip) | ((with_reducible apply oq_load); exact rfl; exact rfl) | ((with_reducible apply oq_loadAgg); exact rfl; exact rfl) | ((with_reducible apply oq_call (k := 71) (hc := Try.call71)); exact rfl; exact rfl; exact fun D w1 hw1 => HC w1 hw1.ext.ext) | ((with_reducible apply oq_build); exact rfl; exact rfl; exact rfl) | ((with_reducible apply oq_buildA); exact rfl; exact rfl; exact rfl; exact rfl) | ((with_reducible apply oq_fieldAgg); exact rfl; exact rfl; exact rfl) | ((with_reducible apply oq_indexAgg); exact rfl; exact rfl; exact rfl; exact rfl))
      | ((with_reducible apply tl_id); first | ((with_reducible apply tl_nil)) | ((with_reducible apply u_q); exact rfl; exact rfl; exact rfl; exact rfl) | ((with_reducible apply u_s0); exact rfl; exact rfl) | ((with_reducible apply u_s); exact rfl; exact rfl; exact rfl) | ((with_reducible apply u_skip); exact rfl; exact rfl; exact rfl) | ((with_reducible apply u_splitD); exact rfl; exact rfl; all_goals first | (intro hp; try (exfalso; omega)) | skip) | ((with_reducible apply u_splitN); exact rfl; exact rfl; all_goals first | (intro hp; try (exfalso; omega)) | skip) | ((with_reducible apply u_split); exact rfl; exact rfl; all_goals first | intro hp | skip))
      | ((with_reducible apply gx_id); first | ((with_reducible apply v_nil)) | ((with_reducible apply v_q); exact rfl; exact rfl; exact rfl) | ((with_reducible apply v_skip); exact rfl; exact rfl; exact rfl) | ((with_reducible apply v_splitD); exact rfl; exact rfl; all_goals first | (intro hp; try (exfalso; omega)) | skip) | ((with_reducible apply v_splitN); exact rfl; exact rfl; all_goals first | (intro hp; try (exfalso; omega)) | skip) | ((with_reducible apply v_split); exact rfl; exact rfl; all_goals first | intro hp | skip))
      | ((with_reducible apply os_id); first | ((with_reducible apply os_x); exact rfl) | ((with_reducible apply os_store); exact rfl; exact rfl; exact rfl; exact rfl) | ((with_reducible apply os_storeAgg); exact rfl; exact rfl; exact rfl; exact rfl; exact rfl) | ((with_reducible apply os_append (hk := app_ok41)); exact rfl; exact rfl; (repeat (first | exact P0 | apply P1))) | ((with_reducible apply os_appendNil (hk := app_ok41)); exact rfl; exact rfl))
      | ((with_reducible apply ox_id); first | ((with_reducible apply ox_alloc); exact rfl; intro _) | ((with_reducible apply ox_box); exact rfl; exact rfl; intro _) | ((with_reducible apply ox_boxAgg); exact rfl; intro _) | ((with_reducible apply ox_buildSlice1); exact rfl; exact rfl; exact rfl; exact rfl; exact rfl; exact rfl; intro _) | ((with_reducible apply ox_buildSlice2); exact rfl; exact rfl; exact rfl; exact rfl; exact rfl; exact rfl; intro _) | ((with_reducible apply ox_buildSlice); exact rfl; exact rfl; exact rfl; exact rfl))
      | ((with_reducible apply rd_id); first | (apply Rd.own; (repeat (first | exact P0 | apply P1)); exact rfl; done) | (apply Rd.old; (first | (with_reducible assumption) | exact c0 | exact c1 | exact c2 | exact c3 | exact c4 | exact c5 | exact c6 | exact c7 | exact c8 | exact d0 | exact d1 | exact d2 | exact d3 | exact d4 | exact d5); first | exact List.not_mem_nil | exact m0 | exact m1 | exact m2 | exact m3 | exact m4 | exact m5 | exact m6 | exact m7 | exact m8 | exact m9))
      | ((with_reducible apply t_id); first | ((with_reducible apply t_seq)) | (apply t_region; kernel_rfl) | (apply t_drawn; kernel_rfl; decide +kernel; try simp only [List.append_eq, List.cons_append, List.nil_append]) | ((with_reducible apply t_condT); exact rfl) | ((with_reducible apply t_condF); exact rfl) | ((with_reducible apply t_condD); exact rfl; all_goals first | (intro hp; try (exfalso; omega)) | skip) | ((with_reducible apply t_condN); exact rfl; all_goals first | (intro hp; try (exfalso; omega)) | skip) | ((with_reducible apply t_cond); exact rfl; all_goals first | intro hp | skip) | ((with_reducible apply t_ret)) | ((with_reducible apply t_skip)) | ((with_reducible apply t_exit)) | ((with_reducible apply t_block)))
      | with_reducible apply q_thenN
      | with_reducible apply q_thenR
      | with_reducible apply q_blockR
      | with_reducible apply q_blockN
      | with_reducible apply q_thenE
      | ((with_reducible apply q_blockE); exact rfl)
      | ((with_reducible apply q_blockO); exact rfl)
      | exact P0
      | ((with_reducible apply P1))
      | exact Rdn.zero
      | apply Rdn.succ
      | ((with_reducible apply Norm.nil); exact rfl)
      | ((with_reducible apply Norm.cons); exact rfl)
      | ((with_reducible apply end_ret))
      | ((with_reducible apply end_normal))
      | exact rvs_nil
      | ((with_reducible apply rvs_cons))
      | ((with_reducible apply rv_tmp); exact rfl)
      | ((with_reducible apply rv_cell); exact rfl; exact rfl)
      | ((with_reducible apply rv_cellAgg); exact rfl; exact rfl)
      | exact Nat.le_of_ble_eq_true rfl
      | exact (rfl : (_ : Bool) = true)
      | omega
      | (intro _ _; with_reducible apply tl_id)
      | (intro _; with_reducible apply tl_id)
      | (intro _ _; with_reducible apply al_id)
      | (intro _; with_reducible apply al_id))
    all_goals exact ⟨_, .inl ⟨hce, rfl, rfl⟩, HpSub.nil⟩

end Go.Proofs.Ytmlmgipngbndgaa
