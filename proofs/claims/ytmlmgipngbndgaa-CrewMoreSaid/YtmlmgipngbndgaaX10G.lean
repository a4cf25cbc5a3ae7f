/- A part of the proof: rules for walks, and contracts of functions (7). -/
import Derived.Test.YtmlmgipngbndgaaX10F
import Derived.Test.YtmlmgipngbndgaaX10B
import Derived.ProofKit
import Derived.Lib.SmallJoins
import Derived.Test.YtmlmgipngbndgaaX10D
import Derived.Test.YtmlmgipngbndgaaX10C
import Derived.Recover
namespace Go.Proofs.Ytmlmgipngbndgaa
open Go.RowKit
attribute [local irreducible] OQ OS OX Rd T TL GX GL AL AI RV wpG SAny Calls
set_option maxRecDepth 100000
set_option maxHeartbeats 2000000
set_option linter.unusedVariables false
set_option linter.unusedSimpArgs false
theorem info41 : (Try.prog.info? 41).map (fun i => i.zero) = some (some (.slice none 0 0)) := by kernel_rfl
theorem os_makeS {w : World} {N n : Nat} {F : Fr} {H : Hp} {M : List Nat} {K : Value → Hp → Prop} {d : Option Tmp} {ty : TypeId} {pos : String} {af : Array Edge} {gd : Option (Nat × Bool)} {x y : Operand}
    (hx : ev F x = some (.int .i64 ((n + 1 : Nat) : Int))) (hy : ev F y = some (.int .i64 ((n + 1 : Nat) : Int))) (hn : n ≤ 1000) (k : ∀ b, K (.slice (some ⟨b, 0, none⟩) (n + 1) (n + 1)) ((b, List.replicate n (Value.slice none 0 0) ++ Value.slice none 0 0 :: [], some (41, 1, n + 1)) :: H)) : OS (cxM M w N) ⟨d, .makeSlice 90 x y, ty, pos, af, gd⟩ F H K := by
  refine .ofX (ox_make (zs := [.slice none 0 0]) app_ok90 info41 rfl rfl hx hy (by omega) (by unfold maxLen; omega) fun b => ?_)
  have e : (List.replicate (n + 1) [Value.slice none 0 0]).flatten = List.replicate n (Value.slice none 0 0) ++ Value.slice none 0 0 :: [] := by
    rw [show (List.replicate n (Value.slice none 0 0) ++ Value.slice none 0 0 :: []) = List.replicate (n + 1) (Value.slice none 0 0) from List.replicate_succ'.symm]
    simp
  rw [e]
  exact k b
theorem row0_eq {ev gr : Int} {fs : List Int} {n : Nat} (hl : fs.length = n) : ((List.replicate (n + 1) (1099511627776 : Int)).set 0 (-1099511627776)).map iv = rowV ev gr fs 0 := by
  unfold rowV
  rw [hl, List.drop_of_length_le (by omega)]
  congr 1
  refine List.ext_getElem (by simp) fun i h1 h2 => ?_
  simp only [List.length_set, List.length_replicate] at h1
  simp only [List.getElem_set, List.getElem_replicate, List.getElem_map, List.getElem_range, nd_nil]
  unfold never
  by_cases hi : i = 0
  · subst hi; simp
  · rw [if_neg (fun h => hi h.symm), if_neg hi]
theorem few_spec {ev gr du : Int} {fs : List Int} {k : Nat} (h : fewV ev gr du fs = (k : Int)) : k ≤ fs.length ∧ ndL ev gr fs k ≤ du := by
  unfold fewV idxV at h
  cases hq : ((List.range (fs.length + 1)).map (ndL ev gr fs)).findIdx? (fun x => decide (x ≤ du)) with
  | none => rw [hq] at h; simp only at h; omega
  | some i =>
    rw [hq] at h
    simp only at h
    obtain rfl : i = k := by omega
    obtain ⟨hi, hp, _⟩ := List.findIdx?_eq_some_iff_getElem.1 hq
    simp only [List.length_map, List.length_range] at hi
    simp only [List.getElem_map, List.getElem_range, decide_eq_true_eq] at hp
    exact ⟨by omega, hp⟩
theorem row_top {w0 : World} {M : Ms} {H H' : Hp} {w : World} {g n : Nat} {ev gr : Int} {fs : List Int} {tg : Tg} (hl : fs.length = n) (h : Has w0 M H w) (q : Pick H g (rowV ev gr fs n) tg H') : RdS w 1 (some ⟨g, 0, none⟩) (n + 1) (((List.range (n + 1)).map (ndL ev gr fs)).map inCells) := by
  have e : rowV ev gr fs n = ((List.range (n + 1)).map (ndL ev gr fs)).map iv := by unfold rowV; rw [hl, Nat.sub_self, List.drop_zero]
  rw [e] at q
  exact int_rows (by simp) h q
theorem few_calls (ev gr du : Int) (fs : List Int) (n g b2 : Nat) (w1 : World) (hl : fs.length = n) (hn : n ≤ 1000) (hr : RdS w1 1 (some ⟨g, 0, none⟩) (n + 1) (((List.range (n + 1)).map (ndL ev gr fs)).map inCells)) (c0 : w1.cell? ⟨b2, 0 + 2, none⟩ = some (.int .i64 du)) :
    Calls Try.prog 76 #[.slice (some ⟨g, 0, none⟩) (n + 1) (n + 1), .func (.func 77) #[] ⟨[.pointer (some ⟨b2, 0, none⟩)]⟩] w1 fun e w' => e = .returned (.int .i64 (fewV ev gr du fs)) ∧ Ext w1 w' := by
  have := indexInt_calls 77 [.pointer (some ⟨b2, 0, none⟩)] (fun z => decide (z ≤ du)) (some ⟨g, 0, none⟩) (n + 1) (n + 1) ((List.range (n + 1)).map (ndL ev gr fs)) w1 hr (by omega) Try.call77 (fun z _ w2 h2 => most_calls b2 du z w2 (h2.cell c0))
  unfold fewV
  rw [hl]
  exact this
theorem bef_row {w0 : World} {M : Ms} {w1 : World} {bN b8 b2 b3 n c i k : Nat} {gs : Nat → Nat} {A : Option Addr} {ev gr du x : Int} {fs : List Int} (hl : fs.length = n)
    (h : Has w0 M ((bN, tailV n gs (n + 1), some (41, 1, n + 1)) :: (b8, [.slice (some ⟨bN, 0, none⟩) (n + 1) (n + 1)], some (90, 1, 1)) :: (b2, [.int .i64 ev, .int .i64 gr, .int .i64 du], some (40, 3, 1)) :: (b3, [.slice A n c], some (41, 1, 1)) :: rowsH n ev gr fs gs (n + 1)) w1)
    (hr : RdS w1 1 A n (fs.map inCells)) (hx : fs[i]? = some x) (hi : i < n) (hk : k ≤ n) (hn : n ≤ 60) (he : 1 ≤ ev ∧ ev ≤ 100000) (hg : 0 ≤ gr ∧ gr ≤ 100000) (hf : FsOk fs) :
    Calls Try.prog 75 #[.int .i64 (i : Int), .int .i64 (k : Int), .pointer (some ⟨b3, 0, none⟩), .pointer (some ⟨b2, 0, none⟩), .pointer (some ⟨b8, 0, none⟩)] w1 fun e w' => e = .returned (.int .i64 (befV gr x (ndL ev gr (fs.drop (i + 1)) k))) ∧ Ext w1 w' := by
  have hm := rowsH_mem (n := n) (ev := ev) (gr := gr) (fs := fs) (gs := gs) (show n - (i + 1) < n + 1 by omega)
  have hb := (h.blk _ (List.mem_cons_of_mem _ (List.mem_cons_of_mem _ (List.mem_cons_of_mem _ (List.mem_cons_of_mem _ hm))))).2
  have k4 := hb.cell (rowV_at (ev := ev) (gr := gr) (m := n - (i + 1)) (k := k) (show k ≤ fs.length by omega))
  rw [show fs.length - (n - (i + 1)) = i + 1 by omega] at k4
  have k3 := (h.blk _ (List.mem_cons_self ..)).2.cell (o := 0 + (i + 1) * 1) (v := .slice (some ⟨gs (n - (i + 1)), 0, none⟩) (n + 1) (n + 1)) (by
    have := tailV_at (n := n) (gs := gs) (show n - (i + 1) < n + 1 by omega)
    rw [← this]
    congr 1
    omega)
  have hnd := nd_in he hg (hf.drop (i + 1)) k
  have h2 : (fs.drop (i + 1)).length ≤ 60 := by rw [List.length_drop]; omega
  have hnv : never = 1099511627776 := rfl
  exact bef_calls b3 b2 b8 bN _ i k n A c (n + 1) (n + 1) fs gr x _ w1 hr hx
    ((h.blk _ (List.mem_cons_of_mem _ (List.mem_cons_of_mem _ (List.mem_cons_of_mem _ (List.mem_cons_self ..))))).2.cell rfl)
    ((h.blk _ (List.mem_cons_of_mem _ (List.mem_cons_of_mem _ (List.mem_cons_self ..)))).2.cell rfl)
    ((h.blk _ (List.mem_cons_of_mem _ (List.mem_cons_self ..))).2.cell rfl) k3 k4 hk (by omega) (hf x (List.mem_of_getElem? hx)) hg (by omega)
theorem need_nx {q : Nat} {a b : Value} {T : List Value} : (List.replicate q (Value.slice none 0 0) ++ a :: b :: T)[0 + (q + 1) * 1]? = some b := by
  rw [Nat.zero_add, Nat.mul_one, List.getElem?_append_right (by simp)]
  simp
theorem rep_open {q : Nat} {T : List Value} : List.replicate (q + 1) (Value.slice none 0 0) ++ T = List.replicate q (Value.slice none 0 0) ++ Value.slice none 0 0 :: T := by
  rw [List.replicate_succ']
  simp
theorem inspect_T (ev gr du : Int) (A : Option Addr) (n c : Nat) (fs : List Int) (w : World) (hr : RdS w 1 A n (fs.map inCells)) (hn : n ≤ 1000) :
    Calls Try.prog 28 #[.agg #[.int .i64 ev, .int .i64 gr, .int .i64 du], .slice A n c] w fun e w' => ∃ V H', e = .returned V ∧ InsO (insE ev gr du fs) (insV ev gr du fs) V H' ∧ Has w ⟨[], []⟩ H' w' := by
  have hl := hr.len
  simp only [List.length_map] at hl
  have HC := fun w1 (hx : Ext w w1) => checkFlights_calls ev gr du A n c fs w1 (hr.ext hx) (by omega)
  by_cases hce : caredE ev gr du fs = 0
  · rw [hce] at HC
    have hE : insE ev gr du fs = if fewV ev gr du fs < 0 then 6 else 0 := by unfold insE; rw [if_pos hce]
    obtain ⟨e1, e2, g1, g2, d1, d2, hn60, hfs⟩ := cared_ok hce
    have he : 1 ≤ ev ∧ ev ≤ 100000 := ⟨e1, e2⟩
    have hg : 0 ≤ gr ∧ gr ≤ 100000 := ⟨g1, g2⟩
    have hf : FsOk fs := hfs
    have hnv : never = 1099511627776 := rfl
    have hA : (List.replicate n (Value.slice none 0 0)).length = n := by simp
    refine enterF (c := cx w 144) Try.func28 rfl rfl rfl rfl ?_
    repeat' (first | ((with_reducible apply oq_id); first | (focus ((with_reducible apply oq_indexAddrN); exact rfl; exact rfl; exact rfl; exact rfl; omega)) | (focus ((with_reducible apply oq_indexAddrN (i := 0)); exact rfl; exact rfl; exact rfl; exact rfl; omega)) | ((with_reducible apply oq_addE (k := ((n + 1 : Nat) : Int))); exact rfl; exact rfl; omega) | (apply oq_fn; exact rfl; first | exact trivial | (refine ⟨?_, ?_⟩ <;> omega) | (refine ⟨?_, ?_, ?_⟩ <;> omega) | omega | skip) | ((with_reducible apply oq_load); exact rfl; exact rfl) | ((with_reducible apply oq_loadAgg); exact rfl; exact rfl) | ((with_reducible apply oq_call (k := 71) (hc := Try.call71)); exact rfl; exact rfl; exact fun D w1 hw1 => HC w1 hw1.ext.ext)) | ((with_reducible apply tl_id); first | ((with_reducible apply tl_nil)) | ((with_reducible apply u_q); exact rfl; exact rfl; exact rfl; exact rfl) | ((with_reducible apply u_s0); exact rfl; exact rfl) | ((with_reducible apply u_s); exact rfl; exact rfl; exact rfl)) | ((with_reducible apply gx_id); first | ((with_reducible apply v_nil)) | ((with_reducible apply v_q); exact rfl; exact rfl; exact rfl)) | ((with_reducible apply os_id); first | ((with_reducible apply os_storeG hA); exact rfl; exact rfl; exact rfl; exact rfl; (repeat (first | exact P0 | apply P1))) | ((with_reducible apply os_storeI (k := 0) (row := List.replicate (n + 1) (1099511627776 : Int))); (focus (simp only [List.length_replicate]; omega)); exact rfl; exact rfl; exact rfl; (repeat (first | exact P0 | apply P1))) | ((with_reducible apply os_x); exact rfl) | ((with_reducible apply os_store); exact rfl; exact rfl; exact rfl; exact rfl)) | ((with_reducible apply ox_id); first | ((with_reducible apply ox_alloc); exact rfl; intro _) | ((with_reducible apply ox_box); exact rfl; exact rfl; intro _) | ((with_reducible apply ox_boxAgg); exact rfl; intro _) | ((with_reducible apply ox_buildSlice1); exact rfl; exact rfl; exact rfl; exact rfl; exact rfl; exact rfl; intro _)) | ((with_reducible apply ai_id); first | ((with_reducible apply ai_n); exact rfl; exact rfl; exact rfl; exact rfl; (with_reducible apply os_callF (PV := (fun V H' => RepV 1099511627776 (n + 1) V H')) (k := 74) (hc := Try.call74)); exact rfl; exact rfl; exact fun D w1 hw1 => repeat_T 1099511627776 _ (n + 1) _ w1 (one_rows hw1 (by (repeat (first | exact P0 | apply P1)))) (by omega) (by omega); rintro V' H' ⟨g, rfl, rfl⟩; simp only [List.cons_append, List.nil_append]) | ((with_reducible apply ai_q); exact rfl; exact rfl; exact rfl; exact rfl; exact rfl) | ((with_reducible apply ai_x); exact rfl; exact rfl; exact rfl; exact rfl; exact rfl) | ((with_reducible apply ai_s0); exact rfl; exact rfl; exact rfl; exact rfl)) | ((with_reducible apply al_keep); focus (repeat (first | exact HpSub.refl _ | (apply HpSub.cons; (repeat (first | exact P0 | apply P1))) | apply HpSub.skip | exact HpSub.nil))) | ((with_reducible apply rd_id); first | (apply rdG hA; (repeat (first | exact P0 | apply P1)); done) | (apply Rd.own; (repeat (first | exact P0 | apply P1)); exact rfl; done)) | ((with_reducible apply t_id); first | (apply t_mix (id := 6) [0, 1, 3, 4] 4 #[false, false, false, false, false, false, false, true]; kernel_rfl; kernel_rfl; exact rfl) | ((with_reducible apply t_seq)) | (apply t_region; kernel_rfl) | ((with_reducible apply t_condF); exact rfl) | ((with_reducible apply t_skip)) | ((with_reducible apply t_block))) | with_reducible apply q_thenN | exact P0 | exact Rdn.zero | apply Rdn.succ | ((with_reducible apply Norm.nil); exact rfl) | ((with_reducible apply Norm.cons); exact rfl) | ((with_reducible apply al_id); first | (apply al_done; decide +kernel) | (apply al_one 2; decide +kernel) | (apply al_one 5; decide +kernel) | (apply al_one 6; decide +kernel) | (apply al_one 7; decide +kernel)) | ((with_reducible apply os_makeS (n := n)); exact rfl; exact rfl; omega; intro _) | exact Nat.le_of_ble_eq_true rfl)
    rename_i b2 b3 bN b8 bS
    apply t_loopK (GH := []) (ι := Nat × (Nat → Nat)) [2, 3, 4, 5, 7, 8, 9, 12, 13, 14, 15, 16, 106, 107, 108, 109, 110, 111, 112, 113, 114, 115, 116, 117, 118, 119, 120, 121, 122, 123, 124, 125, 126, 127, 128, 129, 130, 131, 132, 133, 134, 135, 136, 137, 138, 139, 140, 141, 142, 143] (fun i => [(10, .int .i64 ((n : Int) - ((i.1 : Nat) + 1 : Int)))]) (fun i => [(bN, List.replicate (n - i.1) (Value.slice none 0 0) ++ .slice (some ⟨i.2 i.1, 0, none⟩) (n + 1) (n + 1) :: tailV n i.2 i.1, some (41, 1, n + 1)), (b8, [.slice (some ⟨bN, 0, none⟩) (n + 1) (n + 1)], some (90, 1, 1)), (b2, [.int .i64 ev, .int .i64 gr, .int .i64 du], some (40, 3, 1)), (b3, [.slice A n c], some (41, 1, 1))] ++ rowsH n ev gr fs i.2 (i.1 + 1)) (fun i => i.1 ≤ n) (fun i => n - i.1) ((0, fun _ => g))
    (repeat (first | exact KeepF.nil | (apply KeepF.cons; exact rfl) | apply KeepF.skip))
    (repeat (first | exact FrSub.nil | (apply FrSub.cons; exact rfl)))
    (repeat (first | exact HpSub.refl _ | (apply HpSub.consE; (repeat (first | exact P0 | apply P1)); first | exact rfl | (exact row0_eq hl)) | exact HpSub.nil))
    · exact Nat.zero_le _
    rintro ⟨j, gs⟩ hj
    simp only at hj
    try simp only [List.cons_append, List.nil_append]
    by_cases hlt : j < n
    · obtain ⟨q, hq⟩ : ∃ q, n - j = q + 1 := ⟨n - j - 1, by omega⟩
      have hA : (List.replicate q (Value.slice none 0 0)).length = q := by simp
      obtain ⟨b1, o1, x, hA1, _, hx, c0⟩ := in_read hr (show q < n by omega)
      have hfx := hf x (List.mem_of_getElem? hx)
      have hdrop : fs.drop (fs.length - (j + 1)) = x :: fs.drop (fs.length - j) := by
        have hil := List.getElem?_eq_some_iff.1 hx
        rw [show fs.length - (j + 1) = q by omega, show fs.length - j = q + 1 by omega, List.drop_eq_getElem_cons hil.1, hil.2]
      have hnd : ∀ k, -1099511627776 ≤ ndL ev gr (fs.drop (fs.length - j)) k ∧ ndL ev gr (fs.drop (fs.length - j)) k ≤ 2199023255552 := fun k => by
        have := nd_in he hg (hf.drop (fs.length - j)) k
        have h2 : (fs.drop (fs.length - j)).length ≤ 60 := by rw [List.length_drop]; omega
        omega
      have hbv : ∀ k, -1099511727776 ≤ befV gr x (ndL ev gr (fs.drop (fs.length - j)) k) ∧ befV gr x (ndL ev gr (fs.drop (fs.length - j)) k) ≤ 2199023355552 := fun k => by
        have := hnd k
        unfold befV
        omega
      rw [hq, show (n : Int) - ((j : Int) + 1) = (q : Int) by omega, rep_open]
      repeat' (first | ((with_reducible apply oq_id); first | (focus ((with_reducible apply oq_indexAddrN); exact rfl; exact rfl; exact rfl; exact rfl; omega)) | ((with_reducible apply oq_addE (k := ((n + 1 : Nat) : Int))); exact rfl; exact rfl; omega) | (apply oq_fn; exact rfl; first | exact trivial | (refine ⟨?_, ?_⟩ <;> omega) | (refine ⟨?_, ?_, ?_⟩ <;> omega) | omega | skip) | ((with_reducible apply oq_load); exact rfl; exact rfl)) | ((with_reducible apply tl_id); first | ((with_reducible apply tl_nil)) | ((with_reducible apply u_q); exact rfl; exact rfl; exact rfl; exact rfl)) | ((with_reducible apply gx_id); first | ((with_reducible apply v_nil)) | ((with_reducible apply v_q); exact rfl; exact rfl; exact rfl)) | ((with_reducible apply os_id); first | ((with_reducible apply os_storeG hA); exact rfl; exact rfl; exact rfl; exact rfl; (repeat (first | exact P0 | apply P1)))) | ((with_reducible apply ai_id); first | ((with_reducible apply ai_q); exact rfl; exact rfl; exact rfl; exact rfl; exact rfl) | ((with_reducible apply ai_s0); exact rfl; exact rfl; exact rfl; exact rfl) | ((with_reducible apply ai_n); exact rfl; exact rfl; exact rfl; exact rfl)) | ((with_reducible apply al_keep); focus (repeat (first | exact HpSub.refl _ | (apply HpSub.cons; (repeat (first | exact P0 | apply P1))) | apply HpSub.skip | exact HpSub.nil))) | ((with_reducible apply rd_id); first | (apply rdG hA; (repeat (first | exact P0 | apply P1)); done) | (apply Rd.own; (repeat (first | exact P0 | apply P1)); exact rfl; done)) | ((with_reducible apply t_id); first | (apply t_mix (id := 12) [0, 1, 2, 3] 3 #[false, false, false, false, false, false, true]; kernel_rfl; kernel_rfl; exact rfl) | ((with_reducible apply t_seq)) | (apply t_region; kernel_rfl) | ((with_reducible apply t_condT); exact rfl) | ((with_reducible apply t_skip)) | ((with_reducible apply t_block))) | with_reducible apply q_thenN | ((with_reducible apply al_id); first | (apply al_done; decide +kernel) | (apply al_one 4; decide +kernel) | (apply al_one 5; decide +kernel) | (apply al_one 6; decide +kernel)) | ((with_reducible apply os_makeI (hk := app_ok41) (hz := info3)); exact rfl; exact rfl; omega; (unfold maxLen; omega); intro _))
      rename_i gN
      apply t_loopK (ι := Nat) [2, 3, 4, 5, 7, 8, 9, 10, 12, 13, 14, 15, 16, 43, 44, 45, 46, 47, 48, 49, 50, 51, 52, 53, 54, 55, 56, 57, 106, 107, 108, 109, 110, 111, 112, 113, 114, 115, 116, 117, 118, 119, 120, 121, 122, 123, 124, 125, 126, 127, 128, 129, 130, 131, 132, 133, 134, 135, 136, 137, 138, 139, 140, 141, 142, 143] (fun k => [(58, .int .i64 (k : Nat))]) (fun k => [(gN, fillV (ndL ev gr (x :: fs.drop (fs.length - j))) (n + 1) k, some (3, 1, n + 1))]) (fun k => k ≤ n + 1) (fun k => n + 1 - k) (0)
      (repeat (first | exact KeepF.nil | (apply KeepF.cons; exact rfl) | apply KeepF.skip))
      (repeat (first | exact FrSub.nil | (apply FrSub.cons; exact rfl)))
      (repeat (first | exact HpSub.refl _ | (apply HpSub.consE; (repeat (first | exact P0 | apply P1)); exact rfl) | exact HpSub.nil))
      · exact Nat.zero_le _
      rintro k hk
      try simp only [List.cons_append, List.nil_append]
      by_cases hlt2 : k < n + 1
      · rw [fill_open hlt2]
        have hA2 : ((List.range k).map (ndL ev gr (x :: fs.drop (fs.length - j)))).length = k := by simp
        cases k with
        | zero =>
          have hnx : (ndL ev gr (x :: fs.drop (fs.length - j))) 0 = befV gr x (ndL ev gr (fs.drop (fs.length - j)) 0) := nd_zero ..
          repeat' (first | ((with_reducible apply oq_id); first | (focus ((with_reducible apply oq_indexAddrN); exact rfl; exact rfl; exact rfl; exact rfl; omega)) | (apply oq_fn; exact rfl; first | exact trivial | (refine ⟨?_, ?_⟩ <;> omega) | (refine ⟨?_, ?_, ?_⟩ <;> omega) | omega | skip) | ((with_reducible apply oq_load); exact rfl; exact rfl) | ((with_reducible apply oq_call (k := 75) (hc := Try.call75)); exact rfl; exact rfl; exact fun D w1 hw1 => bef_calls _ _ _ _ _ q 0 n A c _ _ fs gr x (ndL ev gr (fs.drop (fs.length - j)) 0) w1 (hr.ext hw1.ext.ext) hx (hw1.cellAt (by (repeat (first | exact P0 | apply P1))) rfl) (hw1.cellAt (by (repeat (first | exact P0 | apply P1))) rfl) (hw1.cellAt (by (repeat (first | exact P0 | apply P1))) rfl) (hw1.cellAt (by (repeat (first | exact P0 | apply P1))) need_nx) (hw1.cellAt (by (repeat (first | exact P0 | apply P1))) (rowV_at (by omega))) (by omega) (by omega) hfx hg (hnd 0))) | ((with_reducible apply tl_id); first | ((with_reducible apply tl_nil)) | ((with_reducible apply u_q); exact rfl; exact rfl; exact rfl; exact rfl)) | ((with_reducible apply gx_id); first | ((with_reducible apply v_nil)) | ((with_reducible apply v_q); exact rfl; exact rfl; exact rfl) | ((with_reducible apply v_skip); exact rfl; exact rfl; exact rfl)) | ((with_reducible apply os_id); first | ((with_reducible apply os_storeM hA2); exact rfl; exact rfl; exact rfl; (repeat (first | exact P0 | apply P1)))) | ((with_reducible apply ai_id); first | ((with_reducible apply ai_s0); exact rfl; exact rfl; exact rfl; exact rfl)) | ((with_reducible apply rd_id); first | (apply rdG hA; (repeat (first | exact P0 | apply P1)); done) | (apply Rd.own; (repeat (first | exact P0 | apply P1)); exact rfl; done)) | ((with_reducible apply t_id); first | (apply t_mix (id := 16) [0, 1, 2, 3, 4, 5, 6, 7, 8, 9] 1 #[false, false, false, false, false, false, false, false, false, false, true]; kernel_rfl; kernel_rfl; exact rfl) | ((with_reducible apply t_seq)) | (apply t_region; kernel_rfl) | (apply t_drawn; kernel_rfl; decide +kernel; try simp only [List.append_eq, List.cons_append, List.nil_append]) | ((with_reducible apply t_condF); exact rfl) | ((with_reducible apply t_condD); exact rfl; all_goals first | (intro hp; try (exfalso; omega)) | skip) | ((with_reducible apply t_skip)) | ((with_reducible apply t_block))) | with_reducible apply q_thenN | with_reducible apply q_blockN | ((with_reducible apply al_id); first | (apply al_done; decide +kernel) | (apply al_one 10; decide +kernel)))
          all_goals (refine ⟨0 + 1, by omega, by omega, ?_, ?_⟩)
          all_goals ((try simp only [List.cons_append, List.nil_append]); (repeat' (first | exact FrSub.nil | (apply FrSub.cons; exact rfl) | exact HpSub.refl _)))
        | succ k =>
          have hB1 := hbv k
          have hB2 := hbv (k + 1)
          by_cases hb : befV gr x (ndL ev gr (fs.drop (fs.length - j)) k) ≤ ev
          · have hnx : (ndL ev gr (x :: fs.drop (fs.length - j))) (k + 1) = min (befV gr x (ndL ev gr (fs.drop (fs.length - j)) (k + 1))) (befV gr x (ndL ev gr (fs.drop (fs.length - j)) k) - ev) := by rw [nd_succ, if_pos hb]
            repeat' (first | ((with_reducible apply oq_id); first | (focus ((with_reducible apply oq_indexAddrN); exact rfl; exact rfl; exact rfl; exact rfl; omega)) | ((with_reducible apply oq_subE (k := (k : Int))); exact rfl; exact rfl; omega) | (apply oq_fn; exact rfl; first | exact trivial | (refine ⟨?_, ?_⟩ <;> omega) | (refine ⟨?_, ?_, ?_⟩ <;> omega) | omega | skip) | ((with_reducible apply oq_load); exact rfl; exact rfl) | ((with_reducible apply oq_call (k := 75) (hc := Try.call75)); exact rfl; exact rfl; exact fun D w1 hw1 => bef_calls _ _ _ _ _ q (k + 1) n A c _ _ fs gr x (ndL ev gr (fs.drop (fs.length - j)) (k + 1)) w1 (hr.ext hw1.ext.ext) hx (hw1.cellAt (by (repeat (first | exact P0 | apply P1))) rfl) (hw1.cellAt (by (repeat (first | exact P0 | apply P1))) rfl) (hw1.cellAt (by (repeat (first | exact P0 | apply P1))) rfl) (hw1.cellAt (by (repeat (first | exact P0 | apply P1))) need_nx) (hw1.cellAt (by (repeat (first | exact P0 | apply P1))) (rowV_at (by omega))) (by omega) (by omega) hfx hg (hnd (k + 1))) | ((with_reducible apply oq_call (k := 75) (hc := Try.call75)); exact rfl; exact rfl; exact fun D w1 hw1 => bef_calls _ _ _ _ _ q k n A c _ _ fs gr x (ndL ev gr (fs.drop (fs.length - j)) k) w1 (hr.ext hw1.ext.ext) hx (hw1.cellAt (by (repeat (first | exact P0 | apply P1))) rfl) (hw1.cellAt (by (repeat (first | exact P0 | apply P1))) rfl) (hw1.cellAt (by (repeat (first | exact P0 | apply P1))) rfl) (hw1.cellAt (by (repeat (first | exact P0 | apply P1))) need_nx) (hw1.cellAt (by (repeat (first | exact P0 | apply P1))) (rowV_at (by omega))) (by omega) (by omega) hfx hg (hnd k))) | ((with_reducible apply tl_id); first | ((with_reducible apply tl_nil)) | ((with_reducible apply u_q); exact rfl; exact rfl; exact rfl; exact rfl)) | ((with_reducible apply gx_id); first | ((with_reducible apply v_nil)) | ((with_reducible apply v_q); exact rfl; exact rfl; exact rfl) | ((with_reducible apply v_splitD); exact rfl; exact rfl; all_goals first | (intro hp; try (exfalso; omega)) | skip)) | ((with_reducible apply os_id); first | ((with_reducible apply os_storeM hA2); exact rfl; exact rfl; exact rfl; (repeat (first | exact P0 | apply P1)))) | ((with_reducible apply ai_id); first | ((with_reducible apply ai_s0); exact rfl; exact rfl; exact rfl; exact rfl)) | ((with_reducible apply rd_id); first | (apply rdG hA; (repeat (first | exact P0 | apply P1)); done) | (apply rdM hA2; (repeat (first | exact P0 | apply P1)); done) | (apply Rd.own; (repeat (first | exact P0 | apply P1)); exact rfl; done)) | ((with_reducible apply t_id); first | (apply t_mix (id := 16) [0, 1, 2, 3, 4, 5, 6, 7, 8, 9] 1 #[false, false, false, false, false, false, false, false, false, false, true]; kernel_rfl; kernel_rfl; exact rfl) | (apply t_mix (id := 18) [0, 1, 2, 3, 4, 5, 6, 7, 8, 9, 10, 11, 12, 13, 14, 15, 16, 17, 18, 19, 20, 21] 1 #[false, false, false, false, false, false, false, false, false, false, false, false, false, false, false, false, false, false, false, false, false, false, true]; kernel_rfl; kernel_rfl; exact rfl) | ((with_reducible apply t_seq)) | (apply t_region; kernel_rfl) | (apply t_drawn; kernel_rfl; decide +kernel; try simp only [List.append_eq, List.cons_append, List.nil_append]) | ((with_reducible apply t_condD); exact rfl; all_goals first | (intro hp; try (exfalso; omega)) | skip) | ((with_reducible apply t_skip)) | ((with_reducible apply t_block))) | with_reducible apply q_thenN | with_reducible apply q_blockN | ((with_reducible apply al_id); first | (apply al_done; decide +kernel) | (apply al_one 10; decide +kernel)) | ((with_reducible apply al_id); first | (apply al_one 22; decide +kernel)))
            all_goals (refine ⟨(k + 1) + 1, by omega, by omega, ?_, ?_⟩)
            all_goals ((try simp only [List.cons_append, List.nil_append]); (repeat' (first | exact FrSub.nil | (apply FrSub.cons; exact rfl) | exact HpSub.refl _ | (apply HpSub.consE; (repeat (first | exact P0 | apply P1)); first | exact rfl | (exact fill_close hnx)))))
          · have hnx : (ndL ev gr (x :: fs.drop (fs.length - j))) (k + 1) = befV gr x (ndL ev gr (fs.drop (fs.length - j)) (k + 1)) := by rw [nd_succ, if_neg hb]
            repeat' (first | ((with_reducible apply oq_id); first | (focus ((with_reducible apply oq_indexAddrN); exact rfl; exact rfl; exact rfl; exact rfl; omega)) | ((with_reducible apply oq_subE (k := (k : Int))); exact rfl; exact rfl; omega) | (apply oq_fn; exact rfl; first | exact trivial | (refine ⟨?_, ?_⟩ <;> omega) | (refine ⟨?_, ?_, ?_⟩ <;> omega) | omega | skip) | ((with_reducible apply oq_load); exact rfl; exact rfl) | ((with_reducible apply oq_call (k := 75) (hc := Try.call75)); exact rfl; exact rfl; exact fun D w1 hw1 => bef_calls _ _ _ _ _ q (k + 1) n A c _ _ fs gr x (ndL ev gr (fs.drop (fs.length - j)) (k + 1)) w1 (hr.ext hw1.ext.ext) hx (hw1.cellAt (by (repeat (first | exact P0 | apply P1))) rfl) (hw1.cellAt (by (repeat (first | exact P0 | apply P1))) rfl) (hw1.cellAt (by (repeat (first | exact P0 | apply P1))) rfl) (hw1.cellAt (by (repeat (first | exact P0 | apply P1))) need_nx) (hw1.cellAt (by (repeat (first | exact P0 | apply P1))) (rowV_at (by omega))) (by omega) (by omega) hfx hg (hnd (k + 1))) | ((with_reducible apply oq_call (k := 75) (hc := Try.call75)); exact rfl; exact rfl; exact fun D w1 hw1 => bef_calls _ _ _ _ _ q k n A c _ _ fs gr x (ndL ev gr (fs.drop (fs.length - j)) k) w1 (hr.ext hw1.ext.ext) hx (hw1.cellAt (by (repeat (first | exact P0 | apply P1))) rfl) (hw1.cellAt (by (repeat (first | exact P0 | apply P1))) rfl) (hw1.cellAt (by (repeat (first | exact P0 | apply P1))) rfl) (hw1.cellAt (by (repeat (first | exact P0 | apply P1))) need_nx) (hw1.cellAt (by (repeat (first | exact P0 | apply P1))) (rowV_at (by omega))) (by omega) (by omega) hfx hg (hnd k))) | ((with_reducible apply tl_id); first | ((with_reducible apply tl_nil)) | ((with_reducible apply u_q); exact rfl; exact rfl; exact rfl; exact rfl)) | ((with_reducible apply gx_id); first | ((with_reducible apply v_nil)) | ((with_reducible apply v_q); exact rfl; exact rfl; exact rfl) | ((with_reducible apply v_splitD); exact rfl; exact rfl; all_goals first | (intro hp; try (exfalso; omega)) | skip)) | ((with_reducible apply os_id); first | ((with_reducible apply os_storeM hA2); exact rfl; exact rfl; exact rfl; (repeat (first | exact P0 | apply P1)))) | ((with_reducible apply ai_id); first | ((with_reducible apply ai_s0); exact rfl; exact rfl; exact rfl; exact rfl)) | ((with_reducible apply rd_id); first | (apply rdG hA; (repeat (first | exact P0 | apply P1)); done) | (apply Rd.own; (repeat (first | exact P0 | apply P1)); exact rfl; done)) | ((with_reducible apply t_id); first | (apply t_mix (id := 16) [0, 1, 2, 3, 4, 5, 6, 7, 8, 9] 1 #[false, false, false, false, false, false, false, false, false, false, true]; kernel_rfl; kernel_rfl; exact rfl) | ((with_reducible apply t_seq)) | (apply t_region; kernel_rfl) | (apply t_drawn; kernel_rfl; decide +kernel; try simp only [List.append_eq, List.cons_append, List.nil_append]) | ((with_reducible apply t_condD); exact rfl; all_goals first | (intro hp; try (exfalso; omega)) | skip) | ((with_reducible apply t_skip)) | ((with_reducible apply t_block))) | with_reducible apply q_thenN | with_reducible apply q_blockN | ((with_reducible apply al_id); first | (apply al_done; decide +kernel) | (apply al_one 10; decide +kernel)))
            all_goals (refine ⟨(k + 1) + 1, by omega, by omega, ?_, ?_⟩)
            all_goals ((try simp only [List.cons_append, List.nil_append]); (repeat' (first | exact FrSub.nil | (apply FrSub.cons; exact rfl) | exact HpSub.refl _ | (apply HpSub.consE; (repeat (first | exact P0 | apply P1)); first | exact rfl | (exact fill_close hnx)))))
      · obtain rfl : k = n + 1 := by omega
        have hrow : ((List.range (n + 1)).map (ndL ev gr (x :: fs.drop (fs.length - j)))).map iv = rowV ev gr fs (j + 1) := by unfold rowV; rw [hdrop, hl]
        rw [fill_done, hrow]
        repeat' (first | ((with_reducible apply oq_id); first | (apply oq_fn; exact rfl; first | exact trivial | (refine ⟨?_, ?_⟩ <;> omega) | (refine ⟨?_, ?_, ?_⟩ <;> omega) | omega | skip)) | ((with_reducible apply tl_id); first | ((with_reducible apply tl_nil)) | ((with_reducible apply u_q); exact rfl; exact rfl; exact rfl; exact rfl)) | ((with_reducible apply t_id); first | ((with_reducible apply t_seq)) | (apply t_region; kernel_rfl) | ((with_reducible apply t_condD); exact rfl; all_goals first | (intro hp; try (exfalso; omega)) | skip) | ((with_reducible apply t_exit))) | with_reducible apply q_thenN | with_reducible apply q_blockN | with_reducible apply q_thenE | ((with_reducible apply q_blockE); exact rfl))
        all_goals (refine ⟨(j + 1, fun m => if m = j + 1 then gN else gs m), by simp only; omega, by simp only; omega, ?_, ?_⟩)
        · try simp only [List.cons_append, List.nil_append]
          (repeat (first | exact FrSub.nil | (apply FrSub.cons; exact rfl) | (apply FrSub.consE; exact rfl; (congr 1; omega))))
        · have t1 : tailV n (fun m => if m = j + 1 then gN else gs m) (j + 1) = tailV n gs (j + 1) := tailV_congr fun i hi => if_neg (by omega)
          have t2 : rowsH n ev gr fs (fun m => if m = j + 1 then gN else gs m) (j + 1) = rowsH n ev gr fs gs (j + 1) := rowsH_congr fun i hi => if_neg (by omega)
          simp only [show rowsH n ev gr fs (fun m => if m = j + 1 then gN else gs m) (j + 1 + 1) = (gN, rowV ev gr fs (j + 1), some (3, 1, n + 1)) :: rowsH n ev gr fs gs (j + 1) by rw [← t2]; simp [rowsH], t1, if_true, show n - (j + 1) = q by omega]
          (repeat (first | exact HpSub.refl _ | (apply HpSub.consE; (repeat (first | exact P0 | apply P1)); exact rfl) | apply HpSub.skip | exact HpSub.nil))
    · obtain rfl : n = j := by omega
      have hneed : List.replicate (n - n) (Value.slice none 0 0) ++ Value.slice (some ⟨gs n, 0, none⟩) (n + 1) (n + 1) :: tailV n gs n = tailV n gs (n + 1) := by rw [Nat.sub_self]; rfl
      rw [hneed]
      simp only [List.append_nil]
      have HF := fun w1 => few_calls ev gr du fs n (gs n) b2 w1 hl hn
      by_cases hneg : fewV ev gr du fs < 0
      · rw [if_pos hneg] at hE
        rw [hE]
        obtain ⟨fv, hfv⟩ : ∃ fv, fewV ev gr du fs = fv := ⟨_, rfl⟩
        rw [hfv] at HF hneg
        repeat' (first | ((with_reducible apply oq_id); first | (focus ((with_reducible apply oq_indexAddrN (i := 0)); exact rfl; exact rfl; exact rfl; exact rfl; omega)) | (apply oq_fn; exact rfl; first | exact trivial | (refine ⟨?_, ?_⟩ <;> omega) | (refine ⟨?_, ?_, ?_⟩ <;> omega) | omega | skip) | ((with_reducible apply oq_load); exact rfl; exact rfl) | ((with_reducible apply oq_call (k := 76) (hc := Try.call76)); exact rfl; exact rfl; exact fun D w1 hw1 => HF w1 (row_top hl hw1 (by (repeat (first | exact P0 | apply P1)))) (hw1.cellAt (by (repeat (first | exact P0 | apply P1))) rfl))) | ((with_reducible apply tl_id); first | ((with_reducible apply tl_nil)) | ((with_reducible apply u_q); exact rfl; exact rfl; exact rfl; exact rfl)) | ((with_reducible apply rd_id); first | (apply Rd.own; (repeat (first | exact P0 | apply P1)); exact rfl; done)) | ((with_reducible apply t_id); first | ((with_reducible apply t_seq)) | (apply t_region; kernel_rfl) | ((with_reducible apply t_condD); exact rfl; all_goals first | (intro hp; try (exfalso; omega)) | skip) | ((with_reducible apply t_ret)) | ((with_reducible apply t_exit))) | with_reducible apply q_thenN | with_reducible apply q_thenR | with_reducible apply q_thenE | ((with_reducible apply q_blockE); exact rfl) | ((with_reducible apply end_ret)) | exact rvs_nil | ((with_reducible apply rvs_cons)) | ((with_reducible apply rv_tmp); exact rfl))
        all_goals exact ⟨_, .inl ⟨by decide, rfl, rfl⟩, HpSub.nil⟩
      · obtain ⟨k0, hk0⟩ : ∃ k0 : Nat, fewV ev gr du fs = (k0 : Int) := ⟨(fewV ev gr du fs).toNat, by omega⟩
        rw [if_neg hneg] at hE
        rw [hk0] at HF
        have hIV : insV ev gr du fs = insG ev gr fs 0 k0 du := by unfold insV; rw [hk0]; rfl
        have hfs := few_spec hk0
        clear HC
        repeat' (first | ((with_reducible apply oq_id); first | (focus ((with_reducible apply oq_indexAddrN (i := 0)); exact rfl; exact rfl; exact rfl; exact rfl; omega)) | (apply oq_fn; exact rfl; first | exact trivial | (refine ⟨?_, ?_⟩ <;> omega) | (refine ⟨?_, ?_, ?_⟩ <;> omega) | omega | skip) | ((with_reducible apply oq_load); exact rfl; exact rfl) | ((with_reducible apply oq_call (k := 76) (hc := Try.call76)); exact rfl; exact rfl; exact fun D w1 hw1 => HF w1 (row_top hl hw1 (by (repeat (first | exact P0 | apply P1)))) (hw1.cellAt (by (repeat (first | exact P0 | apply P1))) rfl))) | ((with_reducible apply tl_id); first | ((with_reducible apply tl_nil)) | ((with_reducible apply u_q); exact rfl; exact rfl; exact rfl; exact rfl)) | ((with_reducible apply rd_id); first | (apply Rd.own; (repeat (first | exact P0 | apply P1)); exact rfl; done)) | ((with_reducible apply t_id); first | ((with_reducible apply t_seq)) | (apply t_region; kernel_rfl) | ((with_reducible apply t_condF); exact rfl) | ((with_reducible apply t_condD); exact rfl; all_goals first | (intro hp; try (exfalso; omega)) | skip) | ((with_reducible apply t_skip)) | ((with_reducible apply t_exit)) | ((with_reducible apply t_block))) | with_reducible apply q_thenN | with_reducible apply q_thenE | ((with_reducible apply q_blockE); exact rfl))
        apply t_loopK (ι := Nat × Nat × Int × List Int × Option (Nat × Nat)) [2, 4, 5, 9, 115, 116, 143] (fun j => [(117, .int .i64 (j.1 : Nat)), (12, .int .i64 (j.2.1 : Nat)), (14, .int .i64 j.2.2.1), (13, planS j.2.2.2.1 j.2.2.2.2)]) (fun j => planH j.2.2.2.1 j.2.2.2.2) (fun j => j.1 ≤ n ∧ insV ev gr du fs = j.2.2.2.1 ++ insG ev gr (fs.drop j.1) j.1 j.2.1 j.2.2.1 ∧ ndL ev gr (fs.drop j.1) j.2.1 ≤ j.2.2.1 ∧ -100000 ≤ j.2.2.1 ∧ j.2.2.1 ≤ 100000 ∧ j.2.1 ≤ n ∧ j.2.2.2.1.length ≤ j.1 ∧ (j.2.2.2.2 = none → j.2.2.2.1 = [])) (fun j => n - j.1) ((0, k0, du, [], none))
        (repeat (first | exact KeepF.nil | (apply KeepF.cons; exact rfl) | apply KeepF.skip))
        (repeat (first | exact FrSub.nil | (apply FrSub.cons; exact rfl)))
        (repeat (first | exact HpSub.refl _ | (apply HpSub.consE; (repeat (first | exact P0 | apply P1)); exact rfl) | exact HpSub.nil))
        · exact ⟨Nat.zero_le _, by simp only [List.drop_zero, List.nil_append]; exact hIV, by simp only [List.drop_zero]; exact hfs.2, by simp only; omega, by simp only; omega, by simp only; omega, by simp, fun _ => rfl⟩
        rintro ⟨i, k, L, pre, o⟩ ⟨hi, hpl, hnd, hL0, hL1, hkn, hprl, hpre⟩
        simp only at hi hpl hnd hL0 hL1 hkn hprl hpre
        by_cases hlt2 : i < n
        · obtain ⟨b1, o1, x, hA1, _, hx, c0⟩ := in_read hr hlt2
          have hfx := hf x (List.mem_of_getElem? hx)
          have hdrop : fs.drop i = x :: fs.drop (i + 1) := by
            have hil := (List.getElem?_eq_some_iff.1 hx)
            rw [List.drop_eq_getElem_cons hil.1, hil.2]
          obtain ⟨B, hBe⟩ : ∃ B, befV gr x (ndL ev gr (fs.drop (i + 1)) k) = B := ⟨_, rfl⟩
          have HB : ∀ {M : Ms} {w0 w1 : World}, Ext w w1 → Has w0 M ((bN, tailV n gs (n + 1), some (41, 1, n + 1)) :: (b8, [.slice (some ⟨bN, 0, none⟩) (n + 1) (n + 1)], some (90, 1, 1)) :: (b2, [.int .i64 ev, .int .i64 gr, .int .i64 du], some (40, 3, 1)) :: (b3, [.slice A n c], some (41, 1, 1)) :: rowsH n ev gr fs gs (n + 1)) w1 →
              Calls Try.prog 75 #[.int .i64 (i : Int), .int .i64 (k : Int), .pointer (some ⟨b3, 0, none⟩), .pointer (some ⟨b2, 0, none⟩), .pointer (some ⟨b8, 0, none⟩)] w1 fun e w' => e = .returned (.int .i64 B) ∧ Ext w1 w' :=
            fun hx1 hh => hBe ▸ bef_row hl hh (hr.ext hx1) hx hlt2 hkn (by omega) he hg hf
          subst hA1
          rcases o with _ | ⟨go, co⟩
          · obtain rfl := hpre rfl
            try simp only [planS_none, planS_some, planH_none, planH_some, List.cons_append, List.nil_append]
            by_cases hsk : B ≤ L
            · have hB := hsk
              rw [← hBe] at hB
              have hge : x - gr ≤ L := by unfold befV at hB; omega
              repeat' (first | ((with_reducible apply oq_id); first | (focus ((with_reducible apply oq_indexAddrN); exact rfl; exact rfl; exact rfl; exact rfl; omega)) | ((with_reducible apply oq_addE (k := ((i + 1 : Nat) : Int))); exact rfl; exact rfl; omega) | (apply oq_fn; exact rfl; first | exact trivial | (refine ⟨?_, ?_⟩ <;> omega) | (refine ⟨?_, ?_, ?_⟩ <;> omega) | omega | skip) | ((with_reducible apply oq_load); exact rfl; exact rfl) | ((with_reducible apply oq_call (k := 75) (hc := Try.call75)); exact rfl; exact rfl; exact fun D w1 hw1 => HB hw1.ext.ext (Has.sub (by (repeat (first | exact HpSub.refl _ | apply HpSub.skip))) hw1))) | ((with_reducible apply tl_id); first | ((with_reducible apply tl_nil)) | ((with_reducible apply u_q); exact rfl; exact rfl; exact rfl; exact rfl)) | ((with_reducible apply rd_id); first | (apply Rd.old; (first | (with_reducible assumption) | exact c0 | exact c1 | exact c2 | exact c3 | exact c4 | exact c5 | exact c6 | exact c7 | exact c8 | exact d0 | exact d1 | exact d2 | exact d3 | exact d4 | exact d5); first | exact List.not_mem_nil | exact m0 | exact m1 | exact m2 | exact m3 | exact m4 | exact m5 | exact m6 | exact m7 | exact m8 | exact m9)) | ((with_reducible apply t_id); first | ((with_reducible apply t_seq)) | (apply t_region; kernel_rfl) | ((with_reducible apply t_condD); exact rfl; all_goals first | (intro hp; try (exfalso; omega)) | skip) | ((with_reducible apply t_skip)) | ((with_reducible apply t_block))) | with_reducible apply q_thenN | with_reducible apply q_blockN)
              all_goals (refine ⟨(i + 1, k, L - x, [], none), ⟨by simp only; omega, ?_, ?_, by simp only; omega, by simp only; omega, by simp only; omega, ?_, ?_⟩, by simp only; omega, ?_, ?_⟩)
              all_goals first
                | (simp only; rw [hpl, hdrop, insG_skip hB]; done)
                | (simp only; exact nd_skip hB)
                | (simp only; rw [hpl, hdrop, insG_ins hB]; simp; done)
                | (simp only; exact hnd2)
                | exact hpre
                | (simp only; omega)
                | (simp only [List.length_append, List.length_cons, List.length_nil]; omega)
                | (intro h; cases h; done)
                | ((try simp only [planS_none, planS_some, planH_none, planH_some, List.cons_append, List.nil_append]); (repeat (first | exact FrSub.nil | (apply FrSub.cons; exact rfl) | (apply FrSub.consE; exact rfl; (focus (simp; done))))); done)
                | ((try simp only [planS_none, planS_some, planH_none, planH_some, List.cons_append, List.nil_append]); (repeat (first | exact HpSub.refl _ | (apply HpSub.consE; (repeat (first | exact P0 | apply P1)); first | exact rfl | ((focus (simp [iv]; done)))) | apply HpSub.skip | exact HpSub.nil)); done)
            · have hB := hsk
              rw [← hBe] at hB
              obtain ⟨hk1, hnd2, hgx⟩ := nd_ins (by rw [← hdrop]; exact hnd) hB
              repeat' (first | ((with_reducible apply oq_id); first | (focus ((with_reducible apply oq_indexAddrN); exact rfl; exact rfl; exact rfl; exact rfl; omega)) | ((with_reducible apply oq_subE (k := ((k - 1 : Nat) : Int))); exact rfl; exact rfl; omega) | ((with_reducible apply oq_addE (k := ((i + 1 : Nat) : Int))); exact rfl; exact rfl; omega) | (apply oq_fn; exact rfl; first | exact trivial | (refine ⟨?_, ?_⟩ <;> omega) | (refine ⟨?_, ?_, ?_⟩ <;> omega) | omega | skip) | ((with_reducible apply oq_load); exact rfl; exact rfl) | ((with_reducible apply oq_call (k := 75) (hc := Try.call75)); exact rfl; exact rfl; exact fun D w1 hw1 => HB hw1.ext.ext (Has.sub (by (repeat (first | exact HpSub.refl _ | apply HpSub.skip))) hw1))) | ((with_reducible apply tl_id); first | ((with_reducible apply tl_nil)) | ((with_reducible apply u_q); exact rfl; exact rfl; exact rfl; exact rfl) | ((with_reducible apply u_s); exact rfl; exact rfl; exact rfl)) | ((with_reducible apply os_id); first | ((with_reducible apply os_x); exact rfl) | ((with_reducible apply os_appendNil (hk := app_ok41)); exact rfl; exact rfl)) | ((with_reducible apply ox_id); first | ((with_reducible apply ox_buildSlice1); exact rfl; exact rfl; exact rfl; exact rfl; exact rfl; exact rfl; intro _)) | ((with_reducible apply rd_id); first | (apply Rd.own; (repeat (first | exact P0 | apply P1)); exact rfl; done) | (apply Rd.old; (first | (with_reducible assumption) | exact c0 | exact c1 | exact c2 | exact c3 | exact c4 | exact c5 | exact c6 | exact c7 | exact c8 | exact d0 | exact d1 | exact d2 | exact d3 | exact d4 | exact d5); first | exact List.not_mem_nil | exact m0 | exact m1 | exact m2 | exact m3 | exact m4 | exact m5 | exact m6 | exact m7 | exact m8 | exact m9)) | ((with_reducible apply t_id); first | ((with_reducible apply t_seq)) | (apply t_region; kernel_rfl) | ((with_reducible apply t_condD); exact rfl; all_goals first | (intro hp; try (exfalso; omega)) | skip) | ((with_reducible apply t_skip)) | ((with_reducible apply t_block))) | with_reducible apply q_thenN | with_reducible apply q_blockN | exact Rdn.zero | apply Rdn.succ | exact Nat.le_of_ble_eq_true rfl | exact (rfl : (_ : Bool) = true) | (intro _ _; with_reducible apply tl_id))
              all_goals (rename_i gN cN; refine ⟨(i + 1, k - 1, min L 0 + ev - x, [] ++ [(i : Int)], some (gN, cN)), ⟨by simp only; omega, ?_, ?_, by simp only; omega, by simp only; omega, by simp only; omega, ?_, ?_⟩, by simp only; omega, ?_, ?_⟩)
              all_goals first
                | (simp only; rw [hpl, hdrop, insG_skip hB]; done)
                | (simp only; exact nd_skip hB)
                | (simp only; rw [hpl, hdrop, insG_ins hB]; simp; done)
                | (simp only; exact hnd2)
                | exact hpre
                | (simp only; omega)
                | (simp only [List.length_append, List.length_cons, List.length_nil]; omega)
                | (intro h; cases h; done)
                | ((try simp only [planS_none, planS_some, planH_none, planH_some, List.cons_append, List.nil_append]); (repeat (first | exact FrSub.nil | (apply FrSub.cons; exact rfl) | (apply FrSub.consE; exact rfl; (focus (simp; done))))); done)
                | ((try simp only [planS_none, planS_some, planH_none, planH_some, List.cons_append, List.nil_append]); (repeat (first | exact HpSub.refl _ | (apply HpSub.consE; (repeat (first | exact P0 | apply P1)); first | exact rfl | ((focus (simp [iv]; done)))) | apply HpSub.skip | exact HpSub.nil)); done)
          · try simp only [planS_none, planS_some, planH_none, planH_some, List.cons_append, List.nil_append]
            by_cases hsk : B ≤ L
            · have hB := hsk
              rw [← hBe] at hB
              have hge : x - gr ≤ L := by unfold befV at hB; omega
              repeat' (first | ((with_reducible apply oq_id); first | (focus ((with_reducible apply oq_indexAddrN); exact rfl; exact rfl; exact rfl; exact rfl; omega)) | ((with_reducible apply oq_addE (k := ((i + 1 : Nat) : Int))); exact rfl; exact rfl; omega) | (apply oq_fn; exact rfl; first | exact trivial | (refine ⟨?_, ?_⟩ <;> omega) | (refine ⟨?_, ?_, ?_⟩ <;> omega) | omega | skip) | ((with_reducible apply oq_load); exact rfl; exact rfl) | ((with_reducible apply oq_call (k := 75) (hc := Try.call75)); exact rfl; exact rfl; exact fun D w1 hw1 => HB hw1.ext.ext (Has.sub (by (repeat (first | exact HpSub.refl _ | apply HpSub.skip))) hw1))) | ((with_reducible apply tl_id); first | ((with_reducible apply tl_nil)) | ((with_reducible apply u_q); exact rfl; exact rfl; exact rfl; exact rfl)) | ((with_reducible apply rd_id); first | (apply Rd.old; (first | (with_reducible assumption) | exact c0 | exact c1 | exact c2 | exact c3 | exact c4 | exact c5 | exact c6 | exact c7 | exact c8 | exact d0 | exact d1 | exact d2 | exact d3 | exact d4 | exact d5); first | exact List.not_mem_nil | exact m0 | exact m1 | exact m2 | exact m3 | exact m4 | exact m5 | exact m6 | exact m7 | exact m8 | exact m9)) | ((with_reducible apply t_id); first | ((with_reducible apply t_seq)) | (apply t_region; kernel_rfl) | ((with_reducible apply t_condD); exact rfl; all_goals first | (intro hp; try (exfalso; omega)) | skip) | ((with_reducible apply t_skip)) | ((with_reducible apply t_block))) | with_reducible apply q_thenN | with_reducible apply q_blockN)
              all_goals (refine ⟨(i + 1, k, L - x, pre, some (go, co)), ⟨by simp only; omega, ?_, ?_, by simp only; omega, by simp only; omega, by simp only; omega, ?_, ?_⟩, by simp only; omega, ?_, ?_⟩)
              all_goals first
                | (simp only; rw [hpl, hdrop, insG_skip hB]; done)
                | (simp only; exact nd_skip hB)
                | (simp only; rw [hpl, hdrop, insG_ins hB]; simp; done)
                | (simp only; exact hnd2)
                | exact hpre
                | (simp only; omega)
                | (simp only [List.length_append, List.length_cons, List.length_nil]; omega)
                | (intro h; cases h; done)
                | ((try simp only [planS_none, planS_some, planH_none, planH_some, List.cons_append, List.nil_append]); (repeat (first | exact FrSub.nil | (apply FrSub.cons; exact rfl) | (apply FrSub.consE; exact rfl; (focus (simp; done))))); done)
                | ((try simp only [planS_none, planS_some, planH_none, planH_some, List.cons_append, List.nil_append]); (repeat (first | exact HpSub.refl _ | (apply HpSub.consE; (repeat (first | exact P0 | apply P1)); first | exact rfl | ((focus (simp [iv]; done)))) | apply HpSub.skip | exact HpSub.nil)); done)
            · have hB := hsk
              rw [← hBe] at hB
              obtain ⟨hk1, hnd2, hgx⟩ := nd_ins (by rw [← hdrop]; exact hnd) hB
              repeat' (first | ((with_reducible apply oq_id); first | (focus ((with_reducible apply oq_indexAddrN); exact rfl; exact rfl; exact rfl; exact rfl; omega)) | ((with_reducible apply oq_subE (k := ((k - 1 : Nat) : Int))); exact rfl; exact rfl; omega) | ((with_reducible apply oq_addE (k := ((i + 1 : Nat) : Int))); exact rfl; exact rfl; omega) | (apply oq_fn; exact rfl; first | exact trivial | (refine ⟨?_, ?_⟩ <;> omega) | (refine ⟨?_, ?_, ?_⟩ <;> omega) | omega | skip) | ((with_reducible apply oq_load); exact rfl; exact rfl) | ((with_reducible apply oq_call (k := 75) (hc := Try.call75)); exact rfl; exact rfl; exact fun D w1 hw1 => HB hw1.ext.ext (Has.sub (by (repeat (first | exact HpSub.refl _ | apply HpSub.skip))) hw1))) | ((with_reducible apply tl_id); first | ((with_reducible apply tl_nil)) | ((with_reducible apply u_q); exact rfl; exact rfl; exact rfl; exact rfl) | ((with_reducible apply u_s); exact rfl; exact rfl; exact rfl)) | ((with_reducible apply os_id); first | ((with_reducible apply os_x); exact rfl) | ((with_reducible apply os_append (hk := app_ok41)); exact rfl; exact rfl; (repeat (first | exact P0 | apply P1)))) | ((with_reducible apply ox_id); first | ((with_reducible apply ox_buildSlice1); exact rfl; exact rfl; exact rfl; exact rfl; exact rfl; exact rfl; intro _)) | ((with_reducible apply rd_id); first | (apply Rd.own; (repeat (first | exact P0 | apply P1)); exact rfl; done) | (apply Rd.old; (first | (with_reducible assumption) | exact c0 | exact c1 | exact c2 | exact c3 | exact c4 | exact c5 | exact c6 | exact c7 | exact c8 | exact d0 | exact d1 | exact d2 | exact d3 | exact d4 | exact d5); first | exact List.not_mem_nil | exact m0 | exact m1 | exact m2 | exact m3 | exact m4 | exact m5 | exact m6 | exact m7 | exact m8 | exact m9)) | ((with_reducible apply t_id); first | ((with_reducible apply t_seq)) | (apply t_region; kernel_rfl) | ((with_reducible apply t_condD); exact rfl; all_goals first | (intro hp; try (exfalso; omega)) | skip) | ((with_reducible apply t_skip)) | ((with_reducible apply t_block))) | with_reducible apply q_thenN | with_reducible apply q_blockN | exact Rdn.zero | apply Rdn.succ | (simp only [List.length_map, Nat.mul_one]; done) | exact Nat.le_of_ble_eq_true rfl | exact (rfl : (_ : Bool) = true) | omega | (intro _ _; with_reducible apply tl_id))
              all_goals (rename_i gN cN; refine ⟨(i + 1, k - 1, min L 0 + ev - x, pre ++ [(i : Int)], some (gN, cN)), ⟨by simp only; omega, ?_, ?_, by simp only; omega, by simp only; omega, by simp only; omega, ?_, ?_⟩, by simp only; omega, ?_, ?_⟩)
              all_goals first
                | (simp only; rw [hpl, hdrop, insG_skip hB]; done)
                | (simp only; exact nd_skip hB)
                | (simp only; rw [hpl, hdrop, insG_ins hB]; simp; done)
                | (simp only; exact hnd2)
                | exact hpre
                | (simp only; omega)
                | (simp only [List.length_append, List.length_cons, List.length_nil]; omega)
                | (intro h; cases h; done)
                | ((try simp only [planS_none, planS_some, planH_none, planH_some, List.cons_append, List.nil_append]); (repeat (first | exact FrSub.nil | (apply FrSub.cons; exact rfl) | (apply FrSub.consE; exact rfl; (focus (simp; done))))); done)
                | ((try simp only [planS_none, planS_some, planH_none, planH_some, List.cons_append, List.nil_append]); (repeat (first | exact HpSub.refl _ | (apply HpSub.consE; (repeat (first | exact P0 | apply P1)); first | exact rfl | ((focus (simp [iv]; done)))) | apply HpSub.skip | exact HpSub.nil)); done)
        · obtain rfl : n = i := by omega
          have hfin : insV ev gr du fs = pre := by rw [hpl, List.drop_of_length_le (by omega)]; simp [insG]
          rw [hE, hfin]
          rcases o with _ | ⟨go, co⟩
          · obtain rfl := hpre rfl
            try simp only [planS_none, planS_some, planH_none, planH_some, List.cons_append, List.nil_append]
            repeat' (first | ((with_reducible apply oq_id); first | (apply oq_fn; exact rfl; first | exact trivial | (refine ⟨?_, ?_⟩ <;> omega) | (refine ⟨?_, ?_, ?_⟩ <;> omega) | omega | skip)) | ((with_reducible apply tl_id); first | ((with_reducible apply tl_nil)) | ((with_reducible apply u_q); exact rfl; exact rfl; exact rfl; exact rfl)) | ((with_reducible apply t_id); first | ((with_reducible apply t_seq)) | (apply t_region; kernel_rfl) | ((with_reducible apply t_condD); exact rfl; all_goals first | (intro hp; try (exfalso; omega)) | skip) | ((with_reducible apply t_ret)) | ((with_reducible apply t_exit))) | with_reducible apply q_thenN | with_reducible apply q_thenE | ((with_reducible apply q_blockE); exact rfl) | ((with_reducible apply end_ret)) | exact rvs_nil | ((with_reducible apply rvs_cons)) | ((with_reducible apply rv_tmp); exact rfl))
            all_goals exact ⟨_, .inr ⟨rfl, none, fun _ => rfl, rfl, rfl⟩, HpSub.nil⟩
          · try simp only [planS_none, planS_some, planH_none, planH_some, List.cons_append, List.nil_append]
            repeat' (first | ((with_reducible apply oq_id); first | (apply oq_fn; exact rfl; first | exact trivial | (refine ⟨?_, ?_⟩ <;> omega) | (refine ⟨?_, ?_, ?_⟩ <;> omega) | omega | skip)) | ((with_reducible apply tl_id); first | ((with_reducible apply tl_nil)) | ((with_reducible apply u_q); exact rfl; exact rfl; exact rfl; exact rfl)) | ((with_reducible apply t_id); first | ((with_reducible apply t_seq)) | (apply t_region; kernel_rfl) | ((with_reducible apply t_condD); exact rfl; all_goals first | (intro hp; try (exfalso; omega)) | skip) | ((with_reducible apply t_ret)) | ((with_reducible apply t_exit))) | with_reducible apply q_thenN | with_reducible apply q_thenE | ((with_reducible apply q_blockE); exact rfl) | ((with_reducible apply end_ret)) | exact rvs_nil | ((with_reducible apply rvs_cons)) | ((with_reducible apply rv_tmp); exact rfl))
            all_goals exact ⟨_, .inr ⟨rfl, some (go, co), (fun h => by cases h), rfl, rfl⟩, by (repeat (first | exact HpSub.refl _ | (apply HpSub.consE; (repeat (first | exact P0 | apply P1)); exact rfl) | apply HpSub.skip | exact HpSub.nil))⟩
  · have hE : insE ev gr du fs = caredE ev gr du fs := by unfold insE; rw [if_neg hce]
    rw [hE]
    obtain ⟨E, hEE⟩ : ∃ E, caredE ev gr du fs = E := ⟨_, rfl⟩
    rw [hEE] at HC hce ⊢
    refine enterF (c := cx w 144) Try.func28 rfl rfl rfl rfl ?_
    repeat' (first | ((with_reducible apply oq_id); first | (apply oq_fn; exact rfl; first | exact trivial | (refine ⟨?_, ?_⟩ <;> omega) | (refine ⟨?_, ?_, ?_⟩ <;> omega) | omega | skip) | ((with_reducible apply oq_load); exact rfl; exact rfl) | ((with_reducible apply oq_loadAgg); exact rfl; exact rfl) | ((with_reducible apply oq_call (k := 71) (hc := Try.call71)); exact rfl; exact rfl; exact fun D w1 hw1 => HC w1 hw1.ext.ext)) | ((with_reducible apply tl_id); first | ((with_reducible apply tl_nil)) | ((with_reducible apply u_q); exact rfl; exact rfl; exact rfl; exact rfl) | ((with_reducible apply u_s); exact rfl; exact rfl; exact rfl)) | ((with_reducible apply os_id); first | ((with_reducible apply os_x); exact rfl)) | ((with_reducible apply ox_id); first | ((with_reducible apply ox_box); exact rfl; exact rfl; intro _) | ((with_reducible apply ox_boxAgg); exact rfl; intro _)) | ((with_reducible apply rd_id); first | (apply Rd.own; (repeat (first | exact P0 | apply P1)); exact rfl; done)) | ((with_reducible apply t_id); first | ((with_reducible apply t_seq)) | (apply t_region; kernel_rfl) | ((with_reducible apply t_condN); exact rfl; all_goals first | (intro hp; try (exfalso; omega)) | skip) | ((with_reducible apply t_ret))) | with_reducible apply q_thenN | with_reducible apply q_thenR | exact Rdn.zero | apply Rdn.succ | ((with_reducible apply end_ret)) | exact rvs_nil | ((with_reducible apply rvs_cons)) | ((with_reducible apply rv_tmp); exact rfl))
    all_goals exact ⟨_, .inl ⟨hce, rfl, rfl⟩, HpSub.nil⟩
end Go.Proofs.Ytmlmgipngbndgaa
namespace Go.Proofs.Ytmlmgipngbndgaa
open Go.ChangeShapes Go.WideShapes Go.ChangeAt Go.RowKit
set_option linter.unusedVariables false
set_option linter.unusedSimpArgs false
inductive Lf where
  | int (k : IntKind)
  | bool
def LfOk : Lf → Value → Prop
  | .int k, v => ∃ z, v = .int k z ∧ (Lit.int k z).wf = true
  | .bool, v => ∃ b, v = .bool b
def LfsOk : List Lf → List Value → Prop
  | [], [] => True
  | k :: ks, v :: vs => LfOk k v ∧ LfsOk ks vs
  | _, _ => False
theorem LfsOk.len : ∀ {ks : List Lf} {vs : List Value}, LfsOk ks vs → vs.length = ks.length
  | [], [], _ => rfl
  | k :: ks, v :: vs, h => by simp [LfsOk.len h.2]
  | [], _ :: _, h => h.elim
  | _ :: _, [], h => h.elim
theorem LfsOk.nil {vs : List Value} (h : LfsOk [] vs) : vs = [] := by cases vs with | nil => rfl | cons _ _ => exact h.elim
theorem LfsOk.int {k : IntKind} {ks : List Lf} {vs : List Value} (h : LfsOk (.int k :: ks) vs) : ∃ z us, vs = .int k z :: us ∧ (Lit.int k z).wf = true ∧ LfsOk ks us := by
  cases vs with
  | nil => exact h.elim
  | cons v vs => obtain ⟨⟨z, rfl, hw⟩, h2⟩ := h; exact ⟨z, vs, rfl, hw, h2⟩
theorem LfsOk.bool {ks : List Lf} {vs : List Value} (h : LfsOk (.bool :: ks) vs) : ∃ b us, vs = .bool b :: us ∧ LfsOk ks us := by
  cases vs with
  | nil => exact h.elim
  | cons v vs => obtain ⟨⟨z, rfl⟩, h2⟩ := h; exact ⟨z, vs, rfl, h2⟩
theorem LfsOk.append : ∀ {ks ls : List Lf} {vs us : List Value}, LfsOk ks vs → LfsOk ls us → LfsOk (ks ++ ls) (vs ++ us)
  | [], _, [], _, _, h => h
  | _ :: _, _, _ :: _, _, h, k => ⟨h.1, LfsOk.append h.2 k⟩
  | [], _, _ :: _, _, h, _ => h.elim
  | _ :: _, _, [], _, h, _ => h.elim
def ksFs (P : Program) (rec_ : TypeId → Option (List Lf)) : List Field → Nat → Option (List Lf)
  | [], _ => some []
  | f :: fs, o => match Nat.beq f.offset o, rec_ f.type, ksFs P rec_ fs (o + P.cellsOf f.type) with
    | true, some ks, some ls => match Nat.beq (P.cellsOf f.type) ks.length with
      | true => some (ks ++ ls)
      | false => none
    | _, _, _ => none
def ksOf (P : Program) : Nat → TypeId → Option (List Lf)
  | 0, _ => none
  | n + 1, t => match P.underlying t with
    | some (.int k) => some [.int k]
    | some .bool => some [.bool]
    | some (.struct fs) => match ksFs P (ksOf P n) fs.toList 0 with
      | some ks => match Nat.beq (P.cellsOf t) ks.length with
        | true => some ks
        | false => none
      | none => none
    | _ => none
section
variable {H : Type} {enc : TypeId × Value → H} {P : Program} {W : World} {base : Nat} {spare : Nat → Bool} {held : Bool}
theorem ksFs_ok {rec_ : TypeId → Option (List Lf)} {m : Nat} (hr : ∀ {t : TypeId} {ks : List Lf} {cs : List Value} {x : DataW H × List MemPlace}, rec_ t = some ks → DataW.trod enc P W base spare held m t cs = some x → LfsOk ks cs) {cs : List Value} :
    ∀ {fs : List Field} {o : Nat} {ks : List Lf}, ksFs P rec_ fs o = some ks → (∀ f ∈ fs, ∃ y, DataW.trod enc P W base spare held m f.type ((cs.drop f.offset).take (P.cellsOf f.type)) = some y) → o + ks.length ≤ cs.length → LfsOk ks ((cs.drop o).take ks.length)
  | [], o, ks, h, _, _ => by
    obtain rfl := Option.some.inj h
    simp [LfsOk]
  | f :: fs, o, ks, h, hy, hl => by
    unfold ksFs at h
    split at h
    · rename_i k1 l1 h1 h2 h3
      split at h
      · rename_i h4
        obtain rfl := Option.some.inj h
        have ho := Nat.eq_of_beq_eq_true h1
        have hc := Nat.eq_of_beq_eq_true h4
        obtain ⟨y, hy0⟩ := hy f (List.mem_cons_self ..)
        rw [ho, hc] at hy0
        have a1 := hr h2 hy0
        rw [hc] at h3
        simp only [List.length_append] at hl
        have a2 := ksFs_ok hr h3 (fun g hg => hy g (List.mem_cons_of_mem _ hg)) (by omega)
        have e : (cs.drop o).take (k1 ++ l1).length = (cs.drop o).take k1.length ++ (cs.drop (o + k1.length)).take l1.length := by
          rw [List.length_append, List.take_add, List.drop_drop]
        rw [e]
        exact a1.append a2
      · cases h
    · cases h
theorem ksOf_ok : ∀ {n : Nat} {t : TypeId} {ks : List Lf} {m : Nat} {cs : List Value} {x : DataW H × List MemPlace}, ksOf P n t = some ks → DataW.trod enc P W base spare held m t cs = some x → LfsOk ks cs
  | 0, _, _, _, _, _, h, _ => by cases h
  | n + 1, t, ks, m, cs, x, h, hx => by
    unfold ksOf at h
    split at h
    · rename_i k hu
      obtain rfl := Option.some.inj h
      obtain ⟨z, rfl, _, hw⟩ := DataW.trod_int hu hx
      exact ⟨⟨z, rfl, hw⟩, trivial⟩
    · rename_i hu
      obtain rfl := Option.some.inj h
      obtain ⟨b, rfl, _⟩ := DataW.trod_bool hu hx
      exact ⟨⟨b, rfl⟩, trivial⟩
    · rename_i fs hu
      split at h
      · rename_i ks' hk
        split at h
        · rename_i hc
          obtain rfl := Option.some.inj h
          have hc := Nat.eq_of_beq_eq_true hc
          obtain ⟨xs, k, _, _, hl, hlen, hf⟩ := DataW.trod_struct hu hx
          have := ksFs_ok (m := k) (cs := cs) (fun h1 h2 => ksOf_ok h1 h2) hk (fun f hfm => by
            obtain ⟨i, hi, hif⟩ := List.getElem_of_mem hfm
            have hi' : i < fs.size := by simpa using hi
            have e := hf i f (by rw [Array.getElem?_eq_getElem hi']; simpa using hif)
            rw [List.getElem?_eq_getElem (by omega)] at e
            exact ⟨_, e⟩) (by omega)
          rw [List.drop_zero, List.take_of_length_le (by omega)] at this
          exact this
        · cases h
      · cases h
    · cases h
/-- A struct of numbers, by value. -/
theorem open_struct {r : Reach} {b0 : Nat} {t : TypeId} {fs : Array Field} {n : Nat} {ks : List Lf} {v : Value} {d : DataW H} {p : List MemPlace} (hs : P.underlying t = some (.struct fs)) (hk : ksOf P n t = some ks)
    (hv : Value.okWide P W r b0 t v) (h : DataW.Trod enc P W base spare held t v d p) : ∃ cs, v = .agg ⟨cs⟩ ∧ LfsOk ks cs := by
  obtain ⟨cs, rfl, _⟩ := okWide_struct hs hv
  obtain ⟨fuel, hf⟩ := h
  obtain ⟨cs⟩ := cs
  exact ⟨cs, rfl, ksOf_ok hk hf⟩
/-- A slice of such. -/
theorem open_rows {r : Reach} {b0 : Nat} {t e : TypeId} {n : Nat} {ks : List Lf} {v : Value} {d : DataW H} {p : List MemPlace} (hs : P.underlying t = some (.slice e)) (hk : ksOf P n e = some ks) (hc : P.cellsOf e = ks.length) (hpos : 0 < ks.length)
    (hv : Value.okWide P W r b0 t v) (h : DataW.Trod enc P W 0 (fun _ => true) held t v d p) :
    ∃ (A : Option Addr) (m c : Nat) (rows : List (List Value)), v = .slice A m c ∧ RdS W ks.length A m rows ∧ ∀ x ∈ rows, LfsOk ks x := by
  obtain ⟨A, m, c, rfl⟩ := okWide_slice hs hv
  obtain ⟨fuel, hf⟩ := h
  refine ⟨A, m, c, ?_⟩
  rcases Go.Deep.open_slice hs hf with ⟨h1, _⟩ | ⟨a, len, cap, m', k, D, Pl, h1, _, hlc, _, hm, _, hi⟩
  · simp only [Value.cells, List.cons.injEq, Value.slice.injEq, and_true] at h1
    obtain ⟨rfl, rfl, rfl⟩ := h1
    exact ⟨[], rfl, RdS.nil _ _ _, fun x hx => (List.not_mem_nil hx).elim⟩
  · simp only [Value.cells, List.cons.injEq, Value.slice.injEq, and_true] at h1
    obtain ⟨rfl, rfl, rfl⟩ := h1
    simp only [if_true] at hm
    subst hm
    rw [hc] at hi
    have key : ∀ i, i < m → ∃ y : List Value, LfsOk ks y ∧ ∀ j u, y[j]? = some u → W.cell? ((a.add (i * ks.length)).add j) = some u := fun i hin => by
      obtain ⟨cs, hc, ht⟩ := hi i (by omega)
      obtain ⟨_, hlc, hat⟩ := World.cells?_some hc
      exact ⟨cs, ksOf_ok hk ht, fun j u hu => by rw [hat j (by rw [← hlc]; exact (List.getElem?_eq_some_iff.1 hu).1)]; exact hu⟩
    let f : Nat → List Value := fun i => if h : i < m then Classical.choose (key i h) else []
    have hfk : ∀ i, i < m → LfsOk ks (f i) ∧ ∀ j u, (f i)[j]? = some u → W.cell? ((a.add (i * ks.length)).add j) = some u := fun i hin => by
      simp only [f, dif_pos hin]
      exact Classical.choose_spec (key i hin)
    have hmem : ∀ x ∈ (List.range m).map f, LfsOk ks x := fun x hx => by
      obtain ⟨i, hi, rfl⟩ := List.mem_map.1 hx
      exact (hfk i (List.mem_range.1 hi)).1
    refine ⟨(List.range m).map f, rfl, ⟨by simp, fun h0 => ?_⟩, hmem⟩
    have l0 := (hfk 0 h0).1.len
    have c0 := (hfk 0 h0).2 0 _ (List.getElem?_eq_getElem (by omega))
    obtain ⟨b, o, sp⟩ := a
    have hsp : sp = none := by simpa [Addr.add] using World.cell?_spot c0
    subst hsp
    refine ⟨b, o, rfl, by simpa [Addr.add] using cell_lt c0, fun i x hx => ⟨(hmem x (List.mem_of_getElem? hx)).len, fun j u hu => ?_⟩⟩
    rw [List.getElem?_map, Option.map_eq_some_iff] at hx
    obtain ⟨i', h2, rfl⟩ := hx
    obtain ⟨h3, h4⟩ := List.getElem?_eq_some_iff.1 h2
    simp only [List.getElem_range, List.length_range] at h3 h4
    subst h4
    have := (hfk i h3).2 j u hu
    rw [add_eq, add_eq] at this
    exact this
end
theorem rows_ofP {α : Type} {f : α → List Value} {p : α → Prop} : ∀ {rows : List (List Value)}, (∀ x ∈ rows, ∃ y, x = f y ∧ p y) → ∃ l : List α, rows = l.map f ∧ ∀ y ∈ l, p y
  | [], _ => ⟨[], rfl, fun y hy => (List.not_mem_nil hy).elim⟩
  | x :: rows, h => by
    obtain ⟨y, rfl, hy⟩ := h x (List.mem_cons_self ..)
    obtain ⟨l, rfl, hl⟩ := rows_ofP (fun z hz => h z (List.mem_cons_of_mem _ hz))
    exact ⟨y :: l, rfl, fun z hz => by rcases List.mem_cons.1 hz with rfl | hz; exact hy; exact hl z hz⟩
end Go.Proofs.Ytmlmgipngbndgaa
namespace Go.Proofs.Ytmlmgipngbndgaa
open Go.RowKit
attribute [local irreducible] OQ OS OX Rd T TL GX GL AL AI RV wpG SAny Calls
set_option maxRecDepth 100000
set_option maxHeartbeats 2000000
set_option linter.unusedVariables false
set_option linter.unusedSimpArgs false
theorem sameInts_calls (A A' : Option Addr) (n c n' c' : Nat) (l m : List Int) (q : Bool) (hq : q = true ↔ l = m) (w : World) (hr : RdS w 1 A n (l.map inCells)) (hr' : RdS w 1 A' n' (m.map inCells)) (hn : n ≤ 1000000) (hn' : n' ≤ 1000000) :
    Calls Try.prog 32 #[.slice A n c, .slice A' n' c'] w fun e w' => e = .returned (.bool q) ∧ Ext w w' := by
  have hl := hr.len
  have hl' := hr'.len
  simp only [List.length_map] at hl hl'
  by_cases hnn : n = n'
  · subst hnn
    refine enterQ (c := cx w 26) Try.func32 rfl rfl rfl rfl ?_
    repeat' (first | ((with_reducible apply oq_id); first | (apply oq_fn; exact rfl; first | exact trivial | (refine ⟨?_, ?_⟩ <;> omega) | (refine ⟨?_, ?_, ?_⟩ <;> omega) | omega | skip)) | ((with_reducible apply tl_id); first | ((with_reducible apply tl_nil)) | ((with_reducible apply u_q); exact rfl; exact rfl; exact rfl; exact rfl)) | ((with_reducible apply t_id); first | ((with_reducible apply t_seq)) | (apply t_region; kernel_rfl) | ((with_reducible apply t_condN); exact rfl; all_goals first | (intro hp; try (exfalso; omega)) | skip) | ((with_reducible apply t_skip)) | ((with_reducible apply t_block))) | with_reducible apply q_thenN)
    apply t_loopK (ι := Nat) [0, 1] (fun k => [(5, .int .i64 (k : Nat))]) (fun _ => []) (fun k => k ≤ n ∧ ∀ j, j < k → l[j]? = m[j]?) (fun k => n - k) (0)
    (repeat (first | exact KeepF.nil | (apply KeepF.cons; exact rfl) | apply KeepF.skip))
    (repeat (first | exact FrSub.nil | (apply FrSub.cons; exact rfl)))
    (repeat (first | exact HpSub.refl _ | (apply HpSub.consE; (repeat (first | exact P0 | apply P1)); exact rfl) | exact HpSub.nil))
    · exact ⟨by omega, fun j hj => by omega⟩
    rintro k ⟨hk, hkp⟩
    try simp only [List.cons_append, List.nil_append]
    by_cases hlt : k < n
    · obtain ⟨b, o, x, rfl, _, hx, c0⟩ := in_read hr hlt
      obtain ⟨b', o', y, rfl, _, hy, d0⟩ := in_read hr' hlt
      by_cases hxy : x = y
      · subst hxy
        repeat' (first | ((with_reducible apply oq_id); first | (focus ((with_reducible apply oq_indexAddrN); exact rfl; exact rfl; exact rfl; exact rfl; omega)) | (apply oq_fn; exact rfl; first | exact trivial | (refine ⟨?_, ?_⟩ <;> omega) | (refine ⟨?_, ?_, ?_⟩ <;> omega) | omega | skip) | ((with_reducible apply oq_load); exact rfl; exact rfl)) | ((with_reducible apply tl_id); first | ((with_reducible apply tl_nil)) | ((with_reducible apply u_q); exact rfl; exact rfl; exact rfl; exact rfl)) | ((with_reducible apply gx_id); first | ((with_reducible apply v_nil)) | ((with_reducible apply v_q); exact rfl; exact rfl; exact rfl)) | ((with_reducible apply rd_id); first | (apply Rd.old; (first | (with_reducible assumption) | exact c0 | exact c1 | exact c2 | exact c3 | exact c4 | exact c5 | exact c6 | exact c7 | exact c8 | exact d0 | exact d1 | exact d2 | exact d3 | exact d4 | exact d5); first | exact List.not_mem_nil | exact m0 | exact m1 | exact m2 | exact m3 | exact m4 | exact m5 | exact m6 | exact m7 | exact m8 | exact m9)) | ((with_reducible apply t_id); first | ((with_reducible apply t_seq)) | (apply t_region; kernel_rfl) | (apply t_drawn; kernel_rfl; decide +kernel; try simp only [List.append_eq, List.cons_append, List.nil_append]) | ((with_reducible apply t_condD); exact rfl; all_goals first | (intro hp; try (exfalso; omega)) | skip) | ((with_reducible apply t_condN); exact rfl; all_goals first | (intro hp; try (exfalso; omega)) | skip) | ((with_reducible apply t_skip)) | ((with_reducible apply t_block))) | with_reducible apply q_thenN | with_reducible apply q_blockN)
        refine ⟨k + 1, ⟨by omega, fun j hj => ?_⟩, by omega, ?_, ?_⟩
        · rcases Nat.lt_or_ge j k with h | h
          · exact hkp j h
          · obtain rfl : j = k := by omega
            rw [hx, hy]
        · try simp only [List.cons_append, List.nil_append]
          (repeat' (first | exact FrSub.nil | (apply FrSub.cons; exact rfl)))
        · try simp only [List.cons_append, List.nil_append]
          (repeat' (first | exact HpSub.refl _))
      · repeat' (first | ((with_reducible apply oq_id); first | (focus ((with_reducible apply oq_indexAddrN); exact rfl; exact rfl; exact rfl; exact rfl; omega)) | (apply oq_fn; exact rfl; first | exact trivial | (refine ⟨?_, ?_⟩ <;> omega) | (refine ⟨?_, ?_, ?_⟩ <;> omega) | omega | skip) | ((with_reducible apply oq_load); exact rfl; exact rfl)) | ((with_reducible apply tl_id); first | ((with_reducible apply tl_nil)) | ((with_reducible apply u_q); exact rfl; exact rfl; exact rfl; exact rfl)) | ((with_reducible apply gx_id); first | ((with_reducible apply v_nil)) | ((with_reducible apply v_q); exact rfl; exact rfl; exact rfl)) | ((with_reducible apply rd_id); first | (apply Rd.old; (first | (with_reducible assumption) | exact c0 | exact c1 | exact c2 | exact c3 | exact c4 | exact c5 | exact c6 | exact c7 | exact c8 | exact d0 | exact d1 | exact d2 | exact d3 | exact d4 | exact d5); first | exact List.not_mem_nil | exact m0 | exact m1 | exact m2 | exact m3 | exact m4 | exact m5 | exact m6 | exact m7 | exact m8 | exact m9)) | ((with_reducible apply t_id); first | ((with_reducible apply t_seq)) | (apply t_region; kernel_rfl) | (apply t_drawn; kernel_rfl; decide +kernel; try simp only [List.append_eq, List.cons_append, List.nil_append]) | ((with_reducible apply t_condD); exact rfl; all_goals first | (intro hp; try (exfalso; omega)) | skip) | ((with_reducible apply t_condN); exact rfl; all_goals first | (intro hp; try (exfalso; omega)) | skip) | ((with_reducible apply t_ret)) | ((with_reducible apply t_skip)) | ((with_reducible apply t_block))) | with_reducible apply q_thenN | with_reducible apply q_thenR | with_reducible apply q_blockR | ((with_reducible apply end_ret)) | exact rvs_nil | ((with_reducible apply rvs_cons)) | ((with_reducible apply rv_tmp); exact rfl))
        have hf : q = false := by
          cases q with
          | false => rfl
          | true =>
            have e := hq.1 rfl
            rw [e, hy] at hx
            exact absurd (Option.some.inj hx).symm hxy
        rw [hf]; rfl
    · repeat' (first | ((with_reducible apply oq_id); first | (apply oq_fn; exact rfl; first | exact trivial | (refine ⟨?_, ?_⟩ <;> omega) | (refine ⟨?_, ?_, ?_⟩ <;> omega) | omega | skip)) | ((with_reducible apply tl_id); first | ((with_reducible apply tl_nil)) | ((with_reducible apply u_q); exact rfl; exact rfl; exact rfl; exact rfl)) | ((with_reducible apply t_id); first | ((with_reducible apply t_seq)) | (apply t_region; kernel_rfl) | ((with_reducible apply t_condD); exact rfl; all_goals first | (intro hp; try (exfalso; omega)) | skip) | ((with_reducible apply t_ret)) | ((with_reducible apply t_exit))) | with_reducible apply q_thenN | with_reducible apply q_thenE | ((with_reducible apply q_blockE); exact rfl) | ((with_reducible apply end_ret)) | exact rvs_nil | ((with_reducible apply rvs_cons)) | ((with_reducible apply rv_tmp); exact rfl))
      have : q = true := hq.2 (List.ext_getElem? fun j => by
        rcases Nat.lt_or_ge j n with h | h
        · exact hkp j (by omega)
        · rw [List.getElem?_eq_none (by omega), List.getElem?_eq_none (by omega)])
      rw [this]; rfl
  · have : q = false := by
      cases q with
      | false => rfl
      | true => exact absurd (by rw [← hl, ← hl', hq.1 rfl]) hnn
    refine enterQ (c := cx w 26) Try.func32 rfl rfl rfl rfl ?_
    repeat' (first | ((with_reducible apply oq_id); first | (apply oq_fn; exact rfl; first | exact trivial | (refine ⟨?_, ?_⟩ <;> omega) | (refine ⟨?_, ?_, ?_⟩ <;> omega) | omega | skip)) | ((with_reducible apply tl_id); first | ((with_reducible apply tl_nil)) | ((with_reducible apply u_q); exact rfl; exact rfl; exact rfl; exact rfl)) | ((with_reducible apply t_id); first | ((with_reducible apply t_seq)) | (apply t_region; kernel_rfl) | ((with_reducible apply t_condN); exact rfl; all_goals first | (intro hp; try (exfalso; omega)) | skip) | ((with_reducible apply t_ret))) | with_reducible apply q_thenN | with_reducible apply q_thenR | ((with_reducible apply end_ret)) | exact rvs_nil | ((with_reducible apply rvs_cons)) | ((with_reducible apply rv_tmp); exact rfl))
    rw [this]
    all_goals rfl
theorem in_len (l : List Int) : ∀ r ∈ l.map inCells, r.length = 1 := by simp only [List.mem_map]; rintro r ⟨x, _, rfl⟩; rfl
theorem in_own {w0 : World} {M : Ms} {H H' : Hp} {w : World} {g n : Nat} {l : List Int} {tg : Tg} (hl : l.length = n) (h : Has w0 M H w) (q : Pick H g (l.map inCells).flatten tg H') : RdS w 1 (some ⟨g, 0, none⟩) n (l.map inCells) :=
  Blk.rows (h.blk _ q.mem).2 (by simpa using hl) (in_len l)
def InsY (pl : List Int) (V : Value) (H : Hp) : Prop := ∃ o, (o = none → pl = []) ∧ V = .tuple #[planS pl o, .int .i64 0] ∧ H = planH pl o
theorem insY {E : Int} {pl : List Int} {V : Value} {H : Hp} (he : E = 0) (h : InsO E pl V H) : InsY pl V H := by
  rcases h with ⟨h, _⟩ | ⟨_, h⟩
  · exact absurd he h
  · exact h
end Go.Proofs.Ytmlmgipngbndgaa
namespace Go.Proofs.Ytmlmgipngbndgaa
open Go.RowKit
attribute [local irreducible] OQ OS OX Rd T TL GX GL AL AI RV wpG SAny Calls
set_option maxRecDepth 100000
set_option maxHeartbeats 2000000
set_option linter.unusedVariables false
set_option linter.unusedSimpArgs false
theorem eq_tri99 {w : World} {d : Nat} {a b e a' b' e' : Int} : (Op.equalIn (d + 2) 99 (.agg ⟨[.int .i64 a, .int .i64 b, .int .i64 e]⟩) (.agg ⟨[.int .i64 a', .int .i64 b', .int .i64 e']⟩)).run Try.prog w = .ok (decide (a = a') && (decide (b = b') && (decide (e = e') && true))) w := by
  rw [run_equalIn_struct w (d + 1) 99 _ _ (by kernel_rfl) (by kernel_rfl)]
  simp only [Program.fieldsOf, Try.underlying99]
  exact eqF_int rfl rfl rfl rfl rfl (eqF_int rfl rfl rfl rfl rfl (eqF_int rfl rfl rfl rfl rfl eqF_nil))
section
variable {w : World} {N : Nat} {F : Fr} {H : Hp} {M : List Nat} {d : Option Tmp} {ty t' : TypeId} {pos : String} {af : Array Edge} {g : Option (Nat × Bool)} {x y : Operand} {a b e a' b' e' : Int}
theorem oq_ne99 (hx : ev F x = some (.agg ⟨[.int .i64 a, .int .i64 b, .int .i64 e]⟩)) (hy : ev F y = some (.agg ⟨[.int .i64 a', .int .i64 b', .int .i64 e']⟩)) :
    OQ (cxM M w N) ⟨d, .binOp .neq 99 x y t', ty, pos, af, g⟩ F H (.bool (!decide (a = a' ∧ b = b' ∧ e = e'))) := oq_neS (by kernel_rfl) (fun w => by rw [eq_tri99 (d := 9998)]; congr 1; rw [Bool.eq_iff_iff]; simp) hx hy
theorem oq_eq99 (hx : ev F x = some (.agg ⟨[.int .i64 a, .int .i64 b, .int .i64 e]⟩)) (hy : ev F y = some (.agg ⟨[.int .i64 a', .int .i64 b', .int .i64 e']⟩)) :
    OQ (cxM M w N) ⟨d, .binOp .eql 99 x y t', ty, pos, af, g⟩ F H (.bool (decide (a = a' ∧ b = b' ∧ e = e'))) := oq_eqS (by kernel_rfl) (fun w => by rw [eq_tri99 (d := 9998)]; congr 1; rw [Bool.eq_iff_iff]; simp) hx hy
theorem oq_ne99G (hx : ev F x = some (.agg ⟨[.int .i64 a, .int .i64 b, .int .i64 e]⟩)) (hy : ev F y = some (.agg ⟨[.int .i64 a, .int .i64 b, .int .i64 e]⟩)) : OQ (cxM M w N) ⟨d, .binOp .neq 99 x y t', ty, pos, af, g⟩ F H (.bool false) := (oq_ne99 hx hy).as (by simp)
end
theorem ti_read {w : World} {A : Option Addr} {n : Nat} {l : List Ti} (h : RdS w 3 A n (l.map tiCells)) {i : Nat} (hi : i < n) :
    ∃ b o x, A = some ⟨b, o, none⟩ ∧ b < w.heap.size ∧ l[i]? = some x ∧ w.cell? ⟨b, o + i * 3, none⟩ = some (.int .i64 x.kind) ∧ w.cell? ⟨b, o + i * 3 + 1, none⟩ = some (.int .i64 x.who) ∧ w.cell? ⟨b, o + i * 3 + 2, none⟩ = some (.int .i64 x.at_) := by
  obtain ⟨b, o, cs, hA, hb, hx, _, hc⟩ := h.row hi
  simp only [List.getElem?_map, Option.map_eq_some_iff] at hx
  obtain ⟨x, hx, rfl⟩ := hx
  exact ⟨b, o, x, hA, hb, hx, hc 0 _ rfl, hc 1 _ rfl, hc 2 _ rfl⟩
theorem sameTi_calls (A B : Option Addr) (n c c' : Nat) (l : List Ti) (w : World) (hr : RdS w 3 A n (l.map tiCells)) (hr' : RdS w 3 B n (l.map tiCells)) (hn : n ≤ 1000000) :
    Calls Try.prog 48 #[.slice A n c, .slice B n c'] w fun e w' => e = .returned (.bool true) ∧ Ext w w' := by
  refine enterQ (c := cx w 26) Try.func48 rfl rfl rfl rfl ?_
  repeat' (first | ((with_reducible apply oq_id); first | ((with_reducible apply oq_neqF); exact rfl; exact rfl; omega) | (apply oq_fn; exact rfl; first | exact trivial | (refine ⟨?_, ?_⟩ <;> omega) | (refine ⟨?_, ?_, ?_⟩ <;> omega) | omega | skip)) | ((with_reducible apply tl_id); first | ((with_reducible apply tl_nil)) | ((with_reducible apply u_q); exact rfl; exact rfl; exact rfl; exact rfl)) | ((with_reducible apply t_id); first | ((with_reducible apply t_seq)) | (apply t_region; kernel_rfl) | ((with_reducible apply t_condF); exact rfl) | ((with_reducible apply t_skip)) | ((with_reducible apply t_block))) | with_reducible apply q_thenN)
  apply t_loopK (ι := Nat) [0, 1] (fun i => [(5, .int .i64 (i : Nat))]) (fun _ => []) (fun i => i ≤ n) (fun i => n - i) (0)
  (repeat (first | exact KeepF.nil | (apply KeepF.cons; exact rfl) | apply KeepF.skip))
  (repeat (first | exact FrSub.nil | (apply FrSub.cons; exact rfl)))
  (repeat (first | exact HpSub.refl _ | (apply HpSub.consE; (repeat (first | exact P0 | apply P1)); exact rfl) | exact HpSub.nil))
  · exact Nat.zero_le _
  rintro i hi
  try simp only [List.cons_append, List.nil_append]
  by_cases hlt : i < n
  · obtain ⟨b, o, x, rfl, _, hx, c0, c1, c2⟩ := ti_read hr hlt
    obtain ⟨b', o', x', rfl, _, hx', d0, d1, d2⟩ := ti_read hr' hlt
    rw [hx] at hx'
    cases hx'
    repeat' (first | ((with_reducible apply oq_id); first | (focus ((with_reducible apply oq_indexAddrN); exact rfl; exact rfl; exact rfl; exact rfl; omega)) | ((with_reducible apply oq_ne99G); exact rfl; exact rfl) | ((with_reducible apply oq_lssT); exact rfl; exact rfl; omega) | (apply oq_fn; exact rfl; first | exact trivial | (refine ⟨?_, ?_⟩ <;> omega) | (refine ⟨?_, ?_, ?_⟩ <;> omega) | omega | skip) | ((with_reducible apply oq_loadAgg); exact rfl; exact rfl)) | ((with_reducible apply tl_id); first | ((with_reducible apply tl_nil)) | ((with_reducible apply u_q); exact rfl; exact rfl; exact rfl; exact rfl)) | ((with_reducible apply gx_id); first | ((with_reducible apply v_nil)) | ((with_reducible apply v_q); exact rfl; exact rfl; exact rfl)) | ((with_reducible apply rd_id); first | (apply Rd.old; (first | exact c0 | exact c1 | exact c2 | exact d0 | exact d1 | exact d2); exact List.not_mem_nil)) | ((with_reducible apply t_id); first | ((with_reducible apply t_seq)) | (apply t_region; kernel_rfl) | (apply t_drawn; kernel_rfl; decide +kernel; try simp only [List.append_eq, List.cons_append, List.nil_append]) | ((with_reducible apply t_condT); exact rfl) | ((with_reducible apply t_condF); exact rfl) | ((with_reducible apply t_skip)) | ((with_reducible apply t_block))) | with_reducible apply q_thenN | with_reducible apply q_blockN | exact Rdn.zero | apply Rdn.succ)
    all_goals (refine ⟨(i + 1), (by omega), (by omega), ?_, ?_⟩ <;> (try simp only [List.cons_append, List.nil_append]) <;> (repeat' (first | exact FrSub.nil | (apply FrSub.cons; exact rfl) | exact HpSub.refl _)))
  · repeat' (first | ((with_reducible apply oq_id); first | ((with_reducible apply oq_lssF); exact rfl; exact rfl; omega) | (apply oq_fn; exact rfl; first | exact trivial | (refine ⟨?_, ?_⟩ <;> omega) | (refine ⟨?_, ?_, ?_⟩ <;> omega) | omega | skip)) | ((with_reducible apply tl_id); first | ((with_reducible apply tl_nil)) | ((with_reducible apply u_q); exact rfl; exact rfl; exact rfl; exact rfl)) | ((with_reducible apply t_id); first | ((with_reducible apply t_seq)) | (apply t_region; kernel_rfl) | ((with_reducible apply t_condF); exact rfl) | ((with_reducible apply t_ret)) | ((with_reducible apply t_exit))) | with_reducible apply q_thenN | with_reducible apply q_thenE | ((with_reducible apply q_blockE); exact rfl) | ((with_reducible apply end_ret)) | exact rvs_nil | ((with_reducible apply rvs_cons)) | ((with_reducible apply rv_tmp); exact rfl))
    all_goals rfl
end Go.Proofs.Ytmlmgipngbndgaa
namespace Go.Proofs.Ytmlmgipngbndgaa
open Go.RowKit
attribute [local irreducible] OQ OS OX Rd T TL GX GL AL AI RV wpG SAny Calls
set_option maxRecDepth 100000
set_option maxHeartbeats 2000000
set_option linter.unusedVariables false
set_option linter.unusedSimpArgs false
theorem hp_skipApp {G R X : Hp} (h : HpSub R X) : HpSub (G ++ R) X := by
  induction G with
  | nil => exact h
  | cons x G ih => exact HpSub.skipX ih
theorem hp_appC {A H G : Hp} (h : HpSub H G) : HpSub (A ++ H) (A ++ G) := by
  induction A with
  | nil => exact h
  | cons x A ih => obtain ⟨b, C, g⟩ := x; exact HpSub.cons P0 ih
theorem ti_rows {w0 : World} {M : Ms} {w : World} {T : List Ti} {x : Option (Nat × Nat)} (h : Has w0 M (clH 99 3 (tiB T) x) w) (hx : x = none → T.length = 0) : RdS w 3 (clA x) T.length (T.map tiCells) :=
  clH_rows (f := tiCells) (l := T) (x := x) h (fun _ => rfl) rfl hx
end Go.Proofs.Ytmlmgipngbndgaa
namespace Go.Proofs.Ytmlmgipngbndgaa
set_option linter.unusedVariables false
set_option linter.unusedSimpArgs false
theorem giveL_length (f : Int) : ∀ (n : Int) (l : List Bk), (giveL f n l).length = l.length
  | _, [] => rfl
  | n, x :: l => by
    unfold giveL
    split <;> simp [giveL_length f _ l]
theorem giveL_le {f : Int} : ∀ {n : Int} {l : List Bk}, n ≤ 0 → giveL f n l = l
  | _, [], _ => rfl
  | n, x :: l, h => by
    unfold giveL
    rw [if_neg (fun hh => by omega), giveL_le h]
theorem mt_isB (f s : Int) (x : Bk) : mtB f [s] x = isB f s x := by
  unfold mtB isB
  simp
theorem take_one {C : List Bk} {p : Nat} {y : Bk} (h : C[p]? = some y) : C.take (p + 1) = C.take p ++ [y] := by rw [List.take_add_one, h]; rfl
theorem drop_one {C : List Bk} {p : Nat} {y : Bk} (h : C[p]? = some y) : C.drop p = y :: C.drop (p + 1) := by
  obtain ⟨h1, h2⟩ := List.getElem?_eq_some_iff.1 h
  rw [List.drop_eq_getElem_cons h1, h2]
theorem take_set {C : List Bk} {p : Nat} {y z : Bk} (h : C[p]? = some y) : (C.set p z).take (p + 1) = C.take p ++ [z] := by
  have hl := (List.getElem?_eq_some_iff.1 h).1
  rw [take_one (y := z) (by simp [hl]), List.take_set_of_le (Nat.le_refl p)]
theorem drop_set {C : List Bk} {p : Nat} {z : Bk} : (C.set p z).drop (p + 1) = C.drop (p + 1) := List.drop_set_of_lt (Nat.lt_succ_self p)
theorem giv_gap {f n : Int} {C final : List Bk} {p : Nat} : ∀ {q : Nat}, p ≤ q → (∀ j y, p ≤ j → j < q → C[j]? = some y → isB f 2 y = false) → final = C.take p ++ giveL f n (C.drop p) → final = C.take q ++ giveL f n (C.drop q) := by
  intro q
  induction q with
  | zero => intro hp _ h; obtain rfl : p = 0 := by omega
            exact h
  | succ q ih =>
    intro hp hno h
    by_cases e : p = q + 1
    · rw [← e]; exact h
    · have h1 := ih (by omega) (fun j y a b => hno j y a (by omega)) h
      cases hy : C[q]? with
      | none =>
        have hl := List.getElem?_eq_none_iff.1 hy
        rw [List.take_of_length_le hl, List.drop_eq_nil_of_le hl] at h1
        rw [List.take_of_length_le (by omega), List.drop_eq_nil_of_le (by omega)]
        exact h1
      | some y =>
        have hb := hno q y (by omega) (by omega) hy
        rw [drop_one hy] at h1
        unfold giveL at h1
        rw [if_neg (fun hh => by rw [hb] at hh; cases hh.1)] at h1
        rw [h1, take_one hy, List.append_assoc]
        rfl
theorem giv_end {f n : Int} {C final : List Bk} {p : Nat} (hno : ∀ j y, p ≤ j → C[j]? = some y → isB f 2 y = false) (h : final = C.take p ++ giveL f n (C.drop p)) : final = C := by
  by_cases hp : p ≤ C.length
  · have h1 := giv_gap (q := C.length) hp (fun j y a _ => hno j y a) h
    rw [h1]; simp [giveL]
  · rw [h, List.take_of_length_le (by omega), List.drop_eq_nil_of_le (by omega)]
    simp [giveL]
theorem giv_hit {f n : Int} {C final : List Bk} {p : Nat} {y : Bk} (hy : C[p]? = some y) (hb : isB f 2 y = true) (hn : 0 < n) (h : final = C.take p ++ giveL f n (C.drop p)) :
    final = (C.set p ⟨y.flight, 1, y.kept⟩).take (p + 1) ++ giveL f (n - 1) ((C.set p ⟨y.flight, 1, y.kept⟩).drop (p + 1)) := by
  rw [drop_one hy] at h
  unfold giveL at h
  rw [if_pos ⟨hb, hn⟩] at h
  rw [h, take_set hy, drop_set, List.append_assoc]
  rfl
theorem giv_stop {f n : Int} {C final : List Bk} {p : Nat} (hn : n ≤ 0) (h : final = C.take p ++ giveL f n (C.drop p)) : final = C := by
  rw [h, giveL_le hn, List.take_append_drop]
theorem offCells_len {o o' : Off} (h1 : o'.now = o.now) (h2 : o'.notice = o.notice) (h3 : o'.fee = o.fee) (h4 : o'.inn = o.inn) (h5 : o'.out = o.out) (h6 : o'.fl.length = o.fl.length) (h7 : o'.bk.length = o.bk.length) (A : Option Addr) (cf : Nat) (B : Option Addr) (cb : Nat) : offCells o' A cf B cb = offCells o A cf B cb := by
  unfold offCells
  rw [h1, h2, h3, h4, h5, h6, h7]
/-- Give, under way. -/
def GivR (o : Off) (f n0 : Int) (p : Nat) (n : Int) (C : List Bk) : Prop := C.length = o.bk.length ∧ giveL f n0 o.bk = C.take p ++ giveL f n (C.drop p) ∧ -1000000 ≤ n ∧ n ≤ 1000000
end Go.Proofs.Ytmlmgipngbndgaa
namespace Go.Proofs.Ytmlmgipngbndgaa
set_option linter.unusedVariables false
set_option linter.unusedSimpArgs false
structure OkO (o : Off) : Prop where
  now : 0 ≤ o.now ∧ o.now ≤ 1000000
  notice : 0 ≤ o.notice ∧ o.notice ≤ 1000000
  fee : 0 ≤ o.fee ∧ o.fee ≤ 100
  nf : o.fl.length ≤ 10
  nb : o.bk.length ≤ 120
  deps : DepsOk o.fl
  bks : BksOk o.fl o.bk
  fit : o.bk.all (bookedB o.fl o.fee) = true
  seats : (List.range o.fl.length).all (seatB o.fl o.bk) = true
  money : moneyB o = true
  inn : -1000000000 ≤ o.inn ∧ o.inn ≤ 1000000000
  out : -1000000000 ≤ o.out ∧ o.out ≤ 1000000000
theorem okO {o : Off} (hu : ∀ d ∈ o.fl, 0 ≤ d.state) (h : officeB o = true) : OkO o := by
  obtain ⟨h1, hd, hb, hba, hse, hmo⟩ := officeB_in hu h
  have hi := headB_in h1
  have hs := sums_in hd hb (Nat.le_refl o.bk.length)
  rw [sums_all (Nat.le_refl _)] at hs
  have hmo' := hmo
  unfold moneyB at hmo'
  simp only [Bool.and_eq_true, decide_eq_true_eq] at hmo'
  unfold Small at hs
  exact ⟨⟨hi.1, hi.2.1⟩, ⟨hi.2.2.1, hi.2.2.2.1⟩, ⟨hi.2.2.2.2.1, hi.2.2.2.2.2.1⟩, hi.2.2.2.2.2.2.1, hi.2.2.2.2.2.2.2, hd, hb, hba, hse, hmo, by omega, by omega⟩
theorem OkO.dep {o : Off} (h : OkO o) {i : Nat} {d : Dep} (hi : o.fl[i]? = some d) : 0 ≤ d.seats ∧ d.seats ≤ 50 ∧ 0 ≤ d.price ∧ d.price ≤ 1000000 ∧ 0 ≤ d.leaves ∧ d.leaves ≤ 1000000 ∧ d.state ≤ 2 := depOk_in (h.deps d (List.mem_of_getElem? hi)).1
/-- What a deal leaves. -/
def DV (bd : Nat) (o : Off) (v : Value) (H : Hp) : Prop := v = .tuple #[] ∧ ∃ x y, (x = none → o.fl.length = 0) ∧ (y = none → o.bk.length = 0) ∧ H = deskH bd o x y
def DS (bd : Nat) (o : Off) (v : Value) (H : Hp) : Prop := v = .tuple #[] ∧ ∃ x y, (x = none → o.fl.length = 0) ∧ (y = none → o.bk.length = 0) ∧ HpSub H (deskH bd o x y)
theorem ds_dv {k : Nat} {args : Array Value} {bd : Nat} {o : Off} {M : Ms} {w : World} (h : Calls Try.prog k args w fun e w' => ∃ v H', e = .returned v ∧ DS bd o v H' ∧ Has w M H' w') : Calls Try.prog k args w fun e w' => ∃ v H', e = .returned v ∧ DV bd o v H' ∧ Has w M H' w' :=
  h.mono fun e w' ⟨v, H', h1, ⟨h2, x, y, h3, h4, h5⟩, h6⟩ => ⟨v, _, h1, ⟨h2, x, y, h3, h4, rfl⟩, h6.sub h5⟩
end Go.Proofs.Ytmlmgipngbndgaa
namespace Go.Proofs.Ytmlmgipngbndgaa
set_option linter.unusedVariables false
set_option linter.unusedSimpArgs false
theorem many_zero_of {bk : List Bk} {f s : Int} (h : ∀ x ∈ bk, isB f s x = false) : manyV bk f s = 0 := by
  unfold manyV
  rw [List.filter_eq_nil_iff.2 (fun x hx => by rw [h x hx]; simp)]
  rfl
/-- A departure that is open has no bookings that are flown. -/
theorem OkO.noflown {o : Off} (hv : OkO o) {i : Nat} {d : Dep} (hi : o.fl[i]? = some d) (h0 : d.state = 0) : manyV o.bk i 3 = 0 := by
  refine many_zero_of fun x hx => ?_
  cases hb : isB (i : Int) 3 x with
  | false => rfl
  | true =>
    unfold isB at hb
    simp only [Bool.and_eq_true, decide_eq_true_eq] at hb
    have hf := List.all_eq_true.1 hv.fit x hx
    have hk := hv.bks x hx
    unfold bookedB at hf
    rw [if_pos ⟨hk.1, hk.2.1⟩, hb.1, Int.toNat_natCast, hi] at hf
    simp only at hf
    rw [if_neg (by omega)] at hf
    simp only [Bool.and_eq_true, decide_eq_true_eq, fitB, h0, hb.2] at hf
    simp at hf
theorem OkO.seat {o : Off} (hv : OkO o) {i : Nat} {d : Dep} (hi : o.fl[i]? = some d) : manyV o.bk i 1 + manyV o.bk i 3 ≤ d.seats ∧ (manyV o.bk i 1 + manyV o.bk i 3 = d.seats ∨ manyV o.bk i 2 ≤ 0) := by
  have hl := (List.getElem?_eq_some_iff.1 hi).1
  have h := List.all_eq_true.1 hv.seats i (List.mem_range.2 hl)
  unfold seatB at h
  rw [hi] at h
  simp only [Bool.and_eq_true, Bool.or_eq_true, decide_eq_true_eq] at h
  exact h
theorem many_add (bk : List Bk) (x : Bk) (f s : Int) : manyV (bk ++ [x]) f s = manyV bk f s + (if isB f s x = true then 1 else 0) := by
  unfold manyV
  rw [List.filter_append, List.length_append]
  by_cases h : isB f s x = true
  · simp [h]
  · simp [h]
end Go.Proofs.Ytmlmgipngbndgaa
namespace Go.Proofs.Ytmlmgipngbndgaa
set_option linter.unusedVariables false
set_option linter.unusedSimpArgs false
def midS (f to : Int) (bk : List Bk) (p : Nat) : List Bk := (bk.take p).map (shutB f to) ++ bk.drop p
def paidTo (bk : List Bk) (f to price : Int) (p : Nat) : Int := paidV (bk.take p) f to price
theorem mt_is2 (f : Int) (x : Bk) : mtB f [1, 2] x = (isB f 1 x || isB f 2 x) := by
  unfold mtB isB
  by_cases h1 : x.flight = f <;> simp [h1]
theorem shut_no {f to : Int} {x : Bk} (h : mtB f [1, 2] x = false) : shutB f to x = x ∧ backB f to x = false := by
  rw [mt_is2] at h
  simp only [Bool.or_eq_false_iff] at h
  unfold shutB backB
  rw [h.1, h.2]
  exact ⟨rfl, rfl⟩
theorem midS_len (f to : Int) (bk : List Bk) (p : Nat) : (midS f to bk p).length = bk.length := by
  unfold midS
  simp only [List.length_append, List.length_map, List.length_take, List.length_drop]
  omega
theorem midS_at {f to : Int} {bk : List Bk} {p j : Nat} (h : p ≤ j) : (midS f to bk p)[j]? = bk[j]? := by
  unfold midS
  by_cases hp : p ≤ bk.length
  · rw [List.getElem?_append_right (by simp; omega)]
    simp only [List.length_map, List.length_take, List.getElem?_drop]
    congr 1
    omega
  · rw [List.take_of_length_le (by omega), List.drop_eq_nil_of_le (by omega), List.append_nil]
    rw [List.getElem?_eq_none (by simp; omega), List.getElem?_eq_none (by omega)]
theorem midS_zero (f to : Int) (bk : List Bk) : midS f to bk 0 = bk := by simp [midS]
theorem midS_all {f to : Int} {bk : List Bk} {p : Nat} (h : bk.length ≤ p) : midS f to bk p = bk.map (shutB f to) := by
  unfold midS
  rw [List.take_of_length_le h, List.drop_eq_nil_of_le h, List.append_nil]
theorem midS_step {f to : Int} {bk : List Bk} {p : Nat} {y : Bk} (h : bk[p]? = some y) : midS f to bk (p + 1) = (midS f to bk p).set p (shutB f to y) := by
  have hl := (List.getElem?_eq_some_iff.1 h).1
  unfold midS
  rw [take_one h, drop_one h, List.map_append, List.set_append_right _ _ (by simp; omega)]
  simp only [List.length_map, List.length_take, List.map_cons, List.map_nil, List.append_assoc, List.cons_append, List.nil_append]
  rw [show p - min p bk.length = 0 by omega]
  rfl
theorem paid_step {bk : List Bk} {f to price : Int} {p : Nat} {y : Bk} (h : bk[p]? = some y) : paidTo bk f to price (p + 1) = paidTo bk f to price p + (if backB f to y = true then price else 0) := by
  unfold paidTo paidV
  rw [take_one h, List.filter_append, List.length_append]
  by_cases hb : backB f to y = true
  · simp [hb, Int.add_mul]
  · simp [hb]
theorem paid_all {bk : List Bk} {f to price : Int} {p : Nat} (h : bk.length ≤ p) : paidTo bk f to price p = paidV bk f to price := by
  unfold paidTo
  rw [List.take_of_length_le h]
theorem paid_in {bk : List Bk} {f to price : Int} (hp : 0 ≤ price ∧ price ≤ 1000000) (hn : bk.length ≤ 120) (p : Nat) : 0 ≤ paidTo bk f to price p ∧ paidTo bk f to price p ≤ 120000000 := by
  unfold paidTo paidV
  have h1 := List.length_filter_le (backB f to) (bk.take p)
  have h2 := List.length_take_le' p bk
  obtain ⟨q, hq⟩ : ∃ q, ((bk.take p).filter (backB f to)).length = q := ⟨_, rfl⟩
  rw [hq] at h1 ⊢
  have h3 : (q : Int) ≤ 120 := by omega
  have a := Int.mul_nonneg (Int.natCast_nonneg q) hp.1
  have b := Int.mul_le_mul h3 hp.2 hp.1 (by omega)
  omega
theorem midS_gap {f to price : Int} {bk : List Bk} {p : Nat} : ∀ {q : Nat}, p ≤ q → (∀ j y, p ≤ j → j < q → bk[j]? = some y → mtB f [1, 2] y = false) → midS f to bk q = midS f to bk p ∧ paidTo bk f to price q = paidTo bk f to price p := by
  intro q
  induction q with
  | zero => intro hp _; obtain rfl : p = 0 := by omega
            exact ⟨rfl, rfl⟩
  | succ q ih =>
    intro hp hno
    by_cases e : p = q + 1
    · rw [e]; exact ⟨rfl, rfl⟩
    · obtain ⟨h1, h2⟩ := ih (by omega) (fun j y a b => hno j y a (by omega))
      cases hy : bk[q]? with
      | none =>
        have hl := List.getElem?_eq_none_iff.1 hy
        refine ⟨?_, ?_⟩
        · rw [← h1, midS_all hl, midS_all (by omega)]
        · rw [← h2, paid_all hl, paid_all (by omega)]
      | some y =>
        have hb := shut_no (to := to) (hno q y (by omega) (by omega) hy)
        refine ⟨?_, ?_⟩
        · rw [midS_step hy, hb.1, ← h1]
          refine List.ext_getElem? fun j => ?_
          by_cases hj : q = j
          · subst hj
            have hl := (List.getElem?_eq_some_iff.1 hy).1
            rw [List.getElem?_set_self (by rw [midS_len]; exact hl), midS_at (Nat.le_refl _), hy]
          · rw [List.getElem?_set_ne hj]
        · rw [paid_step hy, hb.2, ← h2]; simp
theorem midS_end {f to price : Int} {bk : List Bk} {p : Nat} (hno : ∀ j y, p ≤ j → bk[j]? = some y → mtB f [1, 2] y = false) : midS f to bk p = bk.map (shutB f to) ∧ paidTo bk f to price p = paidV bk f to price := by
  by_cases hp : p ≤ bk.length
  · obtain ⟨h1, h2⟩ := midS_gap (to := to) (price := price) hp (fun j y a _ => hno j y a)
    rw [← h1, ← h2, midS_all (Nat.le_refl _), paid_all (Nat.le_refl _)]
    exact ⟨rfl, rfl⟩
  · rw [midS_all (by omega), paid_all (by omega)]
    exact ⟨rfl, rfl⟩
/-- Of a booking that has a seat or waits nothing is kept. -/
theorem OkO.kept0 {o : Off} (h : OkO o) {x : Bk} (hx : x ∈ o.bk) (hs : x.state = 1 ∨ x.state = 2) : x.kept = 0 := by
  have hb := List.all_eq_true.1 h.fit x hx
  have hk := h.bks x hx
  unfold bookedB at hb
  rw [if_pos ⟨hk.1, hk.2.1⟩] at hb
  split at hb
  · cases hb
  · rw [if_neg (by omega)] at hb
    simp only [Bool.and_eq_true, decide_eq_true_eq] at hb
    exact hb.2
theorem Has.old {w0 : World} {M : Ms} {H : Hp} {w : World} (h : Has w0 M H w) {b o : Nat} {v : Value} (hc : w0.cell? ⟨b, o, none⟩ = some v) (hm : b ∉ M.wr) : w.cell? ⟨b, o, none⟩ = some v := by
  rw [World.cell?_of_block (w := w0) (a := ⟨b, o, none⟩) (h.ext.block b (cell_lt hc) hm)]
  exact hc
end Go.Proofs.Ytmlmgipngbndgaa
namespace Go.Proofs.Ytmlmgipngbndgaa
set_option linter.unusedVariables false
set_option linter.unusedSimpArgs false
/-! Sums -/
def cH (fl : List Dep) (x : Bk) : Int := if x.state = 1 ∨ x.state = 2 then prc fl x else 0
def cE (fl : List Dep) (x : Bk) : Int := if x.state = 3 then prc fl x else 0
def cK (fl : List Dep) (x : Bk) : Int := if x.state = 4 then x.kept else 0
def cB (fl : List Dep) (x : Bk) : Int := if x.state = 4 then prc fl x - x.kept else 0
def sm (f : Bk → Int) : List Bk → Int
  | [] => 0
  | x :: l => f x + sm f l
theorem sums_gen (fl : List Dep) : ∀ (bk : List Bk) (p : Sum4), bk.foldl (addB fl) p = ⟨p.held + sm (cH fl) bk, p.earned + sm (cE fl) bk, p.kept + sm (cK fl) bk, p.back + sm (cB fl) bk⟩
  | [], p => by simp [sm]
  | x :: l, p => by
    rw [List.foldl_cons, sums_gen fl l]
    have h : addB fl p x = ⟨p.held + cH fl x, p.earned + cE fl x, p.kept + cK fl x, p.back + cB fl x⟩ := by
      unfold addB cH cE cK cB
      by_cases h1 : x.state = 1 ∨ x.state = 2
      · rw [if_pos h1, if_pos h1, if_neg (by omega), if_neg (by omega), if_neg (by omega)]
        simp
      · rw [if_neg h1, if_neg h1]
        by_cases h3 : x.state = 3
        · rw [if_pos h3, if_pos h3, if_neg (by omega), if_neg (by omega)]; simp
        · rw [if_neg h3, if_neg h3]
          by_cases h4 : x.state = 4
          · rw [if_pos h4, if_pos h4, if_pos h4]; simp
          · rw [if_neg h4, if_neg h4, if_neg h4]; simp
    rw [h]
    simp only [sm, Int.add_assoc]
theorem sums_sm (fl : List Dep) (bk : List Bk) : sumsV fl bk = ⟨sm (cH fl) bk, sm (cE fl) bk, sm (cK fl) bk, sm (cB fl) bk⟩ := by
  unfold sumsV
  rw [sums_gen]
  simp
theorem sm_congr {f g : Bk → Int} : ∀ {l : List Bk}, (∀ x ∈ l, f x = g x) → sm f l = sm g l
  | [], _ => rfl
  | x :: l, h => by
    simp only [sm]
    rw [h x (List.mem_cons_self ..), sm_congr (fun y hy => h y (List.mem_cons_of_mem _ hy))]
theorem sm_append {f : Bk → Int} (r : List Bk) : ∀ (l : List Bk), sm f (l ++ r) = sm f l + sm f r
  | [] => by simp [sm]
  | x :: l => by simp only [List.cons_append, sm, sm_append r l, Int.add_assoc]
theorem sm_set {f : Bk → Int} {y : Bk} : ∀ {l : List Bk} {i : Nat} {x : Bk}, l[i]? = some x → sm f (l.set i y) = sm f l - f x + f y
  | [], i, x, h => by simp at h
  | a :: l, 0, x, h => by
    obtain rfl : a = x := by simpa using h
    simp only [List.set_cons_zero, sm]; omega
  | a :: l, i + 1, x, h => by
    simp only [List.set_cons_succ, sm]
    rw [sm_set (l := l) (i := i) (x := x) (by simpa using h)]; omega
theorem sm_give {g : Bk → Int} {f : Int} (hg : ∀ x, isB f 2 x = true → g ⟨x.flight, 1, x.kept⟩ = g x) : ∀ {n : Int} {l : List Bk}, sm g (giveL f n l) = sm g l
  | n, [] => rfl
  | n, x :: l => by
    unfold giveL
    split
    · rename_i h
      simp only [sm]
      rw [hg x h.1, sm_give hg]
    · simp only [sm]
      rw [sm_give hg]
theorem sm_map {g : Bk → Int} {h : Bk → Bk} : ∀ {l : List Bk}, sm g (l.map h) = sm (fun x => g (h x)) l
  | [] => rfl
  | x :: l => by simp only [List.map_cons, sm]; rw [sm_map]
theorem sm_add {f g : Bk → Int} : ∀ {l : List Bk}, sm (fun x => f x + g x) l = sm f l + sm g l
  | [] => rfl
  | x :: l => by simp only [sm]; rw [sm_add]; omega
/-! Counts -/
def cN (f s : Int) (x : Bk) : Int := if isB f s x = true then 1 else 0
theorem many_sm (f s : Int) : ∀ (l : List Bk), manyV l f s = sm (cN f s) l
  | [] => rfl
  | x :: l => by
    unfold manyV
    simp only [sm, cN]
    rw [← many_sm f s l]
    unfold manyV
    by_cases h : isB f s x = true
    · rw [List.filter_cons_of_pos h, if_pos h]; simp; omega
    · rw [List.filter_cons_of_neg h, if_neg h]; simp
theorem many_pos (l : List Bk) (f s : Int) : 0 ≤ manyV l f s := by unfold manyV; omega
theorem isB_ne {f g s t : Int} {x : Bk} (h : isB f s x = true) (hg : g ≠ f) : isB g t x = false := by
  unfold isB at *
  simp only [Bool.and_eq_true, decide_eq_true_eq] at h
  have : ¬ x.flight = g := fun e => hg (by rw [← e]; exact h.1)
  simp [this]
/-- How many get a seat. -/
theorem many_give (f : Int) : ∀ (n : Int) (l : List Bk), ∃ g : Int, 0 ≤ g ∧ manyV (giveL f n l) f 1 = manyV l f 1 + g ∧ manyV (giveL f n l) f 2 = manyV l f 2 - g ∧ (n ≤ g ∨ manyV (giveL f n l) f 2 = 0) ∧ (g ≤ n ∨ g = 0)
  | n, [] => ⟨0, by omega, rfl, rfl, .inr rfl, .inr rfl⟩
  | n, x :: l => by
    unfold giveL
    split
    · rename_i h
      obtain ⟨g, h0, h1, h2, h3, h4⟩ := many_give f (n - 1) l
      have e1 : isB f 1 ⟨x.flight, 1, x.kept⟩ = true := by
        have := h.1; unfold isB at this ⊢; simp only [Bool.and_eq_true, decide_eq_true_eq] at this ⊢; exact ⟨this.1, trivial⟩
      have e2 : isB f 2 ⟨x.flight, 1, x.kept⟩ = false := by unfold isB; simp
      have e3 : isB f 1 x = false := by
        have := h.1; unfold isB at this ⊢; simp only [Bool.and_eq_true, decide_eq_true_eq] at this; simp [this.2]
      refine ⟨g + 1, by omega, ?_, ?_, ?_, ?_⟩
      · simp only [many_sm, sm, cN, e1, e3, if_true, if_false, Bool.false_eq_true] at h1 ⊢; omega
      · simp only [many_sm, sm, cN, e2, h.1, if_true, if_false, Bool.false_eq_true] at h2 ⊢; omega
      · rcases h3 with h3 | h3
        · exact .inl (by omega)
        · refine .inr ?_
          simp only [many_sm, sm, cN, e2, if_false, Bool.false_eq_true] at h3 ⊢; omega
      · rcases h4 with h4 | h4
        · exact .inl (by omega)
        · exact .inl (by omega)
    · rename_i h
      obtain ⟨g, h0, h1, h2, h3, h4⟩ := many_give f n l
      refine ⟨g, h0, ?_, ?_, ?_, h4⟩
      · simp only [many_sm, sm] at h1 ⊢; omega
      · simp only [many_sm, sm] at h2 ⊢; omega
      · rcases h3 with h3 | h3
        · exact .inl h3
        · by_cases hb : isB f 2 x = true
          · have hn : ¬ 0 < n := fun hn => h ⟨hb, hn⟩
            exact .inl (by omega)
          · refine .inr ?_
            simp only [many_sm, sm, cN, hb, if_false, Bool.false_eq_true] at h3 ⊢; omega
theorem many_give_ne {f g s : Int} (h : g ≠ f ∨ (s ≠ 1 ∧ s ≠ 2)) (n : Int) (l : List Bk) : manyV (giveL f n l) g s = manyV l g s := by
  rw [many_sm, many_sm]
  refine sm_give fun x hx => ?_
  unfold cN
  rcases h with h | h
  · rw [isB_ne hx h]
    have : isB f 1 ⟨x.flight, 1, x.kept⟩ = true := by
      unfold isB at hx ⊢; simp only [Bool.and_eq_true, decide_eq_true_eq] at hx ⊢; exact ⟨hx.1, trivial⟩
    rw [isB_ne this h]
  · have e1 : isB g s ⟨x.flight, 1, x.kept⟩ = false := by unfold isB; simp; intro _ e; exact h.1 e.symm
    have e2 : isB g s x = false := by
      unfold isB at hx ⊢; simp only [Bool.and_eq_true, decide_eq_true_eq] at hx; simp [hx.2]; intro _ e; exact h.2 e.symm
    rw [e1, e2]
end Go.Proofs.Ytmlmgipngbndgaa
namespace Go.Proofs.Ytmlmgipngbndgaa
set_option linter.unusedVariables false
set_option linter.unusedSimpArgs false
/-- A booking that is valid. -/
def BkOk (fl : List Dep) (fee : Int) (x : Bk) : Prop := ∃ (i : Nat) (d : Dep), x.flight = (i : Int) ∧ fl[i]? = some d ∧ ((x.state = 4 ∧ 0 ≤ x.kept ∧ x.kept ≤ feeV d.price fee) ∨ (¬ x.state = 4 ∧ fitB d.state x.state = true ∧ x.kept = 0))
theorem booked_iff {fl : List Dep} {fee : Int} {x : Bk} : bookedB fl fee x = true ↔ BkOk fl fee x := by
  unfold bookedB BkOk
  constructor
  · intro h
    split at h
    · rename_i hin
      obtain ⟨d, hd⟩ : ∃ d, fl[x.flight.toNat]? = some d := ⟨_, List.getElem?_eq_getElem (by omega)⟩
      rw [hd] at h
      refine ⟨x.flight.toNat, d, by omega, hd, ?_⟩
      by_cases h4 : x.state = 4
      · simp only [h4, if_true, Bool.and_eq_true, decide_eq_true_eq] at h
        exact .inl ⟨h4, h.1, h.2⟩
      · simp only [h4, if_false, Bool.and_eq_true, decide_eq_true_eq] at h
        exact .inr ⟨h4, h.1, h.2⟩
    · cases h
  · rintro ⟨i, d, hf, hd, h⟩
    have hl := (List.getElem?_eq_some_iff.1 hd).1
    rw [if_pos (by omega), hf, Int.toNat_natCast, hd]
    simp only
    rcases h with ⟨h4, h1, h2⟩ | ⟨h4, h1, h2⟩
    · rw [if_pos h4]; simp [h1, h2]
    · rw [if_neg h4]; simp [h1, h2]
/-- What is asked of a valid office, but for the seats of departure i. -/
structure Semi (o : Off) (i : Nat) : Prop where
  now : 0 ≤ o.now ∧ o.now ≤ 1000000
  notice : 0 ≤ o.notice ∧ o.notice ≤ 1000000
  fee : 0 ≤ o.fee ∧ o.fee ≤ 100
  nf : o.fl.length ≤ 10
  nb : o.bk.length ≤ 120
  deps : DepsOk o.fl
  bks : ∀ x ∈ o.bk, BkOk o.fl o.fee x
  seat : ∀ (j : Nat) (d : Dep), j ≠ i → o.fl[j]? = some d → manyV o.bk j 1 + manyV o.bk j 3 ≤ d.seats ∧ (manyV o.bk j 1 + manyV o.bk j 3 = d.seats ∨ manyV o.bk j 2 ≤ 0)
  inn : o.inn = sm (cH o.fl) o.bk + sm (cE o.fl) o.bk + sm (cK o.fl) o.bk + sm (cB o.fl) o.bk
  out : o.out = sm (cB o.fl) o.bk
theorem Semi.valid {o : Off} {i : Nat} (h : Semi o i) (hs : ∀ d, o.fl[i]? = some d → manyV o.bk i 1 + manyV o.bk i 3 ≤ d.seats ∧ (manyV o.bk i 1 + manyV o.bk i 3 = d.seats ∨ manyV o.bk i 2 ≤ 0)) : officeB o = true := by
  unfold officeB headB moneyB
  rw [sums_sm]
  simp only [Bool.and_eq_true, decide_eq_true_eq, List.all_eq_true]
  refine ⟨⟨h.now.1, h.now.2, h.notice.1, h.notice.2, h.fee.1, h.fee.2, h.nf, h.nb⟩, fun d hd => (h.deps d hd).1, fun x hx => booked_iff.2 (h.bks x hx), fun j hj => ?_, h.inn, h.out⟩
  have hl := List.mem_range.1 hj
  obtain ⟨d, hd⟩ : ∃ d, o.fl[j]? = some d := ⟨_, List.getElem?_eq_getElem hl⟩
  unfold seatB
  rw [hd]
  simp only [Bool.and_eq_true, Bool.or_eq_true, decide_eq_true_eq]
  by_cases hji : j = i
  · subst hji; exact hs d hd
  · exact h.seat j d hji hd
theorem OkO.semi {o : Off} (hv : OkO o) (i : Nat) : Semi o i := by
  have hm := hv.money
  unfold moneyB at hm
  rw [sums_sm] at hm
  simp only [Bool.and_eq_true, decide_eq_true_eq] at hm
  exact ⟨hv.now, hv.notice, hv.fee, hv.nf, hv.nb, hv.deps, fun x hx => booked_iff.1 (List.all_eq_true.1 hv.fit x hx), fun j d _ hd => hv.seat hd, hm.1, hm.2⟩
theorem OkO.bkok {o : Off} (hv : OkO o) {x : Bk} (hx : x ∈ o.bk) : BkOk o.fl o.fee x := booked_iff.1 (List.all_eq_true.1 hv.fit x hx)
theorem mem_give {f : Int} : ∀ {n : Int} {l : List Bk} {y : Bk}, y ∈ giveL f n l → y ∈ l ∨ ∃ x ∈ l, isB f 2 x = true ∧ y = ⟨x.flight, 1, x.kept⟩
  | n, [], y, h => by cases h
  | n, x :: l, y, h => by
    unfold giveL at h
    split at h
    · rename_i hc
      rcases List.mem_cons.1 h with rfl | h
      · exact .inr ⟨x, List.mem_cons_self .., hc.1, rfl⟩
      · rcases mem_give h with h | ⟨z, hz, h1, h2⟩
        · exact .inl (List.mem_cons_of_mem _ h)
        · exact .inr ⟨z, List.mem_cons_of_mem _ hz, h1, h2⟩
    · rcases List.mem_cons.1 h with rfl | h
      · exact .inl (List.mem_cons_self ..)
      · rcases mem_give h with h | ⟨z, hz, h1, h2⟩
        · exact .inl (List.mem_cons_of_mem _ h)
        · exact .inr ⟨z, List.mem_cons_of_mem _ hz, h1, h2⟩
theorem isB_st {f s : Int} {x : Bk} (h : isB f s x = true) : x.flight = f ∧ x.state = s := by
  unfold isB at h
  simpa using h
theorem give_sums {fl : List Dep} {f n : Int} {l : List Bk} : sm (cH fl) (giveL f n l) = sm (cH fl) l ∧ sm (cE fl) (giveL f n l) = sm (cE fl) l ∧ sm (cK fl) (giveL f n l) = sm (cK fl) l ∧ sm (cB fl) (giveL f n l) = sm (cB fl) l := by
  refine ⟨sm_give fun x hx => ?_, sm_give fun x hx => ?_, sm_give fun x hx => ?_, sm_give fun x hx => ?_⟩
  · unfold cH prc; simp [(isB_st hx).2]
  · unfold cE; simp [(isB_st hx).2]
  · unfold cK; simp [(isB_st hx).2]
  · unfold cB; simp [(isB_st hx).2]
theorem Semi.given {o : Off} {i : Nat} (h : Semi o i) {d : Dep} (hi : o.fl[i]? = some d) (h0 : d.state = 0) (h1 : manyV o.bk i 1 ≤ d.seats) (h3 : manyV o.bk i 3 = 0) : officeB (givenV o i) = true := by
  have hf : freeV o i = d.seats - manyV o.bk i 1 := by unfold freeV; rw [hi]
  obtain ⟨s1, s2, s3, s4⟩ := give_sums (fl := o.fl) (f := (i : Int)) (n := freeV o i) (l := o.bk)
  have hS : Semi (givenV o i) i := by
    refine ⟨h.now, h.notice, h.fee, h.nf, by unfold givenV; simp only [giveL_length]; exact h.nb, h.deps, fun y hy => ?_, fun j e hj he => ?_, ?_, ?_⟩
    · rcases mem_give hy with hy | ⟨x, hx, hb, rfl⟩
      · exact h.bks y hy
      · obtain ⟨k, e, hk, he, hc⟩ := h.bks x hx
        obtain ⟨b1, b2⟩ := isB_st hb
        have hki : k = i := by have := hk.symm.trans b1; omega
        subst hki
        obtain rfl : e = d := by have := he.symm.trans hi; exact Option.some.inj this
        refine ⟨k, e, hk, hi, .inr ⟨by simp, by unfold fitB; simp [h0], ?_⟩⟩
        rcases hc with hc | hc
        · omega
        · exact hc.2.2
    · have hne : ((j : Int)) ≠ (i : Int) := by omega
      have := h.seat j e hj he
      unfold givenV
      simp only
      rw [many_give_ne (.inl hne), many_give_ne (.inl hne), many_give_ne (.inl hne)]
      exact this
    · unfold givenV; simp only; rw [s1, s2, s3, s4]; exact h.inn
    · unfold givenV; simp only; rw [s4]; exact h.out
  refine hS.valid fun e he => ?_
  obtain rfl : e = d := by have := he.symm.trans hi; exact Option.some.inj this
  obtain ⟨g, g0, g1, g2, g3, g4⟩ := many_give (i : Int) (freeV o i) o.bk
  have g5 := many_give_ne (f := (i : Int)) (g := (i : Int)) (s := 3) (.inr ⟨by decide, by decide⟩) (freeV o i) o.bk
  unfold givenV
  simp only
  rw [hf] at *
  omega
/-- A departure that is open: how its bookings are. -/
theorem OkO.open_st {o : Off} (hv : OkO o) {i : Nat} {d : Dep} (hi : o.fl[i]? = some d) (h0 : d.state = 0) {x : Bk} (hx : x ∈ o.bk) (hf : x.flight = (i : Int)) : x.state = 1 ∨ x.state = 2 ∨ x.state = 4 := by
  obtain ⟨k, e, hk, he, hc⟩ := hv.bkok hx
  have hki : k = i := by have := hk.symm.trans hf; omega
  subst hki
  obtain rfl : e = d := by have := he.symm.trans hi; exact Option.some.inj this
  rcases hc with hc | hc
  · exact .inr (.inr hc.1)
  · have := hc.2.1
    unfold fitB at this
    simp [h0] at this
    rcases this with h | h
    · exact .inl h
    · exact .inr (.inl h)
theorem OkO.st_open {o : Off} (hv : OkO o) {x : Bk} (hx : x ∈ o.bk) (hs : x.state = 1 ∨ x.state = 2) {i : Nat} {d : Dep} (hf : x.flight = (i : Int)) (hi : o.fl[i]? = some d) : d.state = 0 := by
  obtain ⟨k, e, hk, he, hc⟩ := hv.bkok hx
  have hki : k = i := by have := hk.symm.trans hf; omega
  subst hki
  obtain rfl : e = d := by have := he.symm.trans hi; exact Option.some.inj this
  rcases hc with hc | hc
  · omega
  · have := hc.2.1
    unfold fitB at this
    simp at this
    omega
theorem add_valid {o : Off} (hv : OkO o) {z : Dep} (hz : depOk z = true) (hz0 : z.state = 0) (hl : o.fl.length < 10) : officeB { o with fl := o.fl ++ [z] } = true := by
  have h := hv.semi o.fl.length
  have hat : ∀ (i : Nat) (d : Dep), o.fl[i]? = some d → (o.fl ++ [z])[i]? = some d := fun i d hd => by
    rw [List.getElem?_append_left (List.getElem?_eq_some_iff.1 hd).1]; exact hd
  have hprc : ∀ x ∈ o.bk, prc (o.fl ++ [z]) x = prc o.fl x := fun x hx => by
    obtain ⟨k, e, hk, he, _⟩ := hv.bkok hx
    rw [prc_at hk he, prc_at hk (hat k e he)]
  have hno : ∀ s, manyV o.bk (o.fl.length : Nat) s = 0 := fun s => many_zero_of fun x hx => by
    obtain ⟨k, e, hk, he, _⟩ := hv.bkok hx
    have := (List.getElem?_eq_some_iff.1 he).1
    unfold isB
    have : ¬ x.flight = ((o.fl.length : Nat) : Int) := by omega
    simp [this]
  have hs1 : sm (cH (o.fl ++ [z])) o.bk = sm (cH o.fl) o.bk := sm_congr fun x hx => by unfold cH; rw [hprc x hx]
  have hs2 : sm (cE (o.fl ++ [z])) o.bk = sm (cE o.fl) o.bk := sm_congr fun x hx => by unfold cE; rw [hprc x hx]
  have hs3 : sm (cK (o.fl ++ [z])) o.bk = sm (cK o.fl) o.bk := sm_congr fun x hx => rfl
  have hs4 : sm (cB (o.fl ++ [z])) o.bk = sm (cB o.fl) o.bk := sm_congr fun x hx => by unfold cB; rw [hprc x hx]
  have hS : Semi { o with fl := o.fl ++ [z] } o.fl.length := by
    refine ⟨h.now, h.notice, h.fee, by simp; omega, h.nb, fun d hd => ?_, fun x hx => ?_, fun j d hj hd => ?_, ?_, ?_⟩
    · rcases List.mem_append.1 hd with hd | hd
      · exact h.deps d hd
      · rw [List.mem_singleton.1 hd]; exact ⟨hz, by omega⟩
    · obtain ⟨k, e, hk, he, hc⟩ := h.bks x hx
      exact ⟨k, e, hk, hat k e he, hc⟩
    · have hlt := (List.getElem?_eq_some_iff.1 hd).1
      simp only [List.length_append, List.length_singleton] at hlt
      have hjl : j < o.fl.length := by omega
      simp only at hd
      rw [List.getElem?_append_left hjl] at hd
      exact hv.seat hd
    · simp only; rw [hs1, hs2, hs3, hs4]; exact h.inn
    · simp only; rw [hs4]; exact h.out
  refine hS.valid fun d hd => ?_
  simp only at hd ⊢
  rw [List.getElem?_append_right (Nat.le_refl _)] at hd
  simp at hd
  subst hd
  rw [hno, hno, hno]
  have := depOk_in hz
  omega
theorem tick_valid {o : Off} (hv : OkO o) {n : Int} (h1 : 0 ≤ n ∧ n ≤ 1000000) : officeB { o with now := n } = true := by
  have h := hv.semi 0
  exact Semi.valid (o := { o with now := n }) (i := 0) ⟨h1, h.notice, h.fee, h.nf, h.nb, h.deps, h.bks, h.seat, h.inn, h.out⟩ fun d hd => hv.seat hd
theorem sell_valid {o : Off} (hv : OkO o) {i : Nat} {d : Dep} (hi : o.fl[i]? = some d) (h0 : d.state = 0) (hb : o.bk.length < 120) : officeB (sellV o (i : Int)) = true := by
  have h := hv.semi i
  have hdep : depAt o (i : Int) = d := by unfold depAt; rw [Int.toNat_natCast, hi]
  have hdd := hv.dep hi
  have hmi : ∀ s, s ≠ 2 → manyV (o.bk ++ [⟨(i : Int), 2, 0⟩]) i s = manyV o.bk i s := fun s hs => by
    rw [many_add, if_neg (by unfold isB; simp; exact fun e => hs e.symm)]; omega
  have hmj : ∀ (j : Nat) s, j ≠ i → manyV (o.bk ++ [⟨(i : Int), 2, 0⟩]) j s = manyV o.bk j s := fun j s hj => by
    rw [many_add, if_neg (by unfold isB; simp; intro e; omega)]; omega
  have hp : prc o.fl ⟨(i : Int), 2, 0⟩ = d.price := prc_at rfl hi
  unfold sellV
  rw [hdep, Int.toNat_natCast]
  refine Semi.given (o := { o with bk := o.bk ++ [⟨(i : Int), 2, 0⟩], inn := o.inn + d.price }) (i := i) ⟨h.now, h.notice, h.fee, h.nf, by simp; omega, h.deps, fun x hx => ?_, fun j e hj he => ?_, ?_, ?_⟩ hi h0 ?_ ?_
  · rcases List.mem_append.1 hx with hx | hx
    · exact h.bks x hx
    · rw [List.mem_singleton.1 hx]
      exact ⟨i, d, rfl, hi, .inr ⟨by simp, by unfold fitB; simp [h0], rfl⟩⟩
  · simp only
    rw [hmj j _ hj, hmj j _ hj, hmj j _ hj]
    exact h.seat j e hj he
  · simp only [sm_append, sm]
    have := h.inn
    have c1 : cH o.fl ⟨(i : Int), 2, 0⟩ = d.price := by unfold cH; simp [hp]
    have c2 : cE o.fl ⟨(i : Int), 2, 0⟩ = 0 := by unfold cE; simp
    have c3 : cK o.fl ⟨(i : Int), 2, 0⟩ = 0 := by unfold cK; simp
    have c4 : cB o.fl ⟨(i : Int), 2, 0⟩ = 0 := by unfold cB; simp
    rw [c1, c2, c3, c4]
    omega
  · simp only [sm_append, sm]
    have := h.out
    have c4 : cB o.fl ⟨(i : Int), 2, 0⟩ = 0 := by unfold cB; simp
    rw [c4]; omega
  · simp only
    rw [hmi 1 (by decide)]
    have := hv.seat hi
    have := many_pos o.bk (i : Int) 3
    omega
  · simp only
    rw [hmi 3 (by decide)]
    exact hv.noflown hi h0
end Go.Proofs.Ytmlmgipngbndgaa
namespace Go.Proofs.Ytmlmgipngbndgaa
open Go.RowKit
attribute [local irreducible] TE AE OP OQ OS OX Rd T TL GX GL AL AI RV wpG SAny Calls
set_option maxRecDepth 100000
set_option maxHeartbeats 2000000
set_option linter.unusedVariables false
set_option linter.unusedSimpArgs false
theorem flight_ok (bd : Nat) (o : Off) (A : Option Addr) (cf : Nat) (B : Option Addr) (cb : Nat) (w : World) (hD : Desk w bd o A cf B cb) (hn : o.fl.length ≤ 1000000) (gA oA : Nat) (hAp : A = some ⟨gA, oA, none⟩) (i : Nat) (d : Dep) (hi : o.fl[i]? = some d) (h0 : d.state = 0) : Calls Try.prog 133 #[.pointer (some ⟨bd, 0, none⟩), .int .i64 (i : Int)] w fun e w' => e = .returned (.pointer (some ⟨gA, oA + i * 4, none⟩)) ∧ Ext w w' := by
  have hil := (List.getElem?_eq_some_iff.1 hi).1
  have d3 := hD.fls
  have hA := hD.fl
  obtain ⟨b1, o1, x, rfl, _, hx, c0, c1, c2, c3⟩ := dep_read hA hil
  obtain rfl : d = x := by rw [hi] at hx; exact Option.some.inj hx
  obtain ⟨rfl, rfl⟩ : b1 = gA ∧ o1 = oA := by cases hAp; exact ⟨rfl, rfl⟩
  have hq := allFrom_t (lo := 0) (hi := (o.fl.length : Int) - 1) (z := (i : Int)) ⟨by omega, by omega⟩
  refine enterQ (c := cx w 34) Try.func133 rfl rfl rfl rfl ?_
  repeat' (first | ((with_reducible apply oq_id); first | (focus ((with_reducible apply oq_indexAddrN); exact rfl; exact rfl; exact rfl; exact rfl; omega)) | ((with_reducible apply oq_eqlT); exact rfl; exact rfl; omega) | (apply oq_fn; exact rfl; first | exact trivial | (refine ⟨?_, ?_⟩ <;> omega) | (refine ⟨?_, ?_, ?_⟩ <;> omega) | omega | skip) | ((with_reducible apply oq_load); exact rfl; exact rfl) | ((with_reducible apply oq_call (k := 63) (hc := Try.call63)); exact rfl; exact rfl; exact fun D w1 hw1 => fromOne hq hw1 (by (repeat (first | exact P0 | apply P1)))) | ((with_reducible apply oq_call (k := 106) (hc := Try.call106)); exact rfl; exact rfl; exact fun D w1 hw1 => must_ok _ w1)) | ((with_reducible apply tl_id); first | ((with_reducible apply tl_nil)) | ((with_reducible apply u_q); exact rfl; exact rfl; exact rfl; exact rfl) | ((with_reducible apply u_s); exact rfl; exact rfl; exact rfl)) | ((with_reducible apply os_id); first | ((with_reducible apply os_x); exact rfl)) | ((with_reducible apply ox_id); first | ((with_reducible apply ox_buildSlice1); exact rfl; exact rfl; exact rfl; exact rfl; exact rfl; exact rfl; intro _)) | ((with_reducible apply rd_id); first | (apply Rd.old; (first | (with_reducible assumption) | exact c0 | exact c1 | exact c2 | exact c3 | exact c4 | exact c5 | exact c6 | exact c7 | exact c8 | exact d0 | exact d1 | exact d2 | exact d3 | exact d4 | exact d5); first | exact List.not_mem_nil | exact m0 | exact m1 | exact m2 | exact m3 | exact m4 | exact m5 | exact m6 | exact m7 | exact m8 | exact m9)) | ((with_reducible apply t_id); first | ((with_reducible apply t_seq)) | (apply t_region; kernel_rfl) | ((with_reducible apply t_ret))) | with_reducible apply q_thenN | ((with_reducible apply end_ret)) | exact rvs_nil | ((with_reducible apply rvs_cons)) | ((with_reducible apply rv_tmp); exact rfl))
  all_goals rfl
theorem flight_gone (bd : Nat) (o : Off) (A : Option Addr) (cf : Nat) (B : Option Addr) (cb : Nat) (w : World) (hD : Desk w bd o A cf B cb) (hn : o.fl.length ≤ 1000000) (i : Nat) (d : Dep) (hi : o.fl[i]? = some d) (h0 : ¬ d.state = 0) : Calls Try.prog 133 #[.pointer (some ⟨bd, 0, none⟩), .int .i64 (i : Int)] w fun e w' => e = .panicked (refu 85) ∧ Ext w w' := by
  have hil := (List.getElem?_eq_some_iff.1 hi).1
  have d3 := hD.fls
  have hA := hD.fl
  obtain ⟨b1, o1, x, rfl, _, hx, c0, c1, c2, c3⟩ := dep_read hA hil
  obtain rfl : d = x := by rw [hi] at hx; exact Option.some.inj hx
  have hq := allFrom_t (lo := 0) (hi := (o.fl.length : Int) - 1) (z := (i : Int)) ⟨by omega, by omega⟩
  refine enterPQ (c := cx w 34) Try.func133 rfl rfl rfl ?_
  repeat' (first | ((with_reducible apply oq_id); first | (focus ((with_reducible apply oq_indexAddrN); exact rfl; exact rfl; exact rfl; exact rfl; omega)) | ((with_reducible apply oq_eqlF); exact rfl; exact rfl; omega) | (apply oq_fn; exact rfl; first | exact trivial | (refine ⟨?_, ?_⟩ <;> omega) | (refine ⟨?_, ?_, ?_⟩ <;> omega) | omega | skip) | ((with_reducible apply oq_load); exact rfl; exact rfl) | ((with_reducible apply oq_call (k := 63) (hc := Try.call63)); exact rfl; exact rfl; exact fun D w1 hw1 => fromOne hq hw1 (by (repeat (first | exact P0 | apply P1)))) | ((with_reducible apply oq_call (k := 106) (hc := Try.call106)); exact rfl; exact rfl; exact fun D w1 hw1 => must_ok _ w1)) | ((with_reducible apply os_id); first | ((with_reducible apply os_x); exact rfl)) | ((with_reducible apply ox_id); first | ((with_reducible apply ox_buildSlice1); exact rfl; exact rfl; exact rfl; exact rfl; exact rfl; exact rfl; intro _)) | ((with_reducible apply rd_id); first | (apply Rd.old; (first | (with_reducible assumption) | exact c0 | exact c1 | exact c2 | exact c3 | exact c4 | exact c5 | exact c6 | exact c7 | exact c8 | exact d0 | exact d1 | exact d2 | exact d3 | exact d4 | exact d5); first | exact List.not_mem_nil | exact m0 | exact m1 | exact m2 | exact m3 | exact m4 | exact m5 | exact m6 | exact m7 | exact m8 | exact m9)) | ((with_reducible apply t_id); first | (apply t_regionE) | ((with_reducible apply t_seq))) | with_reducible apply q_thenN | ((with_reducible apply te_id); first | ((with_reducible apply e_p); exact rfl; ((with_reducible apply op_call (k := 106) (hc := Try.call106)); exact rfl; exact rfl; exact fun D w1 hw1 => must_no _ w1)) | ((with_reducible apply e_q); exact rfl; exact rfl; exact rfl; exact rfl) | ((with_reducible apply e_s); exact rfl; exact rfl; exact rfl) | ((with_reducible apply e_nil))))
  all_goals exact ⟨_, rfl, rfl⟩
theorem flight_arg (bd : Nat) (o : Off) (A : Option Addr) (cf : Nat) (B : Option Addr) (cb : Nat) (w : World) (hD : Desk w bd o A cf B cb) (hn : o.fl.length ≤ 1000000) (n : Int) (h0 : ¬ (0 ≤ n ∧ n < (o.fl.length : Int))) : Calls Try.prog 133 #[.pointer (some ⟨bd, 0, none⟩), .int .i64 n] w fun e w' => e = .panicked (refu 2) ∧ Ext w w' := by
  have d3 := hD.fls
  have hA := hD.fl
  have hq := allFrom_f (lo := 0) (hi := (o.fl.length : Int) - 1) (z := n) (by omega)
  refine enterPQ (c := cx w 34) Try.func133 rfl rfl rfl ?_
  repeat' (first | ((with_reducible apply oq_id); first | (apply oq_fn; exact rfl; first | exact trivial | (refine ⟨?_, ?_⟩ <;> omega) | (refine ⟨?_, ?_, ?_⟩ <;> omega) | omega | skip) | ((with_reducible apply oq_load); exact rfl; exact rfl) | ((with_reducible apply oq_call (k := 63) (hc := Try.call63)); exact rfl; exact rfl; exact fun D w1 hw1 => fromOne hq hw1 (by (repeat (first | exact P0 | apply P1))))) | ((with_reducible apply os_id); first | ((with_reducible apply os_x); exact rfl)) | ((with_reducible apply ox_id); first | ((with_reducible apply ox_buildSlice1); exact rfl; exact rfl; exact rfl; exact rfl; exact rfl; exact rfl; intro _)) | ((with_reducible apply rd_id); first | (apply Rd.old; (first | (with_reducible assumption) | exact c0 | exact c1 | exact c2 | exact c3 | exact c4 | exact c5 | exact c6 | exact c7 | exact c8 | exact d0 | exact d1 | exact d2 | exact d3 | exact d4 | exact d5); first | exact List.not_mem_nil | exact m0 | exact m1 | exact m2 | exact m3 | exact m4 | exact m5 | exact m6 | exact m7 | exact m8 | exact m9)) | ((with_reducible apply t_id); first | (apply t_regionE) | ((with_reducible apply t_seq))) | with_reducible apply q_thenN | ((with_reducible apply te_id); first | ((with_reducible apply e_p); exact rfl; ((with_reducible apply op_call (k := 106) (hc := Try.call106)); exact rfl; exact rfl; exact fun D w1 hw1 => must_no _ w1)) | ((with_reducible apply e_q); exact rfl; exact rfl; exact rfl; exact rfl) | ((with_reducible apply e_s); exact rfl; exact rfl; exact rfl) | ((with_reducible apply e_nil))))
  all_goals exact ⟨_, rfl, rfl⟩
theorem flight_no (bd : Nat) (o : Off) (A : Option Addr) (cf : Nat) (B : Option Addr) (cb : Nat) (w : World) (hD : Desk w bd o A cf B cb) (hn : o.fl.length ≤ 1000000) (n : Int) (h0 : ¬ openE o n = 0) : Calls Try.prog 133 #[.pointer (some ⟨bd, 0, none⟩), .int .i64 n] w fun e w' => e = .panicked (refu (openE o n)) ∧ Ext w w' := by
  by_cases hin : 0 ≤ n ∧ n < (o.fl.length : Int)
  · obtain ⟨i, rfl⟩ : ∃ i : Nat, n = (i : Int) := ⟨n.toNat, by omega⟩
    obtain ⟨d, hi⟩ : ∃ d, o.fl[i]? = some d := ⟨_, List.getElem?_eq_getElem (by omega)⟩
    have e : openE o (i : Int) = if d.state = 0 then 0 else 85 := by unfold openE; rw [if_pos hin, Int.toNat_natCast, hi]
    rw [e] at h0 ⊢
    by_cases hs : d.state = 0
    · rw [if_pos hs] at h0; exact absurd rfl h0
    · rw [if_neg hs]; exact flight_gone bd o A cf B cb w hD hn i d hi hs
  · have e : openE o n = 2 := by unfold openE; rw [if_neg hin]
    rw [e]
    exact flight_arg bd o A cf B cb w hD hn n hin
theorem openE_ok {o : Off} {n : Int} (h : openE o n = 0) : ∃ (i : Nat) (d : Dep), n = (i : Int) ∧ o.fl[i]? = some d ∧ d.state = 0 := by
  by_cases hin : 0 ≤ n ∧ n < (o.fl.length : Int)
  · obtain ⟨i, rfl⟩ : ∃ i : Nat, n = (i : Int) := ⟨n.toNat, by omega⟩
    obtain ⟨d, hi⟩ : ∃ d, o.fl[i]? = some d := ⟨_, List.getElem?_eq_getElem (by omega)⟩
    refine ⟨i, d, rfl, hi, ?_⟩
    unfold openE at h
    rw [if_pos hin, Int.toNat_natCast, hi] at h
    by_cases hs : d.state = 0
    · exact hs
    · simp [hs] at h
  · unfold openE at h
    rw [if_neg hin] at h
    exact absurd h (by decide)
end Go.Proofs.Ytmlmgipngbndgaa
namespace Go.Proofs.Ytmlmgipngbndgaa
set_option linter.unusedVariables false
set_option linter.unusedSimpArgs false
theorem many_set {l : List Bk} {j : Nat} {x y : Bk} (h : l[j]? = some x) (f s : Int) : manyV (l.set j y) f s = manyV l f s - cN f s x + cN f s y := by
  rw [many_sm, many_sm, sm_set h]
theorem cN_in (f s : Int) (x : Bk) : 0 ≤ cN f s x ∧ cN f s x ≤ 1 := by unfold cN; split <;> omega
theorem cN_no {f s : Int} {x : Bk} (h : x.flight ≠ f ∨ x.state ≠ s) : cN f s x = 0 := by
  unfold cN
  rw [if_neg]
  intro hb
  obtain ⟨h1, h2⟩ := isB_st hb
  rcases h with h | h
  · exact h h1
  · exact h h2
theorem cancel_valid {o : Off} (hv : OkO o) {j : Nat} {b : Bk} (hb : o.bk[j]? = some b) (hs : b.state = 1 ∨ b.state = 2) : officeB (cancelV o (j : Int)) = true := by
  have hm := List.mem_of_getElem? hb
  obtain ⟨i, d, hf, hi, hc⟩ := hv.bkok hm
  have h := hv.semi i
  have h0 := hv.st_open hm hs hf hi
  have hdep : depAt o (i : Int) = d := by unfold depAt; rw [Int.toNat_natCast, hi]
  have hbat : bkAt o (j : Int) = b := by unfold bkAt; rw [Int.toNat_natCast, hb]
  have hdd := hv.dep hi
  have hfe := fee_in ⟨hdd.2.2.1, hdd.2.2.2.1⟩ hv.fee
  have hp : prc o.fl b = d.price := prc_at hf hi
  have hp2 : ∀ k, prc o.fl ⟨b.flight, 4, k⟩ = d.price := fun k => prc_at hf hi
  have hk : 0 ≤ keptV o d b ∧ keptV o d b ≤ feeV d.price o.fee := by unfold keptV; split <;> omega
  unfold cancelV paidB
  simp only [hbat, hf, hdep, Int.toNat_natCast]
  obtain ⟨kp, hkp⟩ : ∃ kp, keptV o d b = kp := ⟨_, rfl⟩
  rw [hkp] at hk ⊢
  have c1 : cH o.fl b = d.price := by unfold cH; rw [if_pos hs, hp]
  have c2 : cE o.fl b = 0 := by unfold cE; rw [if_neg (by omega)]
  have c3 : cK o.fl b = 0 := by unfold cK; rw [if_neg (by omega)]
  have c4 : cB o.fl b = 0 := by unfold cB; rw [if_neg (by omega)]
  have e1 : cH o.fl ⟨(i : Int), 4, kp⟩ = 0 := by unfold cH; simp
  have e2 : cE o.fl ⟨(i : Int), 4, kp⟩ = 0 := by unfold cE; simp
  have e3 : cK o.fl ⟨(i : Int), 4, kp⟩ = kp := by unfold cK; simp
  have e4 : cB o.fl ⟨(i : Int), 4, kp⟩ = d.price - kp := by unfold cB; simp; rw [prc_at rfl hi]
  have n1 := many_set (y := ⟨(i : Int), 4, kp⟩) hb
  refine Semi.given (o := { o with bk := o.bk.set j ⟨(i : Int), 4, kp⟩, out := o.out + (d.price - kp) }) (i := i) ⟨h.now, h.notice, h.fee, h.nf, by simp only [List.length_set]; exact h.nb, h.deps, fun x hx => ?_, fun k e hk2 he => ?_, ?_, ?_⟩ hi h0 ?_ ?_
  · rcases List.mem_or_eq_of_mem_set hx with hx | rfl
    · exact h.bks x hx
    · exact ⟨i, d, rfl, hi, .inl ⟨rfl, hk.1, hk.2⟩⟩
  · simp only
    have z : ∀ s, manyV (o.bk.set j ⟨(i : Int), 4, kp⟩) (k : Int) s = manyV o.bk (k : Int) s := fun s => by
      rw [n1, cN_no (x := b) (.inl (by rw [hf]; omega)), cN_no (x := ⟨(i : Int), 4, kp⟩) (.inl (by simp only; omega))]; omega
    rw [z, z, z]
    exact h.seat k e hk2 he
  · simp only [sm_set hb, c1, c2, c3, c4, e1, e2, e3, e4]
    have := h.inn
    omega
  · simp only [sm_set hb, c4, e4]
    have := h.out
    omega
  · simp only
    rw [n1, cN_no (x := ⟨(i : Int), 4, kp⟩) (.inr (by simp))]
    have := hv.seat hi
    have := many_pos o.bk (i : Int) 3
    have := cN_in (i : Int) 1 b
    omega
  · simp only
    rw [n1, cN_no (x := ⟨(i : Int), 4, kp⟩) (.inr (by simp)), cN_no (x := b) (.inr (by omega)), hv.noflown hi h0]; omega
/-- The departures, with another one at i of the same price. -/
theorem set_at {fl : List Dep} {i : Nat} {d z : Dep} (hi : fl[i]? = some d) (k : Nat) : (fl.set i z)[k]? = if k = i then some z else fl[k]? := by
  by_cases hk : k = i
  · subst hk; rw [if_pos rfl]; simp [(List.getElem?_eq_some_iff.1 hi).1]
  · rw [if_neg hk, List.getElem?_set_ne (fun e => hk e.symm)]
theorem set_prc {fl : List Dep} {i : Nat} {d z : Dep} (hi : fl[i]? = some d) (hp : z.price = d.price) {x : Bk} {k : Nat} {e : Dep} (hk : x.flight = (k : Int)) (he : fl[k]? = some e) : prc (fl.set i z) x = prc fl x := by
  rw [prc_at hk he]
  by_cases hki : k = i
  · subst hki
    obtain rfl : e = d := by rw [hi] at he; exact (Option.some.inj he).symm
    rw [prc_at hk (by rw [set_at hi, if_pos rfl]), hp]
  · rw [prc_at hk (by rw [set_at hi, if_neg hki]; exact he)]
theorem seats_valid {o : Off} (hv : OkO o) {i : Nat} {d : Dep} (hi : o.fl[i]? = some d) (h0 : d.state = 0) {s : Int} (hs : 0 ≤ s ∧ s ≤ 50) (hm : manyV o.bk i 1 ≤ s) (x : Deal) (hx1 : x.n = (i : Int)) (hx2 : x.seats = s) : officeB (seatsV o x) = true := by
  have h := hv.semi i
  have hdep : depAt o (i : Int) = d := by unfold depAt; rw [Int.toNat_natCast, hi]
  have hdd := hv.dep hi
  have hil := (List.getElem?_eq_some_iff.1 hi).1
  unfold seatsV
  simp only [hx1, hx2, hdep, Int.toNat_natCast]
  have hat := fun k => set_at (z := ⟨s, d.price, d.leaves, d.state⟩) hi k
  have hpr : ∀ y ∈ o.bk, prc (o.fl.set i ⟨s, d.price, d.leaves, d.state⟩) y = prc o.fl y := fun y hy => by
    obtain ⟨k, e, hk, he, _⟩ := hv.bkok hy
    exact set_prc (z := ⟨s, d.price, d.leaves, d.state⟩) hi rfl hk he
  have hs1 : sm (cH (o.fl.set i ⟨s, d.price, d.leaves, d.state⟩)) o.bk = sm (cH o.fl) o.bk := sm_congr fun x hx => by unfold cH; rw [hpr x hx]
  have hs2 : sm (cE (o.fl.set i ⟨s, d.price, d.leaves, d.state⟩)) o.bk = sm (cE o.fl) o.bk := sm_congr fun x hx => by unfold cE; rw [hpr x hx]
  have hs3 : sm (cK (o.fl.set i ⟨s, d.price, d.leaves, d.state⟩)) o.bk = sm (cK o.fl) o.bk := sm_congr fun x hx => rfl
  have hs4 : sm (cB (o.fl.set i ⟨s, d.price, d.leaves, d.state⟩)) o.bk = sm (cB o.fl) o.bk := sm_congr fun x hx => by unfold cB; rw [hpr x hx]
  refine Semi.given (o := { o with fl := o.fl.set i ⟨s, d.price, d.leaves, d.state⟩ }) (i := i) (d := ⟨s, d.price, d.leaves, d.state⟩) ⟨h.now, h.notice, h.fee, by simp only [List.length_set]; exact h.nf, h.nb, fun e he => ?_, fun y hy => ?_, fun k e hk he => ?_, ?_, ?_⟩ (by rw [hat, if_pos rfl]) h0 hm (hv.noflown hi h0)
  · rcases List.mem_or_eq_of_mem_set he with he | rfl
    · exact h.deps e he
    · refine ⟨?_, by simp only; omega⟩
      unfold depOk
      simp only [Bool.and_eq_true, decide_eq_true_eq]
      omega
  · obtain ⟨k, e, hk, he, hc⟩ := h.bks y hy
    by_cases hki : k = i
    · subst hki
      obtain rfl : e = d := by rw [hi] at he; exact (Option.some.inj he).symm
      exact ⟨k, ⟨s, e.price, e.leaves, e.state⟩, hk, by simp only; rw [hat, if_pos rfl], hc⟩
    · exact ⟨k, e, hk, by simp only; rw [hat, if_neg hki]; exact he, hc⟩
  · simp only at he
    rw [hat, if_neg hk] at he
    exact h.seat k e hk he
  · simp only; rw [hs1, hs2, hs3, hs4]; exact h.inn
  · simp only; rw [hs4]; exact h.out
theorem sm_paid (f to price : Int) : ∀ (l : List Bk), sm (fun x => if backB f to x = true then price else 0) l = paidV l f to price
  | [] => by simp [sm, paidV]
  | x :: l => by
    unfold paidV
    simp only [sm]
    rw [sm_paid f to price l]
    unfold paidV
    by_cases h : backB f to x = true
    · rw [if_pos h, List.filter_cons_of_pos h, List.length_cons]; simp only [Int.natCast_add, Int.natCast_one, Int.add_mul, Int.one_mul]; omega
    · rw [if_neg h, List.filter_cons_of_neg h]; omega
theorem closed_valid {o : Off} (hv : OkO o) {i : Nat} {d : Dep} (hi : o.fl[i]? = some d) (h0 : d.state = 0) {st to : Int} (hst : (st = 1 ∧ to = 3) ∨ (st = 2 ∧ to = 4)) : officeB (closedV o i d st to) = true := by
  have h := hv.semi i
  have hdd := hv.dep hi
  have hfe := fee_in ⟨hdd.2.2.1, hdd.2.2.2.1⟩ hv.fee
  have hat := fun k => set_at (z := ⟨d.seats, d.price, d.leaves, st⟩) hi k
  have hpr : ∀ y ∈ o.bk, ∀ z : Bk, z.flight = y.flight → prc (o.fl.set i ⟨d.seats, d.price, d.leaves, st⟩) z = prc o.fl y := fun y hy z hz => by
    obtain ⟨k, e, hk, he, _⟩ := hv.bkok hy
    rw [set_prc (z := ⟨d.seats, d.price, d.leaves, st⟩) hi rfl (hz.trans hk) he, prc_at (hz.trans hk) he, prc_at hk he]
  -- how a booking is
  have key : ∀ x ∈ o.bk, (x.flight = (i : Int) ∧ x.state = 1 ∧ shutB (i : Int) to x = ⟨x.flight, to, x.kept⟩ ∧ x.kept = 0 ∧ backB (i : Int) to x = decide (to = 4)) ∨ (x.flight = (i : Int) ∧ x.state = 2 ∧ shutB (i : Int) to x = ⟨x.flight, 4, x.kept⟩ ∧ x.kept = 0 ∧ backB (i : Int) to x = true) ∨ ((x.flight ≠ (i : Int) ∨ x.state = 4) ∧ shutB (i : Int) to x = x ∧ backB (i : Int) to x = false) := fun x hx => by
    by_cases hf : x.flight = (i : Int)
    · rcases hv.open_st hi h0 hx hf with h1 | h1 | h1
      · refine .inl ⟨hf, h1, ?_, hv.kept0 hx (.inl h1), ?_⟩
        · unfold shutB; rw [if_pos (by unfold isB; simp [hf, h1])]
        · unfold backB isB; simp [hf, h1]
      · refine .inr (.inl ⟨hf, h1, ?_, hv.kept0 hx (.inr h1), ?_⟩)
        · unfold shutB; rw [if_neg (by unfold isB; simp [h1]), if_pos (by unfold isB; simp [hf, h1])]
        · unfold backB isB; simp [hf, h1]
      · have := shut_no (f := (i : Int)) (to := to) (x := x) (by rw [mt_is2]; unfold isB; simp [h1])
        exact .inr (.inr ⟨.inr h1, this.1, this.2⟩)
    · have := shut_no (f := (i : Int)) (to := to) (x := x) (by rw [mt_is2]; unfold isB; simp [hf])
      exact .inr (.inr ⟨.inl hf, this.1, this.2⟩)
  have pr : ∀ x ∈ o.bk, x.flight = (i : Int) → prc o.fl x = d.price := fun x hx hf => prc_at hf hi
  have hB : sm (cB (o.fl.set i ⟨d.seats, d.price, d.leaves, st⟩)) (o.bk.map (shutB (i : Int) to)) = sm (cB o.fl) o.bk + paidV o.bk (i : Int) to d.price := by
    rw [sm_map, ← sm_paid, ← sm_add]
    refine sm_congr fun x hx => ?_
    rcases key x hx with ⟨hf, hs, e1, e2, e3⟩ | ⟨hf, hs, e1, e2, e3⟩ | ⟨hf, e1, e3⟩
    · rw [e1, e3]
      unfold cB
      simp only [hs, e2]
      rw [hpr x hx ⟨x.flight, to, 0⟩ rfl, pr x hx hf]
      rcases hst with ⟨_, ht⟩ | ⟨_, ht⟩ <;> subst ht <;> simp
    · rw [e1, e3]
      unfold cB
      simp only [hs, e2, if_true]
      rw [hpr x hx ⟨x.flight, 4, 0⟩ rfl, pr x hx hf]; simp
    · rw [e1, e3]
      unfold cB
      rw [hpr x hx x rfl]; simp
  have hT : sm (fun x => cH (o.fl.set i ⟨d.seats, d.price, d.leaves, st⟩) x + cE (o.fl.set i ⟨d.seats, d.price, d.leaves, st⟩) x + cK (o.fl.set i ⟨d.seats, d.price, d.leaves, st⟩) x + cB (o.fl.set i ⟨d.seats, d.price, d.leaves, st⟩) x) (o.bk.map (shutB (i : Int) to)) = sm (fun x => cH o.fl x + cE o.fl x + cK o.fl x + cB o.fl x) o.bk := by
    rw [sm_map]
    refine sm_congr fun x hx => ?_
    rcases key x hx with ⟨hf, hs, e1, e2, e3⟩ | ⟨hf, hs, e1, e2, e3⟩ | ⟨hf, e1, e3⟩
    · rw [e1]
      unfold cH cE cK cB
      simp only [hs, e2]
      rw [hpr x hx ⟨x.flight, to, 0⟩ rfl, pr x hx hf]
      rcases hst with ⟨_, ht⟩ | ⟨_, ht⟩ <;> subst ht <;> simp
    · rw [e1]
      unfold cH cE cK cB
      simp only [hs, e2]
      rw [hpr x hx ⟨x.flight, 4, 0⟩ rfl, pr x hx hf]; simp
    · rw [e1]
      unfold cH cE cK cB
      rw [hpr x hx x rfl]
  simp only [sm_add] at hT
  have nj : ∀ (k : Nat) (s : Int), k ≠ i → manyV (o.bk.map (shutB (i : Int) to)) (k : Int) s = manyV o.bk (k : Int) s := fun k s hk => by
    rw [many_sm, many_sm, sm_map]
    refine sm_congr fun x hx => ?_
    rcases key x hx with ⟨hf, hs, e1, e2, e3⟩ | ⟨hf, hs, e1, e2, e3⟩ | ⟨hf, e1, e3⟩
    · rw [e1, cN_no (x := ⟨x.flight, to, x.kept⟩) (.inl (by simp only; omega)), cN_no (x := x) (.inl (by omega))]
    · rw [e1, cN_no (x := ⟨x.flight, 4, x.kept⟩) (.inl (by simp only; omega)), cN_no (x := x) (.inl (by omega))]
    · rw [e1]
  have n2 : ∀ s : Int, s = 1 ∨ s = 2 → manyV (o.bk.map (shutB (i : Int) to)) (i : Int) s = 0 := fun s hs12 => by
    refine many_zero_of fun y hy => ?_
    obtain ⟨x, hx, rfl⟩ := List.mem_map.1 hy
    cases hb : isB (i : Int) s (shutB (i : Int) to x) with
    | false => rfl
    | true =>
      exfalso
      obtain ⟨b1, b2⟩ := isB_st hb
      rcases key x hx with ⟨hf, hs, e1, e2, e3⟩ | ⟨hf, hs, e1, e2, e3⟩ | ⟨hf, e1, e3⟩
      · rw [e1] at b2; simp only at b2; omega
      · rw [e1] at b2; simp only at b2; omega
      · rw [e1] at b1 b2
        rcases hf with hf | hf
        · exact hf b1
        · omega
  have n3 : manyV (o.bk.map (shutB (i : Int) to)) (i : Int) 3 ≤ manyV o.bk (i : Int) 3 + manyV o.bk (i : Int) 1 := by
    rw [many_sm, many_sm, many_sm, sm_map, ← sm_add]
    have le : ∀ l : List Bk, (∀ x ∈ l, x ∈ o.bk) → sm (fun x => cN (i : Int) 3 (shutB (i : Int) to x)) l ≤ sm (fun x => cN (i : Int) 3 x + cN (i : Int) 1 x) l := by
      intro l
      induction l with
      | nil => intro _; exact Int.le_refl _
      | cons x l ih =>
        intro hl
        have ih' := ih (fun y hy => hl y (List.mem_cons_of_mem _ hy))
        simp only [sm]
        have c1 := cN_in (i : Int) 3 x
        have c2 := cN_in (i : Int) 1 x
        rcases key x (hl x (List.mem_cons_self ..)) with ⟨hf, hs, e1, e2, e3⟩ | ⟨hf, hs, e1, e2, e3⟩ | ⟨hf, e1, e3⟩
        · have c3 := cN_in (i : Int) 3 ⟨x.flight, to, x.kept⟩
          have c4 : cN (i : Int) 1 x = 1 := by unfold cN isB; simp [hf, hs]
          rw [e1]; omega
        · rw [e1, cN_no (x := ⟨x.flight, 4, x.kept⟩) (.inr (by simp))]; omega
        · rw [e1]; omega
    exact le o.bk (fun x hx => hx)
  have hS : Semi (closedV o i d st to) i := by
    refine ⟨h.now, h.notice, h.fee, by unfold closedV; simp only [List.length_set]; exact h.nf, by unfold closedV; simp only [List.length_map]; exact h.nb, fun e he => ?_, fun y hy => ?_, fun k e hk he => ?_, ?_, ?_⟩
    · rcases List.mem_or_eq_of_mem_set he with he | rfl
      · exact h.deps e he
      · refine ⟨?_, by simp only; omega⟩
        unfold depOk
        simp only [Bool.and_eq_true, decide_eq_true_eq]
        omega
    · obtain ⟨x, hx, rfl⟩ := List.mem_map.1 hy
      obtain ⟨k, e, hk, he, hc⟩ := h.bks x hx
      rcases key x hx with ⟨hf, hs, e1, e2, e3⟩ | ⟨hf, hs, e1, e2, e3⟩ | ⟨hf, e1, e3⟩
      · rw [e1]
        refine ⟨i, _, hf, by unfold closedV; simp only; rw [hat, if_pos rfl], ?_⟩
        rcases hst with ⟨h1, ht⟩ | ⟨h1, ht⟩
        · exact .inr ⟨by simp only; omega, by unfold fitB; simp [h1, ht], e2⟩
        · refine .inl ⟨ht, ?_, ?_⟩
          · simp only; omega
          · show x.kept ≤ feeV d.price o.fee; omega
      · rw [e1]
        refine ⟨i, _, hf, by unfold closedV; simp only; rw [hat, if_pos rfl], .inl ⟨rfl, ?_, ?_⟩⟩
        · simp only; omega
        · show x.kept ≤ feeV d.price o.fee; omega
      · rw [e1]
        by_cases hki : k = i
        · subst hki
          obtain rfl : e = d := by rw [hi] at he; exact (Option.some.inj he).symm
          have h4 : x.state = 4 := by
            rcases hf with hf | hf
            · exact absurd hk hf
            · exact hf
          refine ⟨k, _, hk, by unfold closedV; simp only; rw [hat, if_pos rfl], ?_⟩
          rcases hc with hc | hc
          · exact .inl hc
          · exact absurd h4 hc.1
        · exact ⟨k, e, hk, by unfold closedV; simp only; rw [hat, if_neg hki]; exact he, hc⟩
    · unfold closedV at he ⊢
      simp only at he ⊢
      rw [hat, if_neg hk] at he
      rw [nj k _ hk, nj k _ hk, nj k _ hk]
      exact h.seat k e hk he
    · unfold closedV
      simp only
      have := h.inn
      omega
    · unfold closedV
      simp only
      rw [hB, h.out]
  refine hS.valid fun e he => ?_
  unfold closedV at he ⊢
  simp only at he ⊢
  rw [hat, if_pos rfl] at he
  obtain rfl := Option.some.inj he
  rw [n2 1 (.inl rfl), n2 2 (.inr rfl)]
  have := hv.seat hi
  have := hv.noflown hi h0
  have := many_pos (o.bk.map (shutB (i : Int) to)) (i : Int) 3
  simp only
  omega
/-- The departures' states stay numbers from 0. -/
theorem done_st {o : Off} (hu : ∀ d ∈ o.fl, 0 ≤ d.state) (d : Deal) : ∀ e ∈ (doneO o d).fl, 0 ≤ e.state := by
  have hdep : ∀ n, 0 ≤ (depAt o n).state := fun n => by
    unfold depAt
    cases hh : o.fl[n.toNat]? with
    | none => exact Int.le_refl _
    | some e => exact hu e (List.mem_of_getElem? hh)
  intro e he
  unfold doneO at he
  split at he
  · unfold addV at he
    rcases List.mem_append.1 he with he | he
    · exact hu e he
    · rw [List.mem_singleton.1 he]; exact Int.le_refl _
  split at he
  · exact hu e he
  split at he
  · exact hu e he
  split at he
  · unfold closedV at he
    rcases List.mem_or_eq_of_mem_set he with he | rfl
    · exact hu e he
    · show (0 : Int) ≤ 1; decide
  split at he
  · unfold closedV at he
    rcases List.mem_or_eq_of_mem_set he with he | rfl
    · exact hu e he
    · show (0 : Int) ≤ 2; decide
  split at he
  · exact hu e he
  · unfold seatsV givenV at he
    rcases List.mem_or_eq_of_mem_set he with he | rfl
    · exact hu e he
    · exact hdep _
theorem done_valid {o : Off} (hv : OkO o) (d : Deal) (hE : doneE o d = 0) : officeB (doneO o d) = true := by
  obtain ⟨dk, dn, ds, dp, dl⟩ := d
  unfold doneE at hE
  unfold doneO
  simp only at hE ⊢
  by_cases k1 : dk = 1
  · subst k1
    rw [if_pos rfl] at hE ⊢
    by_cases c1 : depOk ⟨ds, dp, dl, 0⟩ = true ∧ o.now ≤ dl
    · rw [if_pos c1] at hE
      by_cases c2 : o.fl.length < 10
      · exact add_valid hv c1.1 rfl c2
      · rw [if_neg c2] at hE; exact absurd hE (by decide)
    · rw [if_neg c1] at hE; exact absurd hE (by decide)
  rw [if_neg k1] at hE ⊢
  by_cases k2 : dk = 2
  · subst k2
    rw [if_pos rfl] at hE ⊢
    by_cases c1 : openE o dn = 0
    · rw [if_pos c1] at hE
      by_cases c2 : o.bk.length < 120
      · obtain ⟨i, e, rfl, hi, h0⟩ := openE_ok c1
        exact sell_valid hv hi h0 c2
      · rw [if_neg c2] at hE; exact absurd hE (by decide)
    · rw [if_neg c1] at hE; exact absurd hE c1
  rw [if_neg k2] at hE ⊢
  by_cases k3 : dk = 3
  · subst k3
    rw [if_pos rfl] at hE ⊢
    by_cases c1 : 0 ≤ dn ∧ dn < (o.bk.length : Int)
    · rw [if_pos c1] at hE
      by_cases c2 : (bkAt o dn).state = 1 ∨ (bkAt o dn).state = 2
      · obtain ⟨j, rfl⟩ : ∃ j : Nat, dn = (j : Int) := ⟨dn.toNat, by omega⟩
        obtain ⟨b, hb⟩ : ∃ b, o.bk[j]? = some b := ⟨_, List.getElem?_eq_getElem (by omega)⟩
        have hbat : bkAt o (j : Int) = b := by unfold bkAt; rw [Int.toNat_natCast, hb]
        rw [hbat] at c2
        exact cancel_valid hv hb c2
      · rw [if_neg c2] at hE; exact absurd hE (by decide)
    · rw [if_neg c1] at hE; exact absurd hE (by decide)
  rw [if_neg k3] at hE ⊢
  by_cases k4 : dk = 4
  · subst k4
    rw [if_pos rfl] at hE ⊢
    by_cases c1 : openE o dn = 0
    · obtain ⟨i, e, rfl, hi, h0⟩ := openE_ok c1
      have hdep : depAt o (i : Int) = e := by unfold depAt; rw [Int.toNat_natCast, hi]
      rw [hdep, Int.toNat_natCast]
      exact closed_valid hv hi h0 (.inl ⟨rfl, rfl⟩)
    · rw [if_neg c1] at hE; exact absurd hE c1
  rw [if_neg k4] at hE ⊢
  by_cases k5 : dk = 5
  · subst k5
    rw [if_pos rfl] at hE ⊢
    obtain ⟨i, e, rfl, hi, h0⟩ := openE_ok hE
    have hdep : depAt o (i : Int) = e := by unfold depAt; rw [Int.toNat_natCast, hi]
    rw [hdep, Int.toNat_natCast]
    exact closed_valid hv hi h0 (.inr ⟨rfl, rfl⟩)
  rw [if_neg k5] at hE ⊢
  by_cases k6 : dk = 6
  · subst k6
    rw [if_pos rfl] at hE ⊢
    by_cases c1 : 1 ≤ dn ∧ dn ≤ 1000000 ∧ o.now + dn ≤ 1000000
    · have := hv.now
      exact tick_valid hv (by omega)
    · rw [if_neg c1] at hE; exact absurd hE (by decide)
  rw [if_neg k6] at hE ⊢
  by_cases k7 : dk = 7
  · subst k7
    rw [if_pos rfl] at hE
    by_cases c1 : openE o dn = 0
    · rw [if_pos c1] at hE
      by_cases c2 : 0 ≤ ds ∧ ds ≤ 50
      · rw [if_pos c2] at hE
        by_cases c3 : manyV o.bk dn 1 ≤ ds
        · obtain ⟨i, e, rfl, hi, h0⟩ := openE_ok c1
          exact seats_valid hv hi h0 c2 c3 _ rfl rfl
        · rw [if_neg c3] at hE; exact absurd hE (by decide)
      · rw [if_neg c2] at hE; exact absurd hE (by decide)
    · rw [if_neg c1] at hE; exact absurd hE c1
  rw [if_neg k7] at hE
  exact absurd hE (by decide)
theorem done_okO {o : Off} (hv : OkO o) (d : Deal) (hE : doneE o d = 0) : OkO (doneO o d) := okO (done_st (fun e he => (hv.deps e he).2) d) (done_valid hv d hE)
end Go.Proofs.Ytmlmgipngbndgaa
namespace Go.Proofs.Ytmlmgipngbndgaa
open Go.RowKit
set_option linter.unusedVariables false
set_option linter.unusedSimpArgs false
/-- A frame with the deferred calls ds, no marks. -/
def Fd (c : Cx) (ds : List Deferred) (F : Fr) (a : Act) : Prop := Frm [] c.N F ⟨a.tmps, []⟩ ∧ a.defers = ds
def cvd (c : Cx) (ds : List Deferred) (Q : QS) : Exit → Act → World → Prop := fun e a w => ∃ F H, Q e F H ∧ Fd c ds F a ∧ Has c.w0 ⟨c.M, []⟩ H w
def DT (c : Cx) (ds : List Deferred) (k : Code) (Q : QS) (F : Fr) (H : Hp) : Prop := ∀ a w, Fd c ds F a → Has c.w0 ⟨c.M, []⟩ H w → k.wp c.P (cvd c ds Q) a w
def DE (c : Cx) (ds : List Deferred) (ops : Array Oper) (rest : List Oper) (Q : QS) (F : Fr) (H : Hp) : Prop :=
  ∀ i, ops.toList.drop i = rest → ∀ a w, Fd c ds F a → Has c.w0 ⟨c.M, []⟩ H w → wpOps c.P ops (cvd c ds Q) (List.range' i (ops.size - i)) a w
section
variable {c : Cx} {ds : List Deferred} {Q : QS} {F : Fr} {H : Hp} {ops : Array Oper} {o : Oper} {rest : List Oper} {d : Nat} {v : Value} {x y : Code}
theorem eval_ds (a : Act) : (⟨a.tmps, []⟩ : Act).eval = a.eval := by funext x; cases x <;> rfl
theorem put_ds (a : Act) (d : Option Tmp) (v : Value) : (a.put d v).defers = a.defers := by cases d <;> rfl
theorem put_tm (a : Act) (d : Option Tmp) (v : Value) : (⟨a.tmps, []⟩ : Act).put d v = ⟨(a.put d v).tmps, []⟩ := by cases d <;> rfl
theorem Fd.put {a : Act} (h : Fd c ds F a) (hd : Nat.blt d c.N = true) (v : Value) : Fd c ds ((d, v) :: F) (a.put (some d) v) := ⟨h.1.put hd v, h.2⟩
theorem Fd.putNone {a : Act} (h : Fd c ds F a) (v : Value) : Fd c ds F (a.put none v) := h
theorem Fd.wanted {a : Act} {r : Bool} (h : Fd c ds F a) (hr : runs ops F o = some r) : Region.wanted o (yielded ops a.tmps) = r := runs_spec (a := ⟨a.tmps, []⟩) h.1 hr
theorem dt_seq (h : DT c ds x (thenQ (DT c ds y Q) Q) F H) : DT c ds (.seq x y) Q F H := fun a w ha hw =>
  wp_seq (wp_mono (h a w ha hw) fun e a w ⟨F', H', h1, h2, h3⟩ => by
    cases e <;> first
      | exact ⟨F', H', h1, h2, h3⟩
      | exact h1 a w h2 h3)
theorem dt_skip (h : Q .normal F H) : DT c ds .skip Q F H := fun a w ha hw => wp_skip ⟨F, H, h, ha, hw⟩
theorem dt_condT {o : Operand} (ho : ev F o = some (.bool true)) (h : DT c ds x Q F H) : DT c ds (.cond o x y) Q F H := fun a w ha hw => wp_cond (t := true) (ha.1.ev ho) (h a w ha hw)
theorem dt_condF {o : Operand} (ho : ev F o = some (.bool false)) (h : DT c ds y Q F H) : DT c ds (.cond o x y) Q F H := fun a w ha hw => wp_cond (t := false) (ha.1.ev ho) (h a w ha hw)
theorem dt_region {id : Nat} {l : List Oper} (h : DE c ds ⟨l⟩ l Q F H) : DT c ds (.region id ⟨l⟩ false) Q F H := fun a w ha hw => by
  refine wp_region ?_
  have := h 0 rfl a w ha hw
  rw [List.range_eq_range']
  exact this
theorem d_nil (h : Q .normal F H) : DE c ds ops [] Q F H := fun i hi a w ha hw => by
  have : ops.size - i = 0 := by
    have := congrArg List.length hi
    simp at this
    omega
  rw [this]
  exact ⟨F, H, h, ha, hw⟩
theorem d_q (hr : runs ops F o = some true) (_hw : isW o.op = false) (hd : o.dst = some d) (hN : Nat.blt d c.N = true) (h : OQ c o F H v) (k : DE c ds ops rest Q ((d, v) :: F) H) : DE c ds ops (o :: rest) Q F H := fun i hi a w ha hw => by
  obtain ⟨h1, h2, h3⟩ := drop_cons hi
  rw [h3]
  simp only [wpOps, h1, ha.wanted hr, if_true]
  refine .inl (givesUpon_wpQ (eval_ds a ▸ h [] ⟨a.tmps, []⟩ w ha.1 hw) fun u w' ⟨hu, hx⟩ => ?_)
  subst hu
  rw [hd]
  exact k _ h2 _ _ (ha.put hN _) (hw.grow hx)
theorem d_s (hr : runs ops F o = some true) (hd : o.dst = some d) (hN : Nat.blt d c.N = true) (h : OS c o F H (fun v H' => DE c ds ops rest Q ((d, v) :: F) H')) : DE c ds ops (o :: rest) Q F H := fun i hi a w ha hw => by
  obtain ⟨h1, h2, h3⟩ := drop_cons hi
  rw [h3]
  simp only [wpOps, h1, ha.wanted hr, if_true]
  refine .inl (givesUpon_wpQ (eval_ds a ▸ h [] ⟨a.tmps, []⟩ w ha.1 hw) fun u w' ⟨H', hu, hx⟩ => ?_)
  rw [hd]
  exact hu _ h2 _ _ (ha.put hN _) hx
theorem d_s0 (hr : runs ops F o = some true) (hd : o.dst = none) (h : OS c o F H (fun _ H' => DE c ds ops rest Q F H')) : DE c ds ops (o :: rest) Q F H := fun i hi a w ha hw => by
  obtain ⟨h1, h2, h3⟩ := drop_cons hi
  rw [h3]
  simp only [wpOps, h1, ha.wanted hr, if_true]
  refine .inl (givesUpon_wpQ (eval_ds a ▸ h [] ⟨a.tmps, []⟩ w ha.1 hw) fun u w' ⟨H', hu, hx⟩ => ?_)
  rw [hd]
  exact hu _ h2 _ _ (ha.putNone _) hx
theorem d_p (hr : runs ops F o = some true) (h : OP c o F H (fun ch H' => Q (.panic ch) F H')) : DE c ds ops (o :: rest) Q F H := fun i hi a w ha hw => by
  obtain ⟨h1, h2, h3⟩ := drop_cons hi
  rw [h3]
  simp only [wpOps, h1, ha.wanted hr, if_true]
  exact .inl (panics_wp (eval_ds a ▸ h [] ⟨a.tmps, []⟩ w ha.1 hw) fun ch w' ⟨H', hk, hw'⟩ => ⟨F, H', hk, ha, hw'⟩)
theorem wpGI_ds {P : Program} {I : World → Prop} {R : Act → Prop} : ∀ (l : List Nat) (a : Act), a.defers = ds → wpGI P ops I R l ⟨a.tmps, []⟩ → wpGI P ops I (fun a' => R ⟨a'.tmps, []⟩ ∧ a'.defers = ds) l a
  | [], a, hd, h => ⟨h, hd⟩
  | i :: l, a, hd, h => by
    unfold wpGI at h ⊢
    cases ho : ops[i]? with
    | none => simp only [ho] at h
    | some o =>
      simp only [ho] at h ⊢
      by_cases hw : Region.wanted o (yielded ops a.tmps) = true
      · simp only [hw, if_true] at h ⊢
        obtain ⟨v, h1, h2⟩ := h
        refine ⟨v, ?_, ?_⟩
        · intro W hW; have := h1 W hW; rw [eval_ds] at this; exact this
        exact wpGI_ds l (a.put o.dst v) (by rw [put_ds]; exact hd) (by rw [← put_tm]; exact h2)
      · simp only [hw] at h ⊢
        exact wpGI_ds l (a.put o.dst undef) (by rw [put_ds]; exact hd) (by rw [← put_tm]; exact h)
/-- A drawn region: quiet operations, then one that is not. -/
theorem dt_mix1 {id i : Nat} {l ql : List Oper} (q : List Nat) (cov : Array Bool) (hm : c.P.follows .mixedOrders = true) (hB : (Region.noSelect ⟨l⟩ && (1 + q.length == (Array.mk l).size) && lexOk ⟨l⟩ cov q (Array.replicate (Array.mk l).size false)) = true)
    (hq : pickOps l q = some ql) (hr : Region.ready .any ⟨l⟩ (listedBy q (Array.replicate (Array.mk l).size false)) = [i]) (hc : cov.getD i false = true) (ho : l[i]? = some o)
    (hz : Region.ready .any ⟨l⟩ ((listedBy q (Array.replicate (Array.mk l).size false)).setIfInBounds i true) = []) (hd : o.dst = some d) (hN : Nat.blt d c.N = true)
    (h : GX c ⟨l⟩ ql (fun F' => runs ⟨l⟩ F' o = some true ∧ (OS c o F' H (fun v H' => Q .normal ((d, v) :: F') H') ∨ OP c o F' H (fun ch H' => Q (.panic ch) F' H'))) F H) : DT c ds (.region id ⟨l⟩ true) Q F H := fun a w ha hw => by
  refine wpIn_wide.1 (wpInW_mixed (n := 0) (cov := cov) (Has.up (M := ⟨c.M, []⟩)) hw q 1 hm hB (wpGI_mono (fun a' ⟨⟨F', ⟨h1, h2⟩, h3⟩, h4⟩ w' hw' => ?_) q a (wpGI_ds q a ha.2 (h q (pickOps_spec hq) [] _ ha.1))))
  have hfd : Fd c ds F' a' := ⟨h3, h4⟩
  refine SInI_one hr hc (wpOpIn_on (o := o) (by simpa using ho) (hfd.wanted h1) ?_)
  rcases h2 with h2 | h2
  · refine wpInW_of_wp (givesUpon_wp (eval_ds a' ▸ h2 [] ⟨a'.tmps, []⟩ w' h3 hw') fun u w'' ⟨H', hu, hx⟩ => ?_)
    rw [hd]
    exact ⟨hz, _, H', hu, hfd.put hN _, hx⟩
  · exact panics_wpIn (eval_ds a' ▸ h2 [] ⟨a'.tmps, []⟩ w' h3 hw') fun ch w'' ⟨H', hk, hx⟩ => ⟨F', H', hk, hfd, hx⟩
theorem dt_ret (h : Q .ret F H) : DT c ds .ret Q F H := fun a w ha hw => wp_ret ⟨F, H, h, ha, hw⟩
theorem dt_run {k : Code} (h : DT c ds k Q F H) (a : Act) (w : World) (ha : Fd c ds F a) (hw : Has c.w0 ⟨c.M, []⟩ H w) : k.wp c.P (cvd c ds Q) a w := h a w ha hw
theorem dt_id {k : Code} (h : DT c ds k Q F H) : DT c ds k Q F H := h
theorem de_id {l : List Oper} (h : DE c ds ops l Q F H) : DE c ds ops l Q F H := h
end
end Go.Proofs.Ytmlmgipngbndgaa
namespace Go.Proofs.Ytmlmgipngbndgaa
open Go.RowKit
attribute [local irreducible] DT DE TE AE OP OQ OS OX Rd T TL GX GL AL AI RV wpG SAny Calls
set_option maxRecDepth 100000
set_option maxHeartbeats 2000000
set_option linter.unusedVariables false
set_option linter.unusedSimpArgs false
theorem assert_ok (v : Value) (w : World) : (Instr.typeAssert (.iface 169 v) 20 169 true).run Try.prog w = .ok (.tuple #[v, .bool true]) w := by
  kernel_rfl
theorem assert_nil (w : World) : (Instr.typeAssert .nilIface 20 169 true).run Try.prog w = .ok (.tuple #[.agg #[.int .i64 0], .bool false]) w := by
  kernel_rfl
theorem neq_nil (w : World) : (binOp .neq 20 .nilIface .nilIface).run Try.prog w = .ok (.bool false) w := by
  kernel_rfl
section
variable {w0 : World} {M : List Nat} {N : Nat} {F : Fr} {H : Hp} {d : Option Tmp} {ty : TypeId} {pos : String} {af : Array Edge} {g : Option (Nat × Bool)} {x y : Operand} {v : Value}
theorem oq_assertOk (hx : ev F x = some (.iface 169 v)) : OQ (cxM M w0 N) ⟨d, .typeAssert x 20 169 true, ty, pos, af, g⟩ F H (.tuple #[v, .bool true]) := .of fun D a w ha _ => by
  simp only [execOp, ha.ev hx, Sem.run_bind, assert_ok, Result.andThen, Sem.run_pure]
theorem oq_assertNil (hx : ev F x = some .nilIface) : OQ (cxM M w0 N) ⟨d, .typeAssert x 20 169 true, ty, pos, af, g⟩ F H (.tuple #[.agg #[.int .i64 0], .bool false]) := .of fun D a w ha _ => by
  simp only [execOp, ha.ev hx, Sem.run_bind, assert_nil, Result.andThen, Sem.run_pure]
theorem oq_neqNilI (hx : ev F x = some .nilIface) : OQ (cxM M w0 N) ⟨d, .binOp .neq 20 x (.const .nilIface) 20, ty, pos, af, g⟩ F H (.bool false) := .of fun D a w ha _ => by
  have e1 : (eqGuard .neq 20 x (.const .nilIface) .nilIface .nilIface).run Try.prog w = .ok () w := by simp [eqGuard, go_sem]
  simp only [execOp, ha.ev hx, (show a (.const .nilIface) = .nilIface from ha.ev (F := F) rfl), Sem.run_bind, neq_nil, e1, Result.andThen, Sem.run_pure]
end
theorem wpS_of_dt {c : Cx} {k : Code} {Q : QS} {F : Fr} {H : Hp} {a : Act} {cs : List Frame} {w : World} {Q' : Exit → Act → List Frame → World → Prop} (h : DT c [] k Q F H) (hf : Fd c [] F a) (hw : Has c.w0 ⟨c.M, []⟩ H w) (hq : ∀ e a w, cvd c [] Q e a w → Q' e a cs w) : k.wpS c.P Q' a cs w :=
  wpS_of_wp (wp_mono (dt_run h a w hf hw) hq)
theorem rec_pan (be : Nat) (z old : Int) (tg : Tg) (w : World) (hw : Has w ⟨[be], []⟩ [(be, [.int .i64 old], tg)] w) :
    CallsD Try.prog 104 #[.pointer (some ⟨be, 0, none⟩)] (.panicking (refu z)) w fun e u' w' => e = .returned (.tuple #[]) ∧ u' = .panicking [{ v := .iface 169 (.agg #[.int .i64 z]), recovered := true }] ∧ Has w ⟨[be], []⟩ [(be, [.int .i64 z], tg)] w' := by
  refine callsD_of_wpS Try.func104 rfl fun c₀ cs hu => ?_
  apply wpS_seq
  apply wpS_region
  simp [wpOpsS, go_sem, recoverD, hu, refu, Exit.thenS]
  refine wpS_of_dt (c := cxM [be] w 16) (Q := fun e _ H => (e = .normal ∨ e = .ret) ∧ HpSub H [(be, [.int .i64 z], tg)]) (F := [(1, .iface 169 (.agg #[.int .i64 z])), (0, .pointer (some ⟨be, 0, none⟩))]) (H := [(be, [.int .i64 old], tg)]) ?D ⟨⟨by simp, rfl, fun d v h => ?_⟩, rfl⟩ hw ?_
  case D =>
    repeat' (first | ((with_reducible apply oq_id); first | (apply oq_fn; exact rfl; first | exact trivial | (refine ⟨?_, ?_⟩ <;> omega) | (refine ⟨?_, ?_, ?_⟩ <;> omega) | omega | skip) | ((with_reducible apply oq_load); exact rfl; exact rfl) | ((with_reducible apply oq_assertOk); exact rfl)) | ((with_reducible apply os_id); first | ((with_reducible apply os_x); exact rfl) | ((with_reducible apply os_store); exact rfl; exact rfl; exact rfl; exact rfl) | ((with_reducible apply os_storeAgg); exact rfl; exact rfl; exact rfl; exact rfl; exact rfl)) | ((with_reducible apply ox_id); first | ((with_reducible apply ox_alloc); exact rfl; intro _)) | ((with_reducible apply rd_id); first | (apply Rd.own; (repeat (first | exact P0 | apply P1)); exact rfl; done)) | with_reducible apply q_thenN | exact P0 | ((with_reducible apply P1)) | ((with_reducible apply Norm.nil); exact rfl) | ((with_reducible apply Norm.cons); exact rfl) | ((with_reducible apply de_id); first | ((with_reducible apply d_q); exact rfl; exact rfl; exact rfl; exact rfl) | ((with_reducible apply d_s0); exact rfl; exact rfl) | ((with_reducible apply d_s); exact rfl; exact rfl; exact rfl) | ((with_reducible apply d_nil))) | ((with_reducible apply dt_id); first | ((with_reducible apply dt_seq)) | (apply dt_region) | ((with_reducible apply dt_condT); exact rfl)) | exact Nat.le_of_ble_eq_true rfl)
    all_goals (refine ⟨.inl rfl, ?_⟩)
    all_goals (repeat (first | exact HpSub.refl _ | (apply HpSub.consE; (repeat (first | exact P0 | apply P1)); exact rfl) | exact HpSub.nil))
  · rcases d with _ | _ | d
    · simpa [look] using h
    · simpa [look] using h
    · rw [look_cons_ne _ _ (by omega), look_cons_ne _ _ (by omega)] at h; cases h
  · rintro e a w' ⟨F', H', ⟨he, hs⟩, ⟨hf1, hf2⟩, hw'⟩
    have hres : (results Try.f104 a.tmps).run Try.prog w' = .ok (.tuple #[]) w' := results_run (c := cxM [be] w 16) (fn := Try.f104) (rs := []) (vs := []) (D := []) (a := ⟨a.tmps, []⟩) rfl hf1 hw' trivial
    have hu' : ({ fn := c₀.fn, tmps := c₀.tmps, todo := c₀.todo, defers := c₀.defers, mode := .panicking [{ v := .iface 169 (.agg #[.int .i64 z]), recovered := true }], kind := c₀.kind, roundOf := c₀.roundOf } : Frame) = { c₀ with mode := .panicking [{ v := .iface 169 (.agg #[.int .i64 z]), recovered := true }] } := rfl
    rcases he with rfl | rfl
    · exact ⟨hf2, _, rfl, _, hres, rfl, rfl, hw'.sub hs⟩
    · exact ⟨hf2, _, rfl, _, hres, rfl, rfl, hw'.sub hs⟩
theorem rec_idle (be : Nat) (z old : Int) (tg : Tg) (w : World) (hw : Has w ⟨[be], []⟩ [(be, [.int .i64 old], tg)] w) :
    CallsD Try.prog 104 #[.pointer (some ⟨be, 0, none⟩)] .returning w fun e u' w' => e = .returned (.tuple #[]) ∧ u' = .returning ∧ Has w ⟨[be], []⟩ [(be, [.int .i64 old], tg)] w' := by
  refine callsD_of_wpS Try.func104 rfl fun c₀ cs hu => ?_
  apply wpS_seq
  apply wpS_region
  simp [wpOpsS, go_sem, recoverD, hu, refu, Exit.thenS]
  refine wpS_of_dt (c := cxM [be] w 16) (Q := fun e _ H => (e = .normal ∨ e = .ret) ∧ HpSub H [(be, [.int .i64 old], tg)]) (F := [(1, .nilIface), (0, .pointer (some ⟨be, 0, none⟩))]) (H := [(be, [.int .i64 old], tg)]) ?D ⟨⟨by simp, rfl, fun d v h => ?_⟩, rfl⟩ hw ?_
  case D =>
    repeat' (first | ((with_reducible apply oq_id); first | (apply oq_fn; exact rfl; first | exact trivial | (refine ⟨?_, ?_⟩ <;> omega) | (refine ⟨?_, ?_, ?_⟩ <;> omega) | omega | skip) | ((with_reducible apply oq_assertNil); exact rfl) | ((with_reducible apply oq_neqNilI); exact rfl)) | ((with_reducible apply os_id); first | ((with_reducible apply os_x); exact rfl) | ((with_reducible apply os_storeAgg); exact rfl; exact rfl; exact rfl; exact rfl; exact rfl)) | ((with_reducible apply ox_id); first | ((with_reducible apply ox_alloc); exact rfl; intro _)) | with_reducible apply q_thenN | exact P0 | ((with_reducible apply Norm.nil); exact rfl) | ((with_reducible apply Norm.cons); exact rfl) | ((with_reducible apply de_id); first | ((with_reducible apply d_q); exact rfl; exact rfl; exact rfl; exact rfl) | ((with_reducible apply d_s0); exact rfl; exact rfl) | ((with_reducible apply d_s); exact rfl; exact rfl; exact rfl) | ((with_reducible apply d_nil))) | ((with_reducible apply dt_id); first | ((with_reducible apply dt_seq)) | (apply dt_region) | ((with_reducible apply dt_skip)) | ((with_reducible apply dt_condF); exact rfl)) | exact Nat.le_of_ble_eq_true rfl)
    all_goals (refine ⟨.inl rfl, ?_⟩)
    all_goals (repeat (first | exact HpSub.refl _ | (apply HpSub.consE; (repeat (first | exact P0 | apply P1)); exact rfl) | exact HpSub.nil))
  · rcases d with _ | _ | d
    · simpa [look] using h
    · simpa [look] using h
    · rw [look_cons_ne _ _ (by omega), look_cons_ne _ _ (by omega)] at h; cases h
  · rintro e a w' ⟨F', H', ⟨he, hs⟩, ⟨hf1, hf2⟩, hw'⟩
    have hres : (results Try.f104 a.tmps).run Try.prog w' = .ok (.tuple #[]) w' := results_run (c := cxM [be] w 16) (fn := Try.f104) (rs := []) (vs := []) (D := []) (a := ⟨a.tmps, []⟩) rfl hf1 hw' trivial
    have hu' : ({ fn := c₀.fn, tmps := c₀.tmps, todo := c₀.todo, defers := c₀.defers, mode := .returning, kind := c₀.kind, roundOf := c₀.roundOf } : Frame) = { c₀ with mode := .returning } := rfl
    rcases he with rfl | rfl
    · exact ⟨hf2, _, (by rw [← hu]), _, hres, rfl, rfl, hw'.sub hs⟩
    · exact ⟨hf2, _, (by rw [← hu]), _, hres, rfl, rfl, hw'.sub hs⟩
end Go.Proofs.Ytmlmgipngbndgaa
namespace Go.Proofs.Ytmlmgipngbndgaa
open Go.RowKit
attribute [local irreducible] OQ OS OX Rd T TL GX GL AL AI RV wpG SAny Calls
set_option maxRecDepth 100000
set_option maxHeartbeats 2000000
set_option linter.unusedVariables false
set_option linter.unusedSimpArgs false
theorem repay_T (bd gB cB gA oA cf i j : Nat) (o : Off) (tgd tgb : Tg) (price kept : Int) (C : List Bk) (x : Bk) (w : World) (hw : Has w ⟨[bd, gB], []⟩ [(bd, offCells o (some ⟨gA, oA, none⟩) cf (some ⟨gB, 0, none⟩) cB, tgd), (gB, (C.map bkCells).flatten, tgb)] w)
    (hx : C[j]? = some x) (hf : x.flight = (i : Int)) (hi : i < o.fl.length) (hp : w.cell? ⟨gA, oA + i * 4 + 1, none⟩ = some (.int .i64 price)) (hm : gA ∉ [bd, gB]) (hb1 : -1000000000 ≤ o.out ∧ o.out ≤ 1000000000) (hb2 : 0 ≤ price ∧ price ≤ 1000000) (hb3 : 0 ≤ kept ∧ kept ≤ 1000000) :
    Calls Try.prog 135 #[.pointer (some ⟨bd, 0, none⟩), .pointer (some ⟨gB, 0 + j * 3, none⟩), .int .i64 kept] w fun e w' => ∃ v H', e = .returned v ∧ (v = .tuple #[] ∧ H' = [(bd, offCells { o with out := o.out + (price - kept) } (some ⟨gA, oA, none⟩) cf (some ⟨gB, 0, none⟩) cB, tgd), (gB, ((C.set j ⟨x.flight, 4, kept⟩).map bkCells).flatten, tgb)]) ∧ Has w ⟨[bd, gB], []⟩ H' w' := by
  obtain ⟨f, st, kp⟩ := x
  simp only at hf
  subst hf
  have c0 := hp
  have m0 := hm
  have hjl := (List.getElem?_eq_some_iff.1 hx).1
  have hS1 := bk_set1 hx 4
  have hx1 : (C.set j ⟨(i : Int), 4, kp⟩)[j]? = some ⟨(i : Int), 4, kp⟩ := by simp [hjl]
  have hS2 := bk_set2 hx1 kept
  rw [List.set_set] at hS2
  simp only at hS1 hS2
  have room1 := Nat.le_of_succ_le (bk_room hx)
  have room2 := bk_room hx1
  have hx2 : (C.set j ⟨(i : Int), 4, kept⟩)[j]? = some ⟨(i : Int), 4, kept⟩ := by simp [hjl]
  obtain ⟨r0, r1, r2⟩ := bk_at hx2
  simp only at r0 r1 r2 ⊢
  have hO := desk_out o (some ⟨gA, oA, none⟩) cf (some ⟨gB, 0, none⟩) cB (o.out + (price - kept))
  refine (enter (c := cxM [bd, gB] w 36) (H := [(bd, offCells o (some ⟨gA, oA, none⟩) cf (some ⟨gB, 0, none⟩) cB, tgd), (gB, (C.map bkCells).flatten, tgb)]) (F := frOf 0 _) (PV := fun v H => v = .tuple #[] ∧ HpSub H [(bd, offCells { o with out := o.out + (price - kept) } (some ⟨gA, oA, none⟩) cf (some ⟨gB, 0, none⟩) cB, tgd), (gB, ((C.set j ⟨(i : Int), 4, kept⟩).map bkCells).flatten, tgb)]) Try.func135 rfl rfl rfl (fun d v hv => (look_frOf _ 0 d v hv).2) hw ?_).mono fun e w' ⟨v, H', h1, ⟨h2, h3⟩, h4⟩ => ⟨v, _, h1, ⟨h2, rfl⟩, h4.sub h3⟩
  repeat' (first | ((with_reducible apply oq_id); first | (focus ((with_reducible apply oq_indexAddrN); exact rfl; exact rfl; exact rfl; exact rfl; omega)) | (apply oq_fn; exact rfl; first | exact trivial | (refine ⟨?_, ?_⟩ <;> omega) | (refine ⟨?_, ?_, ?_⟩ <;> omega) | omega | skip) | ((with_reducible apply oq_load); exact rfl; exact rfl)) | ((with_reducible apply tl_id); first | ((with_reducible apply tl_nil)) | ((with_reducible apply u_q); exact rfl; exact rfl; exact rfl; exact rfl) | ((with_reducible apply u_s0); exact rfl; exact rfl)) | ((with_reducible apply gx_id); first | ((with_reducible apply v_nil)) | ((with_reducible apply v_q); exact rfl; exact rfl; exact rfl)) | ((with_reducible apply os_id); first | ((with_reducible apply os_storeB (hC := hS1)); exact rfl; exact rfl; exact rfl; exact rfl; (repeat (first | exact P0 | apply P1)); exact room1) | ((with_reducible apply os_storeB (hC := hS2)); exact rfl; exact rfl; exact rfl; exact rfl; (repeat (first | exact P0 | apply P1)); exact room2) | ((with_reducible apply os_storeB (hC := hO)); exact rfl; exact rfl; exact rfl; exact rfl; (repeat (first | exact P0 | apply P1)); exact Nat.le_refl 7)) | ((with_reducible apply ai_id); first | ((with_reducible apply ai_s0); exact rfl; exact rfl; exact rfl; exact rfl)) | ((with_reducible apply rd_id); first | (apply Rd.own; (repeat (first | exact P0 | apply P1)); first | exact r0 | exact r1 | exact r2; done) | (apply Rd.own; (repeat (first | exact P0 | apply P1)); exact rfl; done) | (apply Rd.old; (first | (with_reducible assumption) | exact c0 | exact c1 | exact c2 | exact c3 | exact c4 | exact c5 | exact c6 | exact c7 | exact c8 | exact d0 | exact d1 | exact d2 | exact d3 | exact d4 | exact d5); first | exact List.not_mem_nil | exact m0 | exact m1 | exact m2 | exact m3 | exact m4 | exact m5 | exact m6 | exact m7 | exact m8 | exact m9)) | ((with_reducible apply t_id); first | (apply t_mix (id := 1) [0, 1, 2, 3, 4, 5, 6, 7, 8, 9, 10, 11, 12, 13, 14, 15, 16, 17, 18, 19, 20, 21, 22] 1 #[false, false, false, false, false, false, false, false, false, false, false, false, false, false, false, false, false, false, false, false, false, false, false, true]; kernel_rfl; kernel_rfl; exact rfl) | ((with_reducible apply t_seq)) | (apply t_region; kernel_rfl)) | with_reducible apply q_thenN | ((with_reducible apply end_normal)) | exact rvs_nil | ((with_reducible apply al_id); first | (apply al_done; decide +kernel) | (apply al_one 23; decide +kernel)))
  all_goals (refine ⟨rfl, ?_⟩)
  all_goals (repeat (first | exact HpSub.refl _ | (apply HpSub.consE; (repeat (first | exact P0 | apply P1)); exact rfl) | exact HpSub.nil))
end Go.Proofs.Ytmlmgipngbndgaa
