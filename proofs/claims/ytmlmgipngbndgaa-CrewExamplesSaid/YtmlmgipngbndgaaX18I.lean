/- A part of the proof: rules for walks, and contracts of functions (9). -/
import Derived.Test.YtmlmgipngbndgaaX18H
import Derived.Test.YtmlmgipngbndgaaX18B
import Derived.ProofKit
import Derived.Lib.SmallJoins
import Derived.Test.YtmlmgipngbndgaaX18D
import Derived.Test.YtmlmgipngbndgaaX18C
import Derived.Test.YtmlmgipngbndgaaX18E
import Derived.Test.YtmlmgipngbndgaaX18G
set_option linter.unusedVariables false
set_option linter.unusedSimpArgs false
set_option maxRecDepth 100000
set_option maxHeartbeats 2000000
namespace Go.Proofs.Ytmlmgipngbndgaa
open Go.RowKit
attribute [local irreducible] OQ OS OX Rd T TL GX GL AL AI RV wpG SAny Calls
theorem info41 : (Try.prog.info? 41).map (fun i => i.zero) = some (some (.slice none 0 0)) := by kernel_rfl
theorem os_makeS {w : World} {N n : Nat} {F : Fr} {H : Hp} {M : List Nat} {K : Value → Hp → Prop} {d : Option Tmp} {ty : TypeId} {pos : String} {af : Array Edge} {gd : Option (Nat × Bool)} {x y : Operand}
  (hx : ev F x = some (.int .i64 ((n + 1 : Nat) : Int))) (hy : ev F y = some (.int .i64 ((n + 1 : Nat) : Int))) (hn : n ≤ 1000) (k : ∀ b, K (.slice (some ⟨b, 0, none⟩) (n + 1) (n + 1)) ((b, List.replicate n (Value.slice none 0 0) ++ Value.slice none 0 0 :: [], some (41, 1, n + 1)) :: H)) : OS (cxM M w N) ⟨d, .makeSlice 90 x y, ty, pos, af, gd⟩ F H K := by
 refine .ofX (ox_make (zs := [.slice none 0 0]) app_ok90 info41 rfl rfl hx hy (by omega) (by unfold maxLen; omega) fun b => ?_)
 have e : (List.replicate (n + 1) [Value.slice none 0 0]).flatten = List.replicate n (Value.slice none 0 0) ++ Value.slice none 0 0 :: [] := by
  rw [show (List.replicate n (Value.slice none 0 0) ++ Value.slice none 0 0 :: []) = List.replicate (n + 1) (Value.slice none 0 0) from List.replicate_succ'.symm]
  simp
 rw [e]
 exact k b
theorem row0_eq {ev gr : Int} {fs : List Int} {n : Nat} (hl : fs.length = n) : ((List.replicate (n + 1) (1099511627776 : Int)).set 0 (-1099511627776)).map iv = rowV ev gr fs 0 := by
 unfold rowV
 rw [hl, List.drop_of_length_le (by omega)]
 congr 1
 refine List.ext_getElem (by simp) fun i h1 h2 => ?_
 simp only [List.length_set, List.length_replicate] at h1
 simp only [List.getElem_set, List.getElem_replicate, List.getElem_map, List.getElem_range, nd_nil]
 unfold never
 by_cases hi : i = 0
 ·subst hi; simp
 ·rw [if_neg (fun h => hi h.symm), if_neg hi]
theorem few_spec {ev gr du : Int} {fs : List Int} {k : Nat} (h : fewV ev gr du fs = (k : Int)) : k ≤ fs.length ∧ ndL ev gr fs k ≤ du := by
 unfold fewV idxV at h
 cases hq : ((List.range (fs.length + 1)).map (ndL ev gr fs)).findIdx? (fun x => decide (x ≤ du)) with
 | none => rw [hq] at h; simp only at h; omega
 | some i =>
  rw [hq] at h
  simp only at h
  obtain rfl : i = k := by omega
  obtain ⟨hi, hp, _⟩ := List.findIdx?_eq_some_iff_getElem.1 hq
  simp only [List.length_map, List.length_range] at hi
  simp only [List.getElem_map, List.getElem_range, decide_eq_true_eq] at hp
  exact ⟨by omega, hp⟩
theorem row_top {w0 : World} {M : Ms} {H H' : Hp} {w : World} {g n : Nat} {ev gr : Int} {fs : List Int} {tg : Tg} (hl : fs.length = n) (h : Has w0 M H w) (q : Pick H g (rowV ev gr fs n) tg H') : RdS w 1 (some ⟨g, 0, none⟩) (n + 1) (((List.range (n + 1)).map (ndL ev gr fs)).map inCells) := by
 have e : rowV ev gr fs n = ((List.range (n + 1)).map (ndL ev gr fs)).map iv := by unfold rowV; rw [hl, Nat.sub_self, List.drop_zero]
 rw [e] at q
 exact int_rows (by simp) h q
theorem few_calls (ev gr du : Int) (fs : List Int) (n g b2 : Nat) (w1 : World) (hl : fs.length = n) (hn : n ≤ 1000) (hr : RdS w1 1 (some ⟨g, 0, none⟩) (n + 1) (((List.range (n + 1)).map (ndL ev gr fs)).map inCells)) (c0 : w1.cell? ⟨b2, 0 + 2, none⟩ = some (.int .i64 du)) :
  Calls Try.prog 76 #[.slice (some ⟨g, 0, none⟩) (n + 1) (n + 1), .func (.func 77) #[] ⟨[.pointer (some ⟨b2, 0, none⟩)]⟩] w1 fun e w' => e = .returned (.int .i64 (fewV ev gr du fs)) ∧ Ext w1 w' := by
 have := indexInt_calls 77 [.pointer (some ⟨b2, 0, none⟩)] (fun z => decide (z ≤ du)) (some ⟨g, 0, none⟩) (n + 1) (n + 1) ((List.range (n + 1)).map (ndL ev gr fs)) w1 hr (by omega) Try.call77 (fun z _ w2 h2 => most_calls b2 du z w2 (h2.cell c0))
 unfold fewV
 rw [hl]
 exact this
theorem bef_row {w0 : World} {M : Ms} {w1 : World} {bN b8 b2 b3 n c i k : Nat} {gs : Nat → Nat} {A : Option Addr} {ev gr du x : Int} {fs : List Int} (hl : fs.length = n)
  (h : Has w0 M ((bN, tailV n gs (n + 1), some (41, 1, n + 1)) :: (b8, [.slice (some ⟨bN, 0, none⟩) (n + 1) (n + 1)], some (90, 1, 1)) :: (b2, [.int .i64 ev, .int .i64 gr, .int .i64 du], some (40, 3, 1)) :: (b3, [.slice A n c], some (41, 1, 1)) :: rowsH n ev gr fs gs (n + 1)) w1)
  (hr : RdS w1 1 A n (fs.map inCells)) (hx : fs[i]? = some x) (hi : i < n) (hk : k ≤ n) (hn : n ≤ 60) (he : 1 ≤ ev ∧ ev ≤ 100000) (hg : 0 ≤ gr ∧ gr ≤ 100000) (hf : FsOk fs) :
  Calls Try.prog 75 #[.int .i64 (i : Int), .int .i64 (k : Int), .pointer (some ⟨b3, 0, none⟩), .pointer (some ⟨b2, 0, none⟩), .pointer (some ⟨b8, 0, none⟩)] w1 fun e w' => e = .returned (.int .i64 (befV gr x (ndL ev gr (fs.drop (i + 1)) k))) ∧ Ext w1 w' := by
 have hm := rowsH_mem (n := n) (ev := ev) (gr := gr) (fs := fs) (gs := gs) (show n - (i + 1) < n + 1 by omega)
 have hb := (h.blk _ (List.mem_cons_of_mem _ (List.mem_cons_of_mem _ (List.mem_cons_of_mem _ (List.mem_cons_of_mem _ hm))))).2
 have k4 := hb.cell (rowV_at (ev := ev) (gr := gr) (m := n - (i + 1)) (k := k) (show k ≤ fs.length by omega))
 rw [show fs.length - (n - (i + 1)) = i + 1 by omega] at k4
 have k3 := (h.blk _ (List.mem_cons_self ..)).2.cell (o := 0 + (i + 1) * 1) (v := .slice (some ⟨gs (n - (i + 1)), 0, none⟩) (n + 1) (n + 1)) (by
  have := tailV_at (n := n) (gs := gs) (show n - (i + 1) < n + 1 by omega)
  rw [← this]
  congr 1
  omega)
 have hnd := nd_in he hg (hf.drop (i + 1)) k
 have h2 : (fs.drop (i + 1)).length ≤ 60 := by rw [List.length_drop]; omega
 have hnv : never = 1099511627776 := rfl
 exact bef_calls b3 b2 b8 bN _ i k n A c (n + 1) (n + 1) fs gr x _ w1 hr hx
  ((h.blk _ (List.mem_cons_of_mem _ (List.mem_cons_of_mem _ (List.mem_cons_of_mem _ (List.mem_cons_self ..))))).2.cell rfl)
  ((h.blk _ (List.mem_cons_of_mem _ (List.mem_cons_of_mem _ (List.mem_cons_self ..)))).2.cell rfl)
  ((h.blk _ (List.mem_cons_of_mem _ (List.mem_cons_self ..))).2.cell rfl) k3 k4 hk (by omega) (hf x (List.mem_of_getElem? hx)) hg (by omega)
theorem need_nx {q : Nat} {a b : Value} {T : List Value} : (List.replicate q (Value.slice none 0 0) ++ a :: b :: T)[0 + (q + 1) * 1]? = some b := by
 rw [Nat.zero_add, Nat.mul_one, List.getElem?_append_right (by simp)]
 simp
theorem rep_open {q : Nat} {T : List Value} : List.replicate (q + 1) (Value.slice none 0 0) ++ T = List.replicate q (Value.slice none 0 0) ++ Value.slice none 0 0 :: T := by
 rw [List.replicate_succ']
 simp
theorem inspect_T (ev gr du : Int) (A : Option Addr) (n c : Nat) (fs : List Int) (w : World) (hr : RdS w 1 A n (fs.map inCells)) (hn : n ≤ 1000) :
  Calls Try.prog 28 #[.agg #[.int .i64 ev, .int .i64 gr, .int .i64 du], .slice A n c] w fun e w' => ∃ V H', e = .returned V ∧ InsO (insE ev gr du fs) (insV ev gr du fs) V H' ∧ Has w ⟨[], []⟩ H' w' := by
 have hl := hr.len
 simp only [List.length_map] at hl
 have HC := fun w1 (hx : Ext w w1) => checkFlights_calls ev gr du A n c fs w1 (hr.ext hx) (by omega)
 by_cases hce : caredE ev gr du fs = 0
 ·rw [hce] at HC
  have hE : insE ev gr du fs = if fewV ev gr du fs < 0 then 6 else 0 := by unfold insE; rw [if_pos hce]
  obtain ⟨e1, e2, g1, g2, d1, d2, hn60, hfs⟩ := cared_ok hce
  have he : 1 ≤ ev ∧ ev ≤ 100000 := ⟨e1, e2⟩
  have hg : 0 ≤ gr ∧ gr ≤ 100000 := ⟨g1, g2⟩
  have hf : FsOk fs := hfs
  have hnv : never = 1099511627776 := rfl
  have hA : (List.replicate n (Value.slice none 0 0)).length = n := by simp
  refine enterF (c := cx w 144) Try.func28 rfl rfl rfl rfl ?_
  repeat' (first | (focus ((with_reducible apply oq_indexAddrN); (iterate 4 exact rfl); omega)) | (focus ((with_reducible apply oq_indexAddrN (i := 0)); (iterate 4 exact rfl); omega)) | ((with_reducible apply oq_addE (k := ((n + 1 : Nat) : Int))); exact rfl; exact rfl; omega) | (apply oq_fn; exact rfl; try first | exact trivial | (and_intros <;> omega)) | ((with_reducible apply oq_load); exact rfl; exact rfl) | ((with_reducible apply oq_loadAgg); exact rfl; exact rfl) | ((with_reducible apply oq_call (k := 71) (hc := Try.call71)); exact rfl; exact rfl; exact fun D w1 hw1 => HC w1 hw1.ext.ext) | (with_reducible apply tl_nil) | ((with_reducible apply u_q); (iterate 4 exact rfl)) | ((with_reducible apply u_s0); exact rfl; exact rfl) | ((with_reducible apply u_s); (iterate 3 exact rfl)) | (with_reducible apply v_nil) | ((with_reducible apply v_q); (iterate 3 exact rfl)) | ((with_reducible apply os_storeG hA); (iterate 4 exact rfl); (repeat (first | exact P0 | apply P1))) | ((with_reducible apply os_storeI (k := 0) (row := List.replicate (n + 1) (1099511627776 : Int))); (focus (simp only [List.length_replicate]; omega)); (iterate 3 exact rfl); (repeat (first | exact P0 | apply P1))) | ((with_reducible apply os_x); exact rfl) | ((with_reducible apply os_store); (iterate 4 exact rfl)) | ((with_reducible apply ox_alloc); exact rfl; intro _) | ((with_reducible apply ox_box); exact rfl; exact rfl; intro _) | ((with_reducible apply ox_boxAgg); exact rfl; intro _) | ((with_reducible apply ox_buildSlice1); (iterate 6 exact rfl); intro _) | ((with_reducible apply ai_n); (iterate 4 exact rfl); (with_reducible apply os_callF (PV := (fun V H' => RepV 1099511627776 (n + 1) V H')) (k := 74) (hc := Try.call74)); exact rfl; exact rfl; exact fun D w1 hw1 => repeat_T 1099511627776 _ (n + 1) _ w1 (one_rows hw1 (by (repeat (first | exact P0 | apply P1)))) (by omega) (by omega); rintro V' H' ⟨g, rfl, rfl⟩; simp only [List.cons_append, List.nil_append]) | ((with_reducible apply ai_q); (iterate 5 exact rfl)) | ((with_reducible apply ai_x); (iterate 5 exact rfl)) | ((with_reducible apply ai_s0); (iterate 4 exact rfl)) | ((with_reducible apply al_keep); focus (repeat (first | exact HpSub.refl _ | (apply HpSub.cons; (repeat (first | exact P0 | apply P1))) | apply HpSub.skip | exact HpSub.nil))) | (apply rdG hA; (repeat (first | exact P0 | apply P1)); done) | (apply Rd.own; (repeat (first | exact P0 | apply P1)); exact rfl; done) | (apply t_mix (id := 6) [0, 1, 3, 4] 4 #[false, false, false, false, false, false, false, true]; kernel_rfl; kernel_rfl; exact rfl) | (with_reducible apply t_seq) | (apply t_region; kernel_rfl) | ((with_reducible apply t_condF); exact rfl) | (with_reducible apply t_skip) | (with_reducible apply t_block) | with_reducible apply q_thenN | exact P0 | exact Rdn.zero | apply Rdn.succ | ((with_reducible apply Norm.nil); exact rfl) | ((with_reducible apply Norm.cons); exact rfl) | (apply al_done; decide +kernel) | (apply al_one 2; decide +kernel) | (apply al_one 5; decide +kernel) | (apply al_one 6; decide +kernel) | (apply al_one 7; decide +kernel) | ((with_reducible apply os_makeS (n := n)); exact rfl; exact rfl; omega; intro _) | exact Nat.le_of_ble_eq_true rfl)
  rename_i b2 b3 bN b8 bS
  apply t_loopK (GH := []) (ι := Nat × (Nat → Nat)) [2, 3, 4, 5, 7, 8, 9, 12, 13, 14, 15, 16, 106, 107, 108, 109, 110, 111, 112, 113, 114, 115, 116, 117, 118, 119, 120, 121, 122, 123, 124, 125, 126, 127, 128, 129, 130, 131, 132, 133, 134, 135, 136, 137, 138, 139, 140, 141, 142, 143] (fun i => [(10, .int .i64 ((n : Int) - ((i.1 : Nat) + 1 : Int)))]) (fun i => [(bN, List.replicate (n - i.1) (Value.slice none 0 0) ++ .slice (some ⟨i.2 i.1, 0, none⟩) (n + 1) (n + 1) :: tailV n i.2 i.1, some (41, 1, n + 1)), (b8, [.slice (some ⟨bN, 0, none⟩) (n + 1) (n + 1)], some (90, 1, 1)), (b2, [.int .i64 ev, .int .i64 gr, .int .i64 du], some (40, 3, 1)), (b3, [.slice A n c], some (41, 1, 1))] ++ rowsH n ev gr fs i.2 (i.1 + 1)) (fun i => i.1 ≤ n) (fun i => n - i.1) ((0, fun _ => g))
  (repeat (first | exact KeepF.nil | (apply KeepF.cons; exact rfl) | apply KeepF.skip))
  (repeat (first | exact FrSub.nil | (apply FrSub.cons; exact rfl)))
  (repeat (first | exact HpSub.refl _ | (apply HpSub.consE; (repeat (first | exact P0 | apply P1)); first | exact rfl | (exact row0_eq hl)) | exact HpSub.nil))
  ·exact Nat.zero_le _
  rintro ⟨j, gs⟩ hj
  simp only at hj
  try simp only [List.cons_append, List.nil_append]
  by_cases hlt : j < n
  ·obtain ⟨q, hq⟩ : ∃ q, n - j = q + 1 := ⟨n - j - 1, by omega⟩
   have hA : (List.replicate q (Value.slice none 0 0)).length = q := by simp
   obtain ⟨b1, o1, x, hA1, _, hx, c0⟩ := in_read hr (show q < n by omega)
   have hfx := hf x (List.mem_of_getElem? hx)
   have hdrop : fs.drop (fs.length - (j + 1)) = x :: fs.drop (fs.length - j) := by
    have hil := List.getElem?_eq_some_iff.1 hx
    rw [show fs.length - (j + 1) = q by omega, show fs.length - j = q + 1 by omega, List.drop_eq_getElem_cons hil.1, hil.2]
   have hnd : ∀ k, -1099511627776 ≤ ndL ev gr (fs.drop (fs.length - j)) k ∧ ndL ev gr (fs.drop (fs.length - j)) k ≤ 2199023255552 := fun k => by
    have := nd_in he hg (hf.drop (fs.length - j)) k
    have h2 : (fs.drop (fs.length - j)).length ≤ 60 := by rw [List.length_drop]; omega
    omega
   have hbv : ∀ k, -1099511727776 ≤ befV gr x (ndL ev gr (fs.drop (fs.length - j)) k) ∧ befV gr x (ndL ev gr (fs.drop (fs.length - j)) k) ≤ 2199023355552 := fun k => by
    have := hnd k
    unfold befV
    omega
   rw [hq, show (n : Int) - ((j : Int) + 1) = (q : Int) by omega, rep_open]
   repeat' (first | (focus ((with_reducible apply oq_indexAddrN); (iterate 4 exact rfl); omega)) | ((with_reducible apply oq_addE (k := ((n + 1 : Nat) : Int))); exact rfl; exact rfl; omega) | (apply oq_fn; exact rfl; try first | exact trivial | (and_intros <;> omega)) | ((with_reducible apply oq_load); exact rfl; exact rfl) | (with_reducible apply tl_nil) | ((with_reducible apply u_q); (iterate 4 exact rfl)) | (with_reducible apply v_nil) | ((with_reducible apply v_q); (iterate 3 exact rfl)) | ((with_reducible apply os_storeG hA); (iterate 4 exact rfl); (repeat (first | exact P0 | apply P1))) | ((with_reducible apply ai_q); (iterate 5 exact rfl)) | ((with_reducible apply ai_s0); (iterate 4 exact rfl)) | ((with_reducible apply ai_n); (iterate 4 exact rfl)) | ((with_reducible apply al_keep); focus (repeat (first | exact HpSub.refl _ | (apply HpSub.cons; (repeat (first | exact P0 | apply P1))) | apply HpSub.skip | exact HpSub.nil))) | (apply rdG hA; (repeat (first | exact P0 | apply P1)); done) | (apply Rd.own; (repeat (first | exact P0 | apply P1)); exact rfl; done) | (apply t_mix (id := 12) [0, 1, 2, 3] 3 #[false, false, false, false, false, false, true]; kernel_rfl; kernel_rfl; exact rfl) | (with_reducible apply t_seq) | (apply t_region; kernel_rfl) | ((with_reducible apply t_condT); exact rfl) | (with_reducible apply t_skip) | (with_reducible apply t_block) | with_reducible apply q_thenN | (apply al_done; decide +kernel) | (apply al_one 4; decide +kernel) | (apply al_one 5; decide +kernel) | (apply al_one 6; decide +kernel) | ((with_reducible apply os_makeI (hk := app_ok41) (hz := info3)); exact rfl; exact rfl; omega; (unfold maxLen; omega); intro _))
   rename_i gN
   apply t_loopK (ι := Nat) [2, 3, 4, 5, 7, 8, 9, 10, 12, 13, 14, 15, 16, 43, 44, 45, 46, 47, 48, 49, 50, 51, 52, 53, 54, 55, 56, 57, 106, 107, 108, 109, 110, 111, 112, 113, 114, 115, 116, 117, 118, 119, 120, 121, 122, 123, 124, 125, 126, 127, 128, 129, 130, 131, 132, 133, 134, 135, 136, 137, 138, 139, 140, 141, 142, 143] (fun k => [(58, .int .i64 (k : Nat))]) (fun k => [(gN, fillV (ndL ev gr (x :: fs.drop (fs.length - j))) (n + 1) k, some (3, 1, n + 1))]) (fun k => k ≤ n + 1) (fun k => n + 1 - k) (0)
   (repeat (first | exact KeepF.nil | (apply KeepF.cons; exact rfl) | apply KeepF.skip))
   (repeat (first | exact FrSub.nil | (apply FrSub.cons; exact rfl)))
   (repeat (first | exact HpSub.refl _ | (apply HpSub.consE; (repeat (first | exact P0 | apply P1)); exact rfl) | exact HpSub.nil))
   ·exact Nat.zero_le _
   rintro k hk
   try simp only [List.cons_append, List.nil_append]
   by_cases hlt2 : k < n + 1
   ·rw [fill_open hlt2]
    have hA2 : ((List.range k).map (ndL ev gr (x :: fs.drop (fs.length - j)))).length = k := by simp
    cases k with
    | zero =>
     have hnx : (ndL ev gr (x :: fs.drop (fs.length - j))) 0 = befV gr x (ndL ev gr (fs.drop (fs.length - j)) 0) := nd_zero ..
     repeat' (first | (focus ((with_reducible apply oq_indexAddrN); (iterate 4 exact rfl); omega)) | (apply oq_fn; exact rfl; try first | exact trivial | (and_intros <;> omega)) | ((with_reducible apply oq_load); exact rfl; exact rfl) | ((with_reducible apply oq_call (k := 75) (hc := Try.call75)); exact rfl; exact rfl; exact fun D w1 hw1 => bef_calls _ _ _ _ _ q 0 n A c _ _ fs gr x (ndL ev gr (fs.drop (fs.length - j)) 0) w1 (hr.ext hw1.ext.ext) hx (hw1.cellAt (by (repeat (first | exact P0 | apply P1))) rfl) (hw1.cellAt (by (repeat (first | exact P0 | apply P1))) rfl) (hw1.cellAt (by (repeat (first | exact P0 | apply P1))) rfl) (hw1.cellAt (by (repeat (first | exact P0 | apply P1))) need_nx) (hw1.cellAt (by (repeat (first | exact P0 | apply P1))) (rowV_at (by omega))) (by omega) (by omega) hfx hg (hnd 0)) | (with_reducible apply tl_nil) | ((with_reducible apply u_q); (iterate 4 exact rfl)) | (with_reducible apply v_nil) | ((with_reducible apply v_q); (iterate 3 exact rfl)) | ((with_reducible apply v_skip); (iterate 3 exact rfl)) | ((with_reducible apply os_storeM hA2); (iterate 3 exact rfl); (repeat (first | exact P0 | apply P1))) | ((with_reducible apply ai_s0); (iterate 4 exact rfl)) | (apply rdG hA; (repeat (first | exact P0 | apply P1)); done) | (apply Rd.own; (repeat (first | exact P0 | apply P1)); exact rfl; done) | (apply t_mix (id := 16) [0, 1, 2, 3, 4, 5, 6, 7, 8, 9] 1 #[false, false, false, false, false, false, false, false, false, false, true]; kernel_rfl; kernel_rfl; exact rfl) | (with_reducible apply t_seq) | (apply t_region; kernel_rfl) | (apply t_drawn; kernel_rfl; decide +kernel; try simp only [List.append_eq, List.cons_append, List.nil_append]) | ((with_reducible apply t_condF); exact rfl) | ((with_reducible apply t_condD); exact rfl; all_goals first | (intro hp; try (exfalso; omega)) | skip) | (with_reducible apply t_skip) | (with_reducible apply t_block) | with_reducible apply q_thenN | with_reducible apply q_blockN | (apply al_done; decide +kernel) | (apply al_one 10; decide +kernel))
     all_goals (refine ⟨0 + 1, by omega, by omega, ?_, ?_⟩)
     all_goals ((try simp only [List.cons_append, List.nil_append]); (repeat' (first | exact FrSub.nil | (apply FrSub.cons; exact rfl) | exact HpSub.refl _)))
    | succ k =>
     have hB1 := hbv k
     have hB2 := hbv (k + 1)
     by_cases hb : befV gr x (ndL ev gr (fs.drop (fs.length - j)) k) ≤ ev
     ·have hnx : (ndL ev gr (x :: fs.drop (fs.length - j))) (k + 1) = min (befV gr x (ndL ev gr (fs.drop (fs.length - j)) (k + 1))) (befV gr x (ndL ev gr (fs.drop (fs.length - j)) k) - ev) := by rw [nd_succ, if_pos hb]
      repeat' (first | (focus ((with_reducible apply oq_indexAddrN); (iterate 4 exact rfl); omega)) | ((with_reducible apply oq_subE (k := (k : Int))); exact rfl; exact rfl; omega) | (apply oq_fn; exact rfl; try first | exact trivial | (and_intros <;> omega)) | ((with_reducible apply oq_load); exact rfl; exact rfl) | ((with_reducible apply oq_call (k := 75) (hc := Try.call75)); exact rfl; exact rfl; exact fun D w1 hw1 => bef_calls _ _ _ _ _ q (k + 1) n A c _ _ fs gr x (ndL ev gr (fs.drop (fs.length - j)) (k + 1)) w1 (hr.ext hw1.ext.ext) hx (hw1.cellAt (by (repeat (first | exact P0 | apply P1))) rfl) (hw1.cellAt (by (repeat (first | exact P0 | apply P1))) rfl) (hw1.cellAt (by (repeat (first | exact P0 | apply P1))) rfl) (hw1.cellAt (by (repeat (first | exact P0 | apply P1))) need_nx) (hw1.cellAt (by (repeat (first | exact P0 | apply P1))) (rowV_at (by omega))) (by omega) (by omega) hfx hg (hnd (k + 1))) | ((with_reducible apply oq_call (k := 75) (hc := Try.call75)); exact rfl; exact rfl; exact fun D w1 hw1 => bef_calls _ _ _ _ _ q k n A c _ _ fs gr x (ndL ev gr (fs.drop (fs.length - j)) k) w1 (hr.ext hw1.ext.ext) hx (hw1.cellAt (by (repeat (first | exact P0 | apply P1))) rfl) (hw1.cellAt (by (repeat (first | exact P0 | apply P1))) rfl) (hw1.cellAt (by (repeat (first | exact P0 | apply P1))) rfl) (hw1.cellAt (by (repeat (first | exact P0 | apply P1))) need_nx) (hw1.cellAt (by (repeat (first | exact P0 | apply P1))) (rowV_at (by omega))) (by omega) (by omega) hfx hg (hnd k)) | (with_reducible apply tl_nil) | ((with_reducible apply u_q); (iterate 4 exact rfl)) | (with_reducible apply v_nil) | ((with_reducible apply v_q); (iterate 3 exact rfl)) | ((with_reducible apply v_splitD); exact rfl; exact rfl; all_goals first | (intro hp; try (exfalso; omega)) | skip) | ((with_reducible apply os_storeM hA2); (iterate 3 exact rfl); (repeat (first | exact P0 | apply P1))) | ((with_reducible apply ai_s0); (iterate 4 exact rfl)) | (apply rdG hA; (repeat (first | exact P0 | apply P1)); done) | (apply rdM hA2; (repeat (first | exact P0 | apply P1)); done) | (apply Rd.own; (repeat (first | exact P0 | apply P1)); exact rfl; done) | (apply t_mix (id := 16) [0, 1, 2, 3, 4, 5, 6, 7, 8, 9] 1 #[false, false, false, false, false, false, false, false, false, false, true]; kernel_rfl; kernel_rfl; exact rfl) | (apply t_mix (id := 18) [0, 1, 2, 3, 4, 5, 6, 7, 8, 9, 10, 11, 12, 13, 14, 15, 16, 17, 18, 19, 20, 21] 1 #[false, false, false, false, false, false, false, false, false, false, false, false, false, false, false, false, false, false, false, false, false, false, true]; kernel_rfl; kernel_rfl; exact rfl) | (with_reducible apply t_seq) | (apply t_region; kernel_rfl) | (apply t_drawn; kernel_rfl; decide +kernel; try simp only [List.append_eq, List.cons_append, List.nil_append]) | ((with_reducible apply t_condD); exact rfl; all_goals first | (intro hp; try (exfalso; omega)) | skip) | (with_reducible apply t_skip) | (with_reducible apply t_block) | with_reducible apply q_thenN | with_reducible apply q_blockN | (apply al_done; decide +kernel) | (apply al_one 10; decide +kernel) | (apply al_one 22; decide +kernel))
      all_goals (refine ⟨(k + 1) + 1, by omega, by omega, ?_, ?_⟩)
      all_goals ((try simp only [List.cons_append, List.nil_append]); (repeat' (first | exact FrSub.nil | (apply FrSub.cons; exact rfl) | exact HpSub.refl _ | (apply HpSub.consE; (repeat (first | exact P0 | apply P1)); first | exact rfl | (exact fill_close hnx)))))
     ·have hnx : (ndL ev gr (x :: fs.drop (fs.length - j))) (k + 1) = befV gr x (ndL ev gr (fs.drop (fs.length - j)) (k + 1)) := by rw [nd_succ, if_neg hb]
      repeat' (first | (focus ((with_reducible apply oq_indexAddrN); (iterate 4 exact rfl); omega)) | ((with_reducible apply oq_subE (k := (k : Int))); exact rfl; exact rfl; omega) | (apply oq_fn; exact rfl; try first | exact trivial | (and_intros <;> omega)) | ((with_reducible apply oq_load); exact rfl; exact rfl) | ((with_reducible apply oq_call (k := 75) (hc := Try.call75)); exact rfl; exact rfl; exact fun D w1 hw1 => bef_calls _ _ _ _ _ q (k + 1) n A c _ _ fs gr x (ndL ev gr (fs.drop (fs.length - j)) (k + 1)) w1 (hr.ext hw1.ext.ext) hx (hw1.cellAt (by (repeat (first | exact P0 | apply P1))) rfl) (hw1.cellAt (by (repeat (first | exact P0 | apply P1))) rfl) (hw1.cellAt (by (repeat (first | exact P0 | apply P1))) rfl) (hw1.cellAt (by (repeat (first | exact P0 | apply P1))) need_nx) (hw1.cellAt (by (repeat (first | exact P0 | apply P1))) (rowV_at (by omega))) (by omega) (by omega) hfx hg (hnd (k + 1))) | ((with_reducible apply oq_call (k := 75) (hc := Try.call75)); exact rfl; exact rfl; exact fun D w1 hw1 => bef_calls _ _ _ _ _ q k n A c _ _ fs gr x (ndL ev gr (fs.drop (fs.length - j)) k) w1 (hr.ext hw1.ext.ext) hx (hw1.cellAt (by (repeat (first | exact P0 | apply P1))) rfl) (hw1.cellAt (by (repeat (first | exact P0 | apply P1))) rfl) (hw1.cellAt (by (repeat (first | exact P0 | apply P1))) rfl) (hw1.cellAt (by (repeat (first | exact P0 | apply P1))) need_nx) (hw1.cellAt (by (repeat (first | exact P0 | apply P1))) (rowV_at (by omega))) (by omega) (by omega) hfx hg (hnd k)) | (with_reducible apply tl_nil) | ((with_reducible apply u_q); (iterate 4 exact rfl)) | (with_reducible apply v_nil) | ((with_reducible apply v_q); (iterate 3 exact rfl)) | ((with_reducible apply v_splitD); exact rfl; exact rfl; all_goals first | (intro hp; try (exfalso; omega)) | skip) | ((with_reducible apply os_storeM hA2); (iterate 3 exact rfl); (repeat (first | exact P0 | apply P1))) | ((with_reducible apply ai_s0); (iterate 4 exact rfl)) | (apply rdG hA; (repeat (first | exact P0 | apply P1)); done) | (apply Rd.own; (repeat (first | exact P0 | apply P1)); exact rfl; done) | (apply t_mix (id := 16) [0, 1, 2, 3, 4, 5, 6, 7, 8, 9] 1 #[false, false, false, false, false, false, false, false, false, false, true]; kernel_rfl; kernel_rfl; exact rfl) | (with_reducible apply t_seq) | (apply t_region; kernel_rfl) | (apply t_drawn; kernel_rfl; decide +kernel; try simp only [List.append_eq, List.cons_append, List.nil_append]) | ((with_reducible apply t_condD); exact rfl; all_goals first | (intro hp; try (exfalso; omega)) | skip) | (with_reducible apply t_skip) | (with_reducible apply t_block) | with_reducible apply q_thenN | with_reducible apply q_blockN | (apply al_done; decide +kernel) | (apply al_one 10; decide +kernel))
      all_goals (refine ⟨(k + 1) + 1, by omega, by omega, ?_, ?_⟩)
      all_goals ((try simp only [List.cons_append, List.nil_append]); (repeat' (first | exact FrSub.nil | (apply FrSub.cons; exact rfl) | exact HpSub.refl _ | (apply HpSub.consE; (repeat (first | exact P0 | apply P1)); first | exact rfl | (exact fill_close hnx)))))
   ·obtain rfl : k = n + 1 := by omega
    have hrow : ((List.range (n + 1)).map (ndL ev gr (x :: fs.drop (fs.length - j)))).map iv = rowV ev gr fs (j + 1) := by unfold rowV; rw [hdrop, hl]
    rw [fill_done, hrow]
    repeat' (first | (apply oq_fn; exact rfl; try first | exact trivial | (and_intros <;> omega)) | (with_reducible apply tl_nil) | ((with_reducible apply u_q); (iterate 4 exact rfl)) | (with_reducible apply t_seq) | (apply t_region; kernel_rfl) | ((with_reducible apply t_condD); exact rfl; all_goals first | (intro hp; try (exfalso; omega)) | skip) | (with_reducible apply t_exit) | with_reducible apply q_thenN | with_reducible apply q_blockN | with_reducible apply q_thenE | ((with_reducible apply q_blockE); exact rfl))
    all_goals (refine ⟨(j + 1, fun m => if m = j + 1 then gN else gs m), by simp only; omega, by simp only; omega, ?_, ?_⟩)
    ·try simp only [List.cons_append, List.nil_append]
     (repeat (first | exact FrSub.nil | (apply FrSub.cons; exact rfl) | (apply FrSub.consE; exact rfl; (congr 1; omega))))
    ·have t1 : tailV n (fun m => if m = j + 1 then gN else gs m) (j + 1) = tailV n gs (j + 1) := tailV_congr fun i hi => if_neg (by omega)
     have t2 : rowsH n ev gr fs (fun m => if m = j + 1 then gN else gs m) (j + 1) = rowsH n ev gr fs gs (j + 1) := rowsH_congr fun i hi => if_neg (by omega)
     simp only [show rowsH n ev gr fs (fun m => if m = j + 1 then gN else gs m) (j + 1 + 1) = (gN, rowV ev gr fs (j + 1), some (3, 1, n + 1)) :: rowsH n ev gr fs gs (j + 1) by rw [← t2]; simp [rowsH], t1, if_true, show n - (j + 1) = q by omega]
     (repeat (first | exact HpSub.refl _ | (apply HpSub.consE; (repeat (first | exact P0 | apply P1)); exact rfl) | apply HpSub.skip | exact HpSub.nil))
  ·obtain rfl : n = j := by omega
   have hneed : List.replicate (n - n) (Value.slice none 0 0) ++ Value.slice (some ⟨gs n, 0, none⟩) (n + 1) (n + 1) :: tailV n gs n = tailV n gs (n + 1) := by rw [Nat.sub_self]; rfl
   rw [hneed]
   simp only [List.append_nil]
   have HF := fun w1 => few_calls ev gr du fs n (gs n) b2 w1 hl hn
   by_cases hneg : fewV ev gr du fs < 0
   ·rw [if_pos hneg] at hE
    rw [hE]
    obtain ⟨fv, hfv⟩ : ∃ fv, fewV ev gr du fs = fv := ⟨_, rfl⟩
    rw [hfv] at HF hneg
    repeat' (first | (focus ((with_reducible apply oq_indexAddrN (i := 0)); (iterate 4 exact rfl); omega)) | (apply oq_fn; exact rfl; try first | exact trivial | (and_intros <;> omega)) | ((with_reducible apply oq_load); exact rfl; exact rfl) | ((with_reducible apply oq_call (k := 76) (hc := Try.call76)); exact rfl; exact rfl; exact fun D w1 hw1 => HF w1 (row_top hl hw1 (by (repeat (first | exact P0 | apply P1)))) (hw1.cellAt (by (repeat (first | exact P0 | apply P1))) rfl)) | (with_reducible apply tl_nil) | ((with_reducible apply u_q); (iterate 4 exact rfl)) | (apply Rd.own; (repeat (first | exact P0 | apply P1)); exact rfl; done) | (with_reducible apply t_seq) | (apply t_region; kernel_rfl) | ((with_reducible apply t_condD); exact rfl; all_goals first | (intro hp; try (exfalso; omega)) | skip) | (with_reducible apply t_ret) | (with_reducible apply t_exit) | with_reducible apply q_thenN | with_reducible apply q_thenR | with_reducible apply q_thenE | ((with_reducible apply q_blockE); exact rfl) | (with_reducible apply end_ret) | exact rvs_nil | (with_reducible apply rvs_cons) | ((with_reducible apply rv_tmp); exact rfl))
    all_goals exact ⟨_, .inl ⟨by decide, rfl, rfl⟩, HpSub.nil⟩
   ·obtain ⟨k0, hk0⟩ : ∃ k0 : Nat, fewV ev gr du fs = (k0 : Int) := ⟨(fewV ev gr du fs).toNat, by omega⟩
    rw [if_neg hneg] at hE
    rw [hk0] at HF
    have hIV : insV ev gr du fs = insG ev gr fs 0 k0 du := by unfold insV; rw [hk0]; rfl
    have hfs := few_spec hk0
    clear HC
    repeat' (first | (focus ((with_reducible apply oq_indexAddrN (i := 0)); (iterate 4 exact rfl); omega)) | (apply oq_fn; exact rfl; try first | exact trivial | (and_intros <;> omega)) | ((with_reducible apply oq_load); exact rfl; exact rfl) | ((with_reducible apply oq_call (k := 76) (hc := Try.call76)); exact rfl; exact rfl; exact fun D w1 hw1 => HF w1 (row_top hl hw1 (by (repeat (first | exact P0 | apply P1)))) (hw1.cellAt (by (repeat (first | exact P0 | apply P1))) rfl)) | (with_reducible apply tl_nil) | ((with_reducible apply u_q); (iterate 4 exact rfl)) | (apply Rd.own; (repeat (first | exact P0 | apply P1)); exact rfl; done) | (with_reducible apply t_seq) | (apply t_region; kernel_rfl) | ((with_reducible apply t_condF); exact rfl) | ((with_reducible apply t_condD); exact rfl; all_goals first | (intro hp; try (exfalso; omega)) | skip) | (with_reducible apply t_skip) | (with_reducible apply t_exit) | (with_reducible apply t_block) | with_reducible apply q_thenN | with_reducible apply q_thenE | ((with_reducible apply q_blockE); exact rfl))
    apply t_loopK (ι := Nat × Nat × Int × List Int × Option (Nat × Nat)) [2, 4, 5, 9, 115, 116, 143] (fun j => [(117, .int .i64 (j.1 : Nat)), (12, .int .i64 (j.2.1 : Nat)), (14, .int .i64 j.2.2.1), (13, planS j.2.2.2.1 j.2.2.2.2)]) (fun j => planH j.2.2.2.1 j.2.2.2.2) (fun j => j.1 ≤ n ∧ insV ev gr du fs = j.2.2.2.1 ++ insG ev gr (fs.drop j.1) j.1 j.2.1 j.2.2.1 ∧ ndL ev gr (fs.drop j.1) j.2.1 ≤ j.2.2.1 ∧ -100000 ≤ j.2.2.1 ∧ j.2.2.1 ≤ 100000 ∧ j.2.1 ≤ n ∧ j.2.2.2.1.length ≤ j.1 ∧ (j.2.2.2.2 = none → j.2.2.2.1 = [])) (fun j => n - j.1) ((0, k0, du, [], none))
    (repeat (first | exact KeepF.nil | (apply KeepF.cons; exact rfl) | apply KeepF.skip))
    (repeat (first | exact FrSub.nil | (apply FrSub.cons; exact rfl)))
    (repeat (first | exact HpSub.refl _ | (apply HpSub.consE; (repeat (first | exact P0 | apply P1)); exact rfl) | exact HpSub.nil))
    ·exact ⟨Nat.zero_le _, by simp only [List.drop_zero, List.nil_append]; exact hIV, by simp only [List.drop_zero]; exact hfs.2, by simp only; omega, by simp only; omega, by simp only; omega, by simp, fun _ => rfl⟩
    rintro ⟨i, k, L, pre, o⟩ ⟨hi, hpl, hnd, hL0, hL1, hkn, hprl, hpre⟩
    simp only at hi hpl hnd hL0 hL1 hkn hprl hpre
    by_cases hlt2 : i < n
    ·obtain ⟨b1, o1, x, hA1, _, hx, c0⟩ := in_read hr hlt2
     have hfx := hf x (List.mem_of_getElem? hx)
     have hdrop : fs.drop i = x :: fs.drop (i + 1) := by
      have hil := (List.getElem?_eq_some_iff.1 hx)
      rw [List.drop_eq_getElem_cons hil.1, hil.2]
     obtain ⟨B, hBe⟩ : ∃ B, befV gr x (ndL ev gr (fs.drop (i + 1)) k) = B := ⟨_, rfl⟩
     have HB : ∀ {M : Ms} {w0 w1 : World}, Ext w w1 → Has w0 M ((bN, tailV n gs (n + 1), some (41, 1, n + 1)) :: (b8, [.slice (some ⟨bN, 0, none⟩) (n + 1) (n + 1)], some (90, 1, 1)) :: (b2, [.int .i64 ev, .int .i64 gr, .int .i64 du], some (40, 3, 1)) :: (b3, [.slice A n c], some (41, 1, 1)) :: rowsH n ev gr fs gs (n + 1)) w1 →
       Calls Try.prog 75 #[.int .i64 (i : Int), .int .i64 (k : Int), .pointer (some ⟨b3, 0, none⟩), .pointer (some ⟨b2, 0, none⟩), .pointer (some ⟨b8, 0, none⟩)] w1 fun e w' => e = .returned (.int .i64 B) ∧ Ext w1 w' :=
      fun hx1 hh => hBe ▸ bef_row hl hh (hr.ext hx1) hx hlt2 hkn (by omega) he hg hf
     subst hA1
     rcases o with _ | ⟨go, co⟩
     ·obtain rfl := hpre rfl
      try simp only [planS_none, planS_some, planH_none, planH_some, List.cons_append, List.nil_append]
      by_cases hsk : B ≤ L
      ·have hB := hsk
       rw [← hBe] at hB
       have hge : x - gr ≤ L := by unfold befV at hB; omega
       repeat' (first | (focus ((with_reducible apply oq_indexAddrN); (iterate 4 exact rfl); omega)) | ((with_reducible apply oq_addE (k := ((i + 1 : Nat) : Int))); exact rfl; exact rfl; omega) | (apply oq_fn; exact rfl; try first | exact trivial | (and_intros <;> omega)) | ((with_reducible apply oq_load); exact rfl; exact rfl) | ((with_reducible apply oq_call (k := 75) (hc := Try.call75)); exact rfl; exact rfl; exact fun D w1 hw1 => HB hw1.ext.ext (Has.sub (by (repeat (first | exact HpSub.refl _ | apply HpSub.skip))) hw1)) | (with_reducible apply tl_nil) | ((with_reducible apply u_q); (iterate 4 exact rfl)) | (apply Rd.old; (first | (with_reducible assumption) | exact c0 | exact c1 | exact c2 | exact c3 | exact c4 | exact c5 | exact c6 | exact c7 | exact c8 | exact d0 | exact d1 | exact d2 | exact d3 | exact d4 | exact d5); first | exact List.not_mem_nil | exact m0 | exact m1 | exact m2 | exact m3 | exact m4 | exact m5 | exact m6 | exact m7 | exact m8 | exact m9) | (with_reducible apply t_seq) | (apply t_region; kernel_rfl) | ((with_reducible apply t_condD); exact rfl; all_goals first | (intro hp; try (exfalso; omega)) | skip) | (with_reducible apply t_skip) | (with_reducible apply t_block) | with_reducible apply q_thenN | with_reducible apply q_blockN)
       all_goals (refine ⟨(i + 1, k, L - x, [], none), ⟨by simp only; omega, ?_, ?_, by simp only; omega, by simp only; omega, by simp only; omega, ?_, ?_⟩, by simp only; omega, ?_, ?_⟩)
       all_goals first
        | (simp only; rw [hpl, hdrop, insG_skip hB]; done)
        | (simp only; exact nd_skip hB)
        | (simp only; rw [hpl, hdrop, insG_ins hB]; simp; done)
        | (simp only; exact hnd2)
        | exact hpre
        | (simp only; omega)
        | (simp only [List.length_append, List.length_cons, List.length_nil]; omega)
        | (intro h; cases h; done)
        | ((try simp only [planS_none, planS_some, planH_none, planH_some, List.cons_append, List.nil_append]); (repeat (first | exact FrSub.nil | (apply FrSub.cons; exact rfl) | (apply FrSub.consE; exact rfl; (focus (simp; done))))); done)
        | ((try simp only [planS_none, planS_some, planH_none, planH_some, List.cons_append, List.nil_append]); (repeat (first | exact HpSub.refl _ | (apply HpSub.consE; (repeat (first | exact P0 | apply P1)); first | exact rfl | ((focus (simp [iv]; done)))) | apply HpSub.skip | exact HpSub.nil)); done)
      ·have hB := hsk
       rw [← hBe] at hB
       obtain ⟨hk1, hnd2, hgx⟩ := nd_ins (by rw [← hdrop]; exact hnd) hB
       repeat' (first | (focus ((with_reducible apply oq_indexAddrN); (iterate 4 exact rfl); omega)) | ((with_reducible apply oq_subE (k := ((k - 1 : Nat) : Int))); exact rfl; exact rfl; omega) | ((with_reducible apply oq_addE (k := ((i + 1 : Nat) : Int))); exact rfl; exact rfl; omega) | (apply oq_fn; exact rfl; try first | exact trivial | (and_intros <;> omega)) | ((with_reducible apply oq_load); exact rfl; exact rfl) | ((with_reducible apply oq_call (k := 75) (hc := Try.call75)); exact rfl; exact rfl; exact fun D w1 hw1 => HB hw1.ext.ext (Has.sub (by (repeat (first | exact HpSub.refl _ | apply HpSub.skip))) hw1)) | (with_reducible apply tl_nil) | ((with_reducible apply u_q); (iterate 4 exact rfl)) | ((with_reducible apply u_s); (iterate 3 exact rfl)) | ((with_reducible apply os_x); exact rfl) | ((with_reducible apply os_appendNil (hk := app_ok41)); exact rfl; exact rfl) | ((with_reducible apply ox_buildSlice1); (iterate 6 exact rfl); intro _) | (apply Rd.own; (repeat (first | exact P0 | apply P1)); exact rfl; done) | (apply Rd.old; (first | (with_reducible assumption) | exact c0 | exact c1 | exact c2 | exact c3 | exact c4 | exact c5 | exact c6 | exact c7 | exact c8 | exact d0 | exact d1 | exact d2 | exact d3 | exact d4 | exact d5); first | exact List.not_mem_nil | exact m0 | exact m1 | exact m2 | exact m3 | exact m4 | exact m5 | exact m6 | exact m7 | exact m8 | exact m9) | (with_reducible apply t_seq) | (apply t_region; kernel_rfl) | ((with_reducible apply t_condD); exact rfl; all_goals first | (intro hp; try (exfalso; omega)) | skip) | (with_reducible apply t_skip) | (with_reducible apply t_block) | with_reducible apply q_thenN | with_reducible apply q_blockN | exact Rdn.zero | apply Rdn.succ | exact Nat.le_of_ble_eq_true rfl | exact (rfl : (_ : Bool) = true) | (intro _ _; with_reducible apply tl_id))
       all_goals (rename_i gN cN; refine ⟨(i + 1, k - 1, min L 0 + ev - x, [] ++ [(i : Int)], some (gN, cN)), ⟨by simp only; omega, ?_, ?_, by simp only; omega, by simp only; omega, by simp only; omega, ?_, ?_⟩, by simp only; omega, ?_, ?_⟩)
       all_goals first
        | (simp only; rw [hpl, hdrop, insG_skip hB]; done)
        | (simp only; exact nd_skip hB)
        | (simp only; rw [hpl, hdrop, insG_ins hB]; simp; done)
        | (simp only; exact hnd2)
        | exact hpre
        | (simp only; omega)
        | (simp only [List.length_append, List.length_cons, List.length_nil]; omega)
        | (intro h; cases h; done)
        | ((try simp only [planS_none, planS_some, planH_none, planH_some, List.cons_append, List.nil_append]); (repeat (first | exact FrSub.nil | (apply FrSub.cons; exact rfl) | (apply FrSub.consE; exact rfl; (focus (simp; done))))); done)
        | ((try simp only [planS_none, planS_some, planH_none, planH_some, List.cons_append, List.nil_append]); (repeat (first | exact HpSub.refl _ | (apply HpSub.consE; (repeat (first | exact P0 | apply P1)); first | exact rfl | ((focus (simp [iv]; done)))) | apply HpSub.skip | exact HpSub.nil)); done)
     ·try simp only [planS_none, planS_some, planH_none, planH_some, List.cons_append, List.nil_append]
      by_cases hsk : B ≤ L
      ·have hB := hsk
       rw [← hBe] at hB
       have hge : x - gr ≤ L := by unfold befV at hB; omega
       repeat' (first | (focus ((with_reducible apply oq_indexAddrN); (iterate 4 exact rfl); omega)) | ((with_reducible apply oq_addE (k := ((i + 1 : Nat) : Int))); exact rfl; exact rfl; omega) | (apply oq_fn; exact rfl; try first | exact trivial | (and_intros <;> omega)) | ((with_reducible apply oq_load); exact rfl; exact rfl) | ((with_reducible apply oq_call (k := 75) (hc := Try.call75)); exact rfl; exact rfl; exact fun D w1 hw1 => HB hw1.ext.ext (Has.sub (by (repeat (first | exact HpSub.refl _ | apply HpSub.skip))) hw1)) | (with_reducible apply tl_nil) | ((with_reducible apply u_q); (iterate 4 exact rfl)) | (apply Rd.old; (first | (with_reducible assumption) | exact c0 | exact c1 | exact c2 | exact c3 | exact c4 | exact c5 | exact c6 | exact c7 | exact c8 | exact d0 | exact d1 | exact d2 | exact d3 | exact d4 | exact d5); first | exact List.not_mem_nil | exact m0 | exact m1 | exact m2 | exact m3 | exact m4 | exact m5 | exact m6 | exact m7 | exact m8 | exact m9) | (with_reducible apply t_seq) | (apply t_region; kernel_rfl) | ((with_reducible apply t_condD); exact rfl; all_goals first | (intro hp; try (exfalso; omega)) | skip) | (with_reducible apply t_skip) | (with_reducible apply t_block) | with_reducible apply q_thenN | with_reducible apply q_blockN)
       all_goals (refine ⟨(i + 1, k, L - x, pre, some (go, co)), ⟨by simp only; omega, ?_, ?_, by simp only; omega, by simp only; omega, by simp only; omega, ?_, ?_⟩, by simp only; omega, ?_, ?_⟩)
       all_goals first
        | (simp only; rw [hpl, hdrop, insG_skip hB]; done)
        | (simp only; exact nd_skip hB)
        | (simp only; rw [hpl, hdrop, insG_ins hB]; simp; done)
        | (simp only; exact hnd2)
        | exact hpre
        | (simp only; omega)
        | (simp only [List.length_append, List.length_cons, List.length_nil]; omega)
        | (intro h; cases h; done)
        | ((try simp only [planS_none, planS_some, planH_none, planH_some, List.cons_append, List.nil_append]); (repeat (first | exact FrSub.nil | (apply FrSub.cons; exact rfl) | (apply FrSub.consE; exact rfl; (focus (simp; done))))); done)
        | ((try simp only [planS_none, planS_some, planH_none, planH_some, List.cons_append, List.nil_append]); (repeat (first | exact HpSub.refl _ | (apply HpSub.consE; (repeat (first | exact P0 | apply P1)); first | exact rfl | ((focus (simp [iv]; done)))) | apply HpSub.skip | exact HpSub.nil)); done)
      ·have hB := hsk
       rw [← hBe] at hB
       obtain ⟨hk1, hnd2, hgx⟩ := nd_ins (by rw [← hdrop]; exact hnd) hB
       repeat' (first | (focus ((with_reducible apply oq_indexAddrN); (iterate 4 exact rfl); omega)) | ((with_reducible apply oq_subE (k := ((k - 1 : Nat) : Int))); exact rfl; exact rfl; omega) | ((with_reducible apply oq_addE (k := ((i + 1 : Nat) : Int))); exact rfl; exact rfl; omega) | (apply oq_fn; exact rfl; try first | exact trivial | (and_intros <;> omega)) | ((with_reducible apply oq_load); exact rfl; exact rfl) | ((with_reducible apply oq_call (k := 75) (hc := Try.call75)); exact rfl; exact rfl; exact fun D w1 hw1 => HB hw1.ext.ext (Has.sub (by (repeat (first | exact HpSub.refl _ | apply HpSub.skip))) hw1)) | (with_reducible apply tl_nil) | ((with_reducible apply u_q); (iterate 4 exact rfl)) | ((with_reducible apply u_s); (iterate 3 exact rfl)) | ((with_reducible apply os_x); exact rfl) | ((with_reducible apply os_append (hk := app_ok41)); exact rfl; exact rfl; (repeat (first | exact P0 | apply P1))) | ((with_reducible apply ox_buildSlice1); (iterate 6 exact rfl); intro _) | (apply Rd.own; (repeat (first | exact P0 | apply P1)); exact rfl; done) | (apply Rd.old; (first | (with_reducible assumption) | exact c0 | exact c1 | exact c2 | exact c3 | exact c4 | exact c5 | exact c6 | exact c7 | exact c8 | exact d0 | exact d1 | exact d2 | exact d3 | exact d4 | exact d5); first | exact List.not_mem_nil | exact m0 | exact m1 | exact m2 | exact m3 | exact m4 | exact m5 | exact m6 | exact m7 | exact m8 | exact m9) | (with_reducible apply t_seq) | (apply t_region; kernel_rfl) | ((with_reducible apply t_condD); exact rfl; all_goals first | (intro hp; try (exfalso; omega)) | skip) | (with_reducible apply t_skip) | (with_reducible apply t_block) | with_reducible apply q_thenN | with_reducible apply q_blockN | exact Rdn.zero | apply Rdn.succ | (simp only [List.length_map, Nat.mul_one]; done) | exact Nat.le_of_ble_eq_true rfl | exact (rfl : (_ : Bool) = true) | omega | (intro _ _; with_reducible apply tl_id))
       all_goals (rename_i gN cN; refine ⟨(i + 1, k - 1, min L 0 + ev - x, pre ++ [(i : Int)], some (gN, cN)), ⟨by simp only; omega, ?_, ?_, by simp only; omega, by simp only; omega, by simp only; omega, ?_, ?_⟩, by simp only; omega, ?_, ?_⟩)
       all_goals first
        | (simp only; rw [hpl, hdrop, insG_skip hB]; done)
        | (simp only; exact nd_skip hB)
        | (simp only; rw [hpl, hdrop, insG_ins hB]; simp; done)
        | (simp only; exact hnd2)
        | exact hpre
        | (simp only; omega)
        | (simp only [List.length_append, List.length_cons, List.length_nil]; omega)
        | (intro h; cases h; done)
        | ((try simp only [planS_none, planS_some, planH_none, planH_some, List.cons_append, List.nil_append]); (repeat (first | exact FrSub.nil | (apply FrSub.cons; exact rfl) | (apply FrSub.consE; exact rfl; (focus (simp; done))))); done)
        | ((try simp only [planS_none, planS_some, planH_none, planH_some, List.cons_append, List.nil_append]); (repeat (first | exact HpSub.refl _ | (apply HpSub.consE; (repeat (first | exact P0 | apply P1)); first | exact rfl | ((focus (simp [iv]; done)))) | apply HpSub.skip | exact HpSub.nil)); done)
    ·obtain rfl : n = i := by omega
     have hfin : insV ev gr du fs = pre := by rw [hpl, List.drop_of_length_le (by omega)]; simp [insG]
     rw [hE, hfin]
     rcases o with _ | ⟨go, co⟩
     ·obtain rfl := hpre rfl
      try simp only [planS_none, planS_some, planH_none, planH_some, List.cons_append, List.nil_append]
      repeat' (first | (apply oq_fn; exact rfl; try first | exact trivial | (and_intros <;> omega)) | (with_reducible apply tl_nil) | ((with_reducible apply u_q); (iterate 4 exact rfl)) | (with_reducible apply t_seq) | (apply t_region; kernel_rfl) | ((with_reducible apply t_condD); exact rfl; all_goals first | (intro hp; try (exfalso; omega)) | skip) | (with_reducible apply t_ret) | (with_reducible apply t_exit) | with_reducible apply q_thenN | with_reducible apply q_thenE | ((with_reducible apply q_blockE); exact rfl) | (with_reducible apply end_ret) | exact rvs_nil | (with_reducible apply rvs_cons) | ((with_reducible apply rv_tmp); exact rfl))
      all_goals exact ⟨_, .inr ⟨rfl, none, fun _ => rfl, rfl, rfl⟩, HpSub.nil⟩
     ·try simp only [planS_none, planS_some, planH_none, planH_some, List.cons_append, List.nil_append]
      repeat' (first | (apply oq_fn; exact rfl; try first | exact trivial | (and_intros <;> omega)) | (with_reducible apply tl_nil) | ((with_reducible apply u_q); (iterate 4 exact rfl)) | (with_reducible apply t_seq) | (apply t_region; kernel_rfl) | ((with_reducible apply t_condD); exact rfl; all_goals first | (intro hp; try (exfalso; omega)) | skip) | (with_reducible apply t_ret) | (with_reducible apply t_exit) | with_reducible apply q_thenN | with_reducible apply q_thenE | ((with_reducible apply q_blockE); exact rfl) | (with_reducible apply end_ret) | exact rvs_nil | (with_reducible apply rvs_cons) | ((with_reducible apply rv_tmp); exact rfl))
      all_goals exact ⟨_, .inr ⟨rfl, some (go, co), (fun h => by cases h), rfl, rfl⟩, by (repeat (first | exact HpSub.refl _ | (apply HpSub.consE; (repeat (first | exact P0 | apply P1)); exact rfl) | apply HpSub.skip | exact HpSub.nil))⟩
 ·have hE : insE ev gr du fs = caredE ev gr du fs := by unfold insE; rw [if_neg hce]
  rw [hE]
  obtain ⟨E, hEE⟩ : ∃ E, caredE ev gr du fs = E := ⟨_, rfl⟩
  rw [hEE] at HC hce ⊢
  refine enterF (c := cx w 144) Try.func28 rfl rfl rfl rfl ?_
  repeat' (first | (apply oq_fn; exact rfl; try first | exact trivial | (and_intros <;> omega)) | ((with_reducible apply oq_load); exact rfl; exact rfl) | ((with_reducible apply oq_loadAgg); exact rfl; exact rfl) | ((with_reducible apply oq_call (k := 71) (hc := Try.call71)); exact rfl; exact rfl; exact fun D w1 hw1 => HC w1 hw1.ext.ext) | (with_reducible apply tl_nil) | ((with_reducible apply u_q); (iterate 4 exact rfl)) | ((with_reducible apply u_s); (iterate 3 exact rfl)) | ((with_reducible apply os_x); exact rfl) | ((with_reducible apply ox_box); exact rfl; exact rfl; intro _) | ((with_reducible apply ox_boxAgg); exact rfl; intro _) | (apply Rd.own; (repeat (first | exact P0 | apply P1)); exact rfl; done) | (with_reducible apply t_seq) | (apply t_region; kernel_rfl) | ((with_reducible apply t_condN); exact rfl; all_goals first | (intro hp; try (exfalso; omega)) | skip) | (with_reducible apply t_ret) | with_reducible apply q_thenN | with_reducible apply q_thenR | exact Rdn.zero | apply Rdn.succ | (with_reducible apply end_ret) | exact rvs_nil | (with_reducible apply rvs_cons) | ((with_reducible apply rv_tmp); exact rfl))
  all_goals exact ⟨_, .inl ⟨hce, rfl, rfl⟩, HpSub.nil⟩
end Go.Proofs.Ytmlmgipngbndgaa
namespace Go.Proofs.Ytmlmgipngbndgaa
open Go.ChangeShapes Go.WideShapes Go.ChangeAt Go.RowKit
inductive Lf where
 | int (k : IntKind)
 | bool
def LfOk : Lf → Value → Prop
 | .int k, v => ∃ z, v = .int k z ∧ (Lit.int k z).wf = true
 | .bool, v => ∃ b, v = .bool b
def LfsOk : List Lf → List Value → Prop
 | [], [] => True
 | k :: ks, v :: vs => LfOk k v ∧ LfsOk ks vs
 | _, _ => False
theorem LfsOk.len : ∀ {ks : List Lf} {vs : List Value}, LfsOk ks vs → vs.length = ks.length
 | [], [], _ => rfl
 | k :: ks, v :: vs, h => by simp [LfsOk.len h.2]
 | [], _ :: _, h => h.elim
 | _ :: _, [], h => h.elim
theorem LfsOk.nil {vs : List Value} (h : LfsOk [] vs) : vs = [] := by cases vs with | nil => rfl | cons _ _ => exact h.elim
theorem LfsOk.int {k : IntKind} {ks : List Lf} {vs : List Value} (h : LfsOk (.int k :: ks) vs) : ∃ z us, vs = .int k z :: us ∧ (Lit.int k z).wf = true ∧ LfsOk ks us := by
 cases vs with
 | nil => exact h.elim
 | cons v vs => obtain ⟨⟨z, rfl, hw⟩, h2⟩ := h; exact ⟨z, vs, rfl, hw, h2⟩
theorem LfsOk.bool {ks : List Lf} {vs : List Value} (h : LfsOk (.bool :: ks) vs) : ∃ b us, vs = .bool b :: us ∧ LfsOk ks us := by
 cases vs with
 | nil => exact h.elim
 | cons v vs => obtain ⟨⟨z, rfl⟩, h2⟩ := h; exact ⟨z, vs, rfl, h2⟩
theorem LfsOk.append : ∀ {ks ls : List Lf} {vs us : List Value}, LfsOk ks vs → LfsOk ls us → LfsOk (ks ++ ls) (vs ++ us)
 | [], _, [], _, _, h => h
 | _ :: _, _, _ :: _, _, h, k => ⟨h.1, LfsOk.append h.2 k⟩
 | [], _, _ :: _, _, h, _ => h.elim
 | _ :: _, _, [], _, h, _ => h.elim
section
variable {H : Type} {enc : TypeId × Value → H} {P : Program} {W : World} {base : Nat} {spare : Nat → Bool} {held : Bool}
end
end Go.Proofs.Ytmlmgipngbndgaa
namespace Go.Proofs.Ytmlmgipngbndgaa
open Go.RowKit
attribute [local irreducible] OQ OS OX Rd T TL GX GL AL AI RV wpG SAny Calls
theorem sameInts_calls (A A' : Option Addr) (n c n' c' : Nat) (l m : List Int) (q : Bool) (hq : q = true ↔ l = m) (w : World) (hr : RdS w 1 A n (l.map inCells)) (hr' : RdS w 1 A' n' (m.map inCells)) (hn : n ≤ 1000000) (hn' : n' ≤ 1000000) :
  Calls Try.prog 32 #[.slice A n c, .slice A' n' c'] w fun e w' => e = .returned (.bool q) ∧ Ext w w' := by
 have hl := hr.len
 have hl' := hr'.len
 simp only [List.length_map] at hl hl'
 by_cases hnn : n = n'
 ·subst hnn
  refine enterQ (c := cx w 26) Try.func32 rfl rfl rfl rfl ?_
  repeat' (first | (apply oq_fn; exact rfl; try first | exact trivial | (and_intros <;> omega)) | (with_reducible apply tl_nil) | ((with_reducible apply u_q); (iterate 4 exact rfl)) | (with_reducible apply t_seq) | (apply t_region; kernel_rfl) | ((with_reducible apply t_condN); exact rfl; all_goals first | (intro hp; try (exfalso; omega)) | skip) | (with_reducible apply t_skip) | (with_reducible apply t_block) | with_reducible apply q_thenN)
  apply t_loopK (ι := Nat) [0, 1] (fun k => [(5, .int .i64 (k : Nat))]) (fun _ => []) (fun k => k ≤ n ∧ ∀ j, j < k → l[j]? = m[j]?) (fun k => n - k) (0)
  (repeat (first | exact KeepF.nil | (apply KeepF.cons; exact rfl) | apply KeepF.skip))
  (repeat (first | exact FrSub.nil | (apply FrSub.cons; exact rfl)))
  (repeat (first | exact HpSub.refl _ | (apply HpSub.consE; (repeat (first | exact P0 | apply P1)); exact rfl) | exact HpSub.nil))
  ·exact ⟨by omega, fun j hj => by omega⟩
  rintro k ⟨hk, hkp⟩
  try simp only [List.cons_append, List.nil_append]
  by_cases hlt : k < n
  ·obtain ⟨b, o, x, rfl, _, hx, c0⟩ := in_read hr hlt
   obtain ⟨b', o', y, rfl, _, hy, d0⟩ := in_read hr' hlt
   by_cases hxy : x = y
   ·subst hxy
    repeat' (first | (focus ((with_reducible apply oq_indexAddrN); (iterate 4 exact rfl); omega)) | (apply oq_fn; exact rfl; try first | exact trivial | (and_intros <;> omega)) | ((with_reducible apply oq_load); exact rfl; exact rfl) | (with_reducible apply tl_nil) | ((with_reducible apply u_q); (iterate 4 exact rfl)) | (with_reducible apply v_nil) | ((with_reducible apply v_q); (iterate 3 exact rfl)) | (apply Rd.old; (first | (with_reducible assumption) | exact c0 | exact c1 | exact c2 | exact c3 | exact c4 | exact c5 | exact c6 | exact c7 | exact c8 | exact d0 | exact d1 | exact d2 | exact d3 | exact d4 | exact d5); first | exact List.not_mem_nil | exact m0 | exact m1 | exact m2 | exact m3 | exact m4 | exact m5 | exact m6 | exact m7 | exact m8 | exact m9) | (with_reducible apply t_seq) | (apply t_region; kernel_rfl) | (apply t_drawn; kernel_rfl; decide +kernel; try simp only [List.append_eq, List.cons_append, List.nil_append]) | ((with_reducible apply t_condD); exact rfl; all_goals first | (intro hp; try (exfalso; omega)) | skip) | ((with_reducible apply t_condN); exact rfl; all_goals first | (intro hp; try (exfalso; omega)) | skip) | (with_reducible apply t_skip) | (with_reducible apply t_block) | with_reducible apply q_thenN | with_reducible apply q_blockN)
    refine ⟨k + 1, ⟨by omega, fun j hj => ?_⟩, by omega, ?_, ?_⟩
    ·rcases Nat.lt_or_ge j k with h | h
     ·exact hkp j h
     ·obtain rfl : j = k := by omega
      rw [hx, hy]
    ·try simp only [List.cons_append, List.nil_append]
     (repeat' (first | exact FrSub.nil | (apply FrSub.cons; exact rfl)))
    ·try simp only [List.cons_append, List.nil_append]
     (repeat' (first | exact HpSub.refl _))
   ·repeat' (first | (focus ((with_reducible apply oq_indexAddrN); (iterate 4 exact rfl); omega)) | (apply oq_fn; exact rfl; try first | exact trivial | (and_intros <;> omega)) | ((with_reducible apply oq_load); exact rfl; exact rfl) | (with_reducible apply tl_nil) | ((with_reducible apply u_q); (iterate 4 exact rfl)) | (with_reducible apply v_nil) | ((with_reducible apply v_q); (iterate 3 exact rfl)) | (apply Rd.old; (first | (with_reducible assumption) | exact c0 | exact c1 | exact c2 | exact c3 | exact c4 | exact c5 | exact c6 | exact c7 | exact c8 | exact d0 | exact d1 | exact d2 | exact d3 | exact d4 | exact d5); first | exact List.not_mem_nil | exact m0 | exact m1 | exact m2 | exact m3 | exact m4 | exact m5 | exact m6 | exact m7 | exact m8 | exact m9) | (with_reducible apply t_seq) | (apply t_region; kernel_rfl) | (apply t_drawn; kernel_rfl; decide +kernel; try simp only [List.append_eq, List.cons_append, List.nil_append]) | ((with_reducible apply t_condD); exact rfl; all_goals first | (intro hp; try (exfalso; omega)) | skip) | ((with_reducible apply t_condN); exact rfl; all_goals first | (intro hp; try (exfalso; omega)) | skip) | (with_reducible apply t_ret) | (with_reducible apply t_skip) | (with_reducible apply t_block) | with_reducible apply q_thenN | with_reducible apply q_thenR | with_reducible apply q_blockR | (with_reducible apply end_ret) | exact rvs_nil | (with_reducible apply rvs_cons) | ((with_reducible apply rv_tmp); exact rfl))
    have hf : q = false := by
     cases q with
     | false => rfl
     | true =>
      have e := hq.1 rfl
      rw [e, hy] at hx
      exact absurd (Option.some.inj hx).symm hxy
    rw [hf]; rfl
  ·repeat' (first | (apply oq_fn; exact rfl; try first | exact trivial | (and_intros <;> omega)) | (with_reducible apply tl_nil) | ((with_reducible apply u_q); (iterate 4 exact rfl)) | (with_reducible apply t_seq) | (apply t_region; kernel_rfl) | ((with_reducible apply t_condD); exact rfl; all_goals first | (intro hp; try (exfalso; omega)) | skip) | (with_reducible apply t_ret) | (with_reducible apply t_exit) | with_reducible apply q_thenN | with_reducible apply q_thenE | ((with_reducible apply q_blockE); exact rfl) | (with_reducible apply end_ret) | exact rvs_nil | (with_reducible apply rvs_cons) | ((with_reducible apply rv_tmp); exact rfl))
   have : q = true := hq.2 (List.ext_getElem? fun j => by
    rcases Nat.lt_or_ge j n with h | h
    ·exact hkp j (by omega)
    ·rw [List.getElem?_eq_none (by omega), List.getElem?_eq_none (by omega)])
   rw [this]; rfl
 ·have : q = false := by
   cases q with
   | false => rfl
   | true => exact absurd (by rw [← hl, ← hl', hq.1 rfl]) hnn
  refine enterQ (c := cx w 26) Try.func32 rfl rfl rfl rfl ?_
  repeat' (first | (apply oq_fn; exact rfl; try first | exact trivial | (and_intros <;> omega)) | (with_reducible apply tl_nil) | ((with_reducible apply u_q); (iterate 4 exact rfl)) | (with_reducible apply t_seq) | (apply t_region; kernel_rfl) | ((with_reducible apply t_condN); exact rfl; all_goals first | (intro hp; try (exfalso; omega)) | skip) | (with_reducible apply t_ret) | with_reducible apply q_thenN | with_reducible apply q_thenR | (with_reducible apply end_ret) | exact rvs_nil | (with_reducible apply rvs_cons) | ((with_reducible apply rv_tmp); exact rfl))
  rw [this]
  all_goals rfl
theorem in_len (l : List Int) : ∀ r ∈ l.map inCells, r.length = 1 := by simp only [List.mem_map]; rintro r ⟨x, _, rfl⟩; rfl
theorem in_own {w0 : World} {M : Ms} {H H' : Hp} {w : World} {g n : Nat} {l : List Int} {tg : Tg} (hl : l.length = n) (h : Has w0 M H w) (q : Pick H g (l.map inCells).flatten tg H') : RdS w 1 (some ⟨g, 0, none⟩) n (l.map inCells) :=
 Blk.rows (h.blk _ q.mem).2 (by simpa using hl) (in_len l)
def InsY (pl : List Int) (V : Value) (H : Hp) : Prop := ∃ o, (o = none → pl = []) ∧ V = .tuple #[planS pl o, .int .i64 0] ∧ H = planH pl o
theorem insY {E : Int} {pl : List Int} {V : Value} {H : Hp} (he : E = 0) (h : InsO E pl V H) : InsY pl V H := by
 rcases h with ⟨h, _⟩ | ⟨_, h⟩
 ·exact absurd he h
 ·exact h
theorem hp_skipApp {G R X : Hp} (h : HpSub R X) : HpSub (G ++ R) X := by
 induction G with
 | nil => exact h
 | cons x G ih => exact HpSub.skipX ih
theorem hp_appC {A H G : Hp} (h : HpSub H G) : HpSub (A ++ H) (A ++ G) := by
 induction A with
 | nil => exact h
 | cons x A ih => obtain ⟨b, C, g⟩ := x; exact HpSub.cons P0 ih
/-- A list of rows, as it is handed out. -/
def lisH : Option (Nat × Nat) → List Row → Hp
 | none, _ => []
 | some (g, c), R => (g, R.map rwV, some (41, 1, c)) :: rwsH R
end Go.Proofs.Ytmlmgipngbndgaa
namespace Go.Proofs.Ytmlmgipngbndgaa
open Go.RowKit
theorem HpSub.per {H G : Hp} (h : HpSub H G) : ∃ K, H.Perm (G ++ K) := by
 induction h with
 | nil => exact ⟨_, List.Perm.refl _⟩
 | cons p _ ih =>
  obtain ⟨K, hK⟩ := ih
  exact ⟨K, p.perm.trans (List.Perm.cons _ hK)⟩
theorem hp_of_per : ∀ {G H K : Hp}, H.Perm (G ++ K) → HpSub H G
 | [], H, K, _ => HpSub.nil
 | (b, C, g) :: G, H, K, h => by
  have hm : (b, C, g) ∈ H := h.mem_iff.2 (List.mem_cons_self ..)
  obtain ⟨H', hp⟩ : ∃ H', Pick H b C g H' := by
   clear h
   induction H with
   | nil => cases hm
   | cons x H ih =>
    rcases List.mem_cons.1 hm with rfl | hm
    ·exact ⟨H, Pick.head _ _ _ _⟩
    ·obtain ⟨H', hp⟩ := ih hm
     exact ⟨x :: H', hp.tail⟩
  exact HpSub.cons hp (hp_of_per ((hp.perm.symm.trans h).cons_inv))
theorem HpSub.tr {H G K : Hp} (h : HpSub H G) (k : HpSub G K) : HpSub H K := by
 obtain ⟨A, hA⟩ := h.per
 obtain ⟨B, hB⟩ := k.per
 refine hp_of_per (K := B ++ A) (hA.trans ?_)
 rw [← List.append_assoc]
 exact List.Perm.append_right _ hB
theorem HpSub.app {A B a b : Hp} (h : HpSub A a) (k : HpSub B b) : HpSub (A ++ B) (a ++ b) := by
 obtain ⟨X, hX⟩ := h.per
 obtain ⟨Y, hY⟩ := k.per
 refine hp_of_per (K := X ++ Y) ((hX.append hY).trans ?_)
 rw [List.append_assoc, List.append_assoc]
 refine List.Perm.append_left _ ?_
 rw [← List.append_assoc, ← List.append_assoc]
 exact List.Perm.append_right _ List.perm_append_comm
theorem HpSub.swap {A B a b : Hp} (h : HpSub A a) (k : HpSub B b) : HpSub (A ++ B) (b ++ a) := (hp_comm A B).tr (k.app h)
theorem rws_sub : ∀ {R : List Row} {i : Nat} {r : Row}, R[i]? = some r → HpSub (rwsH R) (rowH r)
 | q :: R, 0, r, h => by
  simp only [List.getElem?_cons_zero, Option.some.injEq] at h
  subst h
  exact hp_leftX _ _
 | q :: R, i + 1, r, h => by
  simp only [List.getElem?_cons_succ] at h
  exact hp_skipApp (rws_sub h)
 | [], i, r, h => by simp at h
theorem row_rds {w0 : World} {M : Ms} {w : World} {xs : List Int} {o : Option (Nat × Nat)} (h : Has w0 M (rowH (xs, o)) w) (hk : LrOk (xs, o)) : RdS w 1 (clA o) xs.length (xs.map inCells) :=
 clH_rows (e := 3) (s := 1) (f := inCells) (l := xs) (x := o) (by rw [iv_flat]; exact h) (fun _ => rfl) rfl hk.1
theorem lis_row {w0 : World} {M : Ms} {w : World} {H : Hp} {R : List Row} {o ro : Option (Nat × Nat)} {xs : List Int} {i : Nat} (h : Has w0 M H w) (hs : HpSub H (lisH o R)) (ho : o ≠ none) (hR : R[i]? = some (xs, ro)) (hk : ∀ r ∈ R, LrOk r) : RdS w 1 (clA ro) xs.length (xs.map inCells) := by
 cases o with
 | none => exact absurd rfl ho
 | some p => exact row_rds (h.sub (hs.tr (HpSub.skipX (rws_sub hR)))) (hk _ (List.mem_of_getElem? hR))
theorem rw_flat (R : List Row) : (R.map fun r => [rwV r]).flatten = R.map rwV := by
 induction R with
 | nil => rfl
 | cons r R ih => simp only [List.map_cons, List.flatten_cons, ih]; rfl
theorem lis_rds {w0 : World} {M : Ms} {w : World} {H : Hp} {R : List Row} {o : Option (Nat × Nat)} (h : Has w0 M H w) (hs : HpSub H (lisH o R)) (ho : o = none → R.length = 0) : RdS w 1 (clA o) R.length (R.map fun r => [rwV r]) :=
 clH_rows (e := 41) (s := 1) (f := fun r => [rwV r]) (l := R) (x := o) (h.sub (hs.tr (by
  rw [rw_flat]
  cases o with
  | none => exact HpSub.nil
  | some p => exact HpSub.front HpSub.nil))) (fun _ => rfl) rfl ho
end Go.Proofs.Ytmlmgipngbndgaa
namespace Go.Proofs.Ytmlmgipngbndgaa
open Go.RowKit
attribute [local irreducible] OQ OS OX Rd T TL GX GL AL AI RV wpG SAny Calls
/-- Lists of numbers, as they may be read. -/
structure LisW (w : World) (A : Option Addr) (n : Nat) (L : List (List Int)) (R : List Row) : Prop where
 cells : RdS w 1 A n (R.map fun r => [rwV r])
 fsts : R.map Prod.fst = L
 row : ∀ r ∈ R, RdS w 1 (clA r.2) r.1.length (r.1.map inCells)
theorem LisW.ext {w w' : World} {A : Option Addr} {n : Nat} {L : List (List Int)} {R : List Row} (h : LisW w A n L R) (he : Ext w w') : LisW w' A n L R := ⟨h.cells.ext he, h.fsts, fun r hr => (h.row r hr).ext he⟩
theorem lisW_of {w0 : World} {M : Ms} {w : World} {H : Hp} {R : List Row} {o : Option (Nat × Nat)} {L : List (List Int)} (h : Has w0 M H w) (hs : HpSub H (lisH o R)) (hk : ∀ r ∈ R, LrOk r) (hL : R.map Prod.fst = L) (ho : o = none → R = []) : LisW w (clA o) R.length L R :=
 ⟨lis_rds h hs (fun e => by rw [ho e, List.length_nil]), hL, fun r hr => by
  obtain ⟨i, hi, rfl⟩ := List.getElem_of_mem hr
  have hne : o ≠ none := fun e => by have := ho e; rw [this] at hi; exact absurd hi (Nat.not_lt_zero _)
  exact lis_row (i := i) (xs := R[i].1) (ro := R[i].2) h hs hne (List.getElem?_eq_getElem hi) hk⟩
theorem lis_read {w : World} {A : Option Addr} {n : Nat} {L : List (List Int)} {R : List Row} (h : LisW w A n L R) {i : Nat} (hi : i < n) :
  ∃ b o xs ro, A = some ⟨b, o, none⟩ ∧ R[i]? = some (xs, ro) ∧ L[i]? = some xs ∧ w.cell? ⟨b, o + i * 1, none⟩ = some (.slice (clA ro) xs.length (clC ro)) ∧ RdS w 1 (clA ro) xs.length (xs.map inCells) := by
 obtain ⟨b, o, cs, hA, hb, hx, _, hc⟩ := h.cells.row hi
 simp only [List.getElem?_map, Option.map_eq_some_iff] at hx
 obtain ⟨r, hx, rfl⟩ := hx
 refine ⟨b, o, r.1, r.2, hA, hx, by rw [← h.fsts, List.getElem?_map, hx]; rfl, ?_, h.row r (List.mem_of_getElem? hx)⟩
 exact hc 0 _ rfl
theorem sameLists_calls (A B : Option Addr) (n c c' : Nat) (L : List (List Int)) (R S : List Row) (w : World) (hA : LisW w A n L R) (hB : LisW w B n L S) (hn : n ≤ 1000000) (hL : ∀ x ∈ L, x.length ≤ 1000000) :
  Calls Try.prog 52 #[.slice A n c, .slice B n c'] w fun e w' => e = .returned (.bool true) ∧ Ext w w' := by
 refine enterQ (c := cx w 27) Try.func52 rfl rfl rfl rfl ?_
 repeat' (first | ((with_reducible apply oq_neqF); exact rfl; exact rfl; omega) | (apply oq_fn; exact rfl; try first | exact trivial | (and_intros <;> omega)) | (with_reducible apply tl_nil) | ((with_reducible apply u_q); (iterate 4 exact rfl)) | (with_reducible apply t_seq) | (apply t_region; kernel_rfl) | ((with_reducible apply t_condF); exact rfl) | (with_reducible apply t_skip) | (with_reducible apply t_block) | with_reducible apply q_thenN)
 apply t_loopK (GH := []) (ι := Nat) [0, 1] (fun i => [(5, .int .i64 (i : Nat))]) (fun _ => []) (fun i => i ≤ n) (fun i => n - i) (0)
 (repeat (first | exact KeepF.nil | (apply KeepF.cons; exact rfl) | apply KeepF.skip))
 (repeat (first | exact FrSub.nil | (apply FrSub.cons; exact rfl)))
 ((try simp only [List.append_nil]); (repeat (first | exact HpSub.refl _ | (apply HpSub.consE; (repeat (first | exact P0 | apply P1 | apply PA)); exact rfl) | apply hp_appC | apply HpSub.skipX | exact hp_left | apply hp_skipApp | exact HpSub.nil)))
 ·exact Nat.zero_le _
 rintro i hi
 try simp only [List.cons_append, List.nil_append]
 by_cases hlt : i < n
 ·obtain ⟨b, o, xs, ro, rfl, hRi, hxs, c0, hx⟩ := lis_read hA hlt
  obtain ⟨b', o', ys, so, rfl, hSi, hys, d0, hy⟩ := lis_read hB hlt
  obtain rfl : xs = ys := by rw [hxs] at hys; exact Option.some.inj hys
  have hxl := hL xs (List.mem_of_getElem? hxs)
  repeat' (first | ((with_reducible apply oq_addE (k := ((i + 1 : Nat) : Int))); exact rfl; exact rfl; omega) | (focus ((with_reducible apply oq_indexAddrN); (iterate 4 exact rfl); omega)) | ((with_reducible apply oq_lssT); exact rfl; exact rfl; omega) | (apply oq_fn; exact rfl; try first | exact trivial | (and_intros <;> omega)) | ((with_reducible apply oq_load); exact rfl; exact rfl) | ((with_reducible apply oq_call (k := 32) (hc := Try.call32)); exact rfl; exact rfl; exact fun D w1 hw1 => sameInts_calls (clA ro) (clA so) xs.length (clC ro) xs.length (clC so) xs xs true (by simp) w1 (hx.ext hw1.ext.ext) (hy.ext hw1.ext.ext) hxl hxl) | (with_reducible apply tl_nil) | ((with_reducible apply u_q); (iterate 4 exact rfl)) | (with_reducible apply v_nil) | ((with_reducible apply v_q); (iterate 3 exact rfl)) | (apply Rd.old; (first | exact c0 | exact d0); exact List.not_mem_nil) | (with_reducible apply t_seq) | (apply t_region; kernel_rfl) | (apply t_drawn; kernel_rfl; decide +kernel; try simp only [List.append_eq, List.cons_append, List.nil_append]) | ((with_reducible apply t_condT); exact rfl) | ((with_reducible apply t_condF); exact rfl) | (with_reducible apply t_skip) | (with_reducible apply t_block) | with_reducible apply q_thenN | with_reducible apply q_blockN)
  all_goals (refine ⟨i + 1, (by omega), (by omega), ?_, ?_⟩)
  all_goals first
   | ((repeat (first | exact FrSub.nil | (apply FrSub.cons; exact rfl))); done)
   | exact HpSub.refl _
 ·repeat' (first | ((with_reducible apply oq_lssF); exact rfl; exact rfl; omega) | (apply oq_fn; exact rfl; try first | exact trivial | (and_intros <;> omega)) | (with_reducible apply tl_nil) | ((with_reducible apply u_q); (iterate 4 exact rfl)) | (with_reducible apply t_seq) | (apply t_region; kernel_rfl) | ((with_reducible apply t_condF); exact rfl) | (with_reducible apply t_ret) | (with_reducible apply t_exit) | with_reducible apply q_thenN | with_reducible apply q_thenE | ((with_reducible apply q_blockE); exact rfl) | (with_reducible apply end_ret) | exact rvs_nil | (with_reducible apply rvs_cons) | ((with_reducible apply rv_tmp); exact rfl))
  all_goals rfl
end Go.Proofs.Ytmlmgipngbndgaa
namespace Go.Proofs.Ytmlmgipngbndgaa
open Go.RowKit
attribute [local irreducible] TR OQ OS OX Rd T TL GX GL AL AI RV wpG SAny Calls
def off0 : Off := ⟨0, 60, 25, 0, 0, [], []⟩
def dl9 : List Deal := [⟨1, 0, 2, 400, 100⟩, ⟨2, 0, 0, 0, 0⟩, ⟨2, 0, 0, 0, 0⟩, ⟨2, 0, 0, 0, 0⟩, ⟨3, 0, 0, 0, 0⟩, ⟨6, 50, 0, 0, 0⟩, ⟨3, 1, 0, 0, 0⟩, ⟨6, 50, 0, 0, 0⟩, ⟨4, 0, 0, 0, 0⟩]
def off9 : Off := ⟨100, 60, 25, 1200, 700, [⟨2, 400, 100, 1⟩], [⟨0, 4, 0⟩, ⟨0, 4, 100⟩, ⟨0, 3, 0⟩]⟩
theorem play9 : playV off0 dl9 = (off9, 0, 0) := by kernel_rfl
theorem purse9 : purseS off9 = (0, 400, 100, 700, 0) := by kernel_rfl
theorem insE5 : insE 100 10 30 [20, 15, 60, 45, 30] = 0 := by kernel_rfl
theorem insV5 : insV 100 10 30 [20, 15, 60, 45, 30] = [2, 4] := by kernel_rfl
theorem duty0 (w : World) : Calls Try.prog 56 #[] w fun e w' => e = .returned (.agg #[.int .i64 600, .int .i64 500, .int .i64 2000, .int .i64 1000]) ∧ Ext w w' := by
 refine enterQ (c := cx w 2) Try.func56 rfl rfl rfl rfl ?_
 repeat' (first | ((with_reducible apply oq_build); (iterate 3 exact rfl)) | (with_reducible apply tl_nil) | ((with_reducible apply u_q); (iterate 4 exact rfl)) | ((with_reducible apply u_s0); exact rfl; exact rfl) | ((with_reducible apply u_s); (iterate 3 exact rfl)) | ((with_reducible apply os_x); exact rfl) | ((with_reducible apply os_storeAgg); (iterate 5 exact rfl)) | ((with_reducible apply ox_alloc); exact rfl; intro _) | (apply Rd.own; (repeat (first | exact P0 | apply P1)); exact rfl; done) | (with_reducible apply t_seq) | (apply t_region; kernel_rfl) | (with_reducible apply t_ret) | with_reducible apply q_thenN | exact P0 | exact Rdn.zero | apply Rdn.succ | ((with_reducible apply Norm.nil); exact rfl) | ((with_reducible apply Norm.cons); exact rfl) | (with_reducible apply end_ret) | exact rvs_nil | (with_reducible apply rvs_cons) | ((with_reducible apply rv_cellAgg); exact rfl; exact rfl) | exact Nat.le_of_ble_eq_true rfl)
 all_goals rfl
theorem care0 (w : World) : Calls Try.prog 58 #[] w fun e w' => e = .returned (.agg #[.int .i64 100, .int .i64 10, .int .i64 30]) ∧ Ext w w' := by
 refine enterQ (c := cx w 2) Try.func58 rfl rfl rfl rfl ?_
 repeat' (first | ((with_reducible apply oq_build); (iterate 3 exact rfl)) | (with_reducible apply tl_nil) | ((with_reducible apply u_q); (iterate 4 exact rfl)) | ((with_reducible apply u_s0); exact rfl; exact rfl) | ((with_reducible apply u_s); (iterate 3 exact rfl)) | ((with_reducible apply os_x); exact rfl) | ((with_reducible apply os_storeAgg); (iterate 5 exact rfl)) | ((with_reducible apply ox_alloc); exact rfl; intro _) | (apply Rd.own; (repeat (first | exact P0 | apply P1)); exact rfl; done) | (with_reducible apply t_seq) | (apply t_region; kernel_rfl) | (with_reducible apply t_ret) | with_reducible apply q_thenN | exact P0 | exact Rdn.zero | apply Rdn.succ | ((with_reducible apply Norm.nil); exact rfl) | ((with_reducible apply Norm.cons); exact rfl) | (with_reducible apply end_ret) | exact rvs_nil | (with_reducible apply rvs_cons) | ((with_reducible apply rv_cellAgg); exact rfl; exact rfl) | exact Nat.le_of_ble_eq_true rfl)
 all_goals rfl
theorem office0 (w : World) : Calls Try.prog 60 #[] w fun e w' => e = .returned (.agg ⟨offCells off0 none 0 none 0⟩) ∧ Ext w w' := by
 refine enterQ (c := cx w 2) Try.func60 rfl rfl rfl rfl ?_
 repeat' (first | ((with_reducible apply oq_build); (iterate 3 exact rfl)) | (with_reducible apply tl_nil) | ((with_reducible apply u_q); (iterate 4 exact rfl)) | ((with_reducible apply u_s0); exact rfl; exact rfl) | ((with_reducible apply u_s); (iterate 3 exact rfl)) | ((with_reducible apply os_x); exact rfl) | ((with_reducible apply os_storeAgg); (iterate 5 exact rfl)) | ((with_reducible apply ox_alloc); exact rfl; intro _) | (apply Rd.own; (repeat (first | exact P0 | apply P1)); exact rfl; done) | (with_reducible apply t_seq) | (apply t_region; kernel_rfl) | (with_reducible apply t_ret) | with_reducible apply q_thenN | exact P0 | exact Rdn.zero | apply Rdn.succ | ((with_reducible apply Norm.nil); exact rfl) | ((with_reducible apply Norm.cons); exact rfl) | (with_reducible apply end_ret) | exact rvs_nil | (with_reducible apply rvs_cons) | ((with_reducible apply rv_cellAgg); exact rfl; exact rfl) | exact Nat.le_of_ble_eq_true rfl)
 all_goals rfl
def ros0V (v : Value) (H : Hp) : Prop := ∃ b, v = .slice (some ⟨b, 0, none⟩) 3 3 ∧ H = [(b, roC, some (101, 3, 3))]
theorem ros0_T (w : World) : Calls Try.prog 57 #[] w fun e w' => ∃ v H', e = .returned v ∧ ros0V v H' ∧ Has w ⟨[], []⟩ H' w' := by
 refine enterF (c := cx w 5) Try.func57 rfl rfl rfl rfl ?_
 repeat' (first | (apply oq_fn; exact rfl; try first | exact trivial | (and_intros <;> omega)) | ((with_reducible apply oq_build); (iterate 3 exact rfl)) | (with_reducible apply tl_nil) | ((with_reducible apply u_q); (iterate 4 exact rfl)) | ((with_reducible apply u_s); (iterate 3 exact rfl)) | ((with_reducible apply os_x); exact rfl) | ((with_reducible apply ox_buildSlice); (iterate 4 exact rfl)) | (with_reducible apply t_seq) | (apply t_region; kernel_rfl) | (with_reducible apply t_ret) | with_reducible apply q_thenN | ((with_reducible apply Norm.nil); exact rfl) | ((with_reducible apply Norm.cons); exact rfl) | (with_reducible apply end_ret) | exact rvs_nil | (with_reducible apply rvs_cons) | ((with_reducible apply rv_tmp); exact rfl) | exact (rfl : (_ : Bool) = true) | (intro _; with_reducible apply tl_id))
 all_goals exact ⟨_, ⟨_, rfl, rfl⟩, HpSub.refl _⟩
def fli0V (v : Value) (H : Hp) : Prop := ∃ b, v = .slice (some ⟨b, 0, none⟩) 5 5 ∧ H = [(b, [.int .i64 20, .int .i64 15, .int .i64 60, .int .i64 45, .int .i64 30], some (3, 1, 5))]
theorem fli0_T (w : World) : Calls Try.prog 59 #[] w fun e w' => ∃ v H', e = .returned v ∧ fli0V v H' ∧ Has w ⟨[], []⟩ H' w' := by
 refine enterF (c := cx w 2) Try.func59 rfl rfl rfl rfl ?_
 repeat' (first | (apply oq_fn; exact rfl; try first | exact trivial | (and_intros <;> omega)) | (with_reducible apply tl_nil) | ((with_reducible apply u_q); (iterate 4 exact rfl)) | ((with_reducible apply u_s); (iterate 3 exact rfl)) | ((with_reducible apply os_x); exact rfl) | ((with_reducible apply ox_buildSlice1); (iterate 6 exact rfl); intro _) | (with_reducible apply t_seq) | (apply t_region; kernel_rfl) | (with_reducible apply t_ret) | with_reducible apply q_thenN | (with_reducible apply end_ret) | exact rvs_nil | (with_reducible apply rvs_cons) | ((with_reducible apply rv_tmp); exact rfl))
 all_goals exact ⟨_, ⟨_, rfl, rfl⟩, HpSub.refl _⟩
def dealC : List Value := [.int .u8 1, .int .i64 0, .int .i64 2, .int .i64 400, .int .i64 100, .int .u8 2, .int .i64 0, .int .i64 0, .int .i64 0, .int .i64 0, .int .u8 2, .int .i64 0, .int .i64 0, .int .i64 0, .int .i64 0, .int .u8 2, .int .i64 0, .int .i64 0, .int .i64 0, .int .i64 0, .int .u8 3, .int .i64 0, .int .i64 0, .int .i64 0, .int .i64 0, .int .u8 6, .int .i64 50, .int .i64 0, .int .i64 0, .int .i64 0, .int .u8 3, .int .i64 1, .int .i64 0, .int .i64 0, .int .i64 0, .int .u8 6, .int .i64 50, .int .i64 0, .int .i64 0, .int .i64 0, .int .u8 4, .int .i64 0, .int .i64 0, .int .i64 0, .int .i64 0]
def dea0V (v : Value) (H : Hp) : Prop := ∃ b, v = .slice (some ⟨b, 0, none⟩) 9 9 ∧ H = [(b, dealC, some (63, 5, 9))]
theorem dea0_T (w : World) : Calls Try.prog 61 #[] w fun e w' => ∃ v H', e = .returned v ∧ dea0V v H' ∧ Has w ⟨[], []⟩ H' w' := by
 refine enterF (c := cx w 11) Try.func61 rfl rfl rfl rfl ?_
 repeat' (first | (apply oq_fn; exact rfl; try first | exact trivial | (and_intros <;> omega)) | ((with_reducible apply oq_build); (iterate 3 exact rfl)) | (with_reducible apply tl_nil) | ((with_reducible apply u_q); (iterate 4 exact rfl)) | ((with_reducible apply u_s); (iterate 3 exact rfl)) | ((with_reducible apply os_x); exact rfl) | ((with_reducible apply ox_buildSlice); (iterate 4 exact rfl)) | (with_reducible apply t_seq) | (apply t_region; kernel_rfl) | (with_reducible apply t_ret) | with_reducible apply q_thenN | ((with_reducible apply Norm.nil); exact rfl) | ((with_reducible apply Norm.cons); exact rfl) | (with_reducible apply end_ret) | exact rvs_nil | (with_reducible apply rvs_cons) | ((with_reducible apply rv_tmp); exact rfl) | exact (rfl : (_ : Bool) = true) | (intro _; with_reducible apply tl_id))
 all_goals exact ⟨_, ⟨_, rfl, rfl⟩, HpSub.refl _⟩
section
variable {w : World} {N : Nat} {F : Fr} {H : Hp} {M : List Nat} {d : Option Tmp} {ty t' : TypeId} {pos : String} {af : Array Edge} {g : Option (Nat × Bool)} {x y : Operand} {a b e a' b' e' : Int}
theorem eq_ti {d : Nat} : (Op.equalIn (d + 2) 99 (.agg ⟨[.int .i64 a, .int .i64 b, .int .i64 e]⟩) (.agg ⟨[.int .i64 a', .int .i64 b', .int .i64 e']⟩)).run Try.prog w = .ok (decide (a = a') && (decide (b = b') && (decide (e = e') && true))) w := by
 rw [run_equalIn_struct w (d + 1) 99 _ _ (by kernel_rfl) (by kernel_rfl)]
 simp only [Program.fieldsOf, Try.underlying99]
 exact eqF_int rfl rfl rfl rfl rfl (eqF_int rfl rfl rfl rfl rfl (eqF_int rfl rfl rfl rfl rfl eqF_nil))
theorem oq_ne99F (hx : ev F x = some (.agg ⟨[.int .i64 a, .int .i64 b, .int .i64 e]⟩)) (hy : ev F y = some (.agg ⟨[.int .i64 a, .int .i64 b, .int .i64 e]⟩)) : OQ (cxM M w N) ⟨d, .binOp .neq 99 x y t', ty, pos, af, g⟩ F H (.bool false) :=
 (oq_neS (q := true) (by kernel_rfl) (fun w => by rw [eq_ti (d := 9998)]; simp) hx hy).as (by simp)
end
theorem sameTi (g cp b cp2 : Nat) (w : World) (c0 : w.cell? ⟨g, 0, none⟩ = some (.int .i64 3)) (c1 : w.cell? ⟨g, 1, none⟩ = some (.int .i64 0)) (c2 : w.cell? ⟨g, 2, none⟩ = some (.int .i64 0)) (c3 : w.cell? ⟨g, 3, none⟩ = some (.int .i64 2)) (c4 : w.cell? ⟨g, 4, none⟩ = some (.int .i64 0)) (c5 : w.cell? ⟨g, 5, none⟩ = some (.int .i64 1000)) (d0 : w.cell? ⟨b, 0, none⟩ = some (.int .i64 3)) (d1 : w.cell? ⟨b, 1, none⟩ = some (.int .i64 0)) (d2 : w.cell? ⟨b, 2, none⟩ = some (.int .i64 0)) (d3 : w.cell? ⟨b, 3, none⟩ = some (.int .i64 2)) (d4 : w.cell? ⟨b, 4, none⟩ = some (.int .i64 0)) (d5 : w.cell? ⟨b, 5, none⟩ = some (.int .i64 1000)) : Calls Try.prog 48 #[.slice (some ⟨g, 0, none⟩) 2 cp, .slice (some ⟨b, 0, none⟩) 2 cp2] w fun e w' => e = .returned (.bool true) ∧ Ext w w' := by
 refine enterQ (c := cx w 26) Try.func48 rfl rfl rfl rfl ?_
 repeat' (first | ((with_reducible apply oq_lssT); exact rfl; exact rfl; omega) | ((with_reducible apply oq_lssF); exact rfl; exact rfl; omega) | ((with_reducible apply oq_neqF); exact rfl; exact rfl; omega) | ((with_reducible apply oq_ne99F); exact rfl; exact rfl) | (apply oq_fn; exact rfl; try first | exact trivial | (and_intros <;> omega)) | ((with_reducible apply oq_loadAgg); exact rfl; exact rfl) | (with_reducible apply tl_nil) | ((with_reducible apply u_q); (iterate 4 exact rfl)) | (with_reducible apply v_nil) | ((with_reducible apply v_q); (iterate 3 exact rfl)) | (apply Rd.old; (first | (with_reducible assumption) | exact c0 | exact c1 | exact c2 | exact c3 | exact c4 | exact c5 | exact c6 | exact c7 | exact c8 | exact d0 | exact d1 | exact d2 | exact d3 | exact d4 | exact d5); first | exact List.not_mem_nil | exact m0 | exact m1 | exact m2 | exact m3 | exact m4 | exact m5 | exact m6 | exact m7 | exact m8 | exact m9) | (with_reducible apply t_seq) | (apply t_region; kernel_rfl) | (apply t_drawn; kernel_rfl; decide +kernel; try simp only [List.append_eq, List.cons_append, List.nil_append]) | ((with_reducible apply t_condT); exact rfl) | ((with_reducible apply t_condF); exact rfl) | (with_reducible apply t_ret) | (with_reducible apply t_skip) | (with_reducible apply t_exit) | (with_reducible apply t_block) | (apply t_rounds 8) | with_reducible apply q_thenN | with_reducible apply q_blockN | with_reducible apply q_thenE | ((with_reducible apply q_blockE); exact rfl) | exact Rdn.zero | apply Rdn.succ | (with_reducible apply end_ret) | exact rvs_nil | (with_reducible apply rvs_cons) | ((with_reducible apply rv_tmp); exact rfl) | ((with_reducible apply tr_id); apply tr_succ))
 all_goals rfl
theorem nilF (w : World) : RdS w 4 none off0.fl.length (off0.fl.map depCells) := ⟨rfl, fun h => absurd h (by decide)⟩
theorem nilB (w : World) : RdS w 3 none off0.bk.length (off0.bk.map bkCells) := ⟨rfl, fun h => absurd h (by decide)⟩
theorem ins5_T (A : Option Addr) (c : Nat) (w : World) (hr : RdS w 1 A 5 (([20, 15, 60, 45, 30] : List Int).map inCells)) : Calls Try.prog 28 #[.agg #[.int .i64 100, .int .i64 10, .int .i64 30], .slice A 5 c] w fun e w' => ∃ v H', e = .returned v ∧ InsY [2, 4] v H' ∧ Has w ⟨[], []⟩ H' w' :=
 (inspect_T 100 10 30 A 5 c [20, 15, 60, 45, 30] w hr (by decide)).mono fun e w' ⟨v, H', h1, h2, h3⟩ => ⟨v, H', h1, by rw [insV5] at h2; exact insY insE5 h2, h3⟩
theorem play9_T (L : Option Addr) (cl : Nat) (w : World) (hL : RdS w 5 L 9 (dl9.map dealCells)) : Calls Try.prog 34 #[.agg ⟨offCells off0 none 0 none 0⟩, .slice L 9 cl] w fun e w' => ∃ v H', e = .returned v ∧ AnyP (off9, 0, 0) v H' ∧ Has w ⟨[], []⟩ H' w' := by
 rw [← play9]
 exact play_T off0 none 0 none 0 w (nilF w) (nilB w) (fun _ => ⟨rfl, rfl⟩) (fun _ => ⟨rfl, rfl⟩) (fun d hd => by cases hd) (by decide) (by decide) dl9 L 9 cl hL (by decide) (by decide)
theorem alive_calls (w : World) : Calls Try.prog 53 #[] w fun e w' => e = .returned (.bool true) ∧ Ext w w' := by
 refine enterQ (c := cx w 82) Try.func53 rfl rfl rfl rfl ?_
 refine t_cut (ι := Unit) (fun _ => []) (fun _ => []) (fun _ => True) ?_ ?_
 ·repeat' (first | (apply oq_fn; exact rfl; try first | exact trivial | (and_intros <;> omega)) | (with_reducible apply tl_nil) | ((with_reducible apply u_q); (iterate 4 exact rfl)) | (apply t_region; kernel_rfl))
  all_goals exact ⟨rfl, (), trivial, by (repeat (first | exact FrSub.nil | (apply FrSub.cons; exact rfl))), by (repeat (first | exact HpSub.refl _ | (apply HpSub.consE; (repeat (first | exact P0 | apply P1)); exact rfl) | exact HpSub.nil))⟩
 rintro ⟨⟩ -
 refine t_cut (ι := Nat × Nat) (fun z => [(1, .slice (some ⟨z.1, 0, none⟩) 2 z.2), (2, .int .i64 0)]) (fun z => (z.1, tiC 2, some (99, 3, z.2)) :: []) (fun _ => True) ?_ ?_
 ·repeat' (first | (apply oq_fn; exact rfl; try first | exact trivial | (and_intros <;> omega)) | ((with_reducible apply oq_call (k := 56) (hc := Try.call56)); exact rfl; exact rfl; exact fun D w1 hw1 => duty0 w1) | (with_reducible apply tl_nil) | ((with_reducible apply u_s); (iterate 3 exact rfl); (with_reducible apply os_callF (PV := ros0V) (k := 57) (hc := Try.call57)); exact rfl; exact rfl; exact fun D w1 hw1 => ros0_T w1; rintro v H' ⟨br, rfl, rfl⟩; (simp only [List.cons_append, List.nil_append])) | ((with_reducible apply u_s); (iterate 3 exact rfl); (with_reducible apply os_callF (PV := fun v H => ∃ u, TiV u H ∧ v = .tuple #[u, .int .i64 0]) (k := 42) (hc := Try.call42)); exact rfl; exact rfl; exact fun D w1 hw1 => tiredT_T _ _ w1 (clH_rows (l := roV) (f := shCells) (x := some (br, 3)) (hw1.sub (show HpSub _ (clH 101 3 (roV.map shCells).flatten (some (br, 3))) from (by simp only [clH_some]; exact HpSub.cons P0 HpSub.nil))) (fun _ => rfl) rfl (fun h => by cases h)) (fun h => by cases h); rintro v H' ⟨u, ⟨g, cp, rfl, rfl⟩, rfl⟩; (simp only [List.cons_append, List.nil_append])) | ((with_reducible apply u_q); (iterate 4 exact rfl)) | (apply t_region; kernel_rfl))
  all_goals exact ⟨by trivial, (g, cp), trivial, by (repeat (first | exact FrSub.nil | (apply FrSub.cons; exact rfl))), by (repeat (first | exact HpSub.refl _ | (apply HpSub.consE; (repeat (first | exact P0 | apply P1)); exact rfl) | exact HpSub.nil))⟩
 rintro ⟨g, cp⟩ -
 simp only
 refine t_cut (ι := Nat × Nat) (fun z => [(1, .slice (some ⟨g, 0, none⟩) 2 cp), (2, .int .i64 0), (3, .slice (some ⟨z.1, 0, none⟩) 2 z.2), (4, .int .i64 0)]) (fun z => (z.1, [.int .i64 2, .int .i64 4], some (3, 1, z.2)) :: (g, tiC 2, some (99, 3, cp)) :: []) (fun _ => True) ?_ ?_
 ·repeat' (first | (apply oq_fn; exact rfl; try first | exact trivial | (and_intros <;> omega)) | ((with_reducible apply oq_call (k := 58) (hc := Try.call58)); exact rfl; exact rfl; exact fun D w1 hw1 => care0 w1) | (with_reducible apply tl_nil) | ((with_reducible apply u_s); (iterate 3 exact rfl); (with_reducible apply os_callF (PV := fli0V) (k := 59) (hc := Try.call59)); exact rfl; exact rfl; exact fun D w1 hw1 => fli0_T w1; rintro v H' ⟨bf, rfl, rfl⟩; (simp only [List.cons_append, List.nil_append])) | ((with_reducible apply u_s); (iterate 3 exact rfl); (with_reducible apply os_callF (PV := InsY [2, 4]) (k := 28) (hc := Try.call28)); exact rfl; exact rfl; exact fun D w1 hw1 => ins5_T _ _ w1 (in_own (l := [20, 15, 60, 45, 30]) rfl hw1 P0); rintro v H' ⟨o, ho, rfl, rfl⟩; (rcases o with _ | ⟨gi, ci⟩); (exact absurd (ho rfl) (by decide)); (simp only [planS_some, planH_some, List.cons_append, List.nil_append])) | ((with_reducible apply u_q); (iterate 4 exact rfl)) | (apply t_region; kernel_rfl))
  all_goals exact ⟨by trivial, (gi, ci), trivial, by (repeat (first | exact FrSub.nil | (apply FrSub.cons; exact rfl))), by (repeat (first | exact HpSub.refl _ | (apply HpSub.consE; (repeat (first | exact P0 | apply P1)); exact rfl) | exact HpSub.nil))⟩
 rintro ⟨gi, ci⟩ -
 simp only
 refine t_cut (ι := Nat × Nat × Nat × Nat × Nat) (fun z => [(1, .slice (some ⟨g, 0, none⟩) 2 cp), (2, .int .i64 0), (3, .slice (some ⟨gi, 0, none⟩) 2 ci), (4, .int .i64 0), (5, .pointer (some ⟨z.1, 0, none⟩)), (7, .int .i64 0)]) (fun z => (z.1, offCells off9 (some ⟨z.2.1, 0, none⟩) z.2.2.1 (some ⟨z.2.2.2.1, 0, none⟩) z.2.2.2.2, some (25, 7, 1)) :: (z.2.1, (off9.fl.map depCells).flatten, some (106, 4, z.2.2.1)) :: (z.2.2.2.1, (off9.bk.map bkCells).flatten, some (71, 3, z.2.2.2.2)) :: (gi, [.int .i64 2, .int .i64 4], some (3, 1, ci)) :: (g, tiC 2, some (99, 3, cp)) :: []) (fun _ => True) ?_ ?_
 ·repeat' (first | (apply oq_fn; exact rfl; try first | exact trivial | (and_intros <;> omega)) | ((with_reducible apply oq_call (k := 60) (hc := Try.call60)); exact rfl; exact rfl; exact fun D w1 hw1 => office0 w1) | (with_reducible apply tl_nil) | ((with_reducible apply u_s); (iterate 3 exact rfl); (with_reducible apply os_callF (PV := dea0V) (k := 61) (hc := Try.call61)); exact rfl; exact rfl; exact fun D w1 hw1 => dea0_T w1; rintro v H' ⟨bd, rfl, rfl⟩; (simp only [List.cons_append, List.nil_append])) | ((with_reducible apply u_s); (iterate 3 exact rfl); (with_reducible apply os_callF (PV := AnyP (off9, 0, 0)) (k := 34) (hc := Try.call34)); exact rfl; exact rfl; exact fun D w1 hw1 => play9_T _ _ w1 (clH_rows (l := dl9) (f := dealCells) (x := some (bd, 9)) (hw1.sub (show HpSub _ (clH 63 5 (dl9.map dealCells).flatten (some (bd, 9))) from (by simp only [clH_some]; exact HpSub.consE P0 (by rfl) HpSub.nil))) (fun _ => rfl) rfl (fun h => by cases h)); rintro v H' ⟨x, y, hx, hy, rfl, rfl⟩; (rcases x with _ | ⟨gF, cF⟩); (exact absurd (hx rfl) (by decide)); (rcases y with _ | ⟨gB, cB⟩); (exact absurd (hy rfl) (by decide)); (simp only [flH, bkH, clH_some, clA_some, clC_some, List.cons_append, List.nil_append])) | ((with_reducible apply u_q); (iterate 4 exact rfl)) | ((with_reducible apply u_s0); exact rfl; exact rfl) | ((with_reducible apply u_s); (iterate 3 exact rfl)) | ((with_reducible apply os_x); exact rfl) | ((with_reducible apply os_storeAgg); (iterate 5 exact rfl)) | ((with_reducible apply ox_alloc); exact rfl; intro _) | (apply t_region; kernel_rfl) | exact P0 | ((with_reducible apply Norm.nil); exact rfl) | ((with_reducible apply Norm.cons); exact rfl) | exact Nat.le_of_ble_eq_true rfl)
  all_goals exact ⟨by trivial, (_, gF, cF, gB, cB), trivial, by (repeat (first | exact FrSub.nil | (apply FrSub.cons; exact rfl))), by (repeat (first | exact HpSub.refl _ | (apply HpSub.consE; (repeat (first | exact P0 | apply P1)); exact rfl) | exact HpSub.nil))⟩
 rintro ⟨b5, gF, cF, gB, cB⟩ -
 simp only
 repeat' (first | ((with_reducible apply oq_eqlT); (iterate 3 exact rfl)) | (apply oq_fn; exact rfl; try first | exact trivial | (and_intros <;> omega)) | ((with_reducible apply oq_loadAgg); exact rfl; exact rfl) | ((with_reducible apply oq_call (k := 22) (hc := Try.call22)); exact rfl; exact rfl; exact fun D w1 hw1 => (purse9 ▸ opurse_T off9 (some ⟨gF, 0, none⟩) cF (some ⟨gB, 0, none⟩) cB w1 (clH_rows (l := off9.fl) (f := depCells) (x := some (gF, cF)) (hw1.sub (show HpSub _ (clH 106 4 (off9.fl.map depCells).flatten (some (gF, cF))) from (by simp only [clH_some]; (repeat (first | exact HpSub.refl _ | (apply HpSub.consE; (repeat (first | exact P0 | apply P1)); exact rfl) | apply HpSub.skipX | apply HpSub.skipX | exact HpSub.nil))))) (fun _ => rfl) rfl (fun h => by cases h)) (clH_rows (l := off9.bk) (f := bkCells) (x := some (gB, cB)) (hw1.sub (show HpSub _ (clH 71 3 (off9.bk.map bkCells).flatten (some (gB, cB))) from (by simp only [clH_some]; (repeat (first | exact HpSub.refl _ | (apply HpSub.consE; (repeat (first | exact P0 | apply P1)); exact rfl) | apply HpSub.skipX | apply HpSub.skipX | exact HpSub.nil))))) (fun _ => rfl) rfl (fun h => by cases h)) (fun h => by cases h) (fun h => by cases h) (by decide) (by decide) (by decide))) | ((with_reducible apply oq_call (k := 48) (hc := Try.call48)); exact rfl; exact rfl; exact fun D w1 hw1 => sameTi _ _ _ _ w1 (hw1.cellAt (by (repeat (first | exact P0 | apply P1))) rfl) (hw1.cellAt (by (repeat (first | exact P0 | apply P1))) rfl) (hw1.cellAt (by (repeat (first | exact P0 | apply P1))) rfl) (hw1.cellAt (by (repeat (first | exact P0 | apply P1))) rfl) (hw1.cellAt (by (repeat (first | exact P0 | apply P1))) rfl) (hw1.cellAt (by (repeat (first | exact P0 | apply P1))) rfl) (hw1.cellAt (by (repeat (first | exact P0 | apply P1))) rfl) (hw1.cellAt (by (repeat (first | exact P0 | apply P1))) rfl) (hw1.cellAt (by (repeat (first | exact P0 | apply P1))) rfl) (hw1.cellAt (by (repeat (first | exact P0 | apply P1))) rfl) (hw1.cellAt (by (repeat (first | exact P0 | apply P1))) rfl) (hw1.cellAt (by (repeat (first | exact P0 | apply P1))) rfl)) | ((with_reducible apply oq_call (k := 32) (hc := Try.call32)); exact rfl; exact rfl; exact fun D w1 hw1 => sameInts_calls _ _ 2 _ 2 _ [2, 4] [2, 4] true (by decide) w1 (in_own (l := [2, 4]) rfl hw1 (by (repeat (first | exact P0 | apply P1)))) (in_own (l := [2, 4]) rfl hw1 (by (repeat (first | exact P0 | apply P1)))) (by decide) (by decide)) | ((with_reducible apply oq_build); (iterate 3 exact rfl)) | (with_reducible apply tl_nil) | ((with_reducible apply u_q); (iterate 4 exact rfl)) | ((with_reducible apply u_s); (iterate 3 exact rfl)) | ((with_reducible apply os_x); exact rfl) | ((with_reducible apply ox_buildSlice1); (iterate 6 exact rfl); intro _) | ((with_reducible apply ox_buildSlice); (iterate 4 exact rfl)) | (apply Rd.own; (repeat (first | exact P0 | apply P1)); exact rfl; done) | (with_reducible apply t_seq) | (apply t_region; kernel_rfl) | (with_reducible apply t_ret) | with_reducible apply q_thenN | exact Rdn.zero | apply Rdn.succ | ((with_reducible apply Norm.nil); exact rfl) | ((with_reducible apply Norm.cons); exact rfl) | (with_reducible apply end_ret) | exact rvs_nil | (with_reducible apply rvs_cons) | ((with_reducible apply rv_tmp); exact rfl) | exact (rfl : (_ : Bool) = true) | (intro _; with_reducible apply tl_id))
 all_goals rfl
end Go.Proofs.Ytmlmgipngbndgaa
namespace Go.Proofs.Ytmlmgipngbndgaa
open Go.RowKit
attribute [local irreducible] OQ OS OX Rd T TL GX GL AL AI RV wpG SAny Calls
def chkE (o : Off) : Int := if officeB o = true then 0 else 84
theorem check_calls (o : Off) (A : Option Addr) (cf : Nat) (B : Option Addr) (cb : Nat) (w : World) (hA : RdS w 4 A o.fl.length (o.fl.map depCells)) (hB : RdS w 3 B o.bk.length (o.bk.map bkCells)) (hnA : A = none → o.fl.length = 0 ∧ cf = 0) (hnB : B = none → o.bk.length = 0 ∧ cb = 0) (hu : ∀ d ∈ o.fl, 0 ≤ d.state) (hn : o.fl.length ≤ 1000000) (hn2 : o.bk.length ≤ 1000000) : Calls Try.prog 39 #[.agg ⟨offCells o A cf B cb⟩] w fun e w' => e = .returned (.int .i64 (chkE o)) ∧ Ext w w' := by
 unfold chkE
 cases hv : officeB o with
 | false =>
  refine enterQ (c := cx w 12) Try.func39 rfl rfl rfl rfl ?_
  repeat' (first | (apply oq_fn; exact rfl; try first | exact trivial | (and_intros <;> omega)) | ((with_reducible apply oq_loadAgg); exact rfl; exact rfl) | (with_reducible apply tl_nil) | ((with_reducible apply u_s); (iterate 3 exact rfl); (with_reducible apply os_callF (PV := OpenN) (k := 62) (hc := Try.call62)); exact rfl; exact rfl; exact fun D w1 hw1 => openN_T o A cf B cb w1 (hA.ext hw1.ext.ext) (hB.ext hw1.ext.ext) hnA hnB hu hn hn2 hv; rintro v H' ⟨p, rfl, rfl⟩; (try simp only [List.cons_append, List.nil_append])) | ((with_reducible apply u_q); (iterate 4 exact rfl)) | ((with_reducible apply u_s); (iterate 3 exact rfl)) | ((with_reducible apply os_x); exact rfl) | ((with_reducible apply ox_boxAgg); exact rfl; intro _) | (apply Rd.own; (repeat (first | exact P0 | apply P1)); exact rfl; done) | (with_reducible apply t_seq) | (apply t_region; kernel_rfl) | ((with_reducible apply t_condT); exact rfl) | (with_reducible apply t_ret) | with_reducible apply q_thenN | with_reducible apply q_thenR | exact Rdn.zero | apply Rdn.succ | (with_reducible apply end_ret) | exact rvs_nil | (with_reducible apply rvs_cons) | ((with_reducible apply rv_tmp); exact rfl))
  all_goals rfl
 | true =>
  refine enterQ (c := cx w 12) Try.func39 rfl rfl rfl rfl ?_
  repeat' (first | (apply oq_fn; exact rfl; try first | exact trivial | (and_intros <;> omega)) | ((with_reducible apply oq_loadAgg); exact rfl; exact rfl) | (with_reducible apply tl_nil) | ((with_reducible apply u_s); (iterate 3 exact rfl); (with_reducible apply os_callF (PV := OpenY o) (k := 62) (hc := Try.call62)); exact rfl; exact rfl; exact fun D w1 hw1 => openY_T o A cf B cb w1 (hA.ext hw1.ext.ext) (hB.ext hw1.ext.ext) hnA hnB hu hn hn2 hv; rintro v H' ⟨bd, x, y, hxn, hyn, rfl, rfl⟩; (try simp only [deskH, List.cons_append, List.nil_append, List.append_assoc])) | ((with_reducible apply u_q); (iterate 4 exact rfl)) | ((with_reducible apply u_s); (iterate 3 exact rfl)) | ((with_reducible apply os_x); exact rfl) | ((with_reducible apply ox_boxAgg); exact rfl; intro _) | (apply Rd.own; (repeat (first | exact P0 | apply P1)); exact rfl; done) | (with_reducible apply t_seq) | (apply t_region; kernel_rfl) | ((with_reducible apply t_condF); exact rfl) | (with_reducible apply t_ret) | (with_reducible apply t_skip) | with_reducible apply q_thenN | exact Rdn.zero | apply Rdn.succ | (with_reducible apply end_ret) | exact rvs_nil | (with_reducible apply rvs_cons) | ((with_reducible apply rv_tmp); exact rfl))
  all_goals rfl
theorem plAt_no {n : Nat} {pl : List Int} {k : Nat} {x : Int} (h : plAt n pl k = false) (hx : pl[k]? = some x) : x < 0 ∨ n ≤ x ∨ (0 < k ∧ ∃ y, pl[k - 1]? = some y ∧ x ≤ y) := by
 unfold plAt at h
 rw [hx] at h
 simp only at h
 by_cases h1 : 0 ≤ x
 ·by_cases h2 : x < n
  ·simp only [h1, h2, decide_true, Bool.true_and, Bool.or_eq_false_iff, decide_eq_false_iff_not] at h
   refine .inr (.inr ⟨by omega, ?_⟩)
   cases hy : pl[k - 1]? with
   | none => rw [hy] at h; simp at h
   | some y =>
    rw [hy] at h
    simp only [decide_eq_false_iff_not] at h
    exact ⟨y, rfl, by omega⟩
  ·exact .inr (.inl (by omega))
 ·exact .inl (by omega)
theorem plAt_yes {n : Nat} {pl : List Int} {k : Nat} {x : Int} (h : plAt n pl k = true) (hx : pl[k]? = some x) : 0 ≤ x ∧ x < n ∧ (k = 0 ∨ ∀ y, pl[k - 1]? = some y → y < x) := by
 unfold plAt at h
 rw [hx] at h
 simp only [Bool.and_eq_true, decide_eq_true_eq, Bool.or_eq_true] at h
 refine ⟨h.1.1, h.1.2, ?_⟩
 rcases h.2 with h | h
 ·exact .inl h
 ·refine .inr fun y hy => ?_
  rw [hy] at h
  simpa using h
theorem late_calls (ev gr du : Int) (A : Option Addr) (n c : Nat) (fs : List Int) (A2 : Option Addr) (m c2 : Nat) (pl : List Int) (w : World) (hr : RdS w 1 A n (fs.map inCells)) (hn : n ≤ 1000000) (hr2 : RdS w 1 A2 m (pl.map inCells)) (hm : m ≤ 1000000) : Calls Try.prog 26 #[.agg #[.int .i64 ev, .int .i64 gr, .int .i64 du], .slice A n c, .slice A2 m c2] w fun e w' => e = .returned (.tuple #[.int .i64 (lateS ev gr du fs pl).1, .int .i64 (lateS ev gr du fs pl).2.1, .int .i64 (lateS ev gr du fs pl).2.2]) ∧ Ext w w' := by
 have hl := hr.len
 simp only [List.length_map] at hl
 have hl2 := hr2.len
 simp only [List.length_map] at hl2
 have HC := fun w1 (hx : Ext w w1) => checkFlights_calls ev gr du A n c fs w1 (hr.ext hx) hn
 by_cases hce : caredE ev gr du fs = 0
 ·rw [hce] at HC
  have hS : lateS ev gr du fs pl = if planB n pl then lateV ev gr du fs pl else (0, 0, 2) := by unfold lateS; rw [if_pos hce, hl]
  obtain ⟨e1', e2', g1', g2', d1', d2', _, hfs⟩ := cared_ok hce
  have HB : ∀ w1, Ext w w1 → True := fun _ _ => trivial
  refine enterQ (c := cx w 77) Try.func26 rfl rfl rfl rfl ?_
  repeat' (first | (apply oq_fn; exact rfl; try first | exact trivial | (and_intros <;> omega)) | ((with_reducible apply oq_loadAgg); exact rfl; exact rfl) | ((with_reducible apply oq_call (k := 71) (hc := Try.call71)); exact rfl; exact rfl; exact fun D w1 hw1 => HC w1 hw1.ext.ext) | (with_reducible apply tl_nil) | ((with_reducible apply u_q); (iterate 4 exact rfl)) | ((with_reducible apply u_s); (iterate 3 exact rfl)) | ((with_reducible apply os_x); exact rfl) | ((with_reducible apply ox_boxAgg); exact rfl; intro _) | (apply Rd.own; (repeat (first | exact P0 | apply P1)); exact rfl; done) | (with_reducible apply t_seq) | (apply t_region; kernel_rfl) | ((with_reducible apply t_condF); exact rfl) | (with_reducible apply t_skip) | (with_reducible apply t_block) | with_reducible apply q_thenN | exact Rdn.zero | apply Rdn.succ)
  apply t_loopK (ι := Nat) [1, 2, 3, 12, 13, 20, 21, 49, 50, 51, 52, 53, 54, 55, 56, 57, 58, 59, 60, 61, 62, 63, 64, 65, 66, 67, 68, 69, 70, 71, 72, 73, 74, 75, 76] (fun k => [(22, .int .i64 (k : Nat))]) (fun _ => []) (fun k => k ≤ m ∧ ∀ j, j < k → plAt n pl j = true) (fun k => m - k) (0)
  (repeat (first | exact KeepF.nil | (apply KeepF.cons; exact rfl) | apply KeepF.skip))
  (repeat (first | exact FrSub.nil | (apply FrSub.cons; exact rfl)))
  (repeat (first | exact HpSub.refl _ | (apply HpSub.consE; (repeat (first | exact P0 | apply P1)); exact rfl) | exact HpSub.nil))
  ·exact ⟨by omega, fun j hj => by omega⟩
  rintro k ⟨hk, hkp⟩
  try simp only [List.cons_append, List.nil_append]
  by_cases hlt : k < m
  ·cases k with
   | zero =>
    obtain ⟨b1, o1, x, rfl, _, hx, c0⟩ := in_read hr2 hlt
    cases hpx : plAt n pl 0 with
    | false =>
     have hv : x < 0 ∨ n ≤ x := by rcases plAt_no hpx hx with h | h | ⟨h, _⟩ <;> omega
     repeat' (first | (focus ((with_reducible apply oq_indexAddrN); (iterate 4 exact rfl); omega)) | (apply oq_fn; exact rfl; try first | exact trivial | (and_intros <;> omega)) | ((with_reducible apply oq_load); exact rfl; exact rfl) | (with_reducible apply tl_nil) | ((with_reducible apply u_q); (iterate 4 exact rfl)) | ((with_reducible apply u_skip); (iterate 3 exact rfl)) | ((with_reducible apply u_splitD); exact rfl; exact rfl; all_goals first | (intro hp; try (exfalso; omega)) | skip) | (apply Rd.old; (first | (with_reducible assumption) | exact c0 | exact c1 | exact c2 | exact c3 | exact c4 | exact c5 | exact c6 | exact c7 | exact c8 | exact d0 | exact d1 | exact d2 | exact d3 | exact d4 | exact d5); first | exact List.not_mem_nil | exact m0 | exact m1 | exact m2 | exact m3 | exact m4 | exact m5 | exact m6 | exact m7 | exact m8 | exact m9) | (with_reducible apply t_seq) | (apply t_region; kernel_rfl) | ((with_reducible apply t_condT); exact rfl) | ((with_reducible apply t_condD); exact rfl; all_goals first | (intro hp; try (exfalso; omega)) | skip) | (with_reducible apply t_ret) | (with_reducible apply t_skip) | (with_reducible apply t_block) | with_reducible apply q_thenN | with_reducible apply q_thenR | with_reducible apply q_blockR | (with_reducible apply end_ret) | exact rvs_nil | (with_reducible apply rvs_cons) | ((with_reducible apply rv_tmp); exact rfl))
     all_goals (rw [hS, planB_no (by omega) hpx]; rfl)
    | true =>
     have hv : 0 ≤ x ∧ x < n := ⟨(plAt_yes hpx hx).1, (plAt_yes hpx hx).2.1⟩
     repeat' (first | (focus ((with_reducible apply oq_indexAddrN); (iterate 4 exact rfl); omega)) | (apply oq_fn; exact rfl; try first | exact trivial | (and_intros <;> omega)) | ((with_reducible apply oq_load); exact rfl; exact rfl) | (with_reducible apply tl_nil) | ((with_reducible apply u_q); (iterate 4 exact rfl)) | ((with_reducible apply u_skip); (iterate 3 exact rfl)) | ((with_reducible apply u_splitD); exact rfl; exact rfl; all_goals first | (intro hp; try (exfalso; omega)) | skip) | (apply Rd.old; (first | (with_reducible assumption) | exact c0 | exact c1 | exact c2 | exact c3 | exact c4 | exact c5 | exact c6 | exact c7 | exact c8 | exact d0 | exact d1 | exact d2 | exact d3 | exact d4 | exact d5); first | exact List.not_mem_nil | exact m0 | exact m1 | exact m2 | exact m3 | exact m4 | exact m5 | exact m6 | exact m7 | exact m8 | exact m9) | (with_reducible apply t_seq) | (apply t_region; kernel_rfl) | ((with_reducible apply t_condF); exact rfl) | ((with_reducible apply t_condD); exact rfl; all_goals first | (intro hp; try (exfalso; omega)) | skip) | (with_reducible apply t_skip) | (with_reducible apply t_block) | with_reducible apply q_thenN | with_reducible apply q_blockN)
     all_goals (refine ⟨0 + 1, ⟨by omega, fun y hy => ?_⟩, by omega, ?_, ?_⟩)
     ·rcases (by omega : y < 0 ∨ y = 0) with h | rfl
      ·exact hkp y h
      ·exact hpx
     ·try simp only [List.cons_append, List.nil_append]
      (repeat (first | exact FrSub.nil | (apply FrSub.cons; exact rfl)))
     ·try simp only [List.cons_append, List.nil_append]
      (repeat (first | exact HpSub.refl _ | (apply HpSub.consE; (repeat (first | exact P0 | apply P1)); exact rfl) | exact HpSub.nil))
   | succ k =>
    obtain ⟨b1, o1, x, rfl, _, hx, c0⟩ := in_read hr2 hlt
    obtain ⟨b1', o1', y, hA, _, hy, c1⟩ := in_read hr2 (show k < m by omega)
    obtain ⟨rfl, rfl⟩ : b1 = b1' ∧ o1 = o1' := by simpa using hA
    clear hA
    cases hpx : plAt n pl (k + 1) with
    | false =>
     have hv : x < 0 ∨ n ≤ x ∨ x ≤ y := by
      rcases plAt_no hpx hx with h | h | ⟨_, y', h, h2⟩
      ·exact .inl h
      ·exact .inr (.inl h)
      ·rw [Nat.add_sub_cancel, hy] at h; cases h; exact .inr (.inr h2)
     repeat' (first | (focus ((with_reducible apply oq_indexAddrN); (iterate 4 exact rfl); omega)) | ((with_reducible apply oq_subE (k := (k : Int))); exact rfl; exact rfl; omega) | (apply oq_fn; exact rfl; try first | exact trivial | (and_intros <;> omega)) | ((with_reducible apply oq_load); exact rfl; exact rfl) | (with_reducible apply tl_nil) | ((with_reducible apply u_q); (iterate 4 exact rfl)) | ((with_reducible apply u_skip); (iterate 3 exact rfl)) | ((with_reducible apply u_splitD); exact rfl; exact rfl; all_goals first | (intro hp; try (exfalso; omega)) | skip) | (apply Rd.old; (first | (with_reducible assumption) | exact c0 | exact c1 | exact c2 | exact c3 | exact c4 | exact c5 | exact c6 | exact c7 | exact c8 | exact d0 | exact d1 | exact d2 | exact d3 | exact d4 | exact d5); first | exact List.not_mem_nil | exact m0 | exact m1 | exact m2 | exact m3 | exact m4 | exact m5 | exact m6 | exact m7 | exact m8 | exact m9) | (with_reducible apply t_seq) | (apply t_region; kernel_rfl) | ((with_reducible apply t_condT); exact rfl) | ((with_reducible apply t_condD); exact rfl; all_goals first | (intro hp; try (exfalso; omega)) | skip) | (with_reducible apply t_ret) | (with_reducible apply t_skip) | (with_reducible apply t_block) | with_reducible apply q_thenN | with_reducible apply q_thenR | with_reducible apply q_blockR | (with_reducible apply end_ret) | exact rvs_nil | (with_reducible apply rvs_cons) | ((with_reducible apply rv_tmp); exact rfl))
     all_goals (rw [hS, planB_no (by omega) hpx]; rfl)
    | true =>
     have hv : 0 ≤ x ∧ x < n ∧ y < x := ⟨(plAt_yes hpx hx).1, (plAt_yes hpx hx).2.1, by
      rcases (plAt_yes hpx hx).2.2 with h | h
      ·omega
      ·exact h y (by rw [Nat.add_sub_cancel]; exact hy)⟩
     repeat' (first | (focus ((with_reducible apply oq_indexAddrN); (iterate 4 exact rfl); omega)) | ((with_reducible apply oq_subE (k := (k : Int))); exact rfl; exact rfl; omega) | (apply oq_fn; exact rfl; try first | exact trivial | (and_intros <;> omega)) | ((with_reducible apply oq_load); exact rfl; exact rfl) | (with_reducible apply tl_nil) | ((with_reducible apply u_q); (iterate 4 exact rfl)) | ((with_reducible apply u_splitD); exact rfl; exact rfl; all_goals first | (intro hp; try (exfalso; omega)) | skip) | (apply Rd.old; (first | (with_reducible assumption) | exact c0 | exact c1 | exact c2 | exact c3 | exact c4 | exact c5 | exact c6 | exact c7 | exact c8 | exact d0 | exact d1 | exact d2 | exact d3 | exact d4 | exact d5); first | exact List.not_mem_nil | exact m0 | exact m1 | exact m2 | exact m3 | exact m4 | exact m5 | exact m6 | exact m7 | exact m8 | exact m9) | (with_reducible apply t_seq) | (apply t_region; kernel_rfl) | ((with_reducible apply t_condD); exact rfl; all_goals first | (intro hp; try (exfalso; omega)) | skip) | (with_reducible apply t_skip) | (with_reducible apply t_block) | with_reducible apply q_thenN | with_reducible apply q_blockN)
     all_goals (refine ⟨(k + 1) + 1, ⟨by omega, fun y hy => ?_⟩, by omega, ?_, ?_⟩)
     ·rcases (by omega : y < (k + 1) ∨ y = (k + 1)) with h | rfl
      ·exact hkp y h
      ·exact hpx
     ·try simp only [List.cons_append, List.nil_append]
      (repeat (first | exact FrSub.nil | (apply FrSub.cons; exact rfl)))
     ·try simp only [List.cons_append, List.nil_append]
      (repeat (first | exact HpSub.refl _ | (apply HpSub.consE; (repeat (first | exact P0 | apply P1)); exact rfl) | exact HpSub.nil))
  ·have hpb : planB n pl = true := planB_yes fun j hj => hkp j (by omega)
   clear HB hkp
   repeat' (first | (apply oq_fn; exact rfl; try first | exact trivial | (and_intros <;> omega)) | ((with_reducible apply oq_load); exact rfl; exact rfl) | (with_reducible apply tl_nil) | ((with_reducible apply u_q); (iterate 4 exact rfl)) | (apply Rd.own; (repeat (first | exact P0 | apply P1)); exact rfl; done) | (with_reducible apply t_seq) | (apply t_region; kernel_rfl) | ((with_reducible apply t_condD); exact rfl; all_goals first | (intro hp; try (exfalso; omega)) | skip) | (with_reducible apply t_exit) | (with_reducible apply t_block) | with_reducible apply q_thenN | with_reducible apply q_thenE | ((with_reducible apply q_blockE); exact rfl))
   apply t_loopK (ι := Nat) [2, 3, 51, 52, 76] (fun k => [(53, .int .i64 (k : Nat)), (6, .int .i64 (leftK ev du fs pl k))]) (fun _ => []) (fun k => k ≤ n ∧ ∀ j, j < k → lateAt ev gr du fs pl j = false) (fun k => n - k) (0)
   (repeat (first | exact KeepF.nil | (apply KeepF.cons; exact rfl) | apply KeepF.skip))
   (repeat (first | exact FrSub.nil | (apply FrSub.cons; exact rfl)))
   (repeat (first | exact HpSub.refl _ | (apply HpSub.consE; (repeat (first | exact P0 | apply P1)); exact rfl) | exact HpSub.nil))
   ·exact ⟨by omega, fun j hj => by omega⟩
   rintro k ⟨hk, hkp⟩
   try simp only [List.cons_append, List.nil_append]
   have hin := leftK_in hce (by omega : k ≤ fs.length) hkp
   obtain ⟨L, hL⟩ : ∃ L, leftK ev du fs pl k = L := ⟨_, rfl⟩
   rw [hL] at hin ⊢
   by_cases hlt : k < n
   ·obtain ⟨b1, o1, x, rfl, _, hx, c0⟩ := in_read hr hlt
    have hfx := hfs x (List.mem_of_getElem? hx)
    have HB := fun w1 (hx : Ext w w1) => containsOf_calls (k : Int) A2 m c2 pl w1 (hr2.ext hx) hm
    cases hip : inPl pl k with
    | true =>
     rw [show (pl.any fun x => decide ((k : Int) = x)) = true from hip] at HB
     have e1 : leftK ev du fs pl (k + 1) = min L 0 + ev - x := by
      simp only [leftK, stp, hip, hx, Option.getD_some, hL]
      rfl
     cases hlt2 : lateAt ev gr du fs pl k with
     | true =>
      have hv : leftK ev du fs pl (k + 1) < -gr := of_decide_eq_true hlt2
      rw [e1] at hv
      repeat' (first | (focus ((with_reducible apply oq_indexAddrN); (iterate 4 exact rfl); omega)) | (apply oq_fn; exact rfl; try first | exact trivial | (and_intros <;> omega)) | ((with_reducible apply oq_load); exact rfl; exact rfl) | ((with_reducible apply oq_call (k := 72) (hc := Try.call72)); exact rfl; exact rfl; exact fun D w1 hw1 => HB w1 hw1.ext.ext) | (with_reducible apply tl_nil) | ((with_reducible apply u_q); (iterate 4 exact rfl)) | (apply Rd.own; (repeat (first | exact P0 | apply P1)); exact rfl; done) | (apply Rd.old; (first | (with_reducible assumption) | exact c0 | exact c1 | exact c2 | exact c3 | exact c4 | exact c5 | exact c6 | exact c7 | exact c8 | exact d0 | exact d1 | exact d2 | exact d3 | exact d4 | exact d5); first | exact List.not_mem_nil | exact m0 | exact m1 | exact m2 | exact m3 | exact m4 | exact m5 | exact m6 | exact m7 | exact m8 | exact m9) | (with_reducible apply t_seq) | (apply t_region; kernel_rfl) | ((with_reducible apply t_condT); exact rfl) | ((with_reducible apply t_condD); exact rfl; all_goals first | (intro hp; try (exfalso; omega)) | skip) | (with_reducible apply t_ret) | (with_reducible apply t_skip) | (with_reducible apply t_block) | with_reducible apply q_thenN | with_reducible apply q_thenR | with_reducible apply q_blockR | (with_reducible apply end_ret) | exact rvs_nil | (with_reducible apply rvs_cons) | ((with_reducible apply rv_tmp); exact rfl))
      all_goals (rw [hS, hpb, if_pos rfl, lateV_at (by omega) hlt2 hkp]; rfl)
     | false =>
      have hv : ¬ leftK ev du fs pl (k + 1) < -gr := of_decide_eq_false hlt2
      rw [e1] at hv
      repeat' (first | (focus ((with_reducible apply oq_indexAddrN); (iterate 4 exact rfl); omega)) | (apply oq_fn; exact rfl; try first | exact trivial | (and_intros <;> omega)) | ((with_reducible apply oq_load); exact rfl; exact rfl) | ((with_reducible apply oq_call (k := 72) (hc := Try.call72)); exact rfl; exact rfl; exact fun D w1 hw1 => HB w1 hw1.ext.ext) | (with_reducible apply tl_nil) | ((with_reducible apply u_q); (iterate 4 exact rfl)) | (apply Rd.own; (repeat (first | exact P0 | apply P1)); exact rfl; done) | (apply Rd.old; (first | (with_reducible assumption) | exact c0 | exact c1 | exact c2 | exact c3 | exact c4 | exact c5 | exact c6 | exact c7 | exact c8 | exact d0 | exact d1 | exact d2 | exact d3 | exact d4 | exact d5); first | exact List.not_mem_nil | exact m0 | exact m1 | exact m2 | exact m3 | exact m4 | exact m5 | exact m6 | exact m7 | exact m8 | exact m9) | (with_reducible apply t_seq) | (apply t_region; kernel_rfl) | ((with_reducible apply t_condT); exact rfl) | ((with_reducible apply t_condD); exact rfl; all_goals first | (intro hp; try (exfalso; omega)) | skip) | (with_reducible apply t_skip) | (with_reducible apply t_block) | with_reducible apply q_thenN | with_reducible apply q_blockN)
      all_goals (refine ⟨k + 1, ⟨by omega, fun y hy => ?_⟩, by omega, ?_, ?_⟩)
      ·rcases (by omega : y < k ∨ y = k) with h | rfl
       ·exact hkp y h
       ·exact hlt2
      ·try simp only [List.cons_append, List.nil_append]
       (repeat (first | exact FrSub.nil | (apply FrSub.cons; exact rfl) | (apply FrSub.consE; exact rfl; rw [e1])))
      ·try simp only [List.cons_append, List.nil_append]
       (repeat (first | exact HpSub.refl _ | (apply HpSub.consE; (repeat (first | exact P0 | apply P1)); exact rfl) | exact HpSub.nil))
    | false =>
     rw [show (pl.any fun x => decide ((k : Int) = x)) = false from hip] at HB
     have e1 : leftK ev du fs pl (k + 1) = L - x := by
      simp only [leftK, stp, hip, hx, Option.getD_some, hL]
      rfl
     cases hlt2 : lateAt ev gr du fs pl k with
     | true =>
      have hv : leftK ev du fs pl (k + 1) < -gr := of_decide_eq_true hlt2
      rw [e1] at hv
      repeat' (first | (focus ((with_reducible apply oq_indexAddrN); (iterate 4 exact rfl); omega)) | (apply oq_fn; exact rfl; try first | exact trivial | (and_intros <;> omega)) | ((with_reducible apply oq_load); exact rfl; exact rfl) | ((with_reducible apply oq_call (k := 72) (hc := Try.call72)); exact rfl; exact rfl; exact fun D w1 hw1 => HB w1 hw1.ext.ext) | (with_reducible apply tl_nil) | ((with_reducible apply u_q); (iterate 4 exact rfl)) | (apply Rd.own; (repeat (first | exact P0 | apply P1)); exact rfl; done) | (apply Rd.old; (first | (with_reducible assumption) | exact c0 | exact c1 | exact c2 | exact c3 | exact c4 | exact c5 | exact c6 | exact c7 | exact c8 | exact d0 | exact d1 | exact d2 | exact d3 | exact d4 | exact d5); first | exact List.not_mem_nil | exact m0 | exact m1 | exact m2 | exact m3 | exact m4 | exact m5 | exact m6 | exact m7 | exact m8 | exact m9) | (with_reducible apply t_seq) | (apply t_region; kernel_rfl) | ((with_reducible apply t_condF); exact rfl) | ((with_reducible apply t_condD); exact rfl; all_goals first | (intro hp; try (exfalso; omega)) | skip) | (with_reducible apply t_ret) | (with_reducible apply t_skip) | (with_reducible apply t_block) | with_reducible apply q_thenN | with_reducible apply q_thenR | with_reducible apply q_blockR | (with_reducible apply end_ret) | exact rvs_nil | (with_reducible apply rvs_cons) | ((with_reducible apply rv_tmp); exact rfl))
      all_goals (rw [hS, hpb, if_pos rfl, lateV_at (by omega) hlt2 hkp]; rfl)
     | false =>
      have hv : ¬ leftK ev du fs pl (k + 1) < -gr := of_decide_eq_false hlt2
      rw [e1] at hv
      repeat' (first | (focus ((with_reducible apply oq_indexAddrN); (iterate 4 exact rfl); omega)) | (apply oq_fn; exact rfl; try first | exact trivial | (and_intros <;> omega)) | ((with_reducible apply oq_load); exact rfl; exact rfl) | ((with_reducible apply oq_call (k := 72) (hc := Try.call72)); exact rfl; exact rfl; exact fun D w1 hw1 => HB w1 hw1.ext.ext) | (with_reducible apply tl_nil) | ((with_reducible apply u_q); (iterate 4 exact rfl)) | (apply Rd.own; (repeat (first | exact P0 | apply P1)); exact rfl; done) | (apply Rd.old; (first | (with_reducible assumption) | exact c0 | exact c1 | exact c2 | exact c3 | exact c4 | exact c5 | exact c6 | exact c7 | exact c8 | exact d0 | exact d1 | exact d2 | exact d3 | exact d4 | exact d5); first | exact List.not_mem_nil | exact m0 | exact m1 | exact m2 | exact m3 | exact m4 | exact m5 | exact m6 | exact m7 | exact m8 | exact m9) | (with_reducible apply t_seq) | (apply t_region; kernel_rfl) | ((with_reducible apply t_condF); exact rfl) | ((with_reducible apply t_condD); exact rfl; all_goals first | (intro hp; try (exfalso; omega)) | skip) | (with_reducible apply t_skip) | (with_reducible apply t_block) | with_reducible apply q_thenN | with_reducible apply q_blockN)
      all_goals (refine ⟨k + 1, ⟨by omega, fun y hy => ?_⟩, by omega, ?_, ?_⟩)
      ·rcases (by omega : y < k ∨ y = k) with h | rfl
       ·exact hkp y h
       ·exact hlt2
      ·try simp only [List.cons_append, List.nil_append]
       (repeat (first | exact FrSub.nil | (apply FrSub.cons; exact rfl) | (apply FrSub.consE; exact rfl; rw [e1])))
      ·try simp only [List.cons_append, List.nil_append]
       (repeat (first | exact HpSub.refl _ | (apply HpSub.consE; (repeat (first | exact P0 | apply P1)); exact rfl) | exact HpSub.nil))
   ·repeat' (first | (apply oq_fn; exact rfl; try first | exact trivial | (and_intros <;> omega)) | (with_reducible apply tl_nil) | ((with_reducible apply u_q); (iterate 4 exact rfl)) | (with_reducible apply t_seq) | (apply t_region; kernel_rfl) | ((with_reducible apply t_condD); exact rfl; all_goals first | (intro hp; try (exfalso; omega)) | skip) | (with_reducible apply t_ret) | (with_reducible apply t_exit) | with_reducible apply q_thenN | with_reducible apply q_thenE | ((with_reducible apply q_blockE); exact rfl) | (with_reducible apply end_ret) | exact rvs_nil | (with_reducible apply rvs_cons) | ((with_reducible apply rv_tmp); exact rfl))
    all_goals (rw [hS, hpb, if_pos rfl, lateV_no (fun j hj => hkp j (by omega)), show fs.length = k by omega, hL]; rfl)
 ·have hS : lateS ev gr du fs pl = (0, 0, caredE ev gr du fs) := by unfold lateS; rw [if_neg hce]
  rw [hS]
  obtain ⟨E, hE⟩ : ∃ E, caredE ev gr du fs = E := ⟨_, rfl⟩
  rw [hE] at HC hce ⊢
  have HB : ∀ w1, Ext w w1 → True := fun _ _ => trivial
  refine enterQ (c := cx w 77) Try.func26 rfl rfl rfl rfl ?_
  repeat' (first | (apply oq_fn; exact rfl; try first | exact trivial | (and_intros <;> omega)) | ((with_reducible apply oq_loadAgg); exact rfl; exact rfl) | ((with_reducible apply oq_call (k := 71) (hc := Try.call71)); exact rfl; exact rfl; exact fun D w1 hw1 => HC w1 hw1.ext.ext) | (with_reducible apply tl_nil) | ((with_reducible apply u_q); (iterate 4 exact rfl)) | ((with_reducible apply u_s); (iterate 3 exact rfl)) | ((with_reducible apply os_x); exact rfl) | ((with_reducible apply ox_boxAgg); exact rfl; intro _) | (apply Rd.own; (repeat (first | exact P0 | apply P1)); exact rfl; done) | (with_reducible apply t_seq) | (apply t_region; kernel_rfl) | ((with_reducible apply t_condN); exact rfl; all_goals first | (intro hp; try (exfalso; omega)) | skip) | (with_reducible apply t_ret) | with_reducible apply q_thenN | with_reducible apply q_thenR | exact Rdn.zero | apply Rdn.succ | (with_reducible apply end_ret) | exact rvs_nil | (with_reducible apply rvs_cons) | ((with_reducible apply rv_tmp); exact rfl))
  all_goals rfl
end Go.Proofs.Ytmlmgipngbndgaa
namespace Go.Proofs.Ytmlmgipngbndgaa
open Go.RowKit
def duE0 : Du := ⟨600, 500, 2000, 1000⟩
def tsE0 : List Tr := [⟨2000, 2300, 1⟩, ⟨2200, 2400, 2⟩]
def offA : Off := ⟨0, 60, 25, 1200, 0, [⟨2, 400, 100, 0⟩], [⟨0, 1, 0⟩, ⟨0, 1, 0⟩, ⟨0, 2, 0⟩]⟩
def offB : Off := ⟨0, 60, 25, 1200, 400, [⟨2, 400, 100, 0⟩], [⟨0, 4, 0⟩, ⟨0, 1, 0⟩, ⟨0, 1, 0⟩]⟩
def offC : Off := ⟨50, 60, 25, 1200, 700, [⟨2, 400, 100, 0⟩], [⟨0, 4, 0⟩, ⟨0, 4, 100⟩, ⟨0, 1, 0⟩]⟩
def off1 : Off := ⟨0, 0, 0, 1, 0, [], []⟩
theorem exa1 : asgE duE0 [] 3 tsE0 = 0 := by decide +kernel
theorem exa2 : asgL duE0 [] 3 tsE0 = [[0], [1, 2]] := by decide +kernel
theorem exa3 : asgE duE0 [] 7 [] = 2 := by decide +kernel
theorem exa4 : duE ⟨0, 0, 0, 0⟩ = 80 := by decide +kernel
theorem exa5 : rosE [⟨0, 0, 0⟩] = 81 := by decide +kernel
theorem exa6 : asgE duE0 roV 3 tsE0 = 6 := by decide +kernel
theorem exa7 : lateS 100 10 30 [20, 15, 60, 45, 30] [2, 4] = (60, 0, 0) := by decide +kernel
theorem exa8 : lateS 100 10 30 [20, 15, 60, 45, 30] [3] = (0, 2, 83) := by decide +kernel
theorem exa9 : insE 100 10 30 [200] = 6 := by decide +kernel
theorem exaA : playV off0 (dl9.take 4) = (offA, 0, 0) := by kernel_rfl
theorem exaB : playV off0 (dl9.take 5) = (offB, 0, 0) := by kernel_rfl
theorem exaC : playV off0 (dl9.take 7) = (offC, 0, 0) := by kernel_rfl
theorem exaD : countsS offA 0 = (2, 1, 0, 0, 0) := by kernel_rfl
theorem exaE : turnS offA 2 = (1, 0) := by kernel_rfl
theorem exaF : turnS offB 2 = (0, 0) := by kernel_rfl
theorem exaG : turnS offB 0 = (0, 85) := by kernel_rfl
theorem exaH : doE offA ⟨4, 0, 0, 0, 0⟩ = 86 := by kernel_rfl
theorem exaI : doE offA ⟨2, 1, 0, 0, 0⟩ = 2 := by kernel_rfl
theorem exaJ : doE offA ⟨7, 0, 1, 0, 0⟩ = 9 := by kernel_rfl
theorem exaK : doE offA ⟨0, 0, 0, 0, 0⟩ = 2 := by kernel_rfl
theorem exaL : careE 0 0 0 = 82 := by decide +kernel
theorem exaM : chkE off1 = 84 := by kernel_rfl
/-! The calls -/
theorem exa_play (k : Nat) (o : Off) (h : playV off0 (dl9.take k) = (o, 0, 0)) (hk : k ≤ 9) (L : Option Addr) (cl : Nat) (w : World) (hL : RdS w 5 L k ((dl9.take k).map dealCells)) (hq : ∀ d ∈ dl9.take k, 0 ≤ d.kind ∧ d.kind ≤ 255) : Calls Try.prog 34 #[.agg ⟨offCells off0 none 0 none 0⟩, .slice L k cl] w fun e w' => ∃ v H', e = .returned v ∧ AnyP (o, 0, 0) v H' ∧ Has w ⟨[], []⟩ H' w' := by
 rw [← h]
 exact play_T off0 none 0 none 0 w (nilF w) (nilB w) (fun _ => ⟨rfl, rfl⟩) (fun _ => ⟨rfl, rfl⟩) (fun d hd => by cases hd) (by decide) (by decide) (dl9.take k) L k cl hL (by omega) hq
theorem exa_late2 (A : Option Addr) (c : Nat) (A2 : Option Addr) (c2 : Nat) (w : World) (hr : RdS w 1 A 5 (([20, 15, 60, 45, 30] : List Int).map inCells)) (hr2 : RdS w 1 A2 2 (([2, 4] : List Int).map inCells)) : Calls Try.prog 26 #[.agg #[.int .i64 100, .int .i64 10, .int .i64 30], .slice A 5 c, .slice A2 2 c2] w fun e w' => e = .returned (.tuple #[.int .i64 60, .int .i64 0, .int .i64 0]) ∧ Ext w w' := by
 have h := late_calls 100 10 30 A 5 c _ A2 2 c2 _ w hr (by decide) hr2 (by decide)
 rw [exa7] at h
 exact h
theorem exa_late1 (A : Option Addr) (c : Nat) (A2 : Option Addr) (c2 : Nat) (w : World) (hr : RdS w 1 A 5 (([20, 15, 60, 45, 30] : List Int).map inCells)) (hr2 : RdS w 1 A2 1 (([3] : List Int).map inCells)) : Calls Try.prog 26 #[.agg #[.int .i64 100, .int .i64 10, .int .i64 30], .slice A 5 c, .slice A2 1 c2] w fun e w' => e = .returned (.tuple #[.int .i64 0, .int .i64 2, .int .i64 83]) ∧ Ext w w' := by
 have h := late_calls 100 10 30 A 5 c _ A2 1 c2 _ w hr (by decide) hr2 (by decide)
 rw [exa8] at h
 exact h
theorem rds_nil (k : Nat) (w : World) : RdS w k none 0 [] := ⟨rfl, fun h => absurd h (by decide)⟩
theorem exa_asg1 (AT : Option Addr) (cT : Nat) (w : World) (hr : RdS w 3 AT 2 (tsE0.map trCells)) : Calls Try.prog 50 #[.agg #[.int .i64 600, .int .i64 500, .int .i64 2000, .int .i64 1000], .slice none 0 0, .int .i64 3, .slice AT 2 cT] w fun e w' => ∃ v H', e = .returned v ∧ AsgV 0 [[0], [1, 2]] v H' ∧ Has w ⟨[], []⟩ H' w' := by
 have h := assign_T duE0 none 0 0 [] 3 AT 2 cT tsE0 w (rds_nil 3 w) (fun _ => ⟨rfl, rfl⟩) hr (by decide) (by decide)
 rw [exa1, exa2] at h
 exact h
theorem exa_asg2 (A : Option Addr) (c : Nat) (AT : Option Addr) (cT : Nat) (w : World) (hr : RdS w 3 A 3 (roV.map shCells)) (hA : A = none → (3 : Nat) = 0 ∧ c = 0) (hrT : RdS w 3 AT 2 (tsE0.map trCells)) : Calls Try.prog 50 #[.agg #[.int .i64 600, .int .i64 500, .int .i64 2000, .int .i64 1000], .slice A 3 c, .int .i64 3, .slice AT 2 cT] w fun e w' => ∃ v H', e = .returned v ∧ AsgV 6 (asgL duE0 roV 3 tsE0) v H' ∧ Has w ⟨[], []⟩ H' w' := by
 have h := assign_T duE0 A 3 c roV 3 AT 2 cT tsE0 w hr hA hrT (by decide) (by decide)
 rw [exa6] at h
 exact h
theorem exa_asg3 (w : World) : Calls Try.prog 50 #[.agg #[.int .i64 600, .int .i64 500, .int .i64 2000, .int .i64 1000], .slice none 0 0, .int .i64 7, .slice none 0 0] w fun e w' => ∃ v H', e = .returned v ∧ AsgV 2 (asgL duE0 [] 7 []) v H' ∧ Has w ⟨[], []⟩ H' w' := by
 have h := assign_T duE0 none 0 0 [] 7 none 0 0 [] w (rds_nil 3 w) (fun _ => ⟨rfl, rfl⟩) (rds_nil 3 w) (by decide) (by decide)
 rw [exa3] at h
 exact h
theorem exa_duty (w : World) : Calls Try.prog 44 #[.agg #[.int .i64 0, .int .i64 0, .int .i64 0, .int .i64 0]] w fun e w' => e = .returned (.int .i64 80) ∧ Ext w w' := by
 have h := dutyR_calls ⟨0, 0, 0, 0⟩ w
 rw [exa4] at h
 exact h
theorem exa_ros (A : Option Addr) (c : Nat) (w : World) (hr : RdS w 3 A 1 (([⟨0, 0, 0⟩] : List Sh).map shCells)) (hA : A = none → (1 : Nat) = 0 ∧ c = 0) : Calls Try.prog 46 #[.slice A 1 c] w fun e w' => e = .returned (.int .i64 81) ∧ Ext w w' := by
 have h := rosR_calls A 1 c _ w hr hA (by decide)
 rw [exa5] at h
 exact h
theorem exa_care (w : World) : Calls Try.prog 30 #[.agg #[.int .i64 0, .int .i64 0, .int .i64 0]] w fun e w' => e = .returned (.int .i64 82) ∧ Ext w w' := by
 have h := checkCare_calls 0 0 0 w
 rw [exaL] at h
 exact h
theorem exa_chk (w : World) : Calls Try.prog 39 #[.agg ⟨offCells off1 none 0 none 0⟩] w fun e w' => e = .returned (.int .i64 84) ∧ Ext w w' := by
 have h := check_calls off1 none 0 none 0 w (rds_nil 4 w) (rds_nil 3 w) (fun _ => ⟨rfl, rfl⟩) (fun _ => ⟨rfl, rfl⟩) (fun d hd => by cases hd) (by decide) (by decide)
 rw [exaM] at h
 exact h
theorem exa_cnt (A : Option Addr) (cf : Nat) (B : Option Addr) (cb : Nat) (w : World) (hA : RdS w 4 A offA.fl.length (offA.fl.map depCells)) (hB : RdS w 3 B offA.bk.length (offA.bk.map bkCells)) (hnA : A = none → offA.fl.length = 0 ∧ cf = 0) (hnB : B = none → offA.bk.length = 0 ∧ cb = 0) : Calls Try.prog 20 #[.agg ⟨offCells offA A cf B cb⟩, .int .i64 0] w fun e w' => e = .returned (.tuple #[.int .i64 2, .int .i64 1, .int .i64 0, .int .i64 0, .int .i64 0]) ∧ Ext w w' := by
 have h := counts_T offA A cf B cb w hA hB hnA hnB (by decide) (by decide) (by decide) 0
 rw [exaD] at h
 exact h
theorem exa_turn {o : Off} {i t e : Int} (h : turnS o i = (t, e)) (hu : ∀ d ∈ o.fl, 0 ≤ d.state) (h1 : o.fl.length ≤ 1000000) (h2 : o.bk.length ≤ 1000000) (A : Option Addr) (cf : Nat) (B : Option Addr) (cb : Nat) (w : World) (hA : RdS w 4 A o.fl.length (o.fl.map depCells)) (hB : RdS w 3 B o.bk.length (o.bk.map bkCells)) (hnA : A = none → o.fl.length = 0 ∧ cf = 0) (hnB : B = none → o.bk.length = 0 ∧ cb = 0) : Calls Try.prog 24 #[.agg ⟨offCells o A cf B cb⟩, .int .i64 i] w fun e' w' => e' = .returned (.tuple #[.int .i64 t, .int .i64 e]) ∧ Ext w w' := by
 have h' := turn_T o A cf B cb w hA hB hnA hnB hu h1 h2 i
 rw [h] at h'
 exact h'
theorem exa_do {d : Deal} {z : Int} (h : doE offA d = z) (hk : 0 ≤ d.kind ∧ d.kind ≤ 255) (A : Option Addr) (cf : Nat) (B : Option Addr) (cb : Nat) (w : World) (hA : RdS w 4 A offA.fl.length (offA.fl.map depCells)) (hB : RdS w 3 B offA.bk.length (offA.bk.map bkCells)) (hnA : A = none → offA.fl.length = 0 ∧ cf = 0) (hnB : B = none → offA.bk.length = 0 ∧ cb = 0) : Calls Try.prog 37 #[.agg ⟨offCells offA A cf B cb⟩, .agg ⟨dealCells d⟩] w fun e w' => ∃ v H', e = .returned v ∧ AnyV (doR offA d) z v H' ∧ Has w ⟨[], []⟩ H' w' := by
 have h' := cDo_T offA A cf B cb w hA hB hnA hnB (by decide) (by decide) (by decide) d hk
 rw [h] at h'
 exact h'
end Go.Proofs.Ytmlmgipngbndgaa
namespace Go.Proofs.Ytmlmgipngbndgaa
open Go.RowKit
attribute [local irreducible] OQ OS OX Rd T TL GX GL AL AI RV wpG SAny Calls
theorem asgV_err {E : Int} {L : List (List Int)} {v : Value} {H : Hp} (h : E ≠ 0) (hV : AsgV E L v H) : v = .tuple #[.slice none 0 0, .int .i64 E] ∧ H = [] := by
 rcases hV with ⟨_, h1, h2⟩ | ⟨h1, _⟩
 ·exact ⟨h1, h2⟩
 ·exact absurd h1 h
theorem asgV_ok {E : Int} {L : List (List Int)} {v : Value} {H : Hp} (h : E = 0) (hV : AsgV E L v H) : ∃ g R, ((∀ r ∈ R, LrOk r) ∧ R.map Prod.fst = L) ∧ v = .tuple #[.slice (some ⟨g, 0, none⟩) L.length L.length, .int .i64 0] ∧ H = outH g L.length R := by
 rcases hV with ⟨h1, _⟩ | ⟨_, g, R, a, b, c, e⟩
 ·exact absurd h h1
 ·exact ⟨g, R, ⟨a, b⟩, c, e⟩
theorem own_rows {α : Type} {f : α → List Value} {k n b : Nat} {l : List α} {C : List Value} {H H' : Hp} {g : Tg} {w0 w : World} {M : Ms} (h : Has w0 M H w) (p : Pick H b C g H') (e : C = (l.map f).flatten) (hf : ∀ y, (f y).length = k) (hn : l.length = n) : RdS w k (some ⟨b, 0, none⟩) n (l.map f) := by
 subst e
 refine Blk.rows (h.blk _ p.mem).2 (by simpa using hn) ?_
 intro r hr
 obtain ⟨x, _, rfl⟩ := List.mem_map.1 hr
 exact hf x
theorem ex_lis {w0 : World} {M : Ms} {w : World} {X : Hp} {b0 b1 b2 : Nat} (h : Has w0 M ((b2, [.slice (some ⟨b0, 0, none⟩) 1 1, .slice (some ⟨b1, 0, none⟩) 2 2], some (41, 1, 2)) :: (b1, [.int .i64 1, .int .i64 2], some (3, 1, 2)) :: (b0, [.int .i64 0], some (3, 1, 1)) :: X) w) : LisW w (some ⟨b2, 0, none⟩) 2 [[0], [1, 2]] [([0], some (b0, 1)), ([1, 2], some (b1, 2))] :=
 lisW_of (o := some (b2, 2)) (R := [([0], some (b0, 1)), ([1, 2], some (b1, 2))]) h
  (show HpSub _ ((b2, [.slice (some ⟨b0, 0, none⟩) 1 1, .slice (some ⟨b1, 0, none⟩) 2 2], some (41, 1, 2)) :: (b0, [.int .i64 0], some (3, 1, 1)) :: (b1, [.int .i64 1, .int .i64 2], some (3, 1, 2)) :: []) from HpSub.cons (Pick.head _ _ _ _) (HpSub.cons (Pick.tail (Pick.head _ _ _ _)) (HpSub.cons (Pick.head _ _ _ _) HpSub.nil)))
  (fun r hr => by
   rcases List.mem_cons.1 hr with rfl | hr
   ·exact ⟨fun h => (by cases h), Nat.le_refl _⟩
   ·obtain rfl := List.mem_singleton.1 hr
    exact ⟨fun h => (by cases h), Nat.le_refl _⟩) rfl (fun h => by cases h)
theorem rds_take {w : World} {k n j : Nat} {A : Option Addr} {rows : List (List Value)} (h : RdS w k A n rows) (hj : j ≤ n) : RdS w k A j (rows.take j) := by
 have hl := h.len
 refine ⟨by simp; omega, fun h0 => ?_⟩
 obtain ⟨b, o, hA, hb, hx⟩ := h.2 (by omega)
 refine ⟨b, o, hA, hb, fun i x hi => hx i x ?_⟩
 have hij : i < j := by
  have := (List.getElem?_eq_some_iff.1 hi).1
  simp only [List.length_take] at this
  omega
 rwa [List.getElem?_take_of_lt hij] at hi
theorem ex_deals {w0 : World} {M : Ms} {w : World} {X : Hp} {bd : Nat} (h : Has w0 M ((bd, dealC, some (63, 5, 9)) :: X) w) {k : Nat} (hk : k ≤ 9) : RdS w 5 (some ⟨bd, 0, none⟩) k ((dl9.take k).map dealCells) := by
 have h9 : RdS w 5 (some ⟨bd, 0, none⟩) 9 (dl9.map dealCells) := own_rows (f := dealCells) (l := dl9) h (Pick.head _ _ _ _) (by rfl) (fun _ => rfl) rfl
 have := rds_take h9 hk
 rwa [← List.map_take] at this
theorem crewExamples_T (w : World) : Calls Try.prog 18 #[] w fun e w' => e = .returned (.bool true) ∧ Ext w w' := by
 refine enterQ (c := cx w 297) Try.func18 rfl rfl rfl rfl ?_
 refine t_cut (ι := Unit) (fun _ => [(0, .bool false)]) (fun _ => []) (fun _ => True) ?_ ?_
 ·repeat' (first | (apply oq_fn; exact rfl; try first | exact trivial | (and_intros <;> omega)) | (with_reducible apply tl_nil) | ((with_reducible apply u_q); (iterate 4 exact rfl)) | (apply t_region; kernel_rfl))
  all_goals exact ⟨rfl, (), trivial, by (repeat (first | exact FrSub.nil | (apply FrSub.cons; exact rfl))), by (repeat (first | exact HpSub.refl _ | (apply HpSub.consE; (repeat (first | exact P0 | apply P1 | apply PA)); exact rfl) | apply hp_appC | apply HpSub.skipX | exact hp_left | apply hp_skipApp | exact HpSub.nil))⟩
 rintro ⟨⟩ -
 refine t_cut (ι := Unit) (fun _ => [(0, .bool false)]) (fun _ => []) (fun _ => True) ?_ ?_
 ·repeat' (first | (apply oq_fn; exact rfl; try first | exact trivial | (and_intros <;> omega)) | ((with_reducible apply oq_call (k := 53) (hc := Try.call53)); exact rfl; exact rfl; exact fun D w1 hw1 => alive_calls w1) | (with_reducible apply tl_nil) | ((with_reducible apply u_q); (iterate 4 exact rfl)) | (with_reducible apply t_seq) | (apply t_region; kernel_rfl) | ((with_reducible apply t_condF); exact rfl) | (with_reducible apply t_skip) | with_reducible apply q_thenN)
  all_goals exact ⟨rfl, (), trivial, by (repeat (first | exact FrSub.nil | (apply FrSub.cons; exact rfl))), by (repeat (first | exact HpSub.refl _ | (apply HpSub.consE; (repeat (first | exact P0 | apply P1 | apply PA)); exact rfl) | apply hp_appC | apply HpSub.skipX | exact hp_left | apply hp_skipApp | exact HpSub.nil))⟩
 rintro ⟨⟩ -
 refine t_cut (ι := Nat) (fun bt => [(0, .bool false), (1, .slice (some ⟨bt, 0, none⟩) 2 2)]) (fun bt => [(bt, [.int .i64 2000, .int .i64 2300, .int .i64 1, .int .i64 2200, .int .i64 2400, .int .i64 2], some (114, 3, 2))]) (fun _ => True) ?_ ?_
 ·repeat' (first | (apply oq_fn; exact rfl; try first | exact trivial | (and_intros <;> omega)) | ((with_reducible apply oq_build); (iterate 3 exact rfl)) | (with_reducible apply tl_nil) | ((with_reducible apply u_q); (iterate 4 exact rfl)) | ((with_reducible apply u_s); (iterate 3 exact rfl)) | ((with_reducible apply os_x); exact rfl) | ((with_reducible apply ox_buildSlice); (iterate 4 exact rfl)) | (apply t_region; kernel_rfl) | ((with_reducible apply Norm.nil); exact rfl) | ((with_reducible apply Norm.cons); exact rfl) | exact (rfl : (_ : Bool) = true) | (intro _; with_reducible apply tl_id))
  all_goals exact ⟨by trivial, _, trivial, by (repeat (first | exact FrSub.nil | (apply FrSub.cons; exact rfl))), by (repeat (first | exact HpSub.refl _ | (apply HpSub.consE; (repeat (first | exact P0 | apply P1 | apply PA)); exact rfl) | apply hp_appC | apply HpSub.skipX | exact hp_left | apply hp_skipApp | exact HpSub.nil))⟩
 rintro bt -
 try dsimp only
 refine t_cut (ι := Nat × List Row) (fun z => [(0, .bool false), (1, .slice (some ⟨bt, 0, none⟩) 2 2), (2, .slice (some ⟨z.1, 0, none⟩) 2 2), (3, .int .i64 0)]) (fun z => outH z.1 2 z.2 ++ [(bt, [.int .i64 2000, .int .i64 2300, .int .i64 1, .int .i64 2200, .int .i64 2400, .int .i64 2], some (114, 3, 2))]) (fun z => (∀ r ∈ z.2, LrOk r) ∧ z.2.map Prod.fst = [[0], [1, 2]]) ?_ ?_
 ·repeat' (first | (apply oq_fn; exact rfl; try first | exact trivial | (and_intros <;> omega)) | ((with_reducible apply oq_call (k := 56) (hc := Try.call56)); exact rfl; exact rfl; exact fun D w1 hw1 => duty0 w1) | (with_reducible apply tl_nil) | ((with_reducible apply u_s); (iterate 3 exact rfl); (with_reducible apply os_callF (PV := AsgV 0 [[0], [1, 2]]) (k := 50) (hc := Try.call50)); exact rfl; exact rfl; exact fun D w1 hw1 => (by exact exa_asg1 (some ⟨bt, 0, none⟩) 2 w1 (own_rows (f := trCells) (l := tsE0) hw1 (by (first | exact P0 | (repeat (first | exact P0 | apply P1 | apply PA)))) (by rfl) (fun _ => rfl) rfl)); rintro v H' hV; obtain ⟨g, R, hRR, rfl, rfl⟩ := asgV_ok rfl hV) | ((with_reducible apply u_q); (iterate 4 exact rfl)) | (apply t_region; kernel_rfl))
  all_goals exact ⟨by trivial, (g, R), hRR, by (repeat (first | exact FrSub.nil | (apply FrSub.cons; exact rfl))), by first | exact HpSub.refl _ | (repeat (first | exact HpSub.refl _ | (apply HpSub.consE; (repeat (first | exact P0 | apply P1 | apply PA)); exact rfl) | apply hp_appC | apply HpSub.skipX | exact hp_left | apply hp_skipApp | exact HpSub.nil))⟩
 rintro ⟨g, R⟩ ⟨hRk, hRL⟩
 simp only at hRk hRL ⊢
 refine t_cut (ι := Unit) (fun z => [(0, .bool false), (2, .slice (some ⟨g, 0, none⟩) 2 2), (3, .int .i64 0), (5, .int .i64 6)]) (fun z => outH g 2 R) (fun z => True) ?_ ?_
 ·repeat' (first | (apply oq_fn; exact rfl; try first | exact trivial | (and_intros <;> omega)) | ((with_reducible apply oq_call (k := 56) (hc := Try.call56)); exact rfl; exact rfl; exact fun D w1 hw1 => duty0 w1) | (with_reducible apply tl_nil) | ((with_reducible apply u_s); (iterate 3 exact rfl); (with_reducible apply os_callF (PV := ros0V) (k := 57) (hc := Try.call57)); exact rfl; exact rfl; exact fun D w1 hw1 => ros0_T w1; rintro v H' ⟨br, rfl, rfl⟩; (simp only [List.cons_append, List.nil_append])) | ((with_reducible apply u_s); (iterate 3 exact rfl); (with_reducible apply os_callF (PV := AsgV 6 (asgL duE0 roV 3 tsE0)) (k := 50) (hc := Try.call50)); exact rfl; exact rfl; exact fun D w1 hw1 => (by exact exa_asg2 (some ⟨br, 0, none⟩) 3 (some ⟨bt, 0, none⟩) 2 w1 (own_rows (f := shCells) (l := roV) hw1 (by (first | exact P0 | (repeat (first | exact P0 | apply P1 | apply PA)))) (by rfl) (fun _ => rfl) rfl) (fun h => by cases h) (own_rows (f := trCells) (l := tsE0) hw1 (by (first | exact P0 | (repeat (first | exact P0 | apply P1 | apply PA)))) (by rfl) (fun _ => rfl) rfl)); rintro v H' hV; obtain ⟨rfl, rfl⟩ := asgV_err (by decide) hV; (try simp only [List.nil_append])) | ((with_reducible apply u_q); (iterate 4 exact rfl)) | (apply t_region; kernel_rfl))
  all_goals exact ⟨by trivial, (), trivial, by (repeat (first | exact FrSub.nil | (apply FrSub.cons; exact rfl))), by first | exact hp_leftX _ _ | exact HpSub.skipX (hp_leftX _ _)⟩
 rintro ⟨⟩ -
 refine t_cut (ι := Unit) (fun z => [(0, .bool false), (2, .slice (some ⟨g, 0, none⟩) 2 2), (3, .int .i64 0), (5, .int .i64 6), (6, .int .i64 60), (8, .int .i64 0)]) (fun z => outH g 2 R) (fun z => True) ?_ ?_
 ·repeat' (first | (apply oq_fn; exact rfl; try first | exact trivial | (and_intros <;> omega)) | ((with_reducible apply oq_call (k := 58) (hc := Try.call58)); exact rfl; exact rfl; exact fun D w1 hw1 => care0 w1) | ((with_reducible apply oq_call (k := 26) (hc := Try.call26)); exact rfl; exact rfl; exact fun D w1 hw1 => exa_late2 _ _ _ _ w1 (in_own (l := [20, 15, 60, 45, 30]) rfl hw1 (by (first | exact P0 | (repeat (first | exact P0 | apply P1 | apply PA))))) (in_own (l := [2, 4]) rfl hw1 (by (first | exact P0 | (repeat (first | exact P0 | apply P1 | apply PA)))))) | (with_reducible apply tl_nil) | ((with_reducible apply u_s); (iterate 3 exact rfl); (with_reducible apply os_callF (PV := fli0V) (k := 59) (hc := Try.call59)); exact rfl; exact rfl; exact fun D w1 hw1 => fli0_T w1; rintro v H' ⟨bf, rfl, rfl⟩; (simp only [List.cons_append, List.nil_append])) | ((with_reducible apply u_q); (iterate 4 exact rfl)) | ((with_reducible apply u_s); (iterate 3 exact rfl)) | ((with_reducible apply os_x); exact rfl) | ((with_reducible apply ox_buildSlice1); (iterate 6 exact rfl); intro _) | (apply t_region; kernel_rfl))
  all_goals exact ⟨by trivial, (), trivial, by (repeat (first | exact FrSub.nil | (apply FrSub.cons; exact rfl))), by (repeat (first | exact HpSub.refl _ | exact hp_leftX _ _ | apply HpSub.skipX))⟩
 rintro ⟨⟩ -
 refine t_cut (ι := Unit) (fun z => [(0, .bool false), (2, .slice (some ⟨g, 0, none⟩) 2 2), (3, .int .i64 0), (5, .int .i64 6), (6, .int .i64 60), (8, .int .i64 0), (10, .int .i64 2), (11, .int .i64 83)]) (fun z => outH g 2 R) (fun z => True) ?_ ?_
 ·repeat' (first | (apply oq_fn; exact rfl; try first | exact trivial | (and_intros <;> omega)) | ((with_reducible apply oq_call (k := 58) (hc := Try.call58)); exact rfl; exact rfl; exact fun D w1 hw1 => care0 w1) | ((with_reducible apply oq_call (k := 26) (hc := Try.call26)); exact rfl; exact rfl; exact fun D w1 hw1 => exa_late1 _ _ _ _ w1 (in_own (l := [20, 15, 60, 45, 30]) rfl hw1 (by (first | exact P0 | (repeat (first | exact P0 | apply P1 | apply PA))))) (in_own (l := [3]) rfl hw1 (by (first | exact P0 | (repeat (first | exact P0 | apply P1 | apply PA)))))) | (with_reducible apply tl_nil) | ((with_reducible apply u_s); (iterate 3 exact rfl); (with_reducible apply os_callF (PV := fli0V) (k := 59) (hc := Try.call59)); exact rfl; exact rfl; exact fun D w1 hw1 => fli0_T w1; rintro v H' ⟨bf, rfl, rfl⟩; (simp only [List.cons_append, List.nil_append])) | ((with_reducible apply u_q); (iterate 4 exact rfl)) | ((with_reducible apply u_s); (iterate 3 exact rfl)) | ((with_reducible apply os_x); exact rfl) | ((with_reducible apply ox_buildSlice1); (iterate 6 exact rfl); intro _) | (apply t_region; kernel_rfl))
  all_goals exact ⟨by trivial, (), trivial, by (repeat (first | exact FrSub.nil | (apply FrSub.cons; exact rfl))), by (repeat (first | exact HpSub.refl _ | exact hp_leftX _ _ | apply HpSub.skipX))⟩
 rintro ⟨⟩ -
 have hRm : R.length = 2 := by have e := congrArg List.length hRL; rw [List.length_map] at e; exact e
 refine t_cut (ι := Unit) (fun z => [(0, .bool false), (12, .bool true)]) (fun z => []) (fun z => True) ?_ ?_
 ·repeat' (first | ((with_reducible apply oq_eqlT); exact rfl; exact rfl; omega) | (apply oq_fn; exact rfl; try first | exact trivial | (and_intros <;> omega)) | ((with_reducible apply oq_call (k := 52) (hc := Try.call52)); exact rfl; exact rfl; exact fun D w1 hw1 => sameLists_calls (some ⟨g, 0, none⟩) _ 2 2 2 [[0], [1, 2]] R _ w1 (by have h := lisW_of (o := some (g, 2)) (R := R) hw1 (HpSub.skipX (HpSub.skipX (HpSub.skipX (HpSub.refl _)))) hRk hRL (fun h => by cases h); rw [hRm] at h; exact h) (ex_lis hw1) (by decide) (by decide)) | (with_reducible apply tl_nil) | ((with_reducible apply u_q); (iterate 4 exact rfl)) | ((with_reducible apply u_s); (iterate 3 exact rfl)) | ((with_reducible apply os_x); exact rfl) | ((with_reducible apply ox_buildSlice1); (iterate 6 exact rfl); intro _) | (apply t_region; kernel_rfl))
  all_goals exact ⟨by trivial, (), trivial, by (repeat (first | exact FrSub.nil | (apply FrSub.cons; exact rfl))), HpSub.nil⟩
 rintro ⟨⟩ -
 refine t_cut (ι := Nat × Nat × Nat × Nat × Nat) (fun z => [(0, .bool false), (12, .bool true), (13, .pointer (some ⟨z.1, 0, none⟩)), (3, .int .i64 0)]) (fun z => (z.1, offCells offA (some ⟨z.2.1, 0, none⟩) z.2.2.1 (some ⟨z.2.2.2.1, 0, none⟩) z.2.2.2.2, some (25, 7, 1)) :: (z.2.1, (offA.fl.map depCells).flatten, some (106, 4, z.2.2.1)) :: (z.2.2.2.1, (offA.bk.map bkCells).flatten, some (71, 3, z.2.2.2.2)) :: []) (fun z => True) ?_ ?_
 ·repeat' (first | (focus ((with_reducible apply (oq_sliceH (h := 4))); (iterate 4 exact rfl); rfl; decide)) | (apply oq_fn; exact rfl; try first | exact trivial | (and_intros <;> omega)) | ((with_reducible apply oq_call (k := 60) (hc := Try.call60)); exact rfl; exact rfl; exact fun D w1 hw1 => office0 w1) | (with_reducible apply tl_nil) | ((with_reducible apply u_s); (iterate 3 exact rfl); (with_reducible apply os_callF (PV := dea0V) (k := 61) (hc := Try.call61)); exact rfl; exact rfl; exact fun D w1 hw1 => dea0_T w1; rintro v H' ⟨bd, rfl, rfl⟩; (simp only [List.cons_append, List.nil_append])) | ((with_reducible apply u_s); (iterate 3 exact rfl); (with_reducible apply os_callF (PV := AnyP (offA, 0, 0)) (k := 34) (hc := Try.call34)); exact rfl; exact rfl; exact fun D w1 hw1 => (by exact exa_play 4 offA exaA (by decide) (some ⟨bd, 0, none⟩) 9 w1 (ex_deals hw1 (by decide)) (by decide)); rintro v H' ⟨x, y, hx, hy, rfl, rfl⟩; (rcases x with _ | ⟨gF, cF⟩); (exact absurd (hx rfl) (by decide)); (rcases y with _ | ⟨gB, cB⟩); (exact absurd (hy rfl) (by decide)); (simp only [flH, bkH, clH_some, clA_some, clC_some, List.cons_append, List.nil_append])) | ((with_reducible apply u_q); (iterate 4 exact rfl)) | ((with_reducible apply u_s0); exact rfl; exact rfl) | ((with_reducible apply u_s); (iterate 3 exact rfl)) | ((with_reducible apply os_x); exact rfl) | ((with_reducible apply os_storeAgg); (iterate 5 exact rfl)) | ((with_reducible apply ox_alloc); exact rfl; intro _) | (apply t_region; kernel_rfl) | exact P0 | ((with_reducible apply Norm.nil); exact rfl) | ((with_reducible apply Norm.cons); exact rfl) | exact Nat.le_of_ble_eq_true rfl)
  all_goals exact ⟨by trivial, (_, gF, cF, gB, cB), trivial, by (repeat (first | exact FrSub.nil | (apply FrSub.cons; exact rfl))), by (repeat (first | exact HpSub.refl _ | (apply HpSub.consE; (repeat (first | exact P0 | apply P1 | apply PA)); exact rfl) | apply hp_appC | apply HpSub.skipX | exact hp_left | apply hp_skipApp | exact HpSub.nil))⟩
 rintro ⟨ba, fa, cfa, ka, cka⟩ -
 try dsimp only
 refine t_cut (ι := Unit) (fun _ => [(0, .bool false), (12, .bool true), (13, .pointer (some ⟨ba, 0, none⟩)), (3, .int .i64 0), (15, .int .i64 2), (16, .int .i64 1), (5, .int .i64 0)]) (fun _ => (ba, offCells offA (some ⟨fa, 0, none⟩) cfa (some ⟨ka, 0, none⟩) cka, some (25, 7, 1)) :: (fa, (offA.fl.map depCells).flatten, some (106, 4, cfa)) :: (ka, (offA.bk.map bkCells).flatten, some (71, 3, cka)) :: []) (fun _ => True) ?_ ?_
 ·repeat' (first | (apply oq_fn; exact rfl; try first | exact trivial | (and_intros <;> omega)) | ((with_reducible apply oq_loadAgg); exact rfl; exact rfl) | ((with_reducible apply oq_call (k := 20) (hc := Try.call20)); exact rfl; exact rfl; exact fun D w1 hw1 => (by exact exa_cnt (some ⟨fa, 0, none⟩) cfa (some ⟨ka, 0, none⟩) cka w1 (own_rows (f := depCells) (l := offA.fl) hw1 (by (first | exact P0 | (repeat (first | exact P0 | apply P1 | apply PA)))) rfl (fun _ => rfl) rfl) (own_rows (f := bkCells) (l := offA.bk) hw1 (by (first | exact P0 | (repeat (first | exact P0 | apply P1 | apply PA)))) rfl (fun _ => rfl) rfl) (fun h => by cases h) (fun h => by cases h))) | (with_reducible apply tl_nil) | ((with_reducible apply u_q); (iterate 4 exact rfl)) | (apply Rd.own; (repeat (first | exact P0 | apply P1 | apply PA)); exact rfl; done) | (apply t_region; kernel_rfl) | exact Rdn.zero | apply Rdn.succ)
  all_goals exact ⟨by trivial, (), trivial, by (repeat (first | exact FrSub.nil | (apply FrSub.cons; exact rfl))), HpSub.refl _⟩
 rintro ⟨⟩ -
 refine t_cut (ι := Unit) (fun _ => [(0, .bool false), (12, .bool true), (13, .pointer (some ⟨ba, 0, none⟩)), (3, .int .i64 0), (15, .int .i64 2), (16, .int .i64 1), (5, .int .i64 0), (19, .int .i64 1), (8, .int .i64 0)]) (fun _ => (ba, offCells offA (some ⟨fa, 0, none⟩) cfa (some ⟨ka, 0, none⟩) cka, some (25, 7, 1)) :: (fa, (offA.fl.map depCells).flatten, some (106, 4, cfa)) :: (ka, (offA.bk.map bkCells).flatten, some (71, 3, cka)) :: []) (fun _ => True) ?_ ?_
 ·repeat' (first | (apply oq_fn; exact rfl; try first | exact trivial | (and_intros <;> omega)) | ((with_reducible apply oq_loadAgg); exact rfl; exact rfl) | ((with_reducible apply oq_call (k := 24) (hc := Try.call24)); exact rfl; exact rfl; exact fun D w1 hw1 => (by exact exa_turn exaE (by decide) (by decide) (by decide) (some ⟨fa, 0, none⟩) cfa (some ⟨ka, 0, none⟩) cka w1 (own_rows (f := depCells) (l := offA.fl) hw1 (by (first | exact P0 | (repeat (first | exact P0 | apply P1 | apply PA)))) rfl (fun _ => rfl) rfl) (own_rows (f := bkCells) (l := offA.bk) hw1 (by (first | exact P0 | (repeat (first | exact P0 | apply P1 | apply PA)))) rfl (fun _ => rfl) rfl) (fun h => by cases h) (fun h => by cases h))) | (with_reducible apply tl_nil) | ((with_reducible apply u_q); (iterate 4 exact rfl)) | (apply Rd.own; (repeat (first | exact P0 | apply P1 | apply PA)); exact rfl; done) | (apply t_region; kernel_rfl) | exact Rdn.zero | apply Rdn.succ)
  all_goals exact ⟨by trivial, (), trivial, by (repeat (first | exact FrSub.nil | (apply FrSub.cons; exact rfl))), HpSub.refl _⟩
 rintro ⟨⟩ -
 refine t_cut (ι := Nat × Nat × Nat × Nat × Nat) (fun z => [(0, .bool false), (12, .bool true), (13, .pointer (some ⟨ba, 0, none⟩)), (3, .int .i64 0), (15, .int .i64 2), (16, .int .i64 1), (5, .int .i64 0), (19, .int .i64 1), (8, .int .i64 0), (20, .pointer (some ⟨z.1, 0, none⟩)), (11, .int .i64 0)]) (fun z => (z.1, offCells offB (some ⟨z.2.1, 0, none⟩) z.2.2.1 (some ⟨z.2.2.2.1, 0, none⟩) z.2.2.2.2, some (25, 7, 1)) :: (z.2.1, (offB.fl.map depCells).flatten, some (106, 4, z.2.2.1)) :: (z.2.2.2.1, (offB.bk.map bkCells).flatten, some (71, 3, z.2.2.2.2)) :: (ba, offCells offA (some ⟨fa, 0, none⟩) cfa (some ⟨ka, 0, none⟩) cka, some (25, 7, 1)) :: (fa, (offA.fl.map depCells).flatten, some (106, 4, cfa)) :: (ka, (offA.bk.map bkCells).flatten, some (71, 3, cka)) :: []) (fun z => True) ?_ ?_
 ·repeat' (first | (focus ((with_reducible apply (oq_sliceH (h := 5))); (iterate 4 exact rfl); rfl; decide)) | (apply oq_fn; exact rfl; try first | exact trivial | (and_intros <;> omega)) | ((with_reducible apply oq_call (k := 60) (hc := Try.call60)); exact rfl; exact rfl; exact fun D w1 hw1 => office0 w1) | (with_reducible apply tl_nil) | ((with_reducible apply u_s); (iterate 3 exact rfl); (with_reducible apply os_callF (PV := dea0V) (k := 61) (hc := Try.call61)); exact rfl; exact rfl; exact fun D w1 hw1 => dea0_T w1; rintro v H' ⟨bd, rfl, rfl⟩; (simp only [List.cons_append, List.nil_append])) | ((with_reducible apply u_s); (iterate 3 exact rfl); (with_reducible apply os_callF (PV := AnyP (offB, 0, 0)) (k := 34) (hc := Try.call34)); exact rfl; exact rfl; exact fun D w1 hw1 => (by exact exa_play 5 offB exaB (by decide) (some ⟨bd, 0, none⟩) 9 w1 (ex_deals hw1 (by decide)) (by decide)); rintro v H' ⟨x, y, hx, hy, rfl, rfl⟩; (rcases x with _ | ⟨gF, cF⟩); (exact absurd (hx rfl) (by decide)); (rcases y with _ | ⟨gB, cB⟩); (exact absurd (hy rfl) (by decide)); (simp only [flH, bkH, clH_some, clA_some, clC_some, List.cons_append, List.nil_append])) | ((with_reducible apply u_q); (iterate 4 exact rfl)) | ((with_reducible apply u_s0); exact rfl; exact rfl) | ((with_reducible apply u_s); (iterate 3 exact rfl)) | ((with_reducible apply os_x); exact rfl) | ((with_reducible apply os_storeAgg); (iterate 5 exact rfl)) | ((with_reducible apply ox_alloc); exact rfl; intro _) | (apply t_region; kernel_rfl) | exact P0 | ((with_reducible apply Norm.nil); exact rfl) | ((with_reducible apply Norm.cons); exact rfl) | exact Nat.le_of_ble_eq_true rfl)
  all_goals exact ⟨by trivial, (_, gF, cF, gB, cB), trivial, by (repeat (first | exact FrSub.nil | (apply FrSub.cons; exact rfl))), by (repeat (first | exact HpSub.refl _ | (apply HpSub.consE; (repeat (first | exact P0 | apply P1 | apply PA)); exact rfl) | apply hp_appC | apply HpSub.skipX | exact hp_left | apply hp_skipApp | exact HpSub.nil))⟩
 rintro ⟨bb, fb, cfb, kb, ckb⟩ -
 try dsimp only
 refine t_cut (ι := Unit) (fun _ => [(0, .bool false), (12, .bool true), (13, .pointer (some ⟨ba, 0, none⟩)), (3, .int .i64 0), (15, .int .i64 2), (16, .int .i64 1), (5, .int .i64 0), (19, .int .i64 1), (8, .int .i64 0), (20, .pointer (some ⟨bb, 0, none⟩)), (11, .int .i64 0), (22, .int .i64 0), (23, .int .i64 0)]) (fun _ => (bb, offCells offB (some ⟨fb, 0, none⟩) cfb (some ⟨kb, 0, none⟩) ckb, some (25, 7, 1)) :: (fb, (offB.fl.map depCells).flatten, some (106, 4, cfb)) :: (kb, (offB.bk.map bkCells).flatten, some (71, 3, ckb)) :: (ba, offCells offA (some ⟨fa, 0, none⟩) cfa (some ⟨ka, 0, none⟩) cka, some (25, 7, 1)) :: (fa, (offA.fl.map depCells).flatten, some (106, 4, cfa)) :: (ka, (offA.bk.map bkCells).flatten, some (71, 3, cka)) :: []) (fun _ => True) ?_ ?_
 ·repeat' (first | (apply oq_fn; exact rfl; try first | exact trivial | (and_intros <;> omega)) | ((with_reducible apply oq_loadAgg); exact rfl; exact rfl) | ((with_reducible apply oq_call (k := 24) (hc := Try.call24)); exact rfl; exact rfl; exact fun D w1 hw1 => (by exact exa_turn exaF (by decide) (by decide) (by decide) (some ⟨fb, 0, none⟩) cfb (some ⟨kb, 0, none⟩) ckb w1 (own_rows (f := depCells) (l := offB.fl) hw1 (by (first | exact P0 | (repeat (first | exact P0 | apply P1 | apply PA)))) rfl (fun _ => rfl) rfl) (own_rows (f := bkCells) (l := offB.bk) hw1 (by (first | exact P0 | (repeat (first | exact P0 | apply P1 | apply PA)))) rfl (fun _ => rfl) rfl) (fun h => by cases h) (fun h => by cases h))) | (with_reducible apply tl_nil) | ((with_reducible apply u_q); (iterate 4 exact rfl)) | (apply Rd.own; (repeat (first | exact P0 | apply P1 | apply PA)); exact rfl; done) | (apply t_region; kernel_rfl) | exact Rdn.zero | apply Rdn.succ)
  all_goals exact ⟨by trivial, (), trivial, by (repeat (first | exact FrSub.nil | (apply FrSub.cons; exact rfl))), HpSub.refl _⟩
 rintro ⟨⟩ -
 refine t_cut (ι := Nat × Nat × Nat × Nat × Nat) (fun z => [(0, .bool false), (12, .bool true), (13, .pointer (some ⟨ba, 0, none⟩)), (3, .int .i64 0), (15, .int .i64 2), (16, .int .i64 1), (5, .int .i64 0), (19, .int .i64 1), (8, .int .i64 0), (20, .pointer (some ⟨bb, 0, none⟩)), (11, .int .i64 0), (22, .int .i64 0), (23, .int .i64 0), (24, .pointer (some ⟨z.1, 0, none⟩)), (26, .int .i64 0)]) (fun z => (z.1, offCells offC (some ⟨z.2.1, 0, none⟩) z.2.2.1 (some ⟨z.2.2.2.1, 0, none⟩) z.2.2.2.2, some (25, 7, 1)) :: (z.2.1, (offC.fl.map depCells).flatten, some (106, 4, z.2.2.1)) :: (z.2.2.2.1, (offC.bk.map bkCells).flatten, some (71, 3, z.2.2.2.2)) :: (bb, offCells offB (some ⟨fb, 0, none⟩) cfb (some ⟨kb, 0, none⟩) ckb, some (25, 7, 1)) :: (fb, (offB.fl.map depCells).flatten, some (106, 4, cfb)) :: (kb, (offB.bk.map bkCells).flatten, some (71, 3, ckb)) :: (ba, offCells offA (some ⟨fa, 0, none⟩) cfa (some ⟨ka, 0, none⟩) cka, some (25, 7, 1)) :: (fa, (offA.fl.map depCells).flatten, some (106, 4, cfa)) :: (ka, (offA.bk.map bkCells).flatten, some (71, 3, cka)) :: []) (fun z => True) ?_ ?_
 ·repeat' (first | (focus ((with_reducible apply (oq_sliceH (h := 7))); (iterate 4 exact rfl); rfl; decide)) | (apply oq_fn; exact rfl; try first | exact trivial | (and_intros <;> omega)) | ((with_reducible apply oq_call (k := 60) (hc := Try.call60)); exact rfl; exact rfl; exact fun D w1 hw1 => office0 w1) | (with_reducible apply tl_nil) | ((with_reducible apply u_s); (iterate 3 exact rfl); (with_reducible apply os_callF (PV := dea0V) (k := 61) (hc := Try.call61)); exact rfl; exact rfl; exact fun D w1 hw1 => dea0_T w1; rintro v H' ⟨bd, rfl, rfl⟩; (simp only [List.cons_append, List.nil_append])) | ((with_reducible apply u_s); (iterate 3 exact rfl); (with_reducible apply os_callF (PV := AnyP (offC, 0, 0)) (k := 34) (hc := Try.call34)); exact rfl; exact rfl; exact fun D w1 hw1 => (by exact exa_play 7 offC exaC (by decide) (some ⟨bd, 0, none⟩) 9 w1 (ex_deals hw1 (by decide)) (by decide)); rintro v H' ⟨x, y, hx, hy, rfl, rfl⟩; (rcases x with _ | ⟨gF, cF⟩); (exact absurd (hx rfl) (by decide)); (rcases y with _ | ⟨gB, cB⟩); (exact absurd (hy rfl) (by decide)); (simp only [flH, bkH, clH_some, clA_some, clC_some, List.cons_append, List.nil_append])) | ((with_reducible apply u_q); (iterate 4 exact rfl)) | ((with_reducible apply u_s0); exact rfl; exact rfl) | ((with_reducible apply u_s); (iterate 3 exact rfl)) | ((with_reducible apply os_x); exact rfl) | ((with_reducible apply os_storeAgg); (iterate 5 exact rfl)) | ((with_reducible apply ox_alloc); exact rfl; intro _) | (apply t_region; kernel_rfl) | exact P0 | ((with_reducible apply Norm.nil); exact rfl) | ((with_reducible apply Norm.cons); exact rfl) | exact Nat.le_of_ble_eq_true rfl)
  all_goals exact ⟨by trivial, (_, gF, cF, gB, cB), trivial, by (repeat (first | exact FrSub.nil | (apply FrSub.cons; exact rfl))), by (repeat (first | exact HpSub.refl _ | (apply HpSub.consE; (repeat (first | exact P0 | apply P1 | apply PA)); exact rfl) | apply hp_appC | apply HpSub.skipX | exact hp_left | apply hp_skipApp | exact HpSub.nil))⟩
 rintro ⟨bc, fc, cfc, kc, ckc⟩ -
 try dsimp only
 refine t_cut (ι := Unit) (fun _ => [(0, .bool false), (12, .bool true), (13, .pointer (some ⟨ba, 0, none⟩)), (20, .pointer (some ⟨bb, 0, none⟩)), (27, .bool true)]) (fun _ => (bb, offCells offB (some ⟨fb, 0, none⟩) cfb (some ⟨kb, 0, none⟩) ckb, some (25, 7, 1)) :: (fb, (offB.fl.map depCells).flatten, some (106, 4, cfb)) :: (kb, (offB.bk.map bkCells).flatten, some (71, 3, ckb)) :: (ba, offCells offA (some ⟨fa, 0, none⟩) cfa (some ⟨ka, 0, none⟩) cka, some (25, 7, 1)) :: (fa, (offA.fl.map depCells).flatten, some (106, 4, cfa)) :: (ka, (offA.bk.map bkCells).flatten, some (71, 3, cka)) :: []) (fun _ => True) ?_ ?_
 ·repeat' (first | ((with_reducible apply oq_eqlT); exact rfl; exact rfl; omega) | (focus ((with_reducible apply oq_indexAddrN (i := 1)); (iterate 4 exact rfl); (first | omega | decide))) | (apply oq_fn; exact rfl; try first | exact trivial | (and_intros <;> omega)) | ((with_reducible apply oq_load); exact rfl; exact rfl) | (with_reducible apply tl_nil) | ((with_reducible apply u_q); (iterate 4 exact rfl)) | (apply Rd.own; (repeat (first | exact P0 | apply P1 | apply PA)); exact rfl; done) | (apply t_region; kernel_rfl) | (simp only [List.append_eq, List.cons_append, List.nil_append]))
  all_goals exact ⟨by trivial, (), trivial, by (repeat (first | exact FrSub.nil | (apply FrSub.cons; exact rfl))), by (repeat (first | exact HpSub.refl _ | (apply HpSub.consE; (repeat (first | exact P0 | apply P1 | apply PA)); exact rfl) | apply hp_appC | apply HpSub.skipX | exact hp_left | apply hp_skipApp | exact HpSub.nil))⟩
 rintro ⟨⟩ -
 refine t_cut (ι := Unit) (fun _ => [(0, .bool false), (12, .bool true), (13, .pointer (some ⟨ba, 0, none⟩)), (20, .pointer (some ⟨bb, 0, none⟩)), (27, .bool true), (3, .int .i64 86)]) (fun _ => (bb, offCells offB (some ⟨fb, 0, none⟩) cfb (some ⟨kb, 0, none⟩) ckb, some (25, 7, 1)) :: (fb, (offB.fl.map depCells).flatten, some (106, 4, cfb)) :: (kb, (offB.bk.map bkCells).flatten, some (71, 3, ckb)) :: (ba, offCells offA (some ⟨fa, 0, none⟩) cfa (some ⟨ka, 0, none⟩) cka, some (25, 7, 1)) :: (fa, (offA.fl.map depCells).flatten, some (106, 4, cfa)) :: (ka, (offA.bk.map bkCells).flatten, some (71, 3, cka)) :: []) (fun _ => True) ?_ ?_
 ·repeat' (first | (apply oq_fn; exact rfl; try first | exact trivial | (and_intros <;> omega)) | ((with_reducible apply oq_loadAgg); exact rfl; exact rfl) | ((with_reducible apply oq_build); (iterate 3 exact rfl)) | (with_reducible apply tl_nil) | ((with_reducible apply u_s); (iterate 3 exact rfl); (with_reducible apply os_callF (PV := AnyV (doR offA ⟨4, 0, 0, 0, 0⟩) 86) (k := 37) (hc := Try.call37)); exact rfl; exact rfl; exact fun D w1 hw1 => (by exact exa_do exaH (by decide) (some ⟨fa, 0, none⟩) cfa (some ⟨ka, 0, none⟩) cka w1 (own_rows (f := depCells) (l := offA.fl) hw1 (by (first | exact P0 | (repeat (first | exact P0 | apply P1 | apply PA)))) rfl (fun _ => rfl) rfl) (own_rows (f := bkCells) (l := offA.bk) hw1 (by (first | exact P0 | (repeat (first | exact P0 | apply P1 | apply PA)))) rfl (fun _ => rfl) rfl) (fun h => by cases h) (fun h => by cases h)); rintro v H' ⟨x, y, hx, hy, rfl, rfl⟩) | ((with_reducible apply u_q); (iterate 4 exact rfl)) | (apply Rd.own; (repeat (first | exact P0 | apply P1 | apply PA)); exact rfl; done) | (apply t_region; kernel_rfl) | exact Rdn.zero | apply Rdn.succ | ((with_reducible apply Norm.nil); exact rfl) | ((with_reducible apply Norm.cons); exact rfl))
  all_goals exact ⟨by trivial, (), trivial, by (repeat (first | exact FrSub.nil | (apply FrSub.cons; exact rfl))), hp_skipApp (HpSub.refl _)⟩
 rintro ⟨⟩ -
 refine t_cut (ι := Unit) (fun _ => [(0, .bool false), (12, .bool true), (13, .pointer (some ⟨ba, 0, none⟩)), (20, .pointer (some ⟨bb, 0, none⟩)), (27, .bool true), (3, .int .i64 86), (5, .int .i64 2)]) (fun _ => (bb, offCells offB (some ⟨fb, 0, none⟩) cfb (some ⟨kb, 0, none⟩) ckb, some (25, 7, 1)) :: (fb, (offB.fl.map depCells).flatten, some (106, 4, cfb)) :: (kb, (offB.bk.map bkCells).flatten, some (71, 3, ckb)) :: (ba, offCells offA (some ⟨fa, 0, none⟩) cfa (some ⟨ka, 0, none⟩) cka, some (25, 7, 1)) :: (fa, (offA.fl.map depCells).flatten, some (106, 4, cfa)) :: (ka, (offA.bk.map bkCells).flatten, some (71, 3, cka)) :: []) (fun _ => True) ?_ ?_
 ·repeat' (first | (apply oq_fn; exact rfl; try first | exact trivial | (and_intros <;> omega)) | ((with_reducible apply oq_loadAgg); exact rfl; exact rfl) | ((with_reducible apply oq_build); (iterate 3 exact rfl)) | (with_reducible apply tl_nil) | ((with_reducible apply u_s); (iterate 3 exact rfl); (with_reducible apply os_callF (PV := AnyV (doR offA ⟨2, 1, 0, 0, 0⟩) 2) (k := 37) (hc := Try.call37)); exact rfl; exact rfl; exact fun D w1 hw1 => (by exact exa_do exaI (by decide) (some ⟨fa, 0, none⟩) cfa (some ⟨ka, 0, none⟩) cka w1 (own_rows (f := depCells) (l := offA.fl) hw1 (by (first | exact P0 | (repeat (first | exact P0 | apply P1 | apply PA)))) rfl (fun _ => rfl) rfl) (own_rows (f := bkCells) (l := offA.bk) hw1 (by (first | exact P0 | (repeat (first | exact P0 | apply P1 | apply PA)))) rfl (fun _ => rfl) rfl) (fun h => by cases h) (fun h => by cases h)); rintro v H' ⟨x, y, hx, hy, rfl, rfl⟩) | ((with_reducible apply u_q); (iterate 4 exact rfl)) | (apply Rd.own; (repeat (first | exact P0 | apply P1 | apply PA)); exact rfl; done) | (apply t_region; kernel_rfl) | exact Rdn.zero | apply Rdn.succ | ((with_reducible apply Norm.nil); exact rfl) | ((with_reducible apply Norm.cons); exact rfl))
  all_goals exact ⟨by trivial, (), trivial, by (repeat (first | exact FrSub.nil | (apply FrSub.cons; exact rfl))), hp_skipApp (HpSub.refl _)⟩
 rintro ⟨⟩ -
 refine t_cut (ι := Unit) (fun _ => [(0, .bool false), (12, .bool true), (13, .pointer (some ⟨ba, 0, none⟩)), (20, .pointer (some ⟨bb, 0, none⟩)), (27, .bool true), (3, .int .i64 86), (5, .int .i64 2), (8, .int .i64 9)]) (fun _ => (bb, offCells offB (some ⟨fb, 0, none⟩) cfb (some ⟨kb, 0, none⟩) ckb, some (25, 7, 1)) :: (fb, (offB.fl.map depCells).flatten, some (106, 4, cfb)) :: (kb, (offB.bk.map bkCells).flatten, some (71, 3, ckb)) :: (ba, offCells offA (some ⟨fa, 0, none⟩) cfa (some ⟨ka, 0, none⟩) cka, some (25, 7, 1)) :: (fa, (offA.fl.map depCells).flatten, some (106, 4, cfa)) :: (ka, (offA.bk.map bkCells).flatten, some (71, 3, cka)) :: []) (fun _ => True) ?_ ?_
 ·repeat' (first | (apply oq_fn; exact rfl; try first | exact trivial | (and_intros <;> omega)) | ((with_reducible apply oq_loadAgg); exact rfl; exact rfl) | ((with_reducible apply oq_build); (iterate 3 exact rfl)) | (with_reducible apply tl_nil) | ((with_reducible apply u_s); (iterate 3 exact rfl); (with_reducible apply os_callF (PV := AnyV (doR offA ⟨7, 0, 1, 0, 0⟩) 9) (k := 37) (hc := Try.call37)); exact rfl; exact rfl; exact fun D w1 hw1 => (by exact exa_do exaJ (by decide) (some ⟨fa, 0, none⟩) cfa (some ⟨ka, 0, none⟩) cka w1 (own_rows (f := depCells) (l := offA.fl) hw1 (by (first | exact P0 | (repeat (first | exact P0 | apply P1 | apply PA)))) rfl (fun _ => rfl) rfl) (own_rows (f := bkCells) (l := offA.bk) hw1 (by (first | exact P0 | (repeat (first | exact P0 | apply P1 | apply PA)))) rfl (fun _ => rfl) rfl) (fun h => by cases h) (fun h => by cases h)); rintro v H' ⟨x, y, hx, hy, rfl, rfl⟩) | ((with_reducible apply u_q); (iterate 4 exact rfl)) | (apply Rd.own; (repeat (first | exact P0 | apply P1 | apply PA)); exact rfl; done) | (apply t_region; kernel_rfl) | exact Rdn.zero | apply Rdn.succ | ((with_reducible apply Norm.nil); exact rfl) | ((with_reducible apply Norm.cons); exact rfl))
  all_goals exact ⟨by trivial, (), trivial, by (repeat (first | exact FrSub.nil | (apply FrSub.cons; exact rfl))), hp_skipApp (HpSub.refl _)⟩
 rintro ⟨⟩ -
 refine t_cut (ι := Unit) (fun _ => [(0, .bool false), (12, .bool true), (13, .pointer (some ⟨ba, 0, none⟩)), (20, .pointer (some ⟨bb, 0, none⟩)), (27, .bool true), (3, .int .i64 86), (5, .int .i64 2), (8, .int .i64 9), (11, .int .i64 85)]) (fun _ => (bb, offCells offB (some ⟨fb, 0, none⟩) cfb (some ⟨kb, 0, none⟩) ckb, some (25, 7, 1)) :: (fb, (offB.fl.map depCells).flatten, some (106, 4, cfb)) :: (kb, (offB.bk.map bkCells).flatten, some (71, 3, ckb)) :: (ba, offCells offA (some ⟨fa, 0, none⟩) cfa (some ⟨ka, 0, none⟩) cka, some (25, 7, 1)) :: (fa, (offA.fl.map depCells).flatten, some (106, 4, cfa)) :: (ka, (offA.bk.map bkCells).flatten, some (71, 3, cka)) :: []) (fun _ => True) ?_ ?_
 ·repeat' (first | (apply oq_fn; exact rfl; try first | exact trivial | (and_intros <;> omega)) | ((with_reducible apply oq_loadAgg); exact rfl; exact rfl) | ((with_reducible apply oq_call (k := 24) (hc := Try.call24)); exact rfl; exact rfl; exact fun D w1 hw1 => (by exact exa_turn exaG (by decide) (by decide) (by decide) (some ⟨fb, 0, none⟩) cfb (some ⟨kb, 0, none⟩) ckb w1 (own_rows (f := depCells) (l := offB.fl) hw1 (by (first | exact P0 | (repeat (first | exact P0 | apply P1 | apply PA)))) rfl (fun _ => rfl) rfl) (own_rows (f := bkCells) (l := offB.bk) hw1 (by (first | exact P0 | (repeat (first | exact P0 | apply P1 | apply PA)))) rfl (fun _ => rfl) rfl) (fun h => by cases h) (fun h => by cases h))) | (with_reducible apply tl_nil) | ((with_reducible apply u_q); (iterate 4 exact rfl)) | (apply Rd.own; (repeat (first | exact P0 | apply P1 | apply PA)); exact rfl; done) | (apply t_region; kernel_rfl) | exact Rdn.zero | apply Rdn.succ)
  all_goals exact ⟨by trivial, (), trivial, by (repeat (first | exact FrSub.nil | (apply FrSub.cons; exact rfl))), HpSub.refl _⟩
 rintro ⟨⟩ -
 refine t_cut (ι := Unit) (fun _ => [(0, .bool false), (12, .bool true), (27, .bool true), (3, .int .i64 86), (5, .int .i64 2), (8, .int .i64 9), (11, .int .i64 85), (23, .int .i64 2)]) (fun _ => (bb, offCells offB (some ⟨fb, 0, none⟩) cfb (some ⟨kb, 0, none⟩) ckb, some (25, 7, 1)) :: (fb, (offB.fl.map depCells).flatten, some (106, 4, cfb)) :: (kb, (offB.bk.map bkCells).flatten, some (71, 3, ckb)) :: (ba, offCells offA (some ⟨fa, 0, none⟩) cfa (some ⟨ka, 0, none⟩) cka, some (25, 7, 1)) :: (fa, (offA.fl.map depCells).flatten, some (106, 4, cfa)) :: (ka, (offA.bk.map bkCells).flatten, some (71, 3, cka)) :: []) (fun _ => True) ?_ ?_
 ·repeat' (first | (apply oq_fn; exact rfl; try first | exact trivial | (and_intros <;> omega)) | ((with_reducible apply oq_loadAgg); exact rfl; exact rfl) | ((with_reducible apply oq_build); (iterate 3 exact rfl)) | (with_reducible apply tl_nil) | ((with_reducible apply u_s); (iterate 3 exact rfl); (with_reducible apply os_callF (PV := AnyV (doR offA ⟨0, 0, 0, 0, 0⟩) 2) (k := 37) (hc := Try.call37)); exact rfl; exact rfl; exact fun D w1 hw1 => (by exact exa_do exaK (by decide) (some ⟨fa, 0, none⟩) cfa (some ⟨ka, 0, none⟩) cka w1 (own_rows (f := depCells) (l := offA.fl) hw1 (by (first | exact P0 | (repeat (first | exact P0 | apply P1 | apply PA)))) rfl (fun _ => rfl) rfl) (own_rows (f := bkCells) (l := offA.bk) hw1 (by (first | exact P0 | (repeat (first | exact P0 | apply P1 | apply PA)))) rfl (fun _ => rfl) rfl) (fun h => by cases h) (fun h => by cases h)); rintro v H' ⟨x, y, hx, hy, rfl, rfl⟩) | ((with_reducible apply u_q); (iterate 4 exact rfl)) | (apply Rd.own; (repeat (first | exact P0 | apply P1 | apply PA)); exact rfl; done) | (apply t_region; kernel_rfl) | exact Rdn.zero | apply Rdn.succ | ((with_reducible apply Norm.nil); exact rfl) | ((with_reducible apply Norm.cons); exact rfl))
  all_goals exact ⟨by trivial, (), trivial, by (repeat (first | exact FrSub.nil | (apply FrSub.cons; exact rfl))), hp_skipApp (HpSub.refl _)⟩
 rintro ⟨⟩ -
 refine t_cut (ι := Unit) (fun _ => [(0, .bool false), (12, .bool true), (27, .bool true), (3, .int .i64 86), (5, .int .i64 2), (8, .int .i64 9), (11, .int .i64 85), (23, .int .i64 2), (26, .int .i64 6)]) (fun _ => []) (fun _ => True) ?_ ?_
 ·repeat' (first | (apply oq_fn; exact rfl; try first | exact trivial | (and_intros <;> omega)) | ((with_reducible apply oq_call (k := 58) (hc := Try.call58)); exact rfl; exact rfl; exact fun D w1 hw1 => care0 w1) | (with_reducible apply tl_nil) | ((with_reducible apply u_s); (iterate 3 exact rfl); (with_reducible apply os_callF (PV := InsO (insE 100 10 30 [200]) (insV 100 10 30 [200])) (k := 28) (hc := Try.call28)); exact rfl; exact rfl; exact fun D w1 hw1 => (by exact inspect_T 100 10 30 _ 1 _ [200] w1 (in_own (l := [200]) rfl hw1 (by (first | exact P0 | (repeat (first | exact P0 | apply P1 | apply PA))))) (by decide)); rintro v H' hV; (rw [exa9] at hV); (rcases hV with ⟨_, rfl, rfl⟩ | ⟨hV0, _⟩); rotate_left; (exact absurd hV0 (by decide)); (try simp only [List.nil_append])) | ((with_reducible apply u_q); (iterate 4 exact rfl)) | ((with_reducible apply u_s); (iterate 3 exact rfl)) | ((with_reducible apply os_x); exact rfl) | ((with_reducible apply ox_buildSlice1); (iterate 6 exact rfl); intro _) | (apply t_region; kernel_rfl))
  all_goals exact ⟨by trivial, (), trivial, by (repeat (first | exact FrSub.nil | (apply FrSub.cons; exact rfl))), by (repeat (first | exact HpSub.refl _ | (apply HpSub.consE; (repeat (first | exact P0 | apply P1 | apply PA)); exact rfl) | apply hp_appC | apply HpSub.skipX | exact hp_left | apply hp_skipApp | exact HpSub.nil))⟩
 rintro ⟨⟩ -
 refine t_cut (ι := Unit) (fun _ => [(0, .bool false), (12, .bool true), (27, .bool true), (3, .int .i64 86), (5, .int .i64 2), (8, .int .i64 9), (11, .int .i64 85), (23, .int .i64 2), (26, .int .i64 6), (29, .int .i64 2)]) (fun _ => []) (fun _ => True) ?_ ?_
 ·repeat' (first | (apply oq_fn; exact rfl; try first | exact trivial | (and_intros <;> omega)) | ((with_reducible apply oq_call (k := 56) (hc := Try.call56)); exact rfl; exact rfl; exact fun D w1 hw1 => duty0 w1) | (with_reducible apply tl_nil) | ((with_reducible apply u_s); (iterate 3 exact rfl); (with_reducible apply os_callF (PV := AsgV 2 (asgL duE0 [] 7 [])) (k := 50) (hc := Try.call50)); exact rfl; exact rfl; exact fun D w1 hw1 => (by exact exa_asg3 w1); rintro v H' hV; obtain ⟨rfl, rfl⟩ := asgV_err (by decide) hV; (try simp only [List.nil_append])) | ((with_reducible apply u_q); (iterate 4 exact rfl)) | (apply t_region; kernel_rfl))
  all_goals exact ⟨by trivial, (), trivial, by (repeat (first | exact FrSub.nil | (apply FrSub.cons; exact rfl))), by (repeat (first | exact HpSub.refl _ | (apply HpSub.consE; (repeat (first | exact P0 | apply P1 | apply PA)); exact rfl) | apply hp_appC | apply HpSub.skipX | exact hp_left | apply hp_skipApp | exact HpSub.nil))⟩
 rintro ⟨⟩ -
 repeat' (first | ((with_reducible apply oq_eqlT); exact rfl; exact rfl; omega) | (apply oq_fn; exact rfl; try first | exact trivial | (and_intros <;> omega)) | ((with_reducible apply oq_call (k := 44) (hc := Try.call44)); exact rfl; exact rfl; exact fun D w1 hw1 => exa_duty w1) | ((with_reducible apply oq_call (k := 46) (hc := Try.call46)); exact rfl; exact rfl; exact fun D w1 hw1 => exa_ros _ _ w1 (own_rows (f := shCells) (l := [⟨0, 0, 0⟩]) hw1 (by (first | exact P0 | (repeat (first | exact P0 | apply P1 | apply PA)))) (by rfl) (fun _ => rfl) rfl) (fun h => by cases h)) | ((with_reducible apply oq_call (k := 30) (hc := Try.call30)); exact rfl; exact rfl; exact fun D w1 hw1 => exa_care w1) | ((with_reducible apply oq_call (k := 39) (hc := Try.call39)); exact rfl; exact rfl; exact fun D w1 hw1 => exa_chk w1) | ((with_reducible apply oq_build); (iterate 3 exact rfl)) | (with_reducible apply tl_nil) | ((with_reducible apply u_q); (iterate 4 exact rfl)) | ((with_reducible apply u_s); (iterate 3 exact rfl)) | ((with_reducible apply os_x); exact rfl) | ((with_reducible apply ox_buildSlice); (iterate 4 exact rfl)) | (with_reducible apply t_seq) | (apply t_region; kernel_rfl) | (with_reducible apply t_ret) | with_reducible apply q_thenN | ((with_reducible apply Norm.nil); exact rfl) | ((with_reducible apply Norm.cons); exact rfl) | (with_reducible apply end_ret) | exact rvs_nil | (with_reducible apply rvs_cons) | ((with_reducible apply rv_tmp); exact rfl) | exact (rfl : (_ : Bool) = true) | (intro _; with_reducible apply tl_id))
 all_goals rfl
end Go.Proofs.Ytmlmgipngbndgaa
