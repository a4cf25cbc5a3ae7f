/- A part of the proof: rules for walks, and contracts of functions (7). -/
import Derived.Test.YtmlmgipngbndgaaX16D
import Derived.Test.YtmlmgipngbndgaaX16F
import Derived.Test.YtmlmgipngbndgaaX16B
set_option linter.unusedVariables false
set_option linter.unusedSimpArgs false
set_option maxRecDepth 100000
set_option maxHeartbeats 2000000
namespace Go.Proofs.Ytmlmgipngbndgaa
open Go.RowKit
attribute [local irreducible] OQ OS OX Rd T TL GX GL AL AI RV wpG SAny Calls
theorem repay_T (bd gB cB gA oA cf i j : Nat) (o : Off) (tgd tgb : Tg) (price kept : Int) (C : List Bk) (x : Bk) (w : World) (hw : Has w ⟨[bd, gB], []⟩ [(bd, offCells o (some ⟨gA, oA, none⟩) cf (some ⟨gB, 0, none⟩) cB, tgd), (gB, (C.map bkCells).flatten, tgb)] w)
    (hx : C[j]? = some x) (hf : x.flight = (i : Int)) (hi : i < o.fl.length) (hp : w.cell? ⟨gA, oA + i * 4 + 1, none⟩ = some (.int .i64 price)) (hm : gA ∉ [bd, gB]) (hb1 : -1000000000 ≤ o.out ∧ o.out ≤ 1000000000) (hb2 : 0 ≤ price ∧ price ≤ 1000000) (hb3 : 0 ≤ kept ∧ kept ≤ 1000000) :
    Calls Try.prog 135 #[.pointer (some ⟨bd, 0, none⟩), .pointer (some ⟨gB, 0 + j * 3, none⟩), .int .i64 kept] w fun e w' => ∃ v H', e = .returned v ∧ (v = .tuple #[] ∧ H' = [(bd, offCells { o with out := o.out + (price - kept) } (some ⟨gA, oA, none⟩) cf (some ⟨gB, 0, none⟩) cB, tgd), (gB, ((C.set j ⟨x.flight, 4, kept⟩).map bkCells).flatten, tgb)]) ∧ Has w ⟨[bd, gB], []⟩ H' w' := by
  obtain ⟨f, st, kp⟩ := x
  simp only at hf
  subst hf
  have c0 := hp
  have m0 := hm
  have hjl := (List.getElem?_eq_some_iff.1 hx).1
  have hS1 := bk_set1 hx 4
  have hx1 : (C.set j ⟨(i : Int), 4, kp⟩)[j]? = some ⟨(i : Int), 4, kp⟩ := by simp [hjl]
  have hS2 := bk_set2 hx1 kept
  rw [List.set_set] at hS2
  simp only at hS1 hS2
  have room1 := Nat.le_of_succ_le (bk_room hx)
  have room2 := bk_room hx1
  have hx2 : (C.set j ⟨(i : Int), 4, kept⟩)[j]? = some ⟨(i : Int), 4, kept⟩ := by simp [hjl]
  obtain ⟨r0, r1, r2⟩ := bk_at hx2
  simp only at r0 r1 r2 ⊢
  have hO := desk_out o (some ⟨gA, oA, none⟩) cf (some ⟨gB, 0, none⟩) cB (o.out + (price - kept))
  refine (enter (c := cxM [bd, gB] w 36) (H := [(bd, offCells o (some ⟨gA, oA, none⟩) cf (some ⟨gB, 0, none⟩) cB, tgd), (gB, (C.map bkCells).flatten, tgb)]) (F := frOf 0 _) (PV := fun v H => v = .tuple #[] ∧ HpSub H [(bd, offCells { o with out := o.out + (price - kept) } (some ⟨gA, oA, none⟩) cf (some ⟨gB, 0, none⟩) cB, tgd), (gB, ((C.set j ⟨(i : Int), 4, kept⟩).map bkCells).flatten, tgb)]) Try.func135 rfl rfl rfl (fun d v hv => (look_frOf _ 0 d v hv).2) hw ?_).mono fun e w' ⟨v, H', h1, ⟨h2, h3⟩, h4⟩ => ⟨v, _, h1, ⟨h2, rfl⟩, h4.sub h3⟩
  repeat' (first | ((with_reducible apply oq_id); first | (focus ((with_reducible apply oq_indexAddrN); (iterate 4 exact rfl); omega)) | (apply oq_fn; exact rfl; try first | exact trivial | (and_intros <;> omega)) | ((with_reducible apply oq_load); exact rfl; exact rfl)) | ((with_reducible apply tl_id); first | (with_reducible apply tl_nil) | ((with_reducible apply u_q); (iterate 4 exact rfl)) | ((with_reducible apply u_s0); exact rfl; exact rfl)) | ((with_reducible apply gx_id); first | (with_reducible apply v_nil) | ((with_reducible apply v_q); (iterate 3 exact rfl))) | ((with_reducible apply os_id); first | ((with_reducible apply os_storeB (hC := hS1)); (iterate 4 exact rfl); (repeat (first | exact P0 | apply P1)); exact room1) | ((with_reducible apply os_storeB (hC := hS2)); (iterate 4 exact rfl); (repeat (first | exact P0 | apply P1)); exact room2) | ((with_reducible apply os_storeB (hC := hO)); (iterate 4 exact rfl); (repeat (first | exact P0 | apply P1)); exact Nat.le_refl 7)) | ((with_reducible apply ai_s0); (iterate 4 exact rfl)) | ((with_reducible apply rd_id); first | (apply Rd.own; (repeat (first | exact P0 | apply P1)); first | exact r0 | exact r1 | exact r2; done) | (apply Rd.own; (repeat (first | exact P0 | apply P1)); exact rfl; done) | (apply Rd.old; (first | (with_reducible assumption) | exact c0 | exact c1 | exact c2 | exact c3 | exact c4 | exact c5 | exact c6 | exact c7 | exact c8 | exact d0 | exact d1 | exact d2 | exact d3 | exact d4 | exact d5); first | exact List.not_mem_nil | exact m0 | exact m1 | exact m2 | exact m3 | exact m4 | exact m5 | exact m6 | exact m7 | exact m8 | exact m9)) | ((with_reducible apply t_id); first | (apply t_mix (id := 1) [0, 1, 2, 3, 4, 5, 6, 7, 8, 9, 10, 11, 12, 13, 14, 15, 16, 17, 18, 19, 20, 21, 22] 1 #[false, false, false, false, false, false, false, false, false, false, false, false, false, false, false, false, false, false, false, false, false, false, false, true]; kernel_rfl; kernel_rfl; exact rfl) | (with_reducible apply t_seq) | (apply t_region; kernel_rfl)) | with_reducible apply q_thenN | (with_reducible apply end_normal) | exact rvs_nil | ((with_reducible apply al_id); first | (apply al_done; decide +kernel) | (apply al_one 23; decide +kernel)))
  all_goals (refine ⟨rfl, ?_⟩)
  all_goals (repeat (first | exact HpSub.refl _ | (apply HpSub.consE; (repeat (first | exact P0 | apply P1)); exact rfl) | exact HpSub.nil))
theorem give_T (bd : Nat) (o : Off) (x y : Option (Nat × Nat)) (hxn : x = none → o.fl.length = 0) (hyn : y = none → o.bk.length = 0) (w : World) (hw : Has w ⟨(deskH bd o x y).map Prod.fst, []⟩ (deskH bd o x y) w) (hn2 : o.bk.length ≤ 1000) (i : Nat) (d : Dep) (hi : o.fl[i]? = some d) (hs : 0 ≤ d.seats ∧ d.seats ≤ 100000) :
    Calls Try.prog 134 #[.pointer (some ⟨bd, 0, none⟩), .int .i64 (i : Int)] w fun e w' => ∃ v H', e = .returned v ∧ (v = .tuple #[] ∧ H' = deskH bd (givenV o i) x y) ∧ Has w ⟨(deskH bd o x y).map Prod.fst, []⟩ H' w' := by
  have hil := (List.getElem?_eq_some_iff.1 hi).1
  rcases x with _ | ⟨gF, cF⟩
  · exact absurd (hxn rfl) (by omega)
  have hy0 : ∃ gB, 0 < o.bk.length → clA y = some ⟨gB, 0, none⟩ := by
    rcases y with _ | ⟨gB, cB⟩
    · exact ⟨0, fun h => absurd (hyn rfl) (by omega)⟩
    · exact ⟨gB, fun _ => rfl⟩
  obtain ⟨gB, hgB⟩ := hy0
  have hfree : freeV o i = d.seats - manyV o.bk i 1 := by unfold freeV; rw [hi]
  obtain ⟨fin, hfin⟩ : ∃ fin, giveL (i : Int) (freeV o i) o.bk = fin := ⟨_, rfl⟩
  have hfl : fin.length = o.bk.length := by rw [← hfin]; exact giveL_length _ _ _
  have hgo : deskH bd (givenV o i) (some (gF, cF)) y = (bd, offCells o (some ⟨gF, 0, none⟩) cF (clA y) (clC y), some (135, 7, 1)) :: (gF, (o.fl.map depCells).flatten, some (106, 4, cF)) :: clH 71 3 (fin.map bkCells).flatten y := by
    unfold deskH flH bkH givenV
    rw [clH_some, hfin]
    rw [offCells_len (o := o) (o' := { o with bk := fin }) rfl rfl rfl rfl rfl rfl hfl]
    rfl
  obtain ⟨r0, r1, r2, r3⟩ := dep_at hi
  obtain ⟨M, hM⟩ : ∃ M, (deskH bd o (some (gF, cF)) y).map Prod.fst = M := ⟨_, rfl⟩
  rw [hM] at hw ⊢
  refine (enter (c := cxM M w 32) (H := deskH bd o (some (gF, cF)) y) (F := frOf 0 _) (PV := fun v H => v = .tuple #[] ∧ HpSub H (deskH bd (givenV o i) (some (gF, cF)) y)) Try.func134 rfl rfl rfl (fun d v hv => (look_frOf _ 0 d v hv).2) hw ?_).mono fun e w' ⟨v, H', h1, ⟨h2, h3⟩, h4⟩ => ⟨v, _, h1, ⟨h2, rfl⟩, h4.sub h3⟩
  rw [hgo]
  unfold deskH flH bkH
  simp only [clH_some, clA_some, clC_some, List.cons_append, List.nil_append]
  refine t_cut (ι := Nat) (fun bn => [(0, .pointer (some ⟨bd, 0, none⟩)), (1, .int .i64 (i : Int)), (4, .pointer (some ⟨bn, 0, none⟩))]) (fun bn => (bn, [.int .i64 (freeV o i)], some (3, 1, 1)) :: (bd, offCells o (some ⟨gF, 0, none⟩) cF (clA y) (clC y), some (135, 7, 1)) :: (gF, (o.fl.map depCells).flatten, some (106, 4, cF)) :: clH 71 3 (o.bk.map bkCells).flatten y) (fun _ => True) ?_ ?_
  · have HM := fun g cp w1 hD1 hS => count_calls bd o (some ⟨gF, 0, none⟩) cF (clA y) (clC y) w1 hD1 (by omega) (i : Int) (some ⟨g, 0, none⟩) 1 cp [1] hS (by omega)
    rw [mt_many] at HM
    have hm1 := many_in o.bk (i : Int) 1 o.bk.length
    rw [many_all (Nat.le_refl _)] at hm1
    rw [hfree]
    obtain ⟨mv, hmv⟩ : ∃ mv, manyV o.bk (i : Int) 1 = mv := ⟨_, rfl⟩
    rw [hmv] at HM hm1 ⊢
    repeat' (first | ((with_reducible apply oq_id); first | (focus ((with_reducible apply oq_indexAddrN); (iterate 4 exact rfl); omega)) | (apply oq_fn; exact rfl; try first | exact trivial | (and_intros <;> omega)) | ((with_reducible apply oq_load); exact rfl; exact rfl) | ((with_reducible apply oq_call (k := 64) (hc := Try.call64)); exact rfl; exact rfl; exact fun D w1 hw1 => HM _ _ w1 (desk_of (x := some (gF, cF)) hw1 (by (repeat (first | exact HpSub.refl _ | (apply HpSub.consE; (repeat (first | exact P0 | apply P1 | apply PA)); exact rfl) | apply HpSub.skipX | apply HpSub.skipX | exact HpSub.nil))) (fun h => by cases h) hyn) (one8 hw1 (by (repeat (first | exact P0 | apply P1 | apply PA)))))) | ((with_reducible apply gx_id); first | (with_reducible apply v_nil) | ((with_reducible apply v_q); (iterate 3 exact rfl))) | ((with_reducible apply os_store); (iterate 4 exact rfl)) | ((with_reducible apply ox_id); first | ((with_reducible apply ox_alloc); exact rfl; intro _) | ((with_reducible apply ox_buildSlice1); (iterate 6 exact rfl); intro _)) | ((with_reducible apply ai_id); first | ((with_reducible apply ai_q); (iterate 5 exact rfl)) | ((with_reducible apply ai_x); (iterate 5 exact rfl)) | ((with_reducible apply ai_n0); (iterate 3 exact rfl))) | ((with_reducible apply al_keep); focus (repeat (first | exact HpSub.refl _ | (apply HpSub.cons; (repeat (first | exact P0 | apply P1 | apply PA))) | apply HpSub.skipX | exact HpSub.nil))) | ((with_reducible apply rd_id); first | (apply Rd.own; (repeat (first | exact P0 | apply P1 | apply PA)); first | exact r0 | exact r1 | exact r2 | exact r3; done) | (apply Rd.own; (repeat (first | exact P0 | apply P1 | apply PA)); exact rfl; done)) | ((with_reducible apply t_id); first | (apply t_mix (id := 0) [0, 1, 2, 3, 4, 5, 6, 7, 8, 9, 10] 5 #[false, false, false, false, false, false, false, false, false, false, false, false, false, false, false, false]; kernel_rfl; kernel_rfl; exact rfl)) | exact P0 | (first | (with_reducible apply P1) | (with_reducible apply PA)) | ((with_reducible apply Norm.nil); exact rfl) | ((with_reducible apply Norm.cons); exact rfl) | ((with_reducible apply al_id); first | (apply al_done; decide +kernel) | (apply al_one 11; decide +kernel) | (apply al_one 12; decide +kernel) | (apply al_one 13; decide +kernel) | (apply al_one 14; decide +kernel) | (apply al_one 15; decide +kernel) | (apply al_two 11 14; decide +kernel) | (apply al_two 12 14; decide +kernel) | (apply al_two 13 14; decide +kernel)) | exact Nat.le_of_ble_eq_true rfl)
    all_goals (refine ⟨by trivial, _, trivial, by (repeat (first | exact FrSub.nil | (apply FrSub.cons; exact rfl))), ?_⟩)
    all_goals (repeat (first | exact HpSub.refl _ | (apply HpSub.consE; (repeat (first | exact P0 | apply P1 | apply PA)); exact rfl) | apply HpSub.skipX | exact HpSub.nil))
  rintro bn -
  repeat' (first | ((with_reducible apply oq_id); first | (apply oq_fn; exact rfl; try first | exact trivial | (and_intros <;> omega))) | ((with_reducible apply tl_id); first | (with_reducible apply tl_nil) | ((with_reducible apply u_s); (iterate 3 exact rfl); (with_reducible apply os_callF (PV := OfV bd i (some ⟨_, 0, none⟩) 1 1) (k := 70) (hc := Try.call70)); exact rfl; exact rfl; exact fun D w1 hw1 => of_T _ _ _ _ _ w1; rintro v H' ⟨b0, b1, b2, rfl, rfl⟩; (try simp only [List.cons_append, List.nil_append])) | ((with_reducible apply u_q); (iterate 4 exact rfl)) | ((with_reducible apply u_s); (iterate 3 exact rfl))) | ((with_reducible apply os_x); exact rfl) | ((with_reducible apply ox_buildSlice1); (iterate 6 exact rfl); intro _) | ((with_reducible apply t_id); first | (with_reducible apply t_seq) | (apply t_region; kernel_rfl) | (with_reducible apply t_block)) | with_reducible apply q_thenN)
  rename_i bs
  refine t_rangeV (m := 1) (α := Ix o.bk.length) (β := Unit) (κ := Int) (ι := Int × List Bk) (encs := fun z => [.pointer (some ⟨gB, 0 + z.1 * 3, none⟩)]) (Rq := fun _ W => OfAt b0 b1 b2 bd (clA y) o.bk.length (clC y) i (some ⟨bs, 0, none⟩) 1 1 [2] W) (G := OfG (clA y) o.bk.length i [2]) (E := OfE (clA y) o.bk.length i [2])
    (hk := (b2, [.slice (some ⟨bs, 0, none⟩) 1 1], some (109, 1, 1)) :: (b1, [.int .i64 i], some (3, 1, 1)) :: (b0, [.pointer (some ⟨bd, 0, none⟩)], some (121, 1, 1)) :: (bs, [.int .u8 2], some (5, 1, 1)) :: (bd, offCells o (some ⟨gF, 0, none⟩) cF (clA y) (clC y), some (135, 7, 1)) :: (gF, (o.fl.map depCells).flatten, some (106, 4, cF)) :: [])
    (fun z => (bn, [.int .i64 z.1], some (3, 1, 1)) :: clH 71 3 (z.2.map bkCells).flatten y) (fun pre z => GivR o i (freeV o i) (bnd pre) z.1 z.2) (fun _ _ => []) (fun z _ => [(5, .pointer (some ⟨gB, 0 + z.1 * 3, none⟩)), (4, .pointer (some ⟨bn, 0, none⟩))]) (fun n => (bn, [.int .i64 n], some (3, 1, 1)) :: clH 71 3 (fin.map bkCells).flatten y)
    (fun k _ n => k = .ret) (freeV o i, o.bk) rfl Try.call100
    (of1_seqV 2 b0 b1 b2 bd gB 0 (clA y) o.bk.length (clC y) i (some ⟨bs, 0, none⟩) 1 1 [2] hgB (by omega) (by omega)) (fun n0 x => OfG.abide _ _ _ _ n0 x) (fun n0 => OfE.abide _ _ _ _ n0) ?rq ?h0 ?sub ?ok ?done ?stop
  case rq =>
    rintro pre ⟨n, C⟩ D W ⟨hlen, hR, hn1, hn2⟩ hw
    have hrd : RdS W 3 (clA y) o.bk.length (C.map bkCells) := clH_rows (hw.left.sub (HpSub.skipX (HpSub.refl _))) (fun _ => rfl) hlen hyn
    have hw' := hw.right
    exact ⟨hw'.cellAt (by (repeat (first | exact P0 | apply P1 | apply PA))) rfl, hw'.cellAt (by (repeat (first | exact P0 | apply P1 | apply PA))) rfl, hw'.cellAt (by (repeat (first | exact P0 | apply P1 | apply PA))) rfl, one8 hw' (by (repeat (first | exact P0 | apply P1 | apply PA))), hw'.cellAt (by (repeat (first | exact P0 | apply P1 | apply PA))) rfl, _, hrd⟩
  case h0 =>
    have hm1 := many_in o.bk (i : Int) 1 o.bk.length
    rw [many_all (Nat.le_refl _)] at hm1
    refine ⟨rfl, by simp [bnd_nil], ?_, ?_⟩ <;> rw [hfree] <;> omega
  case sub =>
    simp only [List.cons_append, List.nil_append]
    refine HpSub.cons (C := [.int .i64 (freeV o i)]) (by (repeat (first | exact P0 | apply P1 | apply PA))) ?_
    rcases y with _ | ⟨gB', cB'⟩ <;> simp only [clH, List.nil_append, List.cons_append]
    all_goals (repeat (first | exact HpSub.refl _ | (apply HpSub.consE; (repeat (first | exact P0 | apply P1 | apply PA)); exact rfl) | apply HpSub.skipX | exact HpSub.nil))
  case ok =>
    refine ⟨fun _ => rfl, rfl, fun x W => .inr ?_, fun x b i n W D hb hw _ y hy => (List.not_mem_nil hy).elim, fun l' pre z s b W D ⟨hlen, hR, hn1, hn3⟩ hw hG hl' => ?_⟩
    · refine sl0_region (by kernel_rfl) ?_
      repeat' (first | ((with_reducible apply oq_id); first | (apply oq_fn; exact rfl; try first | exact trivial | (and_intros <;> omega))) | ((with_reducible apply tl_id); first | (with_reducible apply tl_nil) | ((with_reducible apply u_q); (iterate 4 exact rfl))))
      refine ⟨(), ?_, ?_⟩
      · (repeat (first | exact FrSub.nil | (apply FrSub.cons; exact rfl)))
      · (repeat (first | exact HpSub.refl _ | (apply HpSub.consE; (repeat (first | exact P0 | apply P1 | apply PA)); exact rfl) | apply HpSub.skipX | exact HpSub.nil))
    · obtain ⟨n, C⟩ := s
      simp only at hlen hR hn1 hn3
      obtain ⟨hbe, bk', hr', hm, hno⟩ := hG
      have hzl : z.1 < o.bk.length := z.2
      rcases y with _ | ⟨gB', cB⟩
      · exact absurd (hyn rfl) (by omega)
      obtain rfl : gB' = gB := by have := hgB (by omega); cases this; rfl
      simp only [List.cons_append, List.nil_append, clH_some, clA_some, clC_some] at hw hr' ⊢
      obtain rfl : bk' = C := bk_inj (hr'.inj (clH_rows (x := some (gB', cB)) (hw.sub (by refine HpSub.skipX ?_; simp only [clH_some]; (repeat (first | exact HpSub.refl _ | (apply HpSub.consE; (repeat (first | exact P0 | apply P1 | apply PA)); exact rfl) | apply HpSub.skipX | exact HpSub.nil)))) (fun _ => rfl) hlen (fun h => by cases h)))
      have hgz : bk'[z.1]? = some bk'[z.1] := List.getElem?_eq_getElem (by omega)
      obtain ⟨u, hu⟩ : ∃ u, bk'[z.1]? = some u := ⟨_, hgz⟩
      have hmu := hm u hu
      rw [mt_isB] at hmu
      rw [hfin] at hR
      have hR2 := giv_gap (behind_iff.1 hbe) (fun j y h1 h2 h3 => (by rw [← mt_isB]; exact hno j y (behind_iff.2 h1) h2 h3)) hR
      have hS1 := bk_set1 hu 1
      have room1 := Nat.le_of_succ_le (bk_room hu)
      by_cases hneg : n - 1 < 0
      · repeat' (first | ((with_reducible apply oq_id); first | ((with_reducible apply oq_lssT); exact rfl; exact rfl; omega) | (apply oq_fn; exact rfl; try first | exact trivial | (and_intros <;> omega)) | ((with_reducible apply oq_load); exact rfl; exact rfl)) | ((with_reducible apply tl_id); first | (with_reducible apply tl_nil) | ((with_reducible apply u_q); (iterate 4 exact rfl)) | ((with_reducible apply u_s0); exact rfl; exact rfl)) | ((with_reducible apply os_store); (iterate 4 exact rfl)) | ((with_reducible apply rd_id); first | (apply Rd.own; (repeat (first | exact P0 | apply P1 | apply PA)); exact rfl; done)) | ((with_reducible apply t_id); first | (with_reducible apply t_seq) | (apply t_region; kernel_rfl) | ((with_reducible apply t_condT); exact rfl) | (with_reducible apply t_ret) | (with_reducible apply t_block)) | with_reducible apply q_thenN | with_reducible apply q_thenR | with_reducible apply q_blockR | exact P0 | ((with_reducible apply Norm.nil); exact rfl) | ((with_reducible apply Norm.cons); exact rfl) | exact Nat.le_of_ble_eq_true rfl)
        refine ⟨n - 1, rfl, ?_⟩
        rw [giv_stop (by omega) hR2]
        (repeat (first | exact HpSub.refl _ | (apply HpSub.consE; (repeat (first | exact P0 | apply P1 | apply PA)); exact rfl) | apply HpSub.skipX | exact HpSub.nil))
      · have hR3 := giv_hit hu hmu (by omega) hR2
        repeat' (first | ((with_reducible apply oq_id); first | ((with_reducible apply oq_lssF); exact rfl; exact rfl; omega) | (apply oq_fn; exact rfl; try first | exact trivial | (and_intros <;> omega)) | ((with_reducible apply oq_load); exact rfl; exact rfl)) | ((with_reducible apply tl_id); first | (with_reducible apply tl_nil) | ((with_reducible apply u_q); (iterate 4 exact rfl)) | ((with_reducible apply u_s0); exact rfl; exact rfl)) | ((with_reducible apply os_id); first | ((with_reducible apply os_storeB (hC := hS1)); (iterate 4 exact rfl); (repeat (first | exact P0 | apply P1 | apply PA)); exact room1) | ((with_reducible apply os_store); (iterate 4 exact rfl))) | ((with_reducible apply rd_id); first | (apply Rd.own; (repeat (first | exact P0 | apply P1 | apply PA)); exact rfl; done)) | ((with_reducible apply t_id); first | (with_reducible apply t_seq) | (apply t_region; kernel_rfl) | ((with_reducible apply t_condF); exact rfl) | (with_reducible apply t_skip) | (with_reducible apply t_block)) | with_reducible apply q_thenN | with_reducible apply q_blockN | exact P0 | ((with_reducible apply Norm.nil); exact rfl) | ((with_reducible apply Norm.cons); exact rfl) | exact Nat.le_of_ble_eq_true rfl)
        refine ⟨(n - 1, bk'.set z.1 ⟨u.flight, 1, u.kept⟩), ⟨by simpa using hlen, by rw [bnd_snoc hbe, hfin]; exact hR3, by simp only; omega, by simp only; omega⟩, ?_⟩
        simp only [clH_some]
        (repeat (first | exact HpSub.refl _ | (apply HpSub.consE; (repeat (first | exact P0 | apply P1 | apply PA)); exact rfl) | apply HpSub.skipX | exact HpSub.nil))
  case done =>
    rintro D xs ⟨n, C⟩ W ⟨bk', hr', hno⟩ ⟨hlen, hR, hn1, hn3⟩ hw
    simp only at hlen hR hn1 hn3 hw ⊢
    have hrd : RdS W 3 (clA y) o.bk.length (C.map bkCells) := clH_rows (hw.left.sub (HpSub.skipX (HpSub.refl _))) (fun _ => rfl) hlen hyn
    obtain rfl : bk' = C := bk_inj (hr'.inj hrd)
    rw [hfin] at hR
    obtain rfl := giv_end (fun j y h1 h2 => (by rw [← mt_isB]; exact hno j y (behind_iff.2 h1) h2)) hR
    simp only [List.cons_append]
    repeat' (first | with_reducible apply q_blockN | (with_reducible apply end_normal) | exact rvs_nil)
    all_goals (refine ⟨rfl, ?_⟩)
    all_goals (rcases y with _ | ⟨gB', cB'⟩ <;> simp only [clH, List.nil_append, List.cons_append])
    all_goals (repeat (first | exact HpSub.refl _ | (apply HpSub.consE; (repeat (first | exact P0 | apply P1 | apply PA)); exact rfl) | apply HpSub.skipX | exact HpSub.nil))
  case stop =>
    rintro k pre n rfl
    simp only [List.cons_append]
    repeat' (first | (with_reducible apply t_ret) | with_reducible apply q_blockR | (with_reducible apply end_ret) | exact rvs_nil)
    all_goals (refine ⟨rfl, ?_⟩)
    all_goals (rcases y with _ | ⟨gB', cB'⟩ <;> simp only [clH, List.nil_append, List.cons_append])
    all_goals (repeat (first | exact HpSub.refl _ | (apply HpSub.consE; (repeat (first | exact P0 | apply P1 | apply PA)); exact rfl) | apply HpSub.skipX | exact HpSub.nil))
theorem tick_T (bd : Nat) (o : Off) (x y : Option (Nat × Nat)) (hxn : x = none → o.fl.length = 0) (hyn : y = none → o.bk.length = 0) (hv : OkO o) (w : World) (hw : Has w ⟨(deskH bd o x y).map Prod.fst, []⟩ (deskH bd o x y) w) (dk dn ds dp dl : Int) (h : 1 ≤ dn ∧ dn ≤ 1000000 ∧ o.now + dn ≤ 1000000) : Calls Try.prog 128 #[.pointer (some ⟨bd, 0, none⟩), .agg ⟨[.int .u8 dk, .int .i64 dn, .int .i64 ds, .int .i64 dp, .int .i64 dl]⟩] w fun e w' => ∃ v H', e = .returned v ∧ DV bd ({ o with now := o.now + dn }) v H' ∧ Has w ⟨(deskH bd o x y).map Prod.fst, []⟩ H' w' := by
  have hq := allFrom_t (lo := 1) (hi := 1000000) (z := dn) ⟨h.1, h.2.1⟩
  have hO := desk_now o (clA x) (clC x) (clA y) (clC y) (o.now + dn)
  obtain ⟨M, hM⟩ : ∃ M, (deskH bd o x y).map Prod.fst = M := ⟨_, rfl⟩
  rw [hM] at hw ⊢
  have hnow := hv.now
  refine ds_dv (enter (c := cxM M w 31) (H := deskH bd o x y) (F := frOf 0 _) Try.func128 rfl rfl rfl (fun d v hv => (look_frOf _ 0 d v hv).2) hw ?_)
  unfold deskH flH bkH
  repeat' (first | ((with_reducible apply oq_id); first | ((with_reducible apply oq_leqT); exact rfl; exact rfl; omega) | (apply oq_fn; exact rfl; try first | exact trivial | (and_intros <;> omega)) | ((with_reducible apply oq_load); exact rfl; exact rfl) | ((with_reducible apply oq_call (k := 63) (hc := Try.call63)); exact rfl; exact rfl; exact fun D w1 hw1 => fromOne hq hw1 (by (repeat (first | exact P0 | apply P1 | apply PA)))) | ((with_reducible apply oq_call (k := 106) (hc := Try.call106)); exact rfl; exact rfl; exact fun D w1 hw1 => must_ok _ w1)) | ((with_reducible apply tl_id); first | (with_reducible apply tl_nil) | ((with_reducible apply u_s); (iterate 3 exact rfl))) | ((with_reducible apply gx_id); first | (with_reducible apply v_nil) | ((with_reducible apply v_q); (iterate 3 exact rfl))) | ((with_reducible apply os_id); first | ((with_reducible apply os_storeB (hC := hO)); (iterate 4 exact rfl); (repeat (first | exact P0 | apply P1 | apply PA)); exact Nat.le_of_ble_eq_true rfl) | ((with_reducible apply os_x); exact rfl)) | ((with_reducible apply ox_id); first | ((with_reducible apply ox_boxAgg); exact rfl; intro _) | ((with_reducible apply ox_buildSlice1); (iterate 6 exact rfl); intro _)) | ((with_reducible apply ai_id); first | ((with_reducible apply ai_q); (iterate 5 exact rfl)) | ((with_reducible apply ai_x); (iterate 5 exact rfl)) | ((with_reducible apply ai_s0); (iterate 4 exact rfl))) | ((with_reducible apply rd_id); first | (apply Rd.own; (repeat (first | exact P0 | apply P1 | apply PA)); exact rfl; done)) | ((with_reducible apply t_id); first | (apply t_mix (id := 1) [0, 1] 14 #[false, false, false, false, false, false, false, false, false, false, false, false, false, false, false, false]; kernel_rfl; kernel_rfl; exact rfl) | (apply t_mix (id := 2) [0, 1, 2, 3, 4, 5, 6, 7, 8, 9, 10] 1 #[false, false, false, false, false, false, false, false, false, false, false, true]; kernel_rfl; kernel_rfl; exact rfl) | (with_reducible apply t_seq) | (apply t_region; kernel_rfl)) | with_reducible apply q_thenN | (with_reducible apply end_normal) | exact rvs_nil | ((with_reducible apply al_id); first | (apply al_done; decide +kernel) | (apply al_one 2; decide +kernel) | (apply al_one 3; decide +kernel) | (apply al_one 4; decide +kernel) | (apply al_two 5 10; decide +kernel) | (apply al_two 6 10; decide +kernel) | (apply al_two 7 10; decide +kernel) | (apply al_two 8 10; decide +kernel) | (apply al_two 9 10; decide +kernel) | (apply al_one 10; decide +kernel) | (apply al_one 11; decide +kernel) | (apply al_one 12; decide +kernel) | (apply al_one 13; decide +kernel) | (apply al_one 14; decide +kernel) | (apply al_one 15; decide +kernel) | (apply al_two 9 11; decide +kernel) | (apply al_one 9; decide +kernel) | (apply al_two 8 11; decide +kernel) | (apply al_one 8; decide +kernel) | (apply al_two 7 11; decide +kernel) | (apply al_one 7; decide +kernel) | (apply al_two 6 11; decide +kernel) | (apply al_one 6; decide +kernel) | (apply al_two 5 11; decide +kernel) | (apply al_one 5; decide +kernel)))
  all_goals (refine ⟨rfl, x, y, hxn, hyn, ?_⟩)
  all_goals (unfold deskH flH bkH; rcases x with _ | ⟨gF, cF⟩ <;> rcases y with _ | ⟨gB, cB⟩ <;> simp only [clH, List.nil_append, List.cons_append, List.append_nil])
  all_goals (repeat (first | exact HpSub.refl _ | (apply HpSub.consE; (repeat (first | exact P0 | apply P1 | apply PA)); exact rfl) | apply HpSub.skipX | exact HpSub.nil))
end Go.Proofs.Ytmlmgipngbndgaa
namespace Go.Proofs.Ytmlmgipngbndgaa
open Go.RowKit
attribute [local irreducible] DT DE TE AE OP OQ OS OX Rd T TL GX GL AL AI RV wpG SAny Calls
/-- The call that a deal defers. -/
def dref (be : Nat) : Deferred := { target := .fn (.func 104) #[.pointer (some ⟨be, 0, none⟩)], args := #[] }
def doQ (be : Nat) (PV : Hp → Prop) (PP : Int → Hp → Prop) : QS := fun e F H => FrSub F [(4, .pointer (some ⟨be, 0, none⟩))] ∧ ∃ H2, HpSub H ((be, [.int .i64 0], some (27, 1, 1)) :: H2) ∧ ((e = .ret ∧ PV H2) ∨ ∃ z, e = .panic (refu z) ∧ PP z H2)
theorem doers_T (w : World) : Calls Try.prog 105 #[] w fun e w' => e = .returned (.agg #[.nilFunc, .func (.func 123) #[] #[], .func (.func 124) #[] #[], .func (.func 125) #[] #[], .func (.func 126) #[] #[], .func (.func 127) #[] #[], .func (.func 128) #[] #[], .func (.func 129) #[] #[]]) ∧ Ext w w' := by
  refine enterQ (c := cx w 2) Try.func105 rfl rfl rfl rfl ?_
  repeat' (first | ((with_reducible apply oq_buildA); (iterate 4 exact rfl)) | ((with_reducible apply tl_id); first | (with_reducible apply tl_nil) | ((with_reducible apply u_q); (iterate 4 exact rfl)) | ((with_reducible apply u_s0); exact rfl; exact rfl) | ((with_reducible apply u_s); (iterate 3 exact rfl))) | ((with_reducible apply os_id); first | ((with_reducible apply os_x); exact rfl) | ((with_reducible apply os_storeAgg); (iterate 5 exact rfl))) | ((with_reducible apply ox_alloc); exact rfl; intro _) | ((with_reducible apply rd_id); first | (apply Rd.own; (repeat (first | exact P0 | apply P1)); exact rfl; done)) | ((with_reducible apply t_id); first | (with_reducible apply t_seq) | (apply t_region; kernel_rfl) | (with_reducible apply t_ret)) | with_reducible apply q_thenN | exact P0 | exact Rdn.zero | apply Rdn.succ | ((with_reducible apply Norm.nil); exact rfl) | ((with_reducible apply Norm.cons); exact rfl) | (with_reducible apply end_ret) | exact rvs_nil | (with_reducible apply rvs_cons) | ((with_reducible apply rv_cellAgg); exact rfl; exact rfl) | exact Nat.le_of_ble_eq_true rfl)
  all_goals rfl
theorem FrSub.frm {D : List Nat} {N : Nat} {F G : Fr} {a : Act} (h : FrSub F G) (hf : Frm D N F a) : Frm D N G a := by
  refine ⟨hf.size, hf.defers, ?_⟩
  intro d v hd
  induction G with
  | nil => cases hd
  | cons p G ih =>
    obtain ⟨e, u⟩ := p
    by_cases he : e = d
    · subst he
      rw [look_cons_self] at hd
      cases hd
      exact hf.at_ _ _ h.1
    · rw [look_cons_ne _ _ he] at hd
      exact ih h.2 hd
theorem do_of {rest r0 r1 : Code} (hb : Try.f79.body = some (.seq r0 (.seq r1 rest))) (M : List Nat) (H0 : Hp) (w : World) (hw : Has w ⟨M, []⟩ H0 w) (bd : Nat) (cells : List Value) (hc : cells.length = 5) (PV : Hp → Prop) (PP : Int → Hp → Prop)
    (h : ∀ b3 be, DT (cxM M w 21) [dref be] rest (doQ be PV PP) [(0, .pointer (some ⟨bd, 0, none⟩)), (3, .pointer (some ⟨b3, 0, none⟩)), (4, .pointer (some ⟨be, 0, none⟩))] ((be, [.int .i64 0], some (27, 1, 1)) :: (b3, cells, some (63, 5, 1)) :: H0)) :
    Calls Try.prog 79 #[.pointer (some ⟨bd, 0, none⟩), .agg ⟨cells⟩] w fun e w' => (∃ H', e = .returned (.int .i64 0) ∧ PV H' ∧ Has w ⟨M, []⟩ H' w') ∨ ∃ z H', e = .returned (.int .i64 z) ∧ PP z H' ∧ Has w ⟨M, []⟩ H' w' := by
  have hb' := hb
  simp only [Try.f79, Option.some.injEq, Code.seq.injEq] at hb'
  obtain ⟨rfl, rfl, -⟩ := hb'
  refine calls_of_wp_defers Try.func79 hb ?_
  have hf0 : Fd (cxM M w 21) [] [(0, .pointer (some ⟨bd, 0, none⟩)), (1, .agg ⟨cells⟩)] { tmps := #[.pointer (some ⟨bd, 0, none⟩), .agg ⟨cells⟩] ++ Array.replicate (21 - 2) undef, defers := [] } := by
    refine ⟨⟨by simp, rfl, fun d v h => ?_⟩, rfl⟩
    rcases d with _ | _ | d
    · simpa [look] using h
    · simpa [look] using h
    · rw [look_cons_ne _ _ (by omega), look_cons_ne _ _ (by omega)] at h; cases h
  refine wp_seq (wp_mono (dt_run (c := cxM M w 21) (ds := []) (Q := fun e F H => e = .normal ∧ ∃ b3 be, FrSub F [(0, .pointer (some ⟨bd, 0, none⟩)), (3, .pointer (some ⟨b3, 0, none⟩)), (4, .pointer (some ⟨be, 0, none⟩))] ∧ HpSub H ((be, [.int .i64 0], some (27, 1, 1)) :: (b3, cells, some (63, 5, 1)) :: H0)) (F := [(0, .pointer (some ⟨bd, 0, none⟩)), (1, .agg ⟨cells⟩)]) (H := H0) ?R0 _ _ hf0 hw) ?_)
  case R0 =>
    repeat' (first | ((with_reducible apply os_x); exact rfl) | ((with_reducible apply ox_id); first | ((with_reducible apply ox_alloc); exact rfl; intro _) | ((with_reducible apply ox_boxAgg); exact rfl; intro _)) | ((with_reducible apply de_id); first | ((with_reducible apply d_s); (iterate 3 exact rfl)) | (with_reducible apply d_nil)) | ((with_reducible apply dt_id); first | (apply dt_region)))
    all_goals (refine ⟨rfl, _, _, ⟨rfl, rfl, rfl, trivial⟩, ?_⟩)
    all_goals (rw [hc]; exact HpSub.refl _)
  rintro e a w' ⟨F', H', ⟨rfl, b3, be, hfs, hhs⟩, ⟨hf1, hf2⟩, hw'⟩
  have hmf : ∀ (fn : Fn) (first cap : Array Value) (w : World), (Instr.makeFunc fn first cap).run Try.prog w = .ok (.func fn first cap) w := fun _ _ _ _ => rfl
  have hfr := hfs.frm hf1
  have he4 : a.eval (.tmp 4) = .pointer (some ⟨be, 0, none⟩) := eval_ds a ▸ hfr.ev (x := .tmp 4) rfl
  have hsz : a.tmps.size = 21 := hf1.size
  refine wp_seq (wp_region ?_)
  have he4' : a.tmps[4]?.getD undef = .pointer (some ⟨be, 0, none⟩) := by simpa [Act.eval] using he4
  have he5 : a.tmps[4]'(by omega) = .pointer (some ⟨be, 0, none⟩) := by simpa [hsz] using he4'
  simp [wpOps, go_sem, he5, hsz, hmf, Region.wanted, Oper.upon, Act.put, Exit.then]
  refine .inl (.inl ?_)
  rw [hf2]
  have hfd : Fd (cxM M w 21) [dref be] [(0, .pointer (some ⟨bd, 0, none⟩)), (3, .pointer (some ⟨b3, 0, none⟩)), (4, .pointer (some ⟨be, 0, none⟩))] { tmps := a.tmps.setIfInBounds 6 (.func (.func 104) #[] #[.pointer (some ⟨be, 0, none⟩)]), defers := [dref be] } :=
    ⟨FrSub.frm (F := (6, .func (.func 104) #[] #[.pointer (some ⟨be, 0, none⟩)]) :: [(0, .pointer (some ⟨bd, 0, none⟩)), (3, .pointer (some ⟨b3, 0, none⟩)), (4, .pointer (some ⟨be, 0, none⟩))]) ⟨rfl, rfl, rfl, trivial⟩ (hfr.put (d := 6) rfl (.func (.func 104) #[] #[.pointer (some ⟨be, 0, none⟩)])), rfl⟩
  refine wp_mono (Q := cvd (cxM M w 21) [dref be] (doQ be PV PP)) ?hx ?_
  case hx => exact dt_run (h b3 be) _ w' hfd (hw'.sub hhs)
  rintro e a2 w2 ⟨F2, H2', ⟨hs4, H2, hh2, hcase⟩, ⟨g1, g2⟩, hw2⟩
  have hwb : Has w2 ⟨[be], []⟩ [(be, [.int .i64 0], some (27, 1, 1))] w2 := (hw2.sub hh2).ownG (HpSub.cons P0 HpSub.nil)
  have hinv : ∀ w3, (invoke (.fn (.func 104) #[.pointer (some ⟨be, 0, none⟩)]) #[]).run Try.prog w3 = .ok (.enter 104 #[.pointer (some ⟨be, 0, none⟩)]) w3 := fun w3 => by simp [invoke, go_sem, Try.call104]
  have fin : ∀ (z : Int) (w3 : World), Has w2 ⟨[be], []⟩ [(be, [.int .i64 z], some (27, 1, 1))] w3 → (results Try.f79 a2.tmps).run Try.prog w3 = .ok (.int .i64 z) w3 ∧ Has w ⟨M, []⟩ H2 w3 := fun z w3 h3 => by
    have hc3 := Has.called (G := [(be, [.int .i64 0], some (27, 1, 1))]) (R := H2) (hw2.sub hh2) h3
    refine ⟨results_run (c := cxM M w 21) (fn := Try.f79) (rs := [.cell 4 27]) (vs := [.int .i64 z]) (D := []) (a := ⟨a2.tmps, []⟩) (F := [(4, .pointer (some ⟨be, 0, none⟩))]) rfl (hs4.frm g1) hc3 ⟨rv_cell (z0 := [.int .i64 0]) rfl rfl (Rd.own P0 rfl), trivial⟩, hc3.right⟩
  rcases hcase with ⟨rfl, hp⟩ | ⟨z, rfl, hp⟩
  · show Leaves Try.prog Try.f79 a2.tmps _ a2.defers .returning w2
    rw [g2]
    refine leaves_cons (f := 104) (args := #[.pointer (some ⟨be, 0, none⟩)]) (by simp) (hinv w2) ((rec_idle be 0 0 _ w2 hwb).mono ?_)
    rintro e u' w3 ⟨rfl, rfl, h3⟩
    obtain ⟨k1, k2⟩ := fin 0 w3 h3
    exact ⟨_, k1, .inl ⟨rfl, H2, hp, k2⟩⟩
  · show Leaves Try.prog Try.f79 a2.tmps _ a2.defers (.panicking (refu z)) w2
    rw [g2]
    refine leaves_cons (f := 104) (args := #[.pointer (some ⟨be, 0, none⟩)]) (by simp) (hinv w2) ((rec_pan be z 0 _ w2 hwb).mono ?_)
    rintro e u' w3 ⟨rfl, rfl, h3⟩
    obtain ⟨k1, k2⟩ := fin z w3 h3
    exact ⟨_, k1, .inr ⟨z, rfl, H2, hp, k2⟩⟩
end Go.Proofs.Ytmlmgipngbndgaa
namespace Go.Proofs.Ytmlmgipngbndgaa
open Go.RowKit
attribute [local irreducible] TE AE OP OQ OS OX Rd T TL GX GL AL AI RV wpG SAny Calls
theorem add_arg (bd : Nat) (o : Off) (A : Option Addr) (cf : Nat) (B : Option Addr) (cb : Nat) (w : World) (hD : Desk w bd o A cf B cb) (hn : o.fl.length ≤ 1000000) (hn2 : o.bk.length ≤ 1000000) (hnow : 0 ≤ o.now ∧ o.now ≤ 1000000) (dk dn ds dp dl : Int) (h : ¬ (depOk ⟨ds, dp, dl, 0⟩ = true ∧ o.now ≤ dl)) : Calls Try.prog 123 #[.pointer (some ⟨bd, 0, none⟩), .agg ⟨[.int .u8 dk, .int .i64 dn, .int .i64 ds, .int .i64 dp, .int .i64 dl]⟩] w fun e w' => e = .panicked (refu (2)) ∧ Ext w w' := by
  have d0 := hD.now
  have d3 := hD.fls
  have d4 := hD.bks
  have hA := hD.fl
  have hB := hD.bk
  obtain ⟨q, hfine⟩ : ∃ q, depOk ⟨ds, dp, dl, 0⟩ = q := ⟨_, rfl⟩
  rw [hfine] at h
  have hq : True := trivial
  cases q with
  | false =>
    refine enterPQ (c := cx w 45) Try.func123 rfl rfl rfl ?_
    repeat' (first | ((with_reducible apply oq_id); first | (apply oq_fn; exact rfl; try first | exact trivial | (and_intros <;> omega)) | ((with_reducible apply oq_load); exact rfl; exact rfl) | ((with_reducible apply oq_loadAgg); exact rfl; exact rfl) | ((with_reducible apply oq_call (k := 94) (hc := Try.call94)); exact rfl; exact rfl; exact fun D w1 hw1 => (hfine ▸ fine_calls _ _ _ _ w1)) | ((with_reducible apply oq_build); (iterate 3 exact rfl))) | ((with_reducible apply gx_id); first | (with_reducible apply v_nil) | ((with_reducible apply v_q); (iterate 3 exact rfl)) | ((with_reducible apply v_skip); (iterate 3 exact rfl))) | ((with_reducible apply os_id); first | ((with_reducible apply os_x); exact rfl) | ((with_reducible apply os_storeAgg); (iterate 5 exact rfl))) | ((with_reducible apply ox_id); first | ((with_reducible apply ox_alloc); exact rfl; intro _) | ((with_reducible apply ox_boxAgg); exact rfl; intro _)) | ((with_reducible apply rd_id); first | (apply Rd.own; (repeat (first | exact P0 | apply P1)); exact rfl; done)) | ((with_reducible apply t_id); first | (apply t_regionE) | (apply t_mixE (id := 2) [0, 1, 2, 3, 4, 5, 6, 7, 8, 9, 10, 11] 1 #[false, false, false, false, false, false, false, false, false, false, false, false, true]; kernel_rfl; kernel_rfl; exact rfl) | (with_reducible apply t_seq)) | with_reducible apply q_thenN | exact P0 | exact Rdn.zero | apply Rdn.succ | ((with_reducible apply Norm.nil); exact rfl) | ((with_reducible apply Norm.cons); exact rfl) | ((with_reducible apply te_id); first | ((with_reducible apply e_q); (iterate 4 exact rfl)) | ((with_reducible apply e_s0); exact rfl; exact rfl) | ((with_reducible apply e_s); (iterate 3 exact rfl)) | (with_reducible apply e_nil)) | ((with_reducible apply ae_id); first | (apply ae_p (i := 12); decide +kernel; (iterate 3 exact rfl); first | ((with_reducible apply op_call (k := 106) (hc := Try.call106)); exact rfl; exact rfl; exact fun D w1 hw1 => must_no _ w1) | ((with_reducible apply op_call (k := 133) (hc := Try.call133)); exact rfl; exact rfl; exact fun D w1 hw1 => flight_no bd o A cf B cb w1 (hD.ext hw1.ext.ext) hn _ hE))) | exact Nat.le_of_ble_eq_true rfl)
    all_goals exact ⟨_, rfl, rfl⟩
  | true =>
    have hlt : ¬ o.now ≤ dl := fun hh => h ⟨rfl, hh⟩
    refine enterPQ (c := cx w 45) Try.func123 rfl rfl rfl ?_
    repeat' (first | ((with_reducible apply oq_id); first | ((with_reducible apply oq_geqF); exact rfl; exact rfl; omega) | (apply oq_fn; exact rfl; try first | exact trivial | (and_intros <;> omega)) | ((with_reducible apply oq_load); exact rfl; exact rfl) | ((with_reducible apply oq_loadAgg); exact rfl; exact rfl) | ((with_reducible apply oq_call (k := 94) (hc := Try.call94)); exact rfl; exact rfl; exact fun D w1 hw1 => (hfine ▸ fine_calls _ _ _ _ w1)) | ((with_reducible apply oq_build); (iterate 3 exact rfl))) | ((with_reducible apply gx_id); first | (with_reducible apply v_nil) | ((with_reducible apply v_q); (iterate 3 exact rfl))) | ((with_reducible apply os_id); first | ((with_reducible apply os_x); exact rfl) | ((with_reducible apply os_storeAgg); (iterate 5 exact rfl))) | ((with_reducible apply ox_id); first | ((with_reducible apply ox_alloc); exact rfl; intro _) | ((with_reducible apply ox_boxAgg); exact rfl; intro _)) | ((with_reducible apply rd_id); first | (apply Rd.own; (repeat (first | exact P0 | apply P1)); exact rfl; done) | (apply Rd.old; (first | (with_reducible assumption) | exact c0 | exact c1 | exact c2 | exact c3 | exact c4 | exact c5 | exact c6 | exact c7 | exact c8 | exact d0 | exact d1 | exact d2 | exact d3 | exact d4 | exact d5); first | exact List.not_mem_nil | exact m0 | exact m1 | exact m2 | exact m3 | exact m4 | exact m5 | exact m6 | exact m7 | exact m8 | exact m9)) | ((with_reducible apply t_id); first | (apply t_regionE) | (apply t_mixE (id := 2) [0, 1, 2, 3, 4, 5, 6, 7, 8, 9, 10, 11] 1 #[false, false, false, false, false, false, false, false, false, false, false, false, true]; kernel_rfl; kernel_rfl; exact rfl) | (with_reducible apply t_seq)) | with_reducible apply q_thenN | exact P0 | exact Rdn.zero | apply Rdn.succ | ((with_reducible apply Norm.nil); exact rfl) | ((with_reducible apply Norm.cons); exact rfl) | ((with_reducible apply te_id); first | ((with_reducible apply e_q); (iterate 4 exact rfl)) | ((with_reducible apply e_s0); exact rfl; exact rfl) | ((with_reducible apply e_s); (iterate 3 exact rfl)) | (with_reducible apply e_nil)) | ((with_reducible apply ae_id); first | (apply ae_p (i := 12); decide +kernel; (iterate 3 exact rfl); first | ((with_reducible apply op_call (k := 106) (hc := Try.call106)); exact rfl; exact rfl; exact fun D w1 hw1 => must_no _ w1) | ((with_reducible apply op_call (k := 133) (hc := Try.call133)); exact rfl; exact rfl; exact fun D w1 hw1 => flight_no bd o A cf B cb w1 (hD.ext hw1.ext.ext) hn _ hE))) | exact Nat.le_of_ble_eq_true rfl)
    all_goals exact ⟨_, rfl, rfl⟩
theorem add_full (bd : Nat) (o : Off) (A : Option Addr) (cf : Nat) (B : Option Addr) (cb : Nat) (w : World) (hD : Desk w bd o A cf B cb) (hn : o.fl.length ≤ 1000000) (hn2 : o.bk.length ≤ 1000000) (hnow : 0 ≤ o.now ∧ o.now ≤ 1000000) (dk dn ds dp dl : Int) (h : depOk ⟨ds, dp, dl, 0⟩ = true ∧ o.now ≤ dl) (h2 : ¬ o.fl.length < 10) : Calls Try.prog 123 #[.pointer (some ⟨bd, 0, none⟩), .agg ⟨[.int .u8 dk, .int .i64 dn, .int .i64 ds, .int .i64 dp, .int .i64 dl]⟩] w fun e w' => e = .panicked (refu (9)) ∧ Ext w w' := by
  have d0 := hD.now
  have d3 := hD.fls
  have d4 := hD.bks
  have hA := hD.fl
  have hB := hD.bk
  obtain ⟨hfine, hlt⟩ := h
  refine enterPQ (c := cx w 45) Try.func123 rfl rfl rfl ?_
  repeat' (first | ((with_reducible apply oq_id); first | ((with_reducible apply oq_lssF); exact rfl; exact rfl; omega) | ((with_reducible apply oq_geqT); exact rfl; exact rfl; omega) | (apply oq_fn; exact rfl; try first | exact trivial | (and_intros <;> omega)) | ((with_reducible apply oq_load); exact rfl; exact rfl) | ((with_reducible apply oq_loadAgg); exact rfl; exact rfl) | ((with_reducible apply oq_call (k := 106) (hc := Try.call106)); exact rfl; exact rfl; exact fun D w1 hw1 => must_ok _ w1) | ((with_reducible apply oq_call (k := 94) (hc := Try.call94)); exact rfl; exact rfl; exact fun D w1 hw1 => (hfine ▸ fine_calls _ _ _ _ w1)) | ((with_reducible apply oq_build); (iterate 3 exact rfl))) | ((with_reducible apply gx_id); first | (with_reducible apply v_nil) | ((with_reducible apply v_q); (iterate 3 exact rfl))) | ((with_reducible apply os_id); first | ((with_reducible apply os_x); exact rfl) | ((with_reducible apply os_storeAgg); (iterate 5 exact rfl))) | ((with_reducible apply ox_id); first | ((with_reducible apply ox_alloc); exact rfl; intro _) | ((with_reducible apply ox_boxAgg); exact rfl; intro _)) | ((with_reducible apply rd_id); first | (apply Rd.own; (repeat (first | exact P0 | apply P1)); exact rfl; done) | (apply Rd.old; (first | (with_reducible assumption) | exact c0 | exact c1 | exact c2 | exact c3 | exact c4 | exact c5 | exact c6 | exact c7 | exact c8 | exact d0 | exact d1 | exact d2 | exact d3 | exact d4 | exact d5); first | exact List.not_mem_nil | exact m0 | exact m1 | exact m2 | exact m3 | exact m4 | exact m5 | exact m6 | exact m7 | exact m8 | exact m9)) | ((with_reducible apply t_id); first | (apply t_regionE) | (with_reducible apply t_seq) | (apply t_drawn; kernel_rfl; decide +kernel; try simp only [List.append_eq, List.cons_append, List.nil_append])) | with_reducible apply q_thenN | exact P0 | exact Rdn.zero | apply Rdn.succ | ((with_reducible apply Norm.nil); exact rfl) | ((with_reducible apply Norm.cons); exact rfl) | ((with_reducible apply te_id); first | ((with_reducible apply e_p); exact rfl; ((with_reducible apply op_call (k := 106) (hc := Try.call106)); exact rfl; exact rfl; exact fun D w1 hw1 => must_no _ w1)) | ((with_reducible apply e_q); (iterate 4 exact rfl)) | ((with_reducible apply e_s0); exact rfl; exact rfl) | ((with_reducible apply e_s); (iterate 3 exact rfl)) | (with_reducible apply e_nil)) | exact Nat.le_of_ble_eq_true rfl)
  all_goals exact ⟨_, rfl, rfl⟩
theorem sell_open (bd : Nat) (o : Off) (A : Option Addr) (cf : Nat) (B : Option Addr) (cb : Nat) (w : World) (hD : Desk w bd o A cf B cb) (hn : o.fl.length ≤ 1000000) (hn2 : o.bk.length ≤ 1000000) (hnow : 0 ≤ o.now ∧ o.now ≤ 1000000) (dk dn ds dp dl : Int) (hE : ¬ openE o dn = 0) : Calls Try.prog 124 #[.pointer (some ⟨bd, 0, none⟩), .agg ⟨[.int .u8 dk, .int .i64 dn, .int .i64 ds, .int .i64 dp, .int .i64 dl]⟩] w fun e w' => e = .panicked (refu (openE o dn)) ∧ Ext w w' := by
  have d0 := hD.now
  have d3 := hD.fls
  have d4 := hD.bks
  have hA := hD.fl
  have hB := hD.bk
  refine enterPQ (c := cx w 48) Try.func124 rfl rfl rfl ?_
  repeat' (first | ((with_reducible apply oq_id); first | (apply oq_fn; exact rfl; try first | exact trivial | (and_intros <;> omega)) | ((with_reducible apply oq_load); exact rfl; exact rfl)) | ((with_reducible apply os_x); exact rfl) | ((with_reducible apply ox_boxAgg); exact rfl; intro _) | ((with_reducible apply rd_id); first | (apply Rd.own; (repeat (first | exact P0 | apply P1)); exact rfl; done)) | ((with_reducible apply t_id); first | (apply t_regionE) | (with_reducible apply t_seq)) | with_reducible apply q_thenN | ((with_reducible apply te_id); first | ((with_reducible apply e_p); exact rfl; ((with_reducible apply op_call (k := 133) (hc := Try.call133)); exact rfl; exact rfl; exact fun D w1 hw1 => flight_no bd o A cf B cb w1 (hD.ext hw1.ext.ext) hn _ hE)) | ((with_reducible apply e_q); (iterate 4 exact rfl)) | ((with_reducible apply e_s); (iterate 3 exact rfl)) | (with_reducible apply e_nil)))
  all_goals exact ⟨_, rfl, rfl⟩
theorem sell_full (bd : Nat) (o : Off) (A : Option Addr) (cf : Nat) (B : Option Addr) (cb : Nat) (w : World) (hD : Desk w bd o A cf B cb) (hn : o.fl.length ≤ 1000000) (hn2 : o.bk.length ≤ 1000000) (hnow : 0 ≤ o.now ∧ o.now ≤ 1000000) (dk dn ds dp dl : Int) (hO : openE o dn = 0) (h2 : ¬ o.bk.length < 120) : Calls Try.prog 124 #[.pointer (some ⟨bd, 0, none⟩), .agg ⟨[.int .u8 dk, .int .i64 dn, .int .i64 ds, .int .i64 dp, .int .i64 dl]⟩] w fun e w' => e = .panicked (refu (9)) ∧ Ext w w' := by
  have d0 := hD.now
  have d3 := hD.fls
  have d4 := hD.bks
  have hA := hD.fl
  have hB := hD.bk
  obtain ⟨i, x, rfl, hi, h0⟩ := openE_ok hO
  have hil := (List.getElem?_eq_some_iff.1 hi).1
  obtain ⟨b1, o1, x', rfl, _, hx, c0, c1, c2, c3⟩ := dep_read hA hil
  obtain rfl : x = x' := by rw [hi] at hx; exact Option.some.inj hx
  refine enterPQ (c := cx w 48) Try.func124 rfl rfl rfl ?_
  repeat' (first | ((with_reducible apply oq_id); first | ((with_reducible apply oq_lssF); exact rfl; exact rfl; omega) | (apply oq_fn; exact rfl; try first | exact trivial | (and_intros <;> omega)) | ((with_reducible apply oq_load); exact rfl; exact rfl) | ((with_reducible apply oq_call (k := 133) (hc := Try.call133)); exact rfl; exact rfl; exact fun D w1 hw1 => flight_ok bd o _ cf B cb w1 (hD.ext hw1.ext.ext) hn _ _ rfl i x hi h0)) | ((with_reducible apply os_x); exact rfl) | ((with_reducible apply ox_boxAgg); exact rfl; intro _) | ((with_reducible apply rd_id); first | (apply Rd.own; (repeat (first | exact P0 | apply P1)); exact rfl; done) | (apply Rd.old; (first | (with_reducible assumption) | exact c0 | exact c1 | exact c2 | exact c3 | exact c4 | exact c5 | exact c6 | exact c7 | exact c8 | exact d0 | exact d1 | exact d2 | exact d3 | exact d4 | exact d5); first | exact List.not_mem_nil | exact m0 | exact m1 | exact m2 | exact m3 | exact m4 | exact m5 | exact m6 | exact m7 | exact m8 | exact m9)) | ((with_reducible apply t_id); first | (apply t_regionE) | (with_reducible apply t_seq)) | with_reducible apply q_thenN | ((with_reducible apply te_id); first | ((with_reducible apply e_p); exact rfl; ((with_reducible apply op_call (k := 106) (hc := Try.call106)); exact rfl; exact rfl; exact fun D w1 hw1 => must_no _ w1)) | ((with_reducible apply e_q); (iterate 4 exact rfl)) | ((with_reducible apply e_s); (iterate 3 exact rfl)) | (with_reducible apply e_nil)))
  all_goals exact ⟨_, rfl, rfl⟩
theorem off_open (bd : Nat) (o : Off) (A : Option Addr) (cf : Nat) (B : Option Addr) (cb : Nat) (w : World) (hD : Desk w bd o A cf B cb) (hn : o.fl.length ≤ 1000000) (hn2 : o.bk.length ≤ 1000000) (hnow : 0 ≤ o.now ∧ o.now ≤ 1000000) (dk dn ds dp dl : Int) (hE : ¬ openE o dn = 0) : Calls Try.prog 127 #[.pointer (some ⟨bd, 0, none⟩), .agg ⟨[.int .u8 dk, .int .i64 dn, .int .i64 ds, .int .i64 dp, .int .i64 dl]⟩] w fun e w' => e = .panicked (refu (openE o dn)) ∧ Ext w w' := by
  have d0 := hD.now
  have d3 := hD.fls
  have d4 := hD.bks
  have hA := hD.fl
  have hB := hD.bk
  refine enterPQ (c := cx w 20) Try.func127 rfl rfl rfl ?_
  repeat' (first | ((with_reducible apply oq_id); first | (apply oq_fn; exact rfl; try first | exact trivial | (and_intros <;> omega)) | ((with_reducible apply oq_load); exact rfl; exact rfl)) | ((with_reducible apply os_x); exact rfl) | ((with_reducible apply ox_id); first | ((with_reducible apply ox_box); exact rfl; exact rfl; intro _) | ((with_reducible apply ox_boxAgg); exact rfl; intro _)) | ((with_reducible apply rd_id); first | (apply Rd.own; (repeat (first | exact P0 | apply P1)); exact rfl; done)) | ((with_reducible apply t_id); first | (apply t_regionE) | (with_reducible apply t_seq)) | with_reducible apply q_thenN | ((with_reducible apply te_id); first | ((with_reducible apply e_p); exact rfl; ((with_reducible apply op_call (k := 133) (hc := Try.call133)); exact rfl; exact rfl; exact fun D w1 hw1 => flight_no bd o A cf B cb w1 (hD.ext hw1.ext.ext) hn _ hE)) | ((with_reducible apply e_q); (iterate 4 exact rfl)) | ((with_reducible apply e_s); (iterate 3 exact rfl)) | (with_reducible apply e_nil)))
  all_goals exact ⟨_, rfl, rfl⟩
theorem leave_open (bd : Nat) (o : Off) (A : Option Addr) (cf : Nat) (B : Option Addr) (cb : Nat) (w : World) (hD : Desk w bd o A cf B cb) (hn : o.fl.length ≤ 1000000) (hn2 : o.bk.length ≤ 1000000) (hnow : 0 ≤ o.now ∧ o.now ≤ 1000000) (dk dn ds dp dl : Int) (hE : ¬ openE o dn = 0) : Calls Try.prog 126 #[.pointer (some ⟨bd, 0, none⟩), .agg ⟨[.int .u8 dk, .int .i64 dn, .int .i64 ds, .int .i64 dp, .int .i64 dl]⟩] w fun e w' => e = .panicked (refu (openE o dn)) ∧ Ext w w' := by
  have d0 := hD.now
  have d3 := hD.fls
  have d4 := hD.bks
  have hA := hD.fl
  have hB := hD.bk
  refine enterPQ (c := cx w 41) Try.func126 rfl rfl rfl ?_
  repeat' (first | ((with_reducible apply oq_id); first | (apply oq_fn; exact rfl; try first | exact trivial | (and_intros <;> omega)) | ((with_reducible apply oq_load); exact rfl; exact rfl)) | ((with_reducible apply os_x); exact rfl) | ((with_reducible apply ox_id); first | ((with_reducible apply ox_box); exact rfl; exact rfl; intro _) | ((with_reducible apply ox_boxAgg); exact rfl; intro _)) | ((with_reducible apply rd_id); first | (apply Rd.own; (repeat (first | exact P0 | apply P1)); exact rfl; done)) | ((with_reducible apply t_id); first | (apply t_regionE) | (with_reducible apply t_seq)) | with_reducible apply q_thenN | ((with_reducible apply te_id); first | ((with_reducible apply e_p); exact rfl; ((with_reducible apply op_call (k := 133) (hc := Try.call133)); exact rfl; exact rfl; exact fun D w1 hw1 => flight_no bd o A cf B cb w1 (hD.ext hw1.ext.ext) hn _ hE)) | ((with_reducible apply e_q); (iterate 4 exact rfl)) | ((with_reducible apply e_s); (iterate 3 exact rfl)) | (with_reducible apply e_nil)))
  all_goals exact ⟨_, rfl, rfl⟩
theorem leave_early (bd : Nat) (o : Off) (A : Option Addr) (cf : Nat) (B : Option Addr) (cb : Nat) (w : World) (hD : Desk w bd o A cf B cb) (hn : o.fl.length ≤ 1000000) (hn2 : o.bk.length ≤ 1000000) (hnow : 0 ≤ o.now ∧ o.now ≤ 1000000) (dk dn ds dp dl : Int) (hO : openE o dn = 0) (h2 : ¬ (depAt o dn).leaves ≤ o.now) : Calls Try.prog 126 #[.pointer (some ⟨bd, 0, none⟩), .agg ⟨[.int .u8 dk, .int .i64 dn, .int .i64 ds, .int .i64 dp, .int .i64 dl]⟩] w fun e w' => e = .panicked (refu (86)) ∧ Ext w w' := by
  have d0 := hD.now
  have d3 := hD.fls
  have d4 := hD.bks
  have hA := hD.fl
  have hB := hD.bk
  obtain ⟨i, x, rfl, hi, h0⟩ := openE_ok hO
  have hil := (List.getElem?_eq_some_iff.1 hi).1
  obtain ⟨b1, o1, x', rfl, _, hx, c0, c1, c2, c3⟩ := dep_read hA hil
  obtain rfl : x = x' := by rw [hi] at hx; exact Option.some.inj hx
  have hlv : ¬ x.leaves ≤ o.now := by
    unfold depAt at h2
    rw [Int.toNat_natCast, hi] at h2
    exact h2
  refine enterPQ (c := cx w 41) Try.func126 rfl rfl rfl ?_
  repeat' (first | ((with_reducible apply oq_id); first | ((with_reducible apply oq_geqF); exact rfl; exact rfl; omega) | (apply oq_fn; exact rfl; try first | exact trivial | (and_intros <;> omega)) | ((with_reducible apply oq_load); exact rfl; exact rfl) | ((with_reducible apply oq_call (k := 133) (hc := Try.call133)); exact rfl; exact rfl; exact fun D w1 hw1 => flight_ok bd o _ cf B cb w1 (hD.ext hw1.ext.ext) hn _ _ rfl i x hi h0)) | ((with_reducible apply gx_id); first | (with_reducible apply v_nil) | ((with_reducible apply v_q); (iterate 3 exact rfl))) | ((with_reducible apply os_x); exact rfl) | ((with_reducible apply ox_id); first | ((with_reducible apply ox_box); exact rfl; exact rfl; intro _) | ((with_reducible apply ox_boxAgg); exact rfl; intro _)) | ((with_reducible apply rd_id); first | (apply Rd.own; (repeat (first | exact P0 | apply P1)); exact rfl; done) | (apply Rd.old; (first | (with_reducible assumption) | exact c0 | exact c1 | exact c2 | exact c3 | exact c4 | exact c5 | exact c6 | exact c7 | exact c8 | exact d0 | exact d1 | exact d2 | exact d3 | exact d4 | exact d5); first | exact List.not_mem_nil | exact m0 | exact m1 | exact m2 | exact m3 | exact m4 | exact m5 | exact m6 | exact m7 | exact m8 | exact m9)) | ((with_reducible apply t_id); first | (apply t_regionE) | (apply t_mixE (id := 2) [0, 1, 2, 3, 4, 5, 6, 7, 8, 9] 1 #[false, false, false, false, false, false, false, false, false, false, true]; kernel_rfl; kernel_rfl; exact rfl) | (with_reducible apply t_seq)) | with_reducible apply q_thenN | ((with_reducible apply te_id); first | ((with_reducible apply e_q); (iterate 4 exact rfl)) | ((with_reducible apply e_s); (iterate 3 exact rfl)) | (with_reducible apply e_nil)) | ((with_reducible apply ae_id); first | (apply ae_p (i := 10); decide +kernel; (iterate 3 exact rfl); first | ((with_reducible apply op_call (k := 106) (hc := Try.call106)); exact rfl; exact rfl; exact fun D w1 hw1 => must_no _ w1) | ((with_reducible apply op_call (k := 133) (hc := Try.call133)); exact rfl; exact rfl; exact fun D w1 hw1 => flight_no bd o A cf B cb w1 (hD.ext hw1.ext.ext) hn _ hE))))
  all_goals exact ⟨_, rfl, rfl⟩
theorem tick_no (bd : Nat) (o : Off) (A : Option Addr) (cf : Nat) (B : Option Addr) (cb : Nat) (w : World) (hD : Desk w bd o A cf B cb) (hn : o.fl.length ≤ 1000000) (hn2 : o.bk.length ≤ 1000000) (hnow : 0 ≤ o.now ∧ o.now ≤ 1000000) (dk dn ds dp dl : Int) (h : ¬ (1 ≤ dn ∧ dn ≤ 1000000 ∧ o.now + dn ≤ 1000000)) : Calls Try.prog 128 #[.pointer (some ⟨bd, 0, none⟩), .agg ⟨[.int .u8 dk, .int .i64 dn, .int .i64 ds, .int .i64 dp, .int .i64 dl]⟩] w fun e w' => e = .panicked (refu (2)) ∧ Ext w w' := by
  have d0 := hD.now
  have d3 := hD.fls
  have d4 := hD.bks
  have hA := hD.fl
  have hB := hD.bk
  by_cases hin : 1 ≤ dn ∧ dn ≤ 1000000
  · have hq := allFrom_t (lo := 1) (hi := 1000000) (z := dn) hin
    have hgt : ¬ o.now + dn ≤ 1000000 := fun hh => h ⟨hin.1, hin.2, hh⟩
    refine enterPQ (c := cx w 31) Try.func128 rfl rfl rfl ?_
    repeat' (first | ((with_reducible apply oq_id); first | ((with_reducible apply oq_leqF); exact rfl; exact rfl; omega) | (apply oq_fn; exact rfl; try first | exact trivial | (and_intros <;> omega)) | ((with_reducible apply oq_load); exact rfl; exact rfl) | ((with_reducible apply oq_call (k := 63) (hc := Try.call63)); exact rfl; exact rfl; exact fun D w1 hw1 => fromOne hq hw1 (by (repeat (first | exact P0 | apply P1))))) | ((with_reducible apply gx_id); first | (with_reducible apply v_nil) | ((with_reducible apply v_q); (iterate 3 exact rfl))) | ((with_reducible apply os_x); exact rfl) | ((with_reducible apply ox_id); first | ((with_reducible apply ox_boxAgg); exact rfl; intro _) | ((with_reducible apply ox_buildSlice1); (iterate 6 exact rfl); intro _)) | ((with_reducible apply rd_id); first | (apply Rd.own; (repeat (first | exact P0 | apply P1)); exact rfl; done) | (apply Rd.old; (first | (with_reducible assumption) | exact c0 | exact c1 | exact c2 | exact c3 | exact c4 | exact c5 | exact c6 | exact c7 | exact c8 | exact d0 | exact d1 | exact d2 | exact d3 | exact d4 | exact d5); first | exact List.not_mem_nil | exact m0 | exact m1 | exact m2 | exact m3 | exact m4 | exact m5 | exact m6 | exact m7 | exact m8 | exact m9)) | ((with_reducible apply t_id); first | (apply t_regionE) | (apply t_mixE (id := 1) [0, 1] 14 #[false, false, false, false, false, false, false, false, false, false, false, false, false, false, false, true]; kernel_rfl; kernel_rfl; exact rfl) | (with_reducible apply t_seq)) | with_reducible apply q_thenN | ((with_reducible apply te_id); first | ((with_reducible apply e_s); (iterate 3 exact rfl)) | (with_reducible apply e_nil)) | ((with_reducible apply ae_id); first | (apply ae_x (i := 2); decide +kernel; (iterate 5 exact rfl)) | (apply ae_q (i := 3); decide +kernel; (iterate 5 exact rfl)) | (apply ae_more [4, 5, 6, 7, 8, 9, 10, 11, 12, 13, 14] 1; decide +kernel; exact rfl; exact rfl; focus (repeat (first | exact HpSub.refl _ | (apply HpSub.cons; (repeat (first | exact P0 | apply P1))) | exact HpSub.nil))) | (apply ae_p (i := 15); decide +kernel; (iterate 3 exact rfl); first | ((with_reducible apply op_call (k := 106) (hc := Try.call106)); exact rfl; exact rfl; exact fun D w1 hw1 => must_no _ w1) | ((with_reducible apply op_call (k := 133) (hc := Try.call133)); exact rfl; exact rfl; exact fun D w1 hw1 => flight_no bd o A cf B cb w1 (hD.ext hw1.ext.ext) hn _ hE))))
    all_goals exact ⟨_, rfl, rfl⟩
  · have hq := allFrom_f (lo := 1) (hi := 1000000) (z := dn) hin
    refine enterPQ (c := cx w 31) Try.func128 rfl rfl rfl ?_
    repeat' (first | ((with_reducible apply oq_id); first | (apply oq_fn; exact rfl; try first | exact trivial | (and_intros <;> omega)) | ((with_reducible apply oq_load); exact rfl; exact rfl) | ((with_reducible apply oq_call (k := 63) (hc := Try.call63)); exact rfl; exact rfl; exact fun D w1 hw1 => fromOne hq hw1 (by (repeat (first | exact P0 | apply P1))))) | ((with_reducible apply gx_id); first | (with_reducible apply v_nil) | ((with_reducible apply v_q); (iterate 3 exact rfl)) | ((with_reducible apply v_skip); (iterate 3 exact rfl))) | ((with_reducible apply os_x); exact rfl) | ((with_reducible apply ox_id); first | ((with_reducible apply ox_boxAgg); exact rfl; intro _) | ((with_reducible apply ox_buildSlice1); (iterate 6 exact rfl); intro _)) | ((with_reducible apply rd_id); first | (apply Rd.own; (repeat (first | exact P0 | apply P1)); exact rfl; done)) | ((with_reducible apply t_id); first | (apply t_regionE) | (apply t_mixE (id := 1) [0, 1] 14 #[false, false, false, false, false, false, false, false, false, false, false, false, false, false, false, true]; kernel_rfl; kernel_rfl; exact rfl) | (with_reducible apply t_seq)) | with_reducible apply q_thenN | ((with_reducible apply te_id); first | ((with_reducible apply e_s); (iterate 3 exact rfl)) | (with_reducible apply e_nil)) | ((with_reducible apply ae_id); first | (apply ae_x (i := 2); decide +kernel; (iterate 5 exact rfl)) | (apply ae_q (i := 3); decide +kernel; (iterate 5 exact rfl)) | (apply ae_more [4, 5, 6, 7, 8, 9, 10, 11, 12, 13, 14] 1; decide +kernel; exact rfl; exact rfl; focus (repeat (first | exact HpSub.refl _ | (apply HpSub.cons; (repeat (first | exact P0 | apply P1))) | exact HpSub.nil))) | (apply ae_p (i := 15); decide +kernel; (iterate 3 exact rfl); first | ((with_reducible apply op_call (k := 106) (hc := Try.call106)); exact rfl; exact rfl; exact fun D w1 hw1 => must_no _ w1) | ((with_reducible apply op_call (k := 133) (hc := Try.call133)); exact rfl; exact rfl; exact fun D w1 hw1 => flight_no bd o A cf B cb w1 (hD.ext hw1.ext.ext) hn _ hE))))
    all_goals exact ⟨_, rfl, rfl⟩
theorem cancel_arg (bd : Nat) (o : Off) (A : Option Addr) (cf : Nat) (B : Option Addr) (cb : Nat) (w : World) (hD : Desk w bd o A cf B cb) (hn : o.fl.length ≤ 1000000) (hn2 : o.bk.length ≤ 1000000) (hnow : 0 ≤ o.now ∧ o.now ≤ 1000000) (dk dn ds dp dl : Int) (h : ¬ (0 ≤ dn ∧ dn < (o.bk.length : Int))) : Calls Try.prog 125 #[.pointer (some ⟨bd, 0, none⟩), .agg ⟨[.int .u8 dk, .int .i64 dn, .int .i64 ds, .int .i64 dp, .int .i64 dl]⟩] w fun e w' => e = .panicked (refu (2)) ∧ Ext w w' := by
  have d0 := hD.now
  have d3 := hD.fls
  have d4 := hD.bks
  have hA := hD.fl
  have hB := hD.bk
  have hq := allFrom_f (lo := 0) (hi := (o.bk.length : Int) - 1) (z := dn) (by omega)
  refine enterPQ (c := cx w 86) Try.func125 rfl rfl rfl ?_
  repeat' (first | ((with_reducible apply oq_id); first | (apply oq_fn; exact rfl; try first | exact trivial | (and_intros <;> omega)) | ((with_reducible apply oq_load); exact rfl; exact rfl) | ((with_reducible apply oq_call (k := 63) (hc := Try.call63)); exact rfl; exact rfl; exact fun D w1 hw1 => fromOne hq hw1 (by (repeat (first | exact P0 | apply P1))))) | ((with_reducible apply gx_id); first | (with_reducible apply v_nil) | ((with_reducible apply v_q); (iterate 3 exact rfl))) | ((with_reducible apply os_x); exact rfl) | ((with_reducible apply ox_id); first | ((with_reducible apply ox_boxAgg); exact rfl; intro _) | ((with_reducible apply ox_buildSlice1); (iterate 6 exact rfl); intro _)) | ((with_reducible apply rd_id); first | (apply Rd.own; (repeat (first | exact P0 | apply P1)); exact rfl; done) | (apply Rd.old; (first | (with_reducible assumption) | exact c0 | exact c1 | exact c2 | exact c3 | exact c4 | exact c5 | exact c6 | exact c7 | exact c8 | exact d0 | exact d1 | exact d2 | exact d3 | exact d4 | exact d5); first | exact List.not_mem_nil | exact m0 | exact m1 | exact m2 | exact m3 | exact m4 | exact m5 | exact m6 | exact m7 | exact m8 | exact m9)) | ((with_reducible apply t_id); first | (apply t_regionE) | (apply t_mixE (id := 1) [0, 1, 2, 3, 4, 5, 6, 7, 8] 3 #[false, false, false, false, false, false, false, false, false, false, false, true]; kernel_rfl; kernel_rfl; exact rfl) | (with_reducible apply t_seq)) | with_reducible apply q_thenN | ((with_reducible apply te_id); first | ((with_reducible apply e_s); (iterate 3 exact rfl)) | (with_reducible apply e_nil)) | ((with_reducible apply ae_id); first | (apply ae_x (i := 9); decide +kernel; (iterate 5 exact rfl)) | (apply ae_q (i := 10); decide +kernel; (iterate 5 exact rfl)) | (apply ae_p (i := 11); decide +kernel; (iterate 3 exact rfl); first | ((with_reducible apply op_call (k := 106) (hc := Try.call106)); exact rfl; exact rfl; exact fun D w1 hw1 => must_no _ w1) | ((with_reducible apply op_call (k := 133) (hc := Try.call133)); exact rfl; exact rfl; exact fun D w1 hw1 => flight_no bd o A cf B cb w1 (hD.ext hw1.ext.ext) hn _ hE))))
  all_goals exact ⟨_, rfl, rfl⟩
theorem seats_open (bd : Nat) (o : Off) (A : Option Addr) (cf : Nat) (B : Option Addr) (cb : Nat) (w : World) (hD : Desk w bd o A cf B cb) (hn : o.fl.length ≤ 1000000) (hn2 : o.bk.length ≤ 1000000) (hnow : 0 ≤ o.now ∧ o.now ≤ 1000000) (dk dn ds dp dl : Int) (hE : ¬ openE o dn = 0) : Calls Try.prog 129 #[.pointer (some ⟨bd, 0, none⟩), .agg ⟨[.int .u8 dk, .int .i64 dn, .int .i64 ds, .int .i64 dp, .int .i64 dl]⟩] w fun e w' => e = .panicked (refu (openE o dn)) ∧ Ext w w' := by
  have d0 := hD.now
  have d3 := hD.fls
  have d4 := hD.bks
  have hA := hD.fl
  have hB := hD.bk
  refine enterPQ (c := cx w 32) Try.func129 rfl rfl rfl ?_
  repeat' (first | ((with_reducible apply oq_id); first | (apply oq_fn; exact rfl; try first | exact trivial | (and_intros <;> omega)) | ((with_reducible apply oq_load); exact rfl; exact rfl)) | ((with_reducible apply os_x); exact rfl) | ((with_reducible apply ox_boxAgg); exact rfl; intro _) | ((with_reducible apply rd_id); first | (apply Rd.own; (repeat (first | exact P0 | apply P1)); exact rfl; done)) | ((with_reducible apply t_id); first | (apply t_regionE) | (with_reducible apply t_seq)) | with_reducible apply q_thenN | ((with_reducible apply te_id); first | ((with_reducible apply e_p); exact rfl; ((with_reducible apply op_call (k := 133) (hc := Try.call133)); exact rfl; exact rfl; exact fun D w1 hw1 => flight_no bd o A cf B cb w1 (hD.ext hw1.ext.ext) hn _ hE)) | ((with_reducible apply e_q); (iterate 4 exact rfl)) | ((with_reducible apply e_s); (iterate 3 exact rfl)) | (with_reducible apply e_nil)))
  all_goals exact ⟨_, rfl, rfl⟩
theorem seats_arg (bd : Nat) (o : Off) (A : Option Addr) (cf : Nat) (B : Option Addr) (cb : Nat) (w : World) (hD : Desk w bd o A cf B cb) (hn : o.fl.length ≤ 1000000) (hn2 : o.bk.length ≤ 1000000) (hnow : 0 ≤ o.now ∧ o.now ≤ 1000000) (dk dn ds dp dl : Int) (hO : openE o dn = 0) (h : ¬ (0 ≤ ds ∧ ds ≤ 50)) : Calls Try.prog 129 #[.pointer (some ⟨bd, 0, none⟩), .agg ⟨[.int .u8 dk, .int .i64 dn, .int .i64 ds, .int .i64 dp, .int .i64 dl]⟩] w fun e w' => e = .panicked (refu (2)) ∧ Ext w w' := by
  have d0 := hD.now
  have d3 := hD.fls
  have d4 := hD.bks
  have hA := hD.fl
  have hB := hD.bk
  obtain ⟨i, x, rfl, hi, h0⟩ := openE_ok hO
  have hil := (List.getElem?_eq_some_iff.1 hi).1
  obtain ⟨b1, o1, x', rfl, _, hx, c0, c1, c2, c3⟩ := dep_read hA hil
  obtain rfl : x = x' := by rw [hi] at hx; exact Option.some.inj hx
  have hq := allFrom_f (lo := 0) (hi := 50) (z := ds) h
  refine enterPQ (c := cx w 32) Try.func129 rfl rfl rfl ?_
  repeat' (first | ((with_reducible apply oq_id); first | (apply oq_fn; exact rfl; try first | exact trivial | (and_intros <;> omega)) | ((with_reducible apply oq_load); exact rfl; exact rfl) | ((with_reducible apply oq_call (k := 63) (hc := Try.call63)); exact rfl; exact rfl; exact fun D w1 hw1 => fromOne hq hw1 (by (repeat (first | exact P0 | apply P1)))) | ((with_reducible apply oq_call (k := 133) (hc := Try.call133)); exact rfl; exact rfl; exact fun D w1 hw1 => flight_ok bd o _ cf B cb w1 (hD.ext hw1.ext.ext) hn _ _ rfl i x hi h0)) | ((with_reducible apply os_x); exact rfl) | ((with_reducible apply ox_id); first | ((with_reducible apply ox_boxAgg); exact rfl; intro _) | ((with_reducible apply ox_buildSlice1); (iterate 6 exact rfl); intro _)) | ((with_reducible apply rd_id); first | (apply Rd.own; (repeat (first | exact P0 | apply P1)); exact rfl; done)) | ((with_reducible apply t_id); first | (apply t_regionE) | (with_reducible apply t_seq)) | with_reducible apply q_thenN | ((with_reducible apply te_id); first | ((with_reducible apply e_p); exact rfl; ((with_reducible apply op_call (k := 106) (hc := Try.call106)); exact rfl; exact rfl; exact fun D w1 hw1 => must_no _ w1)) | ((with_reducible apply e_q); (iterate 4 exact rfl)) | ((with_reducible apply e_s); (iterate 3 exact rfl)) | (with_reducible apply e_nil)))
  all_goals exact ⟨_, rfl, rfl⟩
theorem cancel_gone (bd : Nat) (o : Off) (A : Option Addr) (cf : Nat) (B : Option Addr) (cb : Nat) (w : World) (hD : Desk w bd o A cf B cb) (hn : o.fl.length ≤ 1000000) (hn2 : o.bk.length ≤ 1000000) (hnow : 0 ≤ o.now ∧ o.now ≤ 1000000) (dk dn ds dp dl : Int) (hin : 0 ≤ dn ∧ dn < (o.bk.length : Int)) (h : ¬ ((bkAt o dn).state = 1 ∨ (bkAt o dn).state = 2)) : Calls Try.prog 125 #[.pointer (some ⟨bd, 0, none⟩), .agg ⟨[.int .u8 dk, .int .i64 dn, .int .i64 ds, .int .i64 dp, .int .i64 dl]⟩] w fun e w' => e = .panicked (refu (85)) ∧ Ext w w' := by
  have d0 := hD.now
  have d3 := hD.fls
  have d4 := hD.bks
  have hA := hD.fl
  have hB := hD.bk
  have hq := allFrom_t (lo := 0) (hi := (o.bk.length : Int) - 1) (z := dn) ⟨hin.1, by omega⟩
  obtain ⟨i, rfl⟩ : ∃ i : Nat, dn = (i : Int) := ⟨dn.toNat, by omega⟩
  have hil : i < o.bk.length := by omega
  obtain ⟨b1, o1, x, rfl, _, hx, c0, c1, c2⟩ := bk_read hB hil
  have hs : ¬ x.state = 1 ∧ ¬ x.state = 2 := by
    unfold bkAt at h
    rw [Int.toNat_natCast, hx] at h
    exact ⟨fun hh => h (.inl hh), fun hh => h (.inr hh)⟩
  refine enterPQ (c := cx w 86) Try.func125 rfl rfl rfl ?_
  repeat' (first | ((with_reducible apply oq_id); first | (focus ((with_reducible apply oq_indexAddrN); (iterate 4 exact rfl); omega)) | ((with_reducible apply oq_eqlF); exact rfl; exact rfl; omega) | (apply oq_fn; exact rfl; try first | exact trivial | (and_intros <;> omega)) | ((with_reducible apply oq_load); exact rfl; exact rfl) | ((with_reducible apply oq_call (k := 63) (hc := Try.call63)); exact rfl; exact rfl; exact fun D w1 hw1 => fromOne hq hw1 (by (repeat (first | exact P0 | apply P1)))) | ((with_reducible apply oq_call (k := 106) (hc := Try.call106)); exact rfl; exact rfl; exact fun D w1 hw1 => must_ok _ w1)) | ((with_reducible apply gx_id); first | (with_reducible apply v_nil) | ((with_reducible apply v_q); (iterate 3 exact rfl))) | ((with_reducible apply os_x); exact rfl) | ((with_reducible apply ox_id); first | ((with_reducible apply ox_boxAgg); exact rfl; intro _) | ((with_reducible apply ox_buildSlice1); (iterate 6 exact rfl); intro _)) | ((with_reducible apply ai_id); first | ((with_reducible apply ai_q); (iterate 5 exact rfl)) | ((with_reducible apply ai_x); (iterate 5 exact rfl))) | ((with_reducible apply rd_id); first | (apply Rd.own; (repeat (first | exact P0 | apply P1)); exact rfl; done) | (apply Rd.old; (first | (with_reducible assumption) | exact c0 | exact c1 | exact c2 | exact c3 | exact c4 | exact c5 | exact c6 | exact c7 | exact c8 | exact d0 | exact d1 | exact d2 | exact d3 | exact d4 | exact d5); first | exact List.not_mem_nil | exact m0 | exact m1 | exact m2 | exact m3 | exact m4 | exact m5 | exact m6 | exact m7 | exact m8 | exact m9)) | ((with_reducible apply t_id); first | (apply t_regionE) | (with_reducible apply t_seq) | (apply t_drawn; kernel_rfl; decide +kernel; try simp only [List.append_eq, List.cons_append, List.nil_append])) | with_reducible apply q_thenN | (apply t_mix (id := 1) [0, 1, 2, 3, 4, 5, 6, 7, 8] 3 #[false, false, false, false, false, false, false, false, false, false, false, false]; kernel_rfl; kernel_rfl; exact rfl) | ((with_reducible apply al_id); first | (apply al_done; decide +kernel) | (apply al_one 9; decide +kernel) | (apply al_one 10; decide +kernel) | (apply al_one 11; decide +kernel)) | ((with_reducible apply te_id); first | ((with_reducible apply e_p); exact rfl; ((with_reducible apply op_call (k := 106) (hc := Try.call106)); exact rfl; exact rfl; exact fun D w1 hw1 => must_no _ w1)) | ((with_reducible apply e_q); (iterate 4 exact rfl)) | ((with_reducible apply e_s); (iterate 3 exact rfl)) | (with_reducible apply e_nil)))
  all_goals exact ⟨_, rfl, rfl⟩
theorem seats_full (bd : Nat) (o : Off) (A : Option Addr) (cf : Nat) (B : Option Addr) (cb : Nat) (w : World) (hD : Desk w bd o A cf B cb) (hn : o.fl.length ≤ 1000000) (hn2 : o.bk.length ≤ 1000000) (hnow : 0 ≤ o.now ∧ o.now ≤ 1000000) (dk dn ds dp dl : Int) (hO : openE o dn = 0) (hs : 0 ≤ ds ∧ ds ≤ 50) (h : ¬ manyV o.bk dn 1 ≤ ds) : Calls Try.prog 129 #[.pointer (some ⟨bd, 0, none⟩), .agg ⟨[.int .u8 dk, .int .i64 dn, .int .i64 ds, .int .i64 dp, .int .i64 dl]⟩] w fun e w' => e = .panicked (refu (9)) ∧ Ext w w' := by
  have d0 := hD.now
  have d3 := hD.fls
  have d4 := hD.bks
  have hA := hD.fl
  have hB := hD.bk
  obtain ⟨i, x, rfl, hi, h0⟩ := openE_ok hO
  have hil := (List.getElem?_eq_some_iff.1 hi).1
  obtain ⟨b1, o1, x', rfl, _, hx, c0, c1, c2, c3⟩ := dep_read hA hil
  obtain rfl : x = x' := by rw [hi] at hx; exact Option.some.inj hx
  have hq := allFrom_t (lo := 0) (hi := 50) (z := ds) hs
  have hcnt : ¬ ((cntV (mtB (i : Int) [1]) o.bk : Nat) : Int) ≤ ds := by rw [mt_many]; exact h
  refine enterPQ (c := cx w 32) Try.func129 rfl rfl rfl ?_
  repeat' (first | ((with_reducible apply oq_id); first | ((with_reducible apply oq_leqF); exact rfl; exact rfl; omega) | (apply oq_fn; exact rfl; try first | exact trivial | (and_intros <;> omega)) | ((with_reducible apply oq_load); exact rfl; exact rfl) | ((with_reducible apply oq_call (k := 63) (hc := Try.call63)); exact rfl; exact rfl; exact fun D w1 hw1 => fromOne hq hw1 (by (repeat (first | exact P0 | apply P1)))) | ((with_reducible apply oq_call (k := 106) (hc := Try.call106)); exact rfl; exact rfl; exact fun D w1 hw1 => must_ok _ w1) | ((with_reducible apply oq_call (k := 133) (hc := Try.call133)); exact rfl; exact rfl; exact fun D w1 hw1 => flight_ok bd o _ cf B cb w1 (hD.ext hw1.ext.ext) hn _ _ rfl i x hi h0) | ((with_reducible apply oq_call (k := 64) (hc := Try.call64)); exact rfl; exact rfl; exact fun D w1 hw1 => count_calls bd o _ cf B cb w1 (hD.ext hw1.ext.ext) hn2 _ (some ⟨_, 0, none⟩) 1 _ [1] (one8 hw1 (by (repeat (first | exact P0 | apply P1)))) (by omega))) | ((with_reducible apply gx_id); first | (with_reducible apply v_nil) | ((with_reducible apply v_q); (iterate 3 exact rfl))) | ((with_reducible apply os_x); exact rfl) | ((with_reducible apply ox_id); first | ((with_reducible apply ox_boxAgg); exact rfl; intro _) | ((with_reducible apply ox_buildSlice1); (iterate 6 exact rfl); intro _)) | ((with_reducible apply rd_id); first | (apply Rd.own; (repeat (first | exact P0 | apply P1)); exact rfl; done)) | ((with_reducible apply t_id); first | (apply t_regionE) | (apply t_mixE (id := 3) [0, 1, 2, 5, 6] 4 #[false, false, false, false, false, false, false, false, true]; kernel_rfl; kernel_rfl; exact rfl) | (with_reducible apply t_seq)) | with_reducible apply q_thenN | ((with_reducible apply te_id); first | ((with_reducible apply e_q); (iterate 4 exact rfl)) | ((with_reducible apply e_s); (iterate 3 exact rfl)) | (with_reducible apply e_nil)) | ((with_reducible apply ae_id); first | (apply ae_x (i := 3); decide +kernel; (iterate 5 exact rfl)) | (apply ae_q (i := 4); decide +kernel; (iterate 5 exact rfl)) | (apply ae_q (i := 7); decide +kernel; (iterate 5 exact rfl)) | (apply ae_p (i := 8); decide +kernel; (iterate 3 exact rfl); first | ((with_reducible apply op_call (k := 106) (hc := Try.call106)); exact rfl; exact rfl; exact fun D w1 hw1 => must_no _ w1) | ((with_reducible apply op_call (k := 133) (hc := Try.call133)); exact rfl; exact rfl; exact fun D w1 hw1 => flight_no bd o A cf B cb w1 (hD.ext hw1.ext.ext) hn _ hE))))
  all_goals exact ⟨_, rfl, rfl⟩
end Go.Proofs.Ytmlmgipngbndgaa
namespace Go.Proofs.Ytmlmgipngbndgaa
open Go.RowKit
attribute [local irreducible] OQ OS OX Rd T TL GX GL AL AI RV wpG SAny Calls
theorem offCells_add (o : Off) (z : Dep) (A A' : Option Addr) (cf cf' : Nat) (B : Option Addr) (cb : Nat) : (offCells o A cf B cb).set 3 (.slice A' (o.fl.length + 1) cf') = offCells { o with fl := o.fl ++ [z] } A' cf' B cb := by
  simp [offCells]
theorem offCells_sell (o : Off) (z : Bk) (A B B' : Option Addr) (cf cb cb' : Nat) : (offCells o A cf B cb).set 4 (.slice B' (o.bk.length + 1) cb') = offCells { o with bk := o.bk ++ [z] } A cf B' cb' := by
  simp [offCells]
theorem flat_add {α : Type} (f : α → List Value) (l : List α) (z : α) : (l.map f).flatten ++ f z = ((l ++ [z]).map f).flatten := by simp
theorem add_T (bd : Nat) (o : Off) (x y : Option (Nat × Nat)) (hxn : x = none → o.fl.length = 0) (hyn : y = none → o.bk.length = 0) (hv : OkO o) (w : World) (hw : Has w ⟨(deskH bd o x y).map Prod.fst, []⟩ (deskH bd o x y) w) (dk dn ds dp dl : Int) (h : depOk ⟨ds, dp, dl, 0⟩ = true ∧ o.now ≤ dl) (h2 : o.fl.length < 10) : Calls Try.prog 123 #[.pointer (some ⟨bd, 0, none⟩), .agg ⟨[.int .u8 dk, .int .i64 dn, .int .i64 ds, .int .i64 dp, .int .i64 dl]⟩] w fun e w' => ∃ v H', e = .returned v ∧ DV bd ({ o with fl := o.fl ++ [⟨ds, dp, dl, 0⟩] }) v H' ∧ Has w ⟨(deskH bd o x y).map Prod.fst, []⟩ H' w' := by
  obtain ⟨hfine, hlt⟩ := h
  have hq : True := trivial
  have hFL := flat_len (f := depCells) (s := 4) (fun _ => rfl) o.fl
  have hO : ∀ A' cf', (offCells o (clA x) (clC x) (clA y) (clC y)).set 3 (.slice A' (o.fl.length + 1) cf') = offCells { o with fl := o.fl ++ [⟨ds, dp, dl, 0⟩] } A' cf' (clA y) (clC y) := fun A' cf' => offCells_add o _ _ _ _ _ _ _
  have hF := flat_add depCells o.fl ⟨ds, dp, dl, 0⟩
  obtain ⟨M, hM⟩ : ∃ M, (deskH bd o x y).map Prod.fst = M := ⟨_, rfl⟩
  rw [hM] at hw ⊢
  have hnow := hv.now
  refine ds_dv (enter (c := cxM M w 45) (H := deskH bd o x y) (F := frOf 0 _) Try.func123 rfl rfl rfl (fun d v hv => (look_frOf _ 0 d v hv).2) hw ?_)
  unfold deskH flH bkH
  rcases x with _ | ⟨gF, cF⟩
  · have hz := hxn rfl
    simp only [clH, clA, clC, List.nil_append, List.cons_append] at hO ⊢
    rw [hz] at hO
    have hcell : (offCells o none 0 (clA y) (clC y))[3]? = some (.slice none 0 0) := by rw [← hz]; rfl
    have hnil : (o.fl.map depCells).flatten = [] := by
      cases hfl : o.fl with
      | nil => rfl
      | cons a l => rw [hfl] at hz; cases hz
    rw [hnil, List.nil_append] at hF
    repeat' (first | ((with_reducible apply oq_id); first | ((with_reducible apply oq_geqT); exact rfl; exact rfl; omega) | ((with_reducible apply oq_lssT); exact rfl; exact rfl; omega) | (apply oq_fn; exact rfl; try first | exact trivial | (and_intros <;> omega)) | ((with_reducible apply oq_load); exact rfl; exact rfl) | ((with_reducible apply oq_loadAgg); exact rfl; exact rfl) | ((with_reducible apply oq_call (k := 94) (hc := Try.call94)); exact rfl; exact rfl; exact fun D w1 hw1 => (hfine ▸ fine_calls _ _ _ _ w1)) | ((with_reducible apply oq_call (k := 106) (hc := Try.call106)); exact rfl; exact rfl; exact fun D w1 hw1 => must_ok _ w1) | ((with_reducible apply oq_build); (iterate 3 exact rfl))) | ((with_reducible apply tl_id); first | (with_reducible apply tl_nil) | ((with_reducible apply u_q); (iterate 4 exact rfl)) | ((with_reducible apply u_s0); exact rfl; exact rfl) | ((with_reducible apply u_s); (iterate 3 exact rfl))) | ((with_reducible apply gx_id); first | (with_reducible apply v_nil) | ((with_reducible apply v_q); (iterate 3 exact rfl))) | ((with_reducible apply os_id); first | ((with_reducible apply os_storeB (hC := (hO _ _))); (iterate 4 exact rfl); (repeat (first | exact P0 | apply P1 | apply PA)); exact Nat.le_of_ble_eq_true rfl) | ((with_reducible apply os_x); exact rfl) | ((with_reducible apply os_storeAgg); (iterate 5 exact rfl)) | ((with_reducible apply os_appendNil (hk := app_ok22)); exact rfl; exact rfl)) | ((with_reducible apply ox_id); first | ((with_reducible apply ox_alloc); exact rfl; intro _) | ((with_reducible apply ox_boxAgg); exact rfl; intro _) | ((with_reducible apply ox_buildSlice); (iterate 4 exact rfl))) | ((with_reducible apply ai_id); first | ((with_reducible apply ai_q); (iterate 5 exact rfl)) | ((with_reducible apply ai_x); (iterate 5 exact rfl)) | ((with_reducible apply ai_s0); (iterate 4 exact rfl)) | ((with_reducible apply ai_s); (iterate 5 exact rfl))) | ((with_reducible apply rd_id); first | (apply Rd.own; (repeat (first | exact P0 | apply P1 | apply PA)); exact hcell; done) | (apply Rd.own; (repeat (first | exact P0 | apply P1 | apply PA)); exact rfl; done)) | ((with_reducible apply t_id); first | (apply t_mix (id := 4) [1, 2, 3, 4, 5, 6] 7 #[false, false, false, false, false, false, false, false, true, false, false, false, true]; kernel_rfl; kernel_rfl; exact rfl) | (with_reducible apply t_seq) | (apply t_region; kernel_rfl) | (apply t_drawn; kernel_rfl; decide +kernel; try simp only [List.append_eq, List.cons_append, List.nil_append])) | with_reducible apply q_thenN | exact P0 | exact Rdn.zero | apply Rdn.succ | ((with_reducible apply Norm.nil); exact rfl) | ((with_reducible apply Norm.cons); exact rfl) | (with_reducible apply end_normal) | exact rvs_nil | ((with_reducible apply al_id); first | (apply al_done; decide +kernel) | (apply al_one 0; decide +kernel) | (apply al_one 7; decide +kernel) | (apply al_one 8; decide +kernel) | (apply al_one 9; decide +kernel) | (apply al_one 10; decide +kernel) | (apply al_one 11; decide +kernel) | (apply al_one 12; decide +kernel) | (apply al_two 0 7; decide +kernel) | (apply al_two 0 8; decide +kernel)) | exact Nat.le_of_ble_eq_true rfl | exact (rfl : (_ : Bool) = true) | (intro _ _; with_reducible apply al_id) | (intro _; with_reducible apply al_id))
    all_goals (rename_i g cp; refine ⟨rfl, some (g, cp), y, (fun h => by cases h), hyn, ?_⟩)
    all_goals (unfold deskH flH bkH; simp only [← hF]; rcases y with _ | ⟨gB, cB⟩ <;> simp only [clH, clA, clC, List.nil_append, List.cons_append, List.append_nil])
    all_goals (repeat (first | exact HpSub.refl _ | (apply HpSub.consE; (repeat (first | exact P0 | apply P1 | apply PA)); exact rfl) | apply HpSub.skipX | exact HpSub.nil))
  · simp only [clH_some, clA_some, clC_some, List.nil_append, List.cons_append] at hO ⊢
    repeat' (first | ((with_reducible apply oq_id); first | ((with_reducible apply oq_geqT); exact rfl; exact rfl; omega) | ((with_reducible apply oq_lssT); exact rfl; exact rfl; omega) | (apply oq_fn; exact rfl; try first | exact trivial | (and_intros <;> omega)) | ((with_reducible apply oq_load); exact rfl; exact rfl) | ((with_reducible apply oq_loadAgg); exact rfl; exact rfl) | ((with_reducible apply oq_call (k := 94) (hc := Try.call94)); exact rfl; exact rfl; exact fun D w1 hw1 => (hfine ▸ fine_calls _ _ _ _ w1)) | ((with_reducible apply oq_call (k := 106) (hc := Try.call106)); exact rfl; exact rfl; exact fun D w1 hw1 => must_ok _ w1) | ((with_reducible apply oq_build); (iterate 3 exact rfl))) | ((with_reducible apply tl_id); first | (with_reducible apply tl_nil) | ((with_reducible apply u_q); (iterate 4 exact rfl)) | ((with_reducible apply u_s0); exact rfl; exact rfl) | ((with_reducible apply u_s); (iterate 3 exact rfl))) | ((with_reducible apply gx_id); first | (with_reducible apply v_nil) | ((with_reducible apply v_q); (iterate 3 exact rfl))) | ((with_reducible apply os_id); first | ((with_reducible apply os_storeB (hC := (hO _ _))); (iterate 4 exact rfl); (repeat (first | exact P0 | apply P1 | apply PA)); exact Nat.le_of_ble_eq_true rfl) | ((with_reducible apply os_x); exact rfl) | ((with_reducible apply os_storeAgg); (iterate 5 exact rfl)) | ((with_reducible apply os_append (hk := app_ok22)); exact rfl; exact rfl; (repeat (first | exact P0 | apply P1 | apply PA)))) | ((with_reducible apply ox_id); first | ((with_reducible apply ox_alloc); exact rfl; intro _) | ((with_reducible apply ox_boxAgg); exact rfl; intro _) | ((with_reducible apply ox_buildSlice); (iterate 4 exact rfl))) | ((with_reducible apply ai_id); first | ((with_reducible apply ai_q); (iterate 5 exact rfl)) | ((with_reducible apply ai_x); (iterate 5 exact rfl)) | ((with_reducible apply ai_s0); (iterate 4 exact rfl)) | ((with_reducible apply ai_s); (iterate 5 exact rfl))) | ((with_reducible apply rd_id); first | (apply Rd.own; (repeat (first | exact P0 | apply P1 | apply PA)); exact rfl; done)) | ((with_reducible apply t_id); first | (apply t_mix (id := 4) [1, 2, 3, 4, 5, 6] 7 #[false, false, false, false, false, false, false, false, true, false, false, false, true]; kernel_rfl; kernel_rfl; exact rfl) | (with_reducible apply t_seq) | (apply t_region; kernel_rfl) | (apply t_drawn; kernel_rfl; decide +kernel; try simp only [List.append_eq, List.cons_append, List.nil_append])) | with_reducible apply q_thenN | exact P0 | exact Rdn.zero | apply Rdn.succ | ((with_reducible apply Norm.nil); exact rfl) | ((with_reducible apply Norm.cons); exact rfl) | (with_reducible apply end_normal) | exact rvs_nil | ((with_reducible apply al_id); first | (apply al_done; decide +kernel) | (apply al_one 0; decide +kernel) | (apply al_one 7; decide +kernel) | (apply al_one 8; decide +kernel) | (apply al_one 9; decide +kernel) | (apply al_one 10; decide +kernel) | (apply al_one 11; decide +kernel) | (apply al_one 12; decide +kernel) | (apply al_two 0 7; decide +kernel) | (apply al_two 0 8; decide +kernel)) | exact hFL | exact Nat.le_of_ble_eq_true rfl | exact (rfl : (_ : Bool) = true) | omega | (intro _ _; with_reducible apply al_id) | (intro _; with_reducible apply al_id))
    all_goals (rename_i g cp; refine ⟨rfl, some (g, cp), y, (fun h => by cases h), hyn, ?_⟩)
    all_goals (unfold deskH flH bkH; simp only [← hF]; rcases y with _ | ⟨gB, cB⟩ <;> simp only [clH, clA, clC, List.nil_append, List.cons_append, List.append_nil])
    all_goals (repeat (first | exact HpSub.refl _ | (apply HpSub.consE; (repeat (first | exact P0 | apply P1 | apply PA)); exact rfl) | apply HpSub.skipX | exact HpSub.nil))
theorem sell_T (bd : Nat) (o : Off) (x y : Option (Nat × Nat)) (hxn : x = none → o.fl.length = 0) (hyn : y = none → o.bk.length = 0) (hv : OkO o) (w : World) (hw : Has w ⟨(deskH bd o x y).map Prod.fst, []⟩ (deskH bd o x y) w) (dk dn ds dp dl : Int) (hO1 : openE o dn = 0) (h2 : o.bk.length < 120) : Calls Try.prog 124 #[.pointer (some ⟨bd, 0, none⟩), .agg ⟨[.int .u8 dk, .int .i64 dn, .int .i64 ds, .int .i64 dp, .int .i64 dl]⟩] w fun e w' => ∃ v H', e = .returned v ∧ DV bd (sellV o dn) v H' ∧ Has w ⟨(deskH bd o x y).map Prod.fst, []⟩ H' w' := by
  obtain ⟨i, d, rfl, hi, h0⟩ := openE_ok hO1
  have hil := (List.getElem?_eq_some_iff.1 hi).1
  rcases x with _ | ⟨gF, cF⟩
  · exact absurd (hxn rfl) (by omega)
  have hdd := hv.dep hi
  have hnb := hv.nb
  have hnf := hv.nf
  have hinn := hv.inn
  have hdep : depAt o (i : Int) = d := by unfold depAt; rw [Int.toNat_natCast, hi]
  have hsv : sellV o (i : Int) = givenV { o with bk := o.bk ++ [⟨(i : Int), 2, 0⟩], inn := o.inn + d.price } i := by unfold sellV; rw [hdep, Int.toNat_natCast]
  rw [hsv]
  obtain ⟨o1, ho1⟩ : ∃ o1 : Off, { o with bk := o.bk ++ [⟨(i : Int), 2, 0⟩] } = o1 := ⟨_, rfl⟩
  have hin1 : o1.inn = o.inn := by rw [← ho1]
  obtain ⟨o2, ho2⟩ : ∃ o2 : Off, { o with bk := o.bk ++ [⟨(i : Int), 2, 0⟩], inn := o.inn + d.price } = o2 := ⟨_, rfl⟩
  have hi2 : o2.fl[i]? = some d := by rw [← ho2]; exact hi
  have hfl2 : o2.fl = o.fl := by rw [← ho2]
  have hb2 : o2.bk.length ≤ 1000 := by rw [← ho2]; simp only [List.length_append, List.length_singleton]; omega
  obtain ⟨r0, r1, r2, r3⟩ := dep_at hi
  have hFL := flat_len (f := bkCells) (s := 3) (fun _ => rfl) o.bk
  have hO : ∀ B' cb', (offCells o (some ⟨gF, 0, none⟩) cF (clA y) (clC y)).set 4 (.slice B' (o.bk.length + 1) cb') = offCells o1 (some ⟨gF, 0, none⟩) cF B' cb' := fun B' cb' => by rw [← ho1]; exact offCells_sell o _ _ _ _ _ _ _
  have hF2 : (o2.bk.map bkCells).flatten = (o.bk.map bkCells).flatten ++ [.int .i64 (i : Int), .int .u8 2, .int .i64 0] := by rw [← ho2]; exact (flat_add bkCells o.bk ⟨(i : Int), 2, 0⟩).symm
  have hO2 : ∀ B' cb', (offCells o1 (some ⟨gF, 0, none⟩) cF B' cb').set 5 (.int .i64 (o1.inn + d.price)) = offCells o2 (some ⟨gF, 0, none⟩) cF B' cb' := fun B' cb' => by rw [← ho2, ← ho1]; rfl
  obtain ⟨M, hM⟩ : ∃ M, (deskH bd o (some (gF, cF)) y).map Prod.fst = M := ⟨_, rfl⟩
  rw [hM] at hw ⊢
  rw [ho2]
  refine ds_dv (enter (c := cxM M w 48) (H := deskH bd o (some (gF, cF)) y) (F := frOf 0 _) Try.func124 rfl rfl rfl (fun d v hv => (look_frOf _ 0 d v hv).2) hw ?_)
  unfold deskH flH bkH
  simp only [clH_some, clA_some, clC_some, List.nil_append, List.cons_append]
  rcases y with _ | ⟨gB, cB⟩
  · have hz := hyn rfl
    have hnil : (o.bk.map bkCells).flatten = [] := by
      cases hbk : o.bk with
      | nil => rfl
      | cons a l => rw [hbk] at hz; cases hz
    rw [hnil, List.nil_append] at hF2
    simp only [clH, clA, clC] at hO ⊢
    rw [hz] at hO
    have hcell : (offCells o (some ⟨gF, 0, none⟩) cF none 0)[4]? = some (.slice none 0 0) := by rw [← hz]; rfl
    repeat' (first | ((with_reducible apply oq_id); first | ((with_reducible apply oq_lssT); exact rfl; exact rfl; omega) | (apply oq_fn; exact rfl; try first | exact trivial | (and_intros <;> omega)) | ((with_reducible apply oq_load); exact rfl; exact rfl) | ((with_reducible apply oq_call (k := 133) (hc := Try.call133)); exact rfl; exact rfl; exact fun D w1 hw1 => flight_ok bd o _ cF (clA none) (clC none) w1 (desk_of (x := some (gF, cF)) (y := none) hw1 (by (repeat (first | exact HpSub.refl _ | (apply HpSub.consE; (repeat (first | exact P0 | apply P1 | apply PA)); exact rfl) | apply HpSub.skipX | apply HpSub.skipX | exact HpSub.nil))) (fun h => by cases h) hyn) (by omega) gF 0 rfl i d hi h0) | ((with_reducible apply oq_call (k := 106) (hc := Try.call106)); exact rfl; exact rfl; exact fun D w1 hw1 => must_ok _ w1) | ((with_reducible apply oq_build); (iterate 3 exact rfl))) | ((with_reducible apply tl_id); first | (with_reducible apply tl_nil) | ((with_reducible apply u_s); (iterate 3 exact rfl); (with_reducible apply os_callM (PV := fun v H => v = .tuple #[] ∧ H = deskH bd (givenV o2 i) (some (gF, cF)) (some (gN, cN))) (G := deskH bd o2 (some (gF, cF)) (some (gN, cN))) (R := []) (k := 134) (hc := Try.call134)); exact rfl; exact rfl; (focus (unfold deskH flH bkH; simp only [clH_some, clA_some, clC_some, List.nil_append, List.cons_append, List.append_nil, hF2, hfl2]; (repeat (first | exact HpSub.refl _ | (apply HpSub.consE; (repeat (first | exact P0 | apply P1 | apply PA)); exact rfl) | apply HpSub.skipX | apply HpSub.skipX | exact HpSub.nil)))); exact (fun D w1 hw1 hwG => give_T bd o2 (some (gF, cF)) (some (gN, cN)) (fun h => by cases h) (fun h => by cases h) w1 hwG hb2 i d hi2 ⟨hdd.1, by omega⟩); rintro v H1 ⟨rfl, rfl⟩; (try simp only [List.append_nil])) | ((with_reducible apply u_q); (iterate 4 exact rfl)) | ((with_reducible apply u_s); (iterate 3 exact rfl))) | ((with_reducible apply gx_id); first | (with_reducible apply v_nil) | ((with_reducible apply v_q); (iterate 3 exact rfl))) | ((with_reducible apply os_id); first | ((with_reducible apply os_storeB (hC := (hO _ _))); (iterate 4 exact rfl); (repeat (first | exact P0 | apply P1 | apply PA)); exact Nat.le_of_ble_eq_true rfl) | ((with_reducible apply os_storeB (hC := (hO2 _ _))); (iterate 4 exact rfl); (repeat (first | exact P0 | apply P1 | apply PA)); exact Nat.le_of_ble_eq_true rfl) | ((with_reducible apply os_x); exact rfl) | ((with_reducible apply os_appendNil (hk := app_ok23)); exact rfl; exact rfl)) | ((with_reducible apply ox_id); first | ((with_reducible apply ox_boxAgg); exact rfl; intro _) | ((with_reducible apply ox_buildSlice); (iterate 4 exact rfl))) | ((with_reducible apply ai_id); first | ((with_reducible apply ai_q); (iterate 5 exact rfl)) | ((with_reducible apply ai_x); (iterate 5 exact rfl)) | ((with_reducible apply ai_s0); (iterate 4 exact rfl)) | ((with_reducible apply ai_s); (iterate 5 exact rfl))) | ((with_reducible apply rd_id); first | (apply Rd.own; (repeat (first | exact P0 | apply P1 | apply PA)); first | exact hcell | exact r0 | exact r1 | exact r2 | exact r3; done) | (apply Rd.own; (repeat (first | exact P0 | apply P1 | apply PA)); exact rfl; done)) | ((with_reducible apply t_id); first | (apply t_mix (id := 3) [1, 2, 3, 4, 5, 6, 7, 8] 7 #[false, false, false, false, false, false, false, false, false, false, true, false, false, false, true]; kernel_rfl; kernel_rfl; exact rfl) | (apply t_mix (id := 4) [0, 1, 2, 3, 4, 5, 6, 7, 8, 9, 10, 11, 12] 1 #[false, false, false, false, false, false, false, false, false, false, false, false, false, true]; kernel_rfl; kernel_rfl; exact rfl) | (with_reducible apply t_seq) | (apply t_region; kernel_rfl)) | with_reducible apply q_thenN | exact Rdn.zero | apply Rdn.succ | ((with_reducible apply Norm.nil); exact rfl) | ((with_reducible apply Norm.cons); exact rfl) | (with_reducible apply end_normal) | exact rvs_nil | ((with_reducible apply al_id); first | (apply al_done; decide +kernel) | (apply al_one 0; decide +kernel) | (apply al_one 9; decide +kernel) | (apply al_one 10; decide +kernel) | (apply al_one 11; decide +kernel) | (apply al_one 12; decide +kernel) | (apply al_one 13; decide +kernel) | (apply al_one 14; decide +kernel) | (apply al_two 0 9; decide +kernel) | (apply al_two 0 10; decide +kernel)) | (intro gN cN; with_reducible apply al_id) | exact Nat.le_of_ble_eq_true rfl | exact (rfl : (_ : Bool) = true) | (intro _; with_reducible apply al_id))
    all_goals exact ⟨rfl, some (gF, cF), some (gN, cN), (fun h => by cases h), (fun h => by cases h), HpSub.refl _⟩
  · simp only [clH_some, clA_some, clC_some] at hO ⊢
    have hcell : True := trivial
    repeat' (first | ((with_reducible apply oq_id); first | ((with_reducible apply oq_lssT); exact rfl; exact rfl; omega) | (apply oq_fn; exact rfl; try first | exact trivial | (and_intros <;> omega)) | ((with_reducible apply oq_load); exact rfl; exact rfl) | ((with_reducible apply oq_call (k := 133) (hc := Try.call133)); exact rfl; exact rfl; exact fun D w1 hw1 => flight_ok bd o _ cF (clA (some (gB, cB))) (clC (some (gB, cB))) w1 (desk_of (x := some (gF, cF)) (y := (some (gB, cB))) hw1 (by (repeat (first | exact HpSub.refl _ | (apply HpSub.consE; (repeat (first | exact P0 | apply P1 | apply PA)); exact rfl) | apply HpSub.skipX | apply HpSub.skipX | exact HpSub.nil))) (fun h => by cases h) hyn) (by omega) gF 0 rfl i d hi h0) | ((with_reducible apply oq_call (k := 106) (hc := Try.call106)); exact rfl; exact rfl; exact fun D w1 hw1 => must_ok _ w1) | ((with_reducible apply oq_build); (iterate 3 exact rfl))) | ((with_reducible apply tl_id); first | (with_reducible apply tl_nil) | ((with_reducible apply u_s); (iterate 3 exact rfl); (with_reducible apply os_callM (PV := fun v H => v = .tuple #[] ∧ H = deskH bd (givenV o2 i) (some (gF, cF)) (some (gN, cN))) (G := deskH bd o2 (some (gF, cF)) (some (gN, cN))) (R := []) (k := 134) (hc := Try.call134)); exact rfl; exact rfl; (focus (unfold deskH flH bkH; simp only [clH_some, clA_some, clC_some, List.nil_append, List.cons_append, List.append_nil, hF2, hfl2]; (repeat (first | exact HpSub.refl _ | (apply HpSub.consE; (repeat (first | exact P0 | apply P1 | apply PA)); exact rfl) | apply HpSub.skipX | apply HpSub.skipX | exact HpSub.nil)))); exact (fun D w1 hw1 hwG => give_T bd o2 (some (gF, cF)) (some (gN, cN)) (fun h => by cases h) (fun h => by cases h) w1 hwG hb2 i d hi2 ⟨hdd.1, by omega⟩); rintro v H1 ⟨rfl, rfl⟩; (try simp only [List.append_nil])) | ((with_reducible apply u_q); (iterate 4 exact rfl)) | ((with_reducible apply u_s); (iterate 3 exact rfl))) | ((with_reducible apply gx_id); first | (with_reducible apply v_nil) | ((with_reducible apply v_q); (iterate 3 exact rfl))) | ((with_reducible apply os_id); first | ((with_reducible apply os_storeB (hC := (hO _ _))); (iterate 4 exact rfl); (repeat (first | exact P0 | apply P1 | apply PA)); exact Nat.le_of_ble_eq_true rfl) | ((with_reducible apply os_storeB (hC := (hO2 _ _))); (iterate 4 exact rfl); (repeat (first | exact P0 | apply P1 | apply PA)); exact Nat.le_of_ble_eq_true rfl) | ((with_reducible apply os_x); exact rfl) | ((with_reducible apply os_append (hk := app_ok23)); exact rfl; exact rfl; (repeat (first | exact P0 | apply P1 | apply PA)))) | ((with_reducible apply ox_id); first | ((with_reducible apply ox_boxAgg); exact rfl; intro _) | ((with_reducible apply ox_buildSlice); (iterate 4 exact rfl))) | ((with_reducible apply ai_id); first | ((with_reducible apply ai_q); (iterate 5 exact rfl)) | ((with_reducible apply ai_x); (iterate 5 exact rfl)) | ((with_reducible apply ai_s0); (iterate 4 exact rfl)) | ((with_reducible apply ai_s); (iterate 5 exact rfl))) | ((with_reducible apply rd_id); first | (apply Rd.own; (repeat (first | exact P0 | apply P1 | apply PA)); first | exact hcell | exact r0 | exact r1 | exact r2 | exact r3; done) | (apply Rd.own; (repeat (first | exact P0 | apply P1 | apply PA)); exact rfl; done)) | ((with_reducible apply t_id); first | (apply t_mix (id := 3) [1, 2, 3, 4, 5, 6, 7, 8] 7 #[false, false, false, false, false, false, false, false, false, false, true, false, false, false, true]; kernel_rfl; kernel_rfl; exact rfl) | (apply t_mix (id := 4) [0, 1, 2, 3, 4, 5, 6, 7, 8, 9, 10, 11, 12] 1 #[false, false, false, false, false, false, false, false, false, false, false, false, false, true]; kernel_rfl; kernel_rfl; exact rfl) | (with_reducible apply t_seq) | (apply t_region; kernel_rfl)) | with_reducible apply q_thenN | exact Rdn.zero | apply Rdn.succ | ((with_reducible apply Norm.nil); exact rfl) | ((with_reducible apply Norm.cons); exact rfl) | (with_reducible apply end_normal) | exact rvs_nil | ((with_reducible apply al_id); first | (apply al_done; decide +kernel) | (apply al_one 0; decide +kernel) | (apply al_one 9; decide +kernel) | (apply al_one 10; decide +kernel) | (apply al_one 11; decide +kernel) | (apply al_one 12; decide +kernel) | (apply al_one 13; decide +kernel) | (apply al_one 14; decide +kernel) | (apply al_two 0 9; decide +kernel) | (apply al_two 0 10; decide +kernel)) | (intro gN cN; with_reducible apply al_id) | exact hFL | exact Nat.le_of_ble_eq_true rfl | exact (rfl : (_ : Bool) = true) | omega | (intro _; with_reducible apply al_id))
    all_goals exact ⟨rfl, some (gF, cF), some (gN, cN), (fun h => by cases h), (fun h => by cases h), HpSub.refl _⟩
theorem seats_T (bd : Nat) (o : Off) (x y : Option (Nat × Nat)) (hxn : x = none → o.fl.length = 0) (hyn : y = none → o.bk.length = 0) (hv : OkO o) (w : World) (hw : Has w ⟨(deskH bd o x y).map Prod.fst, []⟩ (deskH bd o x y) w) (dk dn ds dp dl : Int) (hO1 : openE o dn = 0) (hs : 0 ≤ ds ∧ ds ≤ 50) (h2 : manyV o.bk dn 1 ≤ ds) : Calls Try.prog 129 #[.pointer (some ⟨bd, 0, none⟩), .agg ⟨[.int .u8 dk, .int .i64 dn, .int .i64 ds, .int .i64 dp, .int .i64 dl]⟩] w fun e w' => ∃ v H', e = .returned v ∧ DV bd (seatsV o ⟨dk, dn, ds, dp, dl⟩) v H' ∧ Has w ⟨(deskH bd o x y).map Prod.fst, []⟩ H' w' := by
  obtain ⟨i, d, rfl, hi, h0⟩ := openE_ok hO1
  have hil := (List.getElem?_eq_some_iff.1 hi).1
  rcases x with _ | ⟨gF, cF⟩
  · exact absurd (hxn rfl) (by omega)
  have hdd := hv.dep hi
  have hnb := hv.nb
  have hnf := hv.nf
  have hdep : depAt o (i : Int) = d := by unfold depAt; rw [Int.toNat_natCast, hi]
  obtain ⟨o2, ho2⟩ : ∃ o2 : Off, { o with fl := o.fl.set i ⟨ds, d.price, d.leaves, d.state⟩ } = o2 := ⟨_, rfl⟩
  have hsv : seatsV o ⟨dk, (i : Int), ds, dp, dl⟩ = givenV o2 i := by unfold seatsV; simp only [hdep, Int.toNat_natCast, ho2]
  rw [hsv]
  have hi2 : o2.fl[i]? = some ⟨ds, d.price, d.leaves, d.state⟩ := by rw [← ho2]; simp [hil]
  have hbk2 : o2.bk = o.bk := by rw [← ho2]
  have hb2 : o2.bk.length ≤ 1000 := by rw [hbk2]; omega
  have hyn2 : y = none → o2.bk.length = 0 := by rw [hbk2]; exact hyn
  have hs2 : 0 ≤ (⟨ds, d.price, d.leaves, d.state⟩ : Dep).seats ∧ (⟨ds, d.price, d.leaves, d.state⟩ : Dep).seats ≤ 100000 := ⟨hs.1, Int.le_trans hs.2 (by decide)⟩
  have hoc : ∀ A cf B cb, offCells o2 A cf B cb = offCells o A cf B cb := fun A cf B cb => by rw [← ho2]; exact offCells_len (o := o) (o' := { o with fl := o.fl.set i ⟨ds, d.price, d.leaves, d.state⟩ }) rfl rfl rfl rfl rfl (List.length_set ..) rfl A cf B cb
  have hS1 := dep_set0 hi ds
  have hS2 : (o2.fl.map depCells).flatten = ((o.fl.set i ⟨ds, d.price, d.leaves, d.state⟩).map depCells).flatten := by rw [← ho2]
  rw [← hS2] at hS1
  have room1 : 0 + i * 4 + 1 ≤ ((o.fl.map depCells).flatten).length := by have := dep_room hi; omega
  have hq := allFrom_t (lo := 0) (hi := 50) (z := ds) hs
  have hcnt : ((cntV (mtB (i : Int) [1]) o.bk : Nat) : Int) ≤ ds := by rw [mt_many]; exact h2
  obtain ⟨M, hM⟩ : ∃ M, (deskH bd o (some (gF, cF)) y).map Prod.fst = M := ⟨_, rfl⟩
  rw [hM] at hw ⊢
  refine ds_dv (enter (c := cxM M w 32) (H := deskH bd o (some (gF, cF)) y) (F := frOf 0 _) Try.func129 rfl rfl rfl (fun d v hv => (look_frOf _ 0 d v hv).2) hw ?_)
  unfold deskH flH bkH
  simp only [clH_some, clA_some, clC_some, List.nil_append, List.cons_append]
  repeat' (first | ((with_reducible apply oq_id); first | ((with_reducible apply oq_leqT); exact rfl; exact rfl; omega) | (apply oq_fn; exact rfl; try first | exact trivial | (and_intros <;> omega)) | ((with_reducible apply oq_load); exact rfl; exact rfl) | ((with_reducible apply oq_call (k := 133) (hc := Try.call133)); exact rfl; exact rfl; exact fun D w1 hw1 => flight_ok bd o _ cF (clA y) (clC y) w1 (desk_of (x := some (gF, cF)) (y := y) hw1 (by (repeat (first | exact HpSub.refl _ | (apply HpSub.consE; (repeat (first | exact P0 | apply P1 | apply PA)); exact rfl) | apply HpSub.skipX | apply HpSub.skipX | exact HpSub.nil))) (fun h => by cases h) hyn) (by omega) gF 0 rfl i d hi h0) | ((with_reducible apply oq_call (k := 106) (hc := Try.call106)); exact rfl; exact rfl; exact fun D w1 hw1 => must_ok _ w1) | ((with_reducible apply oq_call (k := 63) (hc := Try.call63)); exact rfl; exact rfl; exact fun D w1 hw1 => fromOne hq hw1 (by (repeat (first | exact P0 | apply P1 | apply PA)))) | ((with_reducible apply oq_call (k := 64) (hc := Try.call64)); exact rfl; exact rfl; exact fun D w1 hw1 => count_calls bd o (some ⟨gF, 0, none⟩) cF (clA y) (clC y) w1 (desk_of (x := some (gF, cF)) (y := y) hw1 (by (repeat (first | exact HpSub.refl _ | (apply HpSub.consE; (repeat (first | exact P0 | apply P1 | apply PA)); exact rfl) | apply HpSub.skipX | apply HpSub.skipX | exact HpSub.nil))) (fun h => by cases h) hyn) (by omega) (i : Int) (some ⟨_, 0, none⟩) 1 _ [1] (one8 hw1 (by (repeat (first | exact P0 | apply P1 | apply PA)))) (by omega))) | ((with_reducible apply tl_id); first | (with_reducible apply tl_nil) | ((with_reducible apply u_s); (iterate 3 exact rfl); (with_reducible apply os_callM (PV := fun v H => v = .tuple #[] ∧ H = deskH bd (givenV o2 i) (some (gF, cF)) y) (G := deskH bd o2 (some (gF, cF)) y) (R := []) (k := 134) (hc := Try.call134)); exact rfl; exact rfl; (focus (unfold deskH flH bkH; simp only [clH_some, clA_some, clC_some, List.nil_append, List.cons_append, List.append_nil, hbk2, hoc]; (rcases y with _ | ⟨gB, cB⟩ <;> simp only [clH, clA, clC, List.nil_append, List.cons_append, List.append_nil]) <;> (repeat (first | exact HpSub.refl _ | (apply HpSub.consE; (repeat (first | exact P0 | apply P1 | apply PA)); exact rfl) | apply HpSub.skipX | apply HpSub.skipX | exact HpSub.nil)))); exact (fun D w1 hw1 hwG => give_T bd o2 (some (gF, cF)) y (fun h => by cases h) hyn2 w1 hwG hb2 i _ hi2 hs2); rintro v H1 ⟨rfl, rfl⟩; (try simp only [List.append_nil])) | ((with_reducible apply u_q); (iterate 4 exact rfl)) | ((with_reducible apply u_s0); exact rfl; exact rfl) | ((with_reducible apply u_s); (iterate 3 exact rfl))) | ((with_reducible apply gx_id); first | (with_reducible apply v_nil) | ((with_reducible apply v_q); (iterate 3 exact rfl))) | ((with_reducible apply os_id); first | ((with_reducible apply os_storeB (hC := hS1)); (iterate 4 exact rfl); (repeat (first | exact P0 | apply P1 | apply PA)); exact room1) | ((with_reducible apply os_x); exact rfl)) | ((with_reducible apply ox_id); first | ((with_reducible apply ox_boxAgg); exact rfl; intro _) | ((with_reducible apply ox_buildSlice1); (iterate 6 exact rfl); intro _)) | ((with_reducible apply ai_id); first | ((with_reducible apply ai_q); (iterate 5 exact rfl)) | ((with_reducible apply ai_x); (iterate 5 exact rfl))) | ((with_reducible apply rd_id); first | (apply Rd.own; (repeat (first | exact P0 | apply P1 | apply PA)); exact rfl; done)) | ((with_reducible apply t_id); first | (apply t_mix (id := 3) [0, 1, 2, 5, 6] 4 #[false, false, false, false, false, false, false, false, false]; kernel_rfl; kernel_rfl; exact rfl) | (with_reducible apply t_seq) | (apply t_region; kernel_rfl)) | with_reducible apply q_thenN | (with_reducible apply end_normal) | exact rvs_nil | ((with_reducible apply al_id); first | (apply al_done; decide +kernel) | (apply al_one 3; decide +kernel) | (apply al_one 4; decide +kernel) | (apply al_one 7; decide +kernel) | (apply al_one 8; decide +kernel)))
  all_goals exact ⟨rfl, some (gF, cF), y, (fun h => by cases h), (fun h => by rw [← hyn2 h]; exact giveL_length _ _ _), HpSub.refl _⟩
theorem cancel_T (bd : Nat) (o : Off) (x y : Option (Nat × Nat)) (hxn : x = none → o.fl.length = 0) (hyn : y = none → o.bk.length = 0) (hv : OkO o) (w : World) (hw : Has w ⟨(deskH bd o x y).map Prod.fst, []⟩ (deskH bd o x y) w) (dk dn ds dp dl : Int) (hin : 0 ≤ dn ∧ dn < (o.bk.length : Int)) (hst : (bkAt o dn).state = 1 ∨ (bkAt o dn).state = 2) : Calls Try.prog 125 #[.pointer (some ⟨bd, 0, none⟩), .agg ⟨[.int .u8 dk, .int .i64 dn, .int .i64 ds, .int .i64 dp, .int .i64 dl]⟩] w fun e w' => ∃ v H', e = .returned v ∧ DV bd (cancelV o dn) v H' ∧ Has w ⟨(deskH bd o x y).map Prod.fst, []⟩ H' w' := by
  obtain ⟨j, rfl⟩ : ∃ j : Nat, dn = (j : Int) := ⟨dn.toNat, by omega⟩
  have hjl : j < o.bk.length := by omega
  rcases y with _ | ⟨gB, cB⟩
  · exact absurd (hyn rfl) (by omega)
  obtain ⟨b, hb⟩ : ∃ b, o.bk[j]? = some b := ⟨_, List.getElem?_eq_getElem hjl⟩
  have hbat : bkAt o (j : Int) = b := by unfold bkAt; rw [Int.toNat_natCast, hb]
  rw [hbat] at hst
  have hbk := hv.bks b (List.mem_of_getElem? hb)
  obtain ⟨i, hbi⟩ : ∃ i : Nat, b.flight = (i : Int) := ⟨b.flight.toNat, by omega⟩
  have hil : i < o.fl.length := by omega
  obtain ⟨d, hi⟩ : ∃ d, o.fl[i]? = some d := ⟨_, List.getElem?_eq_getElem hil⟩
  rcases x with _ | ⟨gF, cF⟩
  · exact absurd (hxn rfl) (by omega)
  have hdd := hv.dep hi
  have hnb := hv.nb
  have hnf := hv.nf
  have hnow := hv.now
  have hnot := hv.notice
  have hout := hv.out
  have hfe := fee_in ⟨hdd.2.2.1, hdd.2.2.2.1⟩ hv.fee
  have hdep : depAt o (i : Int) = d := by unfold depAt; rw [Int.toNat_natCast, hi]
  obtain ⟨kp, hkp⟩ : ∃ kp, keptV o d b = kp := ⟨_, rfl⟩
  have hkb : 0 ≤ kp ∧ kp ≤ 1000000 := by
    rw [← hkp]; unfold keptV
    split <;> omega
  obtain ⟨o2, ho2⟩ : ∃ o2 : Off, { o with bk := o.bk.set j ⟨(i : Int), 4, kp⟩, out := o.out + (d.price - kp) } = o2 := ⟨_, rfl⟩
  have hsv : cancelV o (j : Int) = givenV o2 i := by
    unfold cancelV paidB
    simp only [hbat, hbi, hdep, hkp, Int.toNat_natCast, ho2]
  rw [hsv]
  have hfl2 : o2.fl = o.fl := by rw [← ho2]
  have hi2 : o2.fl[i]? = some d := by rw [hfl2]; exact hi
  have hlen2 : o2.bk.length = o.bk.length := by rw [← ho2]; exact List.length_set ..
  have hb2 : o2.bk.length ≤ 1000 := by omega
  have hbk2 : (o2.fl.map depCells).flatten = (o.fl.map depCells).flatten := by rw [hfl2]
  have hoc : True := trivial
  obtain ⟨r0, r1, r2, r3⟩ := dep_at hi
  obtain ⟨q0, q1, q2⟩ := bk_at hb
  rw [hbi] at q0
  have hu : o2.bk[j]? = some ⟨(i : Int), 4, kp⟩ := by rw [← ho2]; simp [hjl]
  have u0 := (bk_at hu).1
  simp only at u0
  have hcd : ∀ A cf B cb, offCells { o with out := o.out + (d.price - kp) } A cf B cb = offCells o2 A cf B cb := fun A cf B cb => (by rw [← ho2]; exact (offCells_len (o := { o with out := o.out + (d.price - kp) }) (o' := { o with bk := o.bk.set j ⟨(i : Int), 4, kp⟩, out := o.out + (d.price - kp) }) rfl rfl rfl rfl rfl rfl (List.length_set ..) A cf B cb).symm)
  have HRP := fun w1 hwG hp hm => repay_T bd gB cB gF 0 cF i j o (some (135, 7, 1)) (some (71, 3, cB)) d.price kp o.bk b w1 hwG hb hbi hil hp hm hout ⟨hdd.2.2.1, hdd.2.2.2.1⟩ hkb
  have hbs : (o.bk.set j ⟨b.flight, 4, kp⟩) = o2.bk := by rw [← ho2, hbi]
  simp only [hcd, hbs] at HRP
  have hq := allFrom_t (lo := 0) (hi := (o.bk.length : Int) - 1) (z := (j : Int)) ⟨by omega, by omega⟩
  obtain ⟨M, hM⟩ : ∃ M, (deskH bd o (some (gF, cF)) (some (gB, cB))).map Prod.fst = M := ⟨_, rfl⟩
  rw [hM] at hw ⊢
  refine ds_dv (enter (c := cxM M w 86) (H := deskH bd o (some (gF, cF)) (some (gB, cB))) (F := frOf 0 _) Try.func125 rfl rfl rfl (fun d v hv => (look_frOf _ 0 d v hv).2) hw ?_)
  unfold deskH flH bkH
  simp only [clH_some, clA_some, clC_some, List.nil_append, List.cons_append]
  by_cases hs1 : b.state = 1
  · by_cases hlate : d.leaves - o.now < o.notice
    · have hkv : feeV d.price o.fee = kp := by rw [← hkp]; unfold keptV; rw [if_pos ⟨hs1, hlate⟩]
      rw [hkv] at hfe
      have HFE := fun w1 hD1 => deskFee_calls bd o (some ⟨gF, 0, none⟩) cF (some ⟨gB, 0, none⟩) cB w1 hD1 hv.deps hv.fee i d hi
      rw [hkv] at HFE
      repeat' (first | ((with_reducible apply oq_id); first | (focus ((with_reducible apply oq_indexAddrN); (iterate 4 exact rfl); omega)) | ((with_reducible apply oq_eqlT); exact rfl; exact rfl; omega) | ((with_reducible apply oq_lssT); exact rfl; exact rfl; omega) | (apply oq_fn; exact rfl; try first | exact trivial | (and_intros <;> omega)) | ((with_reducible apply oq_load); exact rfl; exact rfl) | ((with_reducible apply oq_call (k := 63) (hc := Try.call63)); exact rfl; exact rfl; exact fun D w1 hw1 => fromOne hq hw1 (by (repeat (first | exact P0 | apply P1 | apply PA)))) | ((with_reducible apply oq_call (k := 106) (hc := Try.call106)); exact rfl; exact rfl; exact fun D w1 hw1 => must_ok _ w1) | ((with_reducible apply oq_call (k := 118) (hc := Try.call118)); exact rfl; exact rfl; exact fun D w1 hw1 => HFE w1 (desk_of (x := some (gF, cF)) (y := some (gB, cB)) hw1 (by (repeat (first | exact HpSub.refl _ | (apply HpSub.consE; (repeat (first | exact P0 | apply P1 | apply PA)); exact rfl) | apply HpSub.skipX | apply HpSub.skipX | exact HpSub.nil))) (fun h => by cases h) (fun h => by cases h)))) | ((with_reducible apply tl_id); first | (with_reducible apply tl_nil) | ((with_reducible apply u_s); (iterate 3 exact rfl); (with_reducible apply os_callM (PV := fun v H => v = .tuple #[] ∧ H = [(bd, offCells o2 (some ⟨gF, 0, none⟩) cF (some ⟨gB, 0, none⟩) cB, some (135, 7, 1)), (gB, (o2.bk.map bkCells).flatten, some (71, 3, cB))]) (G := [(bd, offCells o (some ⟨gF, 0, none⟩) cF (some ⟨gB, 0, none⟩) cB, some (135, 7, 1)), (gB, (o.bk.map bkCells).flatten, some (71, 3, cB))]) (R := [(gF, (o.fl.map depCells).flatten, some (106, 4, cF))]) (k := 135) (hc := Try.call135)); exact rfl; exact rfl; (focus (simp only [List.nil_append, List.cons_append]; (repeat (first | exact HpSub.refl _ | (apply HpSub.consE; (repeat (first | exact P0 | apply P1 | apply PA)); exact rfl) | apply HpSub.skipX | apply HpSub.skipX | exact HpSub.nil)))); exact (fun D w1 hw1 hwG => HRP w1 hwG (hw1.cellAt (by (repeat (first | exact P0 | apply P1 | apply PA))) r1) (List.nodup_cons.1 ((hw1.sub (show HpSub _ ((gF, (o.fl.map depCells).flatten, some (106, 4, cF)) :: [(bd, offCells o (some ⟨gF, 0, none⟩) cF (some ⟨gB, 0, none⟩) cB, some (135, 7, 1)), (gB, (o.bk.map bkCells).flatten, some (71, 3, cB))]) from (by (repeat (first | exact HpSub.refl _ | (apply HpSub.consE; (repeat (first | exact P0 | apply P1 | apply PA)); exact rfl) | apply HpSub.skipX | apply HpSub.skipX | exact HpSub.nil))))).nodup)).1); rintro v H1 ⟨rfl, rfl⟩; (try simp only [List.nil_append, List.cons_append])) | ((with_reducible apply u_s); (iterate 3 exact rfl); (with_reducible apply os_callM (PV := fun v H => v = .tuple #[] ∧ H = deskH bd (givenV o2 i) (some (gF, cF)) (some (gB, cB))) (G := deskH bd o2 (some (gF, cF)) (some (gB, cB))) (R := []) (k := 134) (hc := Try.call134)); exact rfl; exact rfl; (focus (unfold deskH flH bkH; simp only [clH_some, clA_some, clC_some, List.nil_append, List.cons_append, List.append_nil, hbk2, hoc]; (repeat (first | exact HpSub.refl _ | (apply HpSub.consE; (repeat (first | exact P0 | apply P1 | apply PA)); exact rfl) | apply HpSub.skipX | apply HpSub.skipX | exact HpSub.nil)))); exact (fun D w1 hw1 hwG => give_T bd o2 (some (gF, cF)) (some (gB, cB)) (fun h => by cases h) (fun h => by cases h) w1 hwG hb2 i d hi2 ⟨hdd.1, by omega⟩); rintro v H1 ⟨rfl, rfl⟩; (try simp only [List.append_nil])) | ((with_reducible apply u_q); (iterate 4 exact rfl)) | ((with_reducible apply u_s); (iterate 3 exact rfl)) | ((with_reducible apply u_skip); (iterate 3 exact rfl))) | ((with_reducible apply gx_id); first | (with_reducible apply v_nil) | ((with_reducible apply v_q); (iterate 3 exact rfl))) | ((with_reducible apply os_x); exact rfl) | ((with_reducible apply ox_id); first | ((with_reducible apply ox_boxAgg); exact rfl; intro _) | ((with_reducible apply ox_buildSlice1); (iterate 6 exact rfl); intro _)) | ((with_reducible apply ai_id); first | ((with_reducible apply ai_q); (iterate 5 exact rfl)) | ((with_reducible apply ai_x); (iterate 5 exact rfl))) | ((with_reducible apply rd_id); first | (apply Rd.own; (repeat (first | exact P0 | apply P1 | apply PA)); first | exact r0 | exact r1 | exact r2 | exact r3 | exact q0 | exact q1 | exact q2 | exact u0; done) | (apply Rd.own; (repeat (first | exact P0 | apply P1 | apply PA)); exact rfl; done)) | ((with_reducible apply t_id); first | (apply t_mix (id := 1) [0, 1, 2, 3, 4, 5, 6, 7, 8] 3 #[false, false, false, false, false, false, false, false, false, false, false, false]; kernel_rfl; kernel_rfl; exact rfl) | (apply t_mix (id := 5) [0, 1, 2, 3, 4, 5, 6, 7, 8, 9, 10, 11, 12, 13, 14, 15, 16, 17, 18, 19, 20, 21, 22, 23, 24, 25, 26, 27, 28, 29, 30] 0 #[false, false, false, false, false, false, false, false, false, false, false, false, false, false, false, false, false, false, false, false, false, false, false, false, false, false, false, false, false, false, false]; kernel_rfl; kernel_rfl; exact rfl) | (with_reducible apply t_seq) | (apply t_region; kernel_rfl) | (apply t_drawn; kernel_rfl; decide +kernel; try simp only [List.append_eq, List.cons_append, List.nil_append]) | ((with_reducible apply t_condT); exact rfl)) | with_reducible apply q_thenN | (with_reducible apply end_normal) | exact rvs_nil | ((with_reducible apply al_id); first | (apply al_done; decide +kernel) | (apply al_one 9; decide +kernel) | (apply al_one 10; decide +kernel) | (apply al_one 11; decide +kernel)))
      all_goals exact ⟨rfl, some (gF, cF), some (gB, cB), (fun h => by cases h), (fun h => by cases h), HpSub.refl _⟩
    · have hkv : (0 : Int) = kp := by rw [← hkp]; unfold keptV; rw [if_neg (fun h => hlate h.2)]
      subst hkv
      repeat' (first | ((with_reducible apply oq_id); first | (focus ((with_reducible apply oq_indexAddrN); (iterate 4 exact rfl); omega)) | ((with_reducible apply oq_eqlT); exact rfl; exact rfl; omega) | ((with_reducible apply oq_lssF); exact rfl; exact rfl; omega) | (apply oq_fn; exact rfl; try first | exact trivial | (and_intros <;> omega)) | ((with_reducible apply oq_load); exact rfl; exact rfl) | ((with_reducible apply oq_call (k := 63) (hc := Try.call63)); exact rfl; exact rfl; exact fun D w1 hw1 => fromOne hq hw1 (by (repeat (first | exact P0 | apply P1 | apply PA)))) | ((with_reducible apply oq_call (k := 106) (hc := Try.call106)); exact rfl; exact rfl; exact fun D w1 hw1 => must_ok _ w1)) | ((with_reducible apply tl_id); first | (with_reducible apply tl_nil) | ((with_reducible apply u_s); (iterate 3 exact rfl); (with_reducible apply os_callM (PV := fun v H => v = .tuple #[] ∧ H = [(bd, offCells o2 (some ⟨gF, 0, none⟩) cF (some ⟨gB, 0, none⟩) cB, some (135, 7, 1)), (gB, (o2.bk.map bkCells).flatten, some (71, 3, cB))]) (G := [(bd, offCells o (some ⟨gF, 0, none⟩) cF (some ⟨gB, 0, none⟩) cB, some (135, 7, 1)), (gB, (o.bk.map bkCells).flatten, some (71, 3, cB))]) (R := [(gF, (o.fl.map depCells).flatten, some (106, 4, cF))]) (k := 135) (hc := Try.call135)); exact rfl; exact rfl; (focus (simp only [List.nil_append, List.cons_append]; (repeat (first | exact HpSub.refl _ | (apply HpSub.consE; (repeat (first | exact P0 | apply P1 | apply PA)); exact rfl) | apply HpSub.skipX | apply HpSub.skipX | exact HpSub.nil)))); exact (fun D w1 hw1 hwG => HRP w1 hwG (hw1.cellAt (by (repeat (first | exact P0 | apply P1 | apply PA))) r1) (List.nodup_cons.1 ((hw1.sub (show HpSub _ ((gF, (o.fl.map depCells).flatten, some (106, 4, cF)) :: [(bd, offCells o (some ⟨gF, 0, none⟩) cF (some ⟨gB, 0, none⟩) cB, some (135, 7, 1)), (gB, (o.bk.map bkCells).flatten, some (71, 3, cB))]) from (by (repeat (first | exact HpSub.refl _ | (apply HpSub.consE; (repeat (first | exact P0 | apply P1 | apply PA)); exact rfl) | apply HpSub.skipX | apply HpSub.skipX | exact HpSub.nil))))).nodup)).1); rintro v H1 ⟨rfl, rfl⟩; (try simp only [List.nil_append, List.cons_append])) | ((with_reducible apply u_s); (iterate 3 exact rfl); (with_reducible apply os_callM (PV := fun v H => v = .tuple #[] ∧ H = deskH bd (givenV o2 i) (some (gF, cF)) (some (gB, cB))) (G := deskH bd o2 (some (gF, cF)) (some (gB, cB))) (R := []) (k := 134) (hc := Try.call134)); exact rfl; exact rfl; (focus (unfold deskH flH bkH; simp only [clH_some, clA_some, clC_some, List.nil_append, List.cons_append, List.append_nil, hbk2, hoc]; (repeat (first | exact HpSub.refl _ | (apply HpSub.consE; (repeat (first | exact P0 | apply P1 | apply PA)); exact rfl) | apply HpSub.skipX | apply HpSub.skipX | exact HpSub.nil)))); exact (fun D w1 hw1 hwG => give_T bd o2 (some (gF, cF)) (some (gB, cB)) (fun h => by cases h) (fun h => by cases h) w1 hwG hb2 i d hi2 ⟨hdd.1, by omega⟩); rintro v H1 ⟨rfl, rfl⟩; (try simp only [List.append_nil])) | ((with_reducible apply u_q); (iterate 4 exact rfl)) | ((with_reducible apply u_s); (iterate 3 exact rfl)) | ((with_reducible apply u_skip); (iterate 3 exact rfl))) | ((with_reducible apply gx_id); first | (with_reducible apply v_nil) | ((with_reducible apply v_q); (iterate 3 exact rfl))) | ((with_reducible apply os_x); exact rfl) | ((with_reducible apply ox_id); first | ((with_reducible apply ox_boxAgg); exact rfl; intro _) | ((with_reducible apply ox_buildSlice1); (iterate 6 exact rfl); intro _)) | ((with_reducible apply ai_id); first | ((with_reducible apply ai_q); (iterate 5 exact rfl)) | ((with_reducible apply ai_x); (iterate 5 exact rfl))) | ((with_reducible apply rd_id); first | (apply Rd.own; (repeat (first | exact P0 | apply P1 | apply PA)); first | exact r0 | exact r1 | exact r2 | exact r3 | exact q0 | exact q1 | exact q2 | exact u0; done) | (apply Rd.own; (repeat (first | exact P0 | apply P1 | apply PA)); exact rfl; done)) | ((with_reducible apply t_id); first | (apply t_mix (id := 1) [0, 1, 2, 3, 4, 5, 6, 7, 8] 3 #[false, false, false, false, false, false, false, false, false, false, false, false]; kernel_rfl; kernel_rfl; exact rfl) | (apply t_mix (id := 5) [0, 1, 2, 3, 4, 5, 6, 7, 8, 9, 10, 11, 12, 13, 14, 15, 16, 17, 18, 19, 20, 21, 22, 23, 24, 25, 26, 27, 28, 29, 30] 0 #[false, false, false, false, false, false, false, false, false, false, false, false, false, false, false, false, false, false, false, false, false, false, false, false, false, false, false, false, false, false, false]; kernel_rfl; kernel_rfl; exact rfl) | (with_reducible apply t_seq) | (apply t_region; kernel_rfl) | (apply t_drawn; kernel_rfl; decide +kernel; try simp only [List.append_eq, List.cons_append, List.nil_append]) | ((with_reducible apply t_condF); exact rfl) | (with_reducible apply t_skip)) | with_reducible apply q_thenN | (with_reducible apply end_normal) | exact rvs_nil | ((with_reducible apply al_id); first | (apply al_done; decide +kernel) | (apply al_one 9; decide +kernel) | (apply al_one 10; decide +kernel) | (apply al_one 11; decide +kernel)))
      all_goals exact ⟨rfl, some (gF, cF), some (gB, cB), (fun h => by cases h), (fun h => by cases h), HpSub.refl _⟩
  · have hs2 : b.state = 2 := by omega
    have hkv : (0 : Int) = kp := by rw [← hkp]; unfold keptV; rw [if_neg (fun h => hs1 h.1)]
    subst hkv
    repeat' (first | ((with_reducible apply oq_id); first | (focus ((with_reducible apply oq_indexAddrN); (iterate 4 exact rfl); omega)) | ((with_reducible apply oq_eqlT); exact rfl; exact rfl; omega) | ((with_reducible apply oq_eqlF); exact rfl; exact rfl; omega) | (apply oq_fn; exact rfl; try first | exact trivial | (and_intros <;> omega)) | ((with_reducible apply oq_load); exact rfl; exact rfl) | ((with_reducible apply oq_call (k := 63) (hc := Try.call63)); exact rfl; exact rfl; exact fun D w1 hw1 => fromOne hq hw1 (by (repeat (first | exact P0 | apply P1 | apply PA)))) | ((with_reducible apply oq_call (k := 106) (hc := Try.call106)); exact rfl; exact rfl; exact fun D w1 hw1 => must_ok _ w1)) | ((with_reducible apply tl_id); first | (with_reducible apply tl_nil) | ((with_reducible apply u_s); (iterate 3 exact rfl); (with_reducible apply os_callM (PV := fun v H => v = .tuple #[] ∧ H = [(bd, offCells o2 (some ⟨gF, 0, none⟩) cF (some ⟨gB, 0, none⟩) cB, some (135, 7, 1)), (gB, (o2.bk.map bkCells).flatten, some (71, 3, cB))]) (G := [(bd, offCells o (some ⟨gF, 0, none⟩) cF (some ⟨gB, 0, none⟩) cB, some (135, 7, 1)), (gB, (o.bk.map bkCells).flatten, some (71, 3, cB))]) (R := [(gF, (o.fl.map depCells).flatten, some (106, 4, cF))]) (k := 135) (hc := Try.call135)); exact rfl; exact rfl; (focus (simp only [List.nil_append, List.cons_append]; (repeat (first | exact HpSub.refl _ | (apply HpSub.consE; (repeat (first | exact P0 | apply P1 | apply PA)); exact rfl) | apply HpSub.skipX | apply HpSub.skipX | exact HpSub.nil)))); exact (fun D w1 hw1 hwG => HRP w1 hwG (hw1.cellAt (by (repeat (first | exact P0 | apply P1 | apply PA))) r1) (List.nodup_cons.1 ((hw1.sub (show HpSub _ ((gF, (o.fl.map depCells).flatten, some (106, 4, cF)) :: [(bd, offCells o (some ⟨gF, 0, none⟩) cF (some ⟨gB, 0, none⟩) cB, some (135, 7, 1)), (gB, (o.bk.map bkCells).flatten, some (71, 3, cB))]) from (by (repeat (first | exact HpSub.refl _ | (apply HpSub.consE; (repeat (first | exact P0 | apply P1 | apply PA)); exact rfl) | apply HpSub.skipX | apply HpSub.skipX | exact HpSub.nil))))).nodup)).1); rintro v H1 ⟨rfl, rfl⟩; (try simp only [List.nil_append, List.cons_append])) | ((with_reducible apply u_s); (iterate 3 exact rfl); (with_reducible apply os_callM (PV := fun v H => v = .tuple #[] ∧ H = deskH bd (givenV o2 i) (some (gF, cF)) (some (gB, cB))) (G := deskH bd o2 (some (gF, cF)) (some (gB, cB))) (R := []) (k := 134) (hc := Try.call134)); exact rfl; exact rfl; (focus (unfold deskH flH bkH; simp only [clH_some, clA_some, clC_some, List.nil_append, List.cons_append, List.append_nil, hbk2, hoc]; (repeat (first | exact HpSub.refl _ | (apply HpSub.consE; (repeat (first | exact P0 | apply P1 | apply PA)); exact rfl) | apply HpSub.skipX | apply HpSub.skipX | exact HpSub.nil)))); exact (fun D w1 hw1 hwG => give_T bd o2 (some (gF, cF)) (some (gB, cB)) (fun h => by cases h) (fun h => by cases h) w1 hwG hb2 i d hi2 ⟨hdd.1, by omega⟩); rintro v H1 ⟨rfl, rfl⟩; (try simp only [List.append_nil])) | ((with_reducible apply u_q); (iterate 4 exact rfl)) | ((with_reducible apply u_s); (iterate 3 exact rfl))) | ((with_reducible apply gx_id); first | (with_reducible apply v_nil) | ((with_reducible apply v_q); (iterate 3 exact rfl)) | ((with_reducible apply v_skip); (iterate 3 exact rfl))) | ((with_reducible apply os_x); exact rfl) | ((with_reducible apply ox_id); first | ((with_reducible apply ox_boxAgg); exact rfl; intro _) | ((with_reducible apply ox_buildSlice1); (iterate 6 exact rfl); intro _)) | ((with_reducible apply ai_id); first | ((with_reducible apply ai_q); (iterate 5 exact rfl)) | ((with_reducible apply ai_x); (iterate 5 exact rfl))) | ((with_reducible apply rd_id); first | (apply Rd.own; (repeat (first | exact P0 | apply P1 | apply PA)); first | exact r0 | exact r1 | exact r2 | exact r3 | exact q0 | exact q1 | exact q2 | exact u0; done) | (apply Rd.own; (repeat (first | exact P0 | apply P1 | apply PA)); exact rfl; done)) | ((with_reducible apply t_id); first | (apply t_mix (id := 1) [0, 1, 2, 3, 4, 5, 6, 7, 8] 3 #[false, false, false, false, false, false, false, false, false, false, false, false]; kernel_rfl; kernel_rfl; exact rfl) | (apply t_mix (id := 5) [0, 1, 2, 3, 4, 5, 6, 7, 8, 9, 10, 11, 12, 13, 14, 15, 16, 17, 18, 19, 20, 21, 22, 23, 24, 25, 26, 27, 28, 29, 30] 0 #[false, false, false, false, false, false, false, false, false, false, false, false, false, false, false, false, false, false, false, false, false, false, false, false, false, false, false, false, false, false, false]; kernel_rfl; kernel_rfl; exact rfl) | (with_reducible apply t_seq) | (apply t_region; kernel_rfl) | (apply t_drawn; kernel_rfl; decide +kernel; try simp only [List.append_eq, List.cons_append, List.nil_append]) | ((with_reducible apply t_condF); exact rfl) | (with_reducible apply t_skip)) | with_reducible apply q_thenN | (with_reducible apply end_normal) | exact rvs_nil | ((with_reducible apply al_id); first | (apply al_done; decide +kernel) | (apply al_one 9; decide +kernel) | (apply al_one 10; decide +kernel) | (apply al_one 11; decide +kernel)))
    all_goals exact ⟨rfl, some (gF, cF), some (gB, cB), (fun h => by cases h), (fun h => by cases h), HpSub.refl _⟩
theorem off_T (bd : Nat) (o : Off) (x y : Option (Nat × Nat)) (hxn : x = none → o.fl.length = 0) (hyn : y = none → o.bk.length = 0) (hv : OkO o) (w : World) (hw : Has w ⟨(deskH bd o x y).map Prod.fst, []⟩ (deskH bd o x y) w) (dk dn ds dp dl : Int) (hO1 : openE o dn = 0) : Calls Try.prog 127 #[.pointer (some ⟨bd, 0, none⟩), .agg ⟨[.int .u8 dk, .int .i64 dn, .int .i64 ds, .int .i64 dp, .int .i64 dl]⟩] w fun e w' => ∃ v H', e = .returned v ∧ DV bd (closedV o dn.toNat (depAt o dn) 2 4) v H' ∧ Has w ⟨(deskH bd o x y).map Prod.fst, []⟩ H' w' := by
  obtain ⟨i, d, rfl, hi, h0⟩ := openE_ok hO1
  have hil := (List.getElem?_eq_some_iff.1 hi).1
  rcases x with _ | ⟨gF, cF⟩
  · exact absurd (hxn rfl) (by omega)
  have hy0 : ∃ gB, 0 < o.bk.length → clA y = some ⟨gB, 0, none⟩ := by
    rcases y with _ | ⟨gB, cB⟩
    · exact ⟨0, fun h => absurd (hyn rfl) (by omega)⟩
    · exact ⟨gB, fun _ => rfl⟩
  obtain ⟨gB, hgB⟩ := hy0
  have hdd := hv.dep hi
  have hnb := hv.nb
  have hnf := hv.nf
  have hout := hv.out
  have hdep : depAt o (i : Int) = d := by unfold depAt; rw [Int.toNat_natCast, hi]
  rw [hdep, Int.toNat_natCast]
  have hi2 : (o.fl.set i ⟨d.seats, d.price, d.leaves, 2⟩)[i]? = some ⟨d.seats, d.price, d.leaves, 2⟩ := by simp [hil]
  have hS1 := dep_set3 hi 2
  have room1 := dep_room hi
  obtain ⟨r0, r1, r2, r3⟩ := dep_at hi
  obtain ⟨_, q1, _⟩ := dep_at hi2
  simp only at q1
  have hpin := fun p => paid_in (f := (i : Int)) (to := 4) (bk := o.bk) ⟨hdd.2.2.1, hdd.2.2.2.1⟩ hnb p
  have hq : True := trivial
  obtain ⟨M, hM⟩ : ∃ M, (deskH bd o (some (gF, cF)) y).map Prod.fst = M := ⟨_, rfl⟩
  rw [hM] at hw ⊢
  refine ds_dv (enter (c := cxM M w 20) (H := deskH bd o (some (gF, cF)) y) (F := frOf 0 _) Try.func127 rfl rfl rfl (fun d v hv => (look_frOf _ 0 d v hv).2) hw ?_)
  unfold deskH flH bkH
  simp only [clH_some, clA_some, clC_some, List.nil_append, List.cons_append]
  repeat' (first | ((with_reducible apply oq_id); first | (apply oq_fn; exact rfl; try first | exact trivial | (and_intros <;> omega)) | ((with_reducible apply oq_load); exact rfl; exact rfl) | ((with_reducible apply oq_call (k := 133) (hc := Try.call133)); exact rfl; exact rfl; exact fun D w1 hw1 => flight_ok bd o _ cF (clA y) (clC y) w1 (desk_of (x := some (gF, cF)) (y := y) hw1 (by (repeat (first | exact HpSub.refl _ | (apply HpSub.consE; (repeat (first | exact P0 | apply P1 | apply PA)); exact rfl) | apply HpSub.skipX | apply HpSub.skipX | exact HpSub.nil))) (fun h => by cases h) hyn) (by omega) gF 0 rfl i d hi h0)) | ((with_reducible apply tl_id); first | (with_reducible apply tl_nil) | ((with_reducible apply u_s); (iterate 3 exact rfl); (with_reducible apply os_callF (PV := OfV bd i (some ⟨_, 0, none⟩) 2 2) (k := 70) (hc := Try.call70)); exact rfl; exact rfl; exact fun D w1 hw1 => of_T _ _ _ _ _ w1; rintro v H' ⟨b0, b1, b2, rfl, rfl⟩; (try simp only [List.cons_append, List.nil_append])) | ((with_reducible apply u_q); (iterate 4 exact rfl)) | ((with_reducible apply u_s0); exact rfl; exact rfl) | ((with_reducible apply u_s); (iterate 3 exact rfl))) | ((with_reducible apply os_id); first | ((with_reducible apply os_storeB (hC := hS1)); (iterate 4 exact rfl); (repeat (first | exact P0 | apply P1 | apply PA)); exact room1) | ((with_reducible apply os_x); exact rfl)) | ((with_reducible apply ox_id); first | ((with_reducible apply ox_box); exact rfl; exact rfl; intro _) | ((with_reducible apply ox_boxAgg); exact rfl; intro _) | ((with_reducible apply ox_buildSlice1); (iterate 6 exact rfl); intro _)) | ((with_reducible apply rd_id); first | (apply Rd.own; (repeat (first | exact P0 | apply P1 | apply PA)); exact rfl; done)) | ((with_reducible apply t_id); first | (with_reducible apply t_seq) | (apply t_region; kernel_rfl) | (with_reducible apply t_block)) | with_reducible apply q_thenN)
  rename_i bt bm bs
  refine t_rangeV (m := 1) (α := Ix o.bk.length) (β := Unit) (κ := Unit) (ι := Nat) (encs := fun z => [.pointer (some ⟨gB, 0 + z.1 * 3, none⟩)]) (Rq := fun _ W => OfAt b0 b1 b2 bd (clA y) o.bk.length (clC y) i (some ⟨bs, 0, none⟩) 2 2 [1, 2] W) (G := OfG (clA y) o.bk.length i [1, 2]) (E := OfE (clA y) o.bk.length i [1, 2])
    (hk := (b2, [.slice (some ⟨bs, 0, none⟩) 2 2], some (109, 1, 1)) :: (b1, [.int .i64 i], some (3, 1, 1)) :: (b0, [.pointer (some ⟨bd, 0, none⟩)], some (121, 1, 1)) :: (bs, [.int .u8 1, .int .u8 2], some (5, 1, 2)) :: (bm, [.int .u8 dk, .int .i64 (i : Int), .int .i64 ds, .int .i64 dp, .int .i64 dl], some (63, 5, 1)) :: (bt, [.pointer (some ⟨bd, 0, none⟩)], some (121, 1, 1)) :: (gF, ((o.fl.set i ⟨d.seats, d.price, d.leaves, 2⟩).map depCells).flatten, some (106, 4, cF)) :: [])
    (fun p => (bd, offCells { o with out := o.out + paidTo o.bk i 4 d.price p } (some ⟨gF, 0, none⟩) cF (clA y) (clC y), some (135, 7, 1)) :: clH 71 3 ((midS i 4 o.bk p).map bkCells).flatten y) (fun pre p => p = bnd pre) (fun _ _ => []) (fun z _ => [(4, .pointer (some ⟨gB, 0 + z.1 * 3, none⟩)), (2, .pointer (some ⟨bt, 0, none⟩))]) (fun _ => [])
    (fun k _ n => False) 0 rfl Try.call100
    (of1_seqV 2 b0 b1 b2 bd gB 0 (clA y) o.bk.length (clC y) i (some ⟨bs, 0, none⟩) 2 2 [1, 2] hgB (by omega) (by omega)) (fun n0 x => OfG.abide _ _ _ _ n0 x) (fun n0 => OfE.abide _ _ _ _ n0) ?rq ?h0 ?sub ?ok ?done (fun _ _ _ h => h.elim)
  case rq =>
    rintro pre p D W _ hw
    have hrd : RdS W 3 (clA y) o.bk.length ((midS i 4 o.bk p).map bkCells) := clH_rows (hw.left.sub (HpSub.skipX (HpSub.refl _))) (fun _ => rfl) (midS_len ..) hyn
    have hw' := hw.right
    exact ⟨hw'.cellAt (by (repeat (first | exact P0 | apply P1 | apply PA))) rfl, hw'.cellAt (by (repeat (first | exact P0 | apply P1 | apply PA))) rfl, hw'.cellAt (by (repeat (first | exact P0 | apply P1 | apply PA))) rfl, two8 hw' (by (repeat (first | exact P0 | apply P1 | apply PA))), hw.left.cellAt (by (repeat (first | exact P0 | apply P1 | apply PA))) rfl, _, hrd⟩
  case h0 => rfl
  case sub =>
    have hz : paidTo o.bk (i : Int) 4 d.price 0 = 0 := by simp [paidTo, paidV]
    rw [hz, midS_zero, Int.add_zero]
    simp only [List.cons_append, List.nil_append]
    rcases y with _ | ⟨gB', cB'⟩ <;> simp only [clH, List.nil_append, List.cons_append]
    all_goals (repeat (first | exact HpSub.refl _ | (apply HpSub.consE; (repeat (first | exact P0 | apply P1 | apply PA)); exact rfl) | apply HpSub.skipX | exact HpSub.nil))
  case ok =>
    refine ⟨fun _ => rfl, rfl, fun x W => .inr ?_, fun x b i n W D hb hw _ y hy => (List.not_mem_nil hy).elim, fun l' pre z p b W D hpp hw hG hl' => ?_⟩
    · refine sl0_region (by kernel_rfl) ?_
      repeat' (first | ((with_reducible apply oq_id); first | (apply oq_fn; exact rfl; try first | exact trivial | (and_intros <;> omega))) | ((with_reducible apply tl_id); first | (with_reducible apply tl_nil) | ((with_reducible apply u_q); (iterate 4 exact rfl))))
      refine ⟨(), ?_, ?_⟩
      · (repeat (first | exact FrSub.nil | (apply FrSub.cons; exact rfl)))
      · (repeat (first | exact HpSub.refl _ | (apply HpSub.consE; (repeat (first | exact P0 | apply P1 | apply PA)); exact rfl) | apply HpSub.skipX | exact HpSub.nil))
    · obtain ⟨hbe, bk', hr', hm, hno⟩ := hG
      have hzl : z.1 < o.bk.length := z.2
      rcases y with _ | ⟨gB', cB⟩
      · exact absurd (hyn rfl) (by omega)
      obtain rfl : gB' = gB := by have := hgB (by omega); cases this; rfl
      have m0 := hw.off (b := gF) (by simp)
      have m1 := hw.off (b := bt) (by simp)
      simp only [List.cons_append, List.nil_append, clH_some, clA_some, clC_some, List.map_cons, List.map_nil] at m0 m1
      simp only [List.cons_append, List.nil_append, clH_some, clA_some, clC_some] at hw hr' ⊢
      obtain rfl := bk_inj (hr'.inj (clH_rows (x := some (gB', cB)) (hw.sub (by refine HpSub.skipX ?_; simp only [clH_some]; (repeat (first | exact HpSub.refl _ | (apply HpSub.consE; (repeat (first | exact P0 | apply P1 | apply PA)); exact rfl) | apply HpSub.skipX | exact HpSub.nil)))) (fun _ => rfl) (midS_len ..) (fun h => by cases h)))
      obtain ⟨u, hu⟩ : ∃ u, o.bk[z.1]? = some u := ⟨_, List.getElem?_eq_getElem hzl⟩
      have hpz : p ≤ z.1 := by rw [hpp]; exact behind_iff.1 hbe
      have hmu := hm u (by rw [midS_at hpz]; exact hu)
      obtain ⟨g1, g2⟩ := midS_gap (f := (i : Int)) (to := 4) (price := d.price) hpz (fun j y h1 h2 h3 => hno j y (behind_iff.2 (by rw [← hpp]; exact h1)) h2 (by rw [midS_at h1]; exact h3))
      rw [← g1, ← g2] at hw ⊢
      have hu2 : (midS i 4 o.bk z.1)[z.1]? = some u := by rw [midS_at (Nat.le_refl _)]; exact hu
      rw [mt_is2] at hmu
      have hfu : u.flight = (i : Int) := by
        unfold isB at hmu
        simp only [Bool.or_eq_true, Bool.and_eq_true, decide_eq_true_eq] at hmu
        rcases hmu with h | h <;> exact h.1
      have hsu : u.state = 1 ∨ u.state = 2 := by
        unfold isB at hmu
        simp only [Bool.or_eq_true, Bool.and_eq_true, decide_eq_true_eq] at hmu
        rcases hmu with h | h
        · exact .inl h.2
        · exact .inr h.2
      have hk0 := hv.kept0 (List.mem_of_getElem? hu) hsu
      have hbo : -1000000000 ≤ o.out + paidTo o.bk i 4 d.price z.1 ∧ o.out + paidTo o.bk i 4 d.price z.1 ≤ 1000000000 := by
        have h1 := hpin z.1
        have h2 : o.out = (sumsV o.fl o.bk).back := by
          have := hv.money
          unfold moneyB at this
          simp only [Bool.and_eq_true, decide_eq_true_eq] at this
          exact this.2
        have h3 := sums_in hv.deps hv.bks (Nat.le_refl o.bk.length)
        rw [sums_all (Nat.le_refl _)] at h3
        unfold Small at h3
        omega
      have hms := midS_step (f := (i : Int)) (to := 4) hu
      have hps := paid_step (f := (i : Int)) (to := 4) (price := d.price) hu
      have c0 : W.cell? ⟨gF, 0 + i * 4 + 1, none⟩ = some (.int .i64 d.price) := hw.cellAt (by (repeat (first | exact P0 | apply P1 | apply PA))) q1
      have c1 : W.cell? ⟨bt, 0, none⟩ = some (.pointer (some ⟨bd, 0, none⟩)) := hw.cellAt (by (repeat (first | exact P0 | apply P1 | apply PA))) rfl
      obtain ⟨s0, s1, s2⟩ := bk_at hu2
      have hsh : shutB (i : Int) 4 u = ⟨u.flight, 4, 0⟩ := by
        unfold shutB
        rcases hsu with h | h
        · rw [if_pos (by unfold isB; simp [hfu, h]), hk0]
        · rw [if_neg (by unfold isB; simp [h]), if_pos (by unfold isB; simp [hfu, h]), hk0]
      have hbb : backB (i : Int) 4 u = true := by
        unfold backB
        rw [Bool.or_eq_true] at hmu
        rcases hmu with h | h
        · rw [h]; rfl
        · rw [h]; simp
      · repeat' (first | ((with_reducible apply oq_id); first | (apply oq_fn; exact rfl; try first | exact trivial | (and_intros <;> omega)) | ((with_reducible apply oq_load); exact rfl; exact rfl)) | ((with_reducible apply tl_id); first | (with_reducible apply tl_nil) | ((with_reducible apply u_s); (iterate 3 exact rfl); (apply os_callM (PV := fun v H => v = .tuple #[] ∧ H = [(bd, offCells { o with out := o.out + paidTo o.bk i 4 d.price (Subtype.val z) + (d.price - 0) } (some ⟨gF, 0, none⟩) cF (some ⟨gB', 0, none⟩) cB, some (135, 7, 1)), (gB', (((midS i 4 o.bk (Subtype.val z)).set (Subtype.val z) ⟨u.flight, 4, 0⟩).map bkCells).flatten, some (71, 3, cB))]) (G := [(bd, offCells { o with out := o.out + paidTo o.bk i 4 d.price (Subtype.val z) } (some ⟨gF, 0, none⟩) cF (some ⟨gB', 0, none⟩) cB, some (135, 7, 1)), (gB', ((midS i 4 o.bk (Subtype.val z)).map bkCells).flatten, some (71, 3, cB))]) (R := []) (k := 135) (hc := Try.call135)); exact rfl; exact rfl; (focus (simp only [List.append_nil]; (repeat (first | exact HpSub.refl _ | (apply HpSub.consE; (repeat (first | exact P0 | apply P1 | apply PA)); exact rfl) | apply HpSub.skipX | apply HpSub.skipX | exact HpSub.nil)))); exact (fun D w1 hw1 hwG => repay_T bd gB' cB gF 0 cF i (Subtype.val z) { o with out := o.out + paidTo o.bk i 4 d.price (Subtype.val z) } (some (135, 7, 1)) (some (71, 3, cB)) d.price 0 (midS i 4 o.bk (Subtype.val z)) u w1 hwG hu2 hfu hil (hw1.old c0 m0) m0 hbo ⟨hdd.2.2.1, hdd.2.2.2.1⟩ ⟨by decide, by decide⟩); rintro v H1 ⟨rfl, rfl⟩; (try simp only [List.append_nil])) | ((with_reducible apply u_q); (iterate 4 exact rfl))) | ((with_reducible apply rd_id); first | (apply Rd.old; (first | (with_reducible assumption) | exact c0 | exact c1 | exact c2 | exact c3 | exact c4 | exact c5 | exact c6 | exact c7 | exact c8 | exact d0 | exact d1 | exact d2 | exact d3 | exact d4 | exact d5); first | exact List.not_mem_nil | exact m0 | exact m1 | exact m2 | exact m3 | exact m4 | exact m5 | exact m6 | exact m7 | exact m8 | exact m9)) | ((with_reducible apply t_id); first | (apply t_region; kernel_rfl) | (with_reducible apply t_block)) | with_reducible apply q_blockN)
        refine ⟨z.1 + 1, (by show z.1 + 1 = bnd (pre ++ [z]); rw [bnd_snoc hbe]), ?_⟩
        rw [hsh] at hms
        rw [hbb] at hps
        simp only [if_true] at hps
        have hz2 := (show o.out + (paidTo o.bk (i : Int) 4 d.price z.1 + d.price) = o.out + paidTo o.bk (i : Int) 4 d.price z.1 + (d.price - 0) from (by omega))
        simp only [hms, hps, clH_some, hz2]
        (repeat (first | exact HpSub.refl _ | (apply HpSub.consE; (repeat (first | exact P0 | apply P1 | apply PA)); exact rfl) | apply HpSub.skipX | exact HpSub.nil))
  case done =>
    rintro D xs p W ⟨bk', hr', hno⟩ hpp hw
    have hrd : RdS W 3 (clA y) o.bk.length ((midS i 4 o.bk p).map bkCells) := clH_rows (hw.left.sub (HpSub.skipX (HpSub.refl _))) (fun _ => rfl) (midS_len ..) hyn
    obtain rfl := bk_inj (hr'.inj hrd)
    obtain ⟨e1, e2⟩ := midS_end (f := (i : Int)) (to := 4) (price := d.price) (p := p) (bk := o.bk) (fun j y h1 h2 => hno j y (behind_iff.2 (by rw [← hpp]; exact h1)) (by rw [midS_at h1]; exact h2))
    rw [e1, e2]
    simp only [List.cons_append]
    repeat' (first | with_reducible apply q_blockN | (with_reducible apply end_normal) | exact rvs_nil)
    all_goals (refine ⟨rfl, some (gF, cF), y, (fun h => by cases h), (fun h => by simp only [closedV, List.length_map]; exact hyn h), ?_⟩)
    all_goals (unfold deskH flH bkH; rw [offCells_len (o := { o with out := o.out + paidV o.bk (i : Int) 4 d.price }) (o' := closedV o i d 2 4) rfl rfl rfl rfl rfl (List.length_set ..) (List.length_map ..)])
    all_goals (simp only [closedV, clH_some, clA_some, clC_some, List.nil_append, List.cons_append])
    all_goals (rcases y with _ | ⟨gB', cB'⟩ <;> simp only [clH, List.nil_append, List.cons_append])
    all_goals (repeat (first | exact HpSub.refl _ | (apply HpSub.consE; (repeat (first | exact P0 | apply P1 | apply PA)); exact rfl) | apply HpSub.skipX | exact HpSub.nil))
theorem leave_T (bd : Nat) (o : Off) (x y : Option (Nat × Nat)) (hxn : x = none → o.fl.length = 0) (hyn : y = none → o.bk.length = 0) (hv : OkO o) (w : World) (hw : Has w ⟨(deskH bd o x y).map Prod.fst, []⟩ (deskH bd o x y) w) (dk dn ds dp dl : Int) (hO1 : openE o dn = 0) (hle : (depAt o dn).leaves ≤ o.now) : Calls Try.prog 126 #[.pointer (some ⟨bd, 0, none⟩), .agg ⟨[.int .u8 dk, .int .i64 dn, .int .i64 ds, .int .i64 dp, .int .i64 dl]⟩] w fun e w' => ∃ v H', e = .returned v ∧ DV bd (closedV o dn.toNat (depAt o dn) 1 3) v H' ∧ Has w ⟨(deskH bd o x y).map Prod.fst, []⟩ H' w' := by
  obtain ⟨i, d, rfl, hi, h0⟩ := openE_ok hO1
  have hil := (List.getElem?_eq_some_iff.1 hi).1
  rcases x with _ | ⟨gF, cF⟩
  · exact absurd (hxn rfl) (by omega)
  have hy0 : ∃ gB, 0 < o.bk.length → clA y = some ⟨gB, 0, none⟩ := by
    rcases y with _ | ⟨gB, cB⟩
    · exact ⟨0, fun h => absurd (hyn rfl) (by omega)⟩
    · exact ⟨gB, fun _ => rfl⟩
  obtain ⟨gB, hgB⟩ := hy0
  have hdd := hv.dep hi
  have hnb := hv.nb
  have hnf := hv.nf
  have hout := hv.out
  have hdep : depAt o (i : Int) = d := by unfold depAt; rw [Int.toNat_natCast, hi]
  rw [hdep, Int.toNat_natCast]
  have hi2 : (o.fl.set i ⟨d.seats, d.price, d.leaves, 1⟩)[i]? = some ⟨d.seats, d.price, d.leaves, 1⟩ := by simp [hil]
  have hS1 := dep_set3 hi 1
  have room1 := dep_room hi
  obtain ⟨r0, r1, r2, r3⟩ := dep_at hi
  obtain ⟨_, q1, _⟩ := dep_at hi2
  simp only at q1
  have hpin := fun p => paid_in (f := (i : Int)) (to := 3) (bk := o.bk) ⟨hdd.2.2.1, hdd.2.2.2.1⟩ hnb p
  rw [hdep] at hle
  obtain ⟨M, hM⟩ : ∃ M, (deskH bd o (some (gF, cF)) y).map Prod.fst = M := ⟨_, rfl⟩
  rw [hM] at hw ⊢
  refine ds_dv (enter (c := cxM M w 41) (H := deskH bd o (some (gF, cF)) y) (F := frOf 0 _) Try.func126 rfl rfl rfl (fun d v hv => (look_frOf _ 0 d v hv).2) hw ?_)
  unfold deskH flH bkH
  simp only [clH_some, clA_some, clC_some, List.nil_append, List.cons_append]
  repeat' (first | ((with_reducible apply oq_id); first | ((with_reducible apply oq_geqT); exact rfl; exact rfl; omega) | (apply oq_fn; exact rfl; try first | exact trivial | (and_intros <;> omega)) | ((with_reducible apply oq_load); exact rfl; exact rfl) | ((with_reducible apply oq_call (k := 133) (hc := Try.call133)); exact rfl; exact rfl; exact fun D w1 hw1 => flight_ok bd o _ cF (clA y) (clC y) w1 (desk_of (x := some (gF, cF)) (y := y) hw1 (by (repeat (first | exact HpSub.refl _ | (apply HpSub.consE; (repeat (first | exact P0 | apply P1 | apply PA)); exact rfl) | apply HpSub.skipX | apply HpSub.skipX | exact HpSub.nil))) (fun h => by cases h) hyn) (by omega) gF 0 rfl i d hi h0) | ((with_reducible apply oq_call (k := 106) (hc := Try.call106)); exact rfl; exact rfl; exact fun D w1 hw1 => must_ok _ w1)) | ((with_reducible apply tl_id); first | (with_reducible apply tl_nil) | ((with_reducible apply u_s); (iterate 3 exact rfl); (with_reducible apply os_callF (PV := OfV bd i (some ⟨_, 0, none⟩) 2 2) (k := 70) (hc := Try.call70)); exact rfl; exact rfl; exact fun D w1 hw1 => of_T _ _ _ _ _ w1; rintro v H' ⟨b0, b1, b2, rfl, rfl⟩; (try simp only [List.cons_append, List.nil_append])) | ((with_reducible apply u_q); (iterate 4 exact rfl)) | ((with_reducible apply u_s0); exact rfl; exact rfl) | ((with_reducible apply u_s); (iterate 3 exact rfl))) | ((with_reducible apply gx_id); first | (with_reducible apply v_nil) | ((with_reducible apply v_q); (iterate 3 exact rfl))) | ((with_reducible apply os_id); first | ((with_reducible apply os_storeB (hC := hS1)); (iterate 4 exact rfl); (repeat (first | exact P0 | apply P1 | apply PA)); exact room1) | ((with_reducible apply os_x); exact rfl)) | ((with_reducible apply ox_id); first | ((with_reducible apply ox_box); exact rfl; exact rfl; intro _) | ((with_reducible apply ox_boxAgg); exact rfl; intro _) | ((with_reducible apply ox_buildSlice1); (iterate 6 exact rfl); intro _)) | ((with_reducible apply rd_id); first | (apply Rd.own; (repeat (first | exact P0 | apply P1 | apply PA)); first | exact r0 | exact r1 | exact r2 | exact r3 | exact s0 | exact s1 | exact s2; done) | (apply Rd.own; (repeat (first | exact P0 | apply P1 | apply PA)); exact rfl; done)) | ((with_reducible apply t_id); first | (with_reducible apply t_seq) | (apply t_region; kernel_rfl) | (apply t_drawn; kernel_rfl; decide +kernel; try simp only [List.append_eq, List.cons_append, List.nil_append]) | (with_reducible apply t_block)) | with_reducible apply q_thenN)
  rename_i bt bm bs
  refine t_rangeV (m := 1) (α := Ix o.bk.length) (β := Unit) (κ := Unit) (ι := Nat) (encs := fun z => [.pointer (some ⟨gB, 0 + z.1 * 3, none⟩)]) (Rq := fun _ W => OfAt b0 b1 b2 bd (clA y) o.bk.length (clC y) i (some ⟨bs, 0, none⟩) 2 2 [1, 2] W) (G := OfG (clA y) o.bk.length i [1, 2]) (E := OfE (clA y) o.bk.length i [1, 2])
    (hk := (b2, [.slice (some ⟨bs, 0, none⟩) 2 2], some (109, 1, 1)) :: (b1, [.int .i64 i], some (3, 1, 1)) :: (b0, [.pointer (some ⟨bd, 0, none⟩)], some (121, 1, 1)) :: (bs, [.int .u8 1, .int .u8 2], some (5, 1, 2)) :: (bm, [.int .u8 dk, .int .i64 (i : Int), .int .i64 ds, .int .i64 dp, .int .i64 dl], some (63, 5, 1)) :: (bt, [.pointer (some ⟨bd, 0, none⟩)], some (121, 1, 1)) :: (gF, ((o.fl.set i ⟨d.seats, d.price, d.leaves, 1⟩).map depCells).flatten, some (106, 4, cF)) :: [])
    (fun p => (bd, offCells { o with out := o.out + paidTo o.bk i 3 d.price p } (some ⟨gF, 0, none⟩) cF (clA y) (clC y), some (135, 7, 1)) :: clH 71 3 ((midS i 3 o.bk p).map bkCells).flatten y) (fun pre p => p = bnd pre) (fun _ _ => []) (fun z _ => [(5, .pointer (some ⟨gB, 0 + z.1 * 3, none⟩)), (2, .pointer (some ⟨bt, 0, none⟩))]) (fun _ => [])
    (fun k _ n => False) 0 rfl Try.call100
    (of1_seqV 2 b0 b1 b2 bd gB 0 (clA y) o.bk.length (clC y) i (some ⟨bs, 0, none⟩) 2 2 [1, 2] hgB (by omega) (by omega)) (fun n0 x => OfG.abide _ _ _ _ n0 x) (fun n0 => OfE.abide _ _ _ _ n0) ?rq ?h0 ?sub ?ok ?done (fun _ _ _ h => h.elim)
  case rq =>
    rintro pre p D W _ hw
    have hrd : RdS W 3 (clA y) o.bk.length ((midS i 3 o.bk p).map bkCells) := clH_rows (hw.left.sub (HpSub.skipX (HpSub.refl _))) (fun _ => rfl) (midS_len ..) hyn
    have hw' := hw.right
    exact ⟨hw'.cellAt (by (repeat (first | exact P0 | apply P1 | apply PA))) rfl, hw'.cellAt (by (repeat (first | exact P0 | apply P1 | apply PA))) rfl, hw'.cellAt (by (repeat (first | exact P0 | apply P1 | apply PA))) rfl, two8 hw' (by (repeat (first | exact P0 | apply P1 | apply PA))), hw.left.cellAt (by (repeat (first | exact P0 | apply P1 | apply PA))) rfl, _, hrd⟩
  case h0 => rfl
  case sub =>
    have hz : paidTo o.bk (i : Int) 3 d.price 0 = 0 := by simp [paidTo, paidV]
    rw [hz, midS_zero, Int.add_zero]
    simp only [List.cons_append, List.nil_append]
    rcases y with _ | ⟨gB', cB'⟩ <;> simp only [clH, List.nil_append, List.cons_append]
    all_goals (repeat (first | exact HpSub.refl _ | (apply HpSub.consE; (repeat (first | exact P0 | apply P1 | apply PA)); exact rfl) | apply HpSub.skipX | exact HpSub.nil))
  case ok =>
    refine ⟨fun _ => rfl, rfl, fun x W => .inr ?_, fun x b i n W D hb hw _ y hy => (List.not_mem_nil hy).elim, fun l' pre z p b W D hpp hw hG hl' => ?_⟩
    · refine sl0_region (by kernel_rfl) ?_
      repeat' (first | ((with_reducible apply oq_id); first | (apply oq_fn; exact rfl; try first | exact trivial | (and_intros <;> omega))) | ((with_reducible apply tl_id); first | (with_reducible apply tl_nil) | ((with_reducible apply u_q); (iterate 4 exact rfl))))
      refine ⟨(), ?_, ?_⟩
      · (repeat (first | exact FrSub.nil | (apply FrSub.cons; exact rfl)))
      · (repeat (first | exact HpSub.refl _ | (apply HpSub.consE; (repeat (first | exact P0 | apply P1 | apply PA)); exact rfl) | apply HpSub.skipX | exact HpSub.nil))
    · obtain ⟨hbe, bk', hr', hm, hno⟩ := hG
      have hzl : z.1 < o.bk.length := z.2
      rcases y with _ | ⟨gB', cB⟩
      · exact absurd (hyn rfl) (by omega)
      obtain rfl : gB' = gB := by have := hgB (by omega); cases this; rfl
      have m0 := hw.off (b := gF) (by simp)
      have m1 := hw.off (b := bt) (by simp)
      simp only [List.cons_append, List.nil_append, clH_some, clA_some, clC_some, List.map_cons, List.map_nil] at m0 m1
      simp only [List.cons_append, List.nil_append, clH_some, clA_some, clC_some] at hw hr' ⊢
      obtain rfl := bk_inj (hr'.inj (clH_rows (x := some (gB', cB)) (hw.sub (by refine HpSub.skipX ?_; simp only [clH_some]; (repeat (first | exact HpSub.refl _ | (apply HpSub.consE; (repeat (first | exact P0 | apply P1 | apply PA)); exact rfl) | apply HpSub.skipX | exact HpSub.nil)))) (fun _ => rfl) (midS_len ..) (fun h => by cases h)))
      obtain ⟨u, hu⟩ : ∃ u, o.bk[z.1]? = some u := ⟨_, List.getElem?_eq_getElem hzl⟩
      have hpz : p ≤ z.1 := by rw [hpp]; exact behind_iff.1 hbe
      have hmu := hm u (by rw [midS_at hpz]; exact hu)
      obtain ⟨g1, g2⟩ := midS_gap (f := (i : Int)) (to := 3) (price := d.price) hpz (fun j y h1 h2 h3 => hno j y (behind_iff.2 (by rw [← hpp]; exact h1)) h2 (by rw [midS_at h1]; exact h3))
      rw [← g1, ← g2] at hw ⊢
      have hu2 : (midS i 3 o.bk z.1)[z.1]? = some u := by rw [midS_at (Nat.le_refl _)]; exact hu
      rw [mt_is2] at hmu
      have hfu : u.flight = (i : Int) := by
        unfold isB at hmu
        simp only [Bool.or_eq_true, Bool.and_eq_true, decide_eq_true_eq] at hmu
        rcases hmu with h | h <;> exact h.1
      have hsu : u.state = 1 ∨ u.state = 2 := by
        unfold isB at hmu
        simp only [Bool.or_eq_true, Bool.and_eq_true, decide_eq_true_eq] at hmu
        rcases hmu with h | h
        · exact .inl h.2
        · exact .inr h.2
      have hk0 := hv.kept0 (List.mem_of_getElem? hu) hsu
      have hbo : -1000000000 ≤ o.out + paidTo o.bk i 3 d.price z.1 ∧ o.out + paidTo o.bk i 3 d.price z.1 ≤ 1000000000 := by
        have h1 := hpin z.1
        have h2 : o.out = (sumsV o.fl o.bk).back := by
          have := hv.money
          unfold moneyB at this
          simp only [Bool.and_eq_true, decide_eq_true_eq] at this
          exact this.2
        have h3 := sums_in hv.deps hv.bks (Nat.le_refl o.bk.length)
        rw [sums_all (Nat.le_refl _)] at h3
        unfold Small at h3
        omega
      have hms := midS_step (f := (i : Int)) (to := 3) hu
      have hps := paid_step (f := (i : Int)) (to := 3) (price := d.price) hu
      have c0 : W.cell? ⟨gF, 0 + i * 4 + 1, none⟩ = some (.int .i64 d.price) := hw.cellAt (by (repeat (first | exact P0 | apply P1 | apply PA))) q1
      have c1 : W.cell? ⟨bt, 0, none⟩ = some (.pointer (some ⟨bd, 0, none⟩)) := hw.cellAt (by (repeat (first | exact P0 | apply P1 | apply PA))) rfl
      obtain ⟨s0, s1, s2⟩ := bk_at hu2
      by_cases h2 : u.state = 2
      · have hsh : shutB (i : Int) 3 u = ⟨u.flight, 4, 0⟩ := by
          unfold shutB
          rw [if_neg (by unfold isB; simp [h2]), if_pos (by unfold isB; simp [hfu, h2]), hk0]
        have hbb : backB (i : Int) 3 u = true := by
          unfold backB isB
          simp [hfu, h2]
        repeat' (first | ((with_reducible apply oq_id); first | ((with_reducible apply oq_eqlT); exact rfl; exact rfl; omega) | (apply oq_fn; exact rfl; try first | exact trivial | (and_intros <;> omega)) | ((with_reducible apply oq_load); exact rfl; exact rfl)) | ((with_reducible apply tl_id); first | (with_reducible apply tl_nil) | ((with_reducible apply u_s); (iterate 3 exact rfl); (apply os_callM (PV := fun v H => v = .tuple #[] ∧ H = [(bd, offCells { o with out := o.out + paidTo o.bk i 3 d.price (Subtype.val z) + (d.price - 0) } (some ⟨gF, 0, none⟩) cF (some ⟨gB', 0, none⟩) cB, some (135, 7, 1)), (gB', (((midS i 3 o.bk (Subtype.val z)).set (Subtype.val z) ⟨u.flight, 4, 0⟩).map bkCells).flatten, some (71, 3, cB))]) (G := [(bd, offCells { o with out := o.out + paidTo o.bk i 3 d.price (Subtype.val z) } (some ⟨gF, 0, none⟩) cF (some ⟨gB', 0, none⟩) cB, some (135, 7, 1)), (gB', ((midS i 3 o.bk (Subtype.val z)).map bkCells).flatten, some (71, 3, cB))]) (R := []) (k := 135) (hc := Try.call135)); exact rfl; exact rfl; (focus (simp only [List.append_nil]; (repeat (first | exact HpSub.refl _ | (apply HpSub.consE; (repeat (first | exact P0 | apply P1 | apply PA)); exact rfl) | apply HpSub.skipX | apply HpSub.skipX | exact HpSub.nil)))); exact (fun D w1 hw1 hwG => repay_T bd gB' cB gF 0 cF i (Subtype.val z) { o with out := o.out + paidTo o.bk i 3 d.price (Subtype.val z) } (some (135, 7, 1)) (some (71, 3, cB)) d.price 0 (midS i 3 o.bk (Subtype.val z)) u w1 hwG hu2 hfu hil (hw1.old c0 m0) m0 hbo ⟨hdd.2.2.1, hdd.2.2.2.1⟩ ⟨by decide, by decide⟩); rintro v H1 ⟨rfl, rfl⟩; (try simp only [List.append_nil])) | ((with_reducible apply u_q); (iterate 4 exact rfl))) | ((with_reducible apply rd_id); first | (apply Rd.own; (repeat (first | exact P0 | apply P1 | apply PA)); first | exact r0 | exact r1 | exact r2 | exact r3 | exact s0 | exact s1 | exact s2; done) | (apply Rd.old; (first | (with_reducible assumption) | exact c0 | exact c1 | exact c2 | exact c3 | exact c4 | exact c5 | exact c6 | exact c7 | exact c8 | exact d0 | exact d1 | exact d2 | exact d3 | exact d4 | exact d5); first | exact List.not_mem_nil | exact m0 | exact m1 | exact m2 | exact m3 | exact m4 | exact m5 | exact m6 | exact m7 | exact m8 | exact m9)) | ((with_reducible apply t_id); first | (with_reducible apply t_seq) | (apply t_region; kernel_rfl) | ((with_reducible apply t_condT); exact rfl) | (with_reducible apply t_block)) | with_reducible apply q_thenN | with_reducible apply q_blockN)
        refine ⟨z.1 + 1, (by show z.1 + 1 = bnd (pre ++ [z]); rw [bnd_snoc hbe]), ?_⟩
        rw [hsh] at hms
        rw [hbb] at hps
        simp only [if_true] at hps
        have hz2 := (show o.out + (paidTo o.bk (i : Int) 3 d.price z.1 + d.price) = o.out + paidTo o.bk (i : Int) 3 d.price z.1 + (d.price - 0) from (by omega))
        simp only [hms, hps, clH_some, hz2]
        (repeat (first | exact HpSub.refl _ | (apply HpSub.consE; (repeat (first | exact P0 | apply P1 | apply PA)); exact rfl) | apply HpSub.skipX | exact HpSub.nil))
      · have h1 : u.state = 1 := by omega
        have hsh : shutB (i : Int) 3 u = ⟨u.flight, 3, u.kept⟩ := by
          unfold shutB
          rw [if_pos (by unfold isB; simp [hfu, h1])]
        have hbb : backB (i : Int) 3 u = false := by
          unfold backB isB
          simp [h1]
        have hS2 := bk_set1 hu2 3
        have room2 := Nat.le_of_succ_le (bk_room hu2)
        repeat' (first | ((with_reducible apply oq_id); first | ((with_reducible apply oq_eqlF); exact rfl; exact rfl; omega) | (apply oq_fn; exact rfl; try first | exact trivial | (and_intros <;> omega)) | ((with_reducible apply oq_load); exact rfl; exact rfl)) | ((with_reducible apply tl_id); first | (with_reducible apply tl_nil) | ((with_reducible apply u_q); (iterate 4 exact rfl)) | ((with_reducible apply u_s0); exact rfl; exact rfl)) | ((with_reducible apply os_storeB (hC := hS2)); (iterate 4 exact rfl); (repeat (first | exact P0 | apply P1 | apply PA)); exact room2) | ((with_reducible apply rd_id); first | (apply Rd.own; (repeat (first | exact P0 | apply P1 | apply PA)); first | exact r0 | exact r1 | exact r2 | exact r3 | exact s0 | exact s1 | exact s2; done)) | ((with_reducible apply t_id); first | (with_reducible apply t_seq) | (apply t_region; kernel_rfl) | ((with_reducible apply t_condF); exact rfl) | (with_reducible apply t_block)) | with_reducible apply q_thenN | with_reducible apply q_blockN)
        refine ⟨z.1 + 1, (by show z.1 + 1 = bnd (pre ++ [z]); rw [bnd_snoc hbe]), ?_⟩
        rw [hsh] at hms
        rw [hbb] at hps
        simp only [if_false, Bool.false_eq_true, Int.add_zero] at hps
        simp only [hms, hps, clH_some]
        (repeat (first | exact HpSub.refl _ | (apply HpSub.consE; (repeat (first | exact P0 | apply P1 | apply PA)); exact rfl) | apply HpSub.skipX | exact HpSub.nil))
  case done =>
    rintro D xs p W ⟨bk', hr', hno⟩ hpp hw
    have hrd : RdS W 3 (clA y) o.bk.length ((midS i 3 o.bk p).map bkCells) := clH_rows (hw.left.sub (HpSub.skipX (HpSub.refl _))) (fun _ => rfl) (midS_len ..) hyn
    obtain rfl := bk_inj (hr'.inj hrd)
    obtain ⟨e1, e2⟩ := midS_end (f := (i : Int)) (to := 3) (price := d.price) (p := p) (bk := o.bk) (fun j y h1 h2 => hno j y (behind_iff.2 (by rw [← hpp]; exact h1)) (by rw [midS_at h1]; exact h2))
    rw [e1, e2]
    simp only [List.cons_append]
    repeat' (first | with_reducible apply q_blockN | (with_reducible apply end_normal) | exact rvs_nil)
    all_goals (refine ⟨rfl, some (gF, cF), y, (fun h => by cases h), (fun h => by simp only [closedV, List.length_map]; exact hyn h), ?_⟩)
    all_goals (unfold deskH flH bkH; rw [offCells_len (o := { o with out := o.out + paidV o.bk (i : Int) 3 d.price }) (o' := closedV o i d 1 3) rfl rfl rfl rfl rfl (List.length_set ..) (List.length_map ..)])
    all_goals (simp only [closedV, clH_some, clA_some, clC_some, List.nil_append, List.cons_append])
    all_goals (rcases y with _ | ⟨gB', cB'⟩ <;> simp only [clH, List.nil_append, List.cons_append])
    all_goals (repeat (first | exact HpSub.refl _ | (apply HpSub.consE; (repeat (first | exact P0 | apply P1 | apply PA)); exact rfl) | apply HpSub.skipX | exact HpSub.nil))
end Go.Proofs.Ytmlmgipngbndgaa
namespace Go.Proofs.Ytmlmgipngbndgaa
open Go.RowKit
attribute [local irreducible] DT DE TE AE OP OQ OS OX Rd T TL GX GL AL AI RV wpG SAny Calls
/-- An office at work, somewhere. -/
def AtW (bd : Nat) (o : Off) (H : Hp) : Prop := ∃ x y, (x = none → o.fl.length = 0) ∧ (y = none → o.bk.length = 0) ∧ H = deskH bd o x y
theorem do_gen (bd : Nat) (o : Off) (x y : Option (Nat × Nat)) (w : World) (hw : Has w ⟨(deskH bd o x y).map Prod.fst, []⟩ (deskH bd o x y) w) (k dki : Nat) (dk dn ds dp dl : Int) (hdk : dk = (dki : Int)) (h1 : 1 ≤ dki) (h7 : dki ≤ 7) (hk : ([.nilFunc, .func (.func 123) #[] #[], .func (.func 124) #[] #[], .func (.func 125) #[] #[], .func (.func 126) #[] #[], .func (.func 127) #[] #[], .func (.func 128) #[] #[], .func (.func 129) #[] #[]] : List Value)[0 + dk.toNat * 1]? = some (.func (.func k) #[] #[])) (hcf : ∀ (a : Array Value) (w : World), (callFunc k a).run Try.prog w = .ok (.enter k a) w) (o' : Off)
    (HC : ∀ w1, Has w1 ⟨(deskH bd o x y).map Prod.fst, []⟩ (deskH bd o x y) w1 → Calls Try.prog k #[.pointer (some ⟨bd, 0, none⟩), .agg ⟨[.int .u8 dk, .int .i64 dn, .int .i64 ds, .int .i64 dp, .int .i64 dl]⟩] w1 fun e w' => ∃ v H', e = .returned v ∧ DV bd o' v H' ∧ Has w1 ⟨(deskH bd o x y).map Prod.fst, []⟩ H' w') :
    Calls Try.prog 79 #[.pointer (some ⟨bd, 0, none⟩), .agg ⟨[.int .u8 dk, .int .i64 dn, .int .i64 ds, .int .i64 dp, .int .i64 dl]⟩] w fun e w' => ∃ v H', e = .returned v ∧ (v = .int .i64 0 ∧ AtW bd o' H') ∧ Has w ⟨(deskH bd o x y).map Prod.fst, []⟩ H' w' := by
  have hq := allFrom_t (lo := 1) (hi := 7) (z := dk) ⟨by omega, by omega⟩
  have hIn : InR dk := inr_mk (by omega) (by omega)
  refine (do_of rfl _ (deskH bd o x y) w hw bd [.int .u8 dk, .int .i64 dn, .int .i64 ds, .int .i64 dp, .int .i64 dl] rfl (AtW bd o') (fun _ _ => False) fun b3 be => ?_).mono ?_
  · unfold doQ
    repeat' (first | ((with_reducible apply oq_id); first | (focus ((with_reducible apply oq_indexAddrAU); (iterate 4 exact rfl); omega; omega)) | ((with_reducible apply oq_conv64); (iterate 3 exact rfl); exact hIn) | (apply oq_fn; exact rfl; try first | exact trivial | (and_intros <;> omega)) | ((with_reducible apply oq_load); exact rfl; exact rfl) | ((with_reducible apply oq_loadAgg); exact rfl; exact rfl) | ((with_reducible apply oq_call (k := 105) (hc := Try.call105)); exact rfl; exact rfl; exact fun D w1 hw1 => doers_T w1) | ((with_reducible apply oq_call (k := 63) (hc := Try.call63)); exact rfl; exact rfl; exact fun D w1 hw1 => fromOne hq hw1 (by (repeat (first | exact P0 | apply P1 | apply PA)))) | ((with_reducible apply oq_call (k := 106) (hc := Try.call106)); exact rfl; exact rfl; exact fun D w1 hw1 => must_ok _ w1)) | ((with_reducible apply gx_id); first | (with_reducible apply v_nil) | ((with_reducible apply v_q); (iterate 3 exact rfl))) | ((with_reducible apply os_id); first | ((with_reducible apply os_x); exact rfl) | ((with_reducible apply os_store); (iterate 4 exact rfl)) | ((with_reducible apply os_storeAgg); (iterate 5 exact rfl))) | ((with_reducible apply ox_id); first | ((with_reducible apply ox_alloc); exact rfl; intro _) | ((with_reducible apply ox_buildSlice1); (iterate 6 exact rfl); intro _)) | ((with_reducible apply rd_id); first | (apply Rd.own; (repeat (first | exact P0 | apply P1 | apply PA)); exact hk; done) | (apply Rd.own; (repeat (first | exact P0 | apply P1 | apply PA)); exact rfl; done)) | with_reducible apply q_thenN | exact P0 | (first | (with_reducible apply P1) | (with_reducible apply PA)) | exact Rdn.zero | apply Rdn.succ | ((with_reducible apply Norm.nil); exact rfl) | ((with_reducible apply Norm.cons); exact rfl) | ((with_reducible apply de_id); first | ((with_reducible apply d_q); (iterate 4 exact rfl)) | ((with_reducible apply d_s0); exact rfl; exact rfl) | ((with_reducible apply d_s); (iterate 3 exact rfl)) | (with_reducible apply d_nil)) | ((with_reducible apply dt_id); first | (apply dt_mix1 (id := 4) (i := 6) [0, 1, 2, 3, 4, 5] #[false, false, false, false, false, false, true]; kernel_rfl; kernel_rfl; exact rfl; decide +kernel; exact rfl; exact rfl; decide +kernel; exact rfl; exact rfl) | (with_reducible apply dt_seq) | (apply dt_region) | (with_reducible apply dt_ret)) | (refine ⟨rfl, .inl ?_⟩; (with_reducible apply os_callM (PV := DV bd o') (G := deskH bd o x y) (R := [(be, [.int .i64 0], some (27, 1, 1))]) (k := k) (hc := hcf)); exact rfl; exact rfl; (focus (unfold deskH flH bkH; rcases x with _ | ⟨gF, cF⟩ <;> rcases y with _ | ⟨gB, cB⟩ <;> simp only [clH, clA, clC, List.nil_append, List.cons_append, List.append_nil] <;> ((repeat (first | exact HpSub.refl _ | (apply HpSub.consE; (repeat (first | exact P0 | apply P1 | apply PA)); exact rfl) | apply HpSub.skipX | exact HpSub.nil))))); exact (fun D w1 hw1 hwG => HC w1 hwG); rintro v H1 ⟨rfl, x', y', hx', hy', rfl⟩) | exact Nat.le_of_ble_eq_true rfl)
    all_goals (refine ⟨⟨rfl, trivial⟩, _, ?_, .inl ⟨rfl, x', y', hx', hy', rfl⟩⟩)
    all_goals (first | exact HpSub.refl _ | (rw [List.append_nil]; exact HpSub.refl _))
  · rintro e w' (⟨H', h2, h3, h4⟩ | ⟨z, H', _, h3, _⟩)
    · exact ⟨_, H', h2, ⟨rfl, h3⟩, h4⟩
    · exact h3.elim
theorem do_pan (bd : Nat) (w : World) (k dki : Nat) (dk dn ds dp dl z : Int) (hdk : dk = (dki : Int)) (h1 : 1 ≤ dki) (h7 : dki ≤ 7) (hk : ([.nilFunc, .func (.func 123) #[] #[], .func (.func 124) #[] #[], .func (.func 125) #[] #[], .func (.func 126) #[] #[], .func (.func 127) #[] #[], .func (.func 128) #[] #[], .func (.func 129) #[] #[]] : List Value)[0 + dk.toNat * 1]? = some (.func (.func k) #[] #[])) (hcf : ∀ (a : Array Value) (w : World), (callFunc k a).run Try.prog w = .ok (.enter k a) w)
    (HC : ∀ w1, Ext w w1 → Calls Try.prog k #[.pointer (some ⟨bd, 0, none⟩), .agg ⟨[.int .u8 dk, .int .i64 dn, .int .i64 ds, .int .i64 dp, .int .i64 dl]⟩] w1 fun e w' => e = .panicked (refu z) ∧ Ext w1 w') :
    Calls Try.prog 79 #[.pointer (some ⟨bd, 0, none⟩), .agg ⟨[.int .u8 dk, .int .i64 dn, .int .i64 ds, .int .i64 dp, .int .i64 dl]⟩] w fun e w' => e = .returned (.int .i64 z) ∧ Ext w w' := by
  have hq := allFrom_t (lo := 1) (hi := 7) (z := dk) ⟨by omega, by omega⟩
  have hIn : InR dk := inr_mk (by omega) (by omega)
  refine (do_of rfl [] [] w (Has.start w) bd [.int .u8 dk, .int .i64 dn, .int .i64 ds, .int .i64 dp, .int .i64 dl] rfl (fun _ => False) (fun z' _ => z' = z) fun b3 be => ?_).mono ?_
  · unfold doQ
    repeat' (first | ((with_reducible apply oq_id); first | (focus ((with_reducible apply oq_indexAddrAU); (iterate 4 exact rfl); omega; omega)) | ((with_reducible apply oq_conv64); (iterate 3 exact rfl); exact hIn) | (apply oq_fn; exact rfl; try first | exact trivial | (and_intros <;> omega)) | ((with_reducible apply oq_load); exact rfl; exact rfl) | ((with_reducible apply oq_loadAgg); exact rfl; exact rfl) | ((with_reducible apply oq_call (k := 105) (hc := Try.call105)); exact rfl; exact rfl; exact fun D w1 hw1 => doers_T w1) | ((with_reducible apply oq_call (k := 63) (hc := Try.call63)); exact rfl; exact rfl; exact fun D w1 hw1 => fromOne hq hw1 (by (repeat (first | exact P0 | apply P1)))) | ((with_reducible apply oq_call (k := 106) (hc := Try.call106)); exact rfl; exact rfl; exact fun D w1 hw1 => must_ok _ w1)) | ((with_reducible apply gx_id); first | (with_reducible apply v_nil) | ((with_reducible apply v_q); (iterate 3 exact rfl))) | ((with_reducible apply os_id); first | ((with_reducible apply os_x); exact rfl) | ((with_reducible apply os_storeAgg); (iterate 5 exact rfl))) | ((with_reducible apply ox_id); first | ((with_reducible apply ox_alloc); exact rfl; intro _) | ((with_reducible apply ox_buildSlice1); (iterate 6 exact rfl); intro _)) | ((with_reducible apply rd_id); first | (apply Rd.own; (repeat (first | exact P0 | apply P1)); exact hk; done) | (apply Rd.own; (repeat (first | exact P0 | apply P1)); exact rfl; done)) | with_reducible apply q_thenN | exact P0 | exact Rdn.zero | apply Rdn.succ | ((with_reducible apply Norm.nil); exact rfl) | ((with_reducible apply Norm.cons); exact rfl) | ((with_reducible apply de_id); first | ((with_reducible apply d_q); (iterate 4 exact rfl)) | ((with_reducible apply d_s0); exact rfl; exact rfl) | ((with_reducible apply d_s); (iterate 3 exact rfl)) | (with_reducible apply d_nil)) | ((with_reducible apply dt_id); first | (apply dt_mix1 (id := 4) (i := 6) [0, 1, 2, 3, 4, 5] #[false, false, false, false, false, false, true]; kernel_rfl; kernel_rfl; exact rfl; decide +kernel; exact rfl; exact rfl; decide +kernel; exact rfl; exact rfl) | (with_reducible apply dt_seq) | (apply dt_region)) | (refine ⟨rfl, .inr ?_⟩; (with_reducible apply op_call (k := k) (hc := hcf)); exact rfl; exact rfl; exact fun D w1 hw1 => HC w1 hw1.ext.ext) | exact Nat.le_of_ble_eq_true rfl)
    all_goals (refine ⟨⟨rfl, trivial⟩, [], ?_, .inr ⟨z, rfl, rfl⟩⟩)
    all_goals (repeat (first | exact HpSub.refl _ | (apply HpSub.consE; (repeat (first | exact P0 | apply P1)); exact rfl) | apply HpSub.skipX | exact HpSub.nil))
  · rintro e w' (⟨H', h2, h3, h4⟩ | ⟨z', H', h2, rfl, h4⟩)
    · exact h3.elim
    · exact ⟨h2, h4.ext.ext⟩
theorem do_kind (bd : Nat) (w : World) (dk dn ds dp dl : Int) (h : ¬ (1 ≤ dk ∧ dk ≤ 7)) (h0 : 0 ≤ dk ∧ dk ≤ 255) :
    Calls Try.prog 79 #[.pointer (some ⟨bd, 0, none⟩), .agg ⟨[.int .u8 dk, .int .i64 dn, .int .i64 ds, .int .i64 dp, .int .i64 dl]⟩] w fun e w' => e = .returned (.int .i64 2) ∧ Ext w w' := by
  have hq := allFrom_f (lo := 1) (hi := 7) (z := dk) h
  have hIn : InR dk := inr_mk (by omega) (by omega)
  refine (do_of rfl [] [] w (Has.start w) bd [.int .u8 dk, .int .i64 dn, .int .i64 ds, .int .i64 dp, .int .i64 dl] rfl (fun _ => False) (fun z' _ => z' = 2) fun b3 be => ?_).mono ?_
  · unfold doQ
    repeat' (first | ((with_reducible apply oq_id); first | ((with_reducible apply oq_conv64); (iterate 3 exact rfl); exact hIn) | (apply oq_fn; exact rfl; try first | exact trivial | (and_intros <;> omega)) | ((with_reducible apply oq_load); exact rfl; exact rfl) | ((with_reducible apply oq_call (k := 105) (hc := Try.call105)); exact rfl; exact rfl; exact fun D w1 hw1 => doers_T w1) | ((with_reducible apply oq_call (k := 63) (hc := Try.call63)); exact rfl; exact rfl; exact fun D w1 hw1 => fromOne hq hw1 (by (repeat (first | exact P0 | apply P1))))) | ((with_reducible apply os_id); first | ((with_reducible apply os_x); exact rfl) | ((with_reducible apply os_storeAgg); (iterate 5 exact rfl))) | ((with_reducible apply ox_id); first | ((with_reducible apply ox_alloc); exact rfl; intro _) | ((with_reducible apply ox_buildSlice1); (iterate 6 exact rfl); intro _)) | ((with_reducible apply rd_id); first | (apply Rd.own; (repeat (first | exact P0 | apply P1)); exact rfl; done)) | with_reducible apply q_thenN | exact P0 | ((with_reducible apply Norm.nil); exact rfl) | ((with_reducible apply Norm.cons); exact rfl) | ((with_reducible apply de_id); first | ((with_reducible apply d_p); exact rfl; ((with_reducible apply op_call (k := 106) (hc := Try.call106)); exact rfl; exact rfl; exact fun D w1 hw1 => must_no _ w1)) | ((with_reducible apply d_q); (iterate 4 exact rfl)) | ((with_reducible apply d_s0); exact rfl; exact rfl) | ((with_reducible apply d_s); (iterate 3 exact rfl)) | (with_reducible apply d_nil)) | ((with_reducible apply dt_id); first | (with_reducible apply dt_seq) | (apply dt_region)) | exact Nat.le_of_ble_eq_true rfl)
    all_goals (refine ⟨⟨rfl, trivial⟩, [], ?_, .inr ⟨2, rfl, rfl⟩⟩)
    all_goals (repeat (first | exact HpSub.refl _ | (apply HpSub.consE; (repeat (first | exact P0 | apply P1)); exact rfl) | apply HpSub.skipX | exact HpSub.nil))
  · rintro e w' (⟨H', h2, h3, h4⟩ | ⟨z', H', h2, rfl, h4⟩)
    · exact h3.elim
    · exact ⟨h2, h4.ext.ext⟩
end Go.Proofs.Ytmlmgipngbndgaa
