/- A part of the proof: rules for walks, and contracts of functions (6). -/
import Derived.Test.YtmlmgipngbndgaaX8E
import Derived.Test.YtmlmgipngbndgaaX8D
import Derived.Test.YtmlmgipngbndgaaX8B
import Derived.Laws.IdiomCopy
import Derived.Test.YtmlmgipngbndgaaX8A
import Derived.ProofKit
import Derived.Lib.SmallJoins
set_option linter.unusedVariables false
set_option linter.unusedSimpArgs false
set_option maxRecDepth 100000
set_option maxHeartbeats 2000000
namespace Go.Proofs.Ytmlmgipngbndgaa
open Go.RowKit
attribute [local irreducible] OQ OS OX Rd T TL GX GL AL AI RV wpG SAny Calls
theorem sh_own {w0 : World} {M : Ms} {H H' : Hp} {w : World} {g n : Nat} {S : List Sh} {tg : Tg} (hl : S.length = n) (h : Has w0 M H w) (q : Pick H g (shB S) tg H') : RdS w 3 (some ⟨g, 0, none⟩) n (S.map shCells) :=
  Blk.rows (h.blk _ q.mem).2 (by simpa using hl) (by simp only [List.mem_map]; rintro r ⟨x, _, rfl⟩; rfl)
theorem refTired_T (d : Du) (hd : duB d) (A : Option Addr) (n c : Nat) (l : List Sh) (w : World) (hr : RdS w 3 A n (l.map shCells)) (hn : n ≤ 1000) (hRos : Ros l) :
    Calls Try.prog 83 #[.agg #[.int .i64 d.most, .int .i64 d.rest, .int .i64 d.win, .int .i64 d.sum], .slice A n c] w fun e w' => ∃ v H', e = .returned v ∧ TiO (tiV d l) v H' ∧ Has w ⟨[], []⟩ H' w' := by
  have hl := hr.len
  simp only [List.length_map] at hl
  obtain ⟨S, hS⟩ : ∃ S, srtS l = S := ⟨_, rfl⟩
  have hsl : S.length = n := by rw [← hS, srtS, srt_len, hl]
  have hfit : Fit S := by rw [← hS]; exact (fitS_iff l).2 hRos
  have hsrt : Srt ltS S := by rw [← hS]; exact srt_srt woS l
  have hall : ∀ y ∈ S, shOk y := fun y hy => hRos.1 y ((srt_perm l).mem_iff.1 (by rw [← hS] at hy; exact hy))
  have hti : tiV d l = tiTo d S n := by unfold tiV; rw [hS, hl]
  obtain ⟨⟨dm1, dm2⟩, ⟨dr1, dr2⟩, ⟨dw1, dw2⟩, ds1, ds2⟩ := hd
  refine enterF (c := cx w 94) Try.func83 rfl rfl rfl rfl ?_
  refine t_cut (ι := Nat) (fun b2 => [(1, .slice A n c), (2, .pointer (some ⟨b2, 0, none⟩))]) (fun b2 => [(b2, [.int .i64 d.most, .int .i64 d.rest, .int .i64 d.win, .int .i64 d.sum], some (74, 4, 1))]) (fun _ => True) ?_ ?_
  · repeat' (first | ((with_reducible apply oq_id); first | (apply oq_fn; exact rfl; try first | exact trivial | (and_intros <;> omega))) | ((with_reducible apply tl_id); first | (with_reducible apply tl_nil) | ((with_reducible apply u_q); (iterate 4 exact rfl)) | ((with_reducible apply u_s); (iterate 3 exact rfl))) | ((with_reducible apply os_x); exact rfl) | ((with_reducible apply ox_boxAgg); exact rfl; intro _) | ((with_reducible apply t_id); first | (apply t_region; kernel_rfl)))
    all_goals exact ⟨rfl, _, trivial, by (repeat (first | exact FrSub.nil | (apply FrSub.cons; exact rfl))), by (repeat (first | exact HpSub.refl _ | (apply HpSub.consE; (repeat (first | exact P0 | apply P1 | apply PA)); exact rfl) | exact HpSub.nil))⟩
  rintro b2 -
  refine t_cut (ι := Option (Nat × Nat)) (fun x => [(1, .slice (clA x) n (clC x)), (2, .pointer (some ⟨b2, 0, none⟩))]) (fun x => clH 101 3 (shB S) x ++ [(b2, [.int .i64 d.most, .int .i64 d.rest, .int .i64 d.win, .int .i64 d.sum], some (74, 4, 1))]) (fun x => x = none → n = 0) ?_ ?_
  · repeat' (first | ((with_reducible apply oq_id); first | (apply oq_fn; exact rfl; try first | exact trivial | (and_intros <;> omega))) | ((with_reducible apply tl_id); first | (with_reducible apply tl_nil) | ((with_reducible apply u_s); (iterate 3 exact rfl); (with_reducible apply os_callF (PV := SrtO S) (k := 112) (hc := Try.call112)); exact rfl; exact rfl; exact fun D w1 hw1 => (by rw [← hS]; exact sorted_T A n c l w1 (hr.ext hw1.ext.ext) (by omega)); rintro v H' ⟨x, hx, rfl, rfl⟩; (try simp only [List.append_nil])) | ((with_reducible apply u_q); (iterate 4 exact rfl))) | ((with_reducible apply t_id); first | (apply t_region; kernel_rfl)))
    all_goals (rw [hsl] at hx)
    all_goals exact ⟨by trivial, x, hx, by (rw [hsl]; (repeat (first | exact FrSub.nil | (apply FrSub.cons; exact rfl)))), by (repeat (first | exact HpSub.refl _ | (apply HpSub.consE; (repeat (first | exact P0 | apply P1 | apply PA)); exact rfl) | apply HpSub.appC | apply HpSub.skipX | apply HpSub.skip | apply HpSub.skipApp | exact HpSub.nil))⟩
  rintro x hx
  rcases x with _ | ⟨g, cp⟩
  · obtain rfl := hx rfl
    simp only [clA, clC, clH, List.nil_append]
    rw [hti]
    repeat' (first | ((with_reducible apply oq_id); first | (apply oq_fn; exact rfl; try first | exact trivial | (and_intros <;> omega))) | ((with_reducible apply tl_id); first | (with_reducible apply tl_nil) | ((with_reducible apply u_q); (iterate 4 exact rfl))) | ((with_reducible apply t_id); first | (with_reducible apply t_seq) | (apply t_region; kernel_rfl) | (with_reducible apply t_block)) | with_reducible apply q_thenN)
    apply t_loopK (ι := Unit) [1, 2] (fun _ => [(6, .int .i64 0), (5, .slice none 0 0)]) (fun _ => []) (fun _ => True) (fun _ => 0) (())
    (repeat (first | exact KeepF.nil | (apply KeepF.cons; exact rfl) | apply KeepF.skip))
    (repeat (first | exact FrSub.nil | (apply FrSub.cons; exact rfl)))
    (repeat (first | exact HpSub.refl _ | (apply HpSub.consE; (repeat (first | exact P0 | apply P1 | apply PA)); exact rfl) | exact HpSub.nil))
    · trivial
    rintro ⟨⟩ -
    repeat' (first | ((with_reducible apply oq_id); first | ((with_reducible apply oq_lssF); exact rfl; exact rfl; omega) | (apply oq_fn; exact rfl; try first | exact trivial | (and_intros <;> omega))) | ((with_reducible apply tl_id); first | (with_reducible apply tl_nil) | ((with_reducible apply u_q); (iterate 4 exact rfl))) | ((with_reducible apply t_id); first | (with_reducible apply t_seq) | (apply t_region; kernel_rfl) | ((with_reducible apply t_condF); exact rfl) | (with_reducible apply t_ret) | (with_reducible apply t_exit)) | with_reducible apply q_thenN | with_reducible apply q_thenE | ((with_reducible apply q_blockE); exact rfl) | (with_reducible apply end_ret) | exact rvs_nil | (with_reducible apply rvs_cons) | ((with_reducible apply rv_tmp); exact rfl))
    all_goals exact ⟨_, ⟨none, fun _ => rfl, rfl, rfl⟩, HpSub.nil⟩
  simp only [clA, clC, clH, List.cons_append, List.nil_append]
  repeat' (first | ((with_reducible apply oq_id); first | (apply oq_fn; exact rfl; try first | exact trivial | (and_intros <;> omega))) | ((with_reducible apply tl_id); first | (with_reducible apply tl_nil) | ((with_reducible apply u_q); (iterate 4 exact rfl))) | ((with_reducible apply t_id); first | (with_reducible apply t_seq) | (apply t_region; kernel_rfl) | (with_reducible apply t_block)) | with_reducible apply q_thenN)
  apply t_loopK (GH := []) (ι := Nat × Option (Nat × Nat)) [1, 2] (fun z => [(6, .int .i64 (z.1 : Nat)), (5, .slice (clA z.2) (tiTo d S z.1).length (clC z.2))]) (fun z => clH 99 3 (tiB (tiTo d S z.1)) z.2 ++ [(g, shB S, some (101, 3, cp)), (b2, [.int .i64 d.most, .int .i64 d.rest, .int .i64 d.win, .int .i64 d.sum], some (74, 4, 1))]) (fun z => z.1 ≤ n ∧ (z.2 = none → (tiTo d S z.1).length = 0)) (fun z => n - z.1) ((0, none))
  (repeat (first | exact KeepF.nil | (apply KeepF.cons; exact rfl) | apply KeepF.skip))
  (repeat (first | exact FrSub.nil | (apply FrSub.cons; exact rfl) | (apply FrSub.consE; exact rfl; (congr 1))))
  ((try simp only [List.append_nil]); (repeat (first | exact HpSub.refl _ | (apply HpSub.consE; (repeat (first | exact P0 | apply P1 | apply PA)); exact rfl) | apply HpSub.appC | apply HpSub.skipX | apply HpSub.skip | apply HpSub.skipApp | exact HpSub.nil)))
  · exact ⟨Nat.zero_le _, fun _ => rfl⟩
  rintro ⟨i, o⟩ ⟨hi, ho⟩
  simp only at hi ho
  simp only [List.append_nil]
  have htl := tiTo_len d S i
  by_cases hlt : i < n
  · obtain ⟨x, hx⟩ : ∃ x, S[i]? = some x := ⟨_, List.getElem?_eq_getElem (by omega)⟩
    have hxo := hall x (List.mem_of_getElem? hx)
    have hxo' := hxo
    unfold shOk at hxo'
    obtain ⟨q0, q1, q2⟩ := sh_at hx
    refine t_cut (ι := Unit) (fun _ => [(1, .slice (some ⟨g, 0, none⟩) n cp), (2, .pointer (some ⟨b2, 0, none⟩)), (6, .int .i64 (i : Nat)), (5, .slice (clA o) (tiTo d S i).length (clC o))]) (fun _ => clH 99 3 (tiB (tiTo d S i)) o ++ [(g, shB S, some (101, 3, cp)), (b2, [.int .i64 d.most, .int .i64 d.rest, .int .i64 d.win, .int .i64 d.sum], some (74, 4, 1))]) (fun _ => True) ?_ ?_
    · repeat' (first | ((with_reducible apply oq_id); first | ((with_reducible apply oq_lssT); exact rfl; exact rfl; omega) | (apply oq_fn; exact rfl; try first | exact trivial | (and_intros <;> omega))) | ((with_reducible apply tl_id); first | (with_reducible apply tl_nil) | ((with_reducible apply u_q); (iterate 4 exact rfl))) | ((with_reducible apply t_id); first | (with_reducible apply t_seq) | (apply t_region; kernel_rfl) | ((with_reducible apply t_condT); exact rfl) | (with_reducible apply t_skip)) | with_reducible apply q_thenN)
      all_goals exact ⟨rfl, (), trivial, by (repeat (first | exact FrSub.nil | (apply FrSub.cons; exact rfl))), by (repeat (first | exact HpSub.refl _ | (apply HpSub.consE; (repeat (first | exact P0 | apply P1 | apply PA)); exact rfl) | apply HpSub.appC | apply HpSub.skipX | apply HpSub.skip | apply HpSub.skipApp | exact HpSub.nil))⟩
    rintro ⟨⟩ -
    refine t_cut (ι := Option (Nat × Nat)) (fun o => [(1, .slice (some ⟨g, 0, none⟩) n cp), (2, .pointer (some ⟨b2, 0, none⟩)), (6, .int .i64 (i : Nat)), (5, .slice (clA o) (tiTo d S (i + 1)).length (clC o))]) (fun o => clH 99 3 (tiB (tiTo d S (i + 1))) o ++ [(g, shB S, some (101, 3, cp)), (b2, [.int .i64 d.most, .int .i64 d.rest, .int .i64 d.win, .int .i64 d.sum], some (74, 4, 1))]) (fun o => o = none → (tiTo d S (i + 1)).length = 0) ?_ ?_
    · obtain ⟨bA, hbA⟩ : ∃ b, decide (x.to - x.fr > d.most) = b := ⟨_, rfl⟩
      obtain ⟨bB, hbB⟩ : ∃ b, restB d S i x = b := ⟨_, rfl⟩
      obtain ⟨bC, hbC⟩ : ∃ b, decide (workV S x.who x.fr (x.fr + d.win) > d.sum) = b := ⟨_, rfl⟩
      have hT0 : tiTo d S i ++ casK bA bB bC x 0 = tiTo d S i := List.append_nil _
      have hT3 : tiTo d S i ++ casK bA bB bC x 3 = tiTo d S (i + 1) := by
        rw [tiTo_succ hx, casK_all hbA.symm hbB.symm hbC.symm]
      have hkl : ∀ k, (tiTo d S i ++ casK bA bB bC x k).length ≤ 3 * i + 3 := fun k => by
        rw [List.length_append]
        have := casK_len bA bB bC x k
        omega
      rw [← hT0] at ho ⊢
      rw [← hT3]
      clear hT0 hT3
      refine t_block ?_
      refine t_cut (ι := Nat) (fun b7 => [(1, .slice (some ⟨g, 0, none⟩) n cp), (2, .pointer (some ⟨b2, 0, none⟩)), (6, .int .i64 (i : Nat)), (7, .pointer (some ⟨b7, 0, none⟩)), (5, .slice (clA o) (tiTo d S i ++ casK bA bB bC x 0).length (clC o))]) (fun b7 => (b7, [.int .i64 x.who, .int .i64 x.fr, .int .i64 x.to], some (101, 3, 1)) :: (clH 99 3 (tiB (tiTo d S i ++ casK bA bB bC x 0)) o ++ [(g, shB S, some (101, 3, cp)), (b2, [.int .i64 d.most, .int .i64 d.rest, .int .i64 d.win, .int .i64 d.sum], some (74, 4, 1))])) (fun _ => True) ?_ ?_
      · repeat' (first | ((with_reducible apply oq_id); first | (focus ((with_reducible apply oq_indexAddrN); (iterate 4 exact rfl); omega)) | (apply oq_fn; exact rfl; try first | exact trivial | (and_intros <;> omega)) | ((with_reducible apply oq_loadAgg); exact rfl; exact rfl)) | ((with_reducible apply tl_id); first | (with_reducible apply tl_nil) | ((with_reducible apply u_q); (iterate 4 exact rfl)) | ((with_reducible apply u_s0); exact rfl; exact rfl) | ((with_reducible apply u_s); (iterate 3 exact rfl))) | ((with_reducible apply os_id); first | ((with_reducible apply os_x); exact rfl) | ((with_reducible apply os_storeAgg); (iterate 5 exact rfl))) | ((with_reducible apply ox_alloc); exact rfl; intro _) | ((with_reducible apply rd_id); first | (apply Rd.own; (repeat (first | exact P0 | apply P1 | apply PA)); first | exact q0 | exact q1 | exact q2 | exact r0 | exact r1 | exact r2; done)) | ((with_reducible apply t_id); first | (apply t_region; kernel_rfl)) | exact P0 | exact Rdn.zero | apply Rdn.succ | ((with_reducible apply Norm.nil); exact rfl) | ((with_reducible apply Norm.cons); exact rfl) | exact Nat.le_of_ble_eq_true rfl)
        all_goals exact ⟨rfl, _, trivial, by (repeat (first | exact FrSub.nil | (apply FrSub.cons; exact rfl))), by (repeat (first | exact HpSub.refl _ | (apply HpSub.consE; (repeat (first | exact P0 | apply P1 | apply PA)); exact rfl) | apply HpSub.appC | apply HpSub.skipX | apply HpSub.skip | apply HpSub.skipApp | exact HpSub.nil))⟩
      rintro b7 -
      try dsimp only
      refine t_cut (ι := Option (Nat × Nat)) (fun o => [(1, .slice (some ⟨g, 0, none⟩) n cp), (2, .pointer (some ⟨b2, 0, none⟩)), (6, .int .i64 (i : Nat)), (7, .pointer (some ⟨b7, 0, none⟩)), (5, .slice (clA o) (tiTo d S i ++ casK bA bB bC x 1).length (clC o))]) (fun o => (b7, [.int .i64 x.who, .int .i64 x.fr, .int .i64 x.to], some (101, 3, 1)) :: (clH 99 3 (tiB (tiTo d S i ++ casK bA bB bC x 1)) o ++ [(g, shB S, some (101, 3, cp)), (b2, [.int .i64 d.most, .int .i64 d.rest, .int .i64 d.win, .int .i64 d.sum], some (74, 4, 1))])) (fun o => o = none → (tiTo d S i ++ casK bA bB bC x 1).length = 0) ?_ ?_
      · have hkl := hkl 0
        obtain ⟨T0, hT⟩ : ∃ T, tiTo d S i ++ casK bA bB bC x 0 = T := ⟨_, rfl⟩
        rw [hT] at hkl ho ⊢
        cases bA with
        | false =>
          simp only [decide_eq_false_iff_not, gt_iff_lt] at hbA
          have e1 : tiTo d S i ++ casK false bB bC x 1 = T0 := by rw [← hT]; simp [casK]
          repeat' (first | ((with_reducible apply oq_id); first | ((with_reducible apply oq_gtrF); exact rfl; exact rfl; omega) | (apply oq_fn; exact rfl; try first | exact trivial | (and_intros <;> omega)) | ((with_reducible apply oq_load); exact rfl; exact rfl)) | ((with_reducible apply tl_id); first | (with_reducible apply tl_nil) | ((with_reducible apply u_q); (iterate 4 exact rfl))) | ((with_reducible apply rd_id); first | (apply Rd.own; (repeat (first | exact P0 | apply P1 | apply PA)); exact rfl; done)) | ((with_reducible apply t_id); first | (with_reducible apply t_seq) | (apply t_region; kernel_rfl) | ((with_reducible apply t_condF); exact rfl) | (with_reducible apply t_skip)) | with_reducible apply q_thenN)
          all_goals (refine ⟨rfl, o, (by simp only [e1]; exact ho), ?_, ?_⟩)
          all_goals (simp only [e1])
          all_goals first
            | ((repeat (first | exact FrSub.nil | (apply FrSub.cons; exact rfl))); done)
            | ((repeat (first | exact HpSub.refl _ | (apply HpSub.consE; (repeat (first | exact P0 | apply P1 | apply PA)); exact rfl) | apply HpSub.appC | apply HpSub.skipX | apply HpSub.skip | apply HpSub.skipApp | exact HpSub.nil)); done)
        | true =>
          simp only [decide_eq_true_eq, gt_iff_lt] at hbA
          have e1 : tiTo d S i ++ casK true bB bC x 1 = T0 ++ [⟨1, x.who, x.fr⟩] := by rw [← hT]; simp [casK]
          rcases o with _ | ⟨go, co⟩
          · have h0 := ho rfl
            obtain rfl := List.length_eq_zero_iff.1 h0
            simp only [clA, clC, clH, List.nil_append, List.length_nil]
            repeat' (first | ((with_reducible apply oq_id); first | ((with_reducible apply oq_gtrT); exact rfl; exact rfl; omega) | (apply oq_fn; exact rfl; try first | exact trivial | (and_intros <;> omega)) | ((with_reducible apply oq_load); exact rfl; exact rfl) | ((with_reducible apply oq_build); (iterate 3 exact rfl))) | ((with_reducible apply tl_id); first | (with_reducible apply tl_nil) | ((with_reducible apply u_q); (iterate 4 exact rfl)) | ((with_reducible apply u_s); (iterate 3 exact rfl))) | ((with_reducible apply os_id); first | ((with_reducible apply os_x); exact rfl) | ((with_reducible apply os_appendNil (hk := app_ok77)); exact rfl; exact rfl)) | ((with_reducible apply ox_buildSlice); (iterate 4 exact rfl)) | ((with_reducible apply rd_id); first | (apply Rd.own; (repeat (first | exact P0 | apply P1 | apply PA)); exact rfl; done)) | ((with_reducible apply t_id); first | (with_reducible apply t_seq) | (apply t_region; kernel_rfl) | ((with_reducible apply t_condT); exact rfl)) | with_reducible apply q_thenN | exact Rdn.zero | apply Rdn.succ | ((with_reducible apply Norm.nil); exact rfl) | ((with_reducible apply Norm.cons); exact rfl) | (intro gN cN; with_reducible apply tl_id) | exact Nat.le_of_ble_eq_true rfl | exact (rfl : (_ : Bool) = true) | (intro _; with_reducible apply tl_id))
            all_goals (refine ⟨rfl, some (gN, cN), (fun h => by cases h), ?_, ?_⟩)
            all_goals (simp only [e1])
            all_goals first
              | ((try simp only [List.cons_append, List.nil_append]); (repeat (first | exact FrSub.nil | (apply FrSub.cons; exact rfl) | (apply FrSub.consE; exact rfl; (focus (simp; done))))); done)
              | ((try simp only [List.cons_append, List.nil_append]); (repeat (first | exact HpSub.refl _ | (apply HpSub.consE; (repeat (first | exact P0 | apply P1 | apply PA)); first | exact rfl | (focus (simp [tiB_app, tiB, tiCells]; done))) | apply HpSub.appC | apply HpSub.skipX | apply HpSub.skip | apply HpSub.skipApp | exact HpSub.nil)); done)
          · simp only [clA, clC, clH, List.cons_append, List.nil_append]
            repeat' (first | ((with_reducible apply oq_id); first | ((with_reducible apply oq_gtrT); exact rfl; exact rfl; omega) | (apply oq_fn; exact rfl; try first | exact trivial | (and_intros <;> omega)) | ((with_reducible apply oq_load); exact rfl; exact rfl) | ((with_reducible apply oq_build); (iterate 3 exact rfl))) | ((with_reducible apply tl_id); first | (with_reducible apply tl_nil) | ((with_reducible apply u_q); (iterate 4 exact rfl)) | ((with_reducible apply u_s); (iterate 3 exact rfl))) | ((with_reducible apply os_id); first | ((with_reducible apply os_x); exact rfl) | ((with_reducible apply os_append (hk := app_ok77)); exact rfl; exact rfl; (repeat (first | exact P0 | apply P1 | apply PA)))) | ((with_reducible apply ox_buildSlice); (iterate 4 exact rfl)) | ((with_reducible apply rd_id); first | (apply Rd.own; (repeat (first | exact P0 | apply P1 | apply PA)); exact rfl; done)) | ((with_reducible apply t_id); first | (with_reducible apply t_seq) | (apply t_region; kernel_rfl) | ((with_reducible apply t_condT); exact rfl)) | with_reducible apply q_thenN | exact Rdn.zero | apply Rdn.succ | ((with_reducible apply Norm.nil); exact rfl) | ((with_reducible apply Norm.cons); exact rfl) | exact tiB_len _ | (intro gN cN; with_reducible apply tl_id) | exact Nat.le_of_ble_eq_true rfl | exact (rfl : (_ : Bool) = true) | omega | (intro _; with_reducible apply tl_id))
            all_goals (refine ⟨rfl, some (gN, cN), (fun h => by cases h), ?_, ?_⟩)
            all_goals (simp only [e1])
            all_goals first
              | ((try simp only [List.cons_append, List.nil_append]); (repeat (first | exact FrSub.nil | (apply FrSub.cons; exact rfl) | (apply FrSub.consE; exact rfl; (focus (simp; done))))); done)
              | ((try simp only [List.cons_append, List.nil_append]); (repeat (first | exact HpSub.refl _ | (apply HpSub.consE; (repeat (first | exact P0 | apply P1 | apply PA)); first | exact rfl | (focus (simp [tiB_app, tiB, tiCells]; done))) | apply HpSub.appC | apply HpSub.skipX | apply HpSub.skip | apply HpSub.skipApp | exact HpSub.nil)); done)
      clear ho o
      rintro o ho
      try dsimp only
      refine t_cut (ι := Option (Nat × Nat)) (fun o => [(1, .slice (some ⟨g, 0, none⟩) n cp), (2, .pointer (some ⟨b2, 0, none⟩)), (6, .int .i64 (i : Nat)), (7, .pointer (some ⟨b7, 0, none⟩)), (5, .slice (clA o) (tiTo d S i ++ casK bA bB bC x 2).length (clC o))]) (fun o => (b7, [.int .i64 x.who, .int .i64 x.fr, .int .i64 x.to], some (101, 3, 1)) :: (clH 99 3 (tiB (tiTo d S i ++ casK bA bB bC x 2)) o ++ [(g, shB S, some (101, 3, cp)), (b2, [.int .i64 d.most, .int .i64 d.rest, .int .i64 d.win, .int .i64 d.sum], some (74, 4, 1))])) (fun o => o = none → (tiTo d S i ++ casK bA bB bC x 2).length = 0) ?_ ?_
      · have hkl := hkl 1
        obtain ⟨T0, hT⟩ : ∃ T, tiTo d S i ++ casK bA bB bC x 1 = T := ⟨_, rfl⟩
        rw [hT] at hkl ho ⊢
        by_cases h4 : i = 0
        · have hbF : bB = false := by rw [← hbB, h4]; rfl
          subst hbF
          have e1 : tiTo d S i ++ casK bA false bC x 2 = T0 := by rw [← hT]; simp [casK]
          repeat' (first | ((with_reducible apply oq_id); first | ((with_reducible apply oq_gtrF); exact rfl; exact rfl; omega) | (apply oq_fn; exact rfl; try first | exact trivial | (and_intros <;> omega))) | ((with_reducible apply gx_id); first | (with_reducible apply v_nil) | ((with_reducible apply v_q); (iterate 3 exact rfl)) | ((with_reducible apply v_skip); (iterate 3 exact rfl))) | ((with_reducible apply t_id); first | (with_reducible apply t_seq) | (apply t_drawn; kernel_rfl; decide +kernel; try simp only [List.append_eq, List.cons_append, List.nil_append]) | ((with_reducible apply t_condF); exact rfl) | (with_reducible apply t_skip)) | with_reducible apply q_thenN)
          all_goals (refine ⟨rfl, o, (by simp only [e1]; exact ho), ?_, ?_⟩)
          all_goals (simp only [e1])
          all_goals first
            | ((repeat (first | exact FrSub.nil | (apply FrSub.cons; exact rfl))); done)
            | ((repeat (first | exact HpSub.refl _ | (apply HpSub.consE; (repeat (first | exact P0 | apply P1 | apply PA)); exact rfl) | apply HpSub.appC | apply HpSub.skipX | apply HpSub.skip | apply HpSub.skipApp | exact HpSub.nil)); done)
        obtain ⟨y, hy⟩ : ∃ y, S[i - 1]? = some y := ⟨_, List.getElem?_eq_getElem (by omega)⟩
        obtain ⟨r0, r1, r2⟩ := sh_at hy
        have hyo := hall y (List.mem_of_getElem? hy)
        unfold shOk at hyo
        unfold restB at hbB
        rw [hy, show decide (0 < i) = true by simp; omega, Bool.true_and] at hbB
        by_cases h5 : y.who = x.who
        rotate_left
        · have hbF : bB = false := by rw [← hbB]; simp [h5]
          subst hbF
          have e1 : tiTo d S i ++ casK bA false bC x 2 = T0 := by rw [← hT]; simp [casK]
          repeat' (first | ((with_reducible apply oq_id); first | (focus ((with_reducible apply oq_indexAddrN); (iterate 4 exact rfl); omega)) | ((with_reducible apply oq_subE (k := ((i - 1 : Nat) : Int))); exact rfl; exact rfl; omega) | ((with_reducible apply oq_gtrT); exact rfl; exact rfl; omega) | ((with_reducible apply oq_eqlF); exact rfl; exact rfl; omega) | (apply oq_fn; exact rfl; try first | exact trivial | (and_intros <;> omega)) | ((with_reducible apply oq_load); exact rfl; exact rfl)) | ((with_reducible apply gx_id); first | (with_reducible apply v_nil) | ((with_reducible apply v_q); (iterate 3 exact rfl)) | ((with_reducible apply v_skip); (iterate 3 exact rfl))) | ((with_reducible apply rd_id); first | (apply Rd.own; (repeat (first | exact P0 | apply P1 | apply PA)); first | exact q0 | exact q1 | exact q2 | exact r0 | exact r1 | exact r2; done) | (apply Rd.own; (repeat (first | exact P0 | apply P1 | apply PA)); exact rfl; done)) | ((with_reducible apply t_id); first | (with_reducible apply t_seq) | (apply t_drawn; kernel_rfl; decide +kernel; try simp only [List.append_eq, List.cons_append, List.nil_append]) | ((with_reducible apply t_condF); exact rfl) | (with_reducible apply t_skip)) | with_reducible apply q_thenN)
          all_goals (refine ⟨rfl, o, (by simp only [e1]; exact ho), ?_, ?_⟩)
          all_goals (simp only [e1])
          all_goals first
            | ((repeat (first | exact FrSub.nil | (apply FrSub.cons; exact rfl))); done)
            | ((repeat (first | exact HpSub.refl _ | (apply HpSub.consE; (repeat (first | exact P0 | apply P1 | apply PA)); exact rfl) | apply HpSub.appC | apply HpSub.skipX | apply HpSub.skip | apply HpSub.skipApp | exact HpSub.nil)); done)
        have hyx := (hfit i x hx).2 y (by omega) hy h5
        by_cases h6 : x.fr - y.to < d.rest
        rotate_left
        · have hbF : bB = false := by rw [← hbB]; simp [h5, h6]
          subst hbF
          have e1 : tiTo d S i ++ casK bA false bC x 2 = T0 := by rw [← hT]; simp [casK]
          repeat' (first | ((with_reducible apply oq_id); first | (focus ((with_reducible apply oq_indexAddrN); (iterate 4 exact rfl); omega)) | ((with_reducible apply oq_subE (k := ((i - 1 : Nat) : Int))); exact rfl; exact rfl; omega) | ((with_reducible apply oq_gtrT); exact rfl; exact rfl; omega) | ((with_reducible apply oq_eqlT); exact rfl; exact rfl; omega) | ((with_reducible apply oq_lssF); exact rfl; exact rfl; omega) | (apply oq_fn; exact rfl; try first | exact trivial | (and_intros <;> omega)) | ((with_reducible apply oq_load); exact rfl; exact rfl)) | ((with_reducible apply gx_id); first | (with_reducible apply v_nil) | ((with_reducible apply v_q); (iterate 3 exact rfl))) | ((with_reducible apply rd_id); first | (apply Rd.own; (repeat (first | exact P0 | apply P1 | apply PA)); first | exact q0 | exact q1 | exact q2 | exact r0 | exact r1 | exact r2; done) | (apply Rd.own; (repeat (first | exact P0 | apply P1 | apply PA)); exact rfl; done)) | ((with_reducible apply t_id); first | (with_reducible apply t_seq) | (apply t_drawn; kernel_rfl; decide +kernel; try simp only [List.append_eq, List.cons_append, List.nil_append]) | ((with_reducible apply t_condF); exact rfl) | (with_reducible apply t_skip)) | with_reducible apply q_thenN)
          all_goals (refine ⟨rfl, o, (by simp only [e1]; exact ho), ?_, ?_⟩)
          all_goals (simp only [e1])
          all_goals first
            | ((repeat (first | exact FrSub.nil | (apply FrSub.cons; exact rfl))); done)
            | ((repeat (first | exact HpSub.refl _ | (apply HpSub.consE; (repeat (first | exact P0 | apply P1 | apply PA)); exact rfl) | apply HpSub.appC | apply HpSub.skipX | apply HpSub.skip | apply HpSub.skipApp | exact HpSub.nil)); done)
        have hbT : bB = true := by rw [← hbB]; simp [h5, h6]
        subst hbT
        have e1 : tiTo d S i ++ casK bA true bC x 2 = T0 ++ [⟨2, x.who, x.fr⟩] := by rw [← hT]; simp [casK]
        rcases o with _ | ⟨go, co⟩
        · have h0 := ho rfl
          obtain rfl := List.length_eq_zero_iff.1 h0
          simp only [clA, clC, clH, List.nil_append, List.length_nil]
          repeat' (first | ((with_reducible apply oq_id); first | (focus ((with_reducible apply oq_indexAddrN); (iterate 4 exact rfl); omega)) | ((with_reducible apply oq_subE (k := ((i - 1 : Nat) : Int))); exact rfl; exact rfl; omega) | ((with_reducible apply oq_gtrT); exact rfl; exact rfl; omega) | ((with_reducible apply oq_eqlT); exact rfl; exact rfl; omega) | ((with_reducible apply oq_lssT); exact rfl; exact rfl; omega) | (apply oq_fn; exact rfl; try first | exact trivial | (and_intros <;> omega)) | ((with_reducible apply oq_load); exact rfl; exact rfl) | ((with_reducible apply oq_build); (iterate 3 exact rfl))) | ((with_reducible apply tl_id); first | (with_reducible apply tl_nil) | ((with_reducible apply u_q); (iterate 4 exact rfl)) | ((with_reducible apply u_s); (iterate 3 exact rfl))) | ((with_reducible apply gx_id); first | (with_reducible apply v_nil) | ((with_reducible apply v_q); (iterate 3 exact rfl))) | ((with_reducible apply os_id); first | ((with_reducible apply os_x); exact rfl) | ((with_reducible apply os_appendNil (hk := app_ok77)); exact rfl; exact rfl)) | ((with_reducible apply ox_buildSlice); (iterate 4 exact rfl)) | ((with_reducible apply rd_id); first | (apply Rd.own; (repeat (first | exact P0 | apply P1 | apply PA)); first | exact q0 | exact q1 | exact q2 | exact r0 | exact r1 | exact r2; done) | (apply Rd.own; (repeat (first | exact P0 | apply P1 | apply PA)); exact rfl; done)) | ((with_reducible apply t_id); first | (with_reducible apply t_seq) | (apply t_region; kernel_rfl) | (apply t_drawn; kernel_rfl; decide +kernel; try simp only [List.append_eq, List.cons_append, List.nil_append]) | ((with_reducible apply t_condT); exact rfl)) | with_reducible apply q_thenN | exact Rdn.zero | apply Rdn.succ | ((with_reducible apply Norm.nil); exact rfl) | ((with_reducible apply Norm.cons); exact rfl) | (intro gN cN; with_reducible apply tl_id) | exact Nat.le_of_ble_eq_true rfl | exact (rfl : (_ : Bool) = true) | (intro _; with_reducible apply tl_id))
          all_goals (refine ⟨rfl, some (gN, cN), (fun h => by cases h), ?_, ?_⟩)
          all_goals (simp only [e1])
          all_goals first
            | ((try simp only [List.cons_append, List.nil_append]); (repeat (first | exact FrSub.nil | (apply FrSub.cons; exact rfl) | (apply FrSub.consE; exact rfl; (focus (simp; done))))); done)
            | ((try simp only [List.cons_append, List.nil_append]); (repeat (first | exact HpSub.refl _ | (apply HpSub.consE; (repeat (first | exact P0 | apply P1 | apply PA)); first | exact rfl | (focus (simp [tiB_app, tiB, tiCells]; done))) | apply HpSub.appC | apply HpSub.skipX | apply HpSub.skip | apply HpSub.skipApp | exact HpSub.nil)); done)
        · simp only [clA, clC, clH, List.cons_append, List.nil_append]
          repeat' (first | ((with_reducible apply oq_id); first | (focus ((with_reducible apply oq_indexAddrN); (iterate 4 exact rfl); omega)) | ((with_reducible apply oq_subE (k := ((i - 1 : Nat) : Int))); exact rfl; exact rfl; omega) | ((with_reducible apply oq_gtrT); exact rfl; exact rfl; omega) | ((with_reducible apply oq_eqlT); exact rfl; exact rfl; omega) | ((with_reducible apply oq_lssT); exact rfl; exact rfl; omega) | (apply oq_fn; exact rfl; try first | exact trivial | (and_intros <;> omega)) | ((with_reducible apply oq_load); exact rfl; exact rfl) | ((with_reducible apply oq_build); (iterate 3 exact rfl))) | ((with_reducible apply tl_id); first | (with_reducible apply tl_nil) | ((with_reducible apply u_q); (iterate 4 exact rfl)) | ((with_reducible apply u_s); (iterate 3 exact rfl))) | ((with_reducible apply gx_id); first | (with_reducible apply v_nil) | ((with_reducible apply v_q); (iterate 3 exact rfl))) | ((with_reducible apply os_id); first | ((with_reducible apply os_x); exact rfl) | ((with_reducible apply os_append (hk := app_ok77)); exact rfl; exact rfl; (repeat (first | exact P0 | apply P1 | apply PA)))) | ((with_reducible apply ox_buildSlice); (iterate 4 exact rfl)) | ((with_reducible apply rd_id); first | (apply Rd.own; (repeat (first | exact P0 | apply P1 | apply PA)); first | exact q0 | exact q1 | exact q2 | exact r0 | exact r1 | exact r2; done) | (apply Rd.own; (repeat (first | exact P0 | apply P1 | apply PA)); exact rfl; done)) | ((with_reducible apply t_id); first | (with_reducible apply t_seq) | (apply t_region; kernel_rfl) | (apply t_drawn; kernel_rfl; decide +kernel; try simp only [List.append_eq, List.cons_append, List.nil_append]) | ((with_reducible apply t_condT); exact rfl)) | with_reducible apply q_thenN | exact Rdn.zero | apply Rdn.succ | ((with_reducible apply Norm.nil); exact rfl) | ((with_reducible apply Norm.cons); exact rfl) | exact tiB_len _ | (intro gN cN; with_reducible apply tl_id) | exact Nat.le_of_ble_eq_true rfl | exact (rfl : (_ : Bool) = true) | omega | (intro _; with_reducible apply tl_id))
          all_goals (refine ⟨rfl, some (gN, cN), (fun h => by cases h), ?_, ?_⟩)
          all_goals (simp only [e1])
          all_goals first
            | ((try simp only [List.cons_append, List.nil_append]); (repeat (first | exact FrSub.nil | (apply FrSub.cons; exact rfl) | (apply FrSub.consE; exact rfl; (focus (simp; done))))); done)
            | ((try simp only [List.cons_append, List.nil_append]); (repeat (first | exact HpSub.refl _ | (apply HpSub.consE; (repeat (first | exact P0 | apply P1 | apply PA)); first | exact rfl | (focus (simp [tiB_app, tiB, tiCells]; done))) | apply HpSub.appC | apply HpSub.skipX | apply HpSub.skip | apply HpSub.skipApp | exact HpSub.nil)); done)
      clear ho o
      rintro o ho
      try dsimp only
      have hkl := hkl 2
      obtain ⟨V, hV⟩ : ∃ V, workV S x.who x.fr (x.fr + d.win) = V := ⟨_, rfl⟩
      have HW := fun w1 h => worked_calls (some ⟨g, 0, none⟩) n cp S x.who x.fr (x.fr + d.win) w1 h (by omega) hall (by omega) (by omega)
      rw [hV] at hbC HW
      obtain ⟨T0, hT⟩ : ∃ T, tiTo d S i ++ casK bA bB bC x 2 = T := ⟨_, rfl⟩
      rw [hT] at hkl ho ⊢
      cases bC with
      | false =>
        simp only [decide_eq_false_iff_not, gt_iff_lt] at hbC
        have e1 : tiTo d S i ++ casK bA bB false x 3 = T0 := by rw [← hT]; simp [casK]
        repeat' (first | ((with_reducible apply oq_id); first | ((with_reducible apply oq_gtrF); exact rfl; exact rfl; omega) | (apply oq_fn; exact rfl; try first | exact trivial | (and_intros <;> omega)) | ((with_reducible apply oq_load); exact rfl; exact rfl) | ((with_reducible apply oq_call (k := 113) (hc := Try.call113)); exact rfl; exact rfl; exact fun D w1 hw1 => HW w1 (sh_own hsl hw1 (by (repeat (first | exact P0 | apply P1 | apply PA)))))) | ((with_reducible apply gx_id); first | (with_reducible apply v_nil) | ((with_reducible apply v_q); (iterate 3 exact rfl))) | ((with_reducible apply rd_id); first | (apply Rd.own; (repeat (first | exact P0 | apply P1 | apply PA)); exact rfl; done)) | ((with_reducible apply t_id); first | (with_reducible apply t_seq) | (apply t_drawn; kernel_rfl; decide +kernel; try simp only [List.append_eq, List.cons_append, List.nil_append]) | ((with_reducible apply t_condF); exact rfl) | (with_reducible apply t_skip)) | with_reducible apply q_thenN | with_reducible apply q_blockN)
        all_goals (refine ⟨rfl, o, (by simp only [e1]; exact ho), ?_, ?_⟩)
        all_goals (simp only [e1])
        all_goals first
          | ((repeat (first | exact FrSub.nil | (apply FrSub.cons; exact rfl))); done)
          | ((repeat (first | exact HpSub.refl _ | (apply HpSub.consE; (repeat (first | exact P0 | apply P1 | apply PA)); exact rfl) | apply HpSub.appC | apply HpSub.skipX | apply HpSub.skip | apply HpSub.skipApp | exact HpSub.nil)); done)
      | true =>
        simp only [decide_eq_true_eq, gt_iff_lt] at hbC
        have e1 : tiTo d S i ++ casK bA bB true x 3 = T0 ++ [⟨3, x.who, x.fr⟩] := by rw [← hT]; simp [casK]
        rcases o with _ | ⟨go, co⟩
        · have h0 := ho rfl
          obtain rfl := List.length_eq_zero_iff.1 h0
          simp only [clA, clC, clH, List.nil_append, List.length_nil]
          repeat' (first | ((with_reducible apply oq_id); first | ((with_reducible apply oq_gtrT); exact rfl; exact rfl; omega) | (apply oq_fn; exact rfl; try first | exact trivial | (and_intros <;> omega)) | ((with_reducible apply oq_load); exact rfl; exact rfl) | ((with_reducible apply oq_call (k := 113) (hc := Try.call113)); exact rfl; exact rfl; exact fun D w1 hw1 => HW w1 (sh_own hsl hw1 (by (repeat (first | exact P0 | apply P1 | apply PA))))) | ((with_reducible apply oq_build); (iterate 3 exact rfl))) | ((with_reducible apply tl_id); first | (with_reducible apply tl_nil) | ((with_reducible apply u_q); (iterate 4 exact rfl)) | ((with_reducible apply u_s); (iterate 3 exact rfl))) | ((with_reducible apply gx_id); first | (with_reducible apply v_nil) | ((with_reducible apply v_q); (iterate 3 exact rfl))) | ((with_reducible apply os_id); first | ((with_reducible apply os_x); exact rfl) | ((with_reducible apply os_appendNil (hk := app_ok77)); exact rfl; exact rfl)) | ((with_reducible apply ox_buildSlice); (iterate 4 exact rfl)) | ((with_reducible apply rd_id); first | (apply Rd.own; (repeat (first | exact P0 | apply P1 | apply PA)); exact rfl; done)) | ((with_reducible apply t_id); first | (with_reducible apply t_seq) | (apply t_region; kernel_rfl) | (apply t_drawn; kernel_rfl; decide +kernel; try simp only [List.append_eq, List.cons_append, List.nil_append]) | ((with_reducible apply t_condT); exact rfl)) | with_reducible apply q_thenN | with_reducible apply q_blockN | exact Rdn.zero | apply Rdn.succ | ((with_reducible apply Norm.nil); exact rfl) | ((with_reducible apply Norm.cons); exact rfl) | (intro gN cN; with_reducible apply tl_id) | exact Nat.le_of_ble_eq_true rfl | exact (rfl : (_ : Bool) = true) | (intro _; with_reducible apply tl_id))
          all_goals (refine ⟨rfl, some (gN, cN), (fun h => by cases h), ?_, ?_⟩)
          all_goals (simp only [e1])
          all_goals first
            | ((try simp only [List.cons_append, List.nil_append]); (repeat (first | exact FrSub.nil | (apply FrSub.cons; exact rfl) | (apply FrSub.consE; exact rfl; (focus (simp; done))))); done)
            | ((try simp only [List.cons_append, List.nil_append]); (repeat (first | exact HpSub.refl _ | (apply HpSub.consE; (repeat (first | exact P0 | apply P1 | apply PA)); first | exact rfl | (focus (simp [tiB_app, tiB, tiCells]; done))) | apply HpSub.appC | apply HpSub.skipX | apply HpSub.skip | apply HpSub.skipApp | exact HpSub.nil)); done)
        · simp only [clA, clC, clH, List.cons_append, List.nil_append]
          repeat' (first | ((with_reducible apply oq_id); first | ((with_reducible apply oq_gtrT); exact rfl; exact rfl; omega) | (apply oq_fn; exact rfl; try first | exact trivial | (and_intros <;> omega)) | ((with_reducible apply oq_load); exact rfl; exact rfl) | ((with_reducible apply oq_call (k := 113) (hc := Try.call113)); exact rfl; exact rfl; exact fun D w1 hw1 => HW w1 (sh_own hsl hw1 (by (repeat (first | exact P0 | apply P1 | apply PA))))) | ((with_reducible apply oq_build); (iterate 3 exact rfl))) | ((with_reducible apply tl_id); first | (with_reducible apply tl_nil) | ((with_reducible apply u_q); (iterate 4 exact rfl)) | ((with_reducible apply u_s); (iterate 3 exact rfl))) | ((with_reducible apply gx_id); first | (with_reducible apply v_nil) | ((with_reducible apply v_q); (iterate 3 exact rfl))) | ((with_reducible apply os_id); first | ((with_reducible apply os_x); exact rfl) | ((with_reducible apply os_append (hk := app_ok77)); exact rfl; exact rfl; (repeat (first | exact P0 | apply P1 | apply PA)))) | ((with_reducible apply ox_buildSlice); (iterate 4 exact rfl)) | ((with_reducible apply rd_id); first | (apply Rd.own; (repeat (first | exact P0 | apply P1 | apply PA)); exact rfl; done)) | ((with_reducible apply t_id); first | (with_reducible apply t_seq) | (apply t_region; kernel_rfl) | (apply t_drawn; kernel_rfl; decide +kernel; try simp only [List.append_eq, List.cons_append, List.nil_append]) | ((with_reducible apply t_condT); exact rfl)) | with_reducible apply q_thenN | with_reducible apply q_blockN | exact Rdn.zero | apply Rdn.succ | ((with_reducible apply Norm.nil); exact rfl) | ((with_reducible apply Norm.cons); exact rfl) | exact tiB_len _ | (intro gN cN; with_reducible apply tl_id) | exact Nat.le_of_ble_eq_true rfl | exact (rfl : (_ : Bool) = true) | omega | (intro _; with_reducible apply tl_id))
          all_goals (refine ⟨rfl, some (gN, cN), (fun h => by cases h), ?_, ?_⟩)
          all_goals (simp only [e1])
          all_goals first
            | ((try simp only [List.cons_append, List.nil_append]); (repeat (first | exact FrSub.nil | (apply FrSub.cons; exact rfl) | (apply FrSub.consE; exact rfl; (focus (simp; done))))); done)
            | ((try simp only [List.cons_append, List.nil_append]); (repeat (first | exact HpSub.refl _ | (apply HpSub.consE; (repeat (first | exact P0 | apply P1 | apply PA)); first | exact rfl | (focus (simp [tiB_app, tiB, tiCells]; done))) | apply HpSub.appC | apply HpSub.skipX | apply HpSub.skip | apply HpSub.skipApp | exact HpSub.nil)); done)
    · rintro o2 ho2
      repeat' (first | ((with_reducible apply oq_id); first | (apply oq_fn; exact rfl; try first | exact trivial | (and_intros <;> omega))) | ((with_reducible apply tl_id); first | (with_reducible apply tl_nil) | ((with_reducible apply u_q); (iterate 4 exact rfl))) | ((with_reducible apply t_id); first | (apply t_region; kernel_rfl)) | with_reducible apply q_thenN)
      all_goals (refine ⟨(i + 1, o2), ⟨(by simp only; omega), ho2⟩, (by simp only; omega), ?_, ?_⟩)
      all_goals first
        | ((try simp only [List.cons_append, List.nil_append]); (repeat (first | exact FrSub.nil | (apply FrSub.cons; exact rfl))); done)
        | ((try simp only [List.cons_append, List.nil_append]); (repeat (first | exact HpSub.refl _ | (apply HpSub.consE; (repeat (first | exact P0 | apply P1 | apply PA)); exact rfl) | apply HpSub.appC | apply HpSub.skipX | apply HpSub.skip | apply HpSub.skipApp | exact HpSub.nil)); done)
  · obtain rfl : i = n := by omega
    rw [hti]
    repeat' (first | ((with_reducible apply oq_id); first | ((with_reducible apply oq_lssF); exact rfl; exact rfl; omega) | (apply oq_fn; exact rfl; try first | exact trivial | (and_intros <;> omega))) | ((with_reducible apply tl_id); first | (with_reducible apply tl_nil) | ((with_reducible apply u_q); (iterate 4 exact rfl))) | ((with_reducible apply t_id); first | (with_reducible apply t_seq) | (apply t_region; kernel_rfl) | ((with_reducible apply t_condF); exact rfl) | (with_reducible apply t_ret) | (with_reducible apply t_exit)) | with_reducible apply q_thenN | with_reducible apply q_thenE | ((with_reducible apply q_blockE); exact rfl) | (with_reducible apply end_ret) | exact rvs_nil | (with_reducible apply rvs_cons) | ((with_reducible apply rv_tmp); exact rfl))
    all_goals exact ⟨_, ⟨o, ho, rfl, rfl⟩, hp_left⟩
end Go.Proofs.Ytmlmgipngbndgaa
namespace Go.Proofs.Ytmlmgipngbndgaa
open Go.RowKit
section
variable {c : Cx} {F : Fr} {H H' : Hp} {K : Value → Hp → Prop} {d : Option Tmp} {ty : TypeId} {pos : String} {af : Array Edge} {gd : Option (Nat × Bool)} {t t' : TypeId} {x y : Operand} {a0 a1 : Bool} {s0 s1 : Nat} {z0 z1 : List Value} {k1 : TyK} {g : Nat} {tg : Tg} {C : List Value}
theorem Rds.own {b : Nat} (hp : Pick H b C tg H') : ∀ (vs : List Value) (o : Nat), (∀ j v, vs[j]? = some v → C[o + j]? = some v) → Rds c H b o vs
  | [], _, _ => trivial
  | v :: vs, o, h => ⟨Rd.own hp (h 0 v rfl), Rds.own hp vs (o + 1) fun j u hj => by have := h (j + 1) u (by simpa using hj); rw [← this]; congr 1; omega⟩
end
end Go.Proofs.Ytmlmgipngbndgaa
namespace Go.Proofs.Ytmlmgipngbndgaa
def FsOk (fs : List Int) : Prop := ∀ f ∈ fs, 1 ≤ f ∧ f ≤ 10000
/-! From the front -/
/-! The plan -/
theorem FsOk.drop {fs : List Int} (h : FsOk fs) (i : Nat) : FsOk (fs.drop i) := fun x hx => h x (List.mem_of_mem_drop hx)
end Go.Proofs.Ytmlmgipngbndgaa
namespace Go.Proofs.Ytmlmgipngbndgaa
open Go.RowKit
attribute [local irreducible] OQ OS OX Rd T TL GX GL AL AI RV wpG SAny Calls
theorem HpSub.skip {x : Nat × List Value × Tg} {H G : Hp} (h : HpSub H G) : HpSub (x :: H) G := by
  induction h with
  | nil => exact .nil
  | cons p _ ih => exact .cons (.tail p) ih
section
variable {c : Cx} {F : Fr} {H H' : Hp} {K : Value → Hp → Prop} {d : Option Tmp} {ty : TypeId} {pos : String} {af : Array Edge} {gd : Option (Nat × Bool)} {t : TypeId} {x y : Operand} {a0 : Bool} {z0 : List Value} {k0 : TyK} {g k : Nat} {tg : Tg} {A B : List Value} {z u : Value}
end
end Go.Proofs.Ytmlmgipngbndgaa
namespace Go.Proofs.Ytmlmgipngbndgaa
open Go.ChangeShapes Go.WideShapes Go.ChangeAt Go.RowKit
inductive Lf where
  | int (k : IntKind)
  | bool
def LfOk : Lf → Value → Prop
  | .int k, v => ∃ z, v = .int k z ∧ (Lit.int k z).wf = true
  | .bool, v => ∃ b, v = .bool b
def LfsOk : List Lf → List Value → Prop
  | [], [] => True
  | k :: ks, v :: vs => LfOk k v ∧ LfsOk ks vs
  | _, _ => False
theorem LfsOk.len : ∀ {ks : List Lf} {vs : List Value}, LfsOk ks vs → vs.length = ks.length
  | [], [], _ => rfl
  | k :: ks, v :: vs, h => by simp [LfsOk.len h.2]
  | [], _ :: _, h => h.elim
  | _ :: _, [], h => h.elim
theorem LfsOk.nil {vs : List Value} (h : LfsOk [] vs) : vs = [] := by cases vs with | nil => rfl | cons _ _ => exact h.elim
theorem LfsOk.int {k : IntKind} {ks : List Lf} {vs : List Value} (h : LfsOk (.int k :: ks) vs) : ∃ z us, vs = .int k z :: us ∧ (Lit.int k z).wf = true ∧ LfsOk ks us := by
  cases vs with
  | nil => exact h.elim
  | cons v vs => obtain ⟨⟨z, rfl, hw⟩, h2⟩ := h; exact ⟨z, vs, rfl, hw, h2⟩
theorem LfsOk.bool {ks : List Lf} {vs : List Value} (h : LfsOk (.bool :: ks) vs) : ∃ b us, vs = .bool b :: us ∧ LfsOk ks us := by
  cases vs with
  | nil => exact h.elim
  | cons v vs => obtain ⟨⟨z, rfl⟩, h2⟩ := h; exact ⟨z, vs, rfl, h2⟩
theorem LfsOk.append : ∀ {ks ls : List Lf} {vs us : List Value}, LfsOk ks vs → LfsOk ls us → LfsOk (ks ++ ls) (vs ++ us)
  | [], _, [], _, _, h => h
  | _ :: _, _, _ :: _, _, h, k => ⟨h.1, LfsOk.append h.2 k⟩
  | [], _, _ :: _, _, h, _ => h.elim
  | _ :: _, _, [], _, h, _ => h.elim
def ksFs (P : Program) (rec_ : TypeId → Option (List Lf)) : List Field → Nat → Option (List Lf)
  | [], _ => some []
  | f :: fs, o => match Nat.beq f.offset o, rec_ f.type, ksFs P rec_ fs (o + P.cellsOf f.type) with
    | true, some ks, some ls => match Nat.beq (P.cellsOf f.type) ks.length with
      | true => some (ks ++ ls)
      | false => none
    | _, _, _ => none
def ksOf (P : Program) : Nat → TypeId → Option (List Lf)
  | 0, _ => none
  | n + 1, t => match P.underlying t with
    | some (.int k) => some [.int k]
    | some .bool => some [.bool]
    | some (.struct fs) => match ksFs P (ksOf P n) fs.toList 0 with
      | some ks => match Nat.beq (P.cellsOf t) ks.length with
        | true => some ks
        | false => none
      | none => none
    | _ => none
section
variable {H : Type} {enc : TypeId × Value → H} {P : Program} {W : World} {base : Nat} {spare : Nat → Bool} {held : Bool}
theorem ksFs_ok {rec_ : TypeId → Option (List Lf)} {m : Nat} (hr : ∀ {t : TypeId} {ks : List Lf} {cs : List Value} {x : DataW H × List MemPlace}, rec_ t = some ks → DataW.trod enc P W base spare held m t cs = some x → LfsOk ks cs) {cs : List Value} :
    ∀ {fs : List Field} {o : Nat} {ks : List Lf}, ksFs P rec_ fs o = some ks → (∀ f ∈ fs, ∃ y, DataW.trod enc P W base spare held m f.type ((cs.drop f.offset).take (P.cellsOf f.type)) = some y) → o + ks.length ≤ cs.length → LfsOk ks ((cs.drop o).take ks.length)
  | [], o, ks, h, _, _ => by
    obtain rfl := Option.some.inj h
    simp [LfsOk]
  | f :: fs, o, ks, h, hy, hl => by
    unfold ksFs at h
    split at h
    · rename_i k1 l1 h1 h2 h3
      split at h
      · rename_i h4
        obtain rfl := Option.some.inj h
        have ho := Nat.eq_of_beq_eq_true h1
        have hc := Nat.eq_of_beq_eq_true h4
        obtain ⟨y, hy0⟩ := hy f (List.mem_cons_self ..)
        rw [ho, hc] at hy0
        have a1 := hr h2 hy0
        rw [hc] at h3
        simp only [List.length_append] at hl
        have a2 := ksFs_ok hr h3 (fun g hg => hy g (List.mem_cons_of_mem _ hg)) (by omega)
        have e : (cs.drop o).take (k1 ++ l1).length = (cs.drop o).take k1.length ++ (cs.drop (o + k1.length)).take l1.length := by
          rw [List.length_append, List.take_add, List.drop_drop]
        rw [e]
        exact a1.append a2
      · cases h
    · cases h
theorem ksOf_ok : ∀ {n : Nat} {t : TypeId} {ks : List Lf} {m : Nat} {cs : List Value} {x : DataW H × List MemPlace}, ksOf P n t = some ks → DataW.trod enc P W base spare held m t cs = some x → LfsOk ks cs
  | 0, _, _, _, _, _, h, _ => by cases h
  | n + 1, t, ks, m, cs, x, h, hx => by
    unfold ksOf at h
    split at h
    · rename_i k hu
      obtain rfl := Option.some.inj h
      obtain ⟨z, rfl, _, hw⟩ := DataW.trod_int hu hx
      exact ⟨⟨z, rfl, hw⟩, trivial⟩
    · rename_i hu
      obtain rfl := Option.some.inj h
      obtain ⟨b, rfl, _⟩ := DataW.trod_bool hu hx
      exact ⟨⟨b, rfl⟩, trivial⟩
    · rename_i fs hu
      split at h
      · rename_i ks' hk
        split at h
        · rename_i hc
          obtain rfl := Option.some.inj h
          have hc := Nat.eq_of_beq_eq_true hc
          obtain ⟨xs, k, _, _, hl, hlen, hf⟩ := DataW.trod_struct hu hx
          have := ksFs_ok (m := k) (cs := cs) (fun h1 h2 => ksOf_ok h1 h2) hk (fun f hfm => by
            obtain ⟨i, hi, hif⟩ := List.getElem_of_mem hfm
            have hi' : i < fs.size := by simpa using hi
            have e := hf i f (by rw [Array.getElem?_eq_getElem hi']; simpa using hif)
            rw [List.getElem?_eq_getElem (by omega)] at e
            exact ⟨_, e⟩) (by omega)
          rw [List.drop_zero, List.take_of_length_le (by omega)] at this
          exact this
        · cases h
      · cases h
    · cases h
/-- A struct of numbers, by value. -/
theorem open_struct {r : Reach} {b0 : Nat} {t : TypeId} {fs : Array Field} {n : Nat} {ks : List Lf} {v : Value} {d : DataW H} {p : List MemPlace} (hs : P.underlying t = some (.struct fs)) (hk : ksOf P n t = some ks)
    (hv : Value.okWide P W r b0 t v) (h : DataW.Trod enc P W base spare held t v d p) : ∃ cs, v = .agg ⟨cs⟩ ∧ LfsOk ks cs := by
  obtain ⟨cs, rfl, _⟩ := okWide_struct hs hv
  obtain ⟨fuel, hf⟩ := h
  obtain ⟨cs⟩ := cs
  exact ⟨cs, rfl, ksOf_ok hk hf⟩
/-- A slice of such. -/
theorem open_rows {r : Reach} {b0 : Nat} {t e : TypeId} {n : Nat} {ks : List Lf} {v : Value} {d : DataW H} {p : List MemPlace} (hs : P.underlying t = some (.slice e)) (hk : ksOf P n e = some ks) (hc : P.cellsOf e = ks.length) (hpos : 0 < ks.length)
    (hv : Value.okWide P W r b0 t v) (h : DataW.Trod enc P W 0 (fun _ => true) held t v d p) :
    ∃ (A : Option Addr) (m c : Nat) (rows : List (List Value)), v = .slice A m c ∧ RdS W ks.length A m rows ∧ ∀ x ∈ rows, LfsOk ks x := by
  obtain ⟨A, m, c, rfl⟩ := okWide_slice hs hv
  obtain ⟨fuel, hf⟩ := h
  refine ⟨A, m, c, ?_⟩
  rcases Go.Deep.open_slice hs hf with ⟨h1, _⟩ | ⟨a, len, cap, m', k, D, Pl, h1, _, hlc, _, hm, _, hi⟩
  · simp only [Value.cells, List.cons.injEq, Value.slice.injEq, and_true] at h1
    obtain ⟨rfl, rfl, rfl⟩ := h1
    exact ⟨[], rfl, RdS.nil _ _ _, fun x hx => (List.not_mem_nil hx).elim⟩
  · simp only [Value.cells, List.cons.injEq, Value.slice.injEq, and_true] at h1
    obtain ⟨rfl, rfl, rfl⟩ := h1
    simp only [if_true] at hm
    subst hm
    rw [hc] at hi
    have key : ∀ i, i < m → ∃ y : List Value, LfsOk ks y ∧ ∀ j u, y[j]? = some u → W.cell? ((a.add (i * ks.length)).add j) = some u := fun i hin => by
      obtain ⟨cs, hc, ht⟩ := hi i (by omega)
      obtain ⟨_, hlc, hat⟩ := World.cells?_some hc
      exact ⟨cs, ksOf_ok hk ht, fun j u hu => by rw [hat j (by rw [← hlc]; exact (List.getElem?_eq_some_iff.1 hu).1)]; exact hu⟩
    let f : Nat → List Value := fun i => if h : i < m then Classical.choose (key i h) else []
    have hfk : ∀ i, i < m → LfsOk ks (f i) ∧ ∀ j u, (f i)[j]? = some u → W.cell? ((a.add (i * ks.length)).add j) = some u := fun i hin => by
      simp only [f, dif_pos hin]
      exact Classical.choose_spec (key i hin)
    have hmem : ∀ x ∈ (List.range m).map f, LfsOk ks x := fun x hx => by
      obtain ⟨i, hi, rfl⟩ := List.mem_map.1 hx
      exact (hfk i (List.mem_range.1 hi)).1
    refine ⟨(List.range m).map f, rfl, ⟨by simp, fun h0 => ?_⟩, hmem⟩
    have l0 := (hfk 0 h0).1.len
    have c0 := (hfk 0 h0).2 0 _ (List.getElem?_eq_getElem (by omega))
    obtain ⟨b, o, sp⟩ := a
    have hsp : sp = none := by simpa [Addr.add] using World.cell?_spot c0
    subst hsp
    refine ⟨b, o, rfl, by simpa [Addr.add] using cell_lt c0, fun i x hx => ⟨(hmem x (List.mem_of_getElem? hx)).len, fun j u hu => ?_⟩⟩
    rw [List.getElem?_map, Option.map_eq_some_iff] at hx
    obtain ⟨i', h2, rfl⟩ := hx
    obtain ⟨h3, h4⟩ := List.getElem?_eq_some_iff.1 h2
    simp only [List.getElem_range, List.length_range] at h3 h4
    subst h4
    have := (hfk i h3).2 j u hu
    rw [add_eq, add_eq] at this
    exact this
end
theorem rows_ofP {α : Type} {f : α → List Value} {p : α → Prop} : ∀ {rows : List (List Value)}, (∀ x ∈ rows, ∃ y, x = f y ∧ p y) → ∃ l : List α, rows = l.map f ∧ ∀ y ∈ l, p y
  | [], _ => ⟨[], rfl, fun y hy => (List.not_mem_nil hy).elim⟩
  | x :: rows, h => by
    obtain ⟨y, rfl, hy⟩ := h x (List.mem_cons_self ..)
    obtain ⟨l, rfl, hl⟩ := rows_ofP (fun z hz => h z (List.mem_cons_of_mem _ hz))
    exact ⟨y :: l, rfl, fun z hz => by rcases List.mem_cons.1 hz with rfl | hz; exact hy; exact hl z hz⟩
end Go.Proofs.Ytmlmgipngbndgaa
namespace Go.Proofs.Ytmlmgipngbndgaa
open Go.RowKit
attribute [local irreducible] OQ OS OX Rd T TL GX GL AL AI RV wpG SAny Calls
theorem sameInts_calls (A A' : Option Addr) (n c n' c' : Nat) (l m : List Int) (q : Bool) (hq : q = true ↔ l = m) (w : World) (hr : RdS w 1 A n (l.map inCells)) (hr' : RdS w 1 A' n' (m.map inCells)) (hn : n ≤ 1000000) (hn' : n' ≤ 1000000) :
    Calls Try.prog 32 #[.slice A n c, .slice A' n' c'] w fun e w' => e = .returned (.bool q) ∧ Ext w w' := by
  have hl := hr.len
  have hl' := hr'.len
  simp only [List.length_map] at hl hl'
  by_cases hnn : n = n'
  · subst hnn
    refine enterQ (c := cx w 26) Try.func32 rfl rfl rfl rfl ?_
    repeat' (first | ((with_reducible apply oq_id); first | (apply oq_fn; exact rfl; try first | exact trivial | (and_intros <;> omega))) | ((with_reducible apply tl_id); first | (with_reducible apply tl_nil) | ((with_reducible apply u_q); (iterate 4 exact rfl))) | ((with_reducible apply t_id); first | (with_reducible apply t_seq) | (apply t_region; kernel_rfl) | ((with_reducible apply t_condN); exact rfl; all_goals first | (intro hp; try (exfalso; omega)) | skip) | (with_reducible apply t_skip) | (with_reducible apply t_block)) | with_reducible apply q_thenN)
    apply t_loopK (ι := Nat) [0, 1] (fun k => [(5, .int .i64 (k : Nat))]) (fun _ => []) (fun k => k ≤ n ∧ ∀ j, j < k → l[j]? = m[j]?) (fun k => n - k) (0)
    (repeat (first | exact KeepF.nil | (apply KeepF.cons; exact rfl) | apply KeepF.skip))
    (repeat (first | exact FrSub.nil | (apply FrSub.cons; exact rfl)))
    (repeat (first | exact HpSub.refl _ | (apply HpSub.consE; (repeat (first | exact P0 | apply P1)); exact rfl) | exact HpSub.nil))
    · exact ⟨by omega, fun j hj => by omega⟩
    rintro k ⟨hk, hkp⟩
    try simp only [List.cons_append, List.nil_append]
    by_cases hlt : k < n
    · obtain ⟨b, o, x, rfl, _, hx, c0⟩ := in_read hr hlt
      obtain ⟨b', o', y, rfl, _, hy, d0⟩ := in_read hr' hlt
      by_cases hxy : x = y
      · subst hxy
        repeat' (first | ((with_reducible apply oq_id); first | (focus ((with_reducible apply oq_indexAddrN); (iterate 4 exact rfl); omega)) | (apply oq_fn; exact rfl; try first | exact trivial | (and_intros <;> omega)) | ((with_reducible apply oq_load); exact rfl; exact rfl)) | ((with_reducible apply tl_id); first | (with_reducible apply tl_nil) | ((with_reducible apply u_q); (iterate 4 exact rfl))) | ((with_reducible apply gx_id); first | (with_reducible apply v_nil) | ((with_reducible apply v_q); (iterate 3 exact rfl))) | ((with_reducible apply rd_id); first | (apply Rd.old; (first | (with_reducible assumption) | exact c0 | exact c1 | exact c2 | exact c3 | exact c4 | exact c5 | exact c6 | exact c7 | exact c8 | exact d0 | exact d1 | exact d2 | exact d3 | exact d4 | exact d5); first | exact List.not_mem_nil | exact m0 | exact m1 | exact m2 | exact m3 | exact m4 | exact m5 | exact m6 | exact m7 | exact m8 | exact m9)) | ((with_reducible apply t_id); first | (with_reducible apply t_seq) | (apply t_region; kernel_rfl) | (apply t_drawn; kernel_rfl; decide +kernel; try simp only [List.append_eq, List.cons_append, List.nil_append]) | ((with_reducible apply t_condD); exact rfl; all_goals first | (intro hp; try (exfalso; omega)) | skip) | ((with_reducible apply t_condN); exact rfl; all_goals first | (intro hp; try (exfalso; omega)) | skip) | (with_reducible apply t_skip) | (with_reducible apply t_block)) | with_reducible apply q_thenN | with_reducible apply q_blockN)
        refine ⟨k + 1, ⟨by omega, fun j hj => ?_⟩, by omega, ?_, ?_⟩
        · rcases Nat.lt_or_ge j k with h | h
          · exact hkp j h
          · obtain rfl : j = k := by omega
            rw [hx, hy]
        · try simp only [List.cons_append, List.nil_append]
          (repeat' (first | exact FrSub.nil | (apply FrSub.cons; exact rfl)))
        · try simp only [List.cons_append, List.nil_append]
          (repeat' (first | exact HpSub.refl _))
      · repeat' (first | ((with_reducible apply oq_id); first | (focus ((with_reducible apply oq_indexAddrN); (iterate 4 exact rfl); omega)) | (apply oq_fn; exact rfl; try first | exact trivial | (and_intros <;> omega)) | ((with_reducible apply oq_load); exact rfl; exact rfl)) | ((with_reducible apply tl_id); first | (with_reducible apply tl_nil) | ((with_reducible apply u_q); (iterate 4 exact rfl))) | ((with_reducible apply gx_id); first | (with_reducible apply v_nil) | ((with_reducible apply v_q); (iterate 3 exact rfl))) | ((with_reducible apply rd_id); first | (apply Rd.old; (first | (with_reducible assumption) | exact c0 | exact c1 | exact c2 | exact c3 | exact c4 | exact c5 | exact c6 | exact c7 | exact c8 | exact d0 | exact d1 | exact d2 | exact d3 | exact d4 | exact d5); first | exact List.not_mem_nil | exact m0 | exact m1 | exact m2 | exact m3 | exact m4 | exact m5 | exact m6 | exact m7 | exact m8 | exact m9)) | ((with_reducible apply t_id); first | (with_reducible apply t_seq) | (apply t_region; kernel_rfl) | (apply t_drawn; kernel_rfl; decide +kernel; try simp only [List.append_eq, List.cons_append, List.nil_append]) | ((with_reducible apply t_condD); exact rfl; all_goals first | (intro hp; try (exfalso; omega)) | skip) | ((with_reducible apply t_condN); exact rfl; all_goals first | (intro hp; try (exfalso; omega)) | skip) | (with_reducible apply t_ret) | (with_reducible apply t_skip) | (with_reducible apply t_block)) | with_reducible apply q_thenN | with_reducible apply q_thenR | with_reducible apply q_blockR | (with_reducible apply end_ret) | exact rvs_nil | (with_reducible apply rvs_cons) | ((with_reducible apply rv_tmp); exact rfl))
        have hf : q = false := by
          cases q with
          | false => rfl
          | true =>
            have e := hq.1 rfl
            rw [e, hy] at hx
            exact absurd (Option.some.inj hx).symm hxy
        rw [hf]; rfl
    · repeat' (first | ((with_reducible apply oq_id); first | (apply oq_fn; exact rfl; try first | exact trivial | (and_intros <;> omega))) | ((with_reducible apply tl_id); first | (with_reducible apply tl_nil) | ((with_reducible apply u_q); (iterate 4 exact rfl))) | ((with_reducible apply t_id); first | (with_reducible apply t_seq) | (apply t_region; kernel_rfl) | ((with_reducible apply t_condD); exact rfl; all_goals first | (intro hp; try (exfalso; omega)) | skip) | (with_reducible apply t_ret) | (with_reducible apply t_exit)) | with_reducible apply q_thenN | with_reducible apply q_thenE | ((with_reducible apply q_blockE); exact rfl) | (with_reducible apply end_ret) | exact rvs_nil | (with_reducible apply rvs_cons) | ((with_reducible apply rv_tmp); exact rfl))
      have : q = true := hq.2 (List.ext_getElem? fun j => by
        rcases Nat.lt_or_ge j n with h | h
        · exact hkp j (by omega)
        · rw [List.getElem?_eq_none (by omega), List.getElem?_eq_none (by omega)])
      rw [this]; rfl
  · have : q = false := by
      cases q with
      | false => rfl
      | true => exact absurd (by rw [← hl, ← hl', hq.1 rfl]) hnn
    refine enterQ (c := cx w 26) Try.func32 rfl rfl rfl rfl ?_
    repeat' (first | ((with_reducible apply oq_id); first | (apply oq_fn; exact rfl; try first | exact trivial | (and_intros <;> omega))) | ((with_reducible apply tl_id); first | (with_reducible apply tl_nil) | ((with_reducible apply u_q); (iterate 4 exact rfl))) | ((with_reducible apply t_id); first | (with_reducible apply t_seq) | (apply t_region; kernel_rfl) | ((with_reducible apply t_condN); exact rfl; all_goals first | (intro hp; try (exfalso; omega)) | skip) | (with_reducible apply t_ret)) | with_reducible apply q_thenN | with_reducible apply q_thenR | (with_reducible apply end_ret) | exact rvs_nil | (with_reducible apply rvs_cons) | ((with_reducible apply rv_tmp); exact rfl))
    rw [this]
    all_goals rfl
theorem open_cap {H : Type} {enc : TypeId × Value → H} {r : Reach} {P : Program} {W : World} {held : Bool} {t e : TypeId} {A : Option Addr} {m c : Nat} {d : DataW H} {p : List MemPlace} (hs : P.underlying t = some (.slice e))
    (h : DataW.Trod enc P W 0 (fun _ => true) held t (.slice A m c) d p) : m ≤ c := by
  obtain ⟨fuel, hf⟩ := h
  rcases Go.Deep.open_slice hs hf with ⟨h1, _⟩ | ⟨a, len, cap, m', k, D, Pl, h1, _, hlc, _⟩
  · simp only [Value.cells, List.cons.injEq, Value.slice.injEq, and_true] at h1
    omega
  · simp only [Value.cells, List.cons.injEq, Value.slice.injEq, and_true] at h1
    omega
theorem eq_tri101 {w : World} {d : Nat} {a b e a' b' e' : Int} : (Op.equalIn (d + 2) 101 (.agg ⟨[.int .i64 a, .int .i64 b, .int .i64 e]⟩) (.agg ⟨[.int .i64 a', .int .i64 b', .int .i64 e']⟩)).run Try.prog w = .ok (decide (a = a') && (decide (b = b') && (decide (e = e') && true))) w := by
  rw [run_equalIn_struct w (d + 1) 101 _ _ (by kernel_rfl) (by kernel_rfl)]
  simp only [Program.fieldsOf, Try.underlying101]
  exact eqF_int rfl rfl rfl rfl rfl (eqF_int rfl rfl rfl rfl rfl (eqF_int rfl rfl rfl rfl rfl eqF_nil))
section
variable {w : World} {N : Nat} {F : Fr} {H : Hp} {M : List Nat} {d : Option Tmp} {ty t' : TypeId} {pos : String} {af : Array Edge} {g : Option (Nat × Bool)} {x y : Operand} {a b e a' b' e' : Int}
theorem oq_ne101 (hx : ev F x = some (.agg ⟨[.int .i64 a, .int .i64 b, .int .i64 e]⟩)) (hy : ev F y = some (.agg ⟨[.int .i64 a', .int .i64 b', .int .i64 e']⟩)) :
    OQ (cxM M w N) ⟨d, .binOp .neq 101 x y t', ty, pos, af, g⟩ F H (.bool (!decide (a = a' ∧ b = b' ∧ e = e'))) := oq_neS (by kernel_rfl) (fun w => by rw [eq_tri101 (d := 9998)]; congr 1; rw [Bool.eq_iff_iff]; simp) hx hy
theorem oq_ne101G (hx : ev F x = some (.agg ⟨[.int .i64 a, .int .i64 b, .int .i64 e]⟩)) (hy : ev F y = some (.agg ⟨[.int .i64 a, .int .i64 b, .int .i64 e]⟩)) : OQ (cxM M w N) ⟨d, .binOp .neq 101 x y t', ty, pos, af, g⟩ F H (.bool false) := (oq_ne101 hx hy).as (by simp)
end
theorem sameSh_calls (A B : Option Addr) (n c c' : Nat) (l : List Sh) (w : World) (hr : RdS w 3 A n (l.map shCells)) (hr' : RdS w 3 B n (l.map shCells)) (hn : n ≤ 1000000) :
    Calls Try.prog 49 #[.slice A n c, .slice B n c'] w fun e w' => e = .returned (.bool true) ∧ Ext w w' := by
  refine enterQ (c := cx w 26) Try.func49 rfl rfl rfl rfl ?_
  repeat' (first | ((with_reducible apply oq_id); first | ((with_reducible apply oq_neqF); exact rfl; exact rfl; omega) | (apply oq_fn; exact rfl; try first | exact trivial | (and_intros <;> omega))) | ((with_reducible apply tl_id); first | (with_reducible apply tl_nil) | ((with_reducible apply u_q); (iterate 4 exact rfl))) | ((with_reducible apply t_id); first | (with_reducible apply t_seq) | (apply t_region; kernel_rfl) | ((with_reducible apply t_condF); exact rfl) | (with_reducible apply t_skip) | (with_reducible apply t_block)) | with_reducible apply q_thenN)
  apply t_loopK (ι := Nat) [0, 1] (fun i => [(5, .int .i64 (i : Nat))]) (fun _ => []) (fun i => i ≤ n) (fun i => n - i) (0)
  (repeat (first | exact KeepF.nil | (apply KeepF.cons; exact rfl) | apply KeepF.skip))
  (repeat (first | exact FrSub.nil | (apply FrSub.cons; exact rfl)))
  (repeat (first | exact HpSub.refl _ | (apply HpSub.consE; (repeat (first | exact P0 | apply P1)); exact rfl) | exact HpSub.nil))
  · exact Nat.zero_le _
  rintro i hi
  try simp only [List.cons_append, List.nil_append]
  by_cases hlt : i < n
  · obtain ⟨b, o, x, rfl, _, hx, c0, c1, c2⟩ := sh_read hr hlt
    obtain ⟨b', o', x', rfl, _, hx', d0, d1, d2⟩ := sh_read hr' hlt
    rw [hx] at hx'
    cases hx'
    repeat' (first | ((with_reducible apply oq_id); first | (focus ((with_reducible apply oq_indexAddrN); (iterate 4 exact rfl); omega)) | ((with_reducible apply oq_ne101G); exact rfl; exact rfl) | ((with_reducible apply oq_lssT); exact rfl; exact rfl; omega) | (apply oq_fn; exact rfl; try first | exact trivial | (and_intros <;> omega)) | ((with_reducible apply oq_loadAgg); exact rfl; exact rfl)) | ((with_reducible apply tl_id); first | (with_reducible apply tl_nil) | ((with_reducible apply u_q); (iterate 4 exact rfl))) | ((with_reducible apply gx_id); first | (with_reducible apply v_nil) | ((with_reducible apply v_q); (iterate 3 exact rfl))) | ((with_reducible apply rd_id); first | (apply Rd.old; (first | exact c0 | exact c1 | exact c2 | exact d0 | exact d1 | exact d2); exact List.not_mem_nil)) | ((with_reducible apply t_id); first | (with_reducible apply t_seq) | (apply t_region; kernel_rfl) | (apply t_drawn; kernel_rfl; decide +kernel; try simp only [List.append_eq, List.cons_append, List.nil_append]) | ((with_reducible apply t_condT); exact rfl) | ((with_reducible apply t_condF); exact rfl) | (with_reducible apply t_skip) | (with_reducible apply t_block)) | with_reducible apply q_thenN | with_reducible apply q_blockN | exact Rdn.zero | apply Rdn.succ)
    all_goals (refine ⟨(i + 1), (by omega), (by omega), ?_, ?_⟩ <;> (try simp only [List.cons_append, List.nil_append]) <;> (repeat' (first | exact FrSub.nil | (apply FrSub.cons; exact rfl) | exact HpSub.refl _)))
  · repeat' (first | ((with_reducible apply oq_id); first | ((with_reducible apply oq_lssF); exact rfl; exact rfl; omega) | (apply oq_fn; exact rfl; try first | exact trivial | (and_intros <;> omega))) | ((with_reducible apply tl_id); first | (with_reducible apply tl_nil) | ((with_reducible apply u_q); (iterate 4 exact rfl))) | ((with_reducible apply t_id); first | (with_reducible apply t_seq) | (apply t_region; kernel_rfl) | ((with_reducible apply t_condF); exact rfl) | (with_reducible apply t_ret) | (with_reducible apply t_exit)) | with_reducible apply q_thenN | with_reducible apply q_thenE | ((with_reducible apply q_blockE); exact rfl) | (with_reducible apply end_ret) | exact rvs_nil | (with_reducible apply rvs_cons) | ((with_reducible apply rv_tmp); exact rfl))
    all_goals rfl
theorem great41_calls (A : Option Addr) (n c : Nat) (w : World) : Calls Try.prog 41 #[.slice A n c] w fun e w' => e = .returned (.bool (decide (50 < n))) ∧ Ext w w' := by
  by_cases h : 50 < n
  · rw [decide_eq_true h]
    refine enterQ (c := cx w 6) Try.func41 rfl rfl rfl rfl ?_
    repeat' (first | ((with_reducible apply oq_id); first | ((with_reducible apply oq_gtrT); exact rfl; exact rfl; omega) | (apply oq_fn; exact rfl; try first | exact trivial | (and_intros <;> omega))) | ((with_reducible apply tl_id); first | (with_reducible apply tl_nil) | ((with_reducible apply u_q); (iterate 4 exact rfl))) | ((with_reducible apply t_id); first | (with_reducible apply t_seq) | (apply t_region; kernel_rfl) | (with_reducible apply t_ret)) | with_reducible apply q_thenN | (with_reducible apply end_ret) | exact rvs_nil | (with_reducible apply rvs_cons) | ((with_reducible apply rv_tmp); exact rfl))
    all_goals rfl
  · rw [decide_eq_false h]
    refine enterQ (c := cx w 6) Try.func41 rfl rfl rfl rfl ?_
    repeat' (first | ((with_reducible apply oq_id); first | ((with_reducible apply oq_gtrF); exact rfl; exact rfl; omega) | (apply oq_fn; exact rfl; try first | exact trivial | (and_intros <;> omega))) | ((with_reducible apply tl_id); first | (with_reducible apply tl_nil) | ((with_reducible apply u_q); (iterate 4 exact rfl))) | ((with_reducible apply t_id); first | (with_reducible apply t_seq) | (apply t_region; kernel_rfl) | (with_reducible apply t_ret)) | with_reducible apply q_thenN | (with_reducible apply end_ret) | exact rvs_nil | (with_reducible apply rvs_cons) | ((with_reducible apply rv_tmp); exact rfl))
    all_goals rfl
theorem hp_skipApp {G R X : Hp} (h : HpSub R X) : HpSub (G ++ R) X := by
  induction G with
  | nil => exact h
  | cons x G ih => exact HpSub.skipX ih
theorem hp_appC {A H G : Hp} (h : HpSub H G) : HpSub (A ++ H) (A ++ G) := by
  induction A with
  | nil => exact h
  | cons x A ih => obtain ⟨b, C, g⟩ := x; exact HpSub.cons P0 ih
theorem trip_calls (x : Tr) (w : World) : Calls Try.prog 90 #[.agg #[.int .i64 x.fr, .int .i64 x.to, .int .i64 x.crew]] w fun e w' => e = .returned (.bool (decide (trOk x))) ∧ Ext w w' := by
  obtain ⟨q, hq⟩ : ∃ q, allFrom 0 2 [x.crew] = q := ⟨_, rfl⟩
  have hqe : q = true ↔ 0 ≤ x.crew ∧ x.crew ≤ 2 := by rw [← hq]; exact allFrom_one
  by_cases h1 : x.fr < 0
  · rw [decide_eq_false (fun h => by unfold trOk at h; omega)]
    refine enterQ (c := cx w 23) Try.func90 rfl rfl rfl rfl ?_
    repeat' (first | ((with_reducible apply oq_id); first | ((with_reducible apply oq_geqF); exact rfl; exact rfl; omega) | (apply oq_fn; exact rfl; try first | exact trivial | (and_intros <;> omega)) | ((with_reducible apply oq_load); exact rfl; exact rfl)) | ((with_reducible apply tl_id); first | (with_reducible apply tl_nil) | ((with_reducible apply u_q); (iterate 4 exact rfl)) | ((with_reducible apply u_s); (iterate 3 exact rfl)) | ((with_reducible apply u_skip); (iterate 3 exact rfl))) | ((with_reducible apply os_x); exact rfl) | ((with_reducible apply ox_boxAgg); exact rfl; intro _) | ((with_reducible apply rd_id); first | (apply Rd.own; (repeat (first | exact P0 | apply P1)); exact rfl; done)) | ((with_reducible apply t_id); first | (with_reducible apply t_seq) | (apply t_region; kernel_rfl) | (with_reducible apply t_ret)) | with_reducible apply q_thenN | (with_reducible apply end_ret) | exact rvs_nil | (with_reducible apply rvs_cons) | ((with_reducible apply rv_tmp); exact rfl))
    all_goals rfl
  by_cases h2 : x.to ≤ x.fr
  · rw [decide_eq_false (fun h => by unfold trOk at h; omega)]
    refine enterQ (c := cx w 23) Try.func90 rfl rfl rfl rfl ?_
    repeat' (first | ((with_reducible apply oq_id); first | ((with_reducible apply oq_geqT); exact rfl; exact rfl; omega) | ((with_reducible apply oq_gtrF); exact rfl; exact rfl; omega) | (apply oq_fn; exact rfl; try first | exact trivial | (and_intros <;> omega)) | ((with_reducible apply oq_load); exact rfl; exact rfl)) | ((with_reducible apply tl_id); first | (with_reducible apply tl_nil) | ((with_reducible apply u_q); (iterate 4 exact rfl)) | ((with_reducible apply u_s); (iterate 3 exact rfl)) | ((with_reducible apply u_skip); (iterate 3 exact rfl))) | ((with_reducible apply os_x); exact rfl) | ((with_reducible apply ox_boxAgg); exact rfl; intro _) | ((with_reducible apply rd_id); first | (apply Rd.own; (repeat (first | exact P0 | apply P1)); exact rfl; done)) | ((with_reducible apply t_id); first | (with_reducible apply t_seq) | (apply t_region; kernel_rfl) | (with_reducible apply t_ret)) | with_reducible apply q_thenN | (with_reducible apply end_ret) | exact rvs_nil | (with_reducible apply rvs_cons) | ((with_reducible apply rv_tmp); exact rfl))
    all_goals rfl
  by_cases h3 : 1000000 < x.to
  · rw [decide_eq_false (fun h => by unfold trOk at h; omega)]
    refine enterQ (c := cx w 23) Try.func90 rfl rfl rfl rfl ?_
    repeat' (first | ((with_reducible apply oq_id); first | ((with_reducible apply oq_geqT); exact rfl; exact rfl; omega) | ((with_reducible apply oq_gtrT); exact rfl; exact rfl; omega) | ((with_reducible apply oq_leqF); exact rfl; exact rfl; omega) | (apply oq_fn; exact rfl; try first | exact trivial | (and_intros <;> omega)) | ((with_reducible apply oq_load); exact rfl; exact rfl)) | ((with_reducible apply tl_id); first | (with_reducible apply tl_nil) | ((with_reducible apply u_q); (iterate 4 exact rfl)) | ((with_reducible apply u_s); (iterate 3 exact rfl)) | ((with_reducible apply u_skip); (iterate 3 exact rfl))) | ((with_reducible apply os_x); exact rfl) | ((with_reducible apply ox_boxAgg); exact rfl; intro _) | ((with_reducible apply rd_id); first | (apply Rd.own; (repeat (first | exact P0 | apply P1)); exact rfl; done)) | ((with_reducible apply t_id); first | (with_reducible apply t_seq) | (apply t_region; kernel_rfl) | (with_reducible apply t_ret)) | with_reducible apply q_thenN | (with_reducible apply end_ret) | exact rvs_nil | (with_reducible apply rvs_cons) | ((with_reducible apply rv_tmp); exact rfl))
    all_goals rfl
  cases q with
  | false =>
    rw [decide_eq_false (fun h => by unfold trOk at h; have := hqe.2 ⟨h.2.2.2.1, h.2.2.2.2⟩; cases this)]
    refine enterQ (c := cx w 23) Try.func90 rfl rfl rfl rfl ?_
    repeat' (first | ((with_reducible apply oq_id); first | ((with_reducible apply oq_geqT); exact rfl; exact rfl; omega) | ((with_reducible apply oq_gtrT); exact rfl; exact rfl; omega) | ((with_reducible apply oq_leqT); exact rfl; exact rfl; omega) | (apply oq_fn; exact rfl; try first | exact trivial | (and_intros <;> omega)) | ((with_reducible apply oq_load); exact rfl; exact rfl) | ((with_reducible apply oq_call (k := 66) (hc := Try.call66)); exact rfl; exact rfl; exact fun D w1 hw1 => withinQ hq w1)) | ((with_reducible apply tl_id); first | (with_reducible apply tl_nil) | ((with_reducible apply u_q); (iterate 4 exact rfl)) | ((with_reducible apply u_s); (iterate 3 exact rfl))) | ((with_reducible apply os_x); exact rfl) | ((with_reducible apply ox_boxAgg); exact rfl; intro _) | ((with_reducible apply rd_id); first | (apply Rd.own; (repeat (first | exact P0 | apply P1)); exact rfl; done)) | ((with_reducible apply t_id); first | (with_reducible apply t_seq) | (apply t_region; kernel_rfl) | (with_reducible apply t_ret)) | with_reducible apply q_thenN | (with_reducible apply end_ret) | exact rvs_nil | (with_reducible apply rvs_cons) | ((with_reducible apply rv_tmp); exact rfl))
    all_goals rfl
  | true =>
    rw [decide_eq_true (by have := hqe.1 rfl; unfold trOk; omega)]
    refine enterQ (c := cx w 23) Try.func90 rfl rfl rfl rfl ?_
    repeat' (first | ((with_reducible apply oq_id); first | ((with_reducible apply oq_geqT); exact rfl; exact rfl; omega) | ((with_reducible apply oq_gtrT); exact rfl; exact rfl; omega) | ((with_reducible apply oq_leqT); exact rfl; exact rfl; omega) | (apply oq_fn; exact rfl; try first | exact trivial | (and_intros <;> omega)) | ((with_reducible apply oq_load); exact rfl; exact rfl) | ((with_reducible apply oq_call (k := 66) (hc := Try.call66)); exact rfl; exact rfl; exact fun D w1 hw1 => withinQ hq w1)) | ((with_reducible apply tl_id); first | (with_reducible apply tl_nil) | ((with_reducible apply u_q); (iterate 4 exact rfl)) | ((with_reducible apply u_s); (iterate 3 exact rfl))) | ((with_reducible apply os_x); exact rfl) | ((with_reducible apply ox_boxAgg); exact rfl; intro _) | ((with_reducible apply rd_id); first | (apply Rd.own; (repeat (first | exact P0 | apply P1)); exact rfl; done)) | ((with_reducible apply t_id); first | (with_reducible apply t_seq) | (apply t_region; kernel_rfl) | (with_reducible apply t_ret)) | with_reducible apply q_thenN | (with_reducible apply end_ret) | exact rvs_nil | (with_reducible apply rvs_cons) | ((with_reducible apply rv_tmp); exact rfl))
    all_goals rfl
theorem rested_calls (d : Du) (hd : duB d) (A : Option Addr) (n c : Nat) (l : List Sh) (w : World) (hr : RdS w 3 A n (l.map shCells)) (hn : n ≤ 1000) : Calls Try.prog 115 #[.agg #[.int .i64 d.most, .int .i64 d.rest, .int .i64 d.win, .int .i64 d.sum], .slice A n c] w fun e w' => e = .returned (.bool (okB d l)) ∧ Ext w w' := by
  have HR := fun w1 h => refFits_calls A n c l w1 h (by omega)
  obtain ⟨T, hT⟩ : ∃ T, tiV d l = T := ⟨_, rfl⟩
  unfold okB
  rw [hT]
  by_cases hRos : Ros l
  · rw [decide_eq_true hRos] at HR ⊢
    simp only [Bool.true_and]
    by_cases h0 : T.length = 0
    · rw [show T.isEmpty = true by rw [List.isEmpty_iff]; exact List.length_eq_zero_iff.1 h0]
      refine enterQ (c := cx w 14) Try.func115 rfl rfl rfl rfl ?_
      repeat' (first | ((with_reducible apply oq_id); first | ((with_reducible apply oq_eqlT); exact rfl; exact rfl; omega) | (apply oq_fn; exact rfl; try first | exact trivial | (and_intros <;> omega)) | ((with_reducible apply oq_loadAgg); exact rfl; exact rfl) | ((with_reducible apply oq_call (k := 85) (hc := Try.call85)); exact rfl; exact rfl; exact fun D w1 hw1 => HR w1 (hr.ext hw1.ext.ext))) | ((with_reducible apply tl_id); first | (with_reducible apply tl_nil) | ((with_reducible apply u_s); (iterate 3 exact rfl); (with_reducible apply os_callF (PV := TiO T) (k := 83) (hc := Try.call83)); exact rfl; exact rfl; exact fun D w1 hw1 => (by rw [← hT]; exact refTired_T d hd A n c l w1 (hr.ext hw1.ext.ext) (by omega) hRos); rintro v H' ⟨x0, hx0, rfl, rfl⟩; (try simp only [List.append_nil])) | ((with_reducible apply u_q); (iterate 4 exact rfl)) | ((with_reducible apply u_s); (iterate 3 exact rfl))) | ((with_reducible apply os_x); exact rfl) | ((with_reducible apply ox_boxAgg); exact rfl; intro _) | ((with_reducible apply rd_id); first | (apply Rd.own; (repeat (first | exact P0 | apply P1)); exact rfl; done)) | ((with_reducible apply t_id); first | (with_reducible apply t_seq) | (apply t_region; kernel_rfl) | (with_reducible apply t_ret)) | with_reducible apply q_thenN | exact Rdn.zero | apply Rdn.succ | (with_reducible apply end_ret) | exact rvs_nil | (with_reducible apply rvs_cons) | ((with_reducible apply rv_tmp); exact rfl))
      all_goals rfl
    · rw [show T.isEmpty = false by cases T; exact absurd rfl h0; rfl]
      refine enterQ (c := cx w 14) Try.func115 rfl rfl rfl rfl ?_
      repeat' (first | ((with_reducible apply oq_id); first | ((with_reducible apply oq_eqlF); exact rfl; exact rfl; omega) | (apply oq_fn; exact rfl; try first | exact trivial | (and_intros <;> omega)) | ((with_reducible apply oq_loadAgg); exact rfl; exact rfl) | ((with_reducible apply oq_call (k := 85) (hc := Try.call85)); exact rfl; exact rfl; exact fun D w1 hw1 => HR w1 (hr.ext hw1.ext.ext))) | ((with_reducible apply tl_id); first | (with_reducible apply tl_nil) | ((with_reducible apply u_s); (iterate 3 exact rfl); (with_reducible apply os_callF (PV := TiO T) (k := 83) (hc := Try.call83)); exact rfl; exact rfl; exact fun D w1 hw1 => (by rw [← hT]; exact refTired_T d hd A n c l w1 (hr.ext hw1.ext.ext) (by omega) hRos); rintro v H' ⟨x0, hx0, rfl, rfl⟩; (try simp only [List.append_nil])) | ((with_reducible apply u_q); (iterate 4 exact rfl)) | ((with_reducible apply u_s); (iterate 3 exact rfl))) | ((with_reducible apply os_x); exact rfl) | ((with_reducible apply ox_boxAgg); exact rfl; intro _) | ((with_reducible apply rd_id); first | (apply Rd.own; (repeat (first | exact P0 | apply P1)); exact rfl; done)) | ((with_reducible apply t_id); first | (with_reducible apply t_seq) | (apply t_region; kernel_rfl) | (with_reducible apply t_ret)) | with_reducible apply q_thenN | exact Rdn.zero | apply Rdn.succ | (with_reducible apply end_ret) | exact rvs_nil | (with_reducible apply rvs_cons) | ((with_reducible apply rv_tmp); exact rfl))
      all_goals rfl
  · rw [decide_eq_false hRos] at HR ⊢
    simp only [Bool.false_and]
    refine enterQ (c := cx w 14) Try.func115 rfl rfl rfl rfl ?_
    repeat' (first | ((with_reducible apply oq_id); first | (apply oq_fn; exact rfl; try first | exact trivial | (and_intros <;> omega)) | ((with_reducible apply oq_call (k := 85) (hc := Try.call85)); exact rfl; exact rfl; exact fun D w1 hw1 => HR w1 (hr.ext hw1.ext.ext))) | ((with_reducible apply tl_id); first | (with_reducible apply tl_nil) | ((with_reducible apply u_q); (iterate 4 exact rfl)) | ((with_reducible apply u_s); (iterate 3 exact rfl)) | ((with_reducible apply u_skip); (iterate 3 exact rfl))) | ((with_reducible apply os_x); exact rfl) | ((with_reducible apply ox_boxAgg); exact rfl; intro _) | ((with_reducible apply t_id); first | (with_reducible apply t_seq) | (apply t_region; kernel_rfl) | (with_reducible apply t_ret)) | with_reducible apply q_thenN | (with_reducible apply end_ret) | exact rvs_nil | (with_reducible apply rvs_cons) | ((with_reducible apply rv_tmp); exact rfl))
    all_goals rfl
/-- A list of rows, as it is handed out. -/
def lisH : Option (Nat × Nat) → List Row → Hp
  | none, _ => []
  | some (g, c), R => (g, R.map rwV, some (41, 1, c)) :: rwsH R
def LisP (L : List (List Int)) (v : Value) (H : Hp) : Prop := ∃ o R, (∀ r ∈ R, LrOk r) ∧ R.map Prod.fst = L ∧ (o = none → L.length = 0) ∧ v = .slice (clA o) L.length (clC o) ∧ H = lisH o R
theorem hp_rot {x : Nat × List Value × Tg} {G : Hp} : HpSub (x :: G) (G ++ [x]) := hp_comm [x] G
theorem lis_snoc {bN cN b1 cc : Nat} {xs : List Int} {R : List Row} {y : Nat × List Value × Tg} : HpSub ((bN, R.map rwV ++ [.slice (some ⟨b1, 0, none⟩) xs.length cc], some (41, 1, cN)) :: y :: (b1, xs.map iv, some (3, 1, cc)) :: rwsH R) (lisH (some (bN, cN)) (R ++ [(xs, some (b1, cc))])) := by
  show HpSub _ ((bN, (R ++ [(xs, some (b1, cc))]).map rwV, some (41, 1, cN)) :: rwsH (R ++ [(xs, some (b1, cc))]))
  rw [rwsH_app, List.map_append]
  exact HpSub.front (HpSub.skipX hp_rot)
theorem rows_snoc {R : List Row} {xs : List Int} {b c : Nat} (h : ∀ r ∈ R, LrOk r) (hc : xs.length ≤ c) : ∀ r ∈ R ++ [(xs, some (b, c))], LrOk r := fun r hr => by
  rcases List.mem_append.1 hr with hr | hr
  · exact h r hr
  · obtain rfl := List.mem_singleton.1 hr
    exact ⟨fun h => (by cases h), hc⟩
/-- The teams that begin with the first people. -/
def teamsT (mem i : Nat) (k : Int) : List (List Int) := (List.range' 0 i).flatMap fun i : Nat => (if k = 1 then [[(i : Int)]] else []) ++ (if k = 2 then pairsL mem i else [])
theorem teamsT_next (mem i : Nat) (k : Int) : teamsT mem (i + 1) k = teamsT mem i k ++ ((if k = 1 then [[(i : Int)]] else []) ++ (if k = 2 then pairsL mem i else [])) := by
  unfold teamsT
  rw [List.range'_concat, List.flatMap_append]
  simp
def pairsT (i j : Nat) : List (List Int) := (List.range' (i + 1) (j - (i + 1))).map fun j : Nat => [(i : Int), (j : Int)]
theorem pairsT_next {i j : Nat} (h : i < j) : pairsT i (j + 1) = pairsT i j ++ [[(i : Int), (j : Int)]] := by
  unfold pairsT
  rw [show j + 1 - (i + 1) = (j - (i + 1)) + 1 by omega, List.range'_concat, List.map_append]
  simp only [List.map_cons, List.map_nil]
  rw [show i + 1 + 1 * (j - (i + 1)) = j by omega]
theorem pairsT_first (i : Nat) : pairsT i (i + 1) = [] := by unfold pairsT; simp
theorem teamsT_len (mem : Nat) (hm : mem ≤ 1000) (k : Int) : ∀ i, (teamsT mem i k).length ≤ i * 1001
  | 0 => Nat.zero_le _
  | i + 1 => by
    have h := teamsT_len mem hm k i
    rw [teamsT_next, List.length_append, List.length_append]
    have h1 : (if k = 1 then [[(i : Int)]] else []).length ≤ 1 := by split <;> simp
    have h2 : (if k = 2 then pairsL mem i else []).length ≤ 1000 := by
      split
      · unfold pairsL; simp; omega
      · simp
    omega
theorem pairsT_len (i j : Nat) : (pairsT i j).length ≤ j := by unfold pairsT; rw [List.length_map, List.length_range']; omega
theorem pairsT_all (mem i : Nat) : pairsT i mem = pairsL mem i := rfl
theorem teams_T (mem : Nat) (hm : mem ≤ 1000) (k : Int) (hk : 0 ≤ k ∧ k ≤ 2) (w : World) : Calls Try.prog 116 #[.int .i64 (mem : Nat), .int .i64 k] w fun e w' => ∃ v H', e = .returned v ∧ LisP (teamsL mem k) v H' ∧ Has w ⟨[], []⟩ H' w' := by
  unfold teamsL
  by_cases h0 : k = 0
  · rw [if_pos h0]
    refine enterF (c := cx w 41) Try.func116 rfl rfl rfl rfl ?_
    repeat' (first | ((with_reducible apply oq_id); first | ((with_reducible apply oq_eqlT); exact rfl; exact rfl; omega) | (apply oq_fn; exact rfl; try first | exact trivial | (and_intros <;> omega))) | ((with_reducible apply tl_id); first | (with_reducible apply tl_nil) | ((with_reducible apply u_q); (iterate 4 exact rfl)) | ((with_reducible apply u_s); (iterate 3 exact rfl))) | ((with_reducible apply os_x); exact rfl) | ((with_reducible apply ox_buildSlice1); (iterate 6 exact rfl); intro _) | ((with_reducible apply t_id); first | (with_reducible apply t_seq) | (apply t_region; kernel_rfl) | ((with_reducible apply t_condT); exact rfl) | (with_reducible apply t_ret)) | with_reducible apply q_thenN | with_reducible apply q_thenR | (with_reducible apply end_ret) | exact rvs_nil | (with_reducible apply rvs_cons) | ((with_reducible apply rv_tmp); exact rfl))
    all_goals exact ⟨_, ⟨some (_, 1), [([], none)], fun r hr => (by obtain rfl := List.mem_singleton.1 hr; exact ⟨fun _ => rfl, Nat.le_refl _⟩), rfl, fun h => (by cases h), rfl, rfl⟩, HpSub.refl _⟩
  rw [if_neg h0]
  show Calls _ _ _ _ fun e w' => ∃ v H', e = .returned v ∧ LisP (teamsT mem mem k) v H' ∧ Has w ⟨[], []⟩ H' w'
  refine enterF (c := cx w 41) Try.func116 rfl rfl rfl rfl ?_
  repeat' (first | ((with_reducible apply oq_id); first | ((with_reducible apply oq_eqlF); exact rfl; exact rfl; omega) | (apply oq_fn; exact rfl; try first | exact trivial | (and_intros <;> omega))) | ((with_reducible apply tl_id); first | (with_reducible apply tl_nil) | ((with_reducible apply u_q); (iterate 4 exact rfl))) | ((with_reducible apply t_id); first | (with_reducible apply t_seq) | (apply t_region; kernel_rfl) | ((with_reducible apply t_condF); exact rfl) | (with_reducible apply t_skip) | (with_reducible apply t_block)) | with_reducible apply q_thenN)
  apply t_loopK (GH := []) (ι := Nat × Option (Nat × Nat) × List Row) [0, 1] (fun z => [(6, .int .i64 (z.1 : Nat)), (5, .slice (clA z.2.1) z.2.2.length (clC z.2.1))]) (fun z => lisH z.2.1 z.2.2) (fun z => z.1 ≤ mem ∧ (∀ r ∈ z.2.2, LrOk r) ∧ z.2.2.map Prod.fst = teamsT mem z.1 k ∧ (z.2.1 = none → z.2.2 = [])) (fun z => mem - z.1) ((0, none, []))
  (repeat (first | exact KeepF.nil | (apply KeepF.cons; exact rfl) | apply KeepF.skip))
  (repeat (first | exact FrSub.nil | (apply FrSub.cons; exact rfl)))
  ((try simp only [List.append_nil]); (repeat (first | exact HpSub.refl _ | (apply HpSub.consE; (repeat (first | exact P0 | apply P1 | apply PA)); exact rfl) | apply hp_appC | apply HpSub.skipX | exact hp_left | apply hp_skipApp | exact HpSub.nil)))
  · exact ⟨Nat.zero_le _, fun r hr => (by cases hr), rfl, fun _ => rfl⟩
  rintro ⟨i, o, R⟩ ⟨hi, hok, hR, ho⟩
  simp only at hi hok hR ho
  try simp only [List.cons_append, List.nil_append]
  simp only [List.append_nil]
  have hRl : R.length ≤ 1100000 := by
    have e := congrArg List.length hR
    rw [List.length_map] at e
    have := teamsT_len mem hm k i
    omega
  by_cases hlt : i < mem
  · by_cases h1 : k = 1
    · have hn := teamsT_next mem i k
      rw [if_pos h1, if_neg (by omega), List.append_nil, ← hR] at hn
      rcases o with _ | ⟨g, c⟩
      · obtain rfl := ho rfl
        simp only [clA, clC, lisH, List.length_nil]
        repeat' (first | ((with_reducible apply oq_id); first | ((with_reducible apply oq_addE (k := ((i + 1 : Nat) : Int))); exact rfl; exact rfl; omega) | ((with_reducible apply oq_lssT); exact rfl; exact rfl; omega) | ((with_reducible apply oq_eqlT); exact rfl; exact rfl; omega) | (apply oq_fn; exact rfl; try first | exact trivial | (and_intros <;> omega))) | ((with_reducible apply tl_id); first | (with_reducible apply tl_nil) | ((with_reducible apply u_q); (iterate 4 exact rfl)) | ((with_reducible apply u_s); (iterate 3 exact rfl))) | ((with_reducible apply os_id); first | ((with_reducible apply os_x); exact rfl) | ((with_reducible apply os_appendNil (hk := app_ok90)); exact rfl; exact rfl)) | ((with_reducible apply ox_buildSlice1); (iterate 6 exact rfl); intro _) | ((with_reducible apply rd_id); first | (apply Rd.own; (repeat (first | exact P0 | apply P1)); exact rfl; done)) | ((with_reducible apply t_id); first | (with_reducible apply t_seq) | (apply t_region; kernel_rfl) | ((with_reducible apply t_condT); exact rfl) | (with_reducible apply t_skip) | (with_reducible apply t_block)) | with_reducible apply q_thenN | exact Rdn.zero | apply Rdn.succ | (intro gN cN; with_reducible apply tl_id) | exact Nat.le_of_ble_eq_true rfl | exact (rfl : (_ : Bool) = true))
        rename_i b1 b2
        apply t_loopK (GH := []) (ι := Unit) [0, 1, 5, 6] (fun _ => [(7, .int .i64 ((i + 1 : Nat) : Int))]) (fun _ => lisH (some (gN, cN)) ([] ++ [([(i : Int)], some (b1, 1))])) (fun _ => True) (fun _ => 0) (())
        (repeat (first | exact KeepF.nil | (apply KeepF.cons; exact rfl) | apply KeepF.skip))
        (repeat (first | exact FrSub.nil | (apply FrSub.cons; exact rfl)))
        ((try simp only [List.append_nil]); first | exact lis_snoc (xs := [(i : Int)]) | exact lis_snoc (R := []) (xs := [(i : Int)]) | exact HpSub.refl _)
        · trivial
        rintro ⟨⟩ -
        try simp only [List.cons_append, List.nil_append]
        try simp only [List.append_nil]
        repeat' (first | ((with_reducible apply oq_id); first | ((with_reducible apply oq_addE (k := ((i + 1 : Nat) : Int))); exact rfl; exact rfl; omega) | ((with_reducible apply oq_eqlF); exact rfl; exact rfl; omega) | (apply oq_fn; exact rfl; try first | exact trivial | (and_intros <;> omega))) | ((with_reducible apply tl_id); first | (with_reducible apply tl_nil) | ((with_reducible apply u_q); (iterate 4 exact rfl)) | ((with_reducible apply u_skip); (iterate 3 exact rfl)) | ((with_reducible apply u_splitD); exact rfl; exact rfl; all_goals first | (intro hp; try (exfalso; omega)) | skip)) | ((with_reducible apply t_id); first | (with_reducible apply t_seq) | (apply t_region; kernel_rfl) | ((with_reducible apply t_condF); exact rfl) | (with_reducible apply t_exit)) | with_reducible apply q_thenN | with_reducible apply q_blockN | with_reducible apply q_thenE | ((with_reducible apply q_blockE); exact rfl))
        all_goals (refine ⟨(i + 1, some (gN, cN), [] ++ [([(i : Int)], some (b1, 1))]), ⟨(by simp only; omega), rows_snoc hok (by simp), (by simp only [List.map_append]; rw [hn]; rfl), fun h => (by cases h)⟩, (by simp only; omega), ?_, ?_⟩)
        all_goals first
          | ((try simp only [List.cons_append, List.nil_append]); (repeat (first | exact FrSub.nil | (apply FrSub.cons; exact rfl) | (apply FrSub.consE; exact rfl; (focus (simp [clA, clC]; done))))); done)
          | exact HpSub.refl _
          | ((try simp only [List.cons_append, List.nil_append]); (repeat (first | exact HpSub.refl _ | (apply HpSub.consE; (repeat (first | exact P0 | apply P1 | apply PA)); exact rfl) | apply hp_appC | apply HpSub.skipX | exact hp_left | apply hp_skipApp | exact HpSub.nil)); done)
      · simp only [clA, clC, lisH]
        repeat' (first | ((with_reducible apply oq_id); first | ((with_reducible apply oq_addE (k := ((i + 1 : Nat) : Int))); exact rfl; exact rfl; omega) | ((with_reducible apply oq_lssT); exact rfl; exact rfl; omega) | ((with_reducible apply oq_eqlT); exact rfl; exact rfl; omega) | (apply oq_fn; exact rfl; try first | exact trivial | (and_intros <;> omega))) | ((with_reducible apply tl_id); first | (with_reducible apply tl_nil) | ((with_reducible apply u_q); (iterate 4 exact rfl)) | ((with_reducible apply u_s); (iterate 3 exact rfl))) | ((with_reducible apply os_id); first | ((with_reducible apply os_x); exact rfl) | ((with_reducible apply os_append (hk := app_ok90)); exact rfl; exact rfl; (repeat (first | exact P0 | apply P1)))) | ((with_reducible apply ox_buildSlice1); (iterate 6 exact rfl); intro _) | ((with_reducible apply rd_id); first | (apply Rd.own; (repeat (first | exact P0 | apply P1)); exact rfl; done)) | ((with_reducible apply t_id); first | (with_reducible apply t_seq) | (apply t_region; kernel_rfl) | ((with_reducible apply t_condT); exact rfl) | (with_reducible apply t_skip) | (with_reducible apply t_block)) | with_reducible apply q_thenN | exact Rdn.zero | apply Rdn.succ | (simp only [List.length_map, Nat.mul_one]; done) | (intro gN cN; with_reducible apply tl_id) | exact Nat.le_of_ble_eq_true rfl | exact (rfl : (_ : Bool) = true) | omega)
        rename_i b1 b2
        apply t_loopK (GH := []) (ι := Unit) [0, 1, 5, 6] (fun _ => [(7, .int .i64 ((i + 1 : Nat) : Int))]) (fun _ => lisH (some (gN, cN)) (R ++ [([(i : Int)], some (b1, 1))])) (fun _ => True) (fun _ => 0) (())
        (repeat (first | exact KeepF.nil | (apply KeepF.cons; exact rfl) | apply KeepF.skip))
        (repeat (first | exact FrSub.nil | (apply FrSub.cons; exact rfl)))
        ((try simp only [List.append_nil]); first | exact lis_snoc (xs := [(i : Int)]) | exact lis_snoc (R := []) (xs := [(i : Int)]) | exact HpSub.refl _)
        · trivial
        rintro ⟨⟩ -
        try simp only [List.cons_append, List.nil_append]
        try simp only [List.append_nil]
        repeat' (first | ((with_reducible apply oq_id); first | ((with_reducible apply oq_addE (k := ((i + 1 : Nat) : Int))); exact rfl; exact rfl; omega) | ((with_reducible apply oq_eqlF); exact rfl; exact rfl; omega) | (apply oq_fn; exact rfl; try first | exact trivial | (and_intros <;> omega))) | ((with_reducible apply tl_id); first | (with_reducible apply tl_nil) | ((with_reducible apply u_q); (iterate 4 exact rfl)) | ((with_reducible apply u_skip); (iterate 3 exact rfl)) | ((with_reducible apply u_splitD); exact rfl; exact rfl; all_goals first | (intro hp; try (exfalso; omega)) | skip)) | ((with_reducible apply t_id); first | (with_reducible apply t_seq) | (apply t_region; kernel_rfl) | ((with_reducible apply t_condF); exact rfl) | (with_reducible apply t_exit)) | with_reducible apply q_thenN | with_reducible apply q_blockN | with_reducible apply q_thenE | ((with_reducible apply q_blockE); exact rfl))
        all_goals (refine ⟨(i + 1, some (gN, cN), R ++ [([(i : Int)], some (b1, 1))]), ⟨(by simp only; omega), rows_snoc hok (by simp), (by simp only [List.map_append]; rw [hn]; rfl), fun h => (by cases h)⟩, (by simp only; omega), ?_, ?_⟩)
        all_goals first
          | ((try simp only [List.cons_append, List.nil_append]); (repeat (first | exact FrSub.nil | (apply FrSub.cons; exact rfl) | (apply FrSub.consE; exact rfl; (focus (simp [clA, clC]; done))))); done)
          | exact HpSub.refl _
          | ((try simp only [List.cons_append, List.nil_append]); (repeat (first | exact HpSub.refl _ | (apply HpSub.consE; (repeat (first | exact P0 | apply P1 | apply PA)); exact rfl) | apply hp_appC | apply HpSub.skipX | exact hp_left | apply hp_skipApp | exact HpSub.nil)); done)
    · have hn := teamsT_next mem i k
      rw [if_neg h1, if_pos (by omega), List.nil_append] at hn
      repeat' (first | ((with_reducible apply oq_id); first | ((with_reducible apply oq_addE (k := ((i + 1 : Nat) : Int))); exact rfl; exact rfl; omega) | ((with_reducible apply oq_lssT); exact rfl; exact rfl; omega) | ((with_reducible apply oq_eqlF); exact rfl; exact rfl; omega) | (apply oq_fn; exact rfl; try first | exact trivial | (and_intros <;> omega))) | ((with_reducible apply tl_id); first | (with_reducible apply tl_nil) | ((with_reducible apply u_q); (iterate 4 exact rfl))) | ((with_reducible apply t_id); first | (with_reducible apply t_seq) | (apply t_region; kernel_rfl) | ((with_reducible apply t_condT); exact rfl) | ((with_reducible apply t_condF); exact rfl) | (with_reducible apply t_skip) | (with_reducible apply t_block)) | with_reducible apply q_thenN)
      apply t_loopK (GH := []) (ι := Nat × Option (Nat × Nat) × List Row) [0, 1, 6] (fun z => [(7, .int .i64 (z.1 : Nat)), (5, .slice (clA z.2.1) z.2.2.length (clC z.2.1))]) (fun z => lisH z.2.1 z.2.2) (fun z => (i < z.1 ∧ z.1 ≤ mem) ∧ (∀ r ∈ z.2.2, LrOk r) ∧ z.2.2.map Prod.fst = teamsT mem i k ++ pairsT i z.1 ∧ (z.2.1 = none → z.2.2 = [])) (fun z => mem - z.1) ((i + 1, o, R))
      (repeat (first | exact KeepF.nil | (apply KeepF.cons; exact rfl) | apply KeepF.skip))
      (repeat (first | exact FrSub.nil | (apply FrSub.cons; exact rfl)))
      ((try simp only [List.append_nil]); (repeat (first | exact HpSub.refl _ | (apply HpSub.consE; (repeat (first | exact P0 | apply P1 | apply PA)); exact rfl) | apply hp_appC | apply HpSub.skipX | exact hp_left | apply hp_skipApp | exact HpSub.nil)))
      · exact ⟨⟨by omega, by omega⟩, hok, by simp only [pairsT_first, List.append_nil]; exact hR, ho⟩
      rintro ⟨j, o2, R2⟩ ⟨⟨hj1, hj2⟩, hok2, hR2, ho2⟩
      simp only at hj1 hj2 hok2 hR2 ho2
      try simp only [List.cons_append, List.nil_append]
      try simp only [List.append_nil]
      have hRl : R2.length ≤ 1100000 := by
        have e := congrArg List.length hR2
        rw [List.length_map, List.length_append] at e
        have := teamsT_len mem hm k i
        have := pairsT_len i j
        omega
      by_cases hjl : j < mem
      · have hp := pairsT_next hj1
        rcases o2 with _ | ⟨g, c⟩
        · obtain rfl := ho2 rfl
          simp only [clA, clC, lisH, List.length_nil]
          repeat' (first | ((with_reducible apply oq_id); first | ((with_reducible apply oq_addE (k := ((j + 1 : Nat) : Int))); exact rfl; exact rfl; omega) | ((with_reducible apply oq_lssT); exact rfl; exact rfl; omega) | ((with_reducible apply oq_eqlT); exact rfl; exact rfl; omega) | (apply oq_fn; exact rfl; try first | exact trivial | (and_intros <;> omega))) | ((with_reducible apply tl_id); first | (with_reducible apply tl_nil) | ((with_reducible apply u_q); (iterate 4 exact rfl)) | ((with_reducible apply u_s); (iterate 3 exact rfl))) | ((with_reducible apply os_id); first | ((with_reducible apply os_x); exact rfl) | ((with_reducible apply os_appendNil (hk := app_ok90)); exact rfl; exact rfl)) | ((with_reducible apply ox_buildSlice1); (iterate 6 exact rfl); intro _) | ((with_reducible apply rd_id); first | (apply Rd.own; (repeat (first | exact P0 | apply P1)); exact rfl; done)) | ((with_reducible apply t_id); first | (with_reducible apply t_seq) | (apply t_region; kernel_rfl) | ((with_reducible apply t_condT); exact rfl) | (with_reducible apply t_skip) | (with_reducible apply t_block)) | with_reducible apply q_thenN | with_reducible apply q_blockN | exact Rdn.zero | apply Rdn.succ | (intro gN cN; with_reducible apply tl_id) | exact Nat.le_of_ble_eq_true rfl | exact (rfl : (_ : Bool) = true))
          rename_i b1 b2
          all_goals (refine ⟨(j + 1, some (gN, cN), [] ++ [([(i : Int), (j : Int)], some (b1, 2))]), ⟨⟨(by simp only; omega), (by simp only; omega)⟩, rows_snoc hok2 (by simp), (by simp only [List.map_append]; rw [hp, ← List.append_assoc, ← hR2]; rfl), fun h => (by cases h)⟩, (by simp only; omega), ?_, ?_⟩)
          all_goals first
            | ((try simp only [List.cons_append, List.nil_append]); (repeat (first | exact FrSub.nil | (apply FrSub.cons; exact rfl) | (apply FrSub.consE; exact rfl; (focus (simp [clA, clC]; done))))); done)
            | exact lis_snoc (R := []) (xs := [(i : Int), (j : Int)])
        · simp only [clA, clC, lisH]
          repeat' (first | ((with_reducible apply oq_id); first | ((with_reducible apply oq_addE (k := ((j + 1 : Nat) : Int))); exact rfl; exact rfl; omega) | ((with_reducible apply oq_lssT); exact rfl; exact rfl; omega) | ((with_reducible apply oq_eqlT); exact rfl; exact rfl; omega) | (apply oq_fn; exact rfl; try first | exact trivial | (and_intros <;> omega))) | ((with_reducible apply tl_id); first | (with_reducible apply tl_nil) | ((with_reducible apply u_q); (iterate 4 exact rfl)) | ((with_reducible apply u_s); (iterate 3 exact rfl))) | ((with_reducible apply os_id); first | ((with_reducible apply os_x); exact rfl) | ((with_reducible apply os_append (hk := app_ok90)); exact rfl; exact rfl; (repeat (first | exact P0 | apply P1)))) | ((with_reducible apply ox_buildSlice1); (iterate 6 exact rfl); intro _) | ((with_reducible apply rd_id); first | (apply Rd.own; (repeat (first | exact P0 | apply P1)); exact rfl; done)) | ((with_reducible apply t_id); first | (with_reducible apply t_seq) | (apply t_region; kernel_rfl) | ((with_reducible apply t_condT); exact rfl) | (with_reducible apply t_skip) | (with_reducible apply t_block)) | with_reducible apply q_thenN | with_reducible apply q_blockN | exact Rdn.zero | apply Rdn.succ | (simp only [List.length_map, Nat.mul_one]; done) | (intro gN cN; with_reducible apply tl_id) | exact Nat.le_of_ble_eq_true rfl | exact (rfl : (_ : Bool) = true) | omega)
          rename_i b1 b2
          all_goals (refine ⟨(j + 1, some (gN, cN), R2 ++ [([(i : Int), (j : Int)], some (b1, 2))]), ⟨⟨(by simp only; omega), (by simp only; omega)⟩, rows_snoc hok2 (by simp), (by simp only [List.map_append]; rw [hp, ← List.append_assoc, ← hR2]; rfl), fun h => (by cases h)⟩, (by simp only; omega), ?_, ?_⟩)
          all_goals first
            | ((try simp only [List.cons_append, List.nil_append]); (repeat (first | exact FrSub.nil | (apply FrSub.cons; exact rfl) | (apply FrSub.consE; exact rfl; (focus (simp [clA, clC]; done))))); done)
            | exact lis_snoc (xs := [(i : Int), (j : Int)])
      · obtain rfl : j = mem := by omega
        repeat' (first | ((with_reducible apply oq_id); first | ((with_reducible apply oq_addE (k := ((i + 1 : Nat) : Int))); exact rfl; exact rfl; omega) | ((with_reducible apply oq_lssF); exact rfl; exact rfl; omega) | (apply oq_fn; exact rfl; try first | exact trivial | (and_intros <;> omega))) | ((with_reducible apply tl_id); first | (with_reducible apply tl_nil) | ((with_reducible apply u_q); (iterate 4 exact rfl)) | ((with_reducible apply u_skip); (iterate 3 exact rfl))) | ((with_reducible apply t_id); first | (with_reducible apply t_seq) | (apply t_region; kernel_rfl) | ((with_reducible apply t_condF); exact rfl) | (with_reducible apply t_exit)) | with_reducible apply q_thenN | with_reducible apply q_blockN | with_reducible apply q_thenE | ((with_reducible apply q_blockE); exact rfl))
        all_goals (refine ⟨(i + 1, o2, R2), ⟨(by simp only; omega), hok2, (by simp only; rw [hn, hR2, pairsT_all]), ho2⟩, (by simp only; omega), ?_, ?_⟩)
        all_goals first
          | ((try simp only [List.cons_append, List.nil_append]); (repeat (first | exact FrSub.nil | (apply FrSub.cons; exact rfl))); done)
          | exact HpSub.refl _
          | ((try simp only [List.cons_append, List.nil_append]); (repeat (first | exact HpSub.refl _ | (apply HpSub.consE; (repeat (first | exact P0 | apply P1 | apply PA)); exact rfl) | apply hp_appC | apply HpSub.skipX | exact hp_left | apply hp_skipApp | exact HpSub.nil)); done)
  · obtain rfl : i = mem := by omega
    repeat' (first | ((with_reducible apply oq_id); first | ((with_reducible apply oq_lssF); exact rfl; exact rfl; omega) | (apply oq_fn; exact rfl; try first | exact trivial | (and_intros <;> omega))) | ((with_reducible apply tl_id); first | (with_reducible apply tl_nil) | ((with_reducible apply u_q); (iterate 4 exact rfl))) | ((with_reducible apply t_id); first | (with_reducible apply t_seq) | (apply t_region; kernel_rfl) | ((with_reducible apply t_condF); exact rfl) | (with_reducible apply t_ret) | (with_reducible apply t_exit)) | with_reducible apply q_thenN | with_reducible apply q_thenE | ((with_reducible apply q_blockE); exact rfl) | (with_reducible apply end_ret) | exact rvs_nil | (with_reducible apply rvs_cons) | ((with_reducible apply rv_tmp); exact rfl))
    all_goals exact ⟨_, ⟨o, R, hok, hR, fun h => (by rw [← hR, ho h]; rfl), (by rw [← hR, List.length_map]; rfl), rfl⟩, HpSub.refl _⟩
theorem added_T (A : Option Addr) (n c : Nat) (l : List Sh) (x : Tr) (B : Option Addr) (m cB : Nat) (xs : List Int) (w : World) (hr : RdS w 3 A n (l.map shCells)) (hrx : RdS w 1 B m (xs.map inCells)) (hn : n ≤ 1000000) (hm : m ≤ 1000000) :
    Calls Try.prog 117 #[.slice A n c, .agg #[.int .i64 x.fr, .int .i64 x.to, .int .i64 x.crew], .slice B m cB] w fun e w' => ∃ v H', e = .returned v ∧ OwnS (shB (l ++ shR x xs)) (n + m) v H' ∧ Has w ⟨[], []⟩ H' w' := by
  have hl := hr.len
  simp only [List.length_map] at hl
  have hlx := hrx.len
  simp only [List.length_map] at hlx
  refine enterF (c := cx w 31) Try.func117 rfl rfl rfl rfl ?_
  refine t_cut (ι := Nat) (fun z => [(0, .slice A n c), (2, .slice B m cB), (4, .pointer (some ⟨z, 0, none⟩))]) (fun z => [(z, [.int .i64 x.fr, .int .i64 x.to, .int .i64 x.crew], some (114, 3, 1))]) (fun _ => True) ?_ ?_
  · repeat' (first | ((with_reducible apply oq_id); first | (apply oq_fn; exact rfl; try first | exact trivial | (and_intros <;> omega))) | ((with_reducible apply tl_id); first | (with_reducible apply tl_nil) | ((with_reducible apply u_q); (iterate 4 exact rfl)) | ((with_reducible apply u_s); (iterate 3 exact rfl))) | ((with_reducible apply os_x); exact rfl) | ((with_reducible apply ox_boxAgg); exact rfl; intro _) | ((with_reducible apply t_id); first | (apply t_region; kernel_rfl)))
    all_goals exact ⟨rfl, _, trivial, by (repeat (first | exact FrSub.nil | (apply FrSub.cons; exact rfl))), by (repeat (first | exact HpSub.refl _ | (apply HpSub.consE; (repeat (first | exact P0 | apply P1 | apply PA)); exact rfl) | apply hp_appC | apply HpSub.skipX | exact hp_left | apply hp_skipApp | exact HpSub.nil))⟩
  rintro b4 -
  try dsimp only
  refine t_cut (ι := Nat × Nat) (fun z => [(0, .slice A n c), (2, .slice B m cB), (4, .pointer (some ⟨b4, 0, none⟩)), (7, .slice (some ⟨z.1, 0, none⟩) (n + 0) z.2)]) (fun z => (z.1, shB (l ++ shR x (xs.take 0)), some (101, 3, z.2)) :: [(b4, [.int .i64 x.fr, .int .i64 x.to, .int .i64 x.crew], some (114, 3, 1))]) (fun _ => True) ?_ ?_
  · repeat' (first | ((with_reducible apply oq_id); first | (apply oq_fn; exact rfl; try first | exact trivial | (and_intros <;> omega))) | ((with_reducible apply tl_id); first | (with_reducible apply tl_nil) | ((with_reducible apply u_s); (iterate 3 exact rfl); (with_reducible apply os_appendRows (hk := app_ok75) (rows := l.map shCells) (hr := fun D w1 hw1 => hr.ext hw1.ext.ext)); exact rfl; exact rfl; (repeat (first | exact P0 | apply P1)); exact sh_len l; exact rfl; exact sh_one l; exact Nat.le_refl _; omega; omega; intro gN cN; (simp only [Nat.zero_add, List.nil_append])) | ((with_reducible apply u_q); (iterate 4 exact rfl)) | ((with_reducible apply u_s); (iterate 3 exact rfl))) | ((with_reducible apply os_x); exact rfl) | ((with_reducible apply ox_buildSlice); (iterate 4 exact rfl)) | ((with_reducible apply t_id); first | (apply t_region; kernel_rfl)) | ((with_reducible apply Norm.nil); exact rfl) | exact (rfl : (_ : Bool) = true) | (intro _; with_reducible apply tl_id))
    all_goals refine ⟨by trivial, (gN, cN), trivial, ?_, ?_⟩
    all_goals first
      | ((repeat (first | exact FrSub.nil | (apply FrSub.cons; exact rfl) | (apply FrSub.consE; exact rfl; (focus (simp [shR, hl]; done))))); done)
      | ((repeat (first | exact HpSub.refl _ | (apply HpSub.consE; (repeat (first | exact P0 | apply P1 | apply PA)); first | exact rfl | (focus (simp [shB, shR]; done))) | apply hp_appC | apply HpSub.skipX | exact hp_left | apply hp_skipApp | exact HpSub.nil)); done)
  rintro ⟨gB, cG⟩ -
  try dsimp only
  repeat' (first | ((with_reducible apply oq_id); first | (apply oq_fn; exact rfl; try first | exact trivial | (and_intros <;> omega))) | ((with_reducible apply tl_id); first | (with_reducible apply tl_nil) | ((with_reducible apply u_q); (iterate 4 exact rfl))) | ((with_reducible apply t_id); first | (with_reducible apply t_seq) | (apply t_region; kernel_rfl) | (with_reducible apply t_block)) | with_reducible apply q_thenN)
  apply t_loopK (GH := []) (ι := Nat × Nat × Nat) [2, 4] (fun z => [(8, .int .i64 (z.1 : Nat)), (7, .slice (some ⟨z.2.1, 0, none⟩) (n + z.1) z.2.2)]) (fun z => (z.2.1, shB (l ++ shR x (xs.take z.1)), some (101, 3, z.2.2)) :: [(b4, [.int .i64 x.fr, .int .i64 x.to, .int .i64 x.crew], some (114, 3, 1))]) (fun z => z.1 ≤ m) (fun z => m - z.1) ((0, gB, cG))
  (repeat (first | exact KeepF.nil | (apply KeepF.cons; exact rfl) | apply KeepF.skip))
  (repeat (first | exact FrSub.nil | (apply FrSub.cons; exact rfl)))
  ((try simp only [List.append_nil]); (repeat (first | exact HpSub.refl _ | (apply HpSub.consE; (repeat (first | exact P0 | apply P1 | apply PA)); exact rfl) | apply hp_appC | apply HpSub.skipX | exact hp_left | apply hp_skipApp | exact HpSub.nil)))
  · exact Nat.zero_le _
  rintro ⟨i, gB, cG⟩ hi
  simp only at hi
  try simp only [List.cons_append, List.nil_append]
  try simp only [List.append_nil]
  by_cases hlt : i < m
  · obtain ⟨b, o, p, rfl, _, hp, c0⟩ := in_read hrx hlt
    have hst : l ++ shR x (xs.take (i + 1)) = (l ++ shR x (xs.take i)) ++ [⟨p, x.fr, x.to⟩] := by rw [List.take_add_one, hp]; simp [shR]
    have hQl : (l ++ shR x (xs.take i)).length = n + i := by rw [List.length_append, shR_len, List.length_take, hl]; omega
    obtain ⟨Q, hQ⟩ : ∃ Q, l ++ shR x (xs.take i) = Q := ⟨_, rfl⟩
    rw [hQ] at hst hQl ⊢
    have hfl : (shB Q).length = (n + i) * 3 := by rw [sh_flat_len, hQl]
    repeat' (first | ((with_reducible apply oq_id); first | (focus ((with_reducible apply oq_indexAddrN); (iterate 4 exact rfl); omega)) | ((with_reducible apply oq_lssT); exact rfl; exact rfl; omega) | (apply oq_fn; exact rfl; try first | exact trivial | (and_intros <;> omega)) | ((with_reducible apply oq_load); exact rfl; exact rfl) | ((with_reducible apply oq_build); (iterate 3 exact rfl))) | ((with_reducible apply tl_id); first | (with_reducible apply tl_nil) | ((with_reducible apply u_q); (iterate 4 exact rfl))) | ((with_reducible apply gx_id); first | (with_reducible apply v_nil) | ((with_reducible apply v_q); (iterate 3 exact rfl))) | ((with_reducible apply os_append (hk := app_ok75)); exact rfl; exact rfl; (repeat (first | exact P0 | apply P1))) | ((with_reducible apply ox_buildSlice); (iterate 4 exact rfl)) | ((with_reducible apply ai_id); first | ((with_reducible apply ai_q); (iterate 5 exact rfl)) | ((with_reducible apply ai_x); (iterate 5 exact rfl)) | ((with_reducible apply ai_s); (iterate 5 exact rfl))) | ((with_reducible apply rd_id); first | (apply Rd.old; (first | exact c0); exact List.not_mem_nil) | (apply Rd.own; (repeat (first | exact P0 | apply P1)); exact rfl; done)) | ((with_reducible apply t_id); first | (apply t_mix (id := 5) [0, 1, 2, 3, 4, 5, 6, 7, 8, 9] 3 #[false, false, false, false, false, false, false, false, false, false, false, true, false]; kernel_rfl; kernel_rfl; exact rfl) | (with_reducible apply t_seq) | (apply t_region; kernel_rfl) | ((with_reducible apply t_condT); exact rfl) | (with_reducible apply t_skip) | (with_reducible apply t_block)) | with_reducible apply q_thenN | with_reducible apply q_blockN | exact Rdn.zero | apply Rdn.succ | ((with_reducible apply Norm.nil); exact rfl) | ((with_reducible apply Norm.cons); exact rfl) | ((with_reducible apply al_id); first | (apply al_done; decide +kernel) | (apply al_one 10; decide +kernel) | (apply al_one 11; decide +kernel) | (apply al_one 12; decide +kernel)) | exact hfl | (intro gN cN; with_reducible apply al_id) | exact Nat.le_of_ble_eq_true rfl | exact (rfl : (_ : Bool) = true) | omega | (intro _; with_reducible apply al_id))
    all_goals (refine ⟨(i + 1, gN, cN), (by simp only; omega), (by simp only; omega), ?_, ?_⟩)
    all_goals (simp only [hst])
    all_goals first
      | ((try simp only [List.cons_append, List.nil_append]); (repeat (first | exact FrSub.nil | (apply FrSub.cons; exact rfl) | (apply FrSub.consE; exact rfl; (focus (simp; done))))); done)
      | ((try simp only [List.cons_append, List.nil_append]); (repeat (first | exact HpSub.refl _ | (apply HpSub.consE; (repeat (first | exact P0 | apply P1 | apply PA)); first | exact rfl | (focus (simp [shB, shCells]; done))) | apply hp_appC | apply HpSub.skipX | exact hp_left | apply hp_skipApp | exact HpSub.nil)); done)
  · obtain rfl : i = m := by omega
    rw [List.take_of_length_le (show xs.length ≤ i by omega)]
    repeat' (first | ((with_reducible apply oq_id); first | ((with_reducible apply oq_lssF); exact rfl; exact rfl; omega) | (apply oq_fn; exact rfl; try first | exact trivial | (and_intros <;> omega))) | ((with_reducible apply tl_id); first | (with_reducible apply tl_nil) | ((with_reducible apply u_q); (iterate 4 exact rfl))) | ((with_reducible apply t_id); first | (with_reducible apply t_seq) | (apply t_region; kernel_rfl) | ((with_reducible apply t_condF); exact rfl) | (with_reducible apply t_ret) | (with_reducible apply t_exit)) | with_reducible apply q_thenN | with_reducible apply q_thenE | ((with_reducible apply q_blockE); exact rfl) | (with_reducible apply end_ret) | exact rvs_nil | (with_reducible apply rvs_cons) | ((with_reducible apply rv_tmp); exact rfl))
    all_goals exact ⟨_, ⟨gB, cG, rfl, rfl⟩, by (repeat (first | exact HpSub.refl _ | (apply HpSub.consE; (repeat (first | exact P0 | apply P1 | apply PA)); exact rfl) | apply hp_appC | apply HpSub.skipX | exact hp_left | apply hp_skipApp | exact HpSub.nil))⟩
end Go.Proofs.Ytmlmgipngbndgaa
namespace Go.Proofs.Ytmlmgipngbndgaa
open Go.RowKit
theorem HpSub.per {H G : Hp} (h : HpSub H G) : ∃ K, H.Perm (G ++ K) := by
  induction h with
  | nil => exact ⟨_, List.Perm.refl _⟩
  | cons p _ ih =>
    obtain ⟨K, hK⟩ := ih
    exact ⟨K, p.perm.trans (List.Perm.cons _ hK)⟩
theorem hp_of_per : ∀ {G H K : Hp}, H.Perm (G ++ K) → HpSub H G
  | [], H, K, _ => HpSub.nil
  | (b, C, g) :: G, H, K, h => by
    have hm : (b, C, g) ∈ H := h.mem_iff.2 (List.mem_cons_self ..)
    obtain ⟨H', hp⟩ : ∃ H', Pick H b C g H' := by
      clear h
      induction H with
      | nil => cases hm
      | cons x H ih =>
        rcases List.mem_cons.1 hm with rfl | hm
        · exact ⟨H, Pick.head _ _ _ _⟩
        · obtain ⟨H', hp⟩ := ih hm
          exact ⟨x :: H', hp.tail⟩
    exact HpSub.cons hp (hp_of_per ((hp.perm.symm.trans h).cons_inv))
theorem HpSub.tr {H G K : Hp} (h : HpSub H G) (k : HpSub G K) : HpSub H K := by
  obtain ⟨A, hA⟩ := h.per
  obtain ⟨B, hB⟩ := k.per
  refine hp_of_per (K := B ++ A) (hA.trans ?_)
  rw [← List.append_assoc]
  exact List.Perm.append_right _ hB
theorem HpSub.app {A B a b : Hp} (h : HpSub A a) (k : HpSub B b) : HpSub (A ++ B) (a ++ b) := by
  obtain ⟨X, hX⟩ := h.per
  obtain ⟨Y, hY⟩ := k.per
  refine hp_of_per (K := X ++ Y) ((hX.append hY).trans ?_)
  rw [List.append_assoc, List.append_assoc]
  refine List.Perm.append_left _ ?_
  rw [← List.append_assoc, ← List.append_assoc]
  exact List.Perm.append_right _ List.perm_append_comm
theorem HpSub.swap {A B a b : Hp} (h : HpSub A a) (k : HpSub B b) : HpSub (A ++ B) (b ++ a) := (hp_comm A B).tr (k.app h)
theorem rws_sub : ∀ {R : List Row} {i : Nat} {r : Row}, R[i]? = some r → HpSub (rwsH R) (rowH r)
  | q :: R, 0, r, h => by
    simp only [List.getElem?_cons_zero, Option.some.injEq] at h
    subst h
    exact hp_leftX _ _
  | q :: R, i + 1, r, h => by
    simp only [List.getElem?_cons_succ] at h
    exact hp_skipApp (rws_sub h)
  | [], i, r, h => by simp at h
theorem row_rds {w0 : World} {M : Ms} {w : World} {xs : List Int} {o : Option (Nat × Nat)} (h : Has w0 M (rowH (xs, o)) w) (hk : LrOk (xs, o)) : RdS w 1 (clA o) xs.length (xs.map inCells) :=
  clH_rows (e := 3) (s := 1) (f := inCells) (l := xs) (x := o) (by rw [iv_flat]; exact h) (fun _ => rfl) rfl hk.1
theorem lis_row {w0 : World} {M : Ms} {w : World} {H : Hp} {R : List Row} {o ro : Option (Nat × Nat)} {xs : List Int} {i : Nat} (h : Has w0 M H w) (hs : HpSub H (lisH o R)) (ho : o ≠ none) (hR : R[i]? = some (xs, ro)) (hk : ∀ r ∈ R, LrOk r) : RdS w 1 (clA ro) xs.length (xs.map inCells) := by
  cases o with
  | none => exact absurd rfl ho
  | some p => exact row_rds (h.sub (hs.tr (HpSub.skipX (rws_sub hR)))) (hk _ (List.mem_of_getElem? hR))
theorem rw_flat (R : List Row) : (R.map fun r => [rwV r]).flatten = R.map rwV := by
  induction R with
  | nil => rfl
  | cons r R ih => simp only [List.map_cons, List.flatten_cons, ih]; rfl
theorem lis_rds {w0 : World} {M : Ms} {w : World} {H : Hp} {R : List Row} {o : Option (Nat × Nat)} (h : Has w0 M H w) (hs : HpSub H (lisH o R)) (ho : o = none → R.length = 0) : RdS w 1 (clA o) R.length (R.map fun r => [rwV r]) :=
  clH_rows (e := 41) (s := 1) (f := fun r => [rwV r]) (l := R) (x := o) (h.sub (hs.tr (by
    rw [rw_flat]
    cases o with
    | none => exact HpSub.nil
    | some p => exact HpSub.front HpSub.nil))) (fun _ => rfl) rfl ho
theorem rd_lis {c : Cx} {H : Hp} {g m i : Nat} {R : List Row} {xs : List Int} {o : Option (Nat × Nat)} (h : R[i]? = some (xs, o)) (hs : HpSub H (lisH (some (g, m)) R)) : Rd c H ⟨g, 0 + i * 1, none⟩ (.slice (clA o) xs.length (clC o)) := fun D w hw =>
  ((hw.sub hs).blk _ (List.mem_cons_self ..)).2.cell (by rw [Nat.zero_add, Nat.mul_one, List.getElem?_map, h]; rfl)
theorem rows_len (R : List Row) : ∀ r ∈ R.map (fun r => [rwV r]), r.length = 1 := by
  intro r hr
  obtain ⟨x, _, rfl⟩ := List.mem_map.1 hr
  rfl
theorem rows_one (R : List Row) : ∀ r ∈ R.map (fun r => [rwV r]), ∀ u ∈ r, u.oneCell' = true := by
  intro r hr u hu
  obtain ⟨x, _, rfl⟩ := List.mem_map.1 hr
  obtain rfl := List.mem_singleton.1 hu
  rfl
/-- A row ahead of a list. -/
theorem lis_cons {bN cN : Nat} {r : Row} {R R2 : List Row} {i : Nat} {X Y : Hp} {o2 : Option (Nat × Nat)} {p : Nat × Nat} (h : R[i]? = some r) (h2 : o2 = none → R2 = []) (hX : HpSub X (lisH o2 R2 ++ Y)) (hY : HpSub Y (lisH (some p) R)) :
    HpSub ((bN, rwV r :: R2.map rwV, some (41, 1, cN)) :: X) (lisH (some (bN, cN)) (r :: R2)) := by
  refine HpSub.front (hX.tr ?_)
  show HpSub _ (rowH r ++ rwsH R2)
  refine HpSub.swap ?_ (hY.tr (HpSub.skipX (rws_sub h)))
  cases o2 with
  | none => rw [h2 rfl]; exact HpSub.nil
  | some q => exact HpSub.skipX (HpSub.refl _)
theorem team_len {mem : Nat} {k : Int} {t : List Int} (h : t ∈ teamsL mem k) : t.length ≤ 2 := by
  unfold teamsL at h
  split at h
  · obtain rfl := List.mem_singleton.1 h
    exact Nat.zero_le _
  · rw [List.mem_flatMap] at h
    obtain ⟨i, _, h⟩ := h
    rcases List.mem_append.1 h with h | h
    · split at h
      · obtain rfl := List.mem_singleton.1 h
        exact Nat.le_succ _
      · cases h
    · split at h
      · unfold pairsL at h
        obtain ⟨j, _, rfl⟩ := List.mem_map.1 h
        exact Nat.le_refl _
      · cases h
theorem teamsL_len {mem : Nat} (hm : mem ≤ 1000) {k : Int} : (teamsL mem k).length ≤ 1100000 := by
  by_cases h : k = 0
  · unfold teamsL; rw [if_pos h]; decide
  · have h1 := teamsT_len mem hm k mem
    have h2 : teamsL mem k = teamsT mem mem k := by unfold teamsL; rw [if_neg h]; rfl
    rw [h2]; omega
theorem manF_len {d : Du} {mem : Nat} : ∀ {ts : List Tr} {l : List Sh} {R : List (List Int)}, manF d mem ts l = some R → R.length = ts.length
  | [], l, R, h => by
    unfold manF at h
    split at h
    · cases h; rfl
    · cases h
  | x :: ts, l, R, h => by
    unfold manF at h
    split at h
    · obtain ⟨t, _, h1⟩ := List.exists_of_findSome?_eq_some h
      obtain ⟨R', h2, rfl⟩ := Option.map_eq_some_iff.1 h1
      rw [List.length_cons, List.length_cons, manF_len h2]
    · cases h
/-- What the specification's way to man trips answers. -/
def ManP (res : Option (List (List Int))) (v : Value) (H : Hp) : Prop := match res with
  | none => v = .tuple #[.slice none 0 0, .bool false] ∧ H = []
  | some L => ∃ o R, ((∀ r ∈ R, LrOk r) ∧ R.map Prod.fst = L ∧ (o = none → R = [])) ∧ v = .tuple #[.slice (clA o) R.length (clC o), .bool true] ∧ H = lisH o R
end Go.Proofs.Ytmlmgipngbndgaa
namespace Go.Proofs.Ytmlmgipngbndgaa
open Go.RowKit
attribute [local irreducible] OQ OS OX Rd T TL GX GL AL AI RV wpG SAny Calls
theorem manned_T (d : Du) (hd : duB d) (mem : Nat) (hm : mem ≤ 1000) : ∀ (ts : List Tr) (l : List Sh) (A : Option Addr) (n c : Nat) (AT : Option Addr) (m cT : Nat) (w : World), (∀ x ∈ ts, trOk x) → n + 2 * ts.length ≤ 900 → RdS w 3 A n (l.map shCells) → RdS w 3 AT m (ts.map trCells) → m ≤ cT →
    Calls Try.prog 91 #[.agg #[.int .i64 d.most, .int .i64 d.rest, .int .i64 d.win, .int .i64 d.sum], .slice A n c, .int .i64 (mem : Nat), .slice AT m cT] w fun e w' => ∃ v H', e = .returned v ∧ ManP (manF d mem ts l) v H' ∧ Has w ⟨[], []⟩ H' w' := by
  intro ts
  induction ts with
  | nil =>
    intro l A n c AT m cT w hto hn hr hrT hcT
    have hlT := hrT.len
    simp only [List.length_map, List.length_nil] at hlT
    subst hlT
    have HR := fun w1 h => rested_calls d hd A n c l w1 h (by omega)
    unfold manF
    cases ho : okB d l with
    | false =>
      rw [ho] at HR
      rw [if_neg (by decide)]
      refine enterF (c := cx w 58) Try.func91 rfl rfl rfl rfl ?_
      repeat' (first | ((with_reducible apply oq_id); first | (apply oq_fn; exact rfl; try first | exact trivial | (and_intros <;> omega)) | ((with_reducible apply oq_loadAgg); exact rfl; exact rfl) | ((with_reducible apply oq_call (k := 115) (hc := Try.call115)); exact rfl; exact rfl; exact fun D w1 hw1 => HR w1 (hr.ext hw1.ext.ext))) | ((with_reducible apply tl_id); first | (with_reducible apply tl_nil) | ((with_reducible apply u_q); (iterate 4 exact rfl)) | ((with_reducible apply u_s); (iterate 3 exact rfl))) | ((with_reducible apply os_x); exact rfl) | ((with_reducible apply ox_boxAgg); exact rfl; intro _) | ((with_reducible apply rd_id); first | (apply Rd.own; (repeat (first | exact P0 | apply P1 | apply PA)); exact rfl; done)) | ((with_reducible apply t_id); first | (with_reducible apply t_seq) | (apply t_region; kernel_rfl) | ((with_reducible apply t_condT); exact rfl) | (with_reducible apply t_ret)) | with_reducible apply q_thenN | with_reducible apply q_thenR | exact Rdn.zero | apply Rdn.succ | (with_reducible apply end_ret) | exact rvs_nil | (with_reducible apply rvs_cons) | ((with_reducible apply rv_tmp); exact rfl))
      all_goals exact ⟨_, ⟨rfl, rfl⟩, HpSub.nil⟩
    | true =>
      rw [ho] at HR
      rw [if_pos rfl]
      refine enterF (c := cx w 58) Try.func91 rfl rfl rfl rfl ?_
      repeat' (first | ((with_reducible apply oq_id); first | ((with_reducible apply oq_eqlT); exact rfl; exact rfl; omega) | (apply oq_fn; exact rfl; try first | exact trivial | (and_intros <;> omega)) | ((with_reducible apply oq_loadAgg); exact rfl; exact rfl) | ((with_reducible apply oq_call (k := 115) (hc := Try.call115)); exact rfl; exact rfl; exact fun D w1 hw1 => HR w1 (hr.ext hw1.ext.ext))) | ((with_reducible apply tl_id); first | (with_reducible apply tl_nil) | ((with_reducible apply u_q); (iterate 4 exact rfl)) | ((with_reducible apply u_s); (iterate 3 exact rfl))) | ((with_reducible apply os_x); exact rfl) | ((with_reducible apply ox_boxAgg); exact rfl; intro _) | ((with_reducible apply rd_id); first | (apply Rd.own; (repeat (first | exact P0 | apply P1 | apply PA)); exact rfl; done)) | ((with_reducible apply t_id); first | (with_reducible apply t_seq) | (apply t_region; kernel_rfl) | ((with_reducible apply t_condT); exact rfl) | ((with_reducible apply t_condF); exact rfl) | (with_reducible apply t_ret) | (with_reducible apply t_skip)) | with_reducible apply q_thenN | with_reducible apply q_thenR | exact Rdn.zero | apply Rdn.succ | (with_reducible apply end_ret) | exact rvs_nil | (with_reducible apply rvs_cons) | ((with_reducible apply rv_tmp); exact rfl))
      all_goals exact ⟨_, ⟨none, [], ⟨fun r h => (by cases h), rfl, fun _ => rfl⟩, rfl, rfl⟩, HpSub.nil⟩
  | cons x ts ih =>
    intro l A n c AT m cT w hto hn hr hrT hcT
    have hlT := hrT.len
    simp only [List.length_map, List.length_cons] at hlT
    simp only [List.length_cons] at hn
    have hl := hr.len
    simp only [List.length_map] at hl
    have hx := hto x List.mem_cons_self
    unfold trOk at hx
    have hto' : ∀ y ∈ ts, trOk y := fun y hy => hto y (List.mem_cons_of_mem _ hy)
    obtain ⟨b, o', x', rfl, _, hx', c0, c1, c2⟩ := tr_read hrT (show 0 < m by omega)
    simp only [List.getElem?_cons_zero, Option.some.injEq] at hx'
    subst hx'
    have HR := fun w1 h => rested_calls d hd A n c l w1 h (by omega)
    unfold manF
    cases ho : okB d l with
    | false =>
      rw [ho] at HR
      rw [if_neg (by decide)]
      refine enterF (c := cx w 58) Try.func91 rfl rfl rfl rfl ?_
      repeat' (first | ((with_reducible apply oq_id); first | (apply oq_fn; exact rfl; try first | exact trivial | (and_intros <;> omega)) | ((with_reducible apply oq_loadAgg); exact rfl; exact rfl) | ((with_reducible apply oq_call (k := 115) (hc := Try.call115)); exact rfl; exact rfl; exact fun D w1 hw1 => HR w1 (hr.ext hw1.ext.ext))) | ((with_reducible apply tl_id); first | (with_reducible apply tl_nil) | ((with_reducible apply u_q); (iterate 4 exact rfl)) | ((with_reducible apply u_s); (iterate 3 exact rfl))) | ((with_reducible apply os_x); exact rfl) | ((with_reducible apply ox_boxAgg); exact rfl; intro _) | ((with_reducible apply rd_id); first | (apply Rd.own; (repeat (first | exact P0 | apply P1 | apply PA)); exact rfl; done)) | ((with_reducible apply t_id); first | (with_reducible apply t_seq) | (apply t_region; kernel_rfl) | ((with_reducible apply t_condT); exact rfl) | (with_reducible apply t_ret)) | with_reducible apply q_thenN | with_reducible apply q_thenR | exact Rdn.zero | apply Rdn.succ | (with_reducible apply end_ret) | exact rvs_nil | (with_reducible apply rvs_cons) | ((with_reducible apply rv_tmp); exact rfl))
      all_goals exact ⟨_, ⟨rfl, rfl⟩, HpSub.nil⟩
    | true =>
    rw [ho] at HR
    rw [if_pos rfl]
    obtain ⟨G, hG⟩ : ∃ G, (fun t => (manF d mem ts (l ++ shR x t)).map (t :: ·)) = G := ⟨_, rfl⟩
    obtain ⟨res, hres⟩ : ∃ res, (teamsL mem x.crew).findSome? G = res := ⟨_, rfl⟩
    rw [hG, hres]
    refine enterF (c := cx w 58) Try.func91 rfl rfl rfl rfl ?_
    refine t_cut (ι := Nat) (fun z => [(1, .slice A n c), (2, .int .i64 (mem : Nat)), (3, .slice (some ⟨b, o', none⟩) m cT), (4, .pointer (some ⟨z, 0, none⟩))]) (fun z => [(z, [.int .i64 d.most, .int .i64 d.rest, .int .i64 d.win, .int .i64 d.sum], some (74, 4, 1))]) (fun _ => True) ?_ ?_
    · repeat' (first | ((with_reducible apply oq_id); first | (apply oq_fn; exact rfl; try first | exact trivial | (and_intros <;> omega))) | ((with_reducible apply tl_id); first | (with_reducible apply tl_nil) | ((with_reducible apply u_q); (iterate 4 exact rfl)) | ((with_reducible apply u_s); (iterate 3 exact rfl))) | ((with_reducible apply os_x); exact rfl) | ((with_reducible apply ox_boxAgg); exact rfl; intro _) | ((with_reducible apply t_id); first | (apply t_region; kernel_rfl)))
      all_goals exact ⟨rfl, _, trivial, by (repeat (first | exact FrSub.nil | (apply FrSub.cons; exact rfl))), by (repeat (first | exact HpSub.refl _ | (apply HpSub.consE; (repeat (first | exact P0 | apply P1 | apply PA)); exact rfl) | apply hp_appC | apply HpSub.skipX | exact hp_left | apply hp_skipApp | exact HpSub.nil))⟩
    rintro b4 -
    try dsimp only
    refine t_cut (ι := Unit) (fun _ => [(1, .slice A n c), (2, .int .i64 (mem : Nat)), (3, .slice (some ⟨b, o', none⟩) m cT), (4, .pointer (some ⟨b4, 0, none⟩))]) (fun _ => [(b4, [.int .i64 d.most, .int .i64 d.rest, .int .i64 d.win, .int .i64 d.sum], some (74, 4, 1))]) (fun _ => True) ?_ ?_
    · repeat' (first | ((with_reducible apply oq_id); first | (apply oq_fn; exact rfl; try first | exact trivial | (and_intros <;> omega)) | ((with_reducible apply oq_loadAgg); exact rfl; exact rfl) | ((with_reducible apply oq_call (k := 115) (hc := Try.call115)); exact rfl; exact rfl; exact fun D w1 hw1 => HR w1 (hr.ext hw1.ext.ext))) | ((with_reducible apply tl_id); first | (with_reducible apply tl_nil) | ((with_reducible apply u_q); (iterate 4 exact rfl))) | ((with_reducible apply rd_id); first | (apply Rd.own; (repeat (first | exact P0 | apply P1 | apply PA)); exact rfl; done)) | ((with_reducible apply t_id); first | (with_reducible apply t_seq) | (apply t_region; kernel_rfl) | ((with_reducible apply t_condF); exact rfl) | (with_reducible apply t_skip)) | with_reducible apply q_thenN | exact Rdn.zero | apply Rdn.succ)
      all_goals exact ⟨rfl, (), trivial, by (repeat (first | exact FrSub.nil | (apply FrSub.cons; exact rfl))), by (repeat (first | exact HpSub.refl _ | (apply HpSub.consE; (repeat (first | exact P0 | apply P1 | apply PA)); exact rfl) | apply hp_appC | apply HpSub.skipX | exact hp_left | apply hp_skipApp | exact HpSub.nil))⟩
    rintro ⟨⟩ -
    refine t_cut (ι := Unit) (fun _ => [(1, .slice A n c), (2, .int .i64 (mem : Nat)), (3, .slice (some ⟨b, o', none⟩) m cT), (4, .pointer (some ⟨b4, 0, none⟩))]) (fun _ => [(b4, [.int .i64 d.most, .int .i64 d.rest, .int .i64 d.win, .int .i64 d.sum], some (74, 4, 1))]) (fun _ => True) ?_ ?_
    · repeat' (first | ((with_reducible apply oq_id); first | ((with_reducible apply oq_eqlF); exact rfl; exact rfl; omega) | (apply oq_fn; exact rfl; try first | exact trivial | (and_intros <;> omega))) | ((with_reducible apply tl_id); first | (with_reducible apply tl_nil) | ((with_reducible apply u_q); (iterate 4 exact rfl))) | ((with_reducible apply t_id); first | (with_reducible apply t_seq) | (apply t_region; kernel_rfl) | ((with_reducible apply t_condF); exact rfl) | (with_reducible apply t_skip)) | with_reducible apply q_thenN)
      all_goals exact ⟨rfl, (), trivial, by (repeat (first | exact FrSub.nil | (apply FrSub.cons; exact rfl))), by (repeat (first | exact HpSub.refl _ | (apply HpSub.consE; (repeat (first | exact P0 | apply P1 | apply PA)); exact rfl) | apply hp_appC | apply HpSub.skipX | exact hp_left | apply hp_skipApp | exact HpSub.nil))⟩
    rintro ⟨⟩ -
    refine t_cut (ι := Option (Nat × Nat) × List Row) (fun z => [(1, .slice A n c), (2, .int .i64 (mem : Nat)), (3, .slice (some ⟨b, o', none⟩) m cT), (4, .pointer (some ⟨b4, 0, none⟩)), (10, .slice (clA z.1) z.2.length (clC z.1))]) (fun z => lisH z.1 z.2 ++ [(b4, [.int .i64 d.most, .int .i64 d.rest, .int .i64 d.win, .int .i64 d.sum], some (74, 4, 1))]) (fun z => (∀ r ∈ z.2, LrOk r) ∧ z.2.map Prod.fst = teamsL mem x.crew ∧ (z.1 = none → z.2.length = 0)) ?_ ?_
    · repeat' (first | ((with_reducible apply oq_id); first | (apply oq_fn; exact rfl; try first | exact trivial | (and_intros <;> omega)) | ((with_reducible apply oq_load); exact rfl; exact rfl)) | ((with_reducible apply tl_id); first | (with_reducible apply tl_nil) | ((with_reducible apply u_s); (iterate 3 exact rfl); (with_reducible apply os_callF (PV := LisP (teamsL mem x.crew)) (k := 116) (hc := Try.call116)); exact rfl; exact rfl; exact fun D w1 hw1 => teams_T mem hm x.crew (by omega) w1; rintro v H' ⟨o0, R0, hok0, hR0, ho0, rfl, rfl⟩) | ((with_reducible apply u_q); (iterate 4 exact rfl))) | ((with_reducible apply rd_id); first | (apply Rd.old; (first | exact c0 | exact c1 | exact c2); exact List.not_mem_nil)) | ((with_reducible apply t_id); first | (apply t_region; kernel_rfl)))
      all_goals (have e0 : R0.length = (teamsL mem x.crew).length := by rw [← hR0, List.length_map])
      all_goals (rw [← e0])
      all_goals exact ⟨by trivial, (o0, R0), ⟨hok0, hR0, fun h => e0.trans (ho0 h)⟩, by (repeat (first | exact FrSub.nil | (apply FrSub.cons; exact rfl))), by (first | exact HpSub.refl _ | (repeat (first | exact HpSub.refl _ | (apply HpSub.consE; (repeat (first | exact P0 | apply P1 | apply PA)); exact rfl) | apply hp_appC | apply HpSub.skipX | exact hp_left | apply hp_skipApp | exact HpSub.nil)))⟩
    rintro ⟨o, R⟩ ⟨hRk, hRL, hon⟩
    simp only at hRk hRL hon ⊢
    have hres' : (R.map Prod.fst).findSome? G = res := by rw [hRL, hres]
    repeat' (first | ((with_reducible apply oq_id); first | (apply oq_fn; exact rfl; try first | exact trivial | (and_intros <;> omega))) | ((with_reducible apply tl_id); first | (with_reducible apply tl_nil) | ((with_reducible apply u_q); (iterate 4 exact rfl))) | ((with_reducible apply t_id); first | (with_reducible apply t_seq) | (apply t_region; kernel_rfl) | (with_reducible apply t_block)) | with_reducible apply q_thenN)
    apply t_loopK (GH := []) (ι := Nat) [1, 2, 3, 4, 10] (fun i => [(11, .int .i64 (i : Nat))]) (fun _ => lisH o R ++ [(b4, [.int .i64 d.most, .int .i64 d.rest, .int .i64 d.win, .int .i64 d.sum], some (74, 4, 1))]) (fun i => i ≤ R.length ∧ ((R.map Prod.fst).drop i).findSome? G = res) (fun i => R.length - i) (0)
    (repeat (first | exact KeepF.nil | (apply KeepF.cons; exact rfl) | apply KeepF.skip))
    (repeat (first | exact FrSub.nil | (apply FrSub.cons; exact rfl)))
    ((try simp only [List.append_nil]); (repeat (first | exact HpSub.refl _ | (apply HpSub.consE; (repeat (first | exact P0 | apply P1 | apply PA)); exact rfl) | apply hp_appC | apply HpSub.skipX | exact hp_left | apply hp_skipApp | exact HpSub.nil)))
    · exact ⟨Nat.zero_le _, hres'⟩
    rintro i ⟨hi, hfs⟩
    try simp only [List.cons_append, List.nil_append]
    try simp only [List.append_nil]
    by_cases hlt : i < R.length
    · obtain ⟨⟨xs, ro⟩, hRi⟩ : ∃ r, R[i]? = some r := ⟨_, List.getElem?_eq_getElem hlt⟩
      rcases o with _ | ⟨go, co⟩
      · have := hon rfl
        omega
      have hRl : R.length ≤ 1100000 := by
        have e := congrArg List.length hRL
        rw [List.length_map] at e
        rw [e]; exact teamsL_len hm
      have hxl : xs.length ≤ 2 := team_len (mem := mem) (k := x.crew) (by rw [← hRL]; exact List.mem_map.2 ⟨_, List.mem_of_getElem? hRi, rfl⟩)
      have hnn : (some ⟨b, o', none⟩ : Option Addr) = none → m = 0 ∧ cT = 0 := fun h => by cases h
      have hdr : (R.map Prod.fst).drop i = xs :: (R.map Prod.fst).drop (i + 1) := by
        rw [List.drop_eq_getElem_cons (by simpa using hlt)]
        congr 1
        rw [List.getElem_map]
        have := (List.getElem?_eq_some_iff.1 hRi).2
        rw [this]
      rw [hdr, List.findSome?_cons, ← hG] at hfs
      simp only at hfs
      obtain ⟨N, hN⟩ : ∃ N, manF d mem ts (l ++ shR x xs) = N := ⟨_, rfl⟩
      rw [hN] at hfs
      rw [hG] at hfs
      have hxe : (⟨x.fr, x.to, x.crew⟩ : Tr) = x := rfl
      simp only [clA, clC]
      cases N with
      | none =>
        simp only [Option.map_none] at hfs
        repeat' (first | ((with_reducible apply oq_id); first | ((with_reducible apply oq_addE (k := ((i + 1 : Nat) : Int))); exact rfl; exact rfl; omega) | (focus ((with_reducible apply oq_indexAddrN); (iterate 4 exact rfl); omega)) | (focus ((with_reducible apply (oq_sliceLG (l := 1) hnn)); (iterate 4 exact rfl); omega)) | ((with_reducible apply oq_lssT); exact rfl; exact rfl; omega) | (apply oq_fn; exact rfl; try first | exact trivial | (and_intros <;> omega)) | ((with_reducible apply oq_load); exact rfl; exact rfl) | ((with_reducible apply oq_loadAgg); exact rfl; exact rfl)) | ((with_reducible apply tl_id); first | (with_reducible apply tl_nil) | ((with_reducible apply u_q); (iterate 4 exact rfl))) | ((with_reducible apply gx_id); first | (with_reducible apply v_nil) | ((with_reducible apply v_q); (iterate 3 exact rfl))) | ((with_reducible apply ai_id); first | ((with_reducible apply ai_n); (iterate 4 exact rfl); (with_reducible apply os_callF (PV := OwnS (shB (l ++ shR x xs)) (n + xs.length)) (k := 117) (hc := Try.call117)); exact rfl; exact rfl; exact fun D w1 hw1 => added_T A n c l x (clA ro) xs.length (clC ro) xs w1 (hr.ext hw1.ext.ext) (lis_row (o := some (go, co)) hw1 (by first | exact hp_leftX _ _ | (apply HpSub.skipX; exact hp_leftX _ _)) (by simp) hRi hRk) (by omega) (by omega); rintro v H' ⟨gA, cA, rfl, rfl⟩; (try simp only [List.cons_append, List.nil_append]); refine al_keep (HpSub.skipX (HpSub.refl _)) ?_) | ((with_reducible apply ai_n); (iterate 4 exact rfl); (with_reducible apply os_callF (PV := ManP none) (k := 91) (hc := Try.call91)); exact rfl; exact rfl; exact fun D w1 hw1 => (by rw [← hN]; exact ih (l ++ shR x xs) _ _ _ _ _ _ w1 hto' (by omega) (Blk.rows (rows := (l ++ shR x xs).map shCells) (hw1.blk _ (Pick.mem (by (repeat (first | exact P0 | apply P1 | apply PA))))).2 (by simp [shR]; omega) (sh_len _)) (rows_dropG (j := 1) (l := x :: ts) (hrT.ext hw1.ext.ext) (by omega) hcT) (by omega)); rintro v H' hV; obtain ⟨rfl, rfl⟩ := hV; (try simp only [List.nil_append]); refine al_keep (HpSub.skipX (HpSub.refl _)) ?_) | ((with_reducible apply ai_q); (iterate 5 exact rfl))) | ((with_reducible apply rd_id); first | (apply Rd.old; (first | exact c0 | exact c1 | exact c2); exact List.not_mem_nil) | (focus ((apply (rd_lis hRi)); exact hp_leftX _ _)) | (apply Rd.own; (repeat (first | exact P0 | apply P1 | apply PA)); exact rfl; done)) | ((with_reducible apply t_id); first | (apply t_mix (id := 9) [0, 1, 2, 3, 4, 5, 6, 7, 8, 10, 11, 12] 7 #[false, false, false, false, false, false, false, false, false, false, false, false, false, false, false, false, false, false, false]; kernel_rfl; kernel_rfl; exact rfl) | (with_reducible apply t_seq) | (apply t_region; kernel_rfl) | ((with_reducible apply t_condT); exact rfl) | ((with_reducible apply t_condF); exact rfl) | (with_reducible apply t_skip) | (with_reducible apply t_block)) | with_reducible apply q_thenN | with_reducible apply q_blockN | exact Rdn.zero | apply Rdn.succ | ((with_reducible apply al_id); first | (apply al_done; decide +kernel) | (apply al_one 9; decide +kernel) | (apply al_one 13; decide +kernel) | (apply al_one 14; decide +kernel) | (apply al_one 15; decide +kernel) | (apply al_one 16; decide +kernel) | (apply al_one 17; decide +kernel) | (apply al_one 18; decide +kernel) | (apply al_two 15 16; decide +kernel) | (apply al_two 16 17; decide +kernel)))
        all_goals (refine ⟨i + 1, ⟨(by omega), hfs⟩, (by omega), ?_, ?_⟩)
        all_goals first
          | ((repeat (first | exact FrSub.nil | (apply FrSub.cons; exact rfl))); done)
          | exact HpSub.skipX (HpSub.refl _)
      | some N =>
        simp only [Option.map_some] at hfs
        subst hfs
        have hNl := manF_len hN
        repeat' (first | ((with_reducible apply oq_id); first | (focus ((with_reducible apply oq_indexAddrN); (iterate 4 exact rfl); omega)) | (focus ((with_reducible apply (oq_sliceLG (l := 1) hnn)); (iterate 4 exact rfl); omega)) | ((with_reducible apply oq_lssT); exact rfl; exact rfl; omega) | (apply oq_fn; exact rfl; try first | exact trivial | (and_intros <;> omega)) | ((with_reducible apply oq_load); exact rfl; exact rfl) | ((with_reducible apply oq_loadAgg); exact rfl; exact rfl)) | ((with_reducible apply tl_id); first | (with_reducible apply tl_nil) | ((with_reducible apply u_s); (iterate 3 exact rfl); (have hR2l : R2.length = ts.length := by rw [← hNl, ← hS.2.1, List.length_map]); (with_reducible apply os_appendRows (hk := app_ok90) (rows := R2.map fun r => [rwV r]) (hr := fun D w1 hw1 => lis_rds (o := o2) (R := R2) hw1 (HpSub.skipX (hp_leftX _ _)) (fun h => by rw [hS.2.2 h, List.length_nil]))); exact rfl; exact rfl; (repeat (first | exact P0 | apply P1 | apply PA)); exact rows_len R2; exact rfl; exact rows_one R2; exact Nat.le_refl _; omega; omega; intro gN cN; (simp only [rw_flat, List.cons_append, List.nil_append])) | ((with_reducible apply u_q); (iterate 4 exact rfl)) | ((with_reducible apply u_s); (iterate 3 exact rfl))) | ((with_reducible apply gx_id); first | (with_reducible apply v_nil) | ((with_reducible apply v_q); (iterate 3 exact rfl))) | ((with_reducible apply os_x); exact rfl) | ((with_reducible apply ox_buildSlice1); (iterate 6 exact rfl); intro _) | ((with_reducible apply ai_id); first | ((with_reducible apply ai_n); (iterate 4 exact rfl); (with_reducible apply os_callF (PV := OwnS (shB (l ++ shR x xs)) (n + xs.length)) (k := 117) (hc := Try.call117)); exact rfl; exact rfl; exact fun D w1 hw1 => added_T A n c l x (clA ro) xs.length (clC ro) xs w1 (hr.ext hw1.ext.ext) (lis_row (o := some (go, co)) hw1 (by first | exact hp_leftX _ _ | (apply HpSub.skipX; exact hp_leftX _ _)) (by simp) hRi hRk) (by omega) (by omega); rintro v H' ⟨gA, cA, rfl, rfl⟩; (try simp only [List.cons_append, List.nil_append]); refine al_keep (HpSub.skipX (HpSub.refl _)) ?_) | ((with_reducible apply ai_n); (iterate 4 exact rfl); (with_reducible apply os_callF (PV := ManP (some N)) (k := 91) (hc := Try.call91)); exact rfl; exact rfl; exact fun D w1 hw1 => (by rw [← hN]; exact ih (l ++ shR x xs) _ _ _ _ _ _ w1 hto' (by omega) (Blk.rows (rows := (l ++ shR x xs).map shCells) (hw1.blk _ (Pick.mem (by (repeat (first | exact P0 | apply P1 | apply PA))))).2 (by simp [shR]; omega) (sh_len _)) (rows_dropG (j := 1) (l := x :: ts) (hrT.ext hw1.ext.ext) (by omega) hcT) (by omega)); rintro v H' hV; obtain ⟨o2, R2, hS, rfl, rfl⟩ := hV; refine al_keep (hp_skipApp (HpSub.skipX (HpSub.refl _))) ?_) | ((with_reducible apply ai_q); (iterate 5 exact rfl))) | ((with_reducible apply rd_id); first | (apply Rd.old; (first | exact c0 | exact c1 | exact c2); exact List.not_mem_nil) | (focus ((apply (rd_lis hRi)); exact hp_leftX _ _)) | (focus ((apply (rd_lis hRi)); exact hp_skipApp (HpSub.skipX (hp_leftX _ _)))) | (apply Rd.own; (repeat (first | exact P0 | apply P1 | apply PA)); exact rfl; done)) | ((with_reducible apply t_id); first | (apply t_mix (id := 9) [0, 1, 2, 3, 4, 5, 6, 7, 8, 10, 11, 12] 7 #[false, false, false, false, false, false, false, false, false, false, false, false, false, false, false, false, false, false, false]; kernel_rfl; kernel_rfl; exact rfl) | (with_reducible apply t_seq) | (apply t_region; kernel_rfl) | ((with_reducible apply t_condT); exact rfl) | (with_reducible apply t_ret) | (with_reducible apply t_skip) | (with_reducible apply t_block)) | with_reducible apply q_thenN | with_reducible apply q_thenR | with_reducible apply q_blockR | exact Rdn.zero | apply Rdn.succ | (with_reducible apply end_ret) | exact rvs_nil | (with_reducible apply rvs_cons) | ((with_reducible apply rv_tmp); exact rfl) | ((with_reducible apply al_id); first | (apply al_done; decide +kernel) | (apply al_one 9; decide +kernel) | (apply al_one 13; decide +kernel) | (apply al_one 14; decide +kernel) | (apply al_one 15; decide +kernel) | (apply al_one 16; decide +kernel) | (apply al_one 17; decide +kernel) | (apply al_one 18; decide +kernel) | (apply al_two 15 16; decide +kernel) | (apply al_two 16 17; decide +kernel)))
        all_goals exact ⟨_, ⟨some (gN, cN), (xs, ro) :: R2, ⟨fun r hr => (by
            rcases List.mem_cons.1 hr with rfl | hr
            · exact hRk _ (List.mem_of_getElem? hRi)
            · exact hS.1 r hr), by rw [List.map_cons, hS.2.1], fun h => (by cases h)⟩, (by simp only [List.length_cons, Nat.add_comm 1]; rfl), rfl⟩, lis_cons hRi hS.2.2 (HpSub.refl _) (HpSub.skipX (hp_leftX _ _))⟩
    · obtain rfl : i = R.length := by omega
      rw [List.drop_of_length_le (by simp)] at hfs
      obtain rfl : none = res := hfs
      repeat' (first | ((with_reducible apply oq_id); first | ((with_reducible apply oq_lssF); exact rfl; exact rfl; omega) | (apply oq_fn; exact rfl; try first | exact trivial | (and_intros <;> omega))) | ((with_reducible apply tl_id); first | (with_reducible apply tl_nil) | ((with_reducible apply u_q); (iterate 4 exact rfl))) | ((with_reducible apply t_id); first | (with_reducible apply t_seq) | (apply t_region; kernel_rfl) | ((with_reducible apply t_condF); exact rfl) | (with_reducible apply t_ret) | (with_reducible apply t_exit)) | with_reducible apply q_thenN | with_reducible apply q_thenE | ((with_reducible apply q_blockE); exact rfl) | (with_reducible apply end_ret) | exact rvs_nil | (with_reducible apply rvs_cons) | ((with_reducible apply rv_tmp); exact rfl))
      all_goals exact ⟨_, ⟨rfl, rfl⟩, HpSub.nil⟩
/-- What the specification's Assign hands out. -/
def RasV (E : Int) (L : List (List Int)) (v : Value) (H : Hp) : Prop :=
  (E ≠ 0 ∧ v = .tuple #[.slice none 0 0, .int .i64 E] ∧ H = []) ∨ (E = 0 ∧ ∃ o R, ((∀ r ∈ R, LrOk r) ∧ R.map Prod.fst = L ∧ (o = none → R = [])) ∧ v = .tuple #[.slice (clA o) R.length (clC o), .int .i64 0] ∧ H = lisH o R)
theorem rasV_err {E : Int} {L : List (List Int)} {v : Value} {H : Hp} (h : E ≠ 0) (hV : RasV E L v H) : v = .tuple #[.slice none 0 0, .int .i64 E] ∧ H = [] := by
  rcases hV with ⟨_, h1, h2⟩ | ⟨h1, _⟩
  · exact ⟨h1, h2⟩
  · exact absurd h1 h
theorem rasV_ok {E : Int} {L : List (List Int)} {v : Value} {H : Hp} (h : E = 0) (hV : RasV E L v H) : ∃ o R, ((∀ r ∈ R, LrOk r) ∧ R.map Prod.fst = L ∧ (o = none → R = [])) ∧ v = .tuple #[.slice (clA o) R.length (clC o), .int .i64 0] ∧ H = lisH o R := by
  rcases hV with ⟨h1, _⟩ | ⟨_, h2⟩
  · exact absurd h h1
  · exact h2
theorem refAssign_T (d : Du) (A : Option Addr) (n c : Nat) (l : List Sh) (mem : Int) (AT : Option Addr) (m cT : Nat) (ts : List Tr) (w : World) (hr : RdS w 3 A n (l.map shCells)) (hrT : RdS w 3 AT m (ts.map trCells)) (hn : n ≤ 1000000) (hm : m ≤ 1000000) (hcT : m ≤ cT) :
    Calls Try.prog 51 #[.agg #[.int .i64 d.most, .int .i64 d.rest, .int .i64 d.win, .int .i64 d.sum], .slice A n c, .int .i64 mem, .slice AT m cT] w fun e w' => ∃ v H', e = .returned v ∧ RasV (asgE d l mem ts) (asgL d l mem ts) v H' ∧ Has w ⟨[], []⟩ H' w' := by
  have hl := hr.len
  simp only [List.length_map] at hl
  have hlT := hrT.len
  simp only [List.length_map] at hlT
  have HDu := fun w1 => refDuty_calls d w1
  have HRo := fun w1 h => refRos_calls A n c l w1 h hn
  have hEq := tiE_eq (d := d) (l := l)
  obtain ⟨E0, hE0⟩ : ∃ E, tiE d l = E := ⟨_, rfl⟩
  rw [hE0] at hEq
  obtain ⟨p, hp⟩ : ∃ p, duE d = p := ⟨_, rfl⟩
  obtain ⟨q', hq'⟩ : ∃ q, rosE l = q := ⟨_, rfl⟩
  rw [hp, hq'] at hEq
  rw [hp] at HDu
  rw [hq'] at HRo
  obtain ⟨q, hq⟩ : ∃ q, allFrom 0 6 [mem] = q := ⟨_, rfl⟩
  have hqe : q = true ↔ 0 ≤ mem ∧ mem ≤ 6 := by rw [← hq]; exact allFrom_one
  obtain ⟨E, hE⟩ : ∃ E, asgE d l mem ts = E := ⟨_, rfl⟩
  have hEd := hE
  unfold asgE at hEd
  rw [hE0] at hEd
  have hbad : E ≠ 0 → ∀ (H : Hp), ∃ H1, (RasV (asgE d l mem ts) (asgL d l mem ts) (.tuple #[.slice none 0 0, .int .i64 E]) H1) ∧ HpSub H H1 := fun h H => ⟨[], .inl ⟨by rw [hE]; exact h, by rw [hE], rfl⟩, HpSub.nil⟩
  refine enterF (c := cx w 54) Try.func51 rfl rfl rfl rfl ?_
  refine t_cut (ι := Nat) (fun z => [(1, .slice A n c), (2, .int .i64 mem), (3, .slice AT m cT), (4, .pointer (some ⟨z, 0, none⟩))]) (fun z => [(z, [.int .i64 d.most, .int .i64 d.rest, .int .i64 d.win, .int .i64 d.sum], some (74, 4, 1))]) (fun _ => True) ?_ ?_
  · repeat' (first | ((with_reducible apply oq_id); first | (apply oq_fn; exact rfl; try first | exact trivial | (and_intros <;> omega))) | ((with_reducible apply tl_id); first | (with_reducible apply tl_nil) | ((with_reducible apply u_q); (iterate 4 exact rfl)) | ((with_reducible apply u_s); (iterate 3 exact rfl))) | ((with_reducible apply os_x); exact rfl) | ((with_reducible apply ox_boxAgg); exact rfl; intro _) | ((with_reducible apply t_id); first | (apply t_region; kernel_rfl)))
    all_goals exact ⟨rfl, _, trivial, by (repeat (first | exact FrSub.nil | (apply FrSub.cons; exact rfl))), by (repeat (first | exact HpSub.refl _ | (apply HpSub.consE; (repeat (first | exact P0 | apply P1 | apply PA)); exact rfl) | apply hp_appC | apply HpSub.skipX | exact hp_left | apply hp_skipApp | exact HpSub.nil))⟩
  rintro b4 -
  try dsimp only
  by_cases hp0 : p = 0
  rotate_left
  · rw [if_neg hp0] at hEq
    subst hEq
    rw [if_neg hp0] at hEd
    subst hEd
    repeat' (first | ((with_reducible apply oq_id); first | ((with_reducible apply oq_neqT); exact rfl; exact rfl; omega) | (apply oq_fn; exact rfl; try first | exact trivial | (and_intros <;> omega)) | ((with_reducible apply oq_loadAgg); exact rfl; exact rfl) | ((with_reducible apply oq_call (k := 45) (hc := Try.call45)); exact rfl; exact rfl; exact fun D w1 hw1 => HDu w1)) | ((with_reducible apply tl_id); first | (with_reducible apply tl_nil) | ((with_reducible apply u_q); (iterate 4 exact rfl))) | ((with_reducible apply rd_id); first | (apply Rd.own; (repeat (first | exact P0 | apply P1)); exact rfl; done)) | ((with_reducible apply t_id); first | (with_reducible apply t_seq) | (apply t_region; kernel_rfl) | ((with_reducible apply t_condT); exact rfl) | (with_reducible apply t_ret)) | with_reducible apply q_thenN | with_reducible apply q_thenR | exact Rdn.zero | apply Rdn.succ | (with_reducible apply end_ret) | exact rvs_nil | (with_reducible apply rvs_cons) | ((with_reducible apply rv_tmp); exact rfl))
    all_goals exact hbad hp0 _
  rw [if_pos hp0] at hEq
  refine t_cut (ι := Unit) (fun _ => [(1, .slice A n c), (2, .int .i64 mem), (3, .slice AT m cT), (4, .pointer (some ⟨b4, 0, none⟩))]) (fun _ => [(b4, [.int .i64 d.most, .int .i64 d.rest, .int .i64 d.win, .int .i64 d.sum], some (74, 4, 1))]) (fun _ => True) ?_ ?_
  · repeat' (first | ((with_reducible apply oq_id); first | ((with_reducible apply oq_neqF); exact rfl; exact rfl; omega) | (apply oq_fn; exact rfl; try first | exact trivial | (and_intros <;> omega)) | ((with_reducible apply oq_loadAgg); exact rfl; exact rfl) | ((with_reducible apply oq_call (k := 45) (hc := Try.call45)); exact rfl; exact rfl; exact fun D w1 hw1 => HDu w1)) | ((with_reducible apply tl_id); first | (with_reducible apply tl_nil) | ((with_reducible apply u_q); (iterate 4 exact rfl))) | ((with_reducible apply rd_id); first | (apply Rd.own; (repeat (first | exact P0 | apply P1)); exact rfl; done)) | ((with_reducible apply t_id); first | (with_reducible apply t_seq) | (apply t_region; kernel_rfl) | ((with_reducible apply t_condF); exact rfl) | (with_reducible apply t_skip)) | with_reducible apply q_thenN | exact Rdn.zero | apply Rdn.succ)
    all_goals exact ⟨rfl, (), trivial, by (repeat (first | exact FrSub.nil | (apply FrSub.cons; exact rfl))), by (repeat (first | exact HpSub.refl _ | (apply HpSub.consE; (repeat (first | exact P0 | apply P1 | apply PA)); exact rfl) | apply hp_appC | apply HpSub.skipX | exact hp_left | apply hp_skipApp | exact HpSub.nil))⟩
  rintro ⟨⟩ -
  by_cases hq0 : q' = 0
  rotate_left
  · subst hEq
    rw [if_neg hq0] at hEd
    subst hEd
    repeat' (first | ((with_reducible apply oq_id); first | ((with_reducible apply oq_neqT); exact rfl; exact rfl; omega) | (apply oq_fn; exact rfl; try first | exact trivial | (and_intros <;> omega)) | ((with_reducible apply oq_call (k := 47) (hc := Try.call47)); exact rfl; exact rfl; exact fun D w1 hw1 => HRo w1 (hr.ext hw1.ext.ext))) | ((with_reducible apply tl_id); first | (with_reducible apply tl_nil) | ((with_reducible apply u_q); (iterate 4 exact rfl))) | ((with_reducible apply t_id); first | (with_reducible apply t_seq) | (apply t_region; kernel_rfl) | ((with_reducible apply t_condT); exact rfl) | (with_reducible apply t_ret)) | with_reducible apply q_thenN | with_reducible apply q_thenR | (with_reducible apply end_ret) | exact rvs_nil | (with_reducible apply rvs_cons) | ((with_reducible apply rv_tmp); exact rfl))
    all_goals exact hbad hq0 _
  rw [if_pos (by omega)] at hEd
  refine t_cut (ι := Unit) (fun _ => [(1, .slice A n c), (2, .int .i64 mem), (3, .slice AT m cT), (4, .pointer (some ⟨b4, 0, none⟩))]) (fun _ => [(b4, [.int .i64 d.most, .int .i64 d.rest, .int .i64 d.win, .int .i64 d.sum], some (74, 4, 1))]) (fun _ => True) ?_ ?_
  · repeat' (first | ((with_reducible apply oq_id); first | ((with_reducible apply oq_neqF); exact rfl; exact rfl; omega) | (apply oq_fn; exact rfl; try first | exact trivial | (and_intros <;> omega)) | ((with_reducible apply oq_call (k := 47) (hc := Try.call47)); exact rfl; exact rfl; exact fun D w1 hw1 => HRo w1 (hr.ext hw1.ext.ext))) | ((with_reducible apply tl_id); first | (with_reducible apply tl_nil) | ((with_reducible apply u_q); (iterate 4 exact rfl))) | ((with_reducible apply t_id); first | (with_reducible apply t_seq) | (apply t_region; kernel_rfl) | ((with_reducible apply t_condF); exact rfl) | (with_reducible apply t_skip)) | with_reducible apply q_thenN)
    all_goals exact ⟨rfl, (), trivial, by (repeat (first | exact FrSub.nil | (apply FrSub.cons; exact rfl))), by (repeat (first | exact HpSub.refl _ | (apply HpSub.consE; (repeat (first | exact P0 | apply P1 | apply PA)); exact rfl) | apply hp_appC | apply HpSub.skipX | exact hp_left | apply hp_skipApp | exact HpSub.nil))⟩
  rintro ⟨⟩ -
  by_cases h1 : q = true
  rotate_left
  · obtain rfl : q = false := by cases q; rfl; exact absurd rfl h1
    rw [if_neg (fun h => h1 (hqe.2 h))] at hEd
    subst hEd
    repeat' (first | ((with_reducible apply oq_id); first | (apply oq_fn; exact rfl; try first | exact trivial | (and_intros <;> omega)) | ((with_reducible apply oq_call (k := 66) (hc := Try.call66)); exact rfl; exact rfl; exact fun D w1 hw1 => withinQ hq w1)) | ((with_reducible apply tl_id); first | (with_reducible apply tl_nil) | ((with_reducible apply u_q); (iterate 4 exact rfl))) | ((with_reducible apply t_id); first | (with_reducible apply t_seq) | (apply t_region; kernel_rfl) | ((with_reducible apply t_condT); exact rfl) | (with_reducible apply t_ret)) | with_reducible apply q_thenN | with_reducible apply q_thenR | (with_reducible apply end_ret) | exact rvs_nil | (with_reducible apply rvs_cons) | ((with_reducible apply rv_tmp); exact rfl))
    all_goals exact hbad (by decide) _
  subst h1
  have hmem := hqe.1 rfl
  rw [if_pos hmem] at hEd
  refine t_cut (ι := Unit) (fun _ => [(1, .slice A n c), (2, .int .i64 mem), (3, .slice AT m cT), (4, .pointer (some ⟨b4, 0, none⟩))]) (fun _ => [(b4, [.int .i64 d.most, .int .i64 d.rest, .int .i64 d.win, .int .i64 d.sum], some (74, 4, 1))]) (fun _ => True) ?_ ?_
  · repeat' (first | ((with_reducible apply oq_id); first | (apply oq_fn; exact rfl; try first | exact trivial | (and_intros <;> omega)) | ((with_reducible apply oq_call (k := 66) (hc := Try.call66)); exact rfl; exact rfl; exact fun D w1 hw1 => withinQ hq w1)) | ((with_reducible apply tl_id); first | (with_reducible apply tl_nil) | ((with_reducible apply u_q); (iterate 4 exact rfl))) | ((with_reducible apply t_id); first | (with_reducible apply t_seq) | (apply t_region; kernel_rfl) | ((with_reducible apply t_condF); exact rfl) | (with_reducible apply t_skip)) | with_reducible apply q_thenN)
    all_goals exact ⟨rfl, (), trivial, by (repeat (first | exact FrSub.nil | (apply FrSub.cons; exact rfl))), by (repeat (first | exact HpSub.refl _ | (apply HpSub.consE; (repeat (first | exact P0 | apply P1 | apply PA)); exact rfl) | apply hp_appC | apply HpSub.skipX | exact hp_left | apply hp_skipApp | exact HpSub.nil))⟩
  rintro ⟨⟩ -
  by_cases h2 : 4 < ts.length
  · rw [if_pos h2] at hEd
    subst hEd
    repeat' (first | ((with_reducible apply oq_id); first | ((with_reducible apply oq_gtrT); exact rfl; exact rfl; omega) | (apply oq_fn; exact rfl; try first | exact trivial | (and_intros <;> omega))) | ((with_reducible apply tl_id); first | (with_reducible apply tl_nil) | ((with_reducible apply u_q); (iterate 4 exact rfl))) | ((with_reducible apply t_id); first | (with_reducible apply t_seq) | (apply t_region; kernel_rfl) | ((with_reducible apply t_condT); exact rfl) | (with_reducible apply t_ret)) | with_reducible apply q_thenN | with_reducible apply q_thenR | (with_reducible apply end_ret) | exact rvs_nil | (with_reducible apply rvs_cons) | ((with_reducible apply rv_tmp); exact rfl))
    all_goals exact hbad (by decide) _
  rw [if_neg h2] at hEd
  refine t_cut (ι := Unit) (fun _ => [(1, .slice A n c), (2, .int .i64 mem), (3, .slice AT m cT), (4, .pointer (some ⟨b4, 0, none⟩))]) (fun _ => [(b4, [.int .i64 d.most, .int .i64 d.rest, .int .i64 d.win, .int .i64 d.sum], some (74, 4, 1))]) (fun _ => True) ?_ ?_
  · repeat' (first | ((with_reducible apply oq_id); first | ((with_reducible apply oq_gtrF); exact rfl; exact rfl; omega) | (apply oq_fn; exact rfl; try first | exact trivial | (and_intros <;> omega))) | ((with_reducible apply tl_id); first | (with_reducible apply tl_nil) | ((with_reducible apply u_q); (iterate 4 exact rfl))) | ((with_reducible apply t_id); first | (with_reducible apply t_seq) | (apply t_region; kernel_rfl) | ((with_reducible apply t_condF); exact rfl) | (with_reducible apply t_skip)) | with_reducible apply q_thenN)
    all_goals exact ⟨rfl, (), trivial, by (repeat (first | exact FrSub.nil | (apply FrSub.cons; exact rfl))), by (repeat (first | exact HpSub.refl _ | (apply HpSub.consE; (repeat (first | exact P0 | apply P1 | apply PA)); exact rfl) | apply hp_appC | apply HpSub.skipX | exact hp_left | apply hp_skipApp | exact HpSub.nil))⟩
  rintro ⟨⟩ -
  repeat' (first | ((with_reducible apply oq_id); first | (apply oq_fn; exact rfl; try first | exact trivial | (and_intros <;> omega))) | ((with_reducible apply tl_id); first | (with_reducible apply tl_nil) | ((with_reducible apply u_q); (iterate 4 exact rfl))) | ((with_reducible apply t_id); first | (with_reducible apply t_seq) | (apply t_region; kernel_rfl) | (with_reducible apply t_block)) | with_reducible apply q_thenN)
  apply t_loopK (GH := []) (ι := Nat) [1, 2, 3, 4] (fun i => [(12, .int .i64 (i : Nat))]) (fun _ => [(b4, [.int .i64 d.most, .int .i64 d.rest, .int .i64 d.win, .int .i64 d.sum], some (74, 4, 1))]) (fun i => i ≤ m ∧ ∀ j y, j < i → ts[j]? = some y → trOk y) (fun i => m - i) (0)
  (repeat (first | exact KeepF.nil | (apply KeepF.cons; exact rfl) | apply KeepF.skip))
  (repeat (first | exact FrSub.nil | (apply FrSub.cons; exact rfl)))
  ((try simp only [List.append_nil]); (repeat (first | exact HpSub.refl _ | (apply HpSub.consE; (repeat (first | exact P0 | apply P1 | apply PA)); exact rfl) | apply hp_appC | apply HpSub.skipX | exact hp_left | apply hp_skipApp | exact HpSub.nil)))
  · exact ⟨Nat.zero_le _, fun j y h => by omega⟩
  rintro i ⟨hi, hok⟩
  try simp only [List.cons_append, List.nil_append]
  try simp only [List.append_nil]
  by_cases hlt : i < m
  · obtain ⟨b, o, x, rfl, _, hx, c0, c1, c2⟩ := tr_read hrT hlt
    have HTr := fun w1 => trip_calls x w1
    by_cases ho : trOk x
    · rw [decide_eq_true ho] at HTr
      repeat' (first | ((with_reducible apply oq_id); first | ((with_reducible apply oq_addE (k := ((i + 1 : Nat) : Int))); exact rfl; exact rfl; omega) | (focus ((with_reducible apply oq_indexAddrN); (iterate 4 exact rfl); omega)) | ((with_reducible apply oq_lssT); exact rfl; exact rfl; omega) | (apply oq_fn; exact rfl; try first | exact trivial | (and_intros <;> omega)) | ((with_reducible apply oq_loadAgg); exact rfl; exact rfl) | ((with_reducible apply oq_call (k := 90) (hc := Try.call90)); exact rfl; exact rfl; exact fun D w1 hw1 => HTr w1)) | ((with_reducible apply tl_id); first | (with_reducible apply tl_nil) | ((with_reducible apply u_q); (iterate 4 exact rfl))) | ((with_reducible apply rd_id); first | (apply Rd.old; (first | exact c0 | exact c1 | exact c2); exact List.not_mem_nil)) | ((with_reducible apply t_id); first | (with_reducible apply t_seq) | (apply t_region; kernel_rfl) | ((with_reducible apply t_condT); exact rfl) | ((with_reducible apply t_condF); exact rfl) | (with_reducible apply t_skip) | (with_reducible apply t_block)) | with_reducible apply q_thenN | with_reducible apply q_blockN | exact Rdn.zero | apply Rdn.succ)
      all_goals (refine ⟨i + 1, ⟨(by omega), fun j y hj hy => by by_cases hji : j = i; (subst hji; rw [hx] at hy; cases hy; exact ho); exact hok j y (by omega) hy⟩, (by omega), ?_, ?_⟩)
      all_goals first
        | ((repeat (first | exact FrSub.nil | (apply FrSub.cons; exact rfl))); done)
        | exact HpSub.refl _
    · rw [decide_eq_false ho] at HTr
      have hodd := oddI_at hx ho hok
      rw [if_pos (by rw [hodd]; omega)] at hEd
      subst hEd
      repeat' (first | ((with_reducible apply oq_id); first | (focus ((with_reducible apply oq_indexAddrN); (iterate 4 exact rfl); omega)) | ((with_reducible apply oq_lssT); exact rfl; exact rfl; omega) | (apply oq_fn; exact rfl; try first | exact trivial | (and_intros <;> omega)) | ((with_reducible apply oq_loadAgg); exact rfl; exact rfl) | ((with_reducible apply oq_call (k := 90) (hc := Try.call90)); exact rfl; exact rfl; exact fun D w1 hw1 => HTr w1)) | ((with_reducible apply tl_id); first | (with_reducible apply tl_nil) | ((with_reducible apply u_q); (iterate 4 exact rfl))) | ((with_reducible apply rd_id); first | (apply Rd.old; (first | exact c0 | exact c1 | exact c2); exact List.not_mem_nil)) | ((with_reducible apply t_id); first | (with_reducible apply t_seq) | (apply t_region; kernel_rfl) | ((with_reducible apply t_condT); exact rfl) | (with_reducible apply t_ret) | (with_reducible apply t_skip) | (with_reducible apply t_block)) | with_reducible apply q_thenN | with_reducible apply q_thenR | with_reducible apply q_blockR | exact Rdn.zero | apply Rdn.succ | (with_reducible apply end_ret) | exact rvs_nil | (with_reducible apply rvs_cons) | ((with_reducible apply rv_tmp); exact rfl))
      all_goals exact hbad (by decide) _
  obtain rfl : i = m := by omega
  have hto : ∀ x ∈ ts, trOk x := fun x hx => by
    obtain ⟨j, hj, rfl⟩ := List.getElem_of_mem hx
    exact hok j _ (by omega) (List.getElem?_eq_getElem hj)
  have hodd := oddI_neg.2 hto
  rw [if_neg (by omega)] at hEd
  obtain ⟨hd, hl40, hRos⟩ := tiE_ok (hE0.trans (by omega))
  obtain ⟨mm, rfl⟩ : ∃ k : Nat, mem = (k : Int) := ⟨mem.toNat, by omega⟩
  have hman := asgN_man (d := d) (l := l) (mem := (mm : Int)) hto (by omega)
  rw [show (mm : Int).toNat = mm from rfl] at hman
  rw [hman] at hEd
  obtain ⟨N, hN⟩ : ∃ N, manF d mm ts l = N := ⟨_, rfl⟩
  rw [hN] at hEd
  cases N with
  | none =>
    simp only [Option.isSome_none, Bool.false_eq_true, if_false] at hEd
    subst hEd
    repeat' (first | ((with_reducible apply oq_id); first | ((with_reducible apply oq_lssF); exact rfl; exact rfl; omega) | (apply oq_fn; exact rfl; try first | exact trivial | (and_intros <;> omega)) | ((with_reducible apply oq_loadAgg); exact rfl; exact rfl)) | ((with_reducible apply tl_id); first | (with_reducible apply tl_nil) | ((with_reducible apply u_s); (iterate 3 exact rfl); (with_reducible apply os_callF (PV := ManP none) (k := 91) (hc := Try.call91)); exact rfl; exact rfl; exact fun D w1 hw1 => (by rw [← hN]; exact manned_T d hd mm (by omega) ts l A n c AT i cT w1 hto (by omega) (hr.ext hw1.ext.ext) (hrT.ext hw1.ext.ext) hcT); rintro v H' hV; obtain ⟨rfl, rfl⟩ := hV; (try simp only [List.nil_append])) | ((with_reducible apply u_q); (iterate 4 exact rfl))) | ((with_reducible apply rd_id); first | (apply Rd.own; (repeat (first | exact P0 | apply P1)); exact rfl; done)) | ((with_reducible apply t_id); first | (with_reducible apply t_seq) | (apply t_region; kernel_rfl) | ((with_reducible apply t_condT); exact rfl) | ((with_reducible apply t_condF); exact rfl) | (with_reducible apply t_ret) | (with_reducible apply t_exit)) | with_reducible apply q_thenN | with_reducible apply q_thenR | with_reducible apply q_thenE | ((with_reducible apply q_blockE); exact rfl) | exact Rdn.zero | apply Rdn.succ | (with_reducible apply end_ret) | exact rvs_nil | (with_reducible apply rvs_cons) | ((with_reducible apply rv_tmp); exact rfl))
    all_goals exact hbad (by decide) _
  | some N =>
    simp only [Option.isSome_some, if_true] at hEd
    have hLL : asgL d l mm ts = N := by unfold asgL; rw [if_pos (hE.trans hEd.symm), hman, hN]; rfl
    repeat' (first | ((with_reducible apply oq_id); first | ((with_reducible apply oq_lssF); exact rfl; exact rfl; omega) | (apply oq_fn; exact rfl; try first | exact trivial | (and_intros <;> omega)) | ((with_reducible apply oq_loadAgg); exact rfl; exact rfl)) | ((with_reducible apply tl_id); first | (with_reducible apply tl_nil) | ((with_reducible apply u_s); (iterate 3 exact rfl); (with_reducible apply os_callF (PV := ManP (some N)) (k := 91) (hc := Try.call91)); exact rfl; exact rfl; exact fun D w1 hw1 => (by rw [← hN]; exact manned_T d hd mm (by omega) ts l A n c AT i cT w1 hto (by omega) (hr.ext hw1.ext.ext) (hrT.ext hw1.ext.ext) hcT); rintro v H' hV; obtain ⟨o2, R2, hS, rfl, rfl⟩ := hV) | ((with_reducible apply u_q); (iterate 4 exact rfl))) | ((with_reducible apply rd_id); first | (apply Rd.own; (repeat (first | exact P0 | apply P1)); exact rfl; done)) | ((with_reducible apply t_id); first | (with_reducible apply t_seq) | (apply t_region; kernel_rfl) | ((with_reducible apply t_condF); exact rfl) | (with_reducible apply t_ret) | (with_reducible apply t_skip) | (with_reducible apply t_exit)) | with_reducible apply q_thenN | with_reducible apply q_thenE | ((with_reducible apply q_blockE); exact rfl) | exact Rdn.zero | apply Rdn.succ | (with_reducible apply end_ret) | exact rvs_nil | (with_reducible apply rvs_cons) | ((with_reducible apply rv_tmp); exact rfl))
    all_goals exact ⟨_, .inr ⟨hE.trans hEd.symm, o2, R2, ⟨hS.1, by rw [hLL]; exact hS.2.1, hS.2.2⟩, rfl, rfl⟩, by first | exact hp_leftX _ _ | (repeat (first | exact HpSub.refl _ | (apply HpSub.consE; (repeat (first | exact P0 | apply P1 | apply PA)); exact rfl) | apply hp_appC | apply HpSub.skipX | exact hp_left | apply hp_skipApp | exact HpSub.nil))⟩
end Go.Proofs.Ytmlmgipngbndgaa
