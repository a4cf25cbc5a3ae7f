/- A part of the proof: rules for walks, and contracts of functions (4). -/
import Derived.Test.YtmlmgipngbndgaaX8C
import Derived.Test.YtmlmgipngbndgaaX8B
import Derived.Recover
set_option linter.unusedVariables false
set_option linter.unusedSimpArgs false
set_option maxRecDepth 100000
set_option maxHeartbeats 2000000
namespace Go.Proofs.Ytmlmgipngbndgaa
open Go.RowKit
attribute [local irreducible] OQ OS OX Rd T TL GX GL AL AI RV wpG SAny Calls
theorem hp_left {G R : Hp} : HpSub (G ++ R) G := by
  induction G with
  | nil => exact HpSub.nil
  | cons x G ih => obtain ⟨b, C, g⟩ := x; exact HpSub.cons P0 ih
def tiB (l : List Ti) : List Value := (l.map tiCells).flatten
theorem tiB_len (l : List Ti) : (tiB l).length = l.length * 3 := flat_len (s := 3) (fun _ => rfl) l
theorem tiB_app (l m : List Ti) : tiB (l ++ m) = tiB l ++ tiB m := by unfold tiB; rw [List.map_append, List.flatten_append]
/-- What tired hands out. -/
def TiO (T : List Ti) (v : Value) (H : Hp) : Prop := ∃ x, (x = none → T.length = 0) ∧ v = .slice (clA x) T.length (clC x) ∧ H = clH 99 3 (tiB T) x
def ArrP (S : List Sh) (v : Value) (H : Hp) : Prop := ∃ x, (x = none → S.length = 0) ∧ S.length ≤ clC x ∧ v = .slice (clA x) S.length (clC x) ∧ H = clH 101 3 (shB S) x
theorem arrangedP_T (A : Option Addr) (n c : Nat) (l : List Sh) (w : World) (hr : RdS w 3 A n (l.map shCells)) (hA : A = none → n = 0 ∧ c = 0) (hn : n ≤ 1000000) :
    Calls Try.prog 110 #[.slice A n c, .func (.func 111) #[] #[]] w fun e w' => ∃ v H', e = .returned v ∧ ArrP (srtS l) v H' ∧ Has w ⟨[], []⟩ H' w' :=
  (arranged_T A n c l w hr hA hn).mono fun e w' ⟨v, H', h1, ⟨x, h2, h3, h4⟩, h5⟩ => ⟨v, H', h1, ⟨x, h2, by
    rcases x with _ | ⟨g, cp⟩
    · rw [h2 rfl]; exact Nat.zero_le _
    · subst h4
      have := h5.capge P0
      rw [sh_flat_len] at this
      simp only [clC]
      omega, h3, h4⟩, h5⟩
/-- The minutes so far. -/
def wkJ (S : List Sh) (i : Nat) (x : Sh) (win : Int) (j : Nat) : Int := (((S.drop i).take j).map (minT x win)).sum
theorem wkJ_succ {S : List Sh} {i j : Nat} {x y : Sh} {win : Int} (h : S[i + j]? = some y) : wkJ S i x win (j + 1) = wkJ S i x win j + minT x win y := by
  unfold wkJ
  rw [List.take_add_one, List.getElem?_drop, h]
  simp
theorem wkJ_all {S : List Sh} {i : Nat} {x : Sh} {win : Int} {j : Nat} (h : S.length ≤ i + j) : wkJ S i x win j = workT S i x win := by
  unfold wkJ workT
  rw [List.take_of_length_le (by simp; omega)]
theorem wkJ_in {S : List Sh} (hS : ∀ y ∈ S, shOk y) {i : Nat} {x : Sh} {win : Int} : ∀ {j : Nat}, i + j ≤ S.length → 0 ≤ wkJ S i x win j ∧ wkJ S i x win j ≤ (j : Int) * 1000000
  | 0, _ => by simp [wkJ]
  | j + 1, h => by
    obtain ⟨y, hy⟩ : ∃ y, S[i + j]? = some y := ⟨_, List.getElem?_eq_getElem (by omega)⟩
    have ih := wkJ_in hS (i := i) (x := x) (win := win) (show i + j ≤ S.length by omega)
    have ho := hS y (List.mem_of_getElem? hy)
    unfold shOk at ho
    rw [wkJ_succ hy]
    have : 0 ≤ minT x win y ∧ minT x win y ≤ 1000000 := by unfold minT; split <;> omega
    rw [show ((j + 1 : Nat) : Int) * 1000000 = (j : Int) * 1000000 + 1000000 by omega]
    omega
/-- The first k kinds of cases of a shift. -/
def casK (a b c : Bool) (x : Sh) : Nat → List Ti
  | 0 => []
  | 1 => (if a then [⟨1, x.who, x.fr⟩] else [])
  | 2 => (if a then [⟨1, x.who, x.fr⟩] else []) ++ (if b then [⟨2, x.who, x.fr⟩] else [])
  | _ => (if a then [⟨1, x.who, x.fr⟩] else []) ++ ((if b then [⟨2, x.who, x.fr⟩] else []) ++ (if c then [⟨3, x.who, x.fr⟩] else []))
theorem casK_all {d : Du} {S : List Sh} {i : Nat} {x : Sh} {a b c : Bool} (ha : a = decide (x.to - x.fr > d.most)) (hb : b = restB d S i x) (hc : c = decide (workV S x.who x.fr (x.fr + d.win) > d.sum)) : casK a b c x 3 = casV d S i x := by
  subst ha hb hc
  unfold casK casV
  simp only [decide_eq_true_eq]
theorem casK_len (a b c : Bool) (x : Sh) (k : Nat) : (casK a b c x k).length ≤ 3 := by
  rcases k with _ | _ | _ | k <;> cases a <;> cases b <;> cases c <;> simp [casK]
theorem tiTo_len (d : Du) (S : List Sh) : ∀ k, (tiTo d S k).length ≤ 3 * k
  | 0 => Nat.le_refl _
  | k + 1 => by
    show (tiTo d S k ++ casAt d S k).length ≤ _
    rw [List.length_append]
    have := tiTo_len d S k
    have : (casAt d S k).length ≤ 3 := by
      unfold casAt
      split
      · rename_i x _
        rw [← casK_all (d := d) (S := S) (i := k) (x := x) rfl rfl rfl]
        exact casK_len _ _ _ _ _
      · exact Nat.zero_le _
    omega
theorem tiredR_T (d : Du) (hd : duB d) (A : Option Addr) (n c : Nat) (l : List Sh) (w : World) (hr : RdS w 3 A n (l.map shCells)) (hA : A = none → n = 0 ∧ c = 0) (hn : n ≤ 1000) (hRos : Ros l) :
    Calls Try.prog 82 #[.agg #[.int .i64 d.most, .int .i64 d.rest, .int .i64 d.win, .int .i64 d.sum], .slice A n c] w fun e w' => ∃ v H', e = .returned v ∧ TiO (tiV d l) v H' ∧ Has w ⟨[], []⟩ H' w' := by
  have hl := hr.len
  simp only [List.length_map] at hl
  obtain ⟨S, hS⟩ : ∃ S, srtS l = S := ⟨_, rfl⟩
  have hsl : S.length = n := by rw [← hS, srtS, srt_len, hl]
  have hfit : Fit S := by rw [← hS]; exact (fitS_iff l).2 hRos
  have hsrt : Srt ltS S := by rw [← hS]; exact srt_srt woS l
  have hall : ∀ y ∈ S, shOk y := fun y hy => hRos.1 y ((srt_perm l).mem_iff.1 (by rw [← hS] at hy; exact hy))
  have hti : tiV d l = tiTo d S n := by unfold tiV; rw [hS, hl]
  obtain ⟨⟨dm1, dm2⟩, ⟨dr1, dr2⟩, ⟨dw1, dw2⟩, ds1, ds2⟩ := hd
  refine enterF (c := cx w 114) Try.func82 rfl rfl rfl rfl ?_
  refine t_cut (ι := Nat) (fun b2 => [(1, .slice A n c), (2, .pointer (some ⟨b2, 0, none⟩))]) (fun b2 => [(b2, [.int .i64 d.most, .int .i64 d.rest, .int .i64 d.win, .int .i64 d.sum], some (74, 4, 1))]) (fun _ => True) ?_ ?_
  · repeat' (first | ((with_reducible apply oq_id); first | (apply oq_fn; exact rfl; try first | exact trivial | (and_intros <;> omega))) | ((with_reducible apply tl_id); first | (with_reducible apply tl_nil) | ((with_reducible apply u_q); (iterate 4 exact rfl)) | ((with_reducible apply u_s); (iterate 3 exact rfl))) | ((with_reducible apply os_x); exact rfl) | ((with_reducible apply ox_boxAgg); exact rfl; intro _) | ((with_reducible apply t_id); first | (apply t_region; kernel_rfl)))
    all_goals exact ⟨rfl, _, trivial, by (repeat (first | exact FrSub.nil | (apply FrSub.cons; exact rfl))), by (repeat (first | exact HpSub.refl _ | (apply HpSub.consE; (repeat (first | exact P0 | apply P1 | apply PA)); exact rfl) | exact HpSub.nil))⟩
  rintro b2 -
  refine t_cut (ι := Unit) (fun _ => [(1, .slice A n c), (2, .pointer (some ⟨b2, 0, none⟩)), (5, .slice none 0 0)]) (fun _ => [(b2, [.int .i64 d.most, .int .i64 d.rest, .int .i64 d.win, .int .i64 d.sum], some (74, 4, 1))]) (fun _ => True) ?_ ?_
  · repeat' (first | ((with_reducible apply oq_id); first | (apply oq_fn; exact rfl; try first | exact trivial | (and_intros <;> omega))) | ((with_reducible apply tl_id); first | (with_reducible apply tl_nil) | ((with_reducible apply u_q); (iterate 4 exact rfl))) | ((with_reducible apply t_id); first | (apply t_region; kernel_rfl)))
    all_goals exact ⟨rfl, (), trivial, by (repeat (first | exact FrSub.nil | (apply FrSub.cons; exact rfl))), by (repeat (first | exact HpSub.refl _ | (apply HpSub.consE; (repeat (first | exact P0 | apply P1 | apply PA)); exact rfl) | exact HpSub.nil))⟩
  rintro ⟨⟩ -
  refine t_cut (ι := Option (Nat × Nat)) (fun x => [(1, .slice (clA x) n (clC x)), (2, .pointer (some ⟨b2, 0, none⟩)), (5, .slice none 0 0)]) (fun x => clH 101 3 (shB S) x ++ [(b2, [.int .i64 d.most, .int .i64 d.rest, .int .i64 d.win, .int .i64 d.sum], some (74, 4, 1))]) (fun x => (x = none → n = 0) ∧ n ≤ clC x) ?_ ?_
  · repeat' (first | ((with_reducible apply oq_id); first | (apply oq_fn; exact rfl; try first | exact trivial | (and_intros <;> omega))) | ((with_reducible apply tl_id); first | (with_reducible apply tl_nil) | ((with_reducible apply u_s); (iterate 3 exact rfl); (with_reducible apply os_callF (PV := ArrP S) (k := 110) (hc := Try.call110)); exact rfl; exact rfl; exact fun D w1 hw1 => (by rw [← hS]; exact arrangedP_T A n c l w1 (hr.ext hw1.ext.ext) hA (by omega)); rintro v H' ⟨x, hx, hcx, rfl, rfl⟩; (try simp only [List.append_nil])) | ((with_reducible apply u_q); (iterate 4 exact rfl))) | ((with_reducible apply t_id); first | (apply t_region; kernel_rfl)))
    all_goals (rw [hsl] at hx hcx)
    all_goals exact ⟨by trivial, x, ⟨hx, hcx⟩, by (rw [hsl]; (repeat (first | exact FrSub.nil | (apply FrSub.cons; exact rfl)))), by (repeat (first | exact HpSub.refl _ | (apply HpSub.consE; (repeat (first | exact P0 | apply P1 | apply PA)); exact rfl) | apply HpSub.appC | apply HpSub.skipX | apply HpSub.skip | apply HpSub.skipApp | exact HpSub.nil))⟩
  rintro x ⟨hx, hcx⟩
  rcases x with _ | ⟨g, cp⟩
  · obtain rfl := hx rfl
    simp only [clA, clC, clH, List.nil_append]
    rw [hti]
    repeat' (first | ((with_reducible apply oq_id); first | (apply oq_fn; exact rfl; try first | exact trivial | (and_intros <;> omega))) | ((with_reducible apply tl_id); first | (with_reducible apply tl_nil) | ((with_reducible apply u_q); (iterate 4 exact rfl))) | ((with_reducible apply t_id); first | (with_reducible apply t_seq) | (apply t_region; kernel_rfl) | (with_reducible apply t_block)) | with_reducible apply q_thenN)
    apply t_loopK (ι := Unit) [1, 2, 16, 17] (fun _ => [(18, .int .i64 0), (5, .slice none 0 0)]) (fun _ => []) (fun _ => True) (fun _ => 0) (())
    (repeat (first | exact KeepF.nil | (apply KeepF.cons; exact rfl) | apply KeepF.skip))
    (repeat (first | exact FrSub.nil | (apply FrSub.cons; exact rfl)))
    (repeat (first | exact HpSub.refl _ | (apply HpSub.consE; (repeat (first | exact P0 | apply P1 | apply PA)); exact rfl) | exact HpSub.nil))
    · trivial
    rintro ⟨⟩ -
    repeat' (first | ((with_reducible apply oq_id); first | ((with_reducible apply oq_lssF); exact rfl; exact rfl; omega) | (apply oq_fn; exact rfl; try first | exact trivial | (and_intros <;> omega))) | ((with_reducible apply tl_id); first | (with_reducible apply tl_nil) | ((with_reducible apply u_q); (iterate 4 exact rfl))) | ((with_reducible apply t_id); first | (with_reducible apply t_seq) | (apply t_region; kernel_rfl) | ((with_reducible apply t_condF); exact rfl) | (with_reducible apply t_ret) | (with_reducible apply t_exit)) | with_reducible apply q_thenN | with_reducible apply q_thenE | ((with_reducible apply q_blockE); exact rfl) | (with_reducible apply end_ret) | exact rvs_nil | (with_reducible apply rvs_cons) | ((with_reducible apply rv_tmp); exact rfl))
    all_goals exact ⟨_, ⟨none, fun _ => rfl, rfl, rfl⟩, HpSub.nil⟩
  simp only [clA, clC, clH, List.cons_append, List.nil_append] at hcx ⊢
  repeat' (first | ((with_reducible apply oq_id); first | (apply oq_fn; exact rfl; try first | exact trivial | (and_intros <;> omega))) | ((with_reducible apply tl_id); first | (with_reducible apply tl_nil) | ((with_reducible apply u_q); (iterate 4 exact rfl))) | ((with_reducible apply t_id); first | (with_reducible apply t_seq) | (apply t_region; kernel_rfl) | (with_reducible apply t_block)) | with_reducible apply q_thenN)
  apply t_loopK (GH := []) (ι := Nat × Option (Nat × Nat)) [1, 2, 16, 17] (fun z => [(18, .int .i64 (z.1 : Nat)), (5, .slice (clA z.2) (tiTo d S z.1).length (clC z.2))]) (fun z => clH 99 3 (tiB (tiTo d S z.1)) z.2 ++ [(g, shB S, some (101, 3, cp)), (b2, [.int .i64 d.most, .int .i64 d.rest, .int .i64 d.win, .int .i64 d.sum], some (74, 4, 1))]) (fun z => z.1 ≤ n ∧ (z.2 = none → (tiTo d S z.1).length = 0)) (fun z => n - z.1) ((0, none))
  (repeat (first | exact KeepF.nil | (apply KeepF.cons; exact rfl) | apply KeepF.skip))
  (repeat (first | exact FrSub.nil | (apply FrSub.cons; exact rfl) | (apply FrSub.consE; exact rfl; (congr 1))))
  ((try simp only [List.append_nil]); (repeat (first | exact HpSub.refl _ | (apply HpSub.consE; (repeat (first | exact P0 | apply P1 | apply PA)); exact rfl) | apply HpSub.appC | apply HpSub.skipX | apply HpSub.skip | apply HpSub.skipApp | exact HpSub.nil)))
  · exact ⟨Nat.zero_le _, fun _ => rfl⟩
  rintro ⟨i, o⟩ ⟨hi, ho⟩
  simp only at hi ho
  simp only [List.append_nil]
  have htl := tiTo_len d S i
  by_cases hlt : i < n
  · obtain ⟨x, hx⟩ : ∃ x, S[i]? = some x := ⟨_, List.getElem?_eq_getElem (by omega)⟩
    have hxo := hall x (List.mem_of_getElem? hx)
    have hxo' := hxo
    unfold shOk at hxo'
    obtain ⟨q0, q1, q2⟩ := sh_at hx
    refine t_cut (ι := Unit) (fun _ => [(1, .slice (some ⟨g, 0, none⟩) n cp), (2, .pointer (some ⟨b2, 0, none⟩)), (16, .slice (some ⟨g, 0, none⟩) n cp), (17, .int .i64 (n : Nat)), (18, .int .i64 (i : Nat)), (5, .slice (clA o) (tiTo d S i).length (clC o)), (19, .bool true)]) (fun _ => clH 99 3 (tiB (tiTo d S i)) o ++ [(g, shB S, some (101, 3, cp)), (b2, [.int .i64 d.most, .int .i64 d.rest, .int .i64 d.win, .int .i64 d.sum], some (74, 4, 1))]) (fun _ => True) ?_ ?_
    · repeat' (first | ((with_reducible apply oq_lssT); exact rfl; exact rfl; omega) | ((with_reducible apply tl_id); first | (with_reducible apply tl_nil) | ((with_reducible apply u_q); (iterate 4 exact rfl))) | ((with_reducible apply t_id); first | (apply t_region; kernel_rfl)))
      all_goals exact ⟨rfl, (), trivial, by (repeat (first | exact FrSub.nil | (apply FrSub.cons; exact rfl))), by (repeat (first | exact HpSub.refl _ | (apply HpSub.consE; (repeat (first | exact P0 | apply P1 | apply PA)); exact rfl) | apply HpSub.skipX | apply HpSub.skip | exact HpSub.nil))⟩
    rintro ⟨⟩ -
    refine t_cut (ι := Unit) (fun _ => [(1, .slice (some ⟨g, 0, none⟩) n cp), (2, .pointer (some ⟨b2, 0, none⟩)), (16, .slice (some ⟨g, 0, none⟩) n cp), (17, .int .i64 (n : Nat)), (18, .int .i64 (i : Nat)), (5, .slice (clA o) (tiTo d S i).length (clC o))]) (fun _ => clH 99 3 (tiB (tiTo d S i)) o ++ [(g, shB S, some (101, 3, cp)), (b2, [.int .i64 d.most, .int .i64 d.rest, .int .i64 d.win, .int .i64 d.sum], some (74, 4, 1))]) (fun _ => True) ?_ ?_
    · repeat' (first | ((with_reducible apply t_id); first | ((with_reducible apply t_condT); exact rfl) | (with_reducible apply t_skip)))
      all_goals exact ⟨rfl, (), trivial, by (repeat (first | exact FrSub.nil | (apply FrSub.cons; exact rfl))), by (repeat (first | exact HpSub.refl _ | (apply HpSub.consE; (repeat (first | exact P0 | apply P1 | apply PA)); exact rfl) | apply HpSub.skipX | apply HpSub.skip | exact HpSub.nil))⟩
    rintro ⟨⟩ -
    refine t_cut (ι := Option (Nat × Nat)) (fun o => [(1, .slice (some ⟨g, 0, none⟩) n cp), (2, .pointer (some ⟨b2, 0, none⟩)), (16, .slice (some ⟨g, 0, none⟩) n cp), (17, .int .i64 (n : Nat)), (18, .int .i64 (i : Nat)), (5, .slice (clA o) (tiTo d S (i + 1)).length (clC o))]) (fun o => clH 99 3 (tiB (tiTo d S (i + 1))) o ++ [(g, shB S, some (101, 3, cp)), (b2, [.int .i64 d.most, .int .i64 d.rest, .int .i64 d.win, .int .i64 d.sum], some (74, 4, 1))]) (fun o => o = none → (tiTo d S (i + 1)).length = 0) ?_ ?_
    · refine t_block ?_
      refine t_cut (ι := Nat) (fun b7 => [(1, .slice (some ⟨g, 0, none⟩) n cp), (2, .pointer (some ⟨b2, 0, none⟩)), (16, .slice (some ⟨g, 0, none⟩) n cp), (17, .int .i64 (n : Nat)), (18, .int .i64 (i : Nat)), (5, .slice (clA o) (tiTo d S i).length (clC o)), (6, .int .i64 (i : Nat)), (7, .pointer (some ⟨b7, 0, none⟩))]) (fun b7 => (b7, [.int .i64 x.who, .int .i64 x.fr, .int .i64 x.to], some (101, 3, 1)) :: (clH 99 3 (tiB (tiTo d S i)) o ++ [(g, shB S, some (101, 3, cp)), (b2, [.int .i64 d.most, .int .i64 d.rest, .int .i64 d.win, .int .i64 d.sum], some (74, 4, 1))])) (fun _ => True) ?_ ?_
      · repeat' (first | ((with_reducible apply oq_id); first | (focus ((with_reducible apply oq_indexAddrN); (iterate 4 exact rfl); omega)) | (apply oq_fn; exact rfl; try first | exact trivial | (and_intros <;> omega)) | ((with_reducible apply oq_loadAgg); exact rfl; exact rfl)) | ((with_reducible apply tl_id); first | (with_reducible apply tl_nil) | ((with_reducible apply u_q); (iterate 4 exact rfl)) | ((with_reducible apply u_s0); exact rfl; exact rfl) | ((with_reducible apply u_s); (iterate 3 exact rfl))) | ((with_reducible apply os_id); first | ((with_reducible apply os_x); exact rfl) | ((with_reducible apply os_storeAgg); (iterate 5 exact rfl))) | ((with_reducible apply ox_alloc); exact rfl; intro _) | ((with_reducible apply rd_id); first | (apply Rd.own; (repeat (first | exact P0 | apply P1 | apply PA)); first | exact q0 | exact q1 | exact q2 | exact r0 | exact r1 | exact r2; done)) | ((with_reducible apply t_id); first | (apply t_region; kernel_rfl)) | exact P0 | exact Rdn.zero | apply Rdn.succ | ((with_reducible apply Norm.nil); exact rfl) | ((with_reducible apply Norm.cons); exact rfl) | exact Nat.le_of_ble_eq_true rfl)
        all_goals exact ⟨rfl, _, trivial, by (repeat (first | exact FrSub.nil | (apply FrSub.cons; exact rfl))), by (repeat (first | exact HpSub.refl _ | (apply HpSub.consE; (repeat (first | exact P0 | apply P1 | apply PA)); exact rfl) | apply HpSub.appC | apply HpSub.skipX | apply HpSub.skip | apply HpSub.skipApp | exact HpSub.nil))⟩
      rintro b7 -
      refine t_cut (ι := Unit) (fun _ => [(1, .slice (some ⟨g, 0, none⟩) n cp), (2, .pointer (some ⟨b2, 0, none⟩)), (16, .slice (some ⟨g, 0, none⟩) n cp), (17, .int .i64 (n : Nat)), (18, .int .i64 (i : Nat)), (5, .slice (clA o) (tiTo d S i).length (clC o)), (6, .int .i64 (i : Nat)), (7, .pointer (some ⟨b7, 0, none⟩)), (8, .int .i64 0)]) (fun _ => (b7, [.int .i64 x.who, .int .i64 x.fr, .int .i64 x.to], some (101, 3, 1)) :: (clH 99 3 (tiB (tiTo d S i)) o ++ [(g, shB S, some (101, 3, cp)), (b2, [.int .i64 d.most, .int .i64 d.rest, .int .i64 d.win, .int .i64 d.sum], some (74, 4, 1))])) (fun _ => True) ?_ ?_
      · repeat' (first | ((with_reducible apply oq_id); first | (apply oq_fn; exact rfl; try first | exact trivial | (and_intros <;> omega))) | ((with_reducible apply tl_id); first | (with_reducible apply tl_nil) | ((with_reducible apply u_q); (iterate 4 exact rfl))) | ((with_reducible apply t_id); first | (apply t_region; kernel_rfl)))
        all_goals exact ⟨rfl, (), trivial, by (repeat (first | exact FrSub.nil | (apply FrSub.cons; exact rfl))), by (repeat (first | exact HpSub.refl _ | (apply HpSub.consE; (repeat (first | exact P0 | apply P1 | apply PA)); exact rfl) | apply HpSub.skipX | apply HpSub.skip | exact HpSub.nil))⟩
      rintro ⟨⟩ -
      refine t_cut (ι := Unit) (fun _ => [(1, .slice (some ⟨g, 0, none⟩) n cp), (2, .pointer (some ⟨b2, 0, none⟩)), (16, .slice (some ⟨g, 0, none⟩) n cp), (17, .int .i64 (n : Nat)), (18, .int .i64 (i : Nat)), (5, .slice (clA o) (tiTo d S i).length (clC o)), (6, .int .i64 (i : Nat)), (7, .pointer (some ⟨b7, 0, none⟩)), (8, .int .i64 (workT S i x d.win))]) (fun _ => (b7, [.int .i64 x.who, .int .i64 x.fr, .int .i64 x.to], some (101, 3, 1)) :: (clH 99 3 (tiB (tiTo d S i)) o ++ [(g, shB S, some (101, 3, cp)), (b2, [.int .i64 d.most, .int .i64 d.rest, .int .i64 d.win, .int .i64 d.sum], some (74, 4, 1))])) (fun _ => True) ?_ ?_
      · repeat' (first | ((with_reducible apply oq_id); first | (focus ((with_reducible apply oq_sliceL (l := i)); (iterate 4 exact rfl); omega; omega; omega)) | (apply oq_fn; exact rfl; try first | exact trivial | (and_intros <;> omega))) | ((with_reducible apply tl_id); first | (with_reducible apply tl_nil) | ((with_reducible apply u_q); (iterate 4 exact rfl))) | ((with_reducible apply t_id); first | (with_reducible apply t_seq) | (apply t_region; kernel_rfl) | (with_reducible apply t_block)) | with_reducible apply q_thenN)
        apply t_loopK (GH := []) (ι := Nat) [1, 2, 5, 6, 7, 16, 17, 18, 25, 26] (fun j => [(27, .int .i64 (j : Nat)), (8, .int .i64 (wkJ S i x d.win j))]) (fun _ => (b7, [.int .i64 x.who, .int .i64 x.fr, .int .i64 x.to], some (101, 3, 1)) :: (clH 99 3 (tiB (tiTo d S i)) o ++ [(g, shB S, some (101, 3, cp)), (b2, [.int .i64 d.most, .int .i64 d.rest, .int .i64 d.win, .int .i64 d.sum], some (74, 4, 1))])) (fun j => j ≤ n - i) (fun j => n - i - j) (0)
        (repeat (first | exact KeepF.nil | (apply KeepF.cons; exact rfl) | apply KeepF.skip))
        (repeat (first | exact FrSub.nil | (apply FrSub.cons; exact rfl)))
        ((try simp only [List.append_nil]); (repeat (first | exact HpSub.refl _ | (apply HpSub.consE; (repeat (first | exact P0 | apply P1 | apply PA)); exact rfl) | apply HpSub.appC | apply HpSub.skipX | apply HpSub.skip | apply HpSub.skipApp | exact HpSub.nil)))
        · exact Nat.zero_le _
        rintro j hj
        try simp only [List.cons_append, List.nil_append]
        simp only [List.append_nil]
        have hwin := wkJ_in hall (i := i) (x := x) (win := d.win) (j := j) (by omega)
        by_cases hjl : j < n - i
        · obtain ⟨y, hy⟩ : ∃ y, S[i + j]? = some y := ⟨_, List.getElem?_eq_getElem (by omega)⟩
          have hyo := hall y (List.mem_of_getElem? hy)
          unfold shOk at hyo
          have hsu := wkJ_succ (x := x) (win := d.win) hy
          obtain ⟨r0, r1, r2⟩ := sh_at hy
          rw [show 0 + (i + j) * 3 = 0 + i * 3 + j * 3 by omega] at r0 r1 r2
          unfold minT at hsu
          by_cases hyw : y.who = x.who
          · rw [if_pos hyw] at hsu
            repeat' (first | ((with_reducible apply oq_id); first | (focus ((with_reducible apply oq_indexAddrN); (iterate 4 exact rfl); omega)) | ((with_reducible apply oq_addE (k := wkJ S i x d.win (j + 1))); exact rfl; exact rfl; omega) | ((with_reducible apply oq_lssT); exact rfl; exact rfl; omega) | ((with_reducible apply oq_eqlT); exact rfl; exact rfl; omega) | (apply oq_fn; exact rfl; try first | exact trivial | (and_intros <;> omega)) | ((with_reducible apply oq_load); exact rfl; exact rfl) | ((with_reducible apply oq_loadAgg); exact rfl; exact rfl)) | ((with_reducible apply tl_id); first | (with_reducible apply tl_nil) | ((with_reducible apply u_q); (iterate 4 exact rfl)) | ((with_reducible apply u_s0); exact rfl; exact rfl) | ((with_reducible apply u_s); (iterate 3 exact rfl))) | ((with_reducible apply os_id); first | ((with_reducible apply os_x); exact rfl) | ((with_reducible apply os_storeAgg); (iterate 5 exact rfl))) | ((with_reducible apply ox_alloc); exact rfl; intro _) | ((with_reducible apply rd_id); first | (apply Rd.own; (repeat (first | exact P0 | apply P1 | apply PA)); first | exact q0 | exact q1 | exact q2 | exact r0 | exact r1 | exact r2; done) | (apply Rd.own; (repeat (first | exact P0 | apply P1 | apply PA)); exact rfl; done)) | ((with_reducible apply t_id); first | (with_reducible apply t_seq) | (apply t_region; kernel_rfl) | ((with_reducible apply t_condT); exact rfl) | (with_reducible apply t_skip) | (with_reducible apply t_block)) | with_reducible apply q_thenN | with_reducible apply q_blockN | exact P0 | exact Rdn.zero | apply Rdn.succ | ((with_reducible apply Norm.nil); exact rfl) | ((with_reducible apply Norm.cons); exact rfl) | exact Nat.le_of_ble_eq_true rfl)
            all_goals (refine ⟨j + 1, (by omega), (by omega), ?_, ?_⟩)
            all_goals first
              | ((try simp only [List.cons_append, List.nil_append]); (repeat (first | exact FrSub.nil | (apply FrSub.cons; exact rfl))); done)
              | ((try simp only [List.cons_append, List.nil_append]); (repeat (first | exact HpSub.refl _ | (apply HpSub.consE; (repeat (first | exact P0 | apply P1 | apply PA)); exact rfl) | apply HpSub.appC | apply HpSub.skipX | apply HpSub.skip | apply HpSub.skipApp | exact HpSub.nil)); done)
          · rw [if_neg hyw, Int.add_zero] at hsu
            rw [← hsu]
            repeat' (first | ((with_reducible apply oq_id); first | (focus ((with_reducible apply oq_indexAddrN); (iterate 4 exact rfl); omega)) | ((with_reducible apply oq_lssT); exact rfl; exact rfl; omega) | ((with_reducible apply oq_eqlF); exact rfl; exact rfl; omega) | (apply oq_fn; exact rfl; try first | exact trivial | (and_intros <;> omega)) | ((with_reducible apply oq_load); exact rfl; exact rfl) | ((with_reducible apply oq_loadAgg); exact rfl; exact rfl)) | ((with_reducible apply tl_id); first | (with_reducible apply tl_nil) | ((with_reducible apply u_q); (iterate 4 exact rfl)) | ((with_reducible apply u_s0); exact rfl; exact rfl) | ((with_reducible apply u_s); (iterate 3 exact rfl))) | ((with_reducible apply os_id); first | ((with_reducible apply os_x); exact rfl) | ((with_reducible apply os_storeAgg); (iterate 5 exact rfl))) | ((with_reducible apply ox_alloc); exact rfl; intro _) | ((with_reducible apply rd_id); first | (apply Rd.own; (repeat (first | exact P0 | apply P1 | apply PA)); first | exact q0 | exact q1 | exact q2 | exact r0 | exact r1 | exact r2; done) | (apply Rd.own; (repeat (first | exact P0 | apply P1 | apply PA)); exact rfl; done)) | ((with_reducible apply t_id); first | (with_reducible apply t_seq) | (apply t_region; kernel_rfl) | ((with_reducible apply t_condT); exact rfl) | ((with_reducible apply t_condF); exact rfl) | (with_reducible apply t_skip) | (with_reducible apply t_block)) | with_reducible apply q_thenN | with_reducible apply q_blockN | exact P0 | exact Rdn.zero | apply Rdn.succ | ((with_reducible apply Norm.nil); exact rfl) | ((with_reducible apply Norm.cons); exact rfl) | exact Nat.le_of_ble_eq_true rfl)
            all_goals (refine ⟨j + 1, (by omega), (by omega), ?_, ?_⟩)
            all_goals first
              | ((try simp only [List.cons_append, List.nil_append]); (repeat (first | exact FrSub.nil | (apply FrSub.cons; exact rfl))); done)
              | ((try simp only [List.cons_append, List.nil_append]); (repeat (first | exact HpSub.refl _ | (apply HpSub.consE; (repeat (first | exact P0 | apply P1 | apply PA)); exact rfl) | apply HpSub.appC | apply HpSub.skipX | apply HpSub.skip | apply HpSub.skipApp | exact HpSub.nil)); done)
        · have hwa := wkJ_all (S := S) (i := i) (x := x) (win := d.win) (j := j) (by omega)
          rw [hwa]
          repeat' (first | ((with_reducible apply oq_lssF); exact rfl; exact rfl; omega) | ((with_reducible apply tl_id); first | (with_reducible apply tl_nil) | ((with_reducible apply u_q); (iterate 4 exact rfl))) | ((with_reducible apply t_id); first | (with_reducible apply t_seq) | (apply t_region; kernel_rfl) | ((with_reducible apply t_condF); exact rfl) | (with_reducible apply t_exit)) | with_reducible apply q_thenN | with_reducible apply q_thenE | ((with_reducible apply q_blockE); exact rfl))
          all_goals exact ⟨rfl, (), trivial, by (repeat (first | exact FrSub.nil | (apply FrSub.cons; exact rfl))), by (repeat (first | exact HpSub.refl _ | (apply HpSub.consE; (repeat (first | exact P0 | apply P1 | apply PA)); exact rfl) | apply HpSub.appC | apply HpSub.skipX | apply HpSub.skip | apply HpSub.skipApp | exact HpSub.nil))⟩
      rintro ⟨⟩ -
      have hwk := work_eq hsrt hfit hx (w := d.win) (by omega)
      have hwb : 0 ≤ workT S i x d.win ∧ workT S i x d.win ≤ 1000000000 := by
        have h1 := wkJ_all (S := S) (i := i) (x := x) (win := d.win) (j := n - i) (by omega)
        have h2 := wkJ_in hall (i := i) (x := x) (win := d.win) (j := n - i) (by omega)
        rw [h1] at h2
        omega
      obtain ⟨bB, hbB⟩ : ∃ b, restB d S i x = b := ⟨_, rfl⟩
      refine t_cut (ι := Unit) (fun _ => [(1, .slice (some ⟨g, 0, none⟩) n cp), (2, .pointer (some ⟨b2, 0, none⟩)), (16, .slice (some ⟨g, 0, none⟩) n cp), (17, .int .i64 (n : Nat)), (18, .int .i64 (i : Nat)), (5, .slice (clA o) (tiTo d S i).length (clC o)), (6, .int .i64 (i : Nat)), (7, .pointer (some ⟨b7, 0, none⟩)), (8, .int .i64 (workT S i x d.win)), (11, .bool (!bB))]) (fun _ => (b7, [.int .i64 x.who, .int .i64 x.fr, .int .i64 x.to], some (101, 3, 1)) :: (clH 99 3 (tiB (tiTo d S i)) o ++ [(g, shB S, some (101, 3, cp)), (b2, [.int .i64 d.most, .int .i64 d.rest, .int .i64 d.win, .int .i64 d.sum], some (74, 4, 1))])) (fun _ => True) ?_ ?_
      · by_cases h4 : i = 0
        · subst h4
          obtain rfl : bB = false := by rw [← hbB]; rfl
          repeat' (first | ((with_reducible apply oq_id); first | ((with_reducible apply oq_eqlT); exact rfl; exact rfl; omega) | (apply oq_fn; exact rfl; try first | exact trivial | (and_intros <;> omega))) | ((with_reducible apply gx_id); first | (with_reducible apply v_nil) | ((with_reducible apply v_q); (iterate 3 exact rfl)) | ((with_reducible apply v_skip); (iterate 3 exact rfl))) | ((with_reducible apply t_id); first | (apply t_mix (id := 13) [0, 1, 2, 3, 4, 5, 6, 7, 8, 9, 10, 11, 12, 13, 14, 15, 16, 17, 18, 19, 20, 21, 22, 23, 24, 25, 26, 27] 0 #[false, false, false, false, false, false, false, false, false, false, false, false, false, false, false, false, false, false, false, false, false, false, false, false, false, false, false, false]; kernel_rfl; kernel_rfl; exact rfl)) | ((with_reducible apply al_id); first | (apply al_done; decide +kernel)))
          all_goals exact ⟨rfl, (), trivial, by (repeat (first | exact FrSub.nil | (apply FrSub.cons; exact rfl))), by (repeat (first | exact HpSub.refl _ | (apply HpSub.consE; (repeat (first | exact P0 | apply P1 | apply PA)); exact rfl) | apply HpSub.appC | apply HpSub.skipX | apply HpSub.skip | apply HpSub.skipApp | exact HpSub.nil))⟩
        obtain ⟨y, hy⟩ : ∃ y, S[i - 1]? = some y := ⟨_, List.getElem?_eq_getElem (by omega)⟩
        obtain ⟨r0, r1, r2⟩ := sh_at hy
        have hyo := hall y (List.mem_of_getElem? hy)
        unfold shOk at hyo
        unfold restB at hbB
        rw [hy, show decide (0 < i) = true by simp; omega, Bool.true_and] at hbB
        by_cases h5 : y.who = x.who
        · have hyx := (hfit i x hx).2 y (by omega) hy h5
          by_cases h6 : x.fr - y.to < d.rest
          · obtain rfl : bB = true := by rw [← hbB]; simp [h5, h6]
            repeat' (first | ((with_reducible apply oq_id); first | (focus ((with_reducible apply oq_indexAddrN); (iterate 4 exact rfl); omega)) | ((with_reducible apply oq_subE (k := ((i - 1 : Nat) : Int))); exact rfl; exact rfl; omega) | ((with_reducible apply oq_eqlF); exact rfl; exact rfl; omega) | ((with_reducible apply oq_neqF); exact rfl; exact rfl; omega) | ((with_reducible apply oq_geqF); exact rfl; exact rfl; omega) | (apply oq_fn; exact rfl; try first | exact trivial | (and_intros <;> omega)) | ((with_reducible apply oq_load); exact rfl; exact rfl)) | ((with_reducible apply gx_id); first | (with_reducible apply v_nil) | ((with_reducible apply v_q); (iterate 3 exact rfl))) | ((with_reducible apply rd_id); first | (apply Rd.own; (repeat (first | exact P0 | apply P1 | apply PA)); first | exact q0 | exact q1 | exact q2 | exact r0 | exact r1 | exact r2; done) | (apply Rd.own; (repeat (first | exact P0 | apply P1 | apply PA)); exact rfl; done)) | ((with_reducible apply t_id); first | (apply t_mix (id := 13) [0, 1, 2, 3, 4, 5, 6, 7, 8, 9, 10, 11, 12, 13, 14, 15, 16, 17, 18, 19, 20, 21, 22, 23, 24, 25, 26, 27] 0 #[false, false, false, false, false, false, false, false, false, false, false, false, false, false, false, false, false, false, false, false, false, false, false, false, false, false, false, false]; kernel_rfl; kernel_rfl; exact rfl)) | ((with_reducible apply al_id); first | (apply al_done; decide +kernel)))
            all_goals exact ⟨rfl, (), trivial, by (repeat (first | exact FrSub.nil | (apply FrSub.cons; exact rfl))), by (repeat (first | exact HpSub.refl _ | (apply HpSub.consE; (repeat (first | exact P0 | apply P1 | apply PA)); exact rfl) | apply HpSub.appC | apply HpSub.skipX | apply HpSub.skip | apply HpSub.skipApp | exact HpSub.nil))⟩
          · obtain rfl : bB = false := by rw [← hbB]; simp [h5, h6]
            repeat' (first | ((with_reducible apply oq_id); first | (focus ((with_reducible apply oq_indexAddrN); (iterate 4 exact rfl); omega)) | ((with_reducible apply oq_subE (k := ((i - 1 : Nat) : Int))); exact rfl; exact rfl; omega) | ((with_reducible apply oq_eqlF); exact rfl; exact rfl; omega) | ((with_reducible apply oq_neqF); exact rfl; exact rfl; omega) | ((with_reducible apply oq_geqT); exact rfl; exact rfl; omega) | (apply oq_fn; exact rfl; try first | exact trivial | (and_intros <;> omega)) | ((with_reducible apply oq_load); exact rfl; exact rfl)) | ((with_reducible apply gx_id); first | (with_reducible apply v_nil) | ((with_reducible apply v_q); (iterate 3 exact rfl))) | ((with_reducible apply rd_id); first | (apply Rd.own; (repeat (first | exact P0 | apply P1 | apply PA)); first | exact q0 | exact q1 | exact q2 | exact r0 | exact r1 | exact r2; done) | (apply Rd.own; (repeat (first | exact P0 | apply P1 | apply PA)); exact rfl; done)) | ((with_reducible apply t_id); first | (apply t_mix (id := 13) [0, 1, 2, 3, 4, 5, 6, 7, 8, 9, 10, 11, 12, 13, 14, 15, 16, 17, 18, 19, 20, 21, 22, 23, 24, 25, 26, 27] 0 #[false, false, false, false, false, false, false, false, false, false, false, false, false, false, false, false, false, false, false, false, false, false, false, false, false, false, false, false]; kernel_rfl; kernel_rfl; exact rfl)) | ((with_reducible apply al_id); first | (apply al_done; decide +kernel)))
            all_goals exact ⟨rfl, (), trivial, by (repeat (first | exact FrSub.nil | (apply FrSub.cons; exact rfl))), by (repeat (first | exact HpSub.refl _ | (apply HpSub.consE; (repeat (first | exact P0 | apply P1 | apply PA)); exact rfl) | apply HpSub.appC | apply HpSub.skipX | apply HpSub.skip | apply HpSub.skipApp | exact HpSub.nil))⟩
        · obtain rfl : bB = false := by rw [← hbB]; simp [h5]
          repeat' (first | ((with_reducible apply oq_id); first | (focus ((with_reducible apply oq_indexAddrN); (iterate 4 exact rfl); omega)) | ((with_reducible apply oq_subE (k := ((i - 1 : Nat) : Int))); exact rfl; exact rfl; omega) | ((with_reducible apply oq_eqlF); exact rfl; exact rfl; omega) | ((with_reducible apply oq_neqT); exact rfl; exact rfl; omega) | (apply oq_fn; exact rfl; try first | exact trivial | (and_intros <;> omega)) | ((with_reducible apply oq_load); exact rfl; exact rfl)) | ((with_reducible apply gx_id); first | (with_reducible apply v_nil) | ((with_reducible apply v_q); (iterate 3 exact rfl)) | ((with_reducible apply v_skip); (iterate 3 exact rfl))) | ((with_reducible apply rd_id); first | (apply Rd.own; (repeat (first | exact P0 | apply P1 | apply PA)); first | exact q0 | exact q1 | exact q2 | exact r0 | exact r1 | exact r2; done) | (apply Rd.own; (repeat (first | exact P0 | apply P1 | apply PA)); exact rfl; done)) | ((with_reducible apply t_id); first | (apply t_mix (id := 13) [0, 1, 2, 3, 4, 5, 6, 7, 8, 9, 10, 11, 12, 13, 14, 15, 16, 17, 18, 19, 20, 21, 22, 23, 24, 25, 26, 27] 0 #[false, false, false, false, false, false, false, false, false, false, false, false, false, false, false, false, false, false, false, false, false, false, false, false, false, false, false, false]; kernel_rfl; kernel_rfl; exact rfl)) | ((with_reducible apply al_id); first | (apply al_done; decide +kernel)))
          all_goals exact ⟨rfl, (), trivial, by (repeat (first | exact FrSub.nil | (apply FrSub.cons; exact rfl))), by (repeat (first | exact HpSub.refl _ | (apply HpSub.consE; (repeat (first | exact P0 | apply P1 | apply PA)); exact rfl) | apply HpSub.appC | apply HpSub.skipX | apply HpSub.skip | apply HpSub.skipApp | exact HpSub.nil))⟩
      rintro ⟨⟩ -
      obtain ⟨bA, hbA⟩ : ∃ b, decide (x.to - x.fr > d.most) = b := ⟨_, rfl⟩
      obtain ⟨bC, hbC⟩ : ∃ b, decide (workV S x.who x.fr (x.fr + d.win) > d.sum) = b := ⟨_, rfl⟩
      rw [← hwk] at hbC
      refine t_cut (ι := Unit) (fun _ => [(1, .slice (some ⟨g, 0, none⟩) n cp), (2, .pointer (some ⟨b2, 0, none⟩)), (16, .slice (some ⟨g, 0, none⟩) n cp), (17, .int .i64 (n : Nat)), (18, .int .i64 (i : Nat)), (5, .slice (clA o) (tiTo d S i).length (clC o)), (6, .int .i64 (i : Nat)), (7, .pointer (some ⟨b7, 0, none⟩)), (95, .agg #[.int .i64 1, .bool bA, .int .i64 2, .bool bB, .int .i64 3, .bool bC]), (96, .int .i64 0)]) (fun _ => (b7, [.int .i64 x.who, .int .i64 x.fr, .int .i64 x.to], some (101, 3, 1)) :: (clH 99 3 (tiB (tiTo d S i)) o ++ [(g, shB S, some (101, 3, cp)), (b2, [.int .i64 d.most, .int .i64 d.rest, .int .i64 d.win, .int .i64 d.sum], some (74, 4, 1))])) (fun _ => True) ?_ ?_
      · cases bA <;> cases bB <;> cases bC
        all_goals (simp only [decide_eq_true_eq, decide_eq_false_iff_not, gt_iff_lt] at hbA hbC)
        all_goals (repeat' (first | ((with_reducible apply oq_id); first | ((with_reducible apply oq_gtrT); exact rfl; exact rfl; omega) | ((with_reducible apply oq_gtrF); exact rfl; exact rfl; omega) | (apply oq_fn; exact rfl; try first | exact trivial | (and_intros <;> omega)) | ((with_reducible apply oq_load); exact rfl; exact rfl) | ((with_reducible apply oq_build); (iterate 3 exact rfl)) | ((with_reducible apply oq_buildA); (iterate 4 exact rfl))) | ((with_reducible apply tl_id); first | (with_reducible apply tl_nil) | ((with_reducible apply u_q); (iterate 4 exact rfl))) | ((with_reducible apply rd_id); first | (apply Rd.own; (repeat (first | exact P0 | apply P1 | apply PA)); exact rfl; done)) | ((with_reducible apply t_id); first | (apply t_region; kernel_rfl)) | ((with_reducible apply Norm.nil); exact rfl) | ((with_reducible apply Norm.cons); exact rfl)))
        all_goals exact ⟨rfl, (), trivial, by (repeat (first | exact FrSub.nil | (apply FrSub.cons; exact rfl))), by (repeat (first | exact HpSub.refl _ | (apply HpSub.consE; (repeat (first | exact P0 | apply P1 | apply PA)); exact rfl) | apply HpSub.appC | apply HpSub.skipX | apply HpSub.skip | apply HpSub.skipApp | exact HpSub.nil))⟩
      rintro ⟨⟩ -
      have hT0 : tiTo d S i ++ casK bA bB bC x 0 = tiTo d S i := List.append_nil _
      have hT3 : tiTo d S i ++ casK bA bB bC x 3 = tiTo d S (i + 1) := by
        rw [tiTo_succ hx, casK_all hbA.symm hbB.symm (by rw [← hwk]; exact hbC.symm)]
      repeat' (first | (with_reducible apply t_block))
      apply t_loopK (GH := []) (ι := Nat × Option (Nat × Nat)) [1, 2, 6, 7, 16, 17, 18, 95] (fun z => [(96, .int .i64 (z.1 : Nat)), (5, .slice (clA z.2) (tiTo d S i ++ casK bA bB bC x z.1).length (clC z.2))]) (fun z => (b7, [.int .i64 x.who, .int .i64 x.fr, .int .i64 x.to], some (101, 3, 1)) :: (clH 99 3 (tiB (tiTo d S i ++ casK bA bB bC x z.1)) z.2 ++ [(g, shB S, some (101, 3, cp)), (b2, [.int .i64 d.most, .int .i64 d.rest, .int .i64 d.win, .int .i64 d.sum], some (74, 4, 1))])) (fun z => z.1 ≤ 3 ∧ (z.2 = none → (tiTo d S i ++ casK bA bB bC x z.1).length = 0)) (fun z => 3 - z.1) ((0, o))
      (repeat (first | exact KeepF.nil | (apply KeepF.cons; exact rfl) | apply KeepF.skip))
      (repeat (first | exact FrSub.nil | (apply FrSub.cons; exact rfl) | (apply FrSub.consE; exact rfl; (simp only [hT0]))))
      ((try simp only [List.append_nil, hT0]); (repeat (first | exact HpSub.refl _ | (apply HpSub.consE; (repeat (first | exact P0 | apply P1 | apply PA)); exact rfl) | apply HpSub.appC | apply HpSub.skipX | apply HpSub.skip | apply HpSub.skipApp | exact HpSub.nil)))
      · exact ⟨Nat.zero_le _, by (simp only [hT0]; exact ho)⟩
      rintro ⟨k, o2⟩ ⟨hk, ho2⟩
      simp only at hk ho2
      simp only [List.append_nil]
      have hkl : (tiTo d S i ++ casK bA bB bC x k).length ≤ 3 * i + 3 := by
        rw [List.length_append]
        have := casK_len bA bB bC x k
        omega
      rcases (show k = 0 ∨ k = 1 ∨ k = 2 ∨ k = 3 by omega) with rfl | rfl | rfl | rfl
      · obtain ⟨T0, hT⟩ : ∃ T, tiTo d S i ++ casK bA bB bC x 0 = T := ⟨_, rfl⟩
        rw [hT] at hkl ho2 ⊢
        cases bA with
        | false =>
          have e1 : tiTo d S i ++ casK false bB bC x 1 = T0 := by rw [← hT]; simp [casK]
          repeat' (first | ((with_reducible apply oq_id); first | ((with_reducible apply oq_lssT); exact rfl; exact rfl; omega) | (apply oq_fn; exact rfl; try first | exact trivial | (and_intros <;> omega)) | ((with_reducible apply oq_load); exact rfl; exact rfl) | ((with_reducible apply oq_indexAgg); (iterate 4 exact rfl))) | ((with_reducible apply tl_id); first | (with_reducible apply tl_nil) | ((with_reducible apply u_q); (iterate 4 exact rfl)) | ((with_reducible apply u_s0); exact rfl; exact rfl) | ((with_reducible apply u_s); (iterate 3 exact rfl))) | ((with_reducible apply os_id); first | ((with_reducible apply os_x); exact rfl) | ((with_reducible apply os_storeAgg); (iterate 5 exact rfl))) | ((with_reducible apply ox_alloc); exact rfl; intro _) | ((with_reducible apply rd_id); first | (apply Rd.own; (repeat (first | exact P0 | apply P1 | apply PA)); exact rfl; done)) | ((with_reducible apply t_id); first | (with_reducible apply t_seq) | (apply t_region; kernel_rfl) | ((with_reducible apply t_condT); exact rfl) | ((with_reducible apply t_condF); exact rfl) | (with_reducible apply t_skip) | (with_reducible apply t_block)) | with_reducible apply q_thenN | with_reducible apply q_blockN | exact P0 | ((with_reducible apply Norm.nil); exact rfl) | ((with_reducible apply Norm.cons); exact rfl) | exact Nat.le_of_ble_eq_true rfl | omega)
          all_goals (refine ⟨(1, o2), ⟨(by simp only; omega), (by simp only [e1]; exact ho2)⟩, (by simp only; omega), ?_, ?_⟩)
          all_goals (simp only [e1])
          all_goals first
            | ((try simp only [List.cons_append, List.nil_append]); (repeat (first | exact FrSub.nil | (apply FrSub.cons; exact rfl))); done)
            | ((try simp only [List.cons_append, List.nil_append]); (repeat (first | exact HpSub.refl _ | (apply HpSub.consE; (repeat (first | exact P0 | apply P1 | apply PA)); exact rfl) | apply HpSub.appC | apply HpSub.skipX | apply HpSub.skip | apply HpSub.skipApp | exact HpSub.nil)); done)
        | true =>
          have e1 : tiTo d S i ++ casK true bB bC x 1 = T0 ++ [⟨1, x.who, x.fr⟩] := by rw [← hT]; simp [casK]
          rcases o2 with _ | ⟨go, co⟩
          · have h0 := ho2 rfl
            obtain rfl := List.length_eq_zero_iff.1 h0
            simp only [clA, clC, clH, List.nil_append, List.length_nil]
            repeat' (first | ((with_reducible apply oq_id); first | ((with_reducible apply oq_lssT); exact rfl; exact rfl; omega) | (apply oq_fn; exact rfl; try first | exact trivial | (and_intros <;> omega)) | ((with_reducible apply oq_load); exact rfl; exact rfl) | ((with_reducible apply oq_build); (iterate 3 exact rfl)) | ((with_reducible apply oq_indexAgg); (iterate 4 exact rfl))) | ((with_reducible apply tl_id); first | (with_reducible apply tl_nil) | ((with_reducible apply u_q); (iterate 4 exact rfl)) | ((with_reducible apply u_s0); exact rfl; exact rfl) | ((with_reducible apply u_s); (iterate 3 exact rfl))) | ((with_reducible apply os_id); first | ((with_reducible apply os_x); exact rfl) | ((with_reducible apply os_storeAgg); (iterate 5 exact rfl)) | ((with_reducible apply os_appendNil (hk := app_ok77)); exact rfl; exact rfl)) | ((with_reducible apply ox_id); first | ((with_reducible apply ox_alloc); exact rfl; intro _) | ((with_reducible apply ox_buildSlice); (iterate 4 exact rfl))) | ((with_reducible apply rd_id); first | (apply Rd.own; (repeat (first | exact P0 | apply P1 | apply PA)); exact rfl; done)) | ((with_reducible apply t_id); first | (with_reducible apply t_seq) | (apply t_region; kernel_rfl) | ((with_reducible apply t_condT); exact rfl) | (with_reducible apply t_skip) | (with_reducible apply t_block)) | with_reducible apply q_thenN | with_reducible apply q_blockN | exact P0 | exact Rdn.zero | apply Rdn.succ | ((with_reducible apply Norm.nil); exact rfl) | ((with_reducible apply Norm.cons); exact rfl) | (intro gN cN; with_reducible apply tl_id) | exact Nat.le_of_ble_eq_true rfl | exact (rfl : (_ : Bool) = true) | omega | (intro _; with_reducible apply tl_id))
            all_goals (refine ⟨(1, some (gN, cN)), ⟨(by simp only; omega), fun h => by cases h⟩, (by simp only; omega), ?_, ?_⟩)
            all_goals (simp only [e1])
            all_goals first
              | ((try simp only [List.cons_append, List.nil_append]); (repeat (first | exact FrSub.nil | (apply FrSub.cons; exact rfl) | (apply FrSub.consE; exact rfl; (focus (simp; done))))); done)
              | ((try simp only [List.cons_append, List.nil_append]); (repeat (first | exact HpSub.refl _ | (apply HpSub.consE; (repeat (first | exact P0 | apply P1 | apply PA)); first | exact rfl | (focus (simp [tiB_app, tiB, tiCells]; done))) | apply HpSub.appC | apply HpSub.skipX | apply HpSub.skip | apply HpSub.skipApp | exact HpSub.nil)); done)
          · simp only [clA, clC, clH, List.cons_append, List.nil_append]
            repeat' (first | ((with_reducible apply oq_id); first | ((with_reducible apply oq_lssT); exact rfl; exact rfl; omega) | (apply oq_fn; exact rfl; try first | exact trivial | (and_intros <;> omega)) | ((with_reducible apply oq_load); exact rfl; exact rfl) | ((with_reducible apply oq_build); (iterate 3 exact rfl)) | ((with_reducible apply oq_indexAgg); (iterate 4 exact rfl))) | ((with_reducible apply tl_id); first | (with_reducible apply tl_nil) | ((with_reducible apply u_q); (iterate 4 exact rfl)) | ((with_reducible apply u_s0); exact rfl; exact rfl) | ((with_reducible apply u_s); (iterate 3 exact rfl))) | ((with_reducible apply os_id); first | ((with_reducible apply os_x); exact rfl) | ((with_reducible apply os_storeAgg); (iterate 5 exact rfl)) | ((with_reducible apply os_append (hk := app_ok77)); exact rfl; exact rfl; (repeat (first | exact P0 | apply P1 | apply PA)))) | ((with_reducible apply ox_id); first | ((with_reducible apply ox_alloc); exact rfl; intro _) | ((with_reducible apply ox_buildSlice); (iterate 4 exact rfl))) | ((with_reducible apply rd_id); first | (apply Rd.own; (repeat (first | exact P0 | apply P1 | apply PA)); exact rfl; done)) | ((with_reducible apply t_id); first | (with_reducible apply t_seq) | (apply t_region; kernel_rfl) | ((with_reducible apply t_condT); exact rfl) | (with_reducible apply t_skip) | (with_reducible apply t_block)) | with_reducible apply q_thenN | with_reducible apply q_blockN | exact P0 | exact Rdn.zero | apply Rdn.succ | ((with_reducible apply Norm.nil); exact rfl) | ((with_reducible apply Norm.cons); exact rfl) | exact tiB_len _ | (intro gN cN; with_reducible apply tl_id) | exact Nat.le_of_ble_eq_true rfl | exact (rfl : (_ : Bool) = true) | omega | (intro _; with_reducible apply tl_id))
            all_goals (refine ⟨(1, some (gN, cN)), ⟨(by simp only; omega), fun h => by cases h⟩, (by simp only; omega), ?_, ?_⟩)
            all_goals (simp only [e1])
            all_goals first
              | ((try simp only [List.cons_append, List.nil_append]); (repeat (first | exact FrSub.nil | (apply FrSub.cons; exact rfl) | (apply FrSub.consE; exact rfl; (focus (simp; done))))); done)
              | ((try simp only [List.cons_append, List.nil_append]); (repeat (first | exact HpSub.refl _ | (apply HpSub.consE; (repeat (first | exact P0 | apply P1 | apply PA)); first | exact rfl | (focus (simp [tiB_app, tiB, tiCells]; done))) | apply HpSub.appC | apply HpSub.skipX | apply HpSub.skip | apply HpSub.skipApp | exact HpSub.nil)); done)
      · obtain ⟨T0, hT⟩ : ∃ T, tiTo d S i ++ casK bA bB bC x 1 = T := ⟨_, rfl⟩
        rw [hT] at hkl ho2 ⊢
        cases bB with
        | false =>
          have e1 : tiTo d S i ++ casK bA false bC x 2 = T0 := by rw [← hT]; simp [casK]
          repeat' (first | ((with_reducible apply oq_id); first | ((with_reducible apply oq_lssT); exact rfl; exact rfl; omega) | (apply oq_fn; exact rfl; try first | exact trivial | (and_intros <;> omega)) | ((with_reducible apply oq_load); exact rfl; exact rfl) | ((with_reducible apply oq_indexAgg); (iterate 4 exact rfl))) | ((with_reducible apply tl_id); first | (with_reducible apply tl_nil) | ((with_reducible apply u_q); (iterate 4 exact rfl)) | ((with_reducible apply u_s0); exact rfl; exact rfl) | ((with_reducible apply u_s); (iterate 3 exact rfl))) | ((with_reducible apply os_id); first | ((with_reducible apply os_x); exact rfl) | ((with_reducible apply os_storeAgg); (iterate 5 exact rfl))) | ((with_reducible apply ox_alloc); exact rfl; intro _) | ((with_reducible apply rd_id); first | (apply Rd.own; (repeat (first | exact P0 | apply P1 | apply PA)); exact rfl; done)) | ((with_reducible apply t_id); first | (with_reducible apply t_seq) | (apply t_region; kernel_rfl) | ((with_reducible apply t_condT); exact rfl) | ((with_reducible apply t_condF); exact rfl) | (with_reducible apply t_skip) | (with_reducible apply t_block)) | with_reducible apply q_thenN | with_reducible apply q_blockN | exact P0 | ((with_reducible apply Norm.nil); exact rfl) | ((with_reducible apply Norm.cons); exact rfl) | exact Nat.le_of_ble_eq_true rfl | omega)
          all_goals (refine ⟨(2, o2), ⟨(by simp only; omega), (by simp only [e1]; exact ho2)⟩, (by simp only; omega), ?_, ?_⟩)
          all_goals (simp only [e1])
          all_goals first
            | ((try simp only [List.cons_append, List.nil_append]); (repeat (first | exact FrSub.nil | (apply FrSub.cons; exact rfl))); done)
            | ((try simp only [List.cons_append, List.nil_append]); (repeat (first | exact HpSub.refl _ | (apply HpSub.consE; (repeat (first | exact P0 | apply P1 | apply PA)); exact rfl) | apply HpSub.appC | apply HpSub.skipX | apply HpSub.skip | apply HpSub.skipApp | exact HpSub.nil)); done)
        | true =>
          have e1 : tiTo d S i ++ casK bA true bC x 2 = T0 ++ [⟨2, x.who, x.fr⟩] := by rw [← hT]; simp [casK]
          rcases o2 with _ | ⟨go, co⟩
          · have h0 := ho2 rfl
            obtain rfl := List.length_eq_zero_iff.1 h0
            simp only [clA, clC, clH, List.nil_append, List.length_nil]
            repeat' (first | ((with_reducible apply oq_id); first | ((with_reducible apply oq_lssT); exact rfl; exact rfl; omega) | (apply oq_fn; exact rfl; try first | exact trivial | (and_intros <;> omega)) | ((with_reducible apply oq_load); exact rfl; exact rfl) | ((with_reducible apply oq_build); (iterate 3 exact rfl)) | ((with_reducible apply oq_indexAgg); (iterate 4 exact rfl))) | ((with_reducible apply tl_id); first | (with_reducible apply tl_nil) | ((with_reducible apply u_q); (iterate 4 exact rfl)) | ((with_reducible apply u_s0); exact rfl; exact rfl) | ((with_reducible apply u_s); (iterate 3 exact rfl))) | ((with_reducible apply os_id); first | ((with_reducible apply os_x); exact rfl) | ((with_reducible apply os_storeAgg); (iterate 5 exact rfl)) | ((with_reducible apply os_appendNil (hk := app_ok77)); exact rfl; exact rfl)) | ((with_reducible apply ox_id); first | ((with_reducible apply ox_alloc); exact rfl; intro _) | ((with_reducible apply ox_buildSlice); (iterate 4 exact rfl))) | ((with_reducible apply rd_id); first | (apply Rd.own; (repeat (first | exact P0 | apply P1 | apply PA)); exact rfl; done)) | ((with_reducible apply t_id); first | (with_reducible apply t_seq) | (apply t_region; kernel_rfl) | ((with_reducible apply t_condT); exact rfl) | (with_reducible apply t_skip) | (with_reducible apply t_block)) | with_reducible apply q_thenN | with_reducible apply q_blockN | exact P0 | exact Rdn.zero | apply Rdn.succ | ((with_reducible apply Norm.nil); exact rfl) | ((with_reducible apply Norm.cons); exact rfl) | (intro gN cN; with_reducible apply tl_id) | exact Nat.le_of_ble_eq_true rfl | exact (rfl : (_ : Bool) = true) | omega | (intro _; with_reducible apply tl_id))
            all_goals (refine ⟨(2, some (gN, cN)), ⟨(by simp only; omega), fun h => by cases h⟩, (by simp only; omega), ?_, ?_⟩)
            all_goals (simp only [e1])
            all_goals first
              | ((try simp only [List.cons_append, List.nil_append]); (repeat (first | exact FrSub.nil | (apply FrSub.cons; exact rfl) | (apply FrSub.consE; exact rfl; (focus (simp; done))))); done)
              | ((try simp only [List.cons_append, List.nil_append]); (repeat (first | exact HpSub.refl _ | (apply HpSub.consE; (repeat (first | exact P0 | apply P1 | apply PA)); first | exact rfl | (focus (simp [tiB_app, tiB, tiCells]; done))) | apply HpSub.appC | apply HpSub.skipX | apply HpSub.skip | apply HpSub.skipApp | exact HpSub.nil)); done)
          · simp only [clA, clC, clH, List.cons_append, List.nil_append]
            repeat' (first | ((with_reducible apply oq_id); first | ((with_reducible apply oq_lssT); exact rfl; exact rfl; omega) | (apply oq_fn; exact rfl; try first | exact trivial | (and_intros <;> omega)) | ((with_reducible apply oq_load); exact rfl; exact rfl) | ((with_reducible apply oq_build); (iterate 3 exact rfl)) | ((with_reducible apply oq_indexAgg); (iterate 4 exact rfl))) | ((with_reducible apply tl_id); first | (with_reducible apply tl_nil) | ((with_reducible apply u_q); (iterate 4 exact rfl)) | ((with_reducible apply u_s0); exact rfl; exact rfl) | ((with_reducible apply u_s); (iterate 3 exact rfl))) | ((with_reducible apply os_id); first | ((with_reducible apply os_x); exact rfl) | ((with_reducible apply os_storeAgg); (iterate 5 exact rfl)) | ((with_reducible apply os_append (hk := app_ok77)); exact rfl; exact rfl; (repeat (first | exact P0 | apply P1 | apply PA)))) | ((with_reducible apply ox_id); first | ((with_reducible apply ox_alloc); exact rfl; intro _) | ((with_reducible apply ox_buildSlice); (iterate 4 exact rfl))) | ((with_reducible apply rd_id); first | (apply Rd.own; (repeat (first | exact P0 | apply P1 | apply PA)); exact rfl; done)) | ((with_reducible apply t_id); first | (with_reducible apply t_seq) | (apply t_region; kernel_rfl) | ((with_reducible apply t_condT); exact rfl) | (with_reducible apply t_skip) | (with_reducible apply t_block)) | with_reducible apply q_thenN | with_reducible apply q_blockN | exact P0 | exact Rdn.zero | apply Rdn.succ | ((with_reducible apply Norm.nil); exact rfl) | ((with_reducible apply Norm.cons); exact rfl) | exact tiB_len _ | (intro gN cN; with_reducible apply tl_id) | exact Nat.le_of_ble_eq_true rfl | exact (rfl : (_ : Bool) = true) | omega | (intro _; with_reducible apply tl_id))
            all_goals (refine ⟨(2, some (gN, cN)), ⟨(by simp only; omega), fun h => by cases h⟩, (by simp only; omega), ?_, ?_⟩)
            all_goals (simp only [e1])
            all_goals first
              | ((try simp only [List.cons_append, List.nil_append]); (repeat (first | exact FrSub.nil | (apply FrSub.cons; exact rfl) | (apply FrSub.consE; exact rfl; (focus (simp; done))))); done)
              | ((try simp only [List.cons_append, List.nil_append]); (repeat (first | exact HpSub.refl _ | (apply HpSub.consE; (repeat (first | exact P0 | apply P1 | apply PA)); first | exact rfl | (focus (simp [tiB_app, tiB, tiCells]; done))) | apply HpSub.appC | apply HpSub.skipX | apply HpSub.skip | apply HpSub.skipApp | exact HpSub.nil)); done)
      · obtain ⟨T0, hT⟩ : ∃ T, tiTo d S i ++ casK bA bB bC x 2 = T := ⟨_, rfl⟩
        rw [hT] at hkl ho2 ⊢
        cases bC with
        | false =>
          have e1 : tiTo d S i ++ casK bA bB false x 3 = T0 := by rw [← hT]; simp [casK]
          repeat' (first | ((with_reducible apply oq_id); first | ((with_reducible apply oq_lssT); exact rfl; exact rfl; omega) | (apply oq_fn; exact rfl; try first | exact trivial | (and_intros <;> omega)) | ((with_reducible apply oq_load); exact rfl; exact rfl) | ((with_reducible apply oq_indexAgg); (iterate 4 exact rfl))) | ((with_reducible apply tl_id); first | (with_reducible apply tl_nil) | ((with_reducible apply u_q); (iterate 4 exact rfl)) | ((with_reducible apply u_s0); exact rfl; exact rfl) | ((with_reducible apply u_s); (iterate 3 exact rfl))) | ((with_reducible apply os_id); first | ((with_reducible apply os_x); exact rfl) | ((with_reducible apply os_storeAgg); (iterate 5 exact rfl))) | ((with_reducible apply ox_alloc); exact rfl; intro _) | ((with_reducible apply rd_id); first | (apply Rd.own; (repeat (first | exact P0 | apply P1 | apply PA)); exact rfl; done)) | ((with_reducible apply t_id); first | (with_reducible apply t_seq) | (apply t_region; kernel_rfl) | ((with_reducible apply t_condT); exact rfl) | ((with_reducible apply t_condF); exact rfl) | (with_reducible apply t_skip) | (with_reducible apply t_block)) | with_reducible apply q_thenN | with_reducible apply q_blockN | exact P0 | ((with_reducible apply Norm.nil); exact rfl) | ((with_reducible apply Norm.cons); exact rfl) | exact Nat.le_of_ble_eq_true rfl | omega)
          all_goals (refine ⟨(3, o2), ⟨(by simp only; omega), (by simp only [e1]; exact ho2)⟩, (by simp only; omega), ?_, ?_⟩)
          all_goals (simp only [e1])
          all_goals first
            | ((try simp only [List.cons_append, List.nil_append]); (repeat (first | exact FrSub.nil | (apply FrSub.cons; exact rfl))); done)
            | ((try simp only [List.cons_append, List.nil_append]); (repeat (first | exact HpSub.refl _ | (apply HpSub.consE; (repeat (first | exact P0 | apply P1 | apply PA)); exact rfl) | apply HpSub.appC | apply HpSub.skipX | apply HpSub.skip | apply HpSub.skipApp | exact HpSub.nil)); done)
        | true =>
          have e1 : tiTo d S i ++ casK bA bB true x 3 = T0 ++ [⟨3, x.who, x.fr⟩] := by rw [← hT]; simp [casK]
          rcases o2 with _ | ⟨go, co⟩
          · have h0 := ho2 rfl
            obtain rfl := List.length_eq_zero_iff.1 h0
            simp only [clA, clC, clH, List.nil_append, List.length_nil]
            repeat' (first | ((with_reducible apply oq_id); first | ((with_reducible apply oq_lssT); exact rfl; exact rfl; omega) | (apply oq_fn; exact rfl; try first | exact trivial | (and_intros <;> omega)) | ((with_reducible apply oq_load); exact rfl; exact rfl) | ((with_reducible apply oq_build); (iterate 3 exact rfl)) | ((with_reducible apply oq_indexAgg); (iterate 4 exact rfl))) | ((with_reducible apply tl_id); first | (with_reducible apply tl_nil) | ((with_reducible apply u_q); (iterate 4 exact rfl)) | ((with_reducible apply u_s0); exact rfl; exact rfl) | ((with_reducible apply u_s); (iterate 3 exact rfl))) | ((with_reducible apply os_id); first | ((with_reducible apply os_x); exact rfl) | ((with_reducible apply os_storeAgg); (iterate 5 exact rfl)) | ((with_reducible apply os_appendNil (hk := app_ok77)); exact rfl; exact rfl)) | ((with_reducible apply ox_id); first | ((with_reducible apply ox_alloc); exact rfl; intro _) | ((with_reducible apply ox_buildSlice); (iterate 4 exact rfl))) | ((with_reducible apply rd_id); first | (apply Rd.own; (repeat (first | exact P0 | apply P1 | apply PA)); exact rfl; done)) | ((with_reducible apply t_id); first | (with_reducible apply t_seq) | (apply t_region; kernel_rfl) | ((with_reducible apply t_condT); exact rfl) | (with_reducible apply t_skip) | (with_reducible apply t_block)) | with_reducible apply q_thenN | with_reducible apply q_blockN | exact P0 | exact Rdn.zero | apply Rdn.succ | ((with_reducible apply Norm.nil); exact rfl) | ((with_reducible apply Norm.cons); exact rfl) | (intro gN cN; with_reducible apply tl_id) | exact Nat.le_of_ble_eq_true rfl | exact (rfl : (_ : Bool) = true) | omega | (intro _; with_reducible apply tl_id))
            all_goals (refine ⟨(3, some (gN, cN)), ⟨(by simp only; omega), fun h => by cases h⟩, (by simp only; omega), ?_, ?_⟩)
            all_goals (simp only [e1])
            all_goals first
              | ((try simp only [List.cons_append, List.nil_append]); (repeat (first | exact FrSub.nil | (apply FrSub.cons; exact rfl) | (apply FrSub.consE; exact rfl; (focus (simp; done))))); done)
              | ((try simp only [List.cons_append, List.nil_append]); (repeat (first | exact HpSub.refl _ | (apply HpSub.consE; (repeat (first | exact P0 | apply P1 | apply PA)); first | exact rfl | (focus (simp [tiB_app, tiB, tiCells]; done))) | apply HpSub.appC | apply HpSub.skipX | apply HpSub.skip | apply HpSub.skipApp | exact HpSub.nil)); done)
          · simp only [clA, clC, clH, List.cons_append, List.nil_append]
            repeat' (first | ((with_reducible apply oq_id); first | ((with_reducible apply oq_lssT); exact rfl; exact rfl; omega) | (apply oq_fn; exact rfl; try first | exact trivial | (and_intros <;> omega)) | ((with_reducible apply oq_load); exact rfl; exact rfl) | ((with_reducible apply oq_build); (iterate 3 exact rfl)) | ((with_reducible apply oq_indexAgg); (iterate 4 exact rfl))) | ((with_reducible apply tl_id); first | (with_reducible apply tl_nil) | ((with_reducible apply u_q); (iterate 4 exact rfl)) | ((with_reducible apply u_s0); exact rfl; exact rfl) | ((with_reducible apply u_s); (iterate 3 exact rfl))) | ((with_reducible apply os_id); first | ((with_reducible apply os_x); exact rfl) | ((with_reducible apply os_storeAgg); (iterate 5 exact rfl)) | ((with_reducible apply os_append (hk := app_ok77)); exact rfl; exact rfl; (repeat (first | exact P0 | apply P1 | apply PA)))) | ((with_reducible apply ox_id); first | ((with_reducible apply ox_alloc); exact rfl; intro _) | ((with_reducible apply ox_buildSlice); (iterate 4 exact rfl))) | ((with_reducible apply rd_id); first | (apply Rd.own; (repeat (first | exact P0 | apply P1 | apply PA)); exact rfl; done)) | ((with_reducible apply t_id); first | (with_reducible apply t_seq) | (apply t_region; kernel_rfl) | ((with_reducible apply t_condT); exact rfl) | (with_reducible apply t_skip) | (with_reducible apply t_block)) | with_reducible apply q_thenN | with_reducible apply q_blockN | exact P0 | exact Rdn.zero | apply Rdn.succ | ((with_reducible apply Norm.nil); exact rfl) | ((with_reducible apply Norm.cons); exact rfl) | exact tiB_len _ | (intro gN cN; with_reducible apply tl_id) | exact Nat.le_of_ble_eq_true rfl | exact (rfl : (_ : Bool) = true) | omega | (intro _; with_reducible apply tl_id))
            all_goals (refine ⟨(3, some (gN, cN)), ⟨(by simp only; omega), fun h => by cases h⟩, (by simp only; omega), ?_, ?_⟩)
            all_goals (simp only [e1])
            all_goals first
              | ((try simp only [List.cons_append, List.nil_append]); (repeat (first | exact FrSub.nil | (apply FrSub.cons; exact rfl) | (apply FrSub.consE; exact rfl; (focus (simp; done))))); done)
              | ((try simp only [List.cons_append, List.nil_append]); (repeat (first | exact HpSub.refl _ | (apply HpSub.consE; (repeat (first | exact P0 | apply P1 | apply PA)); first | exact rfl | (focus (simp [tiB_app, tiB, tiCells]; done))) | apply HpSub.appC | apply HpSub.skipX | apply HpSub.skip | apply HpSub.skipApp | exact HpSub.nil)); done)
      · rw [hT3] at ho2 ⊢
        repeat' (first | ((with_reducible apply oq_lssF); exact rfl; exact rfl; omega) | ((with_reducible apply tl_id); first | (with_reducible apply tl_nil) | ((with_reducible apply u_q); (iterate 4 exact rfl))) | ((with_reducible apply t_id); first | (with_reducible apply t_seq) | (apply t_region; kernel_rfl) | ((with_reducible apply t_condF); exact rfl) | (with_reducible apply t_exit)) | with_reducible apply q_thenN | with_reducible apply q_blockN | with_reducible apply q_thenE | ((with_reducible apply q_blockE); exact rfl))
        all_goals exact ⟨rfl, o2, ho2, by (repeat (first | exact FrSub.nil | (apply FrSub.cons; exact rfl))), by (repeat (first | exact HpSub.refl _ | (apply HpSub.consE; (repeat (first | exact P0 | apply P1 | apply PA)); exact rfl) | apply HpSub.appC | apply HpSub.skipX | apply HpSub.skip | apply HpSub.skipApp | exact HpSub.nil))⟩
    · rintro o2 ho2
      repeat' (first | ((with_reducible apply oq_id); first | (apply oq_fn; exact rfl; try first | exact trivial | (and_intros <;> omega))) | ((with_reducible apply tl_id); first | (with_reducible apply tl_nil) | ((with_reducible apply u_q); (iterate 4 exact rfl))) | ((with_reducible apply t_id); first | (apply t_region; kernel_rfl)) | with_reducible apply q_thenN)
      all_goals (refine ⟨(i + 1, o2), ⟨(by simp only; omega), ho2⟩, (by simp only; omega), ?_, ?_⟩)
      all_goals first
        | ((try simp only [List.cons_append, List.nil_append]); (repeat (first | exact FrSub.nil | (apply FrSub.cons; exact rfl))); done)
        | ((try simp only [List.cons_append, List.nil_append]); (repeat (first | exact HpSub.refl _ | (apply HpSub.consE; (repeat (first | exact P0 | apply P1 | apply PA)); exact rfl) | apply HpSub.appC | apply HpSub.skipX | apply HpSub.skip | apply HpSub.skipApp | exact HpSub.nil)); done)
  · obtain rfl : i = n := by omega
    rw [hti]
    repeat' (first | ((with_reducible apply oq_id); first | ((with_reducible apply oq_lssF); exact rfl; exact rfl; omega) | (apply oq_fn; exact rfl; try first | exact trivial | (and_intros <;> omega))) | ((with_reducible apply tl_id); first | (with_reducible apply tl_nil) | ((with_reducible apply u_q); (iterate 4 exact rfl))) | ((with_reducible apply t_id); first | (with_reducible apply t_seq) | (apply t_region; kernel_rfl) | ((with_reducible apply t_condF); exact rfl) | (with_reducible apply t_ret) | (with_reducible apply t_exit)) | with_reducible apply q_thenN | with_reducible apply q_thenE | ((with_reducible apply q_blockE); exact rfl) | (with_reducible apply end_ret) | exact rvs_nil | (with_reducible apply rvs_cons) | ((with_reducible apply rv_tmp); exact rfl))
    all_goals exact ⟨_, ⟨o, ho, rfl, rfl⟩, hp_left⟩
theorem dutyR_calls (d : Du) (w : World) : Calls Try.prog 44 #[.agg #[.int .i64 d.most, .int .i64 d.rest, .int .i64 d.win, .int .i64 d.sum]] w fun e w' => e = .returned (.int .i64 (duE d)) ∧ Ext w w' := by
  obtain ⟨q1, hq1⟩ : ∃ q, allFrom 1 100000 [d.most, d.win] = q := ⟨_, rfl⟩
  obtain ⟨q2, hq2⟩ : ∃ q, allFrom 0 100000 [d.rest] = q := ⟨_, rfl⟩
  obtain ⟨q3, hq3⟩ : ∃ q, allFrom 0 d.win [d.sum] = q := ⟨_, rfl⟩
  have e1 : q1 = true ↔ (1 ≤ d.most ∧ d.most ≤ 100000) ∧ 1 ≤ d.win ∧ d.win ≤ 100000 := by rw [← hq1]; unfold allFrom; simp
  have e2 : q2 = true ↔ 0 ≤ d.rest ∧ d.rest ≤ 100000 := by rw [← hq2]; exact allFrom_one
  have e3 : q3 = true ↔ 0 ≤ d.sum ∧ d.sum ≤ d.win := by rw [← hq3]; exact allFrom_one
  have hdu : duB d ↔ q1 = true ∧ q2 = true ∧ q3 = true := by rw [e1, e2, e3]; unfold duB; omega
  unfold duE
  cases q1 with
  | false =>
    rw [if_neg (fun h => by have := (hdu.1 h).1; cases this)]
    refine enterQ (c := cx w 26) Try.func44 rfl rfl rfl rfl ?_
    repeat' (first | ((with_reducible apply oq_id); first | (apply oq_fn; exact rfl; try first | exact trivial | (and_intros <;> omega)) | ((with_reducible apply oq_load); exact rfl; exact rfl) | ((with_reducible apply oq_call (k := 63) (hc := Try.call63)); exact rfl; exact rfl; exact fun D w1 hw1 => fromTwo hq1 hw1 (by (repeat (first | exact P0 | apply P1))))) | ((with_reducible apply tl_id); first | (with_reducible apply tl_nil) | ((with_reducible apply u_q); (iterate 4 exact rfl)) | ((with_reducible apply u_s); (iterate 3 exact rfl)) | ((with_reducible apply u_skip); (iterate 3 exact rfl))) | ((with_reducible apply os_x); exact rfl) | ((with_reducible apply ox_id); first | ((with_reducible apply ox_boxAgg); exact rfl; intro _) | ((with_reducible apply ox_buildSlice1); (iterate 6 exact rfl); intro _)) | ((with_reducible apply rd_id); first | (apply Rd.own; (repeat (first | exact P0 | apply P1)); exact rfl; done)) | ((with_reducible apply t_id); first | (with_reducible apply t_seq) | (apply t_region; kernel_rfl) | ((with_reducible apply t_condT); exact rfl) | (with_reducible apply t_ret)) | with_reducible apply q_thenN | with_reducible apply q_thenR | (with_reducible apply end_ret) | exact rvs_nil | (with_reducible apply rvs_cons) | ((with_reducible apply rv_tmp); exact rfl))
    all_goals rfl
  | true =>
    cases q2 with
    | false =>
      rw [if_neg (fun h => by have := (hdu.1 h).2.1; cases this)]
      refine enterQ (c := cx w 26) Try.func44 rfl rfl rfl rfl ?_
      repeat' (first | ((with_reducible apply oq_id); first | (apply oq_fn; exact rfl; try first | exact trivial | (and_intros <;> omega)) | ((with_reducible apply oq_load); exact rfl; exact rfl) | ((with_reducible apply oq_call (k := 63) (hc := Try.call63)); exact rfl; exact rfl; exact fun D w1 hw1 => fromTwo hq1 hw1 (by (repeat (first | exact P0 | apply P1)))) | ((with_reducible apply oq_call (k := 63) (hc := Try.call63)); exact rfl; exact rfl; exact fun D w1 hw1 => fromOne hq2 hw1 (by (repeat (first | exact P0 | apply P1))))) | ((with_reducible apply tl_id); first | (with_reducible apply tl_nil) | ((with_reducible apply u_q); (iterate 4 exact rfl)) | ((with_reducible apply u_s); (iterate 3 exact rfl)) | ((with_reducible apply u_skip); (iterate 3 exact rfl))) | ((with_reducible apply os_x); exact rfl) | ((with_reducible apply ox_id); first | ((with_reducible apply ox_boxAgg); exact rfl; intro _) | ((with_reducible apply ox_buildSlice1); (iterate 6 exact rfl); intro _)) | ((with_reducible apply rd_id); first | (apply Rd.own; (repeat (first | exact P0 | apply P1)); exact rfl; done)) | ((with_reducible apply t_id); first | (with_reducible apply t_seq) | (apply t_region; kernel_rfl) | ((with_reducible apply t_condT); exact rfl) | (with_reducible apply t_ret)) | with_reducible apply q_thenN | with_reducible apply q_thenR | (with_reducible apply end_ret) | exact rvs_nil | (with_reducible apply rvs_cons) | ((with_reducible apply rv_tmp); exact rfl))
      all_goals rfl
    | true =>
      cases q3 with
      | false =>
        rw [if_neg (fun h => by have := (hdu.1 h).2.2; cases this)]
        refine enterQ (c := cx w 26) Try.func44 rfl rfl rfl rfl ?_
        repeat' (first | ((with_reducible apply oq_id); first | (apply oq_fn; exact rfl; try first | exact trivial | (and_intros <;> omega)) | ((with_reducible apply oq_load); exact rfl; exact rfl) | ((with_reducible apply oq_call (k := 63) (hc := Try.call63)); exact rfl; exact rfl; exact fun D w1 hw1 => fromTwo hq1 hw1 (by (repeat (first | exact P0 | apply P1)))) | ((with_reducible apply oq_call (k := 63) (hc := Try.call63)); exact rfl; exact rfl; exact fun D w1 hw1 => fromOne hq2 hw1 (by (repeat (first | exact P0 | apply P1)))) | ((with_reducible apply oq_call (k := 63) (hc := Try.call63)); exact rfl; exact rfl; exact fun D w1 hw1 => fromOne hq3 hw1 (by (repeat (first | exact P0 | apply P1))))) | ((with_reducible apply tl_id); first | (with_reducible apply tl_nil) | ((with_reducible apply u_q); (iterate 4 exact rfl)) | ((with_reducible apply u_s); (iterate 3 exact rfl))) | ((with_reducible apply os_x); exact rfl) | ((with_reducible apply ox_id); first | ((with_reducible apply ox_boxAgg); exact rfl; intro _) | ((with_reducible apply ox_buildSlice1); (iterate 6 exact rfl); intro _)) | ((with_reducible apply rd_id); first | (apply Rd.own; (repeat (first | exact P0 | apply P1)); exact rfl; done)) | ((with_reducible apply t_id); first | (with_reducible apply t_seq) | (apply t_region; kernel_rfl) | ((with_reducible apply t_condT); exact rfl) | (with_reducible apply t_ret)) | with_reducible apply q_thenN | with_reducible apply q_thenR | (with_reducible apply end_ret) | exact rvs_nil | (with_reducible apply rvs_cons) | ((with_reducible apply rv_tmp); exact rfl))
        all_goals rfl
      | true =>
        rw [if_pos (hdu.2 ⟨rfl, rfl, rfl⟩)]
        refine enterQ (c := cx w 26) Try.func44 rfl rfl rfl rfl ?_
        repeat' (first | ((with_reducible apply oq_id); first | (apply oq_fn; exact rfl; try first | exact trivial | (and_intros <;> omega)) | ((with_reducible apply oq_load); exact rfl; exact rfl) | ((with_reducible apply oq_call (k := 63) (hc := Try.call63)); exact rfl; exact rfl; exact fun D w1 hw1 => fromTwo hq1 hw1 (by (repeat (first | exact P0 | apply P1)))) | ((with_reducible apply oq_call (k := 63) (hc := Try.call63)); exact rfl; exact rfl; exact fun D w1 hw1 => fromOne hq2 hw1 (by (repeat (first | exact P0 | apply P1)))) | ((with_reducible apply oq_call (k := 63) (hc := Try.call63)); exact rfl; exact rfl; exact fun D w1 hw1 => fromOne hq3 hw1 (by (repeat (first | exact P0 | apply P1))))) | ((with_reducible apply tl_id); first | (with_reducible apply tl_nil) | ((with_reducible apply u_q); (iterate 4 exact rfl)) | ((with_reducible apply u_s); (iterate 3 exact rfl))) | ((with_reducible apply os_x); exact rfl) | ((with_reducible apply ox_id); first | ((with_reducible apply ox_boxAgg); exact rfl; intro _) | ((with_reducible apply ox_buildSlice1); (iterate 6 exact rfl); intro _)) | ((with_reducible apply rd_id); first | (apply Rd.own; (repeat (first | exact P0 | apply P1)); exact rfl; done)) | ((with_reducible apply t_id); first | (with_reducible apply t_seq) | (apply t_region; kernel_rfl) | ((with_reducible apply t_condF); exact rfl) | (with_reducible apply t_ret) | (with_reducible apply t_skip)) | with_reducible apply q_thenN | (with_reducible apply end_ret) | exact rvs_nil | (with_reducible apply rvs_cons) | ((with_reducible apply rv_tmp); exact rfl))
        all_goals rfl
theorem tiE_ok {d : Du} {l : List Sh} (h : tiE d l = 0) : duB d ∧ l.length ≤ 40 ∧ Ros l := by
  unfold tiE duE rosE at h
  by_cases h1 : duB d
  · rw [if_pos h1] at h
    by_cases h2 : 40 < l.length
    · rw [if_pos h2] at h; simp at h
    · rw [if_neg h2] at h
      by_cases h3 : Ros l
      · exact ⟨h1, by omega, h3⟩
      · rw [if_neg h3] at h; simp at h
  · rw [if_neg h1] at h; simp at h
theorem tiE_eq {d : Du} {l : List Sh} : (if duE d = 0 then rosE l else duE d) = tiE d l := rfl
end Go.Proofs.Ytmlmgipngbndgaa
namespace Go.Proofs.Ytmlmgipngbndgaa
structure Tr where
  fr : Int
  to : Int
  crew : Int
def trCells (x : Tr) : List Value := [.int .i64 x.fr, .int .i64 x.to, .int .i64 x.crew]
/-- A roster that is valid, but for its number, in which nobody is tired. -/
def okB (d : Du) (l : List Sh) : Bool := decide (Ros l) && (tiV d l).isEmpty
/-- The first way to man trips, from a state of the first one on. -/
def tryF (d : Du) (mem : Nat) : Nat → List Tr → List Int → Nat → List Sh → Option (List (List Int))
  | 0, _, _, _, _ => none
  | f + 1, ts, cur, who, l => if okB d l = true then (match ts with
      | [] => some []
      | x :: ts' => if (cur.length : Int) = x.crew then (tryF d mem f ts' [] 0 l).map (cur :: ·)
          else (List.range' who (mem - who)).findSome? fun k : Nat => tryF d mem f (x :: ts') (cur ++ [(k : Int)]) (k + 1) (l ++ [⟨(k : Int), x.fr, x.to⟩]))
    else none
/-- How deep it goes. -/
def dep : List Tr → Nat
  | [] => 1
  | x :: ts => x.crew.toNat + 1 + dep ts
def trOk (x : Tr) : Prop := 0 ≤ x.fr ∧ x.fr < x.to ∧ x.to ≤ 1000000 ∧ 0 ≤ x.crew ∧ x.crew ≤ 2
instance (x : Tr) : Decidable (trOk x) := by unfold trOk; infer_instance
theorem tryF_bad {d : Du} {mem f : Nat} {ts : List Tr} {cur : List Int} {who : Nat} {l : List Sh} (h : okB d l = false) : tryF d mem f ts cur who l = none := by
  cases f with
  | zero => rfl
  | succ f => unfold tryF; rw [if_neg (by rw [h]; decide)]
theorem tryF_end {d : Du} {mem f : Nat} {cur : List Int} {who : Nat} {l : List Sh} (h : okB d l = true) : tryF d mem (f + 1) [] cur who l = some [] := by
  unfold tryF; rw [if_pos h]
theorem tryF_full {d : Du} {mem f : Nat} {x : Tr} {ts : List Tr} {cur : List Int} {who : Nat} {l : List Sh} (h : okB d l = true) (hc : (cur.length : Int) = x.crew) : tryF d mem (f + 1) (x :: ts) cur who l = (tryF d mem f ts [] 0 l).map (cur :: ·) := by
  rw [tryF, if_pos h]; simp only [if_pos hc]
theorem tryF_loop {d : Du} {mem f : Nat} {x : Tr} {ts : List Tr} {cur : List Int} {who : Nat} {l : List Sh} (h : okB d l = true) (hc : ¬ (cur.length : Int) = x.crew) : tryF d mem (f + 1) (x :: ts) cur who l =
    (List.range' who (mem - who)).findSome? fun k : Nat => tryF d mem f (x :: ts) (cur ++ [(k : Int)]) (k + 1) (l ++ [⟨(k : Int), x.fr, x.to⟩]) := by
  rw [tryF, if_pos h]; simp only [if_neg hc]
theorem some_go {β : Type} {F : Nat → Option β} {who mem : Nat} (h : who < mem) (hn : F who = none) : (List.range' who (mem - who)).findSome? F = (List.range' (who + 1) (mem - (who + 1))).findSome? F := by
  rw [show mem - who = (mem - (who + 1)) + 1 by omega, List.range'_succ, List.findSome?_cons, hn]
theorem some_hit {β : Type} {F : Nat → Option β} {who mem : Nat} (h : who < mem) {r : β} (hn : F who = some r) : (List.range' who (mem - who)).findSome? F = some r := by
  rw [show mem - who = (mem - (who + 1)) + 1 by omega, List.range'_succ, List.findSome?_cons, hn]
theorem some_end {β : Type} {F : Nat → Option β} {who mem : Nat} (h : mem ≤ who) : (List.range' who (mem - who)).findSome? F = none := by
  rw [show mem - who = 0 by omega]; rfl
theorem tryF_len {d : Du} {mem : Nat} : ∀ {f : Nat} {ts : List Tr} {cur : List Int} {who : Nat} {l : List Sh} {r : List (List Int)}, tryF d mem f ts cur who l = some r → r.length = ts.length
  | 0, ts, cur, who, l, r, h => by unfold tryF at h; cases h
  | f + 1, ts, cur, who, l, r, h => by
    cases ho : okB d l with
    | false => rw [tryF_bad ho] at h; cases h
    | true =>
      cases ts with
      | nil => rw [tryF_end ho] at h; cases h; rfl
      | cons x ts =>
        by_cases hc : (cur.length : Int) = x.crew
        · rw [tryF_full ho hc] at h
          obtain ⟨r', h1, rfl⟩ := Option.map_eq_some_iff.1 h
          rw [List.length_cons, List.length_cons, tryF_len h1]
        · rw [tryF_loop ho hc] at h
          obtain ⟨k, _, h1⟩ := List.exists_of_findSome?_eq_some h
          exact tryF_len h1
end Go.Proofs.Ytmlmgipngbndgaa
namespace Go.Proofs.Ytmlmgipngbndgaa
open Go.RowKit
theorem hp_perm : ∀ {G H : Hp}, H.Perm G → HpSub H G
  | [], H, _ => HpSub.nil
  | (b, C, g) :: G, H, h => by
    have hm : (b, C, g) ∈ H := h.mem_iff.2 (List.mem_cons_self ..)
    obtain ⟨H', hp⟩ : ∃ H', Pick H b C g H' := by
      clear h
      induction H with
      | nil => cases hm
      | cons x H ih =>
        rcases List.mem_cons.1 hm with rfl | hm
        · exact ⟨H, Pick.head _ _ _ _⟩
        · obtain ⟨H', hp⟩ := ih hm
          exact ⟨x :: H', hp.tail⟩
    exact HpSub.cons hp (hp_perm ((hp.perm.symm.trans h).cons_inv))
theorem hp_comm (A B : Hp) : HpSub (A ++ B) (B ++ A) := hp_perm List.perm_append_comm
/-- What holds of the blocks H holds of the blocks G. -/
def HpW (H G : Hp) : Prop := ∀ w0 M w, Has w0 M H w → Has w0 M G w
theorem HpSub.w {H G : Hp} (h : HpSub H G) : HpW H G := fun _ _ _ hw => hw.sub h
theorem HpW.refl (H : Hp) : HpW H H := fun _ _ _ h => h
theorem HpW.trans {H G K : Hp} (h : HpW H G) (k : HpW G K) : HpW H K := fun _ _ _ hw => k _ _ _ (h _ _ _ hw)
theorem HpW.pre {b : Nat} {C D : List Value} {tg : Tg} {H : Hp} : HpW ((b, C ++ D, tg) :: H) ((b, C, tg) :: H) := fun w0 M w h => by
  refine ⟨h.ext, fun x hx => ?_, h.nodup, h.marks⟩
  rcases List.mem_cons.1 hx with rfl | hx
  · have h1 := h.blk _ (List.mem_cons_self ..)
    refine ⟨h1.1, ?_⟩
    obtain ⟨c, t, e1, e2, e3⟩ := h1.2
    exact ⟨c, t, e1, fun o v ho => e2 o v (by
      have := (List.getElem?_eq_some_iff.1 ho).1
      rw [List.getElem?_append_left this]; exact ho), e3⟩
  · exact h.blk _ (List.mem_cons_of_mem _ hx)
section
variable {c : Cx} {S : WS c.P} {Q : QS} {F : Fr} {H G : Hp} {x y : Code}
theorem t_subW (hH : HpW H G) (h : T c S x Q F G) : T c S x Q F H := fun D a w ha hw => h D a w ha (hH _ _ _ hw)
theorem t_fact {P : Prop} (hf : ∀ M w, Has c.w0 M H w → P) (h : P → T c S x Q F H) : T c S x Q F H := fun D a w ha hw => h (hf _ _ hw) D a w ha hw
/-- The end of a piece of code, told more weakly. -/
theorem t_endW (h1 : T c S x (fun e F' H' => e = .normal ∧ ∃ F2 H2, FrSub F' F2 ∧ HpW H' H2 ∧ Q .normal F2 H2) F H) : T c S x Q F H := fun D a w ha hw =>
  S.mono (h1 D a w ha hw) fun e a' w' he => by
    obtain ⟨D', F', H', ⟨rfl, F2, H2, hF, hH, hq⟩, h3, h4⟩ := he
    exact ⟨D', F2, H2, hq, h3.sub hF, hH _ _ _ h4⟩
end
/-! Rows -/
abbrev Row := List Int × Option (Nat × Nat)
def rwV (r : Row) : Value := .slice (clA r.2) r.1.length (clC r.2)
def rowH (r : Row) : Hp := clH 3 1 (r.1.map iv) r.2
def rwsH : List Row → Hp
  | [] => []
  | r :: R => rowH r ++ rwsH R
theorem rwsH_app : ∀ (R R' : List Row), rwsH (R ++ R') = rwsH R ++ rwsH R'
  | [], _ => rfl
  | r :: R, R' => by show rowH r ++ rwsH (R ++ R') = (rowH r ++ rwsH R) ++ rwsH R'; rw [rwsH_app R R', List.append_assoc]
def LrOk (r : Row) : Prop := (r.2 = none → r.1.length = 0) ∧ r.1.length ≤ clC r.2
def outH (g m : Nat) (R : List Row) : Hp := (g, R.map rwV, some (41, 1, m)) :: rwsH R
/-- The row that is worked at, ahead of the others. -/
def outR (g m : Nat) (R1 : List Row) (r : Row) (R2 : List Row) : Hp := rowH r ++ ((g, R1.map rwV ++ rwV r :: R2.map rwV, some (41, 1, m)) :: (rwsH R1 ++ rwsH R2))
theorem out_to (g m : Nat) (R1 : List Row) (r : Row) (R2 : List Row) (X : Hp) : HpSub (outH g m (R1 ++ r :: R2) ++ X) (outR g m R1 r R2 ++ X) := by
  refine hp_perm (List.Perm.append_right X ?_)
  unfold outH outR
  rw [rwsH_app, List.map_append, List.map_cons]
  show List.Perm (_ :: (rwsH R1 ++ (rowH r ++ rwsH R2))) _
  refine List.Perm.trans ?_ List.perm_middle.symm
  refine List.Perm.cons _ ?_
  rw [← List.append_assoc, ← List.append_assoc]
  exact List.Perm.append_right _ List.perm_append_comm
theorem out_of (g m : Nat) (R1 : List Row) (r : Row) (R2 : List Row) (X : Hp) : HpSub (outR g m R1 r R2 ++ X) (outH g m (R1 ++ r :: R2) ++ X) := by
  refine hp_perm (List.Perm.append_right X ?_)
  unfold outH outR
  rw [rwsH_app, List.map_append, List.map_cons]
  show List.Perm _ (_ :: (rwsH R1 ++ (rowH r ++ rwsH R2)))
  refine List.perm_middle.trans ?_
  refine List.Perm.cons _ ?_
  rw [← List.append_assoc, ← List.append_assoc]
  exact List.Perm.append_right _ List.perm_append_comm
theorem out_to0 (g m : Nat) (R1 : List Row) (r : Row) (R2 : List Row) : HpSub (outH g m (R1 ++ r :: R2)) (outR g m R1 r R2) := by
  have := out_to g m R1 r R2 []
  rwa [List.append_nil, List.append_nil] at this
theorem out_of0 (g m : Nat) (R1 : List Row) (r : Row) (R2 : List Row) : HpSub (outR g m R1 r R2) (outH g m (R1 ++ r :: R2)) := by
  have := out_of g m R1 r R2 []
  rwa [List.append_nil, List.append_nil] at this
theorem HpSub.front {x : Nat × List Value × Tg} {H G : Hp} (h : HpSub H G) : HpSub (x :: H) (x :: G) := by
  obtain ⟨b, C, g⟩ := x; exact HpSub.cons P0 h
theorem Has.off2 {w0 : World} {M : Ms} {X K : Hp} {w : World} (h : Has w0 M (X ++ K) w) {b : Nat} (hb : b ∈ X.map Prod.fst) : b ∉ K.map Prod.fst := fun hm => by
  have := h.nodup
  rw [List.map_append, List.nodup_append] at this
  exact this.2.2 _ hb _ hm rfl
theorem mem_fst {X K : Hp} {b : Nat} (h : b ∈ K.map Prod.fst) : b ∈ (X ++ K).map Prod.fst := by
  rw [List.map_append]; exact List.mem_append_right _ h
theorem rwV_at {A B : List Value} {v : Value} {k : Nat} (h : A.length = k) : (A ++ v :: B)[0 + k * 1]? = some v := by
  rw [Nat.zero_add, Nat.mul_one, ← h]; simp
section
variable {c : Cx} {F : Fr} {H H' : Hp} {K : Value → Hp → Prop} {d : Option Tmp} {ty t : TypeId} {pos : String} {af : Array Edge} {gd : Option (Nat × Bool)} {x y : Operand} {a0 : Bool} {z0 : List Value} {k0 : TyK} {g k : Nat} {tg : Tg} {A B : List Value} {u v : Value}
theorem os_storeV (h : A.length = k) (ht : tyAt c.tys t = some ⟨a0, 1, z0, k0⟩) (hx : ev F x = some (.pointer (some ⟨g, 0 + k * 1, none⟩))) (hy : ev F y = some u) (hu : u.oneCell' = true) (hp : Pick H g (A ++ v :: B) tg H')
    (kk : K undef ((g, A ++ u :: B, tg) :: H')) : OS c ⟨d, .store t x y, ty, pos, af, gd⟩ F H K :=
  store_gen (vs := [u]) ht hx hy (by cases u <;> first | rfl | (simp [Value.oneCell'] at hu)) rfl (by simpa using hu) hp (by simp; omega) (by
    have e : setL (A ++ v :: B) (0 + k * 1) [u] = A ++ u :: B := by
      simp only [setL]
      rw [Nat.zero_add, Nat.mul_one, ← h, List.set_append_right _ _ (Nat.le_refl _)]
      simp
    rw [e]; exact kk)
end
theorem old_off {w w1 : World} {D : List Nat} {X G : Hp} {k n : Nat} {A : Option Addr} {rows : List (List Value)} (h : Has w ⟨[], D⟩ (X ++ G) w1) (hr : RdS w k A n rows) : 0 < n → ∀ b o, A = some ⟨b, o, none⟩ → b ∉ G.map Prod.fst := fun hn b o hA hb => by
  obtain ⟨b', o', hA', hb', _⟩ := hr.at_ hn
  rw [hA] at hA'
  cases hA'
  exact h.oldoff hb' List.not_mem_nil (mem_fst hb)
/-- What try may read. -/
structure TryW (d : Du) (mem m : Nat) (ts : List Tr) (bD bT bO bF bM g : Nat) (AT : Option Addr) (cT : Nat) (w : World) (M : List Nat) : Prop where
  d0 : w.cell? ⟨bD, 0, none⟩ = some (.int .i64 d.most)
  d1 : w.cell? ⟨bD, 1, none⟩ = some (.int .i64 d.rest)
  d2 : w.cell? ⟨bD, 2, none⟩ = some (.int .i64 d.win)
  d3 : w.cell? ⟨bD, 3, none⟩ = some (.int .i64 d.sum)
  t0 : w.cell? ⟨bT, 0, none⟩ = some (.slice AT m cT)
  o0 : w.cell? ⟨bO, 0, none⟩ = some (.slice (some ⟨g, 0, none⟩) m m)
  f0 : w.cell? ⟨bF, 0, none⟩ = some (.func (.func 88) #[] #[.pointer (some ⟨bD, 0, none⟩), .pointer (some ⟨bT, 0, none⟩), .pointer (some ⟨bO, 0, none⟩), .pointer (some ⟨bF, 0, none⟩), .pointer (some ⟨bM, 0, none⟩)])
  m0 : w.cell? ⟨bM, 0, none⟩ = some (.int .i64 (mem : Nat))
  ts_ : RdS w 3 AT m (ts.map trCells)
  nD : bD ∉ M
  nT : bT ∉ M
  nO : bO ∉ M
  nF : bF ∉ M
  nM : bM ∉ M
  nA : 0 < m → ∀ b o, AT = some ⟨b, o, none⟩ → b ∉ M
theorem TryW.next {d : Du} {mem m : Nat} {ts : List Tr} {bD bT bO bF bM g : Nat} {AT : Option Addr} {cT : Nat} {w w1 : World} {M D : List Nat} {H G : Hp} (h : TryW d mem m ts bD bT bO bF bM g AT cT w M) (hm : 0 < m) (hw : Has w ⟨M, D⟩ H w1) (hG : ∀ b ∈ G.map Prod.fst, b ∈ H.map Prod.fst) :
    TryW d mem m ts bD bT bO bF bM g AT cT w1 (G.map Prod.fst) := by
  have hlt : ∀ {b o : Nat} {v : Value}, w.cell? ⟨b, o, none⟩ = some v → b < w.heap.size := fun hc => cell_lt hc
  refine ⟨hw.oldc h.d0 h.nD, hw.oldc h.d1 h.nD, hw.oldc h.d2 h.nD, hw.oldc h.d3 h.nD, hw.oldc h.t0 h.nT, hw.oldc h.o0 h.nO, hw.oldc h.f0 h.nF, hw.oldc h.m0 h.nM, h.ts_.extM hw.ext h.nA, fun hb => ?_, fun hb => ?_, fun hb => ?_, fun hb => ?_, fun hb => ?_, fun _ b o hA hb => ?_⟩
  · exact hw.oldoff (hlt h.d0) h.nD (hG _ hb)
  · exact hw.oldoff (hlt h.t0) h.nT (hG _ hb)
  · exact hw.oldoff (hlt h.o0) h.nO (hG _ hb)
  · exact hw.oldoff (hlt h.f0) h.nF (hG _ hb)
  · exact hw.oldoff (hlt h.m0) h.nM (hG _ hb)
  · obtain ⟨b', o', hA', hb', _⟩ := h.ts_.at_ hm
    rw [hA] at hA'
    cases hA'
    exact hw.oldoff hb' (h.nA hm _ _ hA) (hG _ hb)
end Go.Proofs.Ytmlmgipngbndgaa
namespace Go.Proofs.Ytmlmgipngbndgaa
theorem take_one {C : List Bk} {p : Nat} {y : Bk} (h : C[p]? = some y) : C.take (p + 1) = C.take p ++ [y] := by rw [List.take_add_one, h]; rfl
theorem take_set {C : List Bk} {p : Nat} {y z : Bk} (h : C[p]? = some y) : (C.set p z).take (p + 1) = C.take p ++ [z] := by
  have hl := (List.getElem?_eq_some_iff.1 h).1
  rw [take_one (y := z) (by simp [hl]), List.take_set_of_le (Nat.le_refl p)]
structure OkO (o : Off) : Prop where
  now : 0 ≤ o.now ∧ o.now ≤ 1000000
  notice : 0 ≤ o.notice ∧ o.notice ≤ 1000000
  fee : 0 ≤ o.fee ∧ o.fee ≤ 100
  nf : o.fl.length ≤ 10
  nb : o.bk.length ≤ 120
  deps : DepsOk o.fl
  bks : BksOk o.fl o.bk
  fit : o.bk.all (bookedB o.fl o.fee) = true
  seats : (List.range o.fl.length).all (seatB o.fl o.bk) = true
  money : moneyB o = true
  inn : -1000000000 ≤ o.inn ∧ o.inn ≤ 1000000000
  out : -1000000000 ≤ o.out ∧ o.out ≤ 1000000000
theorem OkO.dep {o : Off} (h : OkO o) {i : Nat} {d : Dep} (hi : o.fl[i]? = some d) : 0 ≤ d.seats ∧ d.seats ≤ 50 ∧ 0 ≤ d.price ∧ d.price ≤ 1000000 ∧ 0 ≤ d.leaves ∧ d.leaves ≤ 1000000 ∧ d.state ≤ 2 := depOk_in (h.deps d (List.mem_of_getElem? hi)).1
theorem OkO.seat {o : Off} (hv : OkO o) {i : Nat} {d : Dep} (hi : o.fl[i]? = some d) : manyV o.bk i 1 + manyV o.bk i 3 ≤ d.seats ∧ (manyV o.bk i 1 + manyV o.bk i 3 = d.seats ∨ manyV o.bk i 2 ≤ 0) := by
  have hl := (List.getElem?_eq_some_iff.1 hi).1
  have h := List.all_eq_true.1 hv.seats i (List.mem_range.2 hl)
  unfold seatB at h
  rw [hi] at h
  simp only [Bool.and_eq_true, Bool.or_eq_true, decide_eq_true_eq] at h
  exact h
theorem Has.old {w0 : World} {M : Ms} {H : Hp} {w : World} (h : Has w0 M H w) {b o : Nat} {v : Value} (hc : w0.cell? ⟨b, o, none⟩ = some v) (hm : b ∉ M.wr) : w.cell? ⟨b, o, none⟩ = some v := by
  rw [World.cell?_of_block (w := w0) (a := ⟨b, o, none⟩) (h.ext.block b (cell_lt hc) hm)]
  exact hc
/-! Sums -/
def cH (fl : List Dep) (x : Bk) : Int := if x.state = 1 ∨ x.state = 2 then prc fl x else 0
def cE (fl : List Dep) (x : Bk) : Int := if x.state = 3 then prc fl x else 0
def cK (fl : List Dep) (x : Bk) : Int := if x.state = 4 then x.kept else 0
def cB (fl : List Dep) (x : Bk) : Int := if x.state = 4 then prc fl x - x.kept else 0
def sm (f : Bk → Int) : List Bk → Int
  | [] => 0
  | x :: l => f x + sm f l
/-! Counts -/
def cN (f s : Int) (x : Bk) : Int := if isB f s x = true then 1 else 0
/-- A booking that is valid. -/
def BkOk (fl : List Dep) (fee : Int) (x : Bk) : Prop := ∃ (i : Nat) (d : Dep), x.flight = (i : Int) ∧ fl[i]? = some d ∧ ((x.state = 4 ∧ 0 ≤ x.kept ∧ x.kept ≤ feeV d.price fee) ∨ (¬ x.state = 4 ∧ fitB d.state x.state = true ∧ x.kept = 0))
/-- What is asked of a valid office, but for the seats of departure i. -/
structure Semi (o : Off) (i : Nat) : Prop where
  now : 0 ≤ o.now ∧ o.now ≤ 1000000
  notice : 0 ≤ o.notice ∧ o.notice ≤ 1000000
  fee : 0 ≤ o.fee ∧ o.fee ≤ 100
  nf : o.fl.length ≤ 10
  nb : o.bk.length ≤ 120
  deps : DepsOk o.fl
  bks : ∀ x ∈ o.bk, BkOk o.fl o.fee x
  seat : ∀ (j : Nat) (d : Dep), j ≠ i → o.fl[j]? = some d → manyV o.bk j 1 + manyV o.bk j 3 ≤ d.seats ∧ (manyV o.bk j 1 + manyV o.bk j 3 = d.seats ∨ manyV o.bk j 2 ≤ 0)
  inn : o.inn = sm (cH o.fl) o.bk + sm (cE o.fl) o.bk + sm (cK o.fl) o.bk + sm (cB o.fl) o.bk
  out : o.out = sm (cB o.fl) o.bk
end Go.Proofs.Ytmlmgipngbndgaa
namespace Go.Proofs.Ytmlmgipngbndgaa
open Go.RowKit
/-- A frame with the deferred calls ds, no marks. -/
def Fd (c : Cx) (ds : List Deferred) (F : Fr) (a : Act) : Prop := Frm [] c.N F ⟨a.tmps, []⟩ ∧ a.defers = ds
def cvd (c : Cx) (ds : List Deferred) (Q : QS) : Exit → Act → World → Prop := fun e a w => ∃ F H, Q e F H ∧ Fd c ds F a ∧ Has c.w0 ⟨c.M, []⟩ H w
def DT (c : Cx) (ds : List Deferred) (k : Code) (Q : QS) (F : Fr) (H : Hp) : Prop := ∀ a w, Fd c ds F a → Has c.w0 ⟨c.M, []⟩ H w → k.wp c.P (cvd c ds Q) a w
def DE (c : Cx) (ds : List Deferred) (ops : Array Oper) (rest : List Oper) (Q : QS) (F : Fr) (H : Hp) : Prop :=
  ∀ i, ops.toList.drop i = rest → ∀ a w, Fd c ds F a → Has c.w0 ⟨c.M, []⟩ H w → wpOps c.P ops (cvd c ds Q) (List.range' i (ops.size - i)) a w
section
variable {c : Cx} {ds : List Deferred} {Q : QS} {F : Fr} {H : Hp} {ops : Array Oper} {o : Oper} {rest : List Oper} {d : Nat} {v : Value} {x y : Code}
theorem Fd.put {a : Act} (h : Fd c ds F a) (hd : Nat.blt d c.N = true) (v : Value) : Fd c ds ((d, v) :: F) (a.put (some d) v) := ⟨h.1.put hd v, h.2⟩
theorem Fd.putNone {a : Act} (h : Fd c ds F a) (v : Value) : Fd c ds F (a.put none v) := h
theorem Fd.wanted {a : Act} {r : Bool} (h : Fd c ds F a) (hr : runs ops F o = some r) : Region.wanted o (yielded ops a.tmps) = r := runs_spec (a := ⟨a.tmps, []⟩) h.1 hr
end
theorem HpSub.skipApp {G R X : Hp} (h : HpSub R X) : HpSub (G ++ R) X := by
  induction G with
  | nil => exact h
  | cons x G ih => exact HpSub.skipX ih
theorem HpSub.appC {A H G : Hp} (h : HpSub H G) : HpSub (A ++ H) (A ++ G) := by
  induction A with
  | nil => exact h
  | cons x A ih => obtain ⟨b, C, g⟩ := x; exact HpSub.cons P0 ih
def dropA (L : Option Addr) (l cap s : Nat) : Option Addr := match L with
  | none => none
  | some p => some (if cap = l then p else p.add (l * s))
section
variable {c : Cx} {F : Fr} {H : Hp} {d : Option Tmp} {ty t : TypeId} {pos : String} {af : Array Edge} {g : Option (Nat × Bool)} {x y : Operand} {a0 a1 : Bool} {s0 s1 : Nat} {z0 z1 : List Value} {k1 : TyK}
theorem oq_sliceHG {e len cap h : Nat} {L : Option Addr} (hn : L = none → len = 0 ∧ cap = 0) (ht : tyAt c.tys t = some ⟨a0, s0, z0, .slice e⟩) (he : tyAt c.tys e = some ⟨a1, s1, z1, k1⟩)
    (hx : ev F x = some (.slice L len cap)) (hy : ev F y = some (.int .i64 (h : Nat))) (h1 : h ≤ cap) :
    OQ c ⟨d, .slice t x none (some y) none, ty, pos, af, g⟩ F H (.slice L h cap) := .of fun D a w ha _ => by
  have hk := (c.ty ht).kind w
  have hs := (c.ty he).size w
  simp only [execOp, Option.map, ha.ev hx, ha.ev hy]
  rcases L with _ | ⟨b, o, q⟩
  · obtain ⟨rfl, rfl⟩ := hn rfl
    obtain rfl : h = 0 := by omega
    simp [Instr.sliceAt, Instr.slice, Instr.sliceBounds, Instr.sliceBound, asIntOf, Sem.run_bind, hk, hs, Result.andThen, go_sem, add_eq]
  · by_cases h2 : cap = 0
    · subst h2
      simp [Instr.sliceAt, Instr.slice, Instr.sliceBounds, Instr.sliceBound, asIntOf, Sem.run_bind, hk, hs, h1, Result.andThen, go_sem, add_eq]
    · simp [Instr.sliceAt, Instr.slice, Instr.sliceBounds, Instr.sliceBound, asIntOf, Sem.run_bind, hk, hs, h1, h2, Result.andThen, go_sem, add_eq]
theorem oq_sliceLG {e len cap l : Nat} {L : Option Addr} (hn : L = none → len = 0 ∧ cap = 0) (ht : tyAt c.tys t = some ⟨a0, s0, z0, .slice e⟩) (he : tyAt c.tys e = some ⟨a1, s1, z1, k1⟩)
    (hx : ev F x = some (.slice L len cap)) (hy : ev F y = some (.int .i64 (l : Nat))) (h1 : l ≤ len) :
    OQ c ⟨d, .slice t x (some y) none none, ty, pos, af, g⟩ F H (.slice (dropA L l cap s1) (len - l) (cap - l)) := .of fun D a w ha _ => by
  have hk := (c.ty ht).kind w
  have hs := (c.ty he).size w
  simp only [execOp, Option.map, ha.ev hx, ha.ev hy]
  rcases L with _ | ⟨b, o, q⟩
  · obtain ⟨rfl, rfl⟩ := hn rfl
    obtain rfl : l = 0 := by omega
    simp [dropA, Instr.sliceAt, Instr.slice, Instr.sliceBounds, Instr.sliceBound, asIntOf, Sem.run_bind, hk, hs, Result.andThen, go_sem, add_eq]
  · unfold dropA
    by_cases h2 : cap = l
    · subst h2
      simp [Instr.sliceAt, Instr.slice, Instr.sliceBounds, Instr.sliceBound, asIntOf, Sem.run_bind, hk, hs, h1, Result.andThen, go_sem, add_eq]
    · simp only [h2, if_false]
      simp [Instr.sliceAt, Instr.slice, Instr.sliceBounds, Instr.sliceBound, asIntOf, Sem.run_bind, hk, hs, h1, h2, Result.andThen, go_sem, add_eq]
end
theorem rows_dropG {α : Type} {f : α → List Value} {w : World} {k n c j : Nat} {A : Option Addr} {l : List α} (hr : RdS w k A n (l.map f)) (hj : j ≤ n) (hc : n ≤ c) : RdS w k (dropA A j c k) (n - j) ((l.drop j).map f) := by
  have hl := hr.len
  simp only [List.length_map] at hl
  refine ⟨by simp; omega, fun hp => ?_⟩
  obtain ⟨b, o, hA, hb, hat⟩ := hr.at_ (by omega)
  subst hA
  refine ⟨b, o + j * k, by unfold dropA; simp only; rw [if_neg (by omega), add_eq], hb, fun i x hx => ?_⟩
  rw [List.map_drop, List.getElem?_drop] at hx
  obtain ⟨h1, h2⟩ := hat (j + i) x hx
  refine ⟨h1, fun q u hu => ?_⟩
  have := h2 q u hu
  rw [← this]
  congr 2
  rw [Nat.add_mul]
  omega
end Go.Proofs.Ytmlmgipngbndgaa
namespace Go.Proofs.Ytmlmgipngbndgaa
open Go.RowKit
attribute [local irreducible] OQ OS OX Rd T TL GX GL AL AI RV wpG SAny Calls
/-- A copy of a roster that is not nil. -/
def OwnS (C : List Value) (n : Nat) (v : Value) (H : Hp) : Prop := ∃ g c, v = .slice (some ⟨g, 0, none⟩) n c ∧ H = [(g, C, some (101, 3, c))]
theorem cloneO (b o : Nat) (q : _) (n c : Nat) (l : List Sh) (w : World) (hr : RdS w 3 (some ⟨b, o, q⟩) n (l.map shCells)) (hn : n ≤ 1000000) : Calls Try.prog 89 #[.slice (some ⟨b, o, q⟩) n c] w fun e w' => ∃ v H', e = .returned v ∧ OwnS (shB l) n v H' ∧ Has w ⟨[], []⟩ H' w' := by
  refine enterF (c := cx w 8) Try.func89 rfl rfl rfl rfl ?_
  repeat' (first | ((with_reducible apply oq_id); first | ((with_reducible apply oq_eqNil); (iterate 3 exact rfl)) | (apply oq_fn; exact rfl; try first | exact trivial | (and_intros <;> omega))) | ((with_reducible apply tl_id); first | (with_reducible apply tl_nil) | ((with_reducible apply u_s); (iterate 3 exact rfl); (with_reducible apply os_appendRows (hk := app_ok75) (rows := l.map shCells) (hr := fun D w1 hw1 => hr.ext hw1.ext.ext)); exact rfl; exact rfl; exact P0; exact sh_len l; exact rfl; exact sh_one l; exact Nat.le_refl _; omega; omega; intro b cap'; simp only [Nat.zero_add, List.nil_append]) | ((with_reducible apply u_q); (iterate 4 exact rfl)) | ((with_reducible apply u_s); (iterate 3 exact rfl))) | ((with_reducible apply os_x); exact rfl) | ((with_reducible apply ox_buildSlice); (iterate 4 exact rfl)) | ((with_reducible apply t_id); first | (with_reducible apply t_seq) | (apply t_region; kernel_rfl) | ((with_reducible apply t_condF); exact rfl) | (with_reducible apply t_ret) | (with_reducible apply t_skip)) | with_reducible apply q_thenN | ((with_reducible apply Norm.nil); exact rfl) | (with_reducible apply end_ret) | exact rvs_nil | (with_reducible apply rvs_cons) | ((with_reducible apply rv_tmp); exact rfl) | exact (rfl : (_ : Bool) = true) | (intro _; with_reducible apply tl_id))
  exact ⟨_, ⟨b, cap', rfl, rfl⟩, HpSub.refl _⟩
theorem cloneN (w : World) : Calls Try.prog 89 #[.slice none 0 0] w fun e w' => e = .returned (.slice none 0 0) ∧ Ext w w' := by
  refine enterQ (c := cx w 8) Try.func89 rfl rfl rfl rfl ?_
  repeat' (first | ((with_reducible apply oq_id); first | ((with_reducible apply oq_eqNilT); (iterate 3 exact rfl)) | (apply oq_fn; exact rfl; try first | exact trivial | (and_intros <;> omega))) | ((with_reducible apply tl_id); first | (with_reducible apply tl_nil) | ((with_reducible apply u_q); (iterate 4 exact rfl))) | ((with_reducible apply t_id); first | (with_reducible apply t_seq) | (apply t_region; kernel_rfl) | ((with_reducible apply t_condT); exact rfl) | (with_reducible apply t_ret)) | with_reducible apply q_thenN | with_reducible apply q_thenR | (with_reducible apply end_ret) | exact rvs_nil | (with_reducible apply rvs_cons) | ((with_reducible apply rv_tmp); exact rfl))
  all_goals rfl
theorem hp_skA {G R X : Hp} (h : HpSub R X) : HpSub (G ++ R) X := by
  induction G with
  | nil => exact h
  | cons x G ih => exact HpSub.skipX ih
theorem rowV_mk (xs : List Int) (o : Option (Nat × Nat)) : rwV (xs, o) = .slice (clA o) xs.length (clC o) := rfl
theorem hp_left1 {x : Nat × List Value × Tg} {G : Hp} : HpSub (x :: G) G := HpSub.skipX (HpSub.refl _)
theorem hp_last2 {G : Hp} {a z : Nat × List Value × Tg} : HpSub (G ++ [a, z]) (z :: G) := by
  obtain ⟨b, C, g⟩ := z; exact HpSub.cons (PA (Pick.tail (Pick.head _ _ _ _))) hp_left
theorem hp_last3 {G : Hp} {a a' z : Nat × List Value × Tg} : HpSub (G ++ [a, a', z]) (z :: G) := by
  obtain ⟨b, C, g⟩ := z; exact HpSub.cons (PA (Pick.tail (Pick.tail (Pick.head _ _ _ _)))) hp_left
theorem hp_last4 {G : Hp} {a a' a2 z : Nat × List Value × Tg} : HpSub (G ++ [a, a', a2, z]) (z :: G) := by
  obtain ⟨b, C, g⟩ := z; exact HpSub.cons (PA (Pick.tail (Pick.tail (Pick.tail (Pick.head _ _ _ _))))) hp_left
theorem hp_kA {A H G : Hp} (h : HpSub H G) : HpSub (A ++ H) (A ++ G) := by
  induction A with
  | nil => exact h
  | cons x A ih => obtain ⟨b, C, g⟩ := x; exact HpSub.cons P0 ih
/-- What try answers. -/
def TryP (g m : Nat) (cs : List (List Int)) (trip : Nat) (res : Option (List (List Int))) (v : Value) (H : Hp) : Prop :=
  ∃ R, (∀ r ∈ R, LrOk r) ∧ v = .bool res.isSome ∧ R.map Prod.fst = (match res with | some rs => cs.take trip ++ rs | none => cs) ∧ H = outH g m R
theorem tr_read {w : World} {A : Option Addr} {n : Nat} {l : List Tr} (h : RdS w 3 A n (l.map trCells)) {i : Nat} (hi : i < n) :
    ∃ b o x, A = some ⟨b, o, none⟩ ∧ b < w.heap.size ∧ l[i]? = some x ∧ w.cell? ⟨b, o + i * 3, none⟩ = some (.int .i64 x.fr) ∧ w.cell? ⟨b, o + i * 3 + 1, none⟩ = some (.int .i64 x.to) ∧ w.cell? ⟨b, o + i * 3 + 2, none⟩ = some (.int .i64 x.crew) := by
  obtain ⟨b, o, cs, hA, hb, hx, _, hc⟩ := h.row hi
  simp only [List.getElem?_map, Option.map_eq_some_iff] at hx
  obtain ⟨x, hx, rfl⟩ := hx
  exact ⟨b, o, x, hA, hb, hx, hc 0 _ rfl, hc 1 _ rfl, hc 2 _ rfl⟩
theorem row_split {R : List Row} {i : Nat} {r : Row} (h : R[i]? = some r) : ∃ R1 R2, R = R1 ++ r :: R2 ∧ R1.length = i := by
  obtain ⟨hi, rfl⟩ := List.getElem?_eq_some_iff.1 h
  refine ⟨R.take i, R.drop (i + 1), ?_, by simp; omega⟩
  rw [← List.drop_eq_getElem_cons hi, List.take_append_drop]
theorem dep_drop {ts : List Tr} {i : Nat} {x : Tr} (h : ts[i]? = some x) : dep (ts.drop i) = x.crew.toNat + 1 + dep (ts.drop (i + 1)) := by
  obtain ⟨hi, rfl⟩ := List.getElem?_eq_some_iff.1 h
  rw [List.drop_eq_getElem_cons hi]; rfl
theorem dep_pos (ts : List Tr) : 1 ≤ dep ts := by cases ts with
  | nil => exact Nat.le_refl _
  | cons x ts => show 1 ≤ x.crew.toNat + 1 + dep ts; omega
theorem try_T (d : Du) (hd : duB d) (mem m : Nat) (hmem : mem ≤ 1000) (hm : m ≤ 1000) (ts0 : List Tr) (hts : ts0.length = m) (hto : ∀ x ∈ ts0, trOk x) (bD bT bO bF bM g : Nat) (AT : Option Addr) (cT : Nat) :
    ∀ (f trip who : Nat) (l : List Sh) (R : List Row) (cur : List Int) (A : Option Addr) (n c : Nat) (w : World), R.length = m → (∀ r ∈ R, LrOk r) → trip ≤ m → (∀ j r, trip < j → R[j]? = some r → r.1 = []) → (∀ r, R[trip]? = some r → r.1 = cur) → (trip = m → cur = []) →
      (∀ x, ts0[trip]? = some x → (cur.length : Int) ≤ x.crew) → dep (ts0.drop trip) ≤ f + cur.length → n + f ≤ 900 → who ≤ 1000 → RdS w 3 A n (l.map shCells) → (A = none → n = 0 ∧ c = 0) → (0 < n → ∀ b o, A = some ⟨b, o, none⟩ → b ∉ (outH g m R).map Prod.fst) →
      TryW d mem m ts0 bD bT bO bF bM g AT cT w ((outH g m R).map Prod.fst) → Has w ⟨(outH g m R).map Prod.fst, []⟩ (outH g m R) w →
      Calls Try.prog 88 #[.int .i64 (trip : Nat), .int .i64 (who : Nat), .slice A n c, .pointer (some ⟨bD, 0, none⟩), .pointer (some ⟨bT, 0, none⟩), .pointer (some ⟨bO, 0, none⟩), .pointer (some ⟨bF, 0, none⟩), .pointer (some ⟨bM, 0, none⟩)] w fun e w' => ∃ v H1, e = .returned v ∧ TryP g m (R.map Prod.fst) trip (tryF d mem f (ts0.drop trip) cur who l) v H1 ∧ Has w ⟨(outH g m R).map Prod.fst, []⟩ H1 w' := by
  intro f
  induction f with
  | zero =>
    intro trip who l R cur A n c w hR hok htr hrest hcur hc0 hcl hdep
    exfalso
    by_cases h : trip < m
    · obtain ⟨x, hx⟩ : ∃ x, ts0[trip]? = some x := ⟨_, List.getElem?_eq_getElem (by omega)⟩
      have h1 := dep_drop hx
      have h2 := hcl x hx
      have h3 := dep_pos (ts0.drop (trip + 1))
      omega
    · have h1 := hc0 (by omega)
      subst h1
      have h3 := dep_pos (ts0.drop trip)
      simp at hdep
      omega
  | succ f ih =>
  intro trip who l R cur A n c w hR hok htr hrest hcur hc0 hcl hdep hnf hwho hr hA hAm hW hw
  have hl := hr.len
  simp only [List.length_map] at hl
  refine (enter (c := cxM ((outH g m R).map Prod.fst) w 88) (H := outH g m R) (F := frOf 0 _) (PV := fun v H => ∃ H1, TryP g m (R.map Prod.fst) trip (tryF d mem (f + 1) (ts0.drop trip) cur who l) v H1 ∧ HpW H H1) Try.func88 rfl rfl rfl (fun d v hv => (look_frOf _ 0 d v hv).2) hw ?_).mono fun e w' ⟨v, H', h1, ⟨H1, h2, h3⟩, h4⟩ => ⟨v, H1, h1, h2, h3 _ _ _ h4⟩
  have HF := fun w1 h => fitsR_calls A n c l w1 h hA (by omega)
  have hsame : ∀ (H : Hp), tryF d mem (f + 1) (ts0.drop trip) cur who l = none → HpSub H (outH g m R) → ∃ H1, TryP g m (R.map Prod.fst) trip (tryF d mem (f + 1) (ts0.drop trip) cur who l) (.bool false) H1 ∧ HpW H H1 := fun H h1 h2 => ⟨_, ⟨R, hok, by rw [h1]; rfl, by rw [h1], rfl⟩, h2.w⟩
  refine t_cut (ι := Unit) (fun _ => [(0, .int .i64 (trip : Nat)), (1, .int .i64 (who : Nat)), (2, .slice A n c), (3, .pointer (some ⟨bD, 0, none⟩)), (4, .pointer (some ⟨bT, 0, none⟩)), (5, .pointer (some ⟨bO, 0, none⟩)), (6, .pointer (some ⟨bF, 0, none⟩)), (7, .pointer (some ⟨bM, 0, none⟩))]) (fun _ => outH g m R) (fun _ => True) ?_ ?_
  · repeat' (first | ((with_reducible apply oq_id); first | (apply oq_fn; exact rfl; try first | exact trivial | (and_intros <;> omega))) | ((with_reducible apply tl_id); first | (with_reducible apply tl_nil) | ((with_reducible apply u_q); (iterate 4 exact rfl))) | ((with_reducible apply t_id); first | (apply t_region; kernel_rfl)))
    all_goals exact ⟨rfl, (), trivial, by (repeat (first | exact FrSub.nil | (apply FrSub.cons; exact rfl))), by (repeat (first | exact HpSub.refl _ | (apply HpSub.consE; (repeat (first | exact P0 | apply P1 | apply PA)); exact rfl) | apply hp_kA | apply HpSub.skipX | apply hp_skA | exact HpSub.nil))⟩
  rintro ⟨⟩ -
  by_cases hRos : Ros l
  rotate_left
  · have hno : tryF d mem (f + 1) (ts0.drop trip) cur who l = none := tryF_bad (by unfold okB; rw [decide_eq_false hRos]; rfl)
    rw [decide_eq_false hRos] at HF
    repeat' (first | ((with_reducible apply oq_id); first | (apply oq_fn; exact rfl; try first | exact trivial | (and_intros <;> omega)) | ((with_reducible apply oq_call (k := 84) (hc := Try.call84)); exact rfl; exact rfl; exact fun D w1 hw1 => HF w1 (hr.extM hw1.ext hAm))) | ((with_reducible apply tl_id); first | (with_reducible apply tl_nil) | ((with_reducible apply u_q); (iterate 4 exact rfl)) | ((with_reducible apply u_skip); (iterate 3 exact rfl))) | ((with_reducible apply t_id); first | (with_reducible apply t_seq) | (apply t_region; kernel_rfl) | ((with_reducible apply t_condT); exact rfl) | (with_reducible apply t_ret)) | with_reducible apply q_thenN | with_reducible apply q_thenR | (with_reducible apply end_ret) | exact rvs_nil | (with_reducible apply rvs_cons) | ((with_reducible apply rv_tmp); exact rfl))
    all_goals exact hsame _ hno (by (repeat (first | exact HpSub.refl _ | (apply HpSub.consE; (repeat (first | exact P0 | apply P1 | apply PA)); exact rfl) | apply hp_kA | apply HpSub.skipX | apply hp_skA | exact HpSub.nil)))
  rw [decide_eq_true hRos] at HF
  obtain ⟨T, hT⟩ : ∃ T, tiV d l = T := ⟨_, rfl⟩
  by_cases hTl : 0 < T.length
  · have hno : tryF d mem (f + 1) (ts0.drop trip) cur who l = none := tryF_bad (by
      unfold okB
      rw [hT, decide_eq_true hRos]
      cases T with
      | nil => simp at hTl
      | cons _ _ => rfl)
    repeat' (first | ((with_reducible apply oq_id); first | ((with_reducible apply oq_gtrT); exact rfl; exact rfl; omega) | (apply oq_fn; exact rfl; try first | exact trivial | (and_intros <;> omega)) | ((with_reducible apply oq_loadAgg); exact rfl; exact rfl) | ((with_reducible apply oq_call (k := 84) (hc := Try.call84)); exact rfl; exact rfl; exact fun D w1 hw1 => HF w1 (hr.extM hw1.ext hAm))) | ((with_reducible apply tl_id); first | (with_reducible apply tl_nil) | ((with_reducible apply u_s); (iterate 3 exact rfl); (with_reducible apply os_callF (PV := TiO T) (k := 82) (hc := Try.call82)); exact rfl; exact rfl; exact fun D w1 hw1 => (by rw [← hT]; exact tiredR_T d hd A n c l w1 (hr.extM hw1.ext hAm) hA (by omega) hRos); rintro v H' ⟨x0, hx0, rfl, rfl⟩) | ((with_reducible apply u_q); (iterate 4 exact rfl))) | ((with_reducible apply rd_id); first | (apply Rd.old; (first | exact hW.d0 | exact hW.d1 | exact hW.d2 | exact hW.d3 | exact hW.t0 | exact hW.o0 | exact hW.f0 | exact hW.m0 | exact e0 | exact e1 | exact e2); first | exact hW.nD | exact hW.nT | exact hW.nO | exact hW.nF | exact hW.nM | exact hnx)) | ((with_reducible apply t_id); first | (with_reducible apply t_seq) | (apply t_region; kernel_rfl) | ((with_reducible apply t_condT); exact rfl) | (with_reducible apply t_ret)) | with_reducible apply q_thenN | with_reducible apply q_thenR | exact Rdn.zero | apply Rdn.succ | (with_reducible apply end_ret) | exact rvs_nil | (with_reducible apply rvs_cons) | ((with_reducible apply rv_tmp); exact rfl))
    all_goals exact hsame _ hno (by (repeat (first | exact HpSub.refl _ | (apply HpSub.consE; (repeat (first | exact P0 | apply P1 | apply PA)); exact rfl) | apply hp_kA | apply HpSub.skipX | apply hp_skA | exact HpSub.nil)))
  have hyes : okB d l = true := by
    unfold okB
    rw [hT, decide_eq_true hRos, List.length_eq_zero_iff.1 (show T.length = 0 by omega)]; rfl
  refine t_cut (ι := Unit) (fun _ => [(0, .int .i64 (trip : Nat)), (1, .int .i64 (who : Nat)), (2, .slice A n c), (3, .pointer (some ⟨bD, 0, none⟩)), (4, .pointer (some ⟨bT, 0, none⟩)), (5, .pointer (some ⟨bO, 0, none⟩)), (6, .pointer (some ⟨bF, 0, none⟩)), (7, .pointer (some ⟨bM, 0, none⟩))]) (fun _ => outH g m R) (fun _ => True) ?_ ?_
  · repeat' (first | ((with_reducible apply oq_id); first | ((with_reducible apply oq_gtrF); exact rfl; exact rfl; omega) | (apply oq_fn; exact rfl; try first | exact trivial | (and_intros <;> omega)) | ((with_reducible apply oq_loadAgg); exact rfl; exact rfl) | ((with_reducible apply oq_call (k := 84) (hc := Try.call84)); exact rfl; exact rfl; exact fun D w1 hw1 => HF w1 (hr.extM hw1.ext hAm))) | ((with_reducible apply tl_id); first | (with_reducible apply tl_nil) | ((with_reducible apply u_s); (iterate 3 exact rfl); (with_reducible apply os_callF (PV := TiO T) (k := 82) (hc := Try.call82)); exact rfl; exact rfl; exact fun D w1 hw1 => (by rw [← hT]; exact tiredR_T d hd A n c l w1 (hr.extM hw1.ext hAm) hA (by omega) hRos); rintro v H' ⟨x0, hx0, rfl, rfl⟩) | ((with_reducible apply u_q); (iterate 4 exact rfl))) | ((with_reducible apply rd_id); first | (apply Rd.old; (first | exact hW.d0 | exact hW.d1 | exact hW.d2 | exact hW.d3 | exact hW.t0 | exact hW.o0 | exact hW.f0 | exact hW.m0 | exact e0 | exact e1 | exact e2); first | exact hW.nD | exact hW.nT | exact hW.nO | exact hW.nF | exact hW.nM | exact hnx)) | ((with_reducible apply t_id); first | (with_reducible apply t_seq) | (apply t_region; kernel_rfl) | ((with_reducible apply t_condF); exact rfl) | (with_reducible apply t_skip)) | with_reducible apply q_thenN | exact Rdn.zero | apply Rdn.succ)
    all_goals exact ⟨rfl, (), trivial, by (repeat (first | exact FrSub.nil | (apply FrSub.cons; exact rfl))), by (repeat (first | exact HpSub.refl _ | (apply HpSub.consE; (repeat (first | exact P0 | apply P1 | apply PA)); exact rfl) | apply hp_kA | apply HpSub.skipX | apply hp_skA | exact HpSub.nil))⟩
  rintro ⟨⟩ -
  by_cases htm : trip = m
  · have hdr : ts0.drop trip = [] := List.drop_of_length_le (by omega)
    rw [hdr, tryF_end hyes]
    repeat' (first | ((with_reducible apply oq_id); first | ((with_reducible apply oq_eqlT); exact rfl; exact rfl; omega) | (apply oq_fn; exact rfl; try first | exact trivial | (and_intros <;> omega)) | ((with_reducible apply oq_load); exact rfl; exact rfl)) | ((with_reducible apply tl_id); first | (with_reducible apply tl_nil) | ((with_reducible apply u_q); (iterate 4 exact rfl))) | ((with_reducible apply rd_id); first | (apply Rd.old; (first | exact hW.d0 | exact hW.d1 | exact hW.d2 | exact hW.d3 | exact hW.t0 | exact hW.o0 | exact hW.f0 | exact hW.m0 | exact e0 | exact e1 | exact e2); first | exact hW.nD | exact hW.nT | exact hW.nO | exact hW.nF | exact hW.nM | exact hnx)) | ((with_reducible apply t_id); first | (with_reducible apply t_seq) | (apply t_region; kernel_rfl) | ((with_reducible apply t_condT); exact rfl) | (with_reducible apply t_ret)) | with_reducible apply q_thenN | with_reducible apply q_thenR | (with_reducible apply end_ret) | exact rvs_nil | (with_reducible apply rvs_cons) | ((with_reducible apply rv_tmp); exact rfl))
    all_goals exact ⟨_, ⟨R, hok, rfl, by simp only [List.append_nil]; rw [List.take_of_length_le (by simp; omega)], rfl⟩, HpW.refl _⟩
  refine t_cut (ι := Unit) (fun _ => [(0, .int .i64 (trip : Nat)), (1, .int .i64 (who : Nat)), (2, .slice A n c), (3, .pointer (some ⟨bD, 0, none⟩)), (4, .pointer (some ⟨bT, 0, none⟩)), (5, .pointer (some ⟨bO, 0, none⟩)), (6, .pointer (some ⟨bF, 0, none⟩)), (7, .pointer (some ⟨bM, 0, none⟩))]) (fun _ => outH g m R) (fun _ => True) ?_ ?_
  · repeat' (first | ((with_reducible apply oq_id); first | ((with_reducible apply oq_eqlF); exact rfl; exact rfl; omega) | (apply oq_fn; exact rfl; try first | exact trivial | (and_intros <;> omega)) | ((with_reducible apply oq_load); exact rfl; exact rfl)) | ((with_reducible apply tl_id); first | (with_reducible apply tl_nil) | ((with_reducible apply u_q); (iterate 4 exact rfl))) | ((with_reducible apply rd_id); first | (apply Rd.old; (first | exact hW.d0 | exact hW.d1 | exact hW.d2 | exact hW.d3 | exact hW.t0 | exact hW.o0 | exact hW.f0 | exact hW.m0 | exact e0 | exact e1 | exact e2); first | exact hW.nD | exact hW.nT | exact hW.nO | exact hW.nF | exact hW.nM | exact hnx)) | ((with_reducible apply t_id); first | (with_reducible apply t_seq) | (apply t_region; kernel_rfl) | ((with_reducible apply t_condF); exact rfl) | (with_reducible apply t_skip)) | with_reducible apply q_thenN)
    all_goals exact ⟨rfl, (), trivial, by (repeat (first | exact FrSub.nil | (apply FrSub.cons; exact rfl))), by (repeat (first | exact HpSub.refl _ | (apply HpSub.consE; (repeat (first | exact P0 | apply P1 | apply PA)); exact rfl) | apply hp_kA | apply HpSub.skipX | apply hp_skA | exact HpSub.nil))⟩
  rintro ⟨⟩ -
  have htl : trip < m := by omega
  obtain ⟨bx, ox, x, hATe, hbx, hx, e0, e1, e2⟩ := tr_read hW.ts_ htl
  have hnx := hW.nA (by omega) _ _ hATe
  subst hATe
  have hxo := hto x (List.mem_of_getElem? hx)
  unfold trOk at hxo
  have hcx := hcl x hx
  have hdx := dep_drop hx
  have hdrop : ts0.drop trip = x :: ts0.drop (trip + 1) := by
    obtain ⟨h1, h2⟩ := List.getElem?_eq_some_iff.1 hx
    rw [List.drop_eq_getElem_cons h1, h2]
  obtain ⟨⟨cur', o⟩, hrow⟩ : ∃ r, R[trip]? = some r := ⟨_, List.getElem?_eq_getElem (by omega)⟩
  obtain rfl : cur' = cur := hcur _ hrow
  have hcs : (R.map Prod.fst).take (trip + 1) = (R.map Prod.fst).take trip ++ [cur'] := by
    rw [List.take_add_one, List.getElem?_map, hrow]; rfl
  obtain ⟨cs, hcse⟩ : ∃ cs, R.map Prod.fst = cs := ⟨_, rfl⟩
  have hcsl : cs.length = m := by rw [← hcse, List.length_map, hR]
  have hct : cs[trip]? = some cur' := by rw [← hcse, List.getElem?_map, hrow]; rfl
  have hcr : ∀ j r, trip < j → cs[j]? = some r → r = [] := fun j r hj hr => by
    rw [← hcse, List.getElem?_map] at hr
    obtain ⟨r', h1, rfl⟩ := Option.map_eq_some_iff.1 hr
    exact hrest j r' hj h1
  rw [hcse] at hcs ⊢
  have hlen : ∀ R' : List Row, R'.map Prod.fst = cs → R'.length = m := fun R' h => by rw [← hcsl, ← h, List.length_map]
  have hsp : ∀ R' : List Row, R'.map Prod.fst = cs → ∃ R1 o R2, R' = R1 ++ (cur', o) :: R2 ∧ R1.length = trip := fun R' h => by
    have h1 := hct
    rw [← h, List.getElem?_map] at h1
    obtain ⟨⟨c', o'⟩, h2, h3⟩ := Option.map_eq_some_iff.1 h1
    simp only at h3
    subst h3
    obtain ⟨R1, R2, h4, h5⟩ := row_split h2
    exact ⟨R1, o', R2, h4, h5⟩
  refine t_cut (ι := Nat) (fun b12 => [(0, .int .i64 (trip : Nat)), (1, .int .i64 (who : Nat)), (2, .slice A n c), (3, .pointer (some ⟨bD, 0, none⟩)), (4, .pointer (some ⟨bT, 0, none⟩)), (5, .pointer (some ⟨bO, 0, none⟩)), (6, .pointer (some ⟨bF, 0, none⟩)), (7, .pointer (some ⟨bM, 0, none⟩)), (12, .pointer (some ⟨b12, 0, none⟩))]) (fun b12 => (b12, [.int .i64 x.fr, .int .i64 x.to, .int .i64 x.crew], some (114, 3, 1)) :: outH g m R) (fun _ => True) ?_ ?_
  · repeat' (first | ((with_reducible apply oq_id); first | (focus ((with_reducible apply oq_indexAddrN); (iterate 4 exact rfl); omega)) | (apply oq_fn; exact rfl; try first | exact trivial | (and_intros <;> omega)) | ((with_reducible apply oq_load); exact rfl; exact rfl) | ((with_reducible apply oq_loadAgg); exact rfl; exact rfl)) | ((with_reducible apply tl_id); first | (with_reducible apply tl_nil) | ((with_reducible apply u_q); (iterate 4 exact rfl)) | ((with_reducible apply u_s0); exact rfl; exact rfl) | ((with_reducible apply u_s); (iterate 3 exact rfl))) | ((with_reducible apply os_id); first | ((with_reducible apply os_x); exact rfl) | ((with_reducible apply os_storeAgg); (iterate 5 exact rfl))) | ((with_reducible apply ox_alloc); exact rfl; intro _) | ((with_reducible apply rd_id); first | (apply Rd.old; (first | exact hW.d0 | exact hW.d1 | exact hW.d2 | exact hW.d3 | exact hW.t0 | exact hW.o0 | exact hW.f0 | exact hW.m0 | exact e0 | exact e1 | exact e2); first | exact hW.nD | exact hW.nT | exact hW.nO | exact hW.nF | exact hW.nM | exact hnx)) | ((with_reducible apply t_id); first | (apply t_region; kernel_rfl)) | exact P0 | exact Rdn.zero | apply Rdn.succ | ((with_reducible apply Norm.nil); exact rfl) | ((with_reducible apply Norm.cons); exact rfl) | exact Nat.le_of_ble_eq_true rfl)
    all_goals exact ⟨rfl, _, trivial, by (repeat (first | exact FrSub.nil | (apply FrSub.cons; exact rfl))), by (repeat (first | exact HpSub.refl _ | (apply HpSub.consE; (repeat (first | exact P0 | apply P1 | apply PA)); exact rfl) | apply hp_kA | apply HpSub.skipX | apply hp_skA | exact HpSub.nil))⟩
  rintro b12 -
  try dsimp only
  obtain ⟨R1, o, R2, hRe, hR1⟩ := hsp R hcse
  have hA1 : (R1.map rwV).length = trip := by rw [List.length_map, hR1]
  by_cases hc : (cur'.length : Int) = x.crew
  · rw [hdrop, tryF_full hyes hc]
    refine t_seq ?_
    refine t_cut (ι := Unit) (fun _ => [(0, .int .i64 (trip : Nat)), (1, .int .i64 (who : Nat)), (2, .slice A n c), (3, .pointer (some ⟨bD, 0, none⟩)), (4, .pointer (some ⟨bT, 0, none⟩)), (5, .pointer (some ⟨bO, 0, none⟩)), (6, .pointer (some ⟨bF, 0, none⟩)), (7, .pointer (some ⟨bM, 0, none⟩)), (12, .pointer (some ⟨b12, 0, none⟩)), (38, .bool true)]) (fun _ => (b12, [.int .i64 x.fr, .int .i64 x.to, .int .i64 x.crew], some (114, 3, 1)) :: outH g m R) (fun _ => True) ?_ ?_
    · refine t_subW (HpSub.front (by rw [hRe]; exact out_to0 g m R1 (cur', o) R2)).w ?_
      unfold outR
      repeat' (first | ((with_reducible apply oq_id); first | (focus ((with_reducible apply oq_indexAddrN); (iterate 4 exact rfl); omega)) | ((with_reducible apply oq_eqlT); exact rfl; exact rfl; omega) | (apply oq_fn; exact rfl; try first | exact trivial | (and_intros <;> omega)) | ((with_reducible apply oq_load); exact rfl; exact rfl)) | ((with_reducible apply gx_id); first | (with_reducible apply v_nil) | ((with_reducible apply v_q); (iterate 3 exact rfl))) | ((with_reducible apply rd_id); first | (apply Rd.old; (first | exact hW.d0 | exact hW.d1 | exact hW.d2 | exact hW.d3 | exact hW.t0 | exact hW.o0 | exact hW.f0 | exact hW.m0 | exact e0 | exact e1 | exact e2); first | exact hW.nD | exact hW.nT | exact hW.nO | exact hW.nF | exact hW.nM | exact hnx) | (apply Rd.own; (repeat (first | exact P0 | apply P1 | apply PA)); exact rwV_at hA1; done) | (apply Rd.own; (repeat (first | exact P0 | apply P1 | apply PA)); exact rfl; done)) | ((with_reducible apply t_id); first | (apply t_mix (id := 6) [0, 1, 2, 3, 4, 5, 6, 7] 0 #[false, false, false, false, false, false, false, false]; kernel_rfl; kernel_rfl; exact rfl)) | ((with_reducible apply al_id); first | (apply al_done; decide +kernel)))
      all_goals exact ⟨rfl, (), trivial, by (repeat (first | exact FrSub.nil | (apply FrSub.cons; exact rfl))), by (rw [hRe]; exact HpSub.front (out_of0 g m R1 (cur', o) R2))⟩
    rintro ⟨⟩ -
    obtain ⟨res, hres⟩ : ∃ r, tryF d mem f (ts0.drop (trip + 1)) [] 0 l = r := ⟨_, rfl⟩
    rw [hres]
    repeat' (first | ((with_reducible apply oq_id); first | ((with_reducible apply oq_addE (k := ((trip + 1 : Nat) : Int))); exact rfl; exact rfl; omega) | (apply oq_fn; exact rfl; try first | exact trivial | (and_intros <;> omega)) | ((with_reducible apply oq_load); exact rfl; exact rfl)) | ((with_reducible apply tl_id); first | (with_reducible apply tl_nil) | ((with_reducible apply u_s); (iterate 3 exact rfl); (with_reducible apply os_callM (G := outH g m R) (R := [(b12, [.int .i64 x.fr, .int .i64 x.to, .int .i64 x.crew], some (114, 3, 1))]) (PV := TryP g m cs (trip + 1) res) (k := 88) (hc := Try.call88)); exact rfl; exact rfl; exact hp_comm [_] _; exact fun D w1 hw1 hw2 => (by have h := ih (trip + 1) 0 l R [] A n c w1 hR hok (by omega) (fun j r hj => hrest j r (by omega)) (fun r hr' => hrest (trip + 1) r (by omega) hr') (fun _ => rfl) (fun y hy => by have := hto y (List.mem_of_getElem? hy); unfold trOk at this; simp only [List.length_nil]; omega) (by simp only [List.length_nil]; omega) (by omega) (by omega) (hr.extM hw1.ext hAm) hA hAm (hW.next (by omega) hw1 fun b hb => mem_fst (X := [_]) hb) hw2; rw [hres, hcse] at h; exact h); rintro v H1 ⟨R', hok', rfl, hcs', rfl⟩) | ((with_reducible apply u_q); (iterate 4 exact rfl))) | ((with_reducible apply rd_id); first | (apply Rd.old; (first | exact hW.d0 | exact hW.d1 | exact hW.d2 | exact hW.d3 | exact hW.t0 | exact hW.o0 | exact hW.f0 | exact hW.m0 | exact e0 | exact e1 | exact e2); first | exact hW.nD | exact hW.nT | exact hW.nO | exact hW.nF | exact hW.nM | exact hnx)) | ((with_reducible apply t_id); first | (with_reducible apply t_seq) | (apply t_region; kernel_rfl) | ((with_reducible apply t_condT); exact rfl) | (with_reducible apply t_ret)) | with_reducible apply q_thenN | with_reducible apply q_thenR | (with_reducible apply end_ret) | exact rvs_nil | (with_reducible apply rvs_cons) | ((with_reducible apply rv_tmp); exact rfl))
    all_goals (refine ⟨_, ⟨R', hok', ?_, ?_, rfl⟩, (HpSub.w hp_left)⟩)
    · cases res <;> rfl
    · rw [hcs']
      cases res with
      | none => rfl
      | some rs => simp only [Option.map_some, hcs, List.append_assoc, List.cons_append, List.nil_append]
  rw [hdrop, tryF_loop hyes hc]
  obtain ⟨Fk, hFk⟩ : ∃ F : Nat → Option (List (List Int)), (fun k : Nat => tryF d mem f (x :: ts0.drop (trip + 1)) (cur' ++ [(k : Int)]) (k + 1) (l ++ [⟨(k : Int), x.fr, x.to⟩])) = F := ⟨_, rfl⟩
  rw [hFk]
  have hFe : ∀ k : Nat, tryF d mem f (x :: ts0.drop (trip + 1)) (cur' ++ [(k : Int)]) (k + 1) (l ++ [⟨(k : Int), x.fr, x.to⟩]) = Fk k := fun k => congrFun hFk k
  refine t_cut (ι := Unit) (fun _ => [(0, .int .i64 (trip : Nat)), (1, .int .i64 (who : Nat)), (2, .slice A n c), (3, .pointer (some ⟨bD, 0, none⟩)), (4, .pointer (some ⟨bT, 0, none⟩)), (5, .pointer (some ⟨bO, 0, none⟩)), (6, .pointer (some ⟨bF, 0, none⟩)), (7, .pointer (some ⟨bM, 0, none⟩)), (12, .pointer (some ⟨b12, 0, none⟩))]) (fun _ => (b12, [.int .i64 x.fr, .int .i64 x.to, .int .i64 x.crew], some (114, 3, 1)) :: outH g m R) (fun _ => True) ?_ ?_
  · refine t_subW (HpSub.front (by rw [hRe]; exact out_to0 g m R1 (cur', o) R2)).w ?_
    unfold outR
    repeat' (first | ((with_reducible apply oq_id); first | (focus ((with_reducible apply oq_indexAddrN); (iterate 4 exact rfl); omega)) | ((with_reducible apply oq_eqlF); exact rfl; exact rfl; omega) | (apply oq_fn; exact rfl; try first | exact trivial | (and_intros <;> omega)) | ((with_reducible apply oq_load); exact rfl; exact rfl)) | ((with_reducible apply gx_id); first | (with_reducible apply v_nil) | ((with_reducible apply v_q); (iterate 3 exact rfl))) | ((with_reducible apply rd_id); first | (apply Rd.old; (first | exact hW.d0 | exact hW.d1 | exact hW.d2 | exact hW.d3 | exact hW.t0 | exact hW.o0 | exact hW.f0 | exact hW.m0 | exact e0 | exact e1 | exact e2); first | exact hW.nD | exact hW.nT | exact hW.nO | exact hW.nF | exact hW.nM | exact hnx) | (apply Rd.own; (repeat (first | exact P0 | apply P1 | apply PA)); exact rwV_at hA1; done) | (apply Rd.own; (repeat (first | exact P0 | apply P1 | apply PA)); exact rfl; done)) | ((with_reducible apply t_id); first | (apply t_mix (id := 6) [0, 1, 2, 3, 4, 5, 6, 7] 0 #[false, false, false, false, false, false, false, false]; kernel_rfl; kernel_rfl; exact rfl) | (with_reducible apply t_seq) | ((with_reducible apply t_condF); exact rfl) | (with_reducible apply t_skip)) | with_reducible apply q_thenN | ((with_reducible apply al_id); first | (apply al_done; decide +kernel)))
    all_goals exact ⟨rfl, (), trivial, by (repeat (first | exact FrSub.nil | (apply FrSub.cons; exact rfl))), by (rw [hRe]; exact HpSub.front (out_of0 g m R1 (cur', o) R2))⟩
  rintro ⟨⟩ -
  repeat' (first | ((with_reducible apply t_id); first | (with_reducible apply t_seq) | (with_reducible apply t_block)))
  apply t_loopK (GH := []) (ι := Nat × List Row) [0, 2, 3, 4, 5, 6, 7, 12] (fun z => [(1, .int .i64 (z.1 : Nat))]) (fun z => (b12, [.int .i64 x.fr, .int .i64 x.to, .int .i64 x.crew], some (114, 3, 1)) :: outH g m z.2) (fun z => who ≤ z.1 ∧ (z.1 ≤ mem ∨ z.1 = who) ∧ z.2.map Prod.fst = cs ∧ (∀ r ∈ z.2, LrOk r) ∧ (List.range' who (mem - who)).findSome? Fk = (List.range' z.1 (mem - z.1)).findSome? Fk) (fun z => mem - z.1) ((who, R))
  (repeat (first | exact KeepF.nil | (apply KeepF.cons; exact rfl) | apply KeepF.skip))
  (repeat (first | exact FrSub.nil | (apply FrSub.cons; exact rfl)))
  ((try simp only [List.append_nil]); (repeat (first | exact HpSub.refl _ | (apply HpSub.consE; (repeat (first | exact P0 | apply P1 | apply PA)); exact rfl) | apply hp_kA | apply HpSub.skipX | apply hp_skA | exact HpSub.nil)))
  · exact ⟨Nat.le_refl _, .inr rfl, hcse, hok, rfl⟩
  clear hRe hR1 hA1 R1 R2 o
  rintro ⟨k, R3⟩ ⟨p1, p2, p3, p4, p5⟩
  simp only at p1 p2 p3 p4 p5
  try dsimp only
  try simp only [List.append_nil]
  by_cases hk : k < mem
  rotate_left
  · rw [p5, some_end (by omega)]
    repeat' (first | ((with_reducible apply oq_id); first | ((with_reducible apply oq_lssF); exact rfl; exact rfl; omega) | (apply oq_fn; exact rfl; try first | exact trivial | (and_intros <;> omega)) | ((with_reducible apply oq_load); exact rfl; exact rfl)) | ((with_reducible apply tl_id); first | (with_reducible apply tl_nil) | ((with_reducible apply u_q); (iterate 4 exact rfl))) | ((with_reducible apply rd_id); first | (apply Rd.old; (first | exact hW.d0 | exact hW.d1 | exact hW.d2 | exact hW.d3 | exact hW.t0 | exact hW.o0 | exact hW.f0 | exact hW.m0 | exact e0 | exact e1 | exact e2); first | exact hW.nD | exact hW.nT | exact hW.nO | exact hW.nF | exact hW.nM | exact hnx)) | ((with_reducible apply t_id); first | (with_reducible apply t_seq) | (apply t_region; kernel_rfl) | ((with_reducible apply t_condF); exact rfl) | (with_reducible apply t_ret) | (with_reducible apply t_exit)) | with_reducible apply q_thenN | with_reducible apply q_thenE | ((with_reducible apply q_blockE); exact rfl) | (with_reducible apply end_ret) | exact rvs_nil | (with_reducible apply rvs_cons) | ((with_reducible apply rv_tmp); exact rfl))
    all_goals exact ⟨_, ⟨R3, p4, rfl, p3, rfl⟩, HpSub.w hp_left1⟩
  obtain ⟨R1, o, R2, hRe, hR1⟩ := hsp R3 p3
  have hA1 : (R1.map rwV).length = trip := by rw [List.length_map, hR1]
  have hro := p4 (cur', o) (by rw [hRe]; simp)
  unfold LrOk at hro
  simp only at hro
  refine t_cut (ι := Unit) (fun _ => [(0, .int .i64 (trip : Nat)), (1, .int .i64 (k : Nat)), (2, .slice A n c), (3, .pointer (some ⟨bD, 0, none⟩)), (4, .pointer (some ⟨bT, 0, none⟩)), (5, .pointer (some ⟨bO, 0, none⟩)), (6, .pointer (some ⟨bF, 0, none⟩)), (7, .pointer (some ⟨bM, 0, none⟩)), (12, .pointer (some ⟨b12, 0, none⟩))]) (fun _ => (b12, [.int .i64 x.fr, .int .i64 x.to, .int .i64 x.crew], some (114, 3, 1)) :: outH g m R3) (fun _ => True) ?_ ?_
  · repeat' (first | ((with_reducible apply oq_id); first | ((with_reducible apply oq_lssT); exact rfl; exact rfl; omega) | (apply oq_fn; exact rfl; try first | exact trivial | (and_intros <;> omega)) | ((with_reducible apply oq_load); exact rfl; exact rfl)) | ((with_reducible apply tl_id); first | (with_reducible apply tl_nil) | ((with_reducible apply u_q); (iterate 4 exact rfl))) | ((with_reducible apply rd_id); first | (apply Rd.old; (first | exact hW.d0 | exact hW.d1 | exact hW.d2 | exact hW.d3 | exact hW.t0 | exact hW.o0 | exact hW.f0 | exact hW.m0 | exact e0 | exact e1 | exact e2); first | exact hW.nD | exact hW.nT | exact hW.nO | exact hW.nF | exact hW.nM | exact hnx)) | ((with_reducible apply t_id); first | (with_reducible apply t_seq) | (apply t_region; kernel_rfl) | ((with_reducible apply t_condT); exact rfl) | (with_reducible apply t_skip)) | with_reducible apply q_thenN)
    all_goals exact ⟨rfl, (), trivial, by (repeat (first | exact FrSub.nil | (apply FrSub.cons; exact rfl))), by (repeat (first | exact HpSub.refl _ | (apply HpSub.consE; (repeat (first | exact P0 | apply P1 | apply PA)); exact rfl) | apply hp_kA | apply HpSub.skipX | apply hp_skA | exact HpSub.nil))⟩
  rintro ⟨⟩ -
  refine t_seq ?_
  refine t_block ?_
  refine t_cut (ι := Nat × Nat) (fun _ => [(0, .int .i64 (trip : Nat)), (1, .int .i64 (k : Nat)), (2, .slice A n c), (3, .pointer (some ⟨bD, 0, none⟩)), (4, .pointer (some ⟨bT, 0, none⟩)), (5, .pointer (some ⟨bO, 0, none⟩)), (6, .pointer (some ⟨bF, 0, none⟩)), (7, .pointer (some ⟨bM, 0, none⟩)), (12, .pointer (some ⟨b12, 0, none⟩))]) (fun z => (b12, [.int .i64 x.fr, .int .i64 x.to, .int .i64 x.crew], some (114, 3, 1)) :: outR g m R1 (cur' ++ [(k : Int)], some z) R2) (fun _ => True) ?_ ?_
  · refine t_subW (HpSub.front (by rw [hRe]; exact out_to0 g m R1 (cur', o) R2)).w ?_
    unfold outR rowH
    rw [rowV_mk]
    have hpc := hro.2
    rcases o with _ | ⟨go, co⟩
    · obtain rfl := List.length_eq_zero_iff.1 (hro.1 rfl)
      simp only [clA, clC, clH, List.nil_append, List.length_nil]
      repeat' (first | ((with_reducible apply oq_id); first | (focus ((with_reducible apply oq_indexAddrN); (iterate 4 exact rfl); omega)) | (apply oq_fn; exact rfl; try first | exact trivial | (and_intros <;> omega)) | ((with_reducible apply oq_load); exact rfl; exact rfl)) | ((with_reducible apply gx_id); first | (with_reducible apply v_nil) | ((with_reducible apply v_q); (iterate 3 exact rfl))) | ((with_reducible apply os_id); first | ((with_reducible apply (os_storeV hA1)); (iterate 4 exact rfl); (repeat (first | exact P0 | apply P1 | apply PA))) | ((with_reducible apply os_appendNil (hk := app_ok41)); exact rfl; exact rfl)) | ((with_reducible apply ox_buildSlice1); (iterate 6 exact rfl); intro _) | ((with_reducible apply ai_id); first | ((with_reducible apply ai_q); (iterate 5 exact rfl)) | ((with_reducible apply ai_x); (iterate 5 exact rfl)) | ((with_reducible apply ai_n0); (iterate 3 exact rfl)) | ((with_reducible apply ai_n); (iterate 4 exact rfl))) | ((with_reducible apply al_keep); focus (repeat (first | exact HpSub.refl _ | (apply HpSub.cons; (repeat (first | exact P0 | apply P1 | apply PA))) | apply HpSub.skipX | exact HpSub.nil))) | ((with_reducible apply rd_id); first | (apply Rd.old; (first | exact hW.d0 | exact hW.d1 | exact hW.d2 | exact hW.d3 | exact hW.t0 | exact hW.o0 | exact hW.f0 | exact hW.m0 | exact e0 | exact e1 | exact e2); first | exact hW.nD | exact hW.nT | exact hW.nO | exact hW.nF | exact hW.nM | exact hnx) | (apply Rd.own; (repeat (first | exact P0 | apply P1 | apply PA)); exact rwV_at hA1; done) | (apply Rd.own; (repeat (first | exact P0 | apply P1 | apply PA)); exact rfl; done)) | ((with_reducible apply t_id); first | (apply t_mixZ (id := 10) [0, 1, 2, 3, 4, 6] 5; kernel_rfl; kernel_rfl; exact rfl)) | exact Rdn.zero | apply Rdn.succ | ((with_reducible apply al_id); first | (apply al_done; decide +kernel) | (apply al_one 5; decide +kernel) | (apply al_one 7; decide +kernel) | (apply al_one 8; decide +kernel) | (apply al_one 9; decide +kernel) | (apply al_one 10; decide +kernel) | (apply al_two 5 7; decide +kernel)) | (intro gN cN; refine al_keep ?_ ?_; focus exact HpSub.nil) | exact Nat.le_of_ble_eq_true rfl | exact (rfl : (_ : Bool) = true))
      all_goals exact ⟨rfl, (gN, cN), trivial, by (repeat (first | exact FrSub.nil | (apply FrSub.cons; exact rfl))), by (show HpSub _ ((b12, [.int .i64 x.fr, .int .i64 x.to, .int .i64 x.crew], some (114, 3, 1)) :: outR g m R1 (([] : List Int) ++ [(k : Int)], some (gN, cN)) R2); unfold outR rowH; simp only [clH, List.cons_append, List.nil_append]; (repeat (first | exact HpSub.refl _ | (apply HpSub.consE; (repeat (first | exact P0 | apply P1 | apply PA)); first | exact rfl | (focus (simp [iv]; done)) | (focus (rw [rowV_mk]; simp [clA, clC]; done))) | apply hp_kA | apply HpSub.skipX | apply hp_skA | exact HpSub.nil)))⟩
    · simp only [clA, clC, clH, List.cons_append, List.nil_append]
      repeat' (first | ((with_reducible apply oq_id); first | (focus ((with_reducible apply oq_indexAddrN); (iterate 4 exact rfl); omega)) | (apply oq_fn; exact rfl; try first | exact trivial | (and_intros <;> omega)) | ((with_reducible apply oq_load); exact rfl; exact rfl)) | ((with_reducible apply gx_id); first | (with_reducible apply v_nil) | ((with_reducible apply v_q); (iterate 3 exact rfl))) | ((with_reducible apply os_id); first | ((with_reducible apply (os_storeV hA1)); (iterate 4 exact rfl); (repeat (first | exact P0 | apply P1 | apply PA))) | ((with_reducible apply os_append (hk := app_ok41)); exact rfl; exact rfl; (repeat (first | exact P0 | apply P1 | apply PA)))) | ((with_reducible apply ox_buildSlice1); (iterate 6 exact rfl); intro _) | ((with_reducible apply ai_id); first | ((with_reducible apply ai_q); (iterate 5 exact rfl)) | ((with_reducible apply ai_x); (iterate 5 exact rfl)) | ((with_reducible apply ai_n0); (iterate 3 exact rfl)) | ((with_reducible apply ai_n); (iterate 4 exact rfl))) | ((with_reducible apply al_keep); focus (repeat (first | exact HpSub.refl _ | (apply HpSub.cons; (repeat (first | exact P0 | apply P1 | apply PA))) | apply HpSub.skipX | exact HpSub.nil))) | ((with_reducible apply rd_id); first | (apply Rd.old; (first | exact hW.d0 | exact hW.d1 | exact hW.d2 | exact hW.d3 | exact hW.t0 | exact hW.o0 | exact hW.f0 | exact hW.m0 | exact e0 | exact e1 | exact e2); first | exact hW.nD | exact hW.nT | exact hW.nO | exact hW.nF | exact hW.nM | exact hnx) | (apply Rd.own; (repeat (first | exact P0 | apply P1 | apply PA)); exact rwV_at hA1; done) | (apply Rd.own; (repeat (first | exact P0 | apply P1 | apply PA)); exact rfl; done)) | ((with_reducible apply t_id); first | (apply t_mixZ (id := 10) [0, 1, 2, 3, 4, 6] 5; kernel_rfl; kernel_rfl; exact rfl)) | exact Rdn.zero | apply Rdn.succ | ((with_reducible apply al_id); first | (apply al_done; decide +kernel) | (apply al_one 5; decide +kernel) | (apply al_one 7; decide +kernel) | (apply al_one 8; decide +kernel) | (apply al_one 9; decide +kernel) | (apply al_one 10; decide +kernel) | (apply al_two 5 7; decide +kernel)) | (simp only [List.length_map, Nat.mul_one]; done) | (intro gN cN; refine al_keep ?_ ?_; focus exact HpSub.nil) | exact Nat.le_of_ble_eq_true rfl | exact (rfl : (_ : Bool) = true) | omega)
      all_goals exact ⟨rfl, (gN, cN), trivial, by (repeat (first | exact FrSub.nil | (apply FrSub.cons; exact rfl))), by (show HpSub _ ((b12, [.int .i64 x.fr, .int .i64 x.to, .int .i64 x.crew], some (114, 3, 1)) :: outR g m R1 (cur' ++ [(k : Int)], some (gN, cN)) R2); unfold outR rowH; simp only [clH, List.cons_append, List.nil_append]; (repeat (first | exact HpSub.refl _ | (apply HpSub.consE; (repeat (first | exact P0 | apply P1 | apply PA)); first | exact rfl | (focus (simp [iv]; done)) | (focus (rw [rowV_mk]; simp [clA, clC]; done))) | apply hp_kA | apply HpSub.skipX | apply hp_skA | exact HpSub.nil)))⟩
  rintro ⟨gN, cN⟩ -
  try dsimp only
  refine t_fact (P := cur'.length + 1 ≤ cN) (fun M w h => by
    have := h.capge (show Pick _ gN ((cur' ++ [(k : Int)]).map iv) (some (3, 1, cN)) _ from Pick.tail (Pick.head _ _ _ _))
    simp only [List.length_map, List.length_append, List.length_cons, List.length_nil] at this
    omega) fun hcN => ?_
  refine t_subW (HpSub.front (out_of0 g m R1 (cur' ++ [(k : Int)], some (gN, cN)) R2)).w ?_
  obtain ⟨R4, hR4⟩ : ∃ R, R1 ++ (cur' ++ [(k : Int)], some (gN, cN)) :: R2 = R := ⟨_, rfl⟩
  rw [hR4]
  have hll : (cur' ++ [(k : Int)]).length = cur'.length + 1 := by simp
  have hcs4 : R4.map Prod.fst = cs.set trip (cur' ++ [(k : Int)]) := by
    rw [← hR4, ← p3, hRe, ← hR1]
    simp
  have hR4l : R4.length = m := by have := congrArg List.length hcs4; simp at this; omega
  have hok4 : ∀ r ∈ R4, LrOk r := fun r hr => by
    rw [← hR4] at hr
    rcases List.mem_append.1 hr with hr | hr
    · exact p4 r (by rw [hRe]; exact List.mem_append_left _ hr)
    · rcases List.mem_cons.1 hr with rfl | hr
      · exact ⟨(fun h => by cases h), by simp only [hll, clC]; exact hcN⟩
      · exact p4 r (by rw [hRe]; exact List.mem_append_right _ (List.mem_cons_of_mem _ hr))
  have hg4 : ∀ (j : Nat) r, R4[j]? = some r → (cs.set trip (cur' ++ [(k : Int)]))[j]? = some r.1 := fun j r hr => by
    rw [← hcs4, List.getElem?_map, hr]; rfl
  have hrest4 : ∀ (j : Nat) r, trip < j → R4[j]? = some r → r.1 = [] := fun j r hj hr => by
    have h1 := hg4 j r hr
    rw [List.getElem?_set_ne (by omega)] at h1
    exact hcr j _ hj h1
  have hcur4 : ∀ r, R4[trip]? = some r → r.1 = cur' ++ [(k : Int)] := fun r hr => by
    have h1 := hg4 trip r hr
    rw [List.getElem?_set, if_pos rfl, if_pos (by omega)] at h1
    exact (Option.some.inj h1).symm
  have e2 : ((l ++ [(⟨(k : Int), x.fr, x.to⟩ : Sh)]).map shCells).flatten = shB l ++ [.int .i64 (k : Int), .int .i64 x.fr, .int .i64 x.to] := by simp [shB, shCells]
  have hfl : (shB l).length = n * 3 := by rw [sh_flat_len, hl]
  have hih := fun A' c' w1 h1 h2 h3 h4 h5 => ih trip (k + 1) (l ++ [(⟨(k : Int), x.fr, x.to⟩ : Sh)]) R4 (cur' ++ [(k : Int)]) A' (n + 1) c' w1 hR4l hok4 htr hrest4 hcur4 (fun h => by omega) (fun y hy => by rw [hx] at hy; cases hy; omega) (by omega) (by omega) (by omega) h1 h2 h3 h4 h5
  rw [hdrop, hFe k, hcs4] at hih
  have hgo : (List.range' who (mem - who)).findSome? Fk = (match Fk k with | some rs => some rs | none => (List.range' (k + 1) (mem - (k + 1))).findSome? Fk) := by
    rw [p5]
    cases hres : Fk k with
    | none => exact some_go hk hres
    | some rs => exact some_hit hk hres
  have hset : ∀ rs : List (List Int), (cs.set trip (cur' ++ [(k : Int)])).take trip ++ rs = cs.take trip ++ rs := fun rs => by
    rw [List.take_set, List.set_eq_of_length_le (by simp; omega)]
  obtain ⟨res, hres⟩ : ∃ r, Fk k = r := ⟨_, rfl⟩
  rw [hres] at hgo hih
  cases res with
  | some rs =>
    rw [hgo]
    rcases A with _ | ⟨bA, oA, qA⟩
    · obtain ⟨rfl, rfl⟩ := hA rfl
      have hl0 : l = [] := List.length_eq_zero_iff.1 hl
      subst hl0
      repeat' (first | ((with_reducible apply oq_id); first | ((with_reducible apply oq_addE (k := ((k + 1 : Nat) : Int))); exact rfl; exact rfl; omega) | (apply oq_fn; exact rfl; try first | exact trivial | (and_intros <;> omega)) | ((with_reducible apply oq_load); exact rfl; exact rfl) | ((with_reducible apply oq_call (k := 89) (hc := Try.call89)); exact rfl; exact rfl; exact fun D w1 hw1 => cloneN w1) | ((with_reducible apply oq_build); (iterate 3 exact rfl))) | ((with_reducible apply tl_id); first | (with_reducible apply tl_nil) | ((with_reducible apply u_q); (iterate 4 exact rfl))) | ((with_reducible apply gx_id); first | (with_reducible apply v_nil) | ((with_reducible apply v_q); (iterate 3 exact rfl))) | ((with_reducible apply os_appendNil (hk := app_ok75)); exact rfl; exact rfl) | ((with_reducible apply ox_buildSlice); (iterate 4 exact rfl)) | ((with_reducible apply ai_id); first | ((with_reducible apply ai_s); (iterate 5 exact rfl); (with_reducible apply os_callM (G := outH g m R4) (PV := TryP g m (cs.set trip (cur' ++ [(k : Int)])) trip (some rs)) (k := 88) (hc := Try.call88)); exact rfl; exact rfl; (first | exact hp_comm [_, _] _ | exact hp_comm [_, _, _] _ | exact hp_comm [_, _, _, _] _); exact fun D w1 hw1 hw2 => hih (some ⟨gL, 0, none⟩) cL w1 (Blk.rows (rows := ([] ++ [(⟨(k : Int), x.fr, x.to⟩ : Sh)]).map shCells) (by rw [e2]; exact (hw1.blk _ (Pick.mem (by (repeat (first | exact P0 | apply P1 | apply PA))))).2) (by simp <;> omega) (sh_len _)) (fun h => by cases h) (fun _ b o hb => by cases hb; first | exact Has.off2 (X := [_, _]) hw1 (by simp) | exact Has.off2 (X := [_, _, _]) hw1 (by simp) | exact Has.off2 (X := [_, _, _, _]) hw1 (by simp)) (hW.next (by omega) hw1 (fun b hb => by first | exact mem_fst (X := [_, _]) hb | exact mem_fst (X := [_, _, _]) hb | exact mem_fst (X := [_, _, _, _]) hb)) hw2; rintro v H1 ⟨R5, hok5, rfl, hcs5, rfl⟩; (simp only [Option.isSome_some, Option.isSome_none])) | ((with_reducible apply ai_q); (iterate 5 exact rfl)) | ((with_reducible apply ai_x); (iterate 5 exact rfl)) | ((with_reducible apply ai_n); (iterate 4 exact rfl))) | ((with_reducible apply rd_id); first | (apply Rd.old; (first | exact hW.d0 | exact hW.d1 | exact hW.d2 | exact hW.d3 | exact hW.t0 | exact hW.o0 | exact hW.f0 | exact hW.m0 | exact e0 | exact e1 | exact e2); first | exact hW.nD | exact hW.nT | exact hW.nO | exact hW.nF | exact hW.nM | exact hnx) | (apply Rd.own; (repeat (first | exact P0 | apply P1 | apply PA)); exact rfl; done)) | ((with_reducible apply t_id); first | (apply t_mix (id := 11) [0, 1, 2, 3, 4, 6, 7, 8, 9, 10, 11] 4 #[false, false, false, false, false, false, false, false, false, false, false, false, false, false, true]; kernel_rfl; kernel_rfl; exact rfl) | (with_reducible apply t_seq) | (apply t_region; kernel_rfl) | ((with_reducible apply t_condT); exact rfl) | (with_reducible apply t_ret)) | with_reducible apply q_thenN | with_reducible apply q_thenR | with_reducible apply q_blockR | exact Rdn.zero | apply Rdn.succ | ((with_reducible apply Norm.nil); exact rfl) | ((with_reducible apply Norm.cons); exact rfl) | (with_reducible apply end_ret) | exact rvs_nil | (with_reducible apply rvs_cons) | ((with_reducible apply rv_tmp); exact rfl) | ((with_reducible apply al_id); first | (apply al_done; decide +kernel) | (apply al_one 5; decide +kernel) | (apply al_one 12; decide +kernel) | (apply al_one 13; decide +kernel) | (apply al_one 14; decide +kernel) | (apply al_two 5 12; decide +kernel)) | (intro gL cL; refine al_keep ?_ ?_; focus (repeat (first | exact HpSub.refl _ | apply HpSub.skipX))) | exact Nat.le_of_ble_eq_true rfl | exact (rfl : (_ : Bool) = true) | (intro _; with_reducible apply al_id))
      all_goals exact ⟨_, ⟨R5, hok5, rfl, (by rw [hcs5]; exact hset rs), rfl⟩, HpSub.w hp_left⟩
    · repeat' (first | ((with_reducible apply oq_id); first | ((with_reducible apply oq_addE (k := ((k + 1 : Nat) : Int))); exact rfl; exact rfl; omega) | (apply oq_fn; exact rfl; try first | exact trivial | (and_intros <;> omega)) | ((with_reducible apply oq_load); exact rfl; exact rfl) | ((with_reducible apply oq_build); (iterate 3 exact rfl))) | ((with_reducible apply tl_id); first | (with_reducible apply tl_nil) | ((with_reducible apply u_q); (iterate 4 exact rfl))) | ((with_reducible apply gx_id); first | (with_reducible apply v_nil) | ((with_reducible apply v_q); (iterate 3 exact rfl))) | ((with_reducible apply os_append (hk := app_ok75)); exact rfl; exact rfl; (repeat (first | exact P0 | apply P1 | apply PA))) | ((with_reducible apply ox_buildSlice); (iterate 4 exact rfl)) | ((with_reducible apply ai_id); first | ((with_reducible apply ai_s); (iterate 5 exact rfl); (with_reducible apply os_callM (G := outH g m R4) (PV := TryP g m (cs.set trip (cur' ++ [(k : Int)])) trip (some rs)) (k := 88) (hc := Try.call88)); exact rfl; exact rfl; (first | exact hp_comm [_, _] _ | exact hp_comm [_, _, _] _ | exact hp_comm [_, _, _, _] _); exact fun D w1 hw1 hw2 => hih (some ⟨gL, 0, none⟩) cL w1 (Blk.rows (rows := (l ++ [(⟨(k : Int), x.fr, x.to⟩ : Sh)]).map shCells) (by rw [e2]; exact (hw1.blk _ (Pick.mem (by (repeat (first | exact P0 | apply P1 | apply PA))))).2) (by simp <;> omega) (sh_len _)) (fun h => by cases h) (fun _ b o hb => by cases hb; first | exact Has.off2 (X := [_, _]) hw1 (by simp) | exact Has.off2 (X := [_, _, _]) hw1 (by simp) | exact Has.off2 (X := [_, _, _, _]) hw1 (by simp)) (hW.next (by omega) hw1 (fun b hb => by first | exact mem_fst (X := [_, _]) hb | exact mem_fst (X := [_, _, _]) hb | exact mem_fst (X := [_, _, _, _]) hb)) hw2; rintro v H1 ⟨R5, hok5, rfl, hcs5, rfl⟩; (simp only [Option.isSome_some, Option.isSome_none])) | ((with_reducible apply ai_n); (iterate 4 exact rfl); (with_reducible apply os_callF (PV := OwnS (shB l) n) (k := 89) (hc := Try.call89)); exact rfl; exact rfl; exact fun D w1 hw1 => cloneO bA oA qA n c l w1 (hr.extM hw1.ext hAm) (by omega); rintro v H' ⟨gC, cC, rfl, rfl⟩; (try simp only [List.cons_append, List.nil_append])) | ((with_reducible apply ai_x); (iterate 5 exact rfl)) | ((with_reducible apply ai_n); (iterate 4 exact rfl))) | ((with_reducible apply al_keep); focus (repeat (first | exact HpSub.refl _ | (apply HpSub.cons; (repeat (first | exact P0 | apply P1 | apply PA))) | apply HpSub.skipX | exact HpSub.nil))) | ((with_reducible apply rd_id); first | (apply Rd.old; (first | exact hW.d0 | exact hW.d1 | exact hW.d2 | exact hW.d3 | exact hW.t0 | exact hW.o0 | exact hW.f0 | exact hW.m0 | exact e0 | exact e1 | exact e2); first | exact hW.nD | exact hW.nT | exact hW.nO | exact hW.nF | exact hW.nM | exact hnx) | (apply Rd.own; (repeat (first | exact P0 | apply P1 | apply PA)); exact rfl; done)) | ((with_reducible apply t_id); first | (apply t_mix (id := 11) [0, 1, 2, 3, 4, 6, 7, 8, 9, 10, 11] 4 #[false, false, false, false, false, false, false, false, false, false, false, false, false, false, true]; kernel_rfl; kernel_rfl; exact rfl) | (with_reducible apply t_seq) | (apply t_region; kernel_rfl) | ((with_reducible apply t_condT); exact rfl) | (with_reducible apply t_ret)) | with_reducible apply q_thenN | with_reducible apply q_thenR | with_reducible apply q_blockR | exact Rdn.zero | apply Rdn.succ | ((with_reducible apply Norm.nil); exact rfl) | ((with_reducible apply Norm.cons); exact rfl) | (with_reducible apply end_ret) | exact rvs_nil | (with_reducible apply rvs_cons) | ((with_reducible apply rv_tmp); exact rfl) | ((with_reducible apply al_id); first | (apply al_done; decide +kernel) | (apply al_one 5; decide +kernel) | (apply al_one 12; decide +kernel) | (apply al_one 13; decide +kernel) | (apply al_one 14; decide +kernel) | (apply al_two 5 12; decide +kernel)) | exact hfl | (intro gL cL; refine al_keep ?_ ?_; focus (repeat (first | exact HpSub.refl _ | apply HpSub.skipX))) | exact Nat.le_of_ble_eq_true rfl | exact (rfl : (_ : Bool) = true) | omega | (intro _; with_reducible apply al_id))
      all_goals exact ⟨_, ⟨R5, hok5, rfl, (by rw [hcs5]; exact hset rs), rfl⟩, HpSub.w hp_left⟩
  | none =>
    simp only at hgo
    refine t_cut (ι := List Row) (fun _ => [(0, .int .i64 (trip : Nat)), (1, .int .i64 (k : Nat)), (2, .slice A n c), (3, .pointer (some ⟨bD, 0, none⟩)), (4, .pointer (some ⟨bT, 0, none⟩)), (5, .pointer (some ⟨bO, 0, none⟩)), (6, .pointer (some ⟨bF, 0, none⟩)), (7, .pointer (some ⟨bM, 0, none⟩)), (12, .pointer (some ⟨b12, 0, none⟩))]) (fun R5 => (b12, [.int .i64 x.fr, .int .i64 x.to, .int .i64 x.crew], some (114, 3, 1)) :: outH g m R5) (fun R5 => R5.map Prod.fst = cs.set trip (cur' ++ [(k : Int)]) ∧ ∀ r ∈ R5, LrOk r) ?_ ?_
    · rcases A with _ | ⟨bA, oA, qA⟩
      · obtain ⟨rfl, rfl⟩ := hA rfl
        have hl0 : l = [] := List.length_eq_zero_iff.1 hl
        subst hl0
        repeat' (first | ((with_reducible apply oq_id); first | ((with_reducible apply oq_addE (k := ((k + 1 : Nat) : Int))); exact rfl; exact rfl; omega) | (apply oq_fn; exact rfl; try first | exact trivial | (and_intros <;> omega)) | ((with_reducible apply oq_load); exact rfl; exact rfl) | ((with_reducible apply oq_call (k := 89) (hc := Try.call89)); exact rfl; exact rfl; exact fun D w1 hw1 => cloneN w1) | ((with_reducible apply oq_build); (iterate 3 exact rfl))) | ((with_reducible apply gx_id); first | (with_reducible apply v_nil) | ((with_reducible apply v_q); (iterate 3 exact rfl))) | ((with_reducible apply os_appendNil (hk := app_ok75)); exact rfl; exact rfl) | ((with_reducible apply ox_buildSlice); (iterate 4 exact rfl)) | ((with_reducible apply ai_id); first | ((with_reducible apply ai_s); (iterate 5 exact rfl); (with_reducible apply os_callM (G := outH g m R4) (PV := TryP g m (cs.set trip (cur' ++ [(k : Int)])) trip none) (k := 88) (hc := Try.call88)); exact rfl; exact rfl; (first | exact hp_comm [_, _] _ | exact hp_comm [_, _, _] _ | exact hp_comm [_, _, _, _] _); exact fun D w1 hw1 hw2 => hih (some ⟨gL, 0, none⟩) cL w1 (Blk.rows (rows := ([] ++ [(⟨(k : Int), x.fr, x.to⟩ : Sh)]).map shCells) (by rw [e2]; exact (hw1.blk _ (Pick.mem (by (repeat (first | exact P0 | apply P1 | apply PA))))).2) (by simp <;> omega) (sh_len _)) (fun h => by cases h) (fun _ b o hb => by cases hb; first | exact Has.off2 (X := [_, _]) hw1 (by simp) | exact Has.off2 (X := [_, _, _]) hw1 (by simp) | exact Has.off2 (X := [_, _, _, _]) hw1 (by simp)) (hW.next (by omega) hw1 (fun b hb => by first | exact mem_fst (X := [_, _]) hb | exact mem_fst (X := [_, _, _]) hb | exact mem_fst (X := [_, _, _, _]) hb)) hw2; rintro v H1 ⟨R5, hok5, rfl, hcs5, rfl⟩; (simp only [Option.isSome_some, Option.isSome_none])) | ((with_reducible apply ai_q); (iterate 5 exact rfl)) | ((with_reducible apply ai_x); (iterate 5 exact rfl)) | ((with_reducible apply ai_n); (iterate 4 exact rfl))) | ((with_reducible apply rd_id); first | (apply Rd.old; (first | exact hW.d0 | exact hW.d1 | exact hW.d2 | exact hW.d3 | exact hW.t0 | exact hW.o0 | exact hW.f0 | exact hW.m0 | exact e0 | exact e1 | exact e2); first | exact hW.nD | exact hW.nT | exact hW.nO | exact hW.nF | exact hW.nM | exact hnx) | (apply Rd.own; (repeat (first | exact P0 | apply P1 | apply PA)); exact rfl; done)) | ((with_reducible apply t_id); first | (apply t_mix (id := 11) [0, 1, 2, 3, 4, 6, 7, 8, 9, 10, 11] 4 #[false, false, false, false, false, false, false, false, false, false, false, false, false, false, true]; kernel_rfl; kernel_rfl; exact rfl) | (with_reducible apply t_seq) | ((with_reducible apply t_condF); exact rfl) | (with_reducible apply t_skip)) | with_reducible apply q_thenN | exact Rdn.zero | apply Rdn.succ | ((with_reducible apply Norm.nil); exact rfl) | ((with_reducible apply Norm.cons); exact rfl) | ((with_reducible apply al_id); first | (apply al_done; decide +kernel) | (apply al_one 5; decide +kernel) | (apply al_one 12; decide +kernel) | (apply al_one 13; decide +kernel) | (apply al_one 14; decide +kernel) | (apply al_two 5 12; decide +kernel)) | (intro gL cL; refine al_keep ?_ ?_; focus (repeat (first | exact HpSub.refl _ | apply HpSub.skipX))) | exact Nat.le_of_ble_eq_true rfl | exact (rfl : (_ : Bool) = true) | (intro _; with_reducible apply al_id))
        all_goals exact ⟨rfl, R5, ⟨hcs5, hok5⟩, by (repeat (first | exact FrSub.nil | (apply FrSub.cons; exact rfl))), by first | exact hp_last2 | exact hp_last3 | exact hp_last4⟩
      · repeat' (first | ((with_reducible apply oq_id); first | ((with_reducible apply oq_addE (k := ((k + 1 : Nat) : Int))); exact rfl; exact rfl; omega) | (apply oq_fn; exact rfl; try first | exact trivial | (and_intros <;> omega)) | ((with_reducible apply oq_load); exact rfl; exact rfl) | ((with_reducible apply oq_build); (iterate 3 exact rfl))) | ((with_reducible apply gx_id); first | (with_reducible apply v_nil) | ((with_reducible apply v_q); (iterate 3 exact rfl))) | ((with_reducible apply os_append (hk := app_ok75)); exact rfl; exact rfl; (repeat (first | exact P0 | apply P1 | apply PA))) | ((with_reducible apply ox_buildSlice); (iterate 4 exact rfl)) | ((with_reducible apply ai_id); first | ((with_reducible apply ai_s); (iterate 5 exact rfl); (with_reducible apply os_callM (G := outH g m R4) (PV := TryP g m (cs.set trip (cur' ++ [(k : Int)])) trip none) (k := 88) (hc := Try.call88)); exact rfl; exact rfl; (first | exact hp_comm [_, _] _ | exact hp_comm [_, _, _] _ | exact hp_comm [_, _, _, _] _); exact fun D w1 hw1 hw2 => hih (some ⟨gL, 0, none⟩) cL w1 (Blk.rows (rows := (l ++ [(⟨(k : Int), x.fr, x.to⟩ : Sh)]).map shCells) (by rw [e2]; exact (hw1.blk _ (Pick.mem (by (repeat (first | exact P0 | apply P1 | apply PA))))).2) (by simp <;> omega) (sh_len _)) (fun h => by cases h) (fun _ b o hb => by cases hb; first | exact Has.off2 (X := [_, _]) hw1 (by simp) | exact Has.off2 (X := [_, _, _]) hw1 (by simp) | exact Has.off2 (X := [_, _, _, _]) hw1 (by simp)) (hW.next (by omega) hw1 (fun b hb => by first | exact mem_fst (X := [_, _]) hb | exact mem_fst (X := [_, _, _]) hb | exact mem_fst (X := [_, _, _, _]) hb)) hw2; rintro v H1 ⟨R5, hok5, rfl, hcs5, rfl⟩; (simp only [Option.isSome_some, Option.isSome_none])) | ((with_reducible apply ai_n); (iterate 4 exact rfl); (with_reducible apply os_callF (PV := OwnS (shB l) n) (k := 89) (hc := Try.call89)); exact rfl; exact rfl; exact fun D w1 hw1 => cloneO bA oA qA n c l w1 (hr.extM hw1.ext hAm) (by omega); rintro v H' ⟨gC, cC, rfl, rfl⟩; (try simp only [List.cons_append, List.nil_append])) | ((with_reducible apply ai_x); (iterate 5 exact rfl)) | ((with_reducible apply ai_n); (iterate 4 exact rfl))) | ((with_reducible apply al_keep); focus (repeat (first | exact HpSub.refl _ | (apply HpSub.cons; (repeat (first | exact P0 | apply P1 | apply PA))) | apply HpSub.skipX | exact HpSub.nil))) | ((with_reducible apply rd_id); first | (apply Rd.old; (first | exact hW.d0 | exact hW.d1 | exact hW.d2 | exact hW.d3 | exact hW.t0 | exact hW.o0 | exact hW.f0 | exact hW.m0 | exact e0 | exact e1 | exact e2); first | exact hW.nD | exact hW.nT | exact hW.nO | exact hW.nF | exact hW.nM | exact hnx) | (apply Rd.own; (repeat (first | exact P0 | apply P1 | apply PA)); exact rfl; done)) | ((with_reducible apply t_id); first | (apply t_mix (id := 11) [0, 1, 2, 3, 4, 6, 7, 8, 9, 10, 11] 4 #[false, false, false, false, false, false, false, false, false, false, false, false, false, false, true]; kernel_rfl; kernel_rfl; exact rfl) | (with_reducible apply t_seq) | ((with_reducible apply t_condF); exact rfl) | (with_reducible apply t_skip)) | with_reducible apply q_thenN | exact Rdn.zero | apply Rdn.succ | ((with_reducible apply Norm.nil); exact rfl) | ((with_reducible apply Norm.cons); exact rfl) | ((with_reducible apply al_id); first | (apply al_done; decide +kernel) | (apply al_one 5; decide +kernel) | (apply al_one 12; decide +kernel) | (apply al_one 13; decide +kernel) | (apply al_one 14; decide +kernel) | (apply al_two 5 12; decide +kernel)) | exact hfl | (intro gL cL; refine al_keep ?_ ?_; focus (repeat (first | exact HpSub.refl _ | apply HpSub.skipX))) | exact Nat.le_of_ble_eq_true rfl | exact (rfl : (_ : Bool) = true) | omega | (intro _; with_reducible apply al_id))
        all_goals exact ⟨rfl, R5, ⟨hcs5, hok5⟩, by (repeat (first | exact FrSub.nil | (apply FrSub.cons; exact rfl))), by first | exact hp_last2 | exact hp_last3 | exact hp_last4⟩
    rintro R5 ⟨hcs5, hok5⟩
    try dsimp only
    clear hrow hcur4 hrest4 hg4 hok4 hcs4 hR4l hih hR4 R4 hRe hR1 hA1 hro R1 R2 o hcN
    obtain ⟨o5, R51, R52, hRe5, hR15⟩ : ∃ o R1 R2, R5 = R1 ++ (cur' ++ [(k : Int)], o) :: R2 ∧ R1.length = trip := by
      have h1 : (R5.map Prod.fst)[trip]? = some (cur' ++ [(k : Int)]) := by rw [hcs5, List.getElem?_set, if_pos rfl, if_pos (by omega)]
      rw [List.getElem?_map] at h1
      obtain ⟨⟨c', o'⟩, h2, h3⟩ := Option.map_eq_some_iff.1 h1
      simp only at h3
      subst h3
      obtain ⟨R1, R2, h4, h5⟩ := row_split h2
      exact ⟨o', R1, R2, h4, h5⟩
    have hro5 := hok5 (cur' ++ [(k : Int)], o5) (by rw [hRe5]; simp)
    unfold LrOk at hro5
    simp only [hll] at hro5
    rcases o5 with _ | ⟨g5, c5⟩
    · have := hro5.1 rfl
      omega
    have hA1 : (R51.map rwV).length = trip := by rw [List.length_map, hR15]
    have hcap : cur'.length ≤ c5 := by have := hro5.2; simp only [clC] at this; omega
    have hnn : (some ⟨g5, 0, none⟩ : Option Addr) = none → (cur' ++ [(k : Int)]).length = 0 ∧ c5 = 0 := fun h => by cases h
    obtain ⟨R6, hR6⟩ : ∃ R, R51 ++ (cur', some (g5, c5)) :: R52 = R := ⟨_, rfl⟩
    have hcs6 : R6.map Prod.fst = cs := by
      have h1 : (R51.map Prod.fst ++ (cur' ++ [(k : Int)]) :: R52.map Prod.fst) = cs.set trip (cur' ++ [(k : Int)]) := by rw [← hcs5, hRe5]; simp
      have h2 := congrArg (fun z => z.set trip cur') h1
      simp only [List.set_set] at h2
      rw [← hR6, List.map_append, List.map_cons]
      have hl1 : (R51.map Prod.fst).length = trip := by rw [List.length_map, hR15]
      rw [List.set_append_right _ _ (by omega), hl1, Nat.sub_self, List.set_cons_zero] at h2
      rw [h2]
      exact List.ext_getElem? fun j => by
        by_cases hj : trip = j
        · subst hj; rw [List.getElem?_set, if_pos rfl, if_pos (by omega), hct]
        · rw [List.getElem?_set_ne hj]
    have hok6 : ∀ r ∈ R6, LrOk r := fun r hr => by
      rw [← hR6] at hr
      rcases List.mem_append.1 hr with hr | hr
      · exact hok5 r (by rw [hRe5]; exact List.mem_append_left _ hr)
      · rcases List.mem_cons.1 hr with rfl | hr
        · exact ⟨(fun h => by cases h), hcap⟩
        · exact hok5 r (by rw [hRe5]; exact List.mem_append_right _ (List.mem_cons_of_mem _ hr))
    refine t_subW (HpSub.front (by rw [hRe5]; exact out_to0 g m R51 (cur' ++ [(k : Int)], some (g5, c5)) R52)).w ?_
    unfold outR rowH
    rw [rowV_mk]
    simp only [clA, clC, clH, List.cons_append, List.nil_append]
    refine t_endW ?_
    repeat' (first | ((with_reducible apply oq_id); first | (focus ((with_reducible apply oq_indexAddrN); (iterate 4 exact rfl); omega)) | ((with_reducible apply oq_subE (k := ((cur'.length : Nat) : Int))); exact rfl; exact rfl; omega) | (focus ((with_reducible apply (oq_sliceHG (h := cur'.length) hnn)); (iterate 4 exact rfl); exact hcap)) | (apply oq_fn; exact rfl; try first | exact trivial | (and_intros <;> omega)) | ((with_reducible apply oq_load); exact rfl; exact rfl)) | ((with_reducible apply gx_id); first | (with_reducible apply v_nil) | ((with_reducible apply v_q); (iterate 3 exact rfl))) | ((with_reducible apply (os_storeV hA1)); (iterate 4 exact rfl); (repeat (first | exact P0 | apply P1 | apply PA))) | ((with_reducible apply ai_s0); (iterate 4 exact rfl)) | ((with_reducible apply rd_id); first | (apply Rd.old; (first | exact hW.d0 | exact hW.d1 | exact hW.d2 | exact hW.d3 | exact hW.t0 | exact hW.o0 | exact hW.f0 | exact hW.m0 | exact e0 | exact e1 | exact e2); first | exact hW.nD | exact hW.nT | exact hW.nO | exact hW.nF | exact hW.nM | exact hnx) | (apply Rd.own; (repeat (first | exact P0 | apply P1 | apply PA)); exact rwV_at hA1; done)) | ((with_reducible apply t_id); first | (apply t_mix (id := 13) [0, 1, 2, 3, 4, 5, 6, 7, 8, 9, 10, 11, 12, 13] 1 #[false, false, false, false, false, false, false, false, false, false, false, false, false, false, true]; kernel_rfl; kernel_rfl; exact rfl)) | ((with_reducible apply al_id); first | (apply al_done; decide +kernel) | (apply al_one 14; decide +kernel)))
    all_goals (refine ⟨rfl, [(0, .int .i64 (trip : Nat)), (1, .int .i64 (k : Nat)), (2, .slice A n c), (3, .pointer (some ⟨bD, 0, none⟩)), (4, .pointer (some ⟨bT, 0, none⟩)), (5, .pointer (some ⟨bO, 0, none⟩)), (6, .pointer (some ⟨bF, 0, none⟩)), (7, .pointer (some ⟨bM, 0, none⟩)), (12, .pointer (some ⟨b12, 0, none⟩))], (b12, [.int .i64 x.fr, .int .i64 x.to, .int .i64 x.crew], some (114, 3, 1)) :: outH g m R6, by (repeat (first | exact FrSub.nil | (apply FrSub.cons; exact rfl))), ?_, ?_⟩)
    · refine HpW.trans (HpSub.w (show HpSub _ ((g5, cur'.map iv ++ [iv (k : Int)], some (3, 1, c5)) :: (b12, [.int .i64 x.fr, .int .i64 x.to, .int .i64 x.crew], some (114, 3, 1)) :: (g, R51.map rwV ++ rwV (cur', some (g5, c5)) :: R52.map rwV, some (41, 1, m)) :: (rwsH R51 ++ rwsH R52)) from ?_)) (HpW.trans HpW.pre (HpSub.w ?_))
      · (repeat (first | exact HpSub.refl _ | (apply HpSub.consE; (repeat (first | exact P0 | apply P1 | apply PA)); first | exact rfl | (focus (simp [iv]; done)) | (focus (rw [rowV_mk]; simp [clA, clC]; done))) | apply hp_kA | apply HpSub.skipX | apply hp_skA | exact HpSub.nil))
      · rw [← hR6]
        exact HpSub.cons (Pick.tail (Pick.head _ _ _ _)) (out_of0 g m R51 (cur', some (g5, c5)) R52)
    · repeat' (first | ((with_reducible apply oq_id); first | ((with_reducible apply oq_addE (k := ((k + 1 : Nat) : Int))); exact rfl; exact rfl; omega) | (apply oq_fn; exact rfl; try first | exact trivial | (and_intros <;> omega))) | ((with_reducible apply tl_id); first | (with_reducible apply tl_nil) | ((with_reducible apply u_q); (iterate 4 exact rfl))) | ((with_reducible apply t_id); first | (apply t_region; kernel_rfl)) | with_reducible apply q_thenN | with_reducible apply q_blockN)
      all_goals (refine ⟨(k + 1, R6), ⟨(by simp only; omega), .inl (by simp only; omega), hcs6, hok6, hgo⟩, (by simp only; omega), ?_, ?_⟩)
      all_goals first
        | ((try simp only [List.cons_append, List.nil_append]); (repeat (first | exact FrSub.nil | (apply FrSub.cons; exact rfl))); done)
        | ((try simp only [List.cons_append, List.nil_append]); (try simp only [List.append_nil]); (repeat (first | exact HpSub.refl _ | (apply HpSub.consE; (repeat (first | exact P0 | apply P1 | apply PA)); exact rfl) | apply hp_kA | apply HpSub.skipX | apply hp_skA | exact HpSub.nil)); done)
end Go.Proofs.Ytmlmgipngbndgaa
